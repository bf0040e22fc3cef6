import Ieee.Arith
namespace FP
def INF : Nat := 9218868437227405312
def S63 : Nat := 9223372036854775808
def mg (r : Nat) : Nat := if r < 4503599627370496 then r else 4503599627370496 + r % 4503599627370496
def ex (r : Nat) : Nat := if r < 4503599627370496 then 0 else r / 4503599627370496 - 1
def Wt (r : Nat) : Nat := mg r * 2 ^ ex r
theorem Wt_mono {r s : Nat} (h : r < s) : Wt r < Wt s := by
  unfold Wt mg ex
  by_cases hr : r < 4503599627370496
  · rw [if_pos hr, if_pos hr]
    by_cases hs : s < 4503599627370496
    · rw [if_pos hs, if_pos hs]; simpa using h
    · rw [if_neg hs, if_neg hs]
      have : 0 < 2 ^ (s / 4503599627370496 - 1) := Nat.two_pow_pos _
      have h2 : (4503599627370496 + s % 4503599627370496) * 1 ≤ (4503599627370496 + s % 4503599627370496) * 2 ^ (s / 4503599627370496 - 1) := Nat.mul_le_mul_left _ this
      omega
  · have hs : ¬ s < 4503599627370496 := by omega
    rw [if_neg hr, if_neg hr, if_neg hs, if_neg hs]
    have hq : r / 4503599627370496 ≤ s / 4503599627370496 := Nat.div_le_div_right (Nat.le_of_lt h)
    have hr1 : r % 4503599627370496 < 4503599627370496 := Nat.mod_lt _ (by omega)
    rcases Nat.eq_or_lt_of_le hq with hq | hq
    · rw [hq]
      exact Nat.mul_lt_mul_of_pos_right (by omega) (Nat.two_pow_pos _)
    · have hq1 : 1 ≤ r / 4503599627370496 := by omega
      have e1 : (4503599627370496 + r % 4503599627370496) * 2 ^ (r / 4503599627370496 - 1) < (4503599627370496 * 2) * 2 ^ (r / 4503599627370496 - 1) :=
        Nat.mul_lt_mul_of_pos_right (by omega) (Nat.two_pow_pos _)
      have e2 : (4503599627370496 * 2) * 2 ^ (r / 4503599627370496 - 1) = 4503599627370496 * 2 ^ (r / 4503599627370496) := by
        rw [Nat.mul_assoc, ← Nat.pow_succ']
        congr 2
        omega
      have e3 : 4503599627370496 * 2 ^ (r / 4503599627370496) ≤ 4503599627370496 * 2 ^ (s / 4503599627370496 - 1) :=
        Nat.mul_le_mul_left _ (Nat.pow_le_pow_right (by omega) (by omega))
      have e4 : 4503599627370496 * 2 ^ (s / 4503599627370496 - 1) ≤ (4503599627370496 + s % 4503599627370496) * 2 ^ (s / 4503599627370496 - 1) :=
        Nat.mul_le_mul_right _ (by omega)
      omega
theorem read_fin (x : Nat) (hx : x < 18446744073709551616) (h : x % 9223372036854775808 < 9218868437227405312) :
    Ieee.double.read x = .number (decide (9223372036854775808 ≤ x)) (mg (x % 9223372036854775808)) (-1074 + (ex (x % 9223372036854775808) : Int)) := by
  have e1 : Ieee.double.signWeight = 9223372036854775808 := rfl
  have e2 : Ieee.double.binade = 4503599627370496 := rfl
  have e3 : Ieee.double.infRung = 9218868437227405312 := by decide
  have e4 : Ieee.double.leastPlace = -1074 := by decide
  have hn : (x / 9223372036854775808 % 2 == 1) = decide (9223372036854775808 ≤ x) := by
    rw [Bool.eq_iff_iff, beq_iff_eq, decide_eq_true_iff]; omega
  unfold Ieee.Format.read
  rw [e1, e2, e3, e4]
  simp only [hn]
  unfold mg ex
  by_cases hr : x % 9223372036854775808 < 4503599627370496
  · rw [if_pos hr, if_pos hr, if_pos hr]; rfl
  · rw [if_neg hr, if_pos h, if_neg hr, if_neg hr]
theorem read_inf (x : Nat) (hx : x < 18446744073709551616) (h : x % 9223372036854775808 = 9218868437227405312) :
    Ieee.double.read x = .infinity (decide (9223372036854775808 ≤ x)) := by
  have e1 : Ieee.double.signWeight = 9223372036854775808 := rfl
  have e2 : Ieee.double.binade = 4503599627370496 := rfl
  have e3 : Ieee.double.infRung = 9218868437227405312 := by decide
  have hn : (x / 9223372036854775808 % 2 == 1) = decide (9223372036854775808 ≤ x) := by
    rw [Bool.eq_iff_iff, beq_iff_eq, decide_eq_true_iff]; omega
  unfold Ieee.Format.read
  rw [e1, e2, e3]
  simp only [hn]
  rw [if_neg (by omega), if_neg (by omega), if_pos h]
theorem read_nan (x : Nat) (h : 9218868437227405312 < x % 9223372036854775808) :
    ∃ s t, Ieee.double.read x = .nan s t := by
  have e1 : Ieee.double.signWeight = 9223372036854775808 := rfl
  have e2 : Ieee.double.binade = 4503599627370496 := rfl
  have e3 : Ieee.double.infRung = 9218868437227405312 := by decide
  unfold Ieee.Format.read
  rw [e1, e2, e3]
  simp only []
  rw [if_neg (by omega), if_neg (by omega), if_neg (by omega)]
  exact ⟨_, _, rfl⟩
/-- A float's place on the line of numbers: its rung, with its sign. -/
def val (b : Nat) : Int := if b < 9223372036854775808 then (b : Int) else 9223372036854775808 - (b : Int)
theorem cmp_int (a b : Int) : compare a b = if a < b then .lt else if a = b then .eq else .gt := rfl
theorem cmp_scale (a b : Int) (k : Nat) : compare (a * 2 ^ k) (b * 2 ^ k) = compare a b := by
  have hk : (0 : Int) < 2 ^ k := Int.pow_pos (by decide)
  rw [cmp_int, cmp_int]
  by_cases h : a < b
  · rw [if_pos h, if_pos (Int.mul_lt_mul_of_pos_right h hk)]
  · rw [if_neg h, if_neg (fun g => h (Int.lt_of_mul_lt_mul_right g (Int.le_of_lt hk)))]
    by_cases g : a = b
    · rw [if_pos g, if_pos (by rw [g])]
    · rw [if_neg g, if_neg (fun e => g (Int.eq_of_mul_eq_mul_right (by omega) e))]
theorem signed_eq (s : Bool) (m u : Nat) : Ieee.signed s m u = (if s then -1 else 1) * ((m : Int) * 2 ^ u) := by
  unfold Ieee.signed
  rw [Nat.shiftLeft_eq]
  cases s <;> simp
theorem order_fin (s t : Bool) (r q : Nat) :
    Ieee.Datum.order (.number s (mg r) (-1074 + (ex r : Int))) (.number t (mg q) (-1074 + (ex q : Int))) =
      some (compare ((if s then -1 else 1) * (Wt r : Int)) ((if t then -1 else 1) * (Wt q : Int))) := by
  have hb : min (-1074 + (ex r : Int)) (-1074 + (ex q : Int)) = -1074 + ((min (ex r) (ex q) : Nat) : Int) := by omega
  have h1 : (-1074 + (ex r : Int) - (-1074 + ((min (ex r) (ex q) : Nat) : Int))).toNat = ex r - min (ex r) (ex q) := by omega
  have h2 : (-1074 + (ex q : Int) - (-1074 + ((min (ex r) (ex q) : Nat) : Int))).toNat = ex q - min (ex r) (ex q) := by omega
  unfold Ieee.Datum.order
  simp only [hb, h1, h2, signed_eq]
  have k1 : ((Wt r : Nat) : Int) = (mg r : Int) * 2 ^ (ex r - min (ex r) (ex q)) * 2 ^ min (ex r) (ex q) := by
    unfold Wt
    rw [Int.mul_assoc, ← Int.pow_add, Nat.sub_add_cancel (Nat.min_le_left _ _)]
    simp
  have k2 : ((Wt q : Nat) : Int) = (mg q : Int) * 2 ^ (ex q - min (ex r) (ex q)) * 2 ^ min (ex r) (ex q) := by
    unfold Wt
    rw [Int.mul_assoc, ← Int.pow_add, Nat.sub_add_cancel (Nat.min_le_right _ _)]
    simp
  rw [k1, k2, ← cmp_scale _ _ (min (ex r) (ex q)), Int.mul_assoc (if s = true then -1 else 1), Int.mul_assoc (if t = true then -1 else 1)]
theorem Wt_zero : Wt 0 = 0 := rfl
theorem Wt_inj {r s : Nat} (h : Wt r = Wt s) : r = s := by
  rcases Nat.lt_trichotomy r s with g | g | g
  · have := Wt_mono g; omega
  · exact g
  · have := Wt_mono g; omega
theorem Wt_lt {r s : Nat} : Wt r < Wt s ↔ r < s := by
  constructor
  · intro h
    rcases Nat.lt_trichotomy r s with g | g | g
    · exact g
    · subst g; omega
    · have := Wt_mono g; omega
  · exact Wt_mono
theorem Wt_pos {r : Nat} (h : 0 < r) : 0 < Wt r := by have := Wt_mono h; rw [Wt_zero] at this; exact this
/-- Two numbers with their signs stand to each other as their rungs with theirs. -/
theorem cmp_sg (s t : Bool) (r q : Nat) : compare ((if s then -1 else 1) * (Wt r : Int)) ((if t then -1 else 1) * (Wt q : Int)) = compare ((if s then -1 else 1) * (r : Int)) ((if t then -1 else 1) * (q : Int)) := by
  have l1 : Wt r < Wt q ↔ r < q := Wt_lt
  have l2 : Wt q < Wt r ↔ q < r := Wt_lt
  have p1 : 0 < r → 0 < Wt r := Wt_pos
  have p2 : 0 < q → 0 < Wt q := Wt_pos
  have z1 : r = 0 → Wt r = 0 := fun h => by rw [h]; rfl
  have z2 : q = 0 → Wt q = 0 := fun h => by rw [h]; rfl
  rw [cmp_int, cmp_int]
  generalize Wt r = a at *
  generalize Wt q = b at *
  cases s <;> cases t <;> simp only [Bool.false_eq_true, if_true, if_false] <;> (repeat' split) <;> first | rfl | (exfalso; omega)
def fnan (b : Nat) : Bool := decide (9218868437227405312 < b % 9223372036854775808)
theorem val_eq (x : Nat) (hx : x < 18446744073709551616) : val x = (if decide (9223372036854775808 ≤ x) then -1 else 1) * ((x % 9223372036854775808 : Nat) : Int) := by
  unfold val
  by_cases h : x < 9223372036854775808
  · rw [if_pos h, decide_eq_false (by omega), if_neg (by simp)]; omega
  · rw [if_neg h, decide_eq_true (by omega), if_pos rfl]; omega
theorem order_val (x y : Nat) (hx : x < 18446744073709551616) (hy : y < 18446744073709551616) (nx : fnan x = false) (ny : fnan y = false) :
    Ieee.double.order x y = some (compare (val x) (val y)) := by
  unfold fnan at nx ny
  have nx := of_decide_eq_false nx
  have ny := of_decide_eq_false ny
  unfold Ieee.Format.order
  rw [val_eq x hx, val_eq y hy]
  by_cases fx : x % 9223372036854775808 < 9218868437227405312
  · rw [read_fin x hx fx]
    by_cases fy : y % 9223372036854775808 < 9218868437227405312
    · rw [read_fin y hy fy, order_fin, cmp_sg]
    · rw [read_inf y hy (by omega)]
      have e : y % 9223372036854775808 = 9218868437227405312 := by omega
      rw [e]
      have h0 : (0 : Int) ≤ ((x % 9223372036854775808 : Nat) : Int) := by omega
      have h1 : ((x % 9223372036854775808 : Nat) : Int) < ((9218868437227405312 : Nat) : Int) := by omega
      generalize ((9218868437227405312 : Nat) : Int) = I at h1 ⊢
      generalize mg (x % 9223372036854775808) = m
      generalize ex (x % 9223372036854775808) = n
      generalize ((x % 9223372036854775808 : Nat) : Int) = r at h0 h1 ⊢
      generalize decide (9223372036854775808 ≤ x) = s
      generalize decide (9223372036854775808 ≤ y) = t
      rw [cmp_int]
      cases s <;> cases t <;> simp only [Ieee.Datum.order, Bool.false_eq_true, if_true, if_false] <;> (congr 1) <;> (repeat' split) <;> first | rfl | (exfalso; omega)
  · rw [read_inf x hx (by omega)]
    have e : x % 9223372036854775808 = 9218868437227405312 := by omega
    rw [e]
    by_cases fy : y % 9223372036854775808 < 9218868437227405312
    · rw [read_fin y hy fy]
      have h0 : (0 : Int) ≤ ((y % 9223372036854775808 : Nat) : Int) := by omega
      have h1 : ((y % 9223372036854775808 : Nat) : Int) < ((9218868437227405312 : Nat) : Int) := by omega
      generalize ((9218868437227405312 : Nat) : Int) = I at h1 ⊢
      generalize mg (y % 9223372036854775808) = m
      generalize ex (y % 9223372036854775808) = n
      generalize ((y % 9223372036854775808 : Nat) : Int) = r at h0 h1 ⊢
      generalize decide (9223372036854775808 ≤ x) = s
      generalize decide (9223372036854775808 ≤ y) = t
      rw [cmp_int]
      cases s <;> cases t <;> simp only [Ieee.Datum.order, Bool.false_eq_true, if_true, if_false] <;> (congr 1) <;> (repeat' split) <;> first | rfl | (exfalso; omega)
    · rw [read_inf y hy (by omega)]
      have e' : y % 9223372036854775808 = 9218868437227405312 := by omega
      rw [e']
      generalize decide (9223372036854775808 ≤ x) = s
      generalize decide (9223372036854775808 ≤ y) = t
      have hI : (0 : Int) < ((9218868437227405312 : Nat) : Int) := by omega
      generalize ((9218868437227405312 : Nat) : Int) = I at hI ⊢
      rw [cmp_int]
      cases s <;> cases t <;> simp only [Ieee.Datum.order, Bool.false_eq_true, if_true, if_false] <;> (congr 1) <;> (repeat' split) <;> first | rfl | (exfalso; omega)
theorem order_nan (x y : Nat) (h : fnan x = true ∨ fnan y = true) : Ieee.double.order x y = none := by
  unfold Ieee.Format.order
  rcases h with h | h
  · obtain ⟨s, t, e⟩ := read_nan x (of_decide_eq_true h)
    rw [e]
    cases Ieee.double.read y <;> rfl
  · obtain ⟨s, t, e⟩ := read_nan y (of_decide_eq_true h)
    rw [e]
    cases Ieee.double.read x <;> rfl
/-! ### As tests -/
theorem ne_self (b : Nat) (h : b < 18446744073709551616) : (Ieee.double.order b b != some .eq) = fnan b := by
  cases hn : fnan b
  · rw [order_val b b h h hn hn, cmp_int, if_neg (by omega), if_pos rfl]; rfl
  · rw [order_nan b b (.inl hn)]; rfl
theorem lt_val (x y : Nat) (hx : x < 18446744073709551616) (hy : y < 18446744073709551616) (nx : fnan x = false) (ny : fnan y = false) :
    (Ieee.double.order x y == some .lt) = decide (val x < val y) := by
  rw [order_val x y hx hy nx ny, cmp_int]
  by_cases h : val x < val y
  · rw [if_pos h, decide_eq_true h]; rfl
  · rw [if_neg h, decide_eq_false h]; split <;> rfl
theorem gt_val (x y : Nat) (hx : x < 18446744073709551616) (hy : y < 18446744073709551616) (nx : fnan x = false) (ny : fnan y = false) :
    (Ieee.double.order x y == some .gt) = decide (val y < val x) := by
  rw [order_val x y hx hy nx ny, cmp_int]
  by_cases h : val x < val y
  · rw [if_pos h, decide_eq_false (by omega)]; rfl
  · rw [if_neg h]
    by_cases g : val x = val y
    · rw [if_pos g, decide_eq_false (by omega)]; rfl
    · rw [if_neg g, decide_eq_true (by omega)]; rfl
theorem eq_val (x y : Nat) (hx : x < 18446744073709551616) (hy : y < 18446744073709551616) (nx : fnan x = false) (ny : fnan y = false) :
    (Ieee.double.order x y == some .eq) = decide (val x = val y) := by
  rw [order_val x y hx hy nx ny, cmp_int]
  by_cases h : val x < val y
  · rw [if_pos h, decide_eq_false (by omega)]; rfl
  · rw [if_neg h]
    by_cases g : val x = val y
    · rw [if_pos g, decide_eq_true g]; rfl
    · rw [if_neg g, decide_eq_false g]; rfl
theorem nan_tests (x y : Nat) (h : fnan x = true ∨ fnan y = true) : (Ieee.double.order x y == some .lt) = false ∧ (Ieee.double.order x y == some .gt) = false ∧ (Ieee.double.order x y == some .eq) = false := by
  rw [order_nan x y h]; exact ⟨rfl, rfl, rfl⟩
end FP
