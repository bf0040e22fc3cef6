import Derived.KernelRfl
/-! What a codec writes and reads, in plain lists of bytes. -/
namespace Cdc
/-- A number in so many bytes, the highest first. -/
def be : Nat → Nat → List UInt8
  | 0, _ => []
  | k + 1, n => UInt8.ofNat (n / 256 ^ k) :: be k n
theorem be_len (k n : Nat) : (be k n).length = k := by
  induction k with
  | zero => rfl
  | succ k ih => simp [be, ih]
def val (l : List UInt8) : Nat := l.foldl (fun v x => v * 256 + x.toNat) 0
theorem fold_val : ∀ (l : List UInt8) (a : Nat), l.foldl (fun v x => v * 256 + x.toNat) a = a * 256 ^ l.length + val l
  | [], a => by simp [val]
  | x :: l, a => by
    have h : val (x :: l) = x.toNat * 256 ^ l.length + val l := by
      show (x :: l).foldl _ 0 = _
      rw [List.foldl_cons, fold_val l (0 * 256 + x.toNat), Nat.zero_mul, Nat.zero_add]
    rw [List.foldl_cons, fold_val l (a * 256 + x.toNat), h, List.length_cons, Nat.pow_succ, Nat.add_mul, Nat.mul_assoc, Nat.mul_comm 256, Nat.add_assoc]
theorem val_cons (x : UInt8) (l : List UInt8) : val (x :: l) = x.toNat * 256 ^ l.length + val l := by
  show (x :: l).foldl _ 0 = _
  rw [List.foldl_cons, fold_val, Nat.zero_mul, Nat.zero_add]
theorem val_snoc (l : List UInt8) (x : UInt8) : val (l ++ [x]) = val l * 256 + x.toNat := by
  unfold val
  rw [List.foldl_append]; rfl
theorem val_lt : ∀ l : List UInt8, val l < 256 ^ l.length
  | [] => by simp [val]
  | x :: l => by
    have h := val_lt l
    have hx := x.toNat_lt
    rw [val_cons, List.length_cons, Nat.pow_succ]
    have : x.toNat * 256 ^ l.length ≤ 255 * 256 ^ l.length := Nat.mul_le_mul_right _ (by omega)
    omega
theorem toNat_ofNat_mod (n : Nat) : (UInt8.ofNat n).toNat = n % 256 := by rw [UInt8.toNat_ofNat']
theorem be_mod : ∀ (k n : Nat), be k n = be k (n % 256 ^ k)
  | 0, _ => rfl
  | k + 1, n => by
    have e1 : UInt8.ofNat (n / 256 ^ k) = UInt8.ofNat (n % 256 ^ (k + 1) / 256 ^ k) := by
      apply UInt8.toNat_inj.1
      rw [toNat_ofNat_mod, toNat_ofNat_mod, Nat.pow_succ, Nat.mod_mul_right_div_self, Nat.mod_mod]
    have e2 : be k n = be k (n % 256 ^ (k + 1)) := by
      rw [be_mod k n, be_mod k (n % 256 ^ (k + 1)), Nat.pow_succ, Nat.mod_mul_right_mod]
    show UInt8.ofNat (n / 256 ^ k) :: be k n = UInt8.ofNat (n % 256 ^ (k + 1) / 256 ^ k) :: be k (n % 256 ^ (k + 1))
    rw [e1, e2]
theorem val_be : ∀ (k n : Nat), n < 256 ^ k → val (be k n) = n
  | 0, n, h => by simp at h; subst h; rfl
  | k + 1, n, h => by
    rw [Nat.pow_succ] at h
    have hp : 0 < 256 ^ k := Nat.pow_pos (by omega)
    have hd : n / 256 ^ k < 256 := by rw [Nat.div_lt_iff_lt_mul hp]; omega
    show val (UInt8.ofNat (n / 256 ^ k) :: be k n) = n
    rw [val_cons, be_len, toNat_ofNat_mod, Nat.mod_eq_of_lt hd, be_mod, val_be k _ (Nat.mod_lt _ hp)]
    rw [Nat.mul_comm]; exact Nat.div_add_mod n (256 ^ k)
theorem be_val : ∀ l : List UInt8, be l.length (val l) = l
  | [] => rfl
  | x :: l => by
    have hp : 0 < 256 ^ l.length := Nat.pow_pos (by omega)
    have hlt := val_lt l
    show UInt8.ofNat (val (x :: l) / 256 ^ l.length) :: be l.length (val (x :: l)) = x :: l
    rw [val_cons]
    congr 1
    · rw [Nat.add_comm, Nat.add_mul_div_right _ _ hp, Nat.div_eq_of_lt hlt, Nat.zero_add]
      exact UInt8.toNat_inj.1 (by rw [toNat_ofNat_mod, Nat.mod_eq_of_lt x.toNat_lt])
    · rw [be_mod, Nat.add_comm, Nat.add_mul_mod_self_right, Nat.mod_eq_of_lt hlt, be_val l]
/-- The least number of bytes that a number fits into. -/
def wide (n : Nat) : Nat :=
  if n < 256 then 1 else if n < 65536 then 2 else if n < 16777216 then 3 else if n < 4294967296 then 4 else if n < 1099511627776 then 5 else if n < 281474976710656 then 6 else if n < 72057594037927936 then 7 else 8
theorem wide_pos (n : Nat) : 1 ≤ wide n ∧ wide n ≤ 8 := by unfold wide; (repeat' split) <;> omega
theorem wide_fits {n : Nat} (h : n < 18446744073709551616) : n < 256 ^ wide n := by
  unfold wide
  (repeat' split) <;> omega
def encN (n : Nat) : List UInt8 := if n < 128 then [UInt8.ofNat n] else UInt8.ofNat (128 + wide n) :: be (wide n) n
abbrev St := List UInt8 × Bool
abbrev failed : St := ([], true)
def fx (k : Nat) (s : St) : Nat × St := if s.2 = true ∨ s.1.length < k then (0, failed) else (val (s.1.take k), s.1.drop k, false)
def rdN (most : Nat) (s : St) : Nat × St :=
  if 128 ≤ (fx 1 s).1 then
    if (fx 1 s).1 - 128 < 1 ∨ 8 < (fx 1 s).1 - 128 then (0, failed)
    else if (fx ((fx 1 s).1 - 128) (fx 1 s).2).1 < 128 ∨ wide (fx ((fx 1 s).1 - 128) (fx 1 s).2).1 ≠ (fx 1 s).1 - 128 ∨ most < (fx ((fx 1 s).1 - 128) (fx 1 s).2).1 ∨ (fx ((fx 1 s).1 - 128) (fx 1 s).2).2.2 = true then (0, failed)
    else fx ((fx 1 s).1 - 128) (fx 1 s).2
  else if most < (fx 1 s).1 ∨ (fx 1 s).2.2 = true then (0, failed) else fx 1 s
theorem fx_ok {k : Nat} {xs : List UInt8} (h : k ≤ xs.length) : fx k (xs, false) = (val (xs.take k), xs.drop k, false) := by
  unfold fx; rw [if_neg (by simp; omega)]
theorem fx_app (xs r : List UInt8) : fx xs.length (xs ++ r, false) = (val xs, r, false) := by
  rw [fx_ok (by simp), List.take_left, List.drop_left]
theorem fx_bad {k : Nat} {s : St} (h : s.2 = true ∨ s.1.length < k) : fx k s = (0, failed) := if_pos h
theorem val_one (x : UInt8) : val [x] = x.toNat := by simp [val]
theorem rdN_enc {n most : Nat} (hn : n < 18446744073709551616) (hm : n ≤ most) (r : List UInt8) : rdN most (encN n ++ r, false) = (n, r, false) := by
  unfold encN
  by_cases h : n < 128
  · rw [if_pos h]
    have e1 : fx 1 ([UInt8.ofNat n] ++ r, false) = (n, r, false) := by
      rw [show (1 : Nat) = [UInt8.ofNat n].length from rfl, fx_app, val_one, toNat_ofNat_mod, Nat.mod_eq_of_lt (by omega)]
    unfold rdN
    rw [e1, if_neg (by show ¬ 128 ≤ n; omega), if_neg (by show ¬ (most < n ∨ false = true); simp; omega)]
  · rw [if_neg h]
    obtain ⟨w1, w8⟩ := wide_pos n
    have e1 : fx 1 (UInt8.ofNat (128 + wide n) :: be (wide n) n ++ r, false) = (128 + wide n, be (wide n) n ++ r, false) := by
      rw [show UInt8.ofNat (128 + wide n) :: be (wide n) n ++ r = [UInt8.ofNat (128 + wide n)] ++ (be (wide n) n ++ r) from rfl, show (1 : Nat) = [UInt8.ofNat (128 + wide n)].length from rfl, fx_app, val_one, toNat_ofNat_mod, Nat.mod_eq_of_lt (by omega)]
    have e2 : fx (wide n) (be (wide n) n ++ r, false) = (n, r, false) := by
      have := fx_app (be (wide n) n) r
      rw [be_len, val_be _ _ (wide_fits hn)] at this
      exact this
    unfold rdN
    rw [e1]
    simp only [Nat.add_sub_cancel_left]
    rw [e2, if_pos (by omega), if_neg (by omega), if_neg (by simp; omega)]
theorem rdN_inv {n most : Nat} {s r : List UInt8} (h : rdN most (s, false) = (n, r, false)) : s = encN n ++ r ∧ n ≤ most ∧ n < 18446744073709551616 := by
  cases s with
  | nil =>
    have e : fx 1 (([] : List UInt8), false) = (0, failed) := rfl
    unfold rdN at h
    rw [e] at h
    simp at h
  | cons x s =>
    have e1 : fx 1 (x :: s, false) = (x.toNat, s, false) := by
      rw [show x :: s = [x] ++ s from rfl, show (1 : Nat) = [x].length from rfl, fx_app, val_one]
    have hx := x.toNat_lt
    unfold rdN at h
    rw [e1] at h
    simp only at h
    by_cases h1 : 128 ≤ x.toNat
    · rw [if_pos h1] at h
      split at h
      · simp at h
      · next hk =>
        split at h
        · simp at h
        · next hq =>
          by_cases hl : s.length < x.toNat - 128
          · rw [fx_bad (.inr hl)] at hq
            simp at hq
          · rw [fx_ok (by omega)] at h hq
            simp only [Prod.mk.injEq] at h
            obtain ⟨rfl, rfl, _⟩ := h
            simp only [not_or, Nat.not_lt, ne_eq, Decidable.not_not] at hq
            obtain ⟨q1, q2, q3, _⟩ := hq
            have hv := val_lt (s.take (x.toNat - 128))
            have hl2 : (s.take (x.toNat - 128)).length = x.toNat - 128 := by rw [List.length_take]; omega
            have hb : be (x.toNat - 128) (val (s.take (x.toNat - 128))) = s.take (x.toNat - 128) := by
              have := be_val (s.take (x.toNat - 128))
              rwa [hl2] at this
            have hk8 : (256 : Nat) ^ (x.toNat - 128) ≤ 256 ^ 8 := Nat.pow_le_pow_right (by omega) (by omega)
            refine ⟨?_, by omega, by rw [hl2] at hv; exact Nat.lt_of_lt_of_le hv (by omega)⟩
            unfold encN
            rw [if_neg (by omega), q2, hb, show 128 + (x.toNat - 128) = x.toNat by omega, show UInt8.ofNat x.toNat = x from UInt8.toNat_inj.1 (by rw [toNat_ofNat_mod, Nat.mod_eq_of_lt hx])]
            rw [List.cons_append, List.take_append_drop]
    · rw [if_neg h1] at h
      split at h
      · simp at h
      · next hq =>
        simp only [Prod.mk.injEq] at h
        obtain ⟨rfl, rfl, _⟩ := h
        simp only [not_or, Nat.not_lt] at hq
        refine ⟨?_, hq.1, by omega⟩
        unfold encN
        rw [if_pos (by omega), show UInt8.ofNat x.toNat = x from UInt8.toNat_inj.1 (by rw [toNat_ofNat_mod, Nat.mod_eq_of_lt hx])]
        rfl
/-- A reader that has failed goes on failing; one that fails holds nothing. -/
theorem rdN_ok {most : Nat} {s : St} (h : (rdN most s).2.2 = false) : s.2 = false := by
  cases hs : s.2 with
  | false => rfl
  | true =>
    have e : fx 1 s = (0, failed) := fx_bad (.inl hs)
    unfold rdN at h
    rw [e] at h
    simp at h
theorem rdN_failed {most : Nat} {s : St} (h : (rdN most s).2.2 = true) : rdN most s = (0, failed) := by
  unfold rdN at h ⊢
  split
  · rename_i h1
    rw [if_pos h1] at h
    split
    · rfl
    · rename_i h2
      rw [if_neg h2] at h
      split
      · rfl
      · rename_i h3
        rw [if_neg h3] at h
        exact absurd (.inr (.inr (.inr h))) h3
  · rename_i h1
    rw [if_neg h1] at h
    split
    · rfl
    · rename_i h2
      rw [if_neg h2] at h
      exact absurd (.inr h) h2
/-! ### Signed numbers -/
def zig (i : Int) : Nat := if 0 ≤ i then (2 * i).toNat else (2 * (-(i + 1)) + 1).toNat
def unzig (n : Nat) : Int := if n % 2 = 0 then (n / 2 : Nat) else -((n / 2 : Nat) : Int) - 1
theorem unzig_zig (i : Int) : unzig (zig i) = i := by
  unfold zig unzig
  split <;> split <;> omega
theorem zig_unzig (n : Nat) : zig (unzig n) = n := by
  unfold zig unzig
  split <;> split <;> omega
theorem zig_lt {i : Int} (h : -9223372036854775808 ≤ i) (h2 : i < 9223372036854775808) : zig i < 18446744073709551616 := by
  unfold zig; split <;> omega
end Cdc
