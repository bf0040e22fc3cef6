import Derived.Test.YtfjnpiahloncmaaFltR2
import Derived.Test.YtfjnpiahloncmaaFltOrd
namespace Go.Proofs.Ytfjnpiahloncmaa
open FP
theorem xor63_lo {b : Nat} (h : b < 9223372036854775808) : b ^^^ 9223372036854775808 = b + 9223372036854775808 := by
  have e : (9223372036854775808 : Nat) = 2 ^ 63 := rfl
  rw [e] at h ⊢
  apply Nat.eq_of_testBit_eq
  intro i
  rw [Nat.testBit_xor, Nat.testBit_two_pow, Nat.add_comm]
  rcases Nat.lt_trichotomy i 63 with g | g | g
  · rw [Nat.testBit_two_pow_add_gt g, decide_eq_false (by omega), Bool.xor_false]
  · subst g
    rw [Nat.testBit_two_pow_add_eq, decide_eq_true rfl, Bool.xor_true]
  · have p : 2 ^ 64 ≤ 2 ^ i := Nat.pow_le_pow_right (by omega) (by omega)
    rw [Nat.testBit_lt_two_pow (x := b) (by omega), Nat.testBit_lt_two_pow (by omega), decide_eq_false (by omega)]; rfl
theorem xor63_hi {b : Nat} (h : 9223372036854775808 ≤ b) (h2 : b < 18446744073709551616) : b ^^^ 9223372036854775808 = b - 9223372036854775808 := by
  have e := xor63_lo (b := b - 9223372036854775808) (by omega)
  have e2 : b - 9223372036854775808 + 9223372036854775808 = b := by omega
  rw [e2] at e
  calc b ^^^ 9223372036854775808 = (b - 9223372036854775808) ^^^ 9223372036854775808 ^^^ 9223372036854775808 := by rw [e]
    _ = b - 9223372036854775808 := by rw [Nat.xor_assoc, Nat.xor_self, Nat.xor_zero]
theorem negF_eq (b : Nat) : Op.negFloat .f64 b = b ^^^ 9223372036854775808 := rfl
theorem negF_lt {b : Nat} (h : b < 18446744073709551616) : Op.negFloat .f64 b < 18446744073709551616 := by
  rw [negF_eq]
  rcases Nat.lt_or_ge b 9223372036854775808 with g | g
  · rw [xor63_lo g]; omega
  · rw [xor63_hi g h]; omega
theorem negF_val {b : Nat} (h : b < 18446744073709551616) : val (Op.negFloat .f64 b) = - val b := by
  rw [negF_eq]
  unfold val
  rcases Nat.lt_or_ge b 9223372036854775808 with g | g
  · rw [xor63_lo g, if_neg (by omega), if_pos g]; omega
  · rw [xor63_hi g h, if_pos (by omega), if_neg (by omega)]; omega
theorem negF_nan {b : Nat} (h : b < 18446744073709551616) : fnan (Op.negFloat .f64 b) = fnan b := by
  rw [negF_eq]
  unfold fnan
  rcases Nat.lt_or_ge b 9223372036854775808 with g | g
  · have e : (b + 9223372036854775808) % 9223372036854775808 = b % 9223372036854775808 := by omega
    rw [xor63_lo g, e]
  · have e : (b - 9223372036854775808) % 9223372036854775808 = b % 9223372036854775808 := by omega
    rw [xor63_hi g h, e]
theorem fmt : FloatKind.f64.format = Ieee.double := rfl
theorem ofInt_nat (x : Int) (h0 : 0 ≤ x) (h : x < 18446744073709551616) : (BitVec.ofInt 64 x).toNat = x.toNat := by
  rw [BitVec.toNat_ofInt]
  simp only [Nat.reducePow]
  omega
theorem wrap_nat (n : Nat) (h : n < 18446744073709551616) : IntKind.u64.wrap (n : Int) = n := by
  exact IntWalk.u64_in _ (by omega)
theorem or63 (x : Int) (h0 : 0 ≤ x) (h : x < 9223372036854775808) : bits .or .u64 x 9223372036854775808 = x + 9223372036854775808 := by
  show IntKind.u64.wrap ((BitVec.ofInt 64 x ||| BitVec.ofInt 64 9223372036854775808).toNat : Int) = _
  rw [BitVec.toNat_or, ofInt_nat x h0 (by omega), ofInt_nat 9223372036854775808 (by omega) (by omega)]
  have e : x.toNat ||| (9223372036854775808 : Int).toNat = x.toNat + 9223372036854775808 := by
    have e63 : (9223372036854775808 : Int).toNat = 2 ^ 63 := rfl
    have := Nat.two_pow_add_eq_or_of_lt (i := 63) (b := x.toNat) (by omega) 1
    rw [Nat.mul_one] at this
    rw [e63, Nat.or_comm, ← this]
    omega
  rw [e, wrap_nat _ (by omega)]
  omega
theorem notU_eq (x : Int) (h0 : 0 ≤ x) (h : x < 18446744073709551616) : notU x = 18446744073709551615 - x := by
  unfold notU
  show IntKind.u64.wrap ((BitVec.ofInt 64 18446744073709551615 ^^^ BitVec.ofInt 64 x).toNat : Int) = _
  have h1 : BitVec.ofInt 64 18446744073709551615 = BitVec.allOnes 64 := by decide
  rw [h1, BitVec.allOnes_xor, BitVec.toNat_not, ofInt_nat x h0 h, wrap_nat _ (by omega)]
  omega
theorem andNot63 (x : Int) (h0 : 9223372036854775808 ≤ x) (h : x < 18446744073709551616) : bits .andNot .u64 x 9223372036854775808 = x - 9223372036854775808 := by
  show IntKind.u64.wrap ((BitVec.ofInt 64 x &&& ~~~ BitVec.ofInt 64 9223372036854775808).toNat : Int) = _
  rw [BitVec.toNat_and, BitVec.toNat_not, ofInt_nat x (by omega) h, ofInt_nat 9223372036854775808 (by omega) (by omega)]
  have e63 : 2 ^ 64 - 1 - (9223372036854775808 : Int).toNat = 2 ^ 63 - 1 := rfl
  rw [e63, Nat.and_two_pow_sub_one_eq_mod, wrap_nat _ (by omega)]
  omega
theorem wrapU (x : Int) : IntKind.u64.wrap x = x % 18446744073709551616 := by
  simp only [IntKind.wrap, IntKind.bits, IntKind.signed]
  simp
theorem nan_0 : fnan 0 = false := by decide
theorem nan_max : fnan 9218868437227405311 = false := by decide
theorem nan_nmax : fnan 18442240474082181119 = false := by decide
theorem val_0 : val 0 = 0 := by decide
theorem val_max : val 9218868437227405311 = 9218868437227405311 := by decide
theorem val_nmax : val 18442240474082181119 = -9218868437227405311 := by decide
theorem val_of_lt {b : Nat} (h : b < 9223372036854775808) : val b = b := by unfold val; rw [if_pos h]
theorem val_of_ge {b : Nat} (h : 9223372036854775808 ≤ b) : val b = 9223372036854775808 - b := by unfold val; rw [if_neg (by omega)]
theorem nan_iff (b : Nat) : fnan b = true ↔ 9218868437227405312 < b % 9223372036854775808 := by unfold fnan; exact decide_eq_true_iff
/-- The class by the place on the line. -/
theorem clsF_eq {b : Nat} (h : b < 18446744073709551616) : clsF b = if fnan b = true then 0 else if val b < -9218868437227405311 then 1 else if 9218868437227405311 < val b then 5 else if val b < 0 then 2 else if 0 < val b then 4 else 3 := by
  unfold clsF infB
  rw [fmt, ne_self b h]
  cases hn : fnan b
  · rw [if_neg Bool.false_ne_true, if_neg Bool.false_ne_true]
    rw [if_pos (show (-1 : Int) < 0 by decide), if_neg (show ¬ (1 : Int) < 0 by decide)]
    rw [gt_val _ _ (negF_lt h) (by decide) (by rw [negF_nan h]; exact hn) nan_max, negF_val h, val_max,
      gt_val b _ h (by decide) hn nan_max, val_max, lt_val b 0 h (by decide) hn nan_0, val_0, gt_val b 0 h (by decide) hn nan_0, val_0]
    simp only [decide_eq_true_iff]
    by_cases h1 : val b < -9218868437227405311
    · rw [if_pos (by omega), if_pos h1]
    · rw [if_neg (by omega), if_neg h1]
  · rw [if_pos rfl, if_pos rfl]
theorem rclsF_eq {b : Nat} (h : b < 18446744073709551616) : rclsF b = if fnan b = true then 0 else if val b < -9218868437227405311 then 1 else if val b < 0 then 2 else if val b = 0 then 3 else if 9218868437227405311 < val b then 5 else 4 := by
  unfold rclsF
  rw [fmt, ne_self b h]
  cases hn : fnan b
  · rw [if_neg Bool.false_ne_true, if_neg Bool.false_ne_true]
    rw [lt_val b _ h (by decide) hn nan_nmax, val_nmax, lt_val b 0 h (by decide) hn nan_0, val_0, eq_val b 0 h (by decide) hn nan_0, val_0, gt_val b _ h (by decide) hn nan_max, val_max]
    simp only [decide_eq_true_iff]
  · rw [if_pos rfl, if_pos rfl]
theorem cls_same {b : Nat} (h : b < 18446744073709551616) : clsF b = rclsF b := by
  rw [clsF_eq h, rclsF_eq h]
  repeat' split
  all_goals first | rfl | omega
theorem cls_0 {b : Nat} (h : b < 18446744073709551616) : clsF b = 0 ↔ fnan b = true := by
  rw [clsF_eq h]
  cases fnan b
  · rw [if_neg Bool.false_ne_true]
    constructor
    · intro e
      exfalso
      revert e
      repeat' split
      all_goals omega
    · intro e; cases e
  · rw [if_pos rfl]; simp
theorem cls_3 {b : Nat} (h : b < 18446744073709551616) : clsF b = 3 ↔ fnan b = false ∧ val b = 0 := by
  rw [clsF_eq h]
  cases fnan b
  · rw [if_neg Bool.false_ne_true]
    constructor
    · intro e
      refine ⟨rfl, ?_⟩
      revert e
      repeat' split
      all_goals omega
    · rintro ⟨_, e⟩
      rw [if_neg (by omega), if_neg (by omega), if_neg (by omega), if_neg (by omega)]
  · rw [if_pos rfl]; simp
theorem canF_eq {b : Nat} (h : b < 18446744073709551616) : canF b = if fnan b = true then 9221120237041090561 else if val b = 0 then 0 else b := by
  unfold canF
  have h0 := cls_0 h
  have h3 := cls_3 h
  cases hn : fnan b
  · rw [hn] at h0 h3
    have c0 : (clsF b == 0) = false := by rw [beq_eq_false_iff_ne]; intro e; cases h0.1 e
    rw [c0, if_neg Bool.false_ne_true, if_neg Bool.false_ne_true]
    by_cases hz : val b = 0
    · have c3 : (clsF b == 3) = true := beq_iff_eq.2 (h3.2 ⟨rfl, hz⟩)
      rw [c3, if_pos rfl, if_pos hz]
    · have c3 : (clsF b == 3) = false := by rw [beq_eq_false_iff_ne]; intro e; exact hz (h3.1 e).2
      rw [c3, if_neg Bool.false_ne_true, if_neg hz]
  · rw [hn] at h0
    have c0 : (clsF b == 0) = true := beq_iff_eq.2 (h0.2 rfl)
    rw [c0, if_pos rfl, if_pos rfl]
theorem rcanF_eq {b : Nat} (h : b < 18446744073709551616) : rcanF b = if fnan b = true then 9221120237041090561 else if val b = 0 then 0 else b := by
  unfold rcanF
  rw [fmt, ne_self b h]
  cases hn : fnan b
  · rw [if_neg Bool.false_ne_true, if_neg Bool.false_ne_true, eq_val b 0 h (by decide) hn nan_0, val_0]
    simp only [decide_eq_true_iff]
  · rw [if_pos rfl, if_pos rfl]
theorem can_same {b : Nat} (h : b < 18446744073709551616) : canF b = rcanF b := by rw [canF_eq h, rcanF_eq h]
theorem canF_lt {b : Nat} (h : b < 18446744073709551616) : canF b < 18446744073709551616 := by
  rw [canF_eq h]
  repeat' split
  all_goals omega
/-- The key by the place on the line. -/
def keyV (b : Nat) : Int := if fnan b = true then 0 else if 0 ≤ val b then 9223372036854775808 + val b else 9223372036854775807 + val b
theorem keyF_eq {b : Nat} (h : b < 18446744073709551616) : keyF b = keyV b := by
  unfold keyF keyV
  rw [fmt, ne_self b h]
  cases hn : fnan b
  · rw [if_neg Bool.false_ne_true, if_neg Bool.false_ne_true, canF_eq h, hn, if_neg Bool.false_ne_true]
    unfold ubits
    simp only [decide_eq_true_iff]
    rcases Nat.lt_or_ge b 9223372036854775808 with g | g
    · rw [val_of_lt g]
      by_cases hz : (b : Int) = 0
      · rw [if_pos hz, if_pos (by omega), if_pos (by omega), or63 _ (by omega) (by omega)]; omega
      · rw [if_neg hz, if_pos (by omega), if_pos (by omega), or63 _ (by omega) (by omega)]; omega
    · rw [val_of_ge g]
      by_cases hz : (9223372036854775808 : Int) - b = 0
      · rw [if_pos hz, if_pos (by omega), if_pos (by omega), or63 _ (by omega) (by omega)]; omega
      · rw [if_neg hz, if_neg (by omega), if_neg (by omega), notU_eq _ (by omega) (by omega)]; omega
  · rw [if_pos rfl, if_pos rfl]
theorem rkeyF_eq {b : Nat} (h : b < 18446744073709551616) : rkeyF b = keyV b := by
  unfold rkeyF keyV
  rw [fmt, ne_self b h]
  cases hn : fnan b
  · rw [if_neg Bool.false_ne_true, if_neg Bool.false_ne_true, rcanF_eq h, hn, if_neg Bool.false_ne_true]
    unfold ubits
    simp only [beq_iff_eq, wrapU]
    rcases Nat.lt_or_ge b 9223372036854775808 with g | g
    · rw [val_of_lt g]
      by_cases hz : (b : Int) = 0
      · rw [if_pos hz, if_pos (by omega), if_pos (by omega)]; omega
      · rw [if_neg hz, if_pos (by omega), if_pos (by omega)]; omega
    · rw [val_of_ge g]
      by_cases hz : (9223372036854775808 : Int) - b = 0
      · rw [if_pos hz, if_pos (by omega), if_pos (by omega)]; omega
      · rw [if_neg hz, if_neg (by omega), if_neg (by omega)]; omega
  · rw [if_pos rfl, if_pos rfl]
theorem key_same {b : Nat} (h : b < 18446744073709551616) : keyF b = rkeyF b := by rw [keyF_eq h, rkeyF_eq h]
theorem keyV_lo {b : Nat} (h : b < 9223372036854775808) : keyV b = if 9218868437227405312 < b then 0 else 9223372036854775808 + (b : Int) := by
  unfold keyV fnan
  rw [val_of_lt h]
  simp only [decide_eq_true_iff]
  by_cases g : 9218868437227405312 < b
  · rw [if_pos (by omega), if_pos g]
  · rw [if_neg (by omega), if_neg g, if_pos (by omega)]
theorem keyV_hi {b : Nat} (h : 9223372036854775808 < b) (h2 : b < 18446744073709551616) : keyV b = if 9218868437227405312 + 9223372036854775808 < b then 0 else 18446744073709551615 - (b : Int) := by
  unfold keyV fnan
  rw [val_of_ge (by omega)]
  simp only [decide_eq_true_iff]
  by_cases g : 9218868437227405312 + 9223372036854775808 < b
  · rw [if_pos (by omega), if_pos g]
  · rw [if_neg (by omega), if_neg g, if_neg (by omega)]; omega
theorem keyV_range (b : Nat) (h : b < 18446744073709551616) : 0 ≤ keyV b ∧ keyV b < 18446744073709551616 ∧ keyV b ≠ 9223372036854775807 := by
  unfold keyV val
  repeat' split
  all_goals omega
/-- Of, written out. -/
def ofV (k : Int) : Nat × Bool :=
  if k = 0 then (9221120237041090561, true)
  else if 9223372036854775808 ≤ k then (if 9218868437227405312 < k - 9223372036854775808 then (0, false) else ((k - 9223372036854775808).toNat, true))
  else if 9218868437227405312 < 9223372036854775807 - k then (0, false) else if k = 9223372036854775807 then (0, false) else ((18446744073709551615 - k).toNat, true)
theorem ofF_eq {k : Int} (h0 : 0 ≤ k) (h : k < 18446744073709551616) : ofF k = ofV k := by
  unfold ofF ofV
  by_cases hz : k = 0
  · have e : (k == 0) = true := beq_iff_eq.2 hz
    rw [e, if_pos rfl, if_pos hz, canF_eq (by decide), if_pos (by decide)]
  · have e : (k == 0) = false := beq_eq_false_iff_ne.2 hz
    rw [e, if_neg Bool.false_ne_true, if_neg hz]
    unfold ofB
    by_cases hh : 9223372036854775808 ≤ k
    · rw [decide_eq_true hh, if_pos rfl, if_pos hh, andNot63 k hh h, fmt, ne_self _ (by omega)]
      have eb : (k - 9223372036854775808 == 9223372036854775808) = false := beq_eq_false_iff_ne.2 (by omega)
      rw [eb, if_neg Bool.false_ne_true]
      by_cases hn : 9218868437227405312 < k - 9223372036854775808
      · rw [if_pos ((nan_iff _).2 (by omega)), if_pos hn]
      · rw [if_neg (fun g => hn (by have := (nan_iff _).1 g; omega)), if_neg hn]
    · rw [decide_eq_false hh, if_neg Bool.false_ne_true, if_neg hh, notU_eq k h0 h, fmt, ne_self _ (by omega)]
      by_cases hn : 9218868437227405312 < 9223372036854775807 - k
      · rw [if_pos ((nan_iff _).2 (by omega)), if_pos hn]
      · rw [if_neg (fun g => hn (by have := (nan_iff _).1 g; omega)), if_neg hn]
        by_cases hl : k = 9223372036854775807
        · have eb : (18446744073709551615 - k == 9223372036854775808) = true := beq_iff_eq.2 (by omega)
          rw [eb, if_pos rfl, if_pos hl]
        · have eb : (18446744073709551615 - k == 9223372036854775808) = false := beq_eq_false_iff_ne.2 (by omega)
          rw [eb, if_neg Bool.false_ne_true, if_neg hl]
theorem tryF_iff (k c : Int) (h0 : 0 ≤ c) (h : c < 18446744073709551616) : tryF k c = true ↔ rcanF c.toNat = c.toNat ∧ keyV c.toNat = k := by
  unfold tryF ubits
  rw [Bool.and_eq_true, beq_iff_eq, beq_iff_eq, rkeyF_eq (by omega)]
  omega
theorem can_iff (b : Nat) (h : b < 18446744073709551616) : rcanF b = b ↔ (b ≤ 9218868437227405312 ∨ b = 9221120237041090561 ∨ 9223372036854775808 < b ∧ b ≤ 9218868437227405312 + 9223372036854775808) := by
  rw [rcanF_eq h]
  have hn := nan_iff b
  cases hb : fnan b
  · rw [hb] at hn
    have hn : ¬ 9218868437227405312 < b % 9223372036854775808 := fun g => Bool.false_ne_true (hn.2 g)
    rw [if_neg Bool.false_ne_true]
    unfold val
    repeat' split
    all_goals omega
  · have hn := hn.1 hb
    rw [if_pos rfl]
    omega
theorem rofF_eq {k : Int} (h0 : 0 ≤ k) (h : k < 18446744073709551616) : rofF k = ofV k := by
  unfold rofF
  have w0 : IntKind.u64.wrap (k - 9223372036854775808) = if 9223372036854775808 ≤ k then k - 9223372036854775808 else k + 9223372036854775808 := by rw [wrapU]; split <;> omega
  have w1 : IntKind.u64.wrap (18446744073709551615 - k) = 18446744073709551615 - k := by rw [wrapU]; omega
  have tn : tryF k 9221120237041090561 = true ↔ k = 0 := by
    rw [tryF_iff k _ (by omega) (by omega)]
    have e1 : rcanF (9221120237041090561 : Int).toNat = (9221120237041090561 : Int).toNat := (can_iff _ (by decide)).2 (.inr (.inl rfl))
    have e2 : keyV (9221120237041090561 : Int).toNat = 0 := by decide
    rw [e1, e2]
    constructor
    · rintro ⟨_, e⟩; exact e.symm
    · intro e; exact ⟨rfl, e.symm⟩
  have t1 : tryF k (18446744073709551615 - k) = true ↔ k < 9223372036854775807 ∧ 9223372036854775807 - k ≤ 9218868437227405312 := by
    rw [tryF_iff k _ (by omega) (by omega), can_iff _ (by omega)]
    rcases Nat.lt_trichotomy (18446744073709551615 - k).toNat 9223372036854775808 with g | g | g
    · rw [keyV_lo g]; split <;> omega
    · rw [g]; omega
    · rw [keyV_hi g (by omega)]; split <;> omega
  rw [w0, w1]
  unfold ofV
  by_cases hh : 9223372036854775808 ≤ k
  · rw [if_pos hh]
    have t0 : tryF k (k - 9223372036854775808) = true ↔ k - 9223372036854775808 ≤ 9218868437227405312 := by
      rw [tryF_iff k _ (by omega) (by omega), can_iff _ (by omega), keyV_lo (by omega)]; split <;> omega
    rw [if_neg (show ¬ k = 0 by omega), if_pos hh]
    by_cases hn : 9218868437227405312 < k - 9223372036854775808
    · rw [if_neg (fun g => by have := t0.1 g; omega), if_neg (fun g => by have := t1.1 g; omega), if_neg (fun g => by have := tn.1 g; omega), if_pos hn]
    · rw [if_pos (t0.2 (by omega)), if_neg hn]
  · rw [if_neg hh]
    have t0 : ¬ tryF k (k + 9223372036854775808) = true := by
      rw [tryF_iff k _ (by omega) (by omega), can_iff _ (by omega)]
      rcases Nat.lt_or_ge 9223372036854775808 (k + 9223372036854775808).toNat with g | g
      · rw [keyV_hi g (by omega)]; split <;> omega
      · omega
    rw [if_neg t0]
    by_cases hz : k = 0
    · rw [if_neg (fun g => by have := t1.1 g; omega), if_pos (tn.2 hz), if_pos hz]
    · rw [if_neg hz, if_neg hh]
      by_cases hn : 9218868437227405312 < 9223372036854775807 - k
      · rw [if_neg (fun g => by have := t1.1 g; omega), if_neg (fun g => hz (tn.1 g)), if_pos hn]
      · rw [if_neg hn]
        by_cases hl : k = 9223372036854775807
        · rw [if_neg (fun g => by have := t1.1 g; omega), if_neg (fun g => hz (tn.1 g)), if_pos hl]
        · rw [if_pos (t1.2 (by omega)), if_neg hl]
end Go.Proofs.Ytfjnpiahloncmaa
