import Derived.Test.YtfjnpiahloncmaaFltA
import Derived.Test.YtfjnpiahloncmaaFltP2
import Derived.Below
namespace Go.Proofs.Ytfjnpiahloncmaa
open Go.RowKit FP
theorem beq_t {α : Type} [BEq α] [LawfulBEq α] {a b : α} (h : a = b) : (a == b) = true := beq_iff_eq.2 h
theorem of_key {a : Nat} (ha : a < 18446744073709551616) : ofF (keyF a) = (rcanF a, true) := by
  have hr := keyV_range a ha
  rw [keyF_eq ha, ofF_eq (by omega) (by omega), rcanF_eq ha]
  rcases keyV_cases a ha with ⟨hn, hk⟩ | ⟨hn, hk, hk2, hk3⟩
  · rw [hk, hn, if_pos rfl]; rfl
  · rw [hn, if_neg Bool.false_ne_true]
    have hni : ¬ 9218868437227405312 < a % 9223372036854775808 := fun g => by have := (nan_iff a).2 g; rw [hn] at this; cases this
    rcases Nat.lt_trichotomy a 9223372036854775808 with g | g | g
    · have hkl := keyV_lo g
      rw [if_neg (by omega)] at hkl
      rw [hkl, val_of_lt g]
      unfold ofV
      rw [if_neg (by omega), if_pos (by omega), if_neg (by omega)]
      by_cases hz : (a : Int) = 0
      · rw [if_pos hz]; exact Prod.ext (by show (9223372036854775808 + (a : Int) - 9223372036854775808).toNat = 0; omega) rfl
      · rw [if_neg hz]; exact Prod.ext (by show (9223372036854775808 + (a : Int) - 9223372036854775808).toNat = a; omega) rfl
    · subst g
      have e : keyV 9223372036854775808 = 9223372036854775808 := by decide
      rw [e, val_of_ge (by omega), if_pos (by omega)]
      rfl
    · have hkl := keyV_hi g ha
      rw [if_neg (by omega)] at hkl
      rw [hkl, val_of_ge (by omega), if_neg (by omega)]
      unfold ofV
      rw [if_neg (by omega), if_neg (by omega), if_neg (by omega), if_neg (by omega)]
      exact Prod.ext (by show (18446744073709551615 - (18446744073709551615 - (a : Int))).toNat = a; omega) rfl
theorem key_of {k : Int} (h0 : 0 ≤ k) (hk : k < 18446744073709551616) (h : (ofF k).2 = true) : keyF (ofF k).1 = k := by
  rw [ofF_eq h0 hk] at h ⊢
  by_cases hz : k = 0
  · subst hz
    have e : ofV 0 = (9221120237041090561, true) := rfl
    rw [e]
    rw [keyF_eq (by decide)]; decide
  · have hr : 4503599627370495 ≤ k ∧ k ≤ 9223372036854775808 + 9218868437227405312 ∧ k ≠ 9223372036854775807 := by
      revert h
      unfold ofV
      rw [if_neg hz]
      repeat' split
      all_goals (intro h; first | (cases h; done) | omega)
    have hm := of_mid hr.1 hr.2.1 hr.2.2
    rw [keyF_eq hm.2.2.1]
    exact hm.2.1
end Go.Proofs.Ytfjnpiahloncmaa
