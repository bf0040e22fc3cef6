import Derived.Test.YthkfjcfncobllaaFltL
namespace Go.Proofs.Ythkfjcfncobllaa
open Go.RowKit FP
theorem adds {x y z : Int} (hx : x = 0 ∨ 4503599627370495 ≤ x) (hx3 : x ≠ 9223372036854775807) (hy3 : y ≠ 9223372036854775807) (hz3 : z ≠ 9223372036854775807) (hy : 4503599627370495 ≤ y) (hz : z ≤ 9223372036854775808 + 9218868437227405312) (h1 : x < y) (h2 : y < z) :
    stV x z = IntKind.u64.wrap (IntKind.u64.wrap (stV x y + 1) + stV y z) := by
  rw [wrapU, wrapU]
  unfold stV
  rw [if_pos h1, if_pos h2, if_pos (by omega), if_neg (show ¬ y = 0 by omega)]
  unfold pl
  repeat' split
  all_goals omega
/-- What is in the middle, told as tests. -/
theorem mid_tells {a b : Nat} (ha : a < 18446744073709551616) (hb : b < 18446744073709551616) (h : (midF a b).2 = true) :
    decide (keyF a < keyF (midF a b).1) = true ∧ decide (keyF (midF a b).1 < keyF b) = true ∧ (ubits (midF a b).1 == ubits (rcanF (midF a b).1)) = true := by
  rw [midF_eq ha hb] at h ⊢
  have ca := keyV_cases a ha
  have cb := keyV_cases b hb
  cases na : fnan a
  · rw [na, if_neg Bool.false_ne_true] at h
    rw [if_neg Bool.false_ne_true]
    cases nb : fnan b
    · rw [nb, if_neg Bool.false_ne_true] at h
      rw [if_neg Bool.false_ne_true]
      by_cases hs : stV (keyV a) (keyV b) = 0
      · rw [if_pos hs] at h; cases h
      · rw [if_neg hs]
        have hxy : keyV a < keyV b := by
          rcases Int.lt_or_le (keyV a) (keyV b) with g | g
          · exact g
          · exact absurd (by unfold stV; rw [if_neg (by omega)]) hs
        rw [na] at ca
        rw [nb] at cb
        have ca := ca.resolve_left (fun g => by cases g.1)
        have cb := cb.resolve_left (fun g => by cases g.1)
        have hm := midK_between (x := keyV a) (y := keyV b) (by omega) hxy (by omega) (by omega) (by omega) hs
        have ho := of_mid (k := midK (keyV a) (keyV b)) (by omega) (by omega) (by omega)
        refine ⟨?_, ?_, ?_⟩
        · rw [keyF_eq ha, keyF_eq ho.2.2.1, ho.2.1]; exact decide_eq_true hm.1
        · rw [keyF_eq hb, keyF_eq ho.2.2.1, ho.2.1]; exact decide_eq_true hm.2.1
        · exact beq_t (by rw [ho.2.2.2.1])
    · rw [nb, if_pos rfl] at h; cases h
  · rw [na, if_pos rfl] at h; cases h
theorem mid_none {a b : Nat} (h : (midF a b).2 = false) :
    (FloatKind.f64.format.order a a != some .eq) = true ∨ (FloatKind.f64.format.order a a != some .eq) = false ∧ ((FloatKind.f64.format.order b b != some .eq) = true ∨ (FloatKind.f64.format.order b b != some .eq) = false ∧ (stF a b == 0) = true) := by
  revert h
  unfold midF
  cases (FloatKind.f64.format.order a a != some .eq)
  · cases (FloatKind.f64.format.order b b != some .eq)
    · cases (stF a b == 0)
      · intro h; rw [if_neg Bool.false_ne_true, if_neg Bool.false_ne_true, if_neg Bool.false_ne_true] at h; cases h
      · intro _; exact .inr ⟨rfl, .inr ⟨rfl, rfl⟩⟩
    · intro _; exact .inr ⟨rfl, .inl rfl⟩
  · intro _; exact .inl rfl
/-- Three keys' order, as tests. -/
def Tri (x y z : Int) : Prop :=
  (decide (x < y) = true ∧ decide (y < x) = false ∧ (x == y) = false ∧ (decide (y < z) = false ∨ decide (y < z) = true ∧ decide (x < z) = true)) ∨
  (decide (x < y) = false ∧ decide (y < x) = true ∧ (x == y) = false) ∨ (decide (x < y) = false ∧ decide (y < x) = false ∧ (x == y) = true)
theorem tri (x y z : Int) : Tri x y z := by
  rcases Int.lt_trichotomy x y with g | g | g
  · refine .inl ⟨decide_eq_true g, decide_eq_false (by omega), beq_eq_false_iff_ne.2 (by omega), ?_⟩
    by_cases h : y < z
    · exact .inr ⟨decide_eq_true h, decide_eq_true (by omega)⟩
    · exact .inl (decide_eq_false h)
  · exact .inr (.inr ⟨decide_eq_false (by omega), decide_eq_false (by omega), beq_t g⟩)
  · exact .inr (.inl ⟨decide_eq_false (by omega), decide_eq_true g, beq_eq_false_iff_ne.2 (by omega)⟩)
end Go.Proofs.Ythkfjcfncobllaa
