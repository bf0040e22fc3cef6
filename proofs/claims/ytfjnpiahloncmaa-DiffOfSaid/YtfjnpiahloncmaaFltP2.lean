import Derived.Test.YtfjnpiahloncmaaFltP
namespace Go.Proofs.Ytfjnpiahloncmaa
open FP
theorem keyV_cases (b : Nat) (h : b < 18446744073709551616) : (fnan b = true ∧ keyV b = 0) ∨ (fnan b = false ∧ 4503599627370495 ≤ keyV b ∧ keyV b ≤ 9223372036854775808 + 9218868437227405312 ∧ keyV b ≠ 9223372036854775807) := by
  have hn := nan_iff b
  unfold keyV val
  cases hb : fnan b
  · rw [hb] at hn
    have hn : ¬ 9218868437227405312 < b % 9223372036854775808 := fun g => Bool.false_ne_true (hn.2 g)
    right
    refine ⟨rfl, ?_⟩
    rw [if_neg Bool.false_ne_true]
    repeat' split
    all_goals omega
  · left; exact ⟨rfl, by rw [if_pos rfl]⟩
/-- A key's place among those that floats have. -/
def pl (k : Int) : Int := if 9223372036854775807 < k then k - 1 else k
theorem plF_eq {b : Nat} (h : b < 18446744073709551616) : plF b = pl (keyV b) := by
  unfold plF pl
  rw [keyF_eq h]
  have hr := keyV_range b h
  by_cases g : 9223372036854775807 < keyV b
  · rw [decide_eq_true g, if_pos rfl, if_pos g, wrapU]; omega
  · rw [decide_eq_false g, if_neg Bool.false_ne_true, if_neg g]
theorem key_ninf : keyV 18442240474082181120 = 4503599627370495 := by decide
/-- How many are between. -/
def stV (x y : Int) : Int := if x < y then (if x = 0 then pl y - 4503599627370495 else pl y - pl x - 1) else 0
theorem stF_eq {a b : Nat} (ha : a < 18446744073709551616) (hb : b < 18446744073709551616) : stF a b = stV (keyV a) (keyV b) := by
  unfold stF stV
  rw [keyF_eq ha, keyF_eq hb, plF_eq ha, plF_eq hb, plF_eq (b := 18442240474082181120) (by omega), key_ninf, fmt, ne_self a ha]
  have ca := keyV_cases a ha
  have cb := keyV_cases b hb
  have hn : pl 4503599627370495 = 4503599627370495 := by decide
  rw [hn]
  generalize keyV a = x at *
  generalize keyV b = y at *
  by_cases g : x < y
  · rw [decide_eq_true g, if_neg (by simp), if_pos g]
    rcases ca with ⟨na, ea⟩ | ⟨na, ea⟩
    · rw [na, if_pos rfl, if_pos ea, wrapU]
      unfold pl
      split <;> omega
    · rw [na, if_neg Bool.false_ne_true, if_neg (by omega), wrapU, wrapU]
      unfold pl
      repeat' split
      all_goals omega
  · rw [decide_eq_false g, if_pos rfl, if_neg g]
theorem rstN_eq {x y : Int} (hx : 4503599627370495 - 1 ≤ x) (hxy : x < y) (hy : y < 18446744073709551616 - 1) (nx : x ≠ 9223372036854775807) (ny : y ≠ 9223372036854775807) : rstN x y = pl y - pl x - 1 := by
  unfold rstN pl
  simp only [decide_eq_true_iff, wrapU]
  repeat' split
  all_goals omega
theorem rstF_eq {a b : Nat} (ha : a < 18446744073709551616) (hb : b < 18446744073709551616) : rstF a b = stV (keyV a) (keyV b) := by
  unfold rstF stV
  rw [rkeyF_eq ha, rkeyF_eq hb, rkeyF_eq (b := 18442240474082181120) (by omega), key_ninf]
  have ca := keyV_cases a ha
  have cb := keyV_cases b hb
  generalize keyV a = x at *
  generalize keyV b = y at *
  by_cases g : x < y
  · rw [decide_eq_false (show ¬ y ≤ x by omega), if_neg Bool.false_ne_true, if_pos g]
    rcases ca with ⟨na, ea⟩ | ⟨na, ea⟩
    · have e : (x == 0) = true := beq_iff_eq.2 ea
      rw [e, if_pos rfl, if_pos ea, rstN_eq (by rw [wrapU]; omega) (by rw [wrapU]; omega) (by omega) (by rw [wrapU]; omega) (by omega), wrapU]
      unfold pl
      repeat' split
      all_goals omega
    · have e : (x == 0) = false := beq_eq_false_iff_ne.2 (by omega)
      rw [e, if_neg Bool.false_ne_true, if_neg (by omega), rstN_eq (by omega) g (by omega) (by omega) (by omega)]
  · rw [decide_eq_true (show y ≤ x by omega), if_pos rfl, if_neg g]
theorem st_same {a b : Nat} (ha : a < 18446744073709551616) (hb : b < 18446744073709551616) : stF a b = rstF a b := by rw [stF_eq ha hb, rstF_eq ha hb]
/-- The key in the middle of two. -/
def midK (x y : Int) : Int := if pl x + 1 + stV x y / 2 < 9223372036854775807 then pl x + 1 + stV x y / 2 else pl x + 1 + stV x y / 2 + 1
theorem stV_range {x y : Int} (hx : 4503599627370495 ≤ x) (hxy : x < y) (hy : y ≤ 9223372036854775808 + 9218868437227405312) (nx : x ≠ 9223372036854775807) (ny : y ≠ 9223372036854775807) : 0 ≤ stV x y ∧ stV x y = pl y - pl x - 1 := by
  unfold stV
  rw [if_pos hxy, if_neg (by omega)]
  unfold pl
  repeat' split
  all_goals omega
theorem midK_between {x y : Int} (hx : 4503599627370495 ≤ x) (hxy : x < y) (hy : y ≤ 9223372036854775808 + 9218868437227405312) (nx : x ≠ 9223372036854775807) (ny : y ≠ 9223372036854775807) (hs : stV x y ≠ 0) :
    x < midK x y ∧ midK x y < y ∧ midK x y ≠ 9223372036854775807 := by
  have h := stV_range hx hxy hy nx ny
  unfold midK
  generalize stV x y = s at *
  obtain ⟨h0, h⟩ := h
  unfold pl at *
  repeat' split at h
  all_goals repeat' split
  all_goals omega
theorem atF_eq {x y : Int} (hx : 4503599627370495 ≤ x) (hxy : x < y) (hy : y ≤ 9223372036854775808 + 9218868437227405312) (nx : x ≠ 9223372036854775807) (ny : y ≠ 9223372036854775807) (hs : stV x y ≠ 0) :
    atF (IntKind.u64.wrap (IntKind.u64.wrap (pl x + 1) + IntKind.u64.wrap ((stV x y).tdiv 2))) = (ofV (midK x y)).1 := by
  have hb := midK_between hx hxy hy nx ny hs
  have h := stV_range hx hxy hy nx ny
  rw [Int.tdiv_eq_ediv_of_nonneg h.1]
  have hp : pl x + 1 + stV x y / 2 < 9223372036854775807 ∧ midK x y = pl x + 1 + stV x y / 2 ∨ ¬ pl x + 1 + stV x y / 2 < 9223372036854775807 ∧ midK x y = pl x + 1 + stV x y / 2 + 1 := by
    unfold midK
    split
    · exact .inl ⟨‹_›, rfl⟩
    · exact .inr ⟨‹_›, rfl⟩
  have h1 : 0 ≤ pl x := by unfold pl; split <;> omega
  have e : IntKind.u64.wrap (IntKind.u64.wrap (pl x + 1) + IntKind.u64.wrap (stV x y / 2)) = pl x + 1 + stV x y / 2 := by
    rw [wrapU, wrapU, wrapU]; omega
  rw [e]
  unfold atF
  rcases hp with ⟨hp, hm⟩ | ⟨hp, hm⟩
  · rw [decide_eq_false (by omega), if_neg Bool.false_ne_true, ← hm, ofF_eq (by omega) (by omega)]
  · rw [decide_eq_true (by omega), if_pos rfl, wrapU, show (pl x + 1 + stV x y / 2 + 1) % 18446744073709551616 = midK x y by omega, ofF_eq (by omega) (by omega)]
theorem rmidJ_eq {a b : Nat} (ha : a < 18446744073709551616) (hb : b < 18446744073709551616) (hx : 4503599627370495 ≤ keyV a) (hxy : keyV a < keyV b) (hy : keyV b ≤ 9223372036854775808 + 9218868437227405312) (nx : keyV a ≠ 9223372036854775807) (ny : keyV b ≠ 9223372036854775807) (hs : stV (keyV a) (keyV b) ≠ 0) :
    rmidJ a b = midK (keyV a) (keyV b) := by
  have hm := midK_between hx hxy hy nx ny hs
  have h := stV_range hx hxy hy nx ny
  unfold rmidJ rmidK
  rw [rkeyF_eq ha, rstF_eq ha hb]
  generalize keyV a = x at *
  generalize keyV b = y at *
  rw [Int.tdiv_eq_ediv_of_nonneg h.1]
  simp only [decide_eq_true_iff, wrapU]
  unfold midK at *
  generalize stV x y = s at *
  obtain ⟨h0, h⟩ := h
  unfold pl at *
  repeat' split at h
  all_goals repeat' split
  all_goals omega
theorem of_mid {k : Int} (h0 : 4503599627370495 ≤ k) (h1 : k ≤ 9223372036854775808 + 9218868437227405312) (hn : k ≠ 9223372036854775807) :
    (ofV k).2 = true ∧ keyV (ofV k).1 = k ∧ (ofV k).1 < 18446744073709551616 ∧ rcanF (ofV k).1 = (ofV k).1 ∧ fnan (ofV k).1 = false := by
  unfold ofV
  rw [if_neg (show ¬ k = 0 by omega)]
  by_cases hh : 9223372036854775808 ≤ k
  · rw [if_pos hh, if_neg (by omega)]
    refine ⟨rfl, ?_, ?_, ?_, ?_⟩
    · show keyV (k - 9223372036854775808).toNat = k
      rw [keyV_lo (by omega), if_neg (by omega)]; omega
    · show (k - 9223372036854775808).toNat < 18446744073709551616
      omega
    · exact (can_iff _ (by show (k - 9223372036854775808).toNat < 18446744073709551616; omega)).2 (.inl (by show (k - 9223372036854775808).toNat ≤ 9218868437227405312; omega))
    · exact Bool.eq_false_iff.2 (fun g => by have := (nan_iff _).1 g; omega)
  · rw [if_neg hh, if_neg (by omega), if_neg hn]
    refine ⟨rfl, ?_, ?_, ?_, ?_⟩
    · show keyV (18446744073709551615 - k).toNat = k
      rw [keyV_hi (by omega) (by omega), if_neg (by omega)]; omega
    · show (18446744073709551615 - k).toNat < 18446744073709551616
      omega
    · exact (can_iff _ (by show (18446744073709551615 - k).toNat < 18446744073709551616; omega)).2 (.inr (.inr (by show 9223372036854775808 < (18446744073709551615 - k).toNat ∧ (18446744073709551615 - k).toNat ≤ 9218868437227405312 + 9223372036854775808; omega)))
    · exact Bool.eq_false_iff.2 (fun g => by have := (nan_iff _).1 g; omega)
/-- Mid, written out. -/
theorem midF_eq {a b : Nat} (ha : a < 18446744073709551616) (hb : b < 18446744073709551616) :
    midF a b = if fnan a = true then (0, false) else if fnan b = true then (0, false) else if stV (keyV a) (keyV b) = 0 then (0, false) else ((ofV (midK (keyV a) (keyV b))).1, true) := by
  unfold midF
  rw [fmt, ne_self a ha, ne_self b hb, stF_eq ha hb, plF_eq ha]
  have ca := keyV_cases a ha
  have cb := keyV_cases b hb
  cases na : fnan a
  · rw [if_neg Bool.false_ne_true, if_neg Bool.false_ne_true]
    cases nb : fnan b
    · rw [if_neg Bool.false_ne_true, if_neg Bool.false_ne_true]
      by_cases hs : stV (keyV a) (keyV b) = 0
      · have e : (stV (keyV a) (keyV b) == 0) = true := beq_iff_eq.2 hs
        rw [e, if_pos rfl, if_pos hs]
      · have e : (stV (keyV a) (keyV b) == 0) = false := beq_eq_false_iff_ne.2 hs
        have hxy : keyV a < keyV b := by
          rcases Int.lt_or_le (keyV a) (keyV b) with g | g
          · exact g
          · exact absurd (by unfold stV; rw [if_neg (by omega)]) hs
        rw [na] at ca
        rw [nb] at cb
        have ca := ca.resolve_left (fun g => by cases g.1)
        have cb := cb.resolve_left (fun g => by cases g.1)
        rw [e, if_neg Bool.false_ne_true, if_neg hs, atF_eq (by omega) hxy (by omega) (by omega) (by omega) hs]
    · rw [if_pos rfl, if_pos rfl]
  · rw [if_pos rfl, if_pos rfl]
theorem rmidF_eq {a b : Nat} (ha : a < 18446744073709551616) (hb : b < 18446744073709551616) :
    rmidF a b = if fnan a = true then (0, false) else if fnan b = true then (0, false) else if stV (keyV a) (keyV b) = 0 then (0, false) else ((ofV (midK (keyV a) (keyV b))).1, true) := by
  unfold rmidF
  rw [fmt, ne_self a ha, ne_self b hb, rstF_eq ha hb]
  have ca := keyV_cases a ha
  have cb := keyV_cases b hb
  cases na : fnan a
  · rw [if_neg Bool.false_ne_true, if_neg Bool.false_ne_true]
    cases nb : fnan b
    · rw [if_neg Bool.false_ne_true, if_neg Bool.false_ne_true]
      by_cases hs : stV (keyV a) (keyV b) = 0
      · have e : (stV (keyV a) (keyV b) == 0) = true := beq_iff_eq.2 hs
        rw [e, if_pos rfl, if_pos hs]
      · have e : (stV (keyV a) (keyV b) == 0) = false := beq_eq_false_iff_ne.2 hs
        have hxy : keyV a < keyV b := by
          rcases Int.lt_or_le (keyV a) (keyV b) with g | g
          · exact g
          · exact absurd (by unfold stV; rw [if_neg (by omega)]) hs
        rw [na] at ca
        rw [nb] at cb
        have ca := ca.resolve_left (fun g => by cases g.1)
        have cb := cb.resolve_left (fun g => by cases g.1)
        have hm := midK_between (x := keyV a) (y := keyV b) (by omega) hxy (by omega) (by omega) (by omega) hs
        rw [e, if_neg Bool.false_ne_true, if_neg hs, rmidJ_eq ha hb (by omega) hxy (by omega) (by omega) (by omega) hs, rofF_eq (by omega) (by omega)]
        have := (of_mid (k := midK (keyV a) (keyV b)) (by omega) (by omega) (by omega)).1
        exact Prod.ext rfl this
    · rw [if_pos rfl, if_pos rfl]
  · rw [if_pos rfl, if_pos rfl]
theorem mid_same {a b : Nat} (ha : a < 18446744073709551616) (hb : b < 18446744073709551616) : midF a b = rmidF a b := by rw [midF_eq ha hb, rmidF_eq ha hb]
end Go.Proofs.Ytfjnpiahloncmaa
