import Derived.Test.YthkfjcfncobllaaFltN
namespace Go.Proofs.Ythkfjcfncobllaa
open Go.RowKit FP
set_option linter.unusedVariables false
/-! What StatsAll says, plain. -/
def OkF (x : Nat) : Prop := x < B64 ∧ fnan x = false
theorem key_val {x y : Nat} (hx : OkF x) (hy : OkF y) : keyV x < keyV y ↔ val x < val y := by
  have h1 : keyV x = if 0 ≤ val x then 9223372036854775808 + val x else 9223372036854775807 + val x := by unfold keyV; rw [if_neg (by rw [hx.2]; decide)]
  have h2 : keyV y = if 0 ≤ val y then 9223372036854775808 + val y else 9223372036854775807 + val y := by unfold keyV; rw [if_neg (by rw [hy.2]; decide)]
  rw [h1, h2]
  by_cases g1 : 0 ≤ val x
  · rw [if_pos g1]
    by_cases g2 : 0 ≤ val y
    · rw [if_pos g2]; omega
    · rw [if_neg g2]; omega
  · rw [if_neg g1]
    by_cases g2 : 0 ≤ val y
    · rw [if_pos g2]; omega
    · rw [if_neg g2]; omega
theorem ord_lt {x y : Nat} (hx : OkF x) (hy : OkF y) : (FloatKind.f64.format.order x y == some .lt) = decide (keyV x < keyV y) := by
  show (Ieee.double.order x y == some .lt) = _
  rw [order_val x y hx.1 hy.1 hx.2 hy.2, cmp_int, Bool.eq_iff_iff, decide_eq_true_iff, key_val hx hy]
  repeat' split
  all_goals simp_all
theorem ord_gt {x y : Nat} (hx : OkF x) (hy : OkF y) : (FloatKind.f64.format.order x y == some .gt) = decide (keyV y < keyV x) := by
  show (Ieee.double.order x y == some .gt) = _
  rw [order_val x y hx.1 hy.1 hx.2 hy.2, cmp_int, Bool.eq_iff_iff, decide_eq_true_iff, key_val hy hx]
  by_cases h1 : val x < val y
  · rw [if_pos h1]; simp; omega
  · rw [if_neg h1]
    by_cases h2 : val x = val y
    · rw [if_pos h2]; simp; omega
    · rw [if_neg h2]; simp; omega
def EndP (o : Ordering) (S : List Nat) (t : Nat) : Prop := (S = [] ∧ fnan t = true) ∨ (t ∈ S ∧ OkF t ∧ ∀ x ∈ S, (o = .lt → keyV t ≤ keyV x) ∧ (o = .gt → keyV x ≤ keyV t))
theorem end_fold {o : Ordering} (ho : o = .lt ∨ o = .gt) : ∀ (l S : List Nat) (t : Nat), (∀ x ∈ l, OkF x) → EndP o S t → EndP o (S ++ l) (l.foldl (endS o) t)
  | [], S, t, _, h => by rw [List.append_nil]; exact h
  | f :: l, S, t, hl, h => by
    have hf := hl f List.mem_cons_self
    have := end_fold ho l (S ++ [f]) (endS o t f) (fun x hx => hl x (List.mem_cons_of_mem _ hx)) (by
      unfold endS
      rw [if_neg (by rw [hf.2]; decide)]
      rcases h with ⟨rfl, hn⟩ | ⟨hm, ht, ha⟩
      · rw [if_pos hn]
        exact .inr ⟨by simp, hf, fun x hx => by simp at hx; subst hx; exact ⟨fun _ => Int.le_refl _, fun _ => Int.le_refl _⟩⟩
      · rw [if_neg (by rw [ht.2]; decide)]
        right
        rcases ho with rfl | rfl
        · rw [ord_lt hf ht]
          by_cases hc : keyV f < keyV t
          · rw [decide_eq_true hc, if_pos rfl]
            refine ⟨by simp, hf, fun x hx => ⟨fun _ => ?_, fun e => by cases e⟩⟩
            rcases List.mem_append.1 hx with hx | hx
            · have := (ha x hx).1 rfl; omega
            · rw [List.mem_singleton.1 hx]; exact Int.le_refl _
          · rw [decide_eq_false hc, if_neg (by decide)]
            refine ⟨by simp [hm], ht, fun x hx => ⟨fun _ => ?_, fun e => by cases e⟩⟩
            rcases List.mem_append.1 hx with hx | hx
            · exact (ha x hx).1 rfl
            · rw [List.mem_singleton.1 hx]; omega
        · rw [ord_gt hf ht]
          by_cases hc : keyV t < keyV f
          · rw [decide_eq_true hc, if_pos rfl]
            refine ⟨by simp, hf, fun x hx => ⟨(fun e => by cases e), fun _ => ?_⟩⟩
            rcases List.mem_append.1 hx with hx | hx
            · have := (ha x hx).2 rfl; omega
            · rw [List.mem_singleton.1 hx]; exact Int.le_refl _
          · rw [decide_eq_false hc, if_neg (by decide)]
            refine ⟨by simp [hm], ht, fun x hx => ⟨(fun e => by cases e), fun _ => ?_⟩⟩
            rcases List.mem_append.1 hx with hx | hx
            · exact (ha x hx).2 rfl
            · rw [List.mem_singleton.1 hx]; omega)
    rw [List.append_assoc] at this
    exact this
theorem end_key {o : Ordering} (ho : o = .lt ∨ o = .gt) {K : List Nat} (hK : ∀ x ∈ K, OkF x) (hne : K ≠ []) : endL o K ∈ K ∧ OkF (endL o K) ∧ ∀ x ∈ K, (o = .lt → keyV (endL o K) ≤ keyV x) ∧ (o = .gt → keyV x ≤ keyV (endL o K)) := by
  have := end_fold ho K [] 9221120237041090561 hK (.inl ⟨rfl, by decide⟩)
  rcases this with ⟨h, _⟩ | h
  · exact absurd h hne
  · exact h
theorem sort_ends {K : List Nat} (hK : ∀ x ∈ K, OkF x) (hne : K ≠ []) : rkeyF ((sortK K).getD 0 0) = rkeyF (rcanF (endL .lt K)) ∧ rkeyF ((sortK K).getD (K.length - 1) 0) = rkeyF (rcanF (endL .gt K)) := by
  have hlt : ∀ x ∈ K, x < B64 := fun x hx => (hK x hx).1
  have hlen := sortK_len K
  have hpos : 0 < K.length := List.length_pos_iff.2 hne
  have hs := sortK_sorted K
  have hmem : ∀ i (h : i < (sortK K).length), ∃ y ∈ K, (sortK K)[i] = rcanF y := fun i h => by
    obtain ⟨y, hy, e⟩ := List.mem_map.1 ((sortK_perm K).subset (List.getElem_mem h))
    exact ⟨y, hy, e.symm⟩
  have hall : ∀ y ∈ K, ∃ i, ∃ h : i < (sortK K).length, (sortK K)[i] = rcanF y := fun y hy => by
    obtain ⟨i, h, e⟩ := List.mem_iff_getElem.1 ((sortK_perm K).symm.subset (List.mem_map.2 ⟨y, hy, rfl⟩))
    exact ⟨i, h, e⟩
  constructor
  · obtain ⟨h1, h2, h3⟩ := end_key (.inl rfl) hK hne
    rw [List.getD_eq_getElem?_getD, List.getElem?_eq_getElem (by omega), Option.getD_some]
    obtain ⟨y, hy, e⟩ := hmem 0 (by omega)
    obtain ⟨i, hi, e2⟩ := hall _ h1
    rw [e, rkeyF_eq (rcanF_lt' (hlt y hy)), rkeyF_eq (rcanF_lt' h2.1), key_can (hlt y hy), key_can h2.1]
    have a1 := (h3 y hy).1 rfl
    have a2 : keyV y ≤ keyV (endL .lt K) := by
      by_cases h0 : i = 0
      · subst h0
        rw [e] at e2
        have := congrArg keyV e2
        rw [key_can (hlt y hy), key_can h2.1] at this
        omega
      · have := (List.pairwise_iff_getElem.1 hs) 0 i (by omega) hi (by omega)
        rw [e, e2] at this
        unfold leK at this
        rwa [key_can (hlt y hy), key_can h2.1] at this
    omega
  · obtain ⟨h1, h2, h3⟩ := end_key (.inr rfl) hK hne
    rw [List.getD_eq_getElem?_getD, List.getElem?_eq_getElem (by omega), Option.getD_some]
    obtain ⟨y, hy, e⟩ := hmem (K.length - 1) (by omega)
    obtain ⟨i, hi, e2⟩ := hall _ h1
    rw [e, rkeyF_eq (rcanF_lt' (hlt y hy)), rkeyF_eq (rcanF_lt' h2.1), key_can (hlt y hy), key_can h2.1]
    have a1 := (h3 y hy).2 rfl
    have a2 : keyV (endL .gt K) ≤ keyV y := by
      by_cases h0 : i = K.length - 1
      · subst h0
        rw [e] at e2
        have := congrArg keyV e2
        rw [key_can (hlt y hy), key_can h2.1] at this
        omega
      · have := (List.pairwise_iff_getElem.1 hs) i (K.length - 1) hi (by omega) (by omega)
        rw [e, e2] at this
        unfold leK at this
        rwa [key_can (hlt y hy), key_can h2.1] at this
    omega
/-- How many are in the first bins. -/
def firstE (E K : List Nat) (i : Nat) : Nat := K.countP (fun f => decide (placeE E f < i))
theorem first_zero (E K : List Nat) : firstE E K 0 = 0 := by simp [firstE]
theorem first_step (E K : List Nat) (i : Nat) : firstE E K (i + 1) = firstE E K i + cntE E K i := by
  unfold firstE cntE
  induction K with
  | nil => rfl
  | cons f K ih =>
    rw [List.countP_cons, List.countP_cons, List.countP_cons, ih]
    by_cases h1 : placeE E f < i
    · have h2 : ¬ placeE E f = i := by omega
      simp [h1, h2, show placeE E f < i + 1 by omega]; omega
    · by_cases h2 : placeE E f = i
      · simp [h2]; omega
      · simp [h1, h2, show ¬ placeE E f < i + 1 by omega]
theorem first_all (E K : List Nat) : firstE E K (E.length + 1) = K.length := by
  unfold firstE
  refine List.countP_eq_length.2 (fun f _ => decide_eq_true ?_)
  have := place_le E f
  omega
theorem dig_form (l : List Nat) : ∃ f3 f4, digC (digL l) = [.int .i64 l.length, .int .i64 ((l.length : Int) - ((knownL l).length : Int)), .float .f64 (if (knownL l).length = 0 then (rcanF (endL .lt [])) else rcanF (endL .lt (knownL l))), .float .f64 (if (knownL l).length = 0 then (rcanF (endL .lt [])) else rcanF (endL .gt (knownL l))), .float .f64 f3, .float .f64 f4] := by
  unfold digL digC
  by_cases h : (knownL l).length = 0
  · rw [if_pos h, if_pos h, if_pos h, h]
    refine ⟨(rcanF (endL .lt [])), (rcanF (endL .lt [])), ?_⟩
    simp
  · rw [if_neg h, if_neg h, if_neg h]
    exact ⟨_, _, rfl⟩
/-- The mean of one number is that. -/
theorem dig_one {a : Nat} (ha : a < B64) : ∃ c0 c1 f1 f2 f3 f4, digC (digL [a]) = [.int .i64 c0, .int .i64 c1, .float .f64 f1, .float .f64 f2, .float .f64 f3, .float .f64 f4] ∧ rkeyF f3 = rkeyF a := by
  refine ⟨_, _, _, _, _, _, rfl, ?_⟩
  unfold digL
  cases hn : fnan a with
  | true =>
    have hk : knownL [a] = [] := by simp [knownL, hn]
    rw [hk]
    simp only [List.length_nil, if_true]
    rw [rkeyF_eq ha, rkeyF_eq nb_lt]
    unfold keyV
    rw [hn, if_pos rfl, if_pos (by decide +kernel)]
  | false =>
    have hk : knownL [a] = [a] := by simp [knownL, hn]
    rw [hk]
    simp only [List.length_cons, List.length_nil]
    rw [if_neg (by decide)]
    obtain ⟨r, hr, hrl, hrc⟩ := add_zero_left ha hn
    have hs : sumV [a] = rcanF a := by
      unfold sumV sumL
      simp only [List.foldl_cons, List.foldl_nil]
      unfold sumS
      rw [if_neg (by rw [hn]; decide)]
      simp only [Option.bind_some]
      rw [hr]
      exact hrc
    have hc := rcan_can ha
    have hcn : fnan (rcanF a) = false := by
      rw [rcanF_eq ha, if_neg (by rw [hn]; decide)]
      split
      · decide
      · exact hn
    have hm : meanO [a] = some (rcanF a) := by
      unfold meanO nF
      rw [hs, show floatOfInt .f64 (([a] : List Nat).length : Int) = 4607182418800017408 by rw [show (([a] : List Nat).length : Int) = 1 from rfl]; decide +kernel]
      exact div_one hc.1 hcn
    show rkeyF (vO (meanO [a])) = rkeyF a
    rw [hm]
    show rkeyF (rcanF (rcanF a)) = rkeyF a
    rw [hc.2, rkeyF_eq hc.1, rkeyF_eq ha, key_can ha]
end Go.Proofs.Ythkfjcfncobllaa
