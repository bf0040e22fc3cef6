import Derived.Test.YthkfjcfncobllaaFltT
namespace Go.Proofs.Ythkfjcfncobllaa
open Go.RowKit FP
set_option linter.unusedVariables false
set_option linter.unusedSimpArgs false
/-! Numbers in order: plain. -/
abbrev B64 : Nat := 18446744073709551616
def CanN (f : Nat) : Prop := f < B64 ∧ rcanF f = f
theorem rcanF_lt' {a : Nat} (h : a < B64) : rcanF a < B64 := by rw [← can_same h]; exact canF_lt h
theorem rcan_can {a : Nat} (h : a < B64) : CanN (rcanF a) := by
  refine ⟨rcanF_lt' h, ?_⟩
  have h2 := rcanF_lt' h
  rw [rcanF_eq h2]
  by_cases hn : fnan a = true
  · have e : rcanF a = 9221120237041090561 := by rw [rcanF_eq h, if_pos hn]
    rw [e, if_pos (by decide)]
  · by_cases hv : val a = 0
    · have e : rcanF a = 0 := by rw [rcanF_eq h, if_neg hn, if_pos hv]
      rw [e, if_neg (by decide), if_pos (by decide)]
    · have e : rcanF a = a := by rw [rcanF_eq h, if_neg hn, if_neg hv]
      rw [e, if_neg hn, if_neg hv]
theorem key_can {a : Nat} (h : a < B64) : keyV (rcanF a) = keyV a := by
  have h2 := rcanF_lt' h
  have h3 := of_key h
  have h4 := of_key h2
  have hr := keyV_range a h
  rw [keyF_eq h] at h3
  have := key_of (k := keyV a) hr.1 hr.2.1 (by rw [h3])
  rw [h3, keyF_eq h2] at this
  exact this
theorem key_inj {a b : Nat} (ha : CanN a) (hb : CanN b) (h : keyV a = keyV b) : a = b := by
  have h1 := of_key ha.1
  have h2 := of_key hb.1
  rw [keyF_eq ha.1, h, ← keyF_eq hb.1, h2] at h1
  injection h1 with h1 _
  rw [← ha.2, ← hb.2, h1]
def leK (x y : Nat) : Prop := keyV x ≤ keyV y
/-- In order, canonical each. -/
def sortK (l : List Nat) : List Nat := (l.map rcanF).mergeSort (fun x y => decide (keyV x ≤ keyV y))
theorem perm_uniq : ∀ {a b : List Nat}, (∀ x ∈ a, CanN x) → a.Pairwise leK → b.Pairwise leK → a.Perm b → a = b
  | [], b, _, _, _, hp => (List.Perm.nil_eq hp)
  | x :: a, [], _, _, _, hp => by have := hp.length_eq; simp at this
  | x :: a, y :: b, hc, ha, hb, hp => by
    have hx : x ∈ y :: b := hp.subset List.mem_cons_self
    have hy : y ∈ x :: a := hp.symm.subset List.mem_cons_self
    have h1 : keyV x ≤ keyV y := by
      rcases List.mem_cons.1 hy with e | hy
      · rw [e]; exact Int.le_refl _
      · exact (List.pairwise_cons.1 ha).1 _ hy
    have h2 : keyV y ≤ keyV x := by
      rcases List.mem_cons.1 hx with e | hx
      · rw [e]; exact Int.le_refl _
      · exact (List.pairwise_cons.1 hb).1 _ hx
    obtain rfl : x = y := key_inj (hc x List.mem_cons_self) (hc y hy) (by omega)
    rw [perm_uniq (fun z hz => hc z (List.mem_cons_of_mem _ hz)) (List.pairwise_cons.1 ha).2 (List.pairwise_cons.1 hb).2 ((List.perm_cons x).1 hp)]
theorem sortK_perm (l : List Nat) : (sortK l).Perm (l.map rcanF) := List.mergeSort_perm _ _
theorem sortK_sorted (l : List Nat) : (sortK l).Pairwise leK := by
  have := List.pairwise_mergeSort (le := fun x y : Nat => decide (keyV x ≤ keyV y)) (by intro a b c; simp; omega) (by intro a b; simp; omega) (l.map rcanF)
  exact this.imp (fun h => by unfold leK; simpa using h)
theorem sortK_len (l : List Nat) : (sortK l).length = l.length := by rw [(sortK_perm l).length_eq, List.length_map]
theorem sortK_can {l : List Nat} (hl : ∀ x ∈ l, x < B64) : ∀ x ∈ sortK l, CanN x := fun x hx => by
  obtain ⟨y, hy, rfl⟩ := List.mem_map.1 ((sortK_perm l).subset hx)
  exact rcan_can (hl y hy)
theorem sortK_uniq {l r : List Nat} (hl : ∀ x ∈ l, x < B64) (hp : r.Perm (l.map rcanF)) (hs : r.Pairwise leK) : r = sortK l :=
  perm_uniq (fun x hx => by obtain ⟨y, hy, rfl⟩ := List.mem_map.1 (hp.subset hx); exact rcan_can (hl y hy)) hs (sortK_sorted l) (hp.trans (sortK_perm l).symm)
/-- One more among those in order: behind all that are not greater. -/
theorem ins_sorted {f i : Nat} {o : List Nat} (hs : o.Pairwise leK) (h1 : ∀ x ∈ o.drop i, keyV f < keyV x) (h2 : ∀ x ∈ o.take i, keyV x ≤ keyV f) : (o.take i ++ f :: o.drop i).Pairwise leK := by
  rw [← List.take_append_drop i o] at hs
  obtain ⟨a, b, c⟩ := List.pairwise_append.1 hs
  refine List.pairwise_append.2 ⟨a, List.pairwise_cons.2 ⟨fun x hx => Int.le_of_lt (h1 x hx), b⟩, fun x hx y hy => ?_⟩
  rcases List.mem_cons.1 hy with rfl | hy
  · exact h2 x hx
  · exact c x hx y hy
theorem ins_perm {f i : Nat} {o : List Nat} : (o.take i ++ f :: o.drop i).Perm (f :: o) := by
  have h := List.perm_middle (a := f) (l₁ := o.take i) (l₂ := o.drop i)
  rwa [List.take_append_drop] at h
theorem take_le {f i : Nat} {o : List Nat} (hs : o.Pairwise leK) (h : i = 0 ∨ ∃ y, o[i - 1]? = some y ∧ keyV y ≤ keyV f) (hi : i ≤ o.length) : ∀ x ∈ o.take i, keyV x ≤ keyV f := by
  rcases h with rfl | ⟨y, hy, hle⟩
  · intro x hx; simp at hx
  · intro x hx
    obtain ⟨j, hj, rfl⟩ := List.mem_iff_getElem.1 hx
    rw [List.length_take] at hj
    rw [List.getElem_take]
    obtain ⟨h3, h4⟩ := List.getElem?_eq_some_iff.1 hy
    by_cases he : j = i - 1
    · subst he; rw [h4]; exact hle
    · have := (List.pairwise_iff_getElem.1 hs) j (i - 1) (by omega) h3 (by omega)
      rw [h4] at this
      exact Int.le_trans this hle
def knownL (l : List Nat) : List Nat := l.filter (fun f => !fnan f)
theorem known_lt {l : List Nat} (hl : ∀ x ∈ l, x < B64) : ∀ x ∈ knownL l, x < B64 := fun x hx => hl x (List.mem_filter.1 hx).1
theorem known_nan {l : List Nat} : ∀ x ∈ knownL l, fnan x = false := fun x hx => by simpa using (List.mem_filter.1 hx).2
def rankL (l : List Nat) (num den : Int) : Nat × Bool :=
  if (knownL l).length = 0 ∨ den < 1 ∨ 1000 < den ∨ num < 0 ∨ den < num then (0, false) else ((sortK (knownL l)).getD ((((knownL l).length : Int) - 1) * num / den).toNat 0, true)
end Go.Proofs.Ythkfjcfncobllaa
