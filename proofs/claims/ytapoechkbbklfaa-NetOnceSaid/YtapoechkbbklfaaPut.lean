import Derived.Test.YtapoechkbbklfaaIns
namespace Go.Proofs.Ytapoechkbbklfaa
open Go.RowKit
set_option linter.unusedVariables false
/-! One cell of an own row of data is turned. -/
section
variable {w : World} {ok : Nat → Prop} {s : Sh}
theorem RdL.put : ∀ {l : List s.Ty} {xs : List Value} {i : Nat} {x : s.Ty}, RdL w ok s l xs → l[i]? = some x →
    ∃ cs, (∀ j v, cs[j]? = some v → xs[i * s.size + j]? = some v) ∧ Rd w ok s x cs ∧ ∀ j u y, j < s.size → Rd w ok s y (cs.set j u) → RdL w ok s (l.set i y) (xs.set (i * s.size + j) u)
  | [], _, i, x, _, hx => by simp at hx
  | y :: l, xs, 0, x, h, hx => by
    obtain ⟨c1, c2, rfl, h2, h3⟩ := h
    simp at hx
    subst hx
    have hl := h2.len
    refine ⟨c1, fun j v hv => ?_, h2, fun j u z hj hz => ⟨c1.set j u, c2, ?_, hz, h3⟩⟩
    · rw [Nat.zero_mul, Nat.zero_add, List.getElem?_append_left (List.getElem?_eq_some_iff.1 hv).1, hv]
    · rw [Nat.zero_mul, Nat.zero_add, List.set_append_left _ _ (by omega)]
  | y :: l, xs, i + 1, x, h, hx => by
    obtain ⟨c1, c2, rfl, h2, h3⟩ := h
    obtain ⟨cs, h4, h5, h6⟩ := h3.put (i := i) (x := x) (by simpa using hx)
    have hl := h2.len
    have e : ∀ j, (i + 1) * s.size + j = c1.length + (i * s.size + j) := fun j => by rw [hl, Nat.add_mul]; omega
    refine ⟨cs, fun j v hv => ?_, h5, fun j u z hj hz => ⟨c1, c2.set (i * s.size + j) u, ?_, h2, h6 j u z hj hz⟩⟩
    · rw [e, List.getElem?_append_right (by omega), Nat.add_sub_cancel_left]
      exact h4 j v hv
    · rw [e, List.set_append_right _ _ (by omega), Nat.add_sub_cancel_left]
/-- One element of an own row: where it lies, and the row when one of its cells is turned. -/
theorem OwnG.put {base : Nat} {e : TypeId} {v : Value} {l : List s.Ty} {i : Nat} {x : s.Ty} (h : OwnG w base ok e s v l) (hx : l[i]? = some x) :
    ∃ g c cs, v = .slice (some ⟨g, 0, none⟩) l.length c ∧ base ≤ g ∧ g < w.heap.size ∧ l.length ≤ c ∧ (∀ j u, cs[j]? = some u → w.cell? ⟨g, i * s.size + j, none⟩ = some u) ∧ Rd w anyB s x cs ∧ (∀ j, w.frozen? ⟨g, j, none⟩ = false) ∧
      ∀ j u y, j < s.size → Rd w (fun k => ok k ∧ k ≠ g) s y (cs.set j u) → OwnG (w.setCell ⟨g, i * s.size + j, none⟩ u) base ok e s v (l.set i y) := by
  obtain ⟨xs, ho, hr⟩ := h
  have hlen := hr.len
  obtain ⟨cs, h1, h2, h3⟩ := hr.put hx
  rcases ho.2 with ⟨rfl, h0⟩ | ⟨g, cap, cur, rfl, hb, hg, hnc, hcm, hcs, htk⟩
  · have : l = [] := List.eq_nil_of_length_eq_zero h0
    subst this
    simp at hx
  · have hi := (List.getElem?_eq_some_iff.1 hx).1
    refine ⟨g, cap, cs, rfl, hb, blk_lt hg, hnc, fun j u hu => by have := ho.cells (g := g) rfl _ _ (h1 j u hu); rwa [add_plain] at this, h2.any, fun j => blk_free hg j, fun j u y hj hy => ⟨xs.set (i * s.size + j) u, ⟨?_, .inr ⟨g, cap, _, by rw [List.length_set], hb, blk_set hg _ _, by simpa using hnc, hcm, by simpa using hcs, ?_⟩⟩, ?_⟩⟩
    · simpa using ho.1
    · rw [Array.toList_setIfInBounds, List.length_set, List.take_set, htk]
    · refine RdL.of (ok := fun k => ok k ∧ (Value.slice (some ⟨g, 0, none⟩) l.length cap).ownBlock ≠ some k) ?_ (fun k hk _ => hk) (h3 j u y hj (hy.weak (fun k hk _ => ⟨hk.1, fun e => hk.2 (by injection e with e; exact e.symm)⟩)))
      intro b z hb' hz
      rw [World.cell?_setCell_other _ _ _ _ (fun e => by subst e; exact hb'.2 rfl)]
      exact hz
/-- A slice of one datum, written out. -/
theorem OwnG.lit1 {base : Nat} {e : TypeId} {x : s.Ty} {cs : List Value} (h : Rd w ok s x cs) (hb : base ≤ w.heap.size) : OwnG (w.alloc (.cells cs.toArray e)) base ok e s (.slice (some ⟨w.heap.size, 0, none⟩) 1 1) [x] := by
  have hl := h.len
  refine ⟨cs, ⟨by simp [hl], .inr ⟨w.heap.size, 1, cs.toArray, rfl, hb, heap_alloc_new w _, by simp, by decide, by simp [hl], by rw [← hl]; simp⟩⟩, RdL.single (h.of (fun a v hk hc => cell_below (below_alloc1 w _) hc) (fun k hk hlt => ⟨hk, fun e => by have e : some w.heap.size = some k := e; injection e with e; omega⟩))⟩
end
end Go.Proofs.Ytapoechkbbklfaa
