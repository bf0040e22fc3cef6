import Derived.Test.YtapoechkbbklfaaBox
import Derived.Laws.IdiomStrings
namespace Go.Proofs.Ytapoechkbbklfaa
open Go.RowKit
/-- Two operations may come up, in either order. -/
theorem two_in {P : Program} {L : List Oper} {Q : Exit → Act → World → Prop} {md : Region.Mode} {S : World → Prop} {i j : Nat} {o p : Oper} {fuel : Nat} {listed : Array Bool} {a : Act} {w : World} (hi : L[i]? = some o) (hj : L[j]? = some p)
    (hr : Region.ready md L.toArray listed = [i, j])
    (h : ∀ K' : Act → World → Prop, Shut (∀ a w, S w → (S w → wpAnyH P md L.toArray Q S fuel (listed.setIfInBounds i true) a w) → K' a w) → if Region.wanted o (yielded L.toArray a.tmps) = true then Oper.wp P o a w K' Q else K' (a.put o.dst undef) w)
    (h2 : ∀ K' : Act → World → Prop, Shut (∀ a w, S w → (S w → wpAnyH P md L.toArray Q S fuel (listed.setIfInBounds j true) a w) → K' a w) → if Region.wanted p (yielded L.toArray a.tmps) = true then Oper.wp P p a w K' Q else K' (a.put p.dst undef) w) :
    wpAnyH P md L.toArray Q S (fuel + 1) listed a w :=
  wpAnyH_ready hr (by simp) (AllReadyH.cons (by rw [List.getElem?_toArray]; exact hi) h (AllReadyH.cons (by rw [List.getElem?_toArray]; exact hj) h2 AllReadyH.nil))
section
variable {P : Program} {o : Oper} {a : Act} {K : Act → World → Prop} {Q : Exit → Act → World → Prop}
theorem wpo_store {W : World} (ty : TypeId) (x y : Operand) (ho : o.op = .store ty x y) (b : Nat) (hx : a.eval x = .pointer (some ⟨b, 0, none⟩)) (c c0 : Array Value) (t : TypeId) (hy : a.eval y = .agg c)
    (hg : W.heap[b]? = some (.cells c0 t (0, 0))) (hs : c.size = c0.size) (hi : (P.info? ty).map (·.size) = some c.size) (h1 : ∀ v ∈ c.toList, v.oneCell' = true)
    (h : ∀ w1, w1.heap[b]? = some (.cells c t (0, 0)) → W.grownBy w1 (some b) → K (a.put o.dst undef) w1) : Oper.wp P o a W K Q := by
  obtain ⟨i1, i2, i3, i4, i5, i6⟩ := setCells_blk b t c.toList 0 W c0 hg (by simpa using hs)
  refine wp_store_mid ty x y ho b 0 c hx hy (fun j hj => ?_) hi (Array.all_eq_true_iff_forall_mem.2 (fun v hv => h1 v (by simpa using hv))) (h _ ?_ ⟨i4, i5, i6, by rw [i3]; exact Nat.le_refl _, fun k _ hk => i2 k (fun e => hk (by rw [e]))⟩)
  · rw [Nat.zero_add]
    refine ⟨?_, blk_free hg j⟩
    rw [cell_of_row W b j c0 t (0, 0) hg, Array.getElem?_eq_getElem (by omega)]; rfl
  · rw [i1]; simp
end
set_option maxRecDepth 20000 in
/-- A text out of bytes that are read. -/
theorem conv_bs {w : World} {A : Option Addr} {n c : Nat} {xs : List UInt8} (h : Bs w A n xs) : (convert 35 9 (.slice A n c)).run Try.prog w = .ok (.string ⟨xs.toArray⟩) w := by
  have hl := h.len
  cases A with
  | none =>
    obtain rfl : n = 0 := h.2.2.1 rfl
    obtain rfl : xs = [] := List.eq_nil_of_length_eq_zero hl
    exact run_convert_bytes_nil w 35 5 Try.underlying35 Try.underlying5 0 c 9 Try.underlying9
  | some ad =>
    subst hl
    exact run_convert_bytes_back w 35 9 5 ad c xs Try.underlying35 Try.underlying5 Try.underlying9 (fun j hj => h.2.2.2 ad rfl j _ (by rw [List.getElem?_map, List.getElem?_eq_getElem hj]; rfl))
end Go.Proofs.Ytapoechkbbklfaa
