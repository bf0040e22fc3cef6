import Derived.Test.YtapoechkbbklfaaHul
namespace Go.Proofs.Ytapoechkbbklfaa
open Go.RowKit
/-! A region that draws its order, walked order by order: where one operation alone can come up, where two can. -/
section
variable {P : Program} {o o2 : Oper} {a : Act} {w : World} {Q : Exit → Act → World → Prop} {md : Region.Mode} {L : List Oper} {i j fuel : Nat} {listed : Array Bool}
theorem wpo_load {K : Act → World → Prop} (ty : TypeId) (x : Operand) (ho : o.op = .load ty x) (ad : Addr) (hx : a.eval x = .pointer (some ad)) (cs : List Value) (d : TypeDesc) (hc : At w ad 0 cs)
    (hu : P.underlying ty = some d) (hd : d.isRow = true) (hi : (P.info? ty).map (·.size) = some cs.length) (h : K (a.put o.dst (.agg cs.toArray)) w) : Oper.wp P o a w K Q := by
  have hy := yields_load (P := P) (ops := #[]) (S := fun W => W = w) (o := { o with guard := none }) (a := a) rfl ty x ho ad hx cs d (fun W e => by rw [e]; exact hc) hu hd hi
  unfold Oper.wp
  rcases hy with ⟨_, hr⟩ | ⟨hn, _⟩
  · have := hr w rfl
    simp only [execOp] at this ⊢
    rw [this]
    exact h
  · exact absurd hn (by simp [Region.wanted])
theorem region_inV {id : Nat} (hm : P.follows .mixedOrders = true)
    (h : ∀ W, Below w.heap.size w W → wpAny P .any L.toArray Q L.toArray.size (Array.replicate L.toArray.size false) a W) : (Code.region id L.toArray true).wp P Q a w :=
  wp_region_any hm (h w.drew ⟨rfl, rfl, rfl, Nat.le_refl _, fun _ _ => rfl⟩)
theorem callV (hi : L[i]? = some o) (hr : Region.ready md L.toArray listed = [i]) (hw : Region.wanted o (yielded L.toArray a.tmps) = true)
    (h : ∀ K' : Act → World → Prop, Shut (∀ a w', wpAny P md L.toArray Q fuel (listed.setIfInBounds i true) a w' → K' a w') → Oper.wp P o a w K' Q) :
    wpAny P md L.toArray Q (fuel + 1) listed a w := by
  refine ⟨fun h0 => (by rw [hr] at h0; cases h0), fun k hk => ?_⟩
  rw [hr] at hk
  simp at hk
  subst hk
  refine wpOp_step (by rw [List.getElem?_toArray]; exact hi) (fun K' hK => ?_)
  rw [if_pos hw]
  exact h K' hK
theorem callV2 (hi : L[i]? = some o) (hj : L[j]? = some o2) (hr : Region.ready md L.toArray listed = [i, j]) (hw : Region.wanted o (yielded L.toArray a.tmps) = true) (hw2 : Region.wanted o2 (yielded L.toArray a.tmps) = true)
    (h : ∀ K' : Act → World → Prop, Shut (∀ a w', wpAny P md L.toArray Q fuel (listed.setIfInBounds i true) a w' → K' a w') → Oper.wp P o a w K' Q)
    (h2 : ∀ K' : Act → World → Prop, Shut (∀ a w', wpAny P md L.toArray Q fuel (listed.setIfInBounds j true) a w' → K' a w') → Oper.wp P o2 a w K' Q) :
    wpAny P md L.toArray Q (fuel + 1) listed a w := by
  refine ⟨fun h0 => (by rw [hr] at h0; cases h0), fun k hk => ?_⟩
  rw [hr] at hk
  simp only [List.mem_cons, List.not_mem_nil, or_false] at hk
  rcases hk with rfl | rfl
  · refine wpOp_step (by rw [List.getElem?_toArray]; exact hi) (fun K' hK => ?_)
    rw [if_pos hw]
    exact h K' hK
  · refine wpOp_step (by rw [List.getElem?_toArray]; exact hj) (fun K' hK => ?_)
    rw [if_pos hw2]
    exact h2 K' hK
theorem doneV (hr : Region.ready md L.toArray listed = []) (h : Q .normal a w) : ∀ fuel, wpAny P md L.toArray Q fuel listed a w
  | 0 => ⟨hr, h⟩
  | _ + 1 => ⟨fun _ => h, by rw [hr]; simp⟩
end
end Go.Proofs.Ytapoechkbbklfaa
