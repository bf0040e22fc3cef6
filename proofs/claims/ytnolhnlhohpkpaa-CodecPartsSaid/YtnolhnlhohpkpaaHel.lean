import Derived.Test.YtnolhnlhohpkpaaBox2
namespace Go.Proofs.Ytnolhnlhohpkpaa
open Go.RowKit
/-! A region that draws its order and holds calls: what only reads is taken first, under 'the world has grown since'; each call moves that world up. -/
theorem wpAnyH_mono {P : Program} {L : Array Oper} {Q : Exit → Act → World → Prop} {md : Region.Mode} {S S' : World → Prop} (h : ∀ w, S' w → S w) :
    ∀ (fuel : Nat) (listed : Array Bool) (a : Act) (w : World), wpAnyH P md L Q S' fuel listed a w → wpAnyH P md L Q S fuel listed a w
  | 0, _, _, _, hh => hh
  | fuel + 1, _, _, _, hh => ⟨hh.1, fun i hi => wpOp_mono (fun a' w' h' => ⟨h _ h'.1, wpAnyH_mono h fuel _ a' w' h'.2⟩) (hh.2 i hi)⟩
/-- The world has grown since. -/
def Since (w : World) : World → Prop := fun W => Below w.heap.size w W
theorem since_drew (w : World) : Below w.heap.size w w.drew := ⟨rfl, rfl, rfl, Nat.le_refl _, fun _ _ => rfl⟩
theorem region_in {P : Program} {L : Array Oper} {Q : Exit → Act → World → Prop} {id : Nat} {a : Act} {w : World} (hm : P.follows .mixedOrders = true)
    (h : ∀ W, Below w.heap.size w W → wpAnyH P .any L Q (Since W) L.size (Array.replicate L.size false) a W) : (Code.region id L true).wp P Q a w :=
  wp_region_held_drew (S := Since w.drew) hm (Below.refl _ _) (fun _ => h w.drew (since_drew w))
theorem call_in {P : Program} {L : List Oper} {Q : Exit → Act → World → Prop} {md : Region.Mode} {i : Nat} {o : Oper} {fuel : Nat} {listed : Array Bool} {a : Act} {w : World} (hi : L[i]? = some o)
    (hr : Region.ready md L.toArray listed = [i]) (hw : Region.wanted o (yielded L.toArray a.tmps) = true)
    (h : ∀ K' : Act → World → Prop, Shut (∀ a w', Below w.heap.size w w' → wpAnyH P md L.toArray Q (Since w') fuel (listed.setIfInBounds i true) a w' → K' a w') → Oper.wp P o a w K' Q) :
    wpAnyH P md L.toArray Q (Since w) (fuel + 1) listed a w :=
  one_in hi hr (fun K' hK => by
    rw [if_pos hw]
    refine h K' (fun a' w' hb hh => hK a' w' hb (fun _ => ?_))
    exact wpAnyH_mono (fun W hW => (hb.trans (Below.mono hW hb.size) : Below w.heap.size w W)) _ _ _ _ hh)
end Go.Proofs.Ytnolhnlhohpkpaa
