import Derived.Test.YtnolhnlhohpkpaaBox2
namespace Go.Proofs.Ytnolhnlhohpkpaa
open Go.RowKit
/-! A region that draws its order and holds calls: what only reads is taken first, under 'the world has grown since'; each call moves that world up. -/
theorem wpAnyH_mono {P : Program} {L : Array Oper} {Q : Exit → Act → World → Prop} {md : Region.Mode} {S S' : World → Prop} (h : ∀ w, S' w → S w) :
    ∀ (fuel : Nat) (listed : Array Bool) (a : Act) (w : World), wpAnyH P md L Q S' fuel listed a w → wpAnyH P md L Q S fuel listed a w
  | 0, _, _, _, hh => hh
  | fuel + 1, _, _, _, hh => ⟨hh.1, fun i hi => wpOp_mono (fun a' w' h' => ⟨h _ h'.1, wpAnyH_mono h fuel _ a' w' h'.2⟩) (hh.2 i hi)⟩
/-- The world has grown since. -/
def Since (w : World) : World → Prop := fun W => Below w.heap.size w W
theorem since_drew (w : World) : Below w.heap.size w w.drew := ⟨rfl, rfl, rfl, Nat.le_refl _, fun _ _ => rfl⟩
theorem region_in {P : Program} {L : Array Oper} {Q : Exit → Act → World → Prop} {id : Nat} {a : Act} {w : World} (hm : P.follows .mixedOrders = true)
    (h : ∀ W, Below w.heap.size w W → wpAnyH P .any L Q (Since W) L.size (Array.replicate L.size false) a W) : (Code.region id L true).wp P Q a w :=
  wp_region_held_drew (S := Since w.drew) hm (Below.refl _ _) (fun _ => h w.drew (since_drew w))
theorem call_in {P : Program} {L : List Oper} {Q : Exit → Act → World → Prop} {md : Region.Mode} {i : Nat} {o : Oper} {fuel : Nat} {listed : Array Bool} {a : Act} {w : World} (hi : L[i]? = some o)
    (hr : Region.ready md L.toArray listed = [i]) (hw : Region.wanted o (yielded L.toArray a.tmps) = true)
    (h : ∀ K' : Act → World → Prop, Shut (∀ a w', Below w.heap.size w w' → wpAnyH P md L.toArray Q (Since w') fuel (listed.setIfInBounds i true) a w' → K' a w') → Oper.wp P o a w K' Q) :
    wpAnyH P md L.toArray Q (Since w) (fuel + 1) listed a w :=
  one_in hi hr (fun K' hK => by
    rw [if_pos hw]
    refine h K' (fun a' w' hb hh => hK a' w' hb (fun _ => ?_))
    exact wpAnyH_mono (fun W hW => (hb.trans (Below.mono hW hb.size) : Below w.heap.size w W)) _ _ _ _ hh)
/-! The same under any S, which may be told anew behind each call. -/
theorem region_inS {P : Program} {L : Array Oper} {Q : Exit → Act → World → Prop} {id : Nat} {a : Act} {w : World} (hm : P.follows .mixedOrders = true)
    (h : ∀ W, Below w.heap.size w W → W.heap = w.heap → wpAnyH P .any L Q (fun _ => True) L.size (Array.replicate L.size false) a W) : (Code.region id L true).wp P Q a w :=
  wp_region_held_drew (S := fun _ => True) hm trivial (fun _ => h w.drew (since_drew w) rfl)
theorem region_sw {P : Program} {L : Array Oper} {Q : Exit → Act → World → Prop} {md : Region.Mode} {S : World → Prop} {fuel : Nat} {listed : Array Bool} {a : Act} {w : World} (S' : World → Prop) (h : ∀ w, S' w → S w)
    (hh : wpAnyH P md L Q S' fuel listed a w) : wpAnyH P md L Q S fuel listed a w := wpAnyH_mono h _ _ _ _ hh
theorem call_inS {P : Program} {L : List Oper} {Q : Exit → Act → World → Prop} {md : Region.Mode} {S : World → Prop} {i : Nat} {o : Oper} {fuel : Nat} {listed : Array Bool} {a : Act} {w : World} (hi : L[i]? = some o)
    (hr : Region.ready md L.toArray listed = [i]) (hw : Region.wanted o (yielded L.toArray a.tmps) = true)
    (h : ∀ K' : Act → World → Prop, Shut (∀ (S' : World → Prop) a w', S' w' → (∀ W, S' W → S W) → wpAnyH P md L.toArray Q S' fuel (listed.setIfInBounds i true) a w' → K' a w') → Oper.wp P o a w K' Q) :
    wpAnyH P md L.toArray Q S (fuel + 1) listed a w :=
  one_in hi hr (fun K' hK => by
    rw [if_pos hw]
    refine h K' (fun S' a' w' h1 h2 hh => hK a' w' (h2 _ h1) (fun _ => ?_))
    exact wpAnyH_mono h2 _ _ _ _ hh)
/-- What is read lies below one's own. -/
theorem OwnG.past {w w0 w' : World} {ok okd : Nat → Prop} {base : Nat} {e : TypeId} {s S : Sh} {v : Value} {l : List s.Ty} {x : S.Ty} {cs : List Value} (h : OwnG w0 base ok e s v l) (hr : Rd w okd S x cs) (hk : ∀ k, okd k → ok k ∧ k < base) (hw : Below w.heap.size w w') :
    Rd w' (fun k => ok k ∧ v.ownBlock ≠ some k) S x cs :=
  hr.of (fun _ _ _ hc => cell_below hw hc) (fun k hd _ => ⟨(hk k hd).1, fun e => by obtain ⟨xs, ho, _⟩ := h; have := own_base ho k e; have := (hk k hd).2; omega⟩)
end Go.Proofs.Ytnolhnlhohpkpaa
