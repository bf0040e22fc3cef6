import Derived.Test.YtapoechkbbklfaaBox2
import Derived.Lib.ConvBytes
namespace Go.Proofs.Ytapoechkbbklfaa
open Go.RowKit
/-! A region that draws its order and holds calls: what only reads is taken first, under 'the world has grown since'; each call moves that world up. -/
theorem wpAnyH_mono {P : Program} {L : Array Oper} {Q : Exit → Act → World → Prop} {md : Region.Mode} {S S' : World → Prop} (h : ∀ w, S' w → S w) :
    ∀ (fuel : Nat) (listed : Array Bool) (a : Act) (w : World), wpAnyH P md L Q S' fuel listed a w → wpAnyH P md L Q S fuel listed a w
  | 0, _, _, _, hh => hh
  | fuel + 1, _, _, _, hh => ⟨hh.1, fun i hi => wpOp_mono (fun a' w' h' => ⟨h _ h'.1, wpAnyH_mono h fuel _ a' w' h'.2⟩) (hh.2 i hi)⟩
/-- The world has grown since. -/
def Since (w : World) : World → Prop := fun W => Below w.heap.size w W
theorem since_drew (w : World) : Below w.heap.size w w.drew := ⟨rfl, rfl, rfl, Nat.le_refl _, fun _ _ => rfl⟩
theorem region_in {P : Program} {L : Array Oper} {Q : Exit → Act → World → Prop} {id : Nat} {a : Act} {w : World} (hm : P.follows .mixedOrders = true)
    (h : ∀ W, Below w.heap.size w W → wpAnyH P .any L Q (Since W) L.size (Array.replicate L.size false) a W) : (Code.region id L true).wp P Q a w :=
  wp_region_held_drew (S := Since w.drew) hm (Below.refl _ _) (fun _ => h w.drew (since_drew w))
theorem call_in {P : Program} {L : List Oper} {Q : Exit → Act → World → Prop} {md : Region.Mode} {i : Nat} {o : Oper} {fuel : Nat} {listed : Array Bool} {a : Act} {w : World} (hi : L[i]? = some o)
    (hr : Region.ready md L.toArray listed = [i]) (hw : Region.wanted o (yielded L.toArray a.tmps) = true)
    (h : ∀ K' : Act → World → Prop, Shut (∀ a w', Below w.heap.size w w' → wpAnyH P md L.toArray Q (Since w') fuel (listed.setIfInBounds i true) a w' → K' a w') → Oper.wp P o a w K' Q) :
    wpAnyH P md L.toArray Q (Since w) (fuel + 1) listed a w :=
  one_in hi hr (fun K' hK => by
    rw [if_pos hw]
    refine h K' (fun a' w' hb hh => hK a' w' hb (fun _ => ?_))
    exact wpAnyH_mono (fun W hW => (hb.trans (Below.mono hW hb.size) : Below w.heap.size w W)) _ _ _ _ hh)
/-! The same under any S, which may be told anew behind each call. -/
theorem region_inS {P : Program} {L : Array Oper} {Q : Exit → Act → World → Prop} {id : Nat} {a : Act} {w : World} (hm : P.follows .mixedOrders = true)
    (h : ∀ W, Below w.heap.size w W → W.heap = w.heap → wpAnyH P .any L Q (fun _ => True) L.size (Array.replicate L.size false) a W) : (Code.region id L true).wp P Q a w :=
  wp_region_held_drew (S := fun _ => True) hm trivial (fun _ => h w.drew (since_drew w) rfl)
theorem region_sw {P : Program} {L : Array Oper} {Q : Exit → Act → World → Prop} {md : Region.Mode} {S : World → Prop} {fuel : Nat} {listed : Array Bool} {a : Act} {w : World} (S' : World → Prop) (h : ∀ w, S' w → S w)
    (hh : wpAnyH P md L Q S' fuel listed a w) : wpAnyH P md L Q S fuel listed a w := wpAnyH_mono h _ _ _ _ hh
theorem call_inS {P : Program} {L : List Oper} {Q : Exit → Act → World → Prop} {md : Region.Mode} {S : World → Prop} {i : Nat} {o : Oper} {fuel : Nat} {listed : Array Bool} {a : Act} {w : World} (hi : L[i]? = some o)
    (hr : Region.ready md L.toArray listed = [i]) (hw : Region.wanted o (yielded L.toArray a.tmps) = true)
    (h : ∀ K' : Act → World → Prop, Shut (∀ (S' : World → Prop) a w', S' w' → (∀ W, S' W → S W) → wpAnyH P md L.toArray Q S' fuel (listed.setIfInBounds i true) a w' → K' a w') → Oper.wp P o a w K' Q) :
    wpAnyH P md L.toArray Q S (fuel + 1) listed a w :=
  one_in hi hr (fun K' hK => by
    rw [if_pos hw]
    refine h K' (fun S' a' w' h1 h2 hh => hK a' w' (h2 _ h1) (fun _ => ?_))
    exact wpAnyH_mono h2 _ _ _ _ hh)
/-- What is read lies below one's own. -/
theorem OwnG.past {w w0 w' : World} {ok okd : Nat → Prop} {base : Nat} {e : TypeId} {s S : Sh} {v : Value} {l : List s.Ty} {x : S.Ty} {cs : List Value} (h : OwnG w0 base ok e s v l) (hr : Rd w okd S x cs) (hk : ∀ k, okd k → ok k ∧ k < base) (hw : Below w.heap.size w w') :
    Rd w' (fun k => ok k ∧ v.ownBlock ≠ some k) S x cs :=
  hr.of (fun _ _ _ hc => cell_below hw hc) (fun k hd _ => ⟨(hk k hd).1, fun e => by obtain ⟨xs, ho, _⟩ := h; have := own_base ho k e; have := (hk k hd).2; omega⟩)
/-- '[]byte(s)': the text's bytes, in a block of their own. -/
theorem bytesWorld_below (w : World) (e : TypeId) (s : ByteArray) : Below w.heap.size w (Lib.bytesWorld w e s) := by
  refine ⟨?_, ?_, ?_, by rw [Lib.bytesWorld_size]; omega, fun k hk => Lib.bytesWorld_at_old w e s k hk⟩
  all_goals rfl
theorem bytesWorld_bs (w : World) (e : TypeId) (s : ByteArray) (hs : s.size ≤ 9223372036854775807) : Bs (Lib.bytesWorld w e s) (some ⟨w.heap.size, 0, none⟩) s.size s.data.toList := by
  refine ⟨hs, by simp, (fun e => by cases e), fun ad e j u hu => ?_⟩
  injection e with e
  subst e
  rw [add_plain]
  have hj : j < s.size := by
    have := (List.getElem?_eq_some_iff.1 hu).1
    simpa using this
  rw [Lib.bytesWorld_cell w _ s j hj]
  rw [List.getElem?_map] at hu
  rw [List.getD_eq_getElem?_getD]
  cases hx : s.data.toList[j]? with
  | none => rw [hx] at hu; cases hu
  | some x =>
    rw [hx] at hu
    injection hu with hu
    rw [← hu]
    rfl
section
variable {P : Program} {ops : Array Oper} {rest : List Oper} {o : Oper} {a : Act} {Q : Exit → Act → World → Prop} {K : Act → World → Prop}
theorem wpo_bytes {W : World} (src dst e : TypeId) (x : Operand) (ho : o.op = .convert src dst x) (s : ByteArray) (hx : a.eval x = .string s) (hs : P.underlying src = some .string) (hd : P.underlying dst = some (.slice e)) (he : P.underlying e = some (.int .u8)) (hl : s.size ≤ 9223372036854775807)
    (h : ∀ w1 cap, Bs w1 (some ⟨W.heap.size, 0, none⟩) s.size s.data.toList → Below W.heap.size W w1 → W.heap.size < w1.heap.size → K (a.put o.dst (.slice (some ⟨W.heap.size, 0, none⟩) s.size cap)) w1) : Oper.wp P o a W K Q := by
  unfold Oper.wp execOp
  simp only [ho, hx, Lib.run_convert_string_bytes W src dst e s hs hd he, Sem.run_bind, Sem.run_pure, Result.andThen_ok]
  exact h _ _ (bytesWorld_bs W e s hl) (bytesWorld_below W e s) (by rw [Lib.bytesWorld_size]; omega)
theorem wpL_bytes {W : World} (hgd : o.guard = none) (src dst e : TypeId) (x : Operand) (ho : o.op = .convert src dst x) (s : ByteArray) (hx : a.eval x = .string s) (hs : P.underlying src = some .string) (hd : P.underlying dst = some (.slice e)) (he : P.underlying e = some (.int .u8)) (hl : s.size ≤ 9223372036854775807)
    (h : ∀ w1 cap, Bs w1 (some ⟨W.heap.size, 0, none⟩) s.size s.data.toList → Below W.heap.size W w1 → W.heap.size < w1.heap.size → wpList P ops Q rest (a.put o.dst (.slice (some ⟨W.heap.size, 0, none⟩) s.size cap)) w1) : wpList P ops Q (o :: rest) a W :=
  wpList_plain hgd fun _ hK => wpo_bytes src dst e x ho s hx hs hd he hl (fun w1 cap h1 h2 h3 => hK _ _ (h w1 cap h1 h2 h3))
end
end Go.Proofs.Ytapoechkbbklfaa
