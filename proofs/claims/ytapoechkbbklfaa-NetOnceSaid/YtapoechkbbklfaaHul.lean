import Derived.Test.YtapoechkbbklfaaBox2
namespace Go.Proofs.Ytapoechkbbklfaa
open Go.RowKit
/-! A region that draws its order, in which a cell is read that is written at the end: F holds till the operation j0 has come up, which waits for the reading. -/
section
variable {P : Program} {ops : Array Oper} {Q : Exit → Act → World → Prop} {md : Region.Mode} {F : World → Prop} {j0 : Nat}
def wpAnyU (P : Program) (md : Region.Mode) (ops : Array Oper) (Q : Exit → Act → World → Prop) (j0 : Nat) (F : World → Prop) : Nat → Array Bool → Act → World → Prop
  | 0, l, a, w => Region.ready md ops l = [] ∧ Q .normal a w
  | fuel + 1, l, a, w =>
    (Region.ready md ops l = [] → Q .normal a w) ∧
    ∀ i ∈ Region.ready md ops l, wpOp P ops Q i (fun a' w' => ((l.setIfInBounds i true).getD j0 true = false → F w') ∧ wpAnyU P md ops Q j0 F fuel (l.setIfInBounds i true) a' w') a w
theorem wpAny_of_U : ∀ (fuel : Nat) (listed : Array Bool) (a : Act) (w : World), wpAnyU P md ops Q j0 F fuel listed a w → wpAny P md ops Q fuel listed a w
  | 0, _, _, _, h => h
  | fuel + 1, _, _, _, h => ⟨h.1, fun i hi => wpOp_mono (fun a' w' h' => wpAny_of_U fuel _ a' w' h'.2) (h.2 i hi)⟩
theorem wpAnyU_mono {F' : World → Prop} (h : ∀ w, F' w → F w) : ∀ (fuel : Nat) (listed : Array Bool) (a : Act) (w : World), wpAnyU P md ops Q j0 F' fuel listed a w → wpAnyU P md ops Q j0 F fuel listed a w
  | 0, _, _, _, hh => hh
  | fuel + 1, _, _, _, hh => ⟨hh.1, fun i hi => wpOp_mono (fun a' w' h' => ⟨fun e => h _ (h'.1 e), wpAnyU_mono h fuel _ a' w' h'.2⟩) (hh.2 i hi)⟩
/-- An operation that waits for i can't come up ahead of it. -/
theorem waits_not {i j0 : Nat} {listed : Array Bool} (hw : ∃ oj, ops[j0]? = some oj ∧ ∃ e ∈ oj.after, Region.binds md e = true ∧ e.on = i) (hun : listed.getD i true = false) : j0 ∉ Region.ready md ops listed := by
  intro h
  obtain ⟨_, o, ho, hall⟩ := mem_ready.1 h
  obtain ⟨oj, hoj, e, he, hb, heq⟩ := hw
  rw [ho] at hoj
  injection hoj with hoj
  subst hoj
  have h1 := hall e he hb
  rw [heq] at h1
  rcases Nat.lt_or_ge i listed.size with h' | h'
  · simp [h'] at hun h1; rw [hun] at h1; cases h1
  · simp [Array.getElem?_eq_none h'] at h1
theorem wpAnyU_first {i : Nat} {oi : Oper} {v : Value} (hi : ops[i]? = some oi) (hsel : ∀ (j : Nat) (o : Oper) cs b, ops[j]? = some o → o.op ≠ .select cs b)
    (hQ : ∀ c a w, Q (.panic c) (a.put oi.dst v) w → Q (.panic c) a w) (G : World → Prop) (hji : i ≠ j0) (hG : (∃ oj, ops[j0]? = some oj ∧ ∃ e ∈ oj.after, Region.binds md e = true ∧ e.on = i) ∧ (∀ w, F w → G w) ∨ ∀ w, G w) :
    ∀ (fuel : Nat) (listed : Array Bool) (a : Act) (w : World),
      (∀ j oj, ops[j]? = some oj → j ≠ i → listed.getD j true = false → (∀ e ∈ oj.after, Region.binds md e = true → e.on ≠ i) → oi.apart ops oj = true) →
      i ∈ Region.ready md ops listed → YieldsIf P ops G oi v a → (listed.getD j0 true = false → F w) → (listed.getD j0 true = false ∨ ∀ w, G w) →
      wpAnyU P md ops Q j0 F fuel (listed.setIfInBounds i true) (a.put oi.dst v) w → wpAnyU P md ops Q j0 F (fuel + 1) listed a w := by
  intro fuel
  induction fuel with
  | zero =>
    intro listed a w _ hr hy hS hl H
    have hGw : G w := by
      rcases hG with ⟨_, h⟩ | h
      · rcases hl with hl | hl
        · exact h w (hS hl)
        · exact hl w
      · exact h w
    refine ⟨fun h => (by rw [h] at hr; cases hr), fun j hj => ?_⟩
    by_cases e : j = i
    · subst e; exact hy.wpOp hi hGw ⟨fun e => hS (by rw [getD_set_ne true hji] at e; exact e), H⟩
    · have := ready_mono hj e
      rw [H.1] at this
      cases this
  | succ fuel ih =>
    intro listed a w hfree hr hy hS hl H
    have hGw : G w := by
      rcases hG with ⟨_, h⟩ | h
      · rcases hl with hl | hl
        · exact h w (hS hl)
        · exact hl w
      · exact h w
    refine ⟨fun h => (by rw [h] at hr; cases hr), fun j hj => ?_⟩
    by_cases e : j = i
    · subst e; exact hy.wpOp hi hGw ⟨fun e => hS (by rw [getD_set_ne true hji] at e; exact e), H⟩
    · have h1 := H.2 j (ready_mono hj e)
      obtain ⟨hjun, oj, hoj, hall⟩ := mem_ready.1 hj
      have hnot : ∀ e ∈ oj.after, Region.binds md e = true → e.on ≠ i := fun e he hb heq => by
        have h1 := hall e he hb
        have h0 := (mem_ready.1 hr).1
        rw [heq] at h1
        rcases Nat.lt_or_ge i listed.size with h' | h'
        · simp [h'] at h0 h1; rw [h0] at h1; cases h1
        · simp [Array.getElem?_eq_none h'] at h1
      have h2 := wpOp_putIf hoj (hfree j oj hoj e hjun hnot) (fun cs b => hsel i oi cs b hi) (fun cs b => hsel j oj cs b hoj) hQ hy h1
      have hfree' : ∀ k ok, ops[k]? = some ok → k ≠ i → (listed.setIfInBounds j true).getD k true = false →
          (∀ e ∈ ok.after, Region.binds md e = true → e.on ≠ i) → oi.apart ops ok = true := fun k ok hk hki hun hno => by
        refine hfree k ok hk hki ?_ hno
        by_cases hjk : j = k
        · subst hjk; exact hjun
        · rw [getD_set_ne true hjk] at hun; exact hun
      refine wpOp_mono (fun a' w' h3 => ?_) h2
      have hF' : (listed.setIfInBounds j true).getD j0 true = false → F w' := fun e0 => h3.2.1 (by
        rw [Array.setIfInBounds_comm _ _ (Ne.symm e), getD_set_ne true hji]; exact e0)
      refine ⟨hF', ih (listed.setIfInBounds j true) a' w' hfree' (ready_mono hr (Ne.symm e)) h3.1 hF' ?_ ?_⟩
      · rcases hl with hl | hl
        · rcases hG with ⟨hwt, _⟩ | h
          · refine .inl ?_
            have hjj : j ≠ j0 := fun e0 => waits_not hwt (mem_ready.1 hr).1 (e0 ▸ hj)
            rw [getD_set_ne true hjj]
            exact hl
          · exact .inr h
        · exact .inr hl
      · rw [Array.setIfInBounds_comm _ _ e]
        exact h3.2.2
end
section
variable {P : Program} {L : List Oper} {Q : Exit → Act → World → Prop} {md : Region.Mode} {F : World → Prop} {j0 i : Nat} {o : Oper} {v : Value} {fuel : Nat} {listed : Array Bool} {a : Act} {w : World}
theorem region_inU {id : Nat} (j0 : Nat) (F : World → Prop) (hm : P.follows .mixedOrders = true)
    (h : ∀ W, Below w.heap.size w W → W.heap = w.heap → wpAnyU P .any L.toArray Q j0 F L.toArray.size (Array.replicate L.toArray.size false) a W) : (Code.region id L.toArray true).wp P Q a w :=
  wp_region_any hm (wpAny_of_U _ _ _ _ (h w.drew ⟨rfl, rfl, rfl, Nat.le_refl _, fun _ _ => rfl⟩ rfl))
def waitsB (md : Region.Mode) (ops : Array Oper) (j0 i : Nat) : Bool := match ops[j0]? with | some oj => oj.after.toList.any (fun e => Region.binds md e && e.on == i) | none => false
theorem waits_of {ops : Array Oper} {md : Region.Mode} {j0 i : Nat} (h : waitsB md ops j0 i = true) : ∃ oj, ops[j0]? = some oj ∧ ∃ e ∈ oj.after, Region.binds md e = true ∧ e.on = i := by
  unfold waitsB at h
  cases ho : ops[j0]? with
  | none => rw [ho] at h; cases h
  | some oj =>
    rw [ho] at h
    obtain ⟨e, he, hb⟩ := List.any_eq_true.1 h
    simp only [Bool.and_eq_true, beq_iff_eq] at hb
    exact ⟨oj, rfl, e, Array.mem_toList_iff.1 he, hb.1, hb.2⟩
theorem offU {b : Bool} {p : Prop} (h : b = true) : b = false → p := fun e => by rw [h] at e; cases e
theorem takeU (hi : L[i]? = some o) (hs : Region.noSelect L.toArray = true) (hf : Region.free md L.toArray listed i = true) (hr : (Region.ready md L.toArray listed).contains i = true)
    (hQ : ∀ c a w, Q (.panic c) (a.put o.dst v) w → Q (.panic c) a w) (hj : (i == j0) = false) (hwt : waitsB md L.toArray j0 i = true) (hl : listed.getD j0 true = false)
    (hy : YieldsIf P L.toArray F o v a) (hF : F w)
    (h : wpAnyU P md L.toArray Q j0 F fuel (listed.setIfInBounds i true) (a.put o.dst v) w) : wpAnyU P md L.toArray Q j0 F (fuel + 1) listed a w :=
  wpAnyU_first (by rw [List.getElem?_toArray]; exact hi) (Region.noSelect_spec hs) hQ F (by simpa using hj) (.inl ⟨waits_of hwt, fun _ h => h⟩) fuel listed a w (Region.free_spec (by rw [List.getElem?_toArray]; exact hi) hf) (by simpa using hr) hy (fun _ => hF) (.inl hl) h
theorem takeT (hi : L[i]? = some o) (hs : Region.noSelect L.toArray = true) (hf : Region.free md L.toArray listed i = true) (hr : (Region.ready md L.toArray listed).contains i = true)
    (hQ : ∀ c a w, Q (.panic c) (a.put o.dst v) w → Q (.panic c) a w) (hj : (i == j0) = false)
    (hy : YieldsIf P L.toArray (fun _ => True) o v a) (hF : listed.getD j0 true = false → F w)
    (h : wpAnyU P md L.toArray Q j0 F fuel (listed.setIfInBounds i true) (a.put o.dst v) w) : wpAnyU P md L.toArray Q j0 F (fuel + 1) listed a w :=
  wpAnyU_first (by rw [List.getElem?_toArray]; exact hi) (Region.noSelect_spec hs) hQ (fun _ => True) (by simpa using hj) (.inr fun _ => trivial) fuel listed a w (Region.free_spec (by rw [List.getElem?_toArray]; exact hi) hf) (by simpa using hr) hy hF (.inr fun _ => trivial) h
theorem callU (hi : L[i]? = some o) (hr : Region.ready md L.toArray listed = [i]) (hw : Region.wanted o (yielded L.toArray a.tmps) = true)
    (h : ∀ K' : Act → World → Prop, Shut (∀ (F' : World → Prop) a w', ((listed.setIfInBounds i true).getD j0 true = false → F' w') → (∀ W, F' W → F W) → wpAnyU P md L.toArray Q j0 F' fuel (listed.setIfInBounds i true) a w' → K' a w') → Oper.wp P o a w K' Q) :
    wpAnyU P md L.toArray Q j0 F (fuel + 1) listed a w := by
  refine ⟨fun h0 => (by rw [hr] at h0; cases h0), fun k hk => ?_⟩
  rw [hr] at hk
  simp at hk
  subst hk
  refine wpOp_step (by rw [List.getElem?_toArray]; exact hi) (fun K' hK => ?_)
  rw [if_pos hw]
  exact h K' (fun F' a' w' h1 h2 h3 => hK a' w' ⟨fun e => h2 _ (h1 e), wpAnyU_mono h2 _ _ _ _ h3⟩)
theorem doneU (hr : Region.ready md L.toArray listed = []) (h : Q .normal a w) : ∀ fuel, wpAnyU P md L.toArray Q j0 F fuel listed a w
  | 0 => ⟨hr, h⟩
  | _ + 1 => ⟨fun _ => h, by rw [hr]; simp⟩
end
end Go.Proofs.Ytapoechkbbklfaa
