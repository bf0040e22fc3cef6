import Derived.Test.YtapoechkbbklfaaTrn
import Derived.RangeFuncNested
import Derived.RangeFuncBound
import Derived.RangeFuncCalls
import Derived.RangeFuncLeaves
import Derived.Shelf.Abstract
import Derived.Shelf.RegionOpen
import Derived.OwnWalkIn
import Derived.TacticsInMore
import Derived.LoopNIn
import Derived.LoopIn
namespace Go.Proofs.Ytapoechkbbklfaa
open Go.RowKit
set_option linter.unusedVariables false
/-! A range over a function whose iterator tells, of each thing that it hands over, what is so in the world of that moment: 'V'. -/
def SeqV {α : Type} (F : Fence) (n : Nat) (P : Program) (g : Nat) (lb : Array Value) (encs : α → Array Value) (V : List α → α → World → Prop) (Kp : World → World → Prop) (S Sp : List α → Prop) (W : World) : Prop :=
  ∀ (l : Nat) (J Jx : List α → World → Prop), AbidesFrom W.heap.size J → AbidesFrom W.heap.size Jx →
    (∀ pre x X, J pre X → V pre x X → YieldAt F (n - 1) P l (encs x) X fun e Y => (e = .returned (.bool true) ∧ J (pre ++ [x]) Y ∧ Kp X Y) ∨ (e = .returned (.bool false) ∧ Jx (pre ++ [x]) Y)) →
    J [] W →
    CallsIn F n P g (#[.func (.yield l) #[] #[]] ++ lb) W fun e Y => (∃ v, e = .returned v) ∧ ((∃ xs, S xs ∧ J xs Y) ∨ (∃ pre, Sp pre ∧ Jx pre Y))
section
variable {F : Fence} {n : Nat} {P : Program}
theorem abides_and {α : Type} {w : World} {B r d : Nat} {o o' : Obj} {I : α → World → Prop} (hI : OwnFrom w.heap.size I) (hB : w.heap.size ≤ B) (ho : o.isWalk = false) (ho' : o'.isWalk = false) : AbidesFrom B (fun s W => I s W ∧ W.heap[r]? = some o ∧ W.heap[d]? = some o') := by
  intro s X Y row h hg hr
  have other : ∀ {i : Nat} {u : Obj}, X.heap[i]? = some u → u.isWalk = false → Y.heap[i]? = some u := by
    intro i u hu hw
    refine (hg.block i (blk_lt hu) (fun e => ?_)).trans hu
    obtain ⟨_, z, hz, hzw⟩ := hr i e.symm
    rw [hu] at hz
    cases hz
    rw [hw] at hzw
    cases hzw
  refine ⟨hI s X Y row h.1 hg (fun r e => ?_), other h.2.1 ho, other h.2.2 ho'⟩
  obtain ⟨h1, z, hz, hw⟩ := hr r e
  exact ⟨Nat.le_trans hB h1, z, hz, Obj.not_cells_of_walk hw⟩
theorem wpIn_rangeV {α : Type} {g : Operand} {ps : Array Tmp} {assign body : Code} {Q : Exit → Act → World → Prop} {a : Act} {w : World}
    (hro : F.round = none) (h1 : 1 ≤ n) {gf : Nat} {lb : Array Value} (hg : a.eval g = .func (.func gf) #[] lb) (hFg : F.fn gf) (eg : ∀ args w, (callFunc gf args).run P w = .ok (.enter gf args) w)
    {encs : α → Array Value} {V : List α → α → World → Prop} {Kp : World → World → Prop} {S Sp : List α → Prop}
    (hseq : ∀ W, Below w.heap.size w W → W.heap.size = w.heap.size + 2 → SeqV F (n - 1) P gf lb encs V Kp S Sp W)
    (hV : ∀ pre, OwnFrom w.heap.size (V pre))
    (hKt : ∀ {A B C : World}, Kp A B → Kp B C → Kp A C) (hKb : ∀ (W : World) (o : Obj), w.heap.size + 1 < W.heap.size → Kp W (W.putObj (w.heap.size + 1) o)) (hps : ∀ x, (encs x).size = ps.size)
    (I : List α → World → Prop) (Ix : Code → List α → World → Prop) (hI : OwnFrom w.heap.size I) (hIx : ∀ c, OwnFrom w.heap.size (Ix c)) (h0 : I [] w) (Ax : α → Act → World → Prop) (hAx : ∀ x, OwnFrom w.heap.size (Ax x))
    (hassign : ∀ (l : Nat) (pre : List α) (x : α) (W : World) (K : Act → World → Prop), I pre W → V pre x W → (∀ a' W', KeepsFrom w.heap.size W W' → Kp W W' → I pre W' → V pre x W' → Ax x a' W' → K a' W') →
      assign.wpIn (F.inRound l) (n - 1 - 1) P (Exit.then K (fun _ _ _ => False)) { tmps := (ps.zip (encs x)).foldl (fun t (p, v) => t.setIfInBounds p v) a.tmps, defers := [] } W)
    (hbody : ∀ (l : Nat) (pre : List α) (x : α) (a' : Act) (W : World), I pre W → V pre x W → Ax x a' W → body.wpIn (F.inRound l) (n - 1 - 1) P (ownPostG w.heap.size Kp I Ix (pre ++ [x]) W) a' W)
    (hdone : ∀ (D : Nat) (xs : List α) (W : World), w.heap.size ≤ D → S xs → I xs W → W.heap[D]? = some (.deferred (some [])) → Q .normal { a with defers := { target := .collected D, args := #[] } :: a.defers } W)
    (hstop : ∀ (D : Nat) (c : Code) (pre : List α) (W : World), w.heap.size ≤ D → Sp pre → Ix c pre W → W.heap[D]? = some (.deferred (some [])) → c.wpIn F n P Q { a with defers := { target := .collected D, args := #[] } :: a.defers } W) :
    (Code.rangeFunc g ps assign body).wpIn F n P Q a w := by
  refine wpIn_rangeFunc fun fn hfn => ?_
  rw [hro]
  -- the loop's record in each of its states, at w.heap.size + 1; ahead of it the block of the deferred calls
  let rc : LoopState → Option Code → Obj := fun st pe => .loop { state := st, pending := pe, fn, tmps := a.tmps, params := ps, assign, body, defers := w.heap.size }
  have hrc : ∀ st pe, (rc st pe).isCells = false ∧ (rc st pe).isWalk = false := fun st pe => ⟨rfl, rfl⟩
  have hb1 : Below w.heap.size w (w.alloc (.deferred (some []))) := (Below.refl _ w).alloc (Nat.le_refl _) _
  have hz1 : (w.alloc (.deferred (some []))).heap.size = w.heap.size + 1 := by simp
  obtain ⟨X, hX⟩ : ∃ X, (w.alloc (.deferred (some []))).alloc (rc .ready none) = X := ⟨_, rfl⟩
  have hbX : Below w.heap.size w X := by rw [← hX]; exact hb1.alloc (by omega) _
  have hzX : X.heap.size = w.heap.size + 2 := by rw [← hX]; simp
  have hR : X.heap[w.heap.size + 1]? = some (rc .ready none) := by
    rw [← hX, ← hz1]
    exact World.alloc_heap_new _ _
  have hD : X.heap[w.heap.size]? = some (.deferred (some [])) := by
    rw [← hX]
    exact (Below.heap_alloc _ _ _ (by omega)).trans (World.alloc_heap_new w _)
  have hIX : I [] X := by
    rw [← hX]
    exact hI.alloc _ (hI.alloc _ h0)
  refine ⟨w.heap.size + 1, [{ target := .collected w.heap.size, args := #[] }], X, { target := .fn (.func gf) lb, args := #[.func (.yield (w.heap.size + 1)) #[] #[]] }, X, gf, #[.func (.yield (w.heap.size + 1)) #[] #[]] ++ lb, X, ?_, ?_, ?_, ?_, fun _ => h1, ?_⟩
  · rw [← hX]
    exact run_enterLoop_outer _ _ _ _ _
  · simp only [resolve, hg]
    simp [go_sem]
  · intro f hf
    simp [Target.leads] at hf
    rw [← hf]
    exact hFg
  · simp [invoke, go_sem, eg]
  -- the iterator, with the record and the block beside the invariant
  have step : ∀ (pre : List α) (x : α) (Y : World), (I pre Y ∧ Y.heap[w.heap.size + 1]? = some (rc .ready none) ∧ Y.heap[w.heap.size]? = some (.deferred (some []))) → V pre x Y →
      YieldAt F (n - 1 - 1) P (w.heap.size + 1) (encs x) Y fun e Z => (e = .returned (.bool true) ∧ (I (pre ++ [x]) Z ∧ Z.heap[w.heap.size + 1]? = some (rc .ready none) ∧ Z.heap[w.heap.size]? = some (.deferred (some []))) ∧ Kp Y Z) ∨
        (e = .returned (.bool false) ∧ ∃ c, Ix c (pre ++ [x]) Z ∧ Z.heap[w.heap.size + 1]? = some (rc .done (some c)) ∧ Z.heap[w.heap.size]? = some (.deferred (some []))) := by
    rintro pre x Y ⟨hi, hr, hd⟩ hv
    refine ⟨fn, _, assign, body, run_yield (args := encs x) hr (hps x), roundIn_of_wpIn hfn (hassign _ pre x Y _ hi hv (fun a' Y' hks hkp0 hi' hv' hax' => ?_))⟩
    have hr := hks.same _ _ (by omega) hr (hrc _ _).1
    have hd := hks.same _ _ (Nat.le_refl _) hd rfl
    have hlt := blk_lt hr
    refine ⟨_, run_beginRound hr rfl, ?_⟩
    obtain ⟨Y2, hY2⟩ : ∃ Y2, Y'.putObj (w.heap.size + 1) (rc .busy none) = Y2 := ⟨_, rfl⟩
    have hr2 : Y2.heap[w.heap.size + 1]? = some (rc .busy none) := by rw [← hY2]; exact World.putObj_heap_same hlt
    have hd2 : Y2.heap[w.heap.size]? = some (.deferred (some [])) := by rw [← hY2]; exact (World.putObj_heap_other (by omega)).trans hd
    have hk2 : Kp Y Y2 := hKt hkp0 (by rw [← hY2]; exact hKb Y' _ hlt)
    have hi2 : I pre Y2 := by rw [← hY2]; exact hI.putObj _ hi' (by omega) hr (hrc _ _).1
    have hv2 : V pre x Y2 := by rw [← hY2]; exact (hV pre).putObj _ hv' (by omega) hr (hrc _ _).1
    have hax2 : Ax x a' Y2 := by rw [← hY2]; exact (hAx x).putObj _ hax' (by omega) hr (hrc _ _).1
    show body.wpIn _ _ P _ _ (Y'.putObj (w.heap.size + 1) (rc .busy none))
    rw [hY2]
    refine wpIn_mono (hbody _ pre x a' Y2 hi2 hv2 hax2) ?_
    -- the round's end: the record is turned back, or bears the jump
    have fin : ∀ (jump : Option Code) (Z : World), KeepsFrom w.heap.size Y2 Z →
        (Instr.endRound (w.heap.size + 1) jump).run P Z = .ok (.bool jump.isNone) (Z.putObj (w.heap.size + 1) (rc (if jump.isNone then .ready else .done) jump)) ∧ Z.heap[w.heap.size + 1]? = some (rc .busy none) ∧
        (Z.putObj (w.heap.size + 1) (rc (if jump.isNone then .ready else .done) jump)).heap[w.heap.size + 1]? = some (rc (if jump.isNone then .ready else .done) jump) ∧
        (Z.putObj (w.heap.size + 1) (rc (if jump.isNone then .ready else .done) jump)).heap[w.heap.size]? = some (.deferred (some [])) := by
      intro jump Z hk
      have hr3 := hk.same _ _ (by omega) hr2 (hrc _ _).1
      exact ⟨run_endRound (P := P) jump hr3, hr3, World.putObj_heap_same (blk_lt hr3), (World.putObj_heap_other (by omega)).trans (hk.same _ _ (Nat.le_refl _) hd2 rfl)⟩
    have left : ∀ (c : Code) (Z : World), KeepsFrom w.heap.size Y2 Z → Ix c (pre ++ [x]) Z → ∃ v Z', (Instr.endRound (w.heap.size + 1) (some c)).run P Z = .ok v Z' ∧ ((Ending.returned v = .returned (.bool true) ∧ (I (pre ++ [x]) Z' ∧ Z'.heap[w.heap.size + 1]? = some (rc .ready none) ∧ Z'.heap[w.heap.size]? = some (.deferred (some []))) ∧ Kp Y Z') ∨
        (Ending.returned v = .returned (.bool false) ∧ ∃ c, Ix c (pre ++ [x]) Z' ∧ Z'.heap[w.heap.size + 1]? = some (rc .done (some c)) ∧ Z'.heap[w.heap.size]? = some (.deferred (some [])))) := by
      intro c Z hk hx
      obtain ⟨e1, e2, e3, e4⟩ := fin (some c) Z hk
      exact ⟨_, _, e1, .inr ⟨rfl, c, (hIx c).putObj _ hx (by omega) e2 (hrc _ _).1, e3, e4⟩⟩
    rintro e b Z hp
    cases e with
    | normal =>
      obtain ⟨hk, hkp, hi3⟩ := hp
      obtain ⟨e1, e2, e3, e4⟩ := fin none Z hk
      exact ⟨_, _, e1, .inl ⟨rfl, ⟨hI.putObj _ hi3 (by omega) e2 (hrc _ _).1, e3, e4⟩, hKt (hKt hk2 hkp) (hKb Z _ (blk_lt e2))⟩⟩
    | ret => exact left .ret Z hp.1 hp.2
    | exit id => exact left (.exit id) Z hp.1 hp.2
    | goto t => exact left (.goto t) Z hp.1 hp.2
    | panic ch => exact hp.elim
    | outgrown => exact hp.elim
  refine (hseq X hbX hzX (w.heap.size + 1)
    (fun pre W => I pre W ∧ W.heap[w.heap.size + 1]? = some (rc .ready none) ∧ W.heap[w.heap.size]? = some (.deferred (some [])))
    (fun pre W => ∃ c, Ix c pre W ∧ W.heap[w.heap.size + 1]? = some (rc .done (some c)) ∧ W.heap[w.heap.size]? = some (.deferred (some [])))
    (abides_and hI (by omega) rfl rfl)
    (fun s A B row ⟨c, h⟩ hg hr => ⟨c, abides_and (hIx c) (by omega) rfl rfl s A B row h hg hr⟩)
    step ⟨hIX, hR, hD⟩).mono ?_
  rintro e Y ⟨⟨v, rfl⟩, ⟨xs, hS, hi, hr, hd⟩ | ⟨pre, hSp, c, hi, hr, hd⟩⟩
  · exact ⟨none, _, run_endLoop (P := P) hr (by simp), hdone _ xs _ (Nat.le_refl _) hS (hI.putObj _ hi (by omega) hr (hrc _ _).1) ((World.putObj_heap_other (by omega)).trans hd)⟩
  · exact ⟨some c, _, run_endLoop (P := P) hr (by simp), hstop _ c pre _ (Nat.le_refl _) hSp ((hIx c).putObj _ hi (by omega) hr (hrc _ _).1) ((World.putObj_heap_other (by omega)).trans hd)⟩
end
end Go.Proofs.Ytapoechkbbklfaa
