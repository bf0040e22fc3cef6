import Derived.Test.YtaagldmgbdiomaaDedW
namespace Go.Proofs.Ytaagldmgbdiomaa
open Go.RowKit
open Go.Maps
set_option maxRecDepth 20000 in
theorem new_nil (w : World) :
    Calls Try.prog 14 #[.slice none 0 0] w fun e w' => ∃ v, e = .returned v ∧ Tab w' v w.heap.size 0 (fun _ => 0) ∧ Below w.heap.size w w' := by
  have hmm := @run_makeMap Try.prog
  go_enter Try.func14, Try.ntmps14
  go_wp2_with fail
  go_loopw [11] (fun i wr => i = .int .i64 0 ∧ wr = (w.alloc (.map #[] 0)).alloc (.cells #[.map (some w.heap.size)] 102)) (fun _ _ => 0)
  case atStart => exact ⟨rfl, rfl⟩
  case round =>
    obtain ⟨rfl, rfl⟩ := hrel
    go_wp2_with fail
    go_ret
    refine ⟨_, rfl, ⟨w.heap.size + 1, w.heap.size, .map [], rfl, by omega, Nat.le_refl _, by omega, ?_, (World.ownsMap_made w Try.prog 23 _).alloc _, fun x => rfl⟩, ?_⟩
    · have h := World.cell?_alloc_mark (w.alloc (.map #[] 0)) (#[.map (some w.heap.size)]) 102 (0, 0) 0
      have e : (w.alloc (.map #[] 0)).heap.size = w.heap.size + 1 := Array.size_push _
      rw [e] at h
      exact h
    · exact ((Below.refl _ _).alloc (Nat.le_refl _) _).alloc (below_alloc1 w _).size _
end Go.Proofs.Ytaagldmgbdiomaa
