import Derived.Test.YtfjnpiahloncmaaProg
import Derived.Test.YtfjnpiahloncmaaRd
import Derived.WalkKit
import Derived.WalkMore
import Derived.WalkLawsBesides
import Derived.WalkSpells
import Derived.KernelRfl
import Derived.Lib.Hide
import Derived.Outline
namespace Go.Proofs.Ytfjnpiahloncmaa
open Go.RowKit

theorem one_cells_bool {w w' : World} {ok ok' : Nat → Prop} : ∀ {l : List Bool} {cs : List Value}, RdL w ok .bool l cs → RdL w' ok' .bool l cs
  | [], _, h => h
  | x :: l, cs, h => by
    obtain ⟨c1, c2, h1, h2, h3⟩ := h
    exact ⟨c1, c2, h1, h2, one_cells_bool h3⟩

theorem one_cells_byte {w w' : World} {ok ok' : Nat → Prop} : ∀ {l : List UInt8} {cs : List Value}, RdL w ok .byte l cs → RdL w' ok' .byte l cs
  | [], _, h => h
  | x :: l, cs, h => by
    obtain ⟨c1, c2, h1, h2, h3⟩ := h
    exact ⟨c1, c2, h1, h2, one_cells_byte h3⟩

set_option maxRecDepth 20000 in
theorem info_bool : (Try.prog.info? 4).map (fun i => (i.zero, i.size, i.bytes)) = some (some (.bool false), 1, 1) := by kernel_rfl
set_option maxRecDepth 20000 in
theorem info_byte : (Try.prog.info? 5).map (fun i => (i.zero, i.size, i.bytes)) = some (some (.int .u8 0), 1, 1) := by kernel_rfl
end Go.Proofs.Ytfjnpiahloncmaa
