/-
  No cell of these rows narrows 'for every input' (looked for: loops, veiled, ifaces, maps, wideKeys, modest, calm, conditions, laid).
  DERIVED. THE GIVEN ROWS OF THIS SEAT. 6 by the template 'for every input the law returns true; each argument reads behind the call as it read before'; 0 by the template 'total and deterministic' (their statements: YtapoechkbbklfaaTotals.lean).
  GIVEN WITH THE SEED: the statements are not yours to turn. If you find one false, say at which input.
  Laid BY PROGRAM, IN A SANDBOX (cutbox-rows.mjs): the forced cells as the released guide's own fill.sh prints them over the translation 51ae3984d0809efc… (all of the seat's roots in one cut). By AI agents, Wed Nov 11 2026. No macro, syntax, notation, axiom, sorry.
-/
import Derived.Test.YtapoechkbbklfaaChecked
import GoSem.Claim
import GoSem.ClaimJoined
import GoSem.ClaimMapViews
import Derived.JoinedTies
import Derived.KernelRfl
namespace Go.Proofs.Ytapoechkbbklfaa
/- THE CELL 'sum', in the pinned program and in every row, IS THE sha256 OF THE DUMP (.gsa) THAT YtapoechkbbklfaaProg.lean LOADS. Nothing in Lean hashes anything: it is a label: what it is worth is what the hold of that sum in a sandbox is worth. -/
noncomputable def Try.pinned : Pinned := { name := "ytapoechkbbklfaa", sum := "51ae3984d0809efcb4bcd43f4a408cbb447908eca5e69c32a8ce06ae80ac241c", checked := Try.checked }
namespace Rows
def none {H : Type} : Left H := { results := [], args := [] }

/-- 'factotumlaw22.NetDoes': WHATEVER THE INPUT: true; the input reads as it did. -/
def netDoesSpec : ChangeSpec := { name := "netDoes", fn := fun _ => fun
  | [d1, d2, d3] => { results := [.lit (.bool true)], args := [d1, d2, d3] }
  | _ => none }
def netDoesRow : OpenClaim := { program := "ytapoechkbbklfaa", sum := "51ae3984d0809efcb4bcd43f4a408cbb447908eca5e69c32a8ce06ae80ac241c", func := "factotum/factotumlaw22.NetDoes", spec := "netDoes", unfollowed := true, recurses := true, apart := false }
def NetDoesSaid : Prop := netDoesRow.holds Try.pinned (OpenSpec.ofChange netDoesSpec)

/-- ITS FALSE NEIGHBOUR: 'it returns false'. Refute it at one input. -/
def netDoesWrong : ChangeSpec := { name := "netDoes", fn := fun _ => fun
  | [d1, d2, d3] => { results := [.lit (.bool false)], args := [d1, d2, d3] }
  | _ => none }
def NetDoesWrongFalsely : Prop := netDoesRow.holds Try.pinned (OpenSpec.ofChange netDoesWrong)

/-- 'factotumlaw22.NetOwn': WHATEVER THE INPUT: true; the input reads as it did. -/
def netOwnSpec : ChangeSpec := { name := "netOwn", fn := fun _ => fun
  | [d] => { results := [.lit (.bool true)], args := [d] }
  | _ => none }
def netOwnRow : OpenClaim := { program := "ytapoechkbbklfaa", sum := "51ae3984d0809efcb4bcd43f4a408cbb447908eca5e69c32a8ce06ae80ac241c", func := "factotum/factotumlaw22.NetOwn", spec := "netOwn", unfollowed := true, recurses := true, apart := false }
def NetOwnSaid : Prop := netOwnRow.holds Try.pinned (OpenSpec.ofChange netOwnSpec)

/-- ITS FALSE NEIGHBOUR: 'it returns false'. Refute it at one input. -/
def netOwnWrong : ChangeSpec := { name := "netOwn", fn := fun _ => fun
  | [d] => { results := [.lit (.bool false)], args := [d] }
  | _ => none }
def NetOwnWrongFalsely : Prop := netOwnRow.holds Try.pinned (OpenSpec.ofChange netOwnWrong)

/-- 'factotumlaw22.NetOnce': WHATEVER THE INPUT: true; the input reads as it did. -/
def netOnceSpec : ChangeSpec := { name := "netOnce", fn := fun _ => fun
  | [d1, d2] => { results := [.lit (.bool true)], args := [d1, d2] }
  | _ => none }
def netOnceRow : OpenClaim := { program := "ytapoechkbbklfaa", sum := "51ae3984d0809efcb4bcd43f4a408cbb447908eca5e69c32a8ce06ae80ac241c", func := "factotum/factotumlaw22.NetOnce", spec := "netOnce", unfollowed := true, recurses := true, apart := false }
def NetOnceSaid : Prop := netOnceRow.holds Try.pinned (OpenSpec.ofChange netOnceSpec)

/-- ITS FALSE NEIGHBOUR: 'it returns false'. Refute it at one input. -/
def netOnceWrong : ChangeSpec := { name := "netOnce", fn := fun _ => fun
  | [d1, d2] => { results := [.lit (.bool false)], args := [d1, d2] }
  | _ => none }
def NetOnceWrongFalsely : Prop := netOnceRow.holds Try.pinned (OpenSpec.ofChange netOnceWrong)

/-- 'factotumlaw16.DedupDoes': WHATEVER THE INPUT: true; the input reads as it did. -/
def dedupDoesSpec : ChangeSpec := { name := "dedupDoes", fn := fun _ => fun
  | [d1, d2, d3] => { results := [.lit (.bool true)], args := [d1, d2, d3] }
  | _ => none }
def dedupDoesRow : OpenClaim := { program := "ytapoechkbbklfaa", sum := "51ae3984d0809efcb4bcd43f4a408cbb447908eca5e69c32a8ce06ae80ac241c", func := "factotum/factotumlaw16.DedupDoes", spec := "dedupDoes", unfollowed := true, recurses := true, apart := false }
def DedupDoesSaid : Prop := dedupDoesRow.holds Try.pinned (OpenSpec.ofChange dedupDoesSpec)

/-- ITS FALSE NEIGHBOUR: 'it returns false'. Refute it at one input. -/
def dedupDoesWrong : ChangeSpec := { name := "dedupDoes", fn := fun _ => fun
  | [d1, d2, d3] => { results := [.lit (.bool false)], args := [d1, d2, d3] }
  | _ => none }
def DedupDoesWrongFalsely : Prop := dedupDoesRow.holds Try.pinned (OpenSpec.ofChange dedupDoesWrong)

/-- 'factotumlaw16.DedupAll': WHATEVER THE INPUT: true; the input reads as it did. -/
def dedupAllSpec : ChangeSpec := { name := "dedupAll", fn := fun _ => fun
  | [d1, d2] => { results := [.lit (.bool true)], args := [d1, d2] }
  | _ => none }
def dedupAllRow : OpenClaim := { program := "ytapoechkbbklfaa", sum := "51ae3984d0809efcb4bcd43f4a408cbb447908eca5e69c32a8ce06ae80ac241c", func := "factotum/factotumlaw16.DedupAll", spec := "dedupAll", unfollowed := true, recurses := true, apart := false }
def DedupAllSaid : Prop := dedupAllRow.holds Try.pinned (OpenSpec.ofChange dedupAllSpec)

/-- ITS FALSE NEIGHBOUR: 'it returns false'. Refute it at one input. -/
def dedupAllWrong : ChangeSpec := { name := "dedupAll", fn := fun _ => fun
  | [d1, d2] => { results := [.lit (.bool false)], args := [d1, d2] }
  | _ => none }
def DedupAllWrongFalsely : Prop := dedupAllRow.holds Try.pinned (OpenSpec.ofChange dedupAllWrong)

/-- 'factotumlaw16.DedupOwn': WHATEVER THE INPUT: true; the input reads as it did. -/
def dedupOwnSpec : ChangeSpec := { name := "dedupOwn", fn := fun _ => fun
  | [d1, d2] => { results := [.lit (.bool true)], args := [d1, d2] }
  | _ => none }
def dedupOwnRow : OpenClaim := { program := "ytapoechkbbklfaa", sum := "51ae3984d0809efcb4bcd43f4a408cbb447908eca5e69c32a8ce06ae80ac241c", func := "factotum/factotumlaw16.DedupOwn", spec := "dedupOwn", unfollowed := true, recurses := true, apart := false }
def DedupOwnSaid : Prop := dedupOwnRow.holds Try.pinned (OpenSpec.ofChange dedupOwnSpec)

/-- ITS FALSE NEIGHBOUR: 'it returns false'. Refute it at one input. -/
def dedupOwnWrong : ChangeSpec := { name := "dedupOwn", fn := fun _ => fun
  | [d1, d2] => { results := [.lit (.bool false)], args := [d1, d2] }
  | _ => none }
def DedupOwnWrongFalsely : Prop := dedupOwnRow.holds Try.pinned (OpenSpec.ofChange dedupOwnWrong)

/- THE SECOND FORM. 'bulk': how many values and letters a reading holds, each counted each time it is reached (what is shared counts as often as it is met; a slice's spare places count too). A statement '..UptoSaid' is the law's where the arguments, and the package variables that the reading takes, are together of bulk at most 1048576: NARROWER than '..Said'. Prove '..Said' where nothing that the law and all that it calls make is longer than what came in: it says more and counts as full. Else prove '..UptoSaid'. A law counts once. -/
mutual
def uptoBulk {H : Type} : DataW H → Nat
  | .lit (.string bytes) => bytes.length + 1
  | .lit _ => 1
  | .nil => 1
  | .ptr d => uptoBulk d + 1
  | .slice elems spare => uptoBulkAll elems + uptoBulkAll spare + 1
  | .agg parts => uptoBulkAll parts + 1
  | .iface _ d => uptoBulk d + 1
  | .map entries => uptoBulkEntries entries + 1
  | .held _ => 1
def uptoBulkAll {H : Type} : List (DataW H) → Nat
  | [] => 0
  | d :: r => uptoBulk d + uptoBulkAll r
def uptoBulkEntries {H : Type} : List (Lit × DataW H) → Nat
  | [] => 0
  | x :: r => uptoBulkEntry x + uptoBulkEntries r
def uptoBulkEntry {H : Type} : Lit × DataW H → Nat
  | (.string bytes, d) => bytes.length + uptoBulk d + 1
  | (_, d) => uptoBulk d + 1
 end
def uptoSmall : (H : Type) → List (DataW H) → Bool := fun _ ds => decide (uptoBulkAll ds ≤ 1048576)
def OpenSpec.upto (s : _root_.Go.ChangeSpec) : _root_.Go.OpenSpec := { _root_.Go.OpenSpec.ofChange s with cond := some uptoSmall }

/-- 'factotumlaw22.NetDoes', WHERE WHAT IT READS IS OF BULK AT MOST 1048576: true; the input reads as it did. -/
def netDoesUptoRow : OpenClaim := { program := "ytapoechkbbklfaa", sum := "51ae3984d0809efcb4bcd43f4a408cbb447908eca5e69c32a8ce06ae80ac241c", func := "factotum/factotumlaw22.NetDoes", spec := "netDoes", unfollowed := true, recurses := true, apart := false, narrowed := true }
def NetDoesUptoSaid : Prop := netDoesUptoRow.holds Try.pinned (OpenSpec.upto netDoesSpec)

/-- 'factotumlaw22.NetOwn', WHERE WHAT IT READS IS OF BULK AT MOST 1048576: true; the input reads as it did. -/
def netOwnUptoRow : OpenClaim := { program := "ytapoechkbbklfaa", sum := "51ae3984d0809efcb4bcd43f4a408cbb447908eca5e69c32a8ce06ae80ac241c", func := "factotum/factotumlaw22.NetOwn", spec := "netOwn", unfollowed := true, recurses := true, apart := false, narrowed := true }
def NetOwnUptoSaid : Prop := netOwnUptoRow.holds Try.pinned (OpenSpec.upto netOwnSpec)

/-- 'factotumlaw22.NetOnce', WHERE WHAT IT READS IS OF BULK AT MOST 1048576: true; the input reads as it did. -/
def netOnceUptoRow : OpenClaim := { program := "ytapoechkbbklfaa", sum := "51ae3984d0809efcb4bcd43f4a408cbb447908eca5e69c32a8ce06ae80ac241c", func := "factotum/factotumlaw22.NetOnce", spec := "netOnce", unfollowed := true, recurses := true, apart := false, narrowed := true }
def NetOnceUptoSaid : Prop := netOnceUptoRow.holds Try.pinned (OpenSpec.upto netOnceSpec)

/-- 'factotumlaw16.DedupDoes', WHERE WHAT IT READS IS OF BULK AT MOST 1048576: true; the input reads as it did. -/
def dedupDoesUptoRow : OpenClaim := { program := "ytapoechkbbklfaa", sum := "51ae3984d0809efcb4bcd43f4a408cbb447908eca5e69c32a8ce06ae80ac241c", func := "factotum/factotumlaw16.DedupDoes", spec := "dedupDoes", unfollowed := true, recurses := true, apart := false, narrowed := true }
def DedupDoesUptoSaid : Prop := dedupDoesUptoRow.holds Try.pinned (OpenSpec.upto dedupDoesSpec)

/-- 'factotumlaw16.DedupAll', WHERE WHAT IT READS IS OF BULK AT MOST 1048576: true; the input reads as it did. -/
def dedupAllUptoRow : OpenClaim := { program := "ytapoechkbbklfaa", sum := "51ae3984d0809efcb4bcd43f4a408cbb447908eca5e69c32a8ce06ae80ac241c", func := "factotum/factotumlaw16.DedupAll", spec := "dedupAll", unfollowed := true, recurses := true, apart := false, narrowed := true }
def DedupAllUptoSaid : Prop := dedupAllUptoRow.holds Try.pinned (OpenSpec.upto dedupAllSpec)

/-- 'factotumlaw16.DedupOwn', WHERE WHAT IT READS IS OF BULK AT MOST 1048576: true; the input reads as it did. -/
def dedupOwnUptoRow : OpenClaim := { program := "ytapoechkbbklfaa", sum := "51ae3984d0809efcb4bcd43f4a408cbb447908eca5e69c32a8ce06ae80ac241c", func := "factotum/factotumlaw16.DedupOwn", spec := "dedupOwn", unfollowed := true, recurses := true, apart := false, narrowed := true }
def DedupOwnUptoSaid : Prop := dedupOwnUptoRow.holds Try.pinned (OpenSpec.upto dedupOwnSpec)

end Rows
end Go.Proofs.Ytapoechkbbklfaa
