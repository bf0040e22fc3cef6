/-
  No cell of these rows narrows 'for every input' (looked for: loops, veiled, ifaces, maps, wideKeys, modest, calm, conditions, laid).
  DERIVED. THE GIVEN ROWS OF THIS SEAT. 4 by the template 'for every input the law returns true; each argument reads behind the call as it read before'; 0 by the template 'total and deterministic' (their statements: YthkfjcfncobllaaTotals.lean).
  GIVEN WITH THE SEED: the statements are not yours to turn. If you find one false, say at which input.
  Laid BY PROGRAM, IN A SANDBOX (cutbox-rows.mjs): the forced cells as the released guide's own fill.sh prints them over the translation a391c34184faae98… (all of the seat's roots in one cut). By AI agents, Wed Nov 11 2026. No macro, syntax, notation, axiom, sorry.
-/
import Derived.Test.YthkfjcfncobllaaChecked
import GoSem.Claim
import GoSem.ClaimJoined
import GoSem.ClaimMapViews
import Derived.JoinedTies
import Derived.KernelRfl
namespace Go.Proofs.Ythkfjcfncobllaa
/- THE CELL 'sum', in the pinned program and in every row, IS THE sha256 OF THE DUMP (.gsa) THAT YthkfjcfncobllaaProg.lean LOADS. Nothing in Lean hashes anything: it is a label: what it is worth is what the hold of that sum in a sandbox is worth. -/
noncomputable def Try.pinned : Pinned := { name := "ythkfjcfncobllaa", sum := "a391c34184faae98046862539953edf40dbc0871b41a45ed77c7ba6d9fd118cc", checked := Try.checked }
namespace Rows
def none {H : Type} : Left H := { results := [], args := [] }

/-- 'factotumlaw34.StatsOf': WHATEVER THE INPUT: true; the input reads as it did. -/
def statsOfSpec : ChangeSpec := { name := "statsOf", fn := fun _ => fun
  | [d] => { results := [.lit (.bool true)], args := [d] }
  | _ => none }
def statsOfRow : OpenClaim := { program := "ythkfjcfncobllaa", sum := "a391c34184faae98046862539953edf40dbc0871b41a45ed77c7ba6d9fd118cc", func := "factotum/factotumlaw34.StatsOf", spec := "statsOf", inPlace := ["math.Float64bits", "math.Float64frombits"], unfollowed := true, recurses := true, apart := false }
def StatsOfSaid : Prop := statsOfRow.holds Try.pinned (OpenSpec.ofChange statsOfSpec)

/-- ITS FALSE NEIGHBOUR: 'it returns false'. Refute it at one input. -/
def statsOfWrong : ChangeSpec := { name := "statsOf", fn := fun _ => fun
  | [d] => { results := [.lit (.bool false)], args := [d] }
  | _ => none }
def StatsOfWrongFalsely : Prop := statsOfRow.holds Try.pinned (OpenSpec.ofChange statsOfWrong)

/-- 'factotumlaw34.StatsRanks': WHATEVER THE INPUT: true; the input reads as it did. -/
def statsRanksSpec : ChangeSpec := { name := "statsRanks", fn := fun _ => fun
  | [d1, d2, d3, d4] => { results := [.lit (.bool true)], args := [d1, d2, d3, d4] }
  | _ => none }
def statsRanksRow : OpenClaim := { program := "ythkfjcfncobllaa", sum := "a391c34184faae98046862539953edf40dbc0871b41a45ed77c7ba6d9fd118cc", func := "factotum/factotumlaw34.StatsRanks", spec := "statsRanks", inPlace := ["math.Float64bits", "math.Float64frombits"], unfollowed := true, recurses := true, apart := false }
def StatsRanksSaid : Prop := statsRanksRow.holds Try.pinned (OpenSpec.ofChange statsRanksSpec)

/-- ITS FALSE NEIGHBOUR: 'it returns false'. Refute it at one input. -/
def statsRanksWrong : ChangeSpec := { name := "statsRanks", fn := fun _ => fun
  | [d1, d2, d3, d4] => { results := [.lit (.bool false)], args := [d1, d2, d3, d4] }
  | _ => none }
def StatsRanksWrongFalsely : Prop := statsRanksRow.holds Try.pinned (OpenSpec.ofChange statsRanksWrong)

/-- 'factotumlaw34.StatsAll': WHATEVER THE INPUT: true; the input reads as it did. -/
def statsAllSpec : ChangeSpec := { name := "statsAll", fn := fun _ => fun
  | [d1, d2, d3] => { results := [.lit (.bool true)], args := [d1, d2, d3] }
  | _ => none }
def statsAllRow : OpenClaim := { program := "ythkfjcfncobllaa", sum := "a391c34184faae98046862539953edf40dbc0871b41a45ed77c7ba6d9fd118cc", func := "factotum/factotumlaw34.StatsAll", spec := "statsAll", inPlace := ["math.Float64bits", "math.Float64frombits"], unfollowed := true, recurses := true, apart := false }
def StatsAllSaid : Prop := statsAllRow.holds Try.pinned (OpenSpec.ofChange statsAllSpec)

/-- ITS FALSE NEIGHBOUR: 'it returns false'. Refute it at one input. -/
def statsAllWrong : ChangeSpec := { name := "statsAll", fn := fun _ => fun
  | [d1, d2, d3] => { results := [.lit (.bool false)], args := [d1, d2, d3] }
  | _ => none }
def StatsAllWrongFalsely : Prop := statsAllRow.holds Try.pinned (OpenSpec.ofChange statsAllWrong)

/-- 'factotumlaw34.StatsEsts': WHATEVER THE INPUT: true; the input reads as it did. -/
def statsEstsSpec : ChangeSpec := { name := "statsEsts", fn := fun _ => fun
  | [d1, d2] => { results := [.lit (.bool true)], args := [d1, d2] }
  | _ => none }
def statsEstsRow : OpenClaim := { program := "ythkfjcfncobllaa", sum := "a391c34184faae98046862539953edf40dbc0871b41a45ed77c7ba6d9fd118cc", func := "factotum/factotumlaw34.StatsEsts", spec := "statsEsts", inPlace := ["math.Float64bits", "math.Float64frombits"], unfollowed := true, recurses := true, apart := false }
def StatsEstsSaid : Prop := statsEstsRow.holds Try.pinned (OpenSpec.ofChange statsEstsSpec)

/-- ITS FALSE NEIGHBOUR: 'it returns false'. Refute it at one input. -/
def statsEstsWrong : ChangeSpec := { name := "statsEsts", fn := fun _ => fun
  | [d1, d2] => { results := [.lit (.bool false)], args := [d1, d2] }
  | _ => none }
def StatsEstsWrongFalsely : Prop := statsEstsRow.holds Try.pinned (OpenSpec.ofChange statsEstsWrong)

/- THE SECOND FORM. 'bulk': how many values and letters a reading holds, each counted each time it is reached (what is shared counts as often as it is met; a slice's spare places count too). A statement '..UptoSaid' is the law's where the arguments, and the package variables that the reading takes, are together of bulk at most 1048576: NARROWER than '..Said'. Prove '..Said' where nothing that the law and all that it calls make is longer than what came in: it says more and counts as full. Else prove '..UptoSaid'. A law counts once. -/
mutual
def uptoBulk {H : Type} : DataW H → Nat
  | .lit (.string bytes) => bytes.length + 1
  | .lit _ => 1
  | .nil => 1
  | .ptr d => uptoBulk d + 1
  | .slice elems spare => uptoBulkAll elems + uptoBulkAll spare + 1
  | .agg parts => uptoBulkAll parts + 1
  | .iface _ d => uptoBulk d + 1
  | .map entries => uptoBulkEntries entries + 1
  | .held _ => 1
def uptoBulkAll {H : Type} : List (DataW H) → Nat
  | [] => 0
  | d :: r => uptoBulk d + uptoBulkAll r
def uptoBulkEntries {H : Type} : List (Lit × DataW H) → Nat
  | [] => 0
  | x :: r => uptoBulkEntry x + uptoBulkEntries r
def uptoBulkEntry {H : Type} : Lit × DataW H → Nat
  | (.string bytes, d) => bytes.length + uptoBulk d + 1
  | (_, d) => uptoBulk d + 1
 end
def uptoSmall : (H : Type) → List (DataW H) → Bool := fun _ ds => decide (uptoBulkAll ds ≤ 1048576)
def OpenSpec.upto (s : _root_.Go.ChangeSpec) : _root_.Go.OpenSpec := { _root_.Go.OpenSpec.ofChange s with cond := some uptoSmall }

/-- 'factotumlaw34.StatsOf', WHERE WHAT IT READS IS OF BULK AT MOST 1048576: true; the input reads as it did. -/
def statsOfUptoRow : OpenClaim := { program := "ythkfjcfncobllaa", sum := "a391c34184faae98046862539953edf40dbc0871b41a45ed77c7ba6d9fd118cc", func := "factotum/factotumlaw34.StatsOf", spec := "statsOf", inPlace := ["math.Float64bits", "math.Float64frombits"], unfollowed := true, recurses := true, apart := false, narrowed := true }
def StatsOfUptoSaid : Prop := statsOfUptoRow.holds Try.pinned (OpenSpec.upto statsOfSpec)

/-- 'factotumlaw34.StatsRanks', WHERE WHAT IT READS IS OF BULK AT MOST 1048576: true; the input reads as it did. -/
def statsRanksUptoRow : OpenClaim := { program := "ythkfjcfncobllaa", sum := "a391c34184faae98046862539953edf40dbc0871b41a45ed77c7ba6d9fd118cc", func := "factotum/factotumlaw34.StatsRanks", spec := "statsRanks", inPlace := ["math.Float64bits", "math.Float64frombits"], unfollowed := true, recurses := true, apart := false, narrowed := true }
def StatsRanksUptoSaid : Prop := statsRanksUptoRow.holds Try.pinned (OpenSpec.upto statsRanksSpec)

/-- 'factotumlaw34.StatsAll', WHERE WHAT IT READS IS OF BULK AT MOST 1048576: true; the input reads as it did. -/
def statsAllUptoRow : OpenClaim := { program := "ythkfjcfncobllaa", sum := "a391c34184faae98046862539953edf40dbc0871b41a45ed77c7ba6d9fd118cc", func := "factotum/factotumlaw34.StatsAll", spec := "statsAll", inPlace := ["math.Float64bits", "math.Float64frombits"], unfollowed := true, recurses := true, apart := false, narrowed := true }
def StatsAllUptoSaid : Prop := statsAllUptoRow.holds Try.pinned (OpenSpec.upto statsAllSpec)

/-- 'factotumlaw34.StatsEsts', WHERE WHAT IT READS IS OF BULK AT MOST 1048576: true; the input reads as it did. -/
def statsEstsUptoRow : OpenClaim := { program := "ythkfjcfncobllaa", sum := "a391c34184faae98046862539953edf40dbc0871b41a45ed77c7ba6d9fd118cc", func := "factotum/factotumlaw34.StatsEsts", spec := "statsEsts", inPlace := ["math.Float64bits", "math.Float64frombits"], unfollowed := true, recurses := true, apart := false, narrowed := true }
def StatsEstsUptoSaid : Prop := statsEstsUptoRow.holds Try.pinned (OpenSpec.upto statsEstsSpec)

end Rows
end Go.Proofs.Ythkfjcfncobllaa
