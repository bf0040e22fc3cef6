/-
  No cell of these rows narrows 'for every input' (looked for: loops, veiled, ifaces, maps, wideKeys, modest, calm, conditions, laid).
  DERIVED. THE GIVEN ROWS OF THIS SEAT. 7 by the template 'for every input the law returns true; each argument reads behind the call as it read before'; 0 by the template 'total and deterministic' (their statements: YtnolhnlhohpkpaaTotals.lean).
  GIVEN WITH THE SEED: the statements are not yours to turn. If you find one false, say at which input.
  Laid BY PROGRAM, IN A SANDBOX (cutbox-rows.mjs): the forced cells as the released guide's own fill.sh prints them over the translation cadd2c1174e5ca1a… (all of the seat's roots in one cut). By AI agents, Wed Nov 11 2026. No macro, syntax, notation, axiom, sorry.
-/
import Derived.Test.YtnolhnlhohpkpaaChecked
import GoSem.Claim
import GoSem.ClaimJoined
import GoSem.ClaimMapViews
import Derived.JoinedTies
import Derived.KernelRfl
namespace Go.Proofs.Ytnolhnlhohpkpaa
/- THE CELL 'sum', in the pinned program and in every row, IS THE sha256 OF THE DUMP (.gsa) THAT YtnolhnlhohpkpaaProg.lean LOADS. Nothing in Lean hashes anything: it is a label: what it is worth is what the hold of that sum in a sandbox is worth. -/
noncomputable def Try.pinned : Pinned := { name := "ytnolhnlhohpkpaa", sum := "cadd2c1174e5ca1a7216cada2711283118585989bc38da274c49987815d5f3a9", checked := Try.checked }
namespace Rows
def none {H : Type} : Left H := { results := [], args := [] }

/-- 'factotumlaw02.CodecParts': WHATEVER THE INPUT: true; the input reads as it did. -/
def codecPartsSpec : ChangeSpec := { name := "codecParts", fn := fun _ => fun
  | [d1, d2, d3] => { results := [.lit (.bool true)], args := [d1, d2, d3] }
  | _ => none }
def codecPartsRow : OpenClaim := { program := "ytnolhnlhohpkpaa", sum := "cadd2c1174e5ca1a7216cada2711283118585989bc38da274c49987815d5f3a9", func := "factotum/factotumlaw02.CodecParts", spec := "codecParts", inPlace := ["math.Float64bits", "math.Float64frombits"], apart := false }
def CodecPartsSaid : Prop := codecPartsRow.holds Try.pinned (OpenSpec.ofChange codecPartsSpec)

/-- ITS FALSE NEIGHBOUR: 'it returns false'. Refute it at one input. -/
def codecPartsWrong : ChangeSpec := { name := "codecParts", fn := fun _ => fun
  | [d1, d2, d3] => { results := [.lit (.bool false)], args := [d1, d2, d3] }
  | _ => none }
def CodecPartsWrongFalsely : Prop := codecPartsRow.holds Try.pinned (OpenSpec.ofChange codecPartsWrong)

/-- 'factotumlaw02.CodecBack': WHATEVER THE INPUT: true; the input reads as it did. -/
def codecBackSpec : ChangeSpec := { name := "codecBack", fn := fun _ => fun
  | [d] => { results := [.lit (.bool true)], args := [d] }
  | _ => none }
def codecBackRow : OpenClaim := { program := "ytnolhnlhohpkpaa", sum := "cadd2c1174e5ca1a7216cada2711283118585989bc38da274c49987815d5f3a9", func := "factotum/factotumlaw02.CodecBack", spec := "codecBack", inPlace := ["math.Float64bits", "math.Float64frombits"], apart := false }
def CodecBackSaid : Prop := codecBackRow.holds Try.pinned (OpenSpec.ofChange codecBackSpec)

/-- ITS FALSE NEIGHBOUR: 'it returns false'. Refute it at one input. -/
def codecBackWrong : ChangeSpec := { name := "codecBack", fn := fun _ => fun
  | [d] => { results := [.lit (.bool false)], args := [d] }
  | _ => none }
def CodecBackWrongFalsely : Prop := codecBackRow.holds Try.pinned (OpenSpec.ofChange codecBackWrong)

/-- 'factotumlaw02.CodecOnce': WHATEVER THE INPUT: true; the input reads as it did. -/
def codecOnceSpec : ChangeSpec := { name := "codecOnce", fn := fun _ => fun
  | [d1, d2, d3] => { results := [.lit (.bool true)], args := [d1, d2, d3] }
  | _ => none }
def codecOnceRow : OpenClaim := { program := "ytnolhnlhohpkpaa", sum := "cadd2c1174e5ca1a7216cada2711283118585989bc38da274c49987815d5f3a9", func := "factotum/factotumlaw02.CodecOnce", spec := "codecOnce", inPlace := ["math.Float64bits", "math.Float64frombits"], apart := false }
def CodecOnceSaid : Prop := codecOnceRow.holds Try.pinned (OpenSpec.ofChange codecOnceSpec)

/-- ITS FALSE NEIGHBOUR: 'it returns false'. Refute it at one input. -/
def codecOnceWrong : ChangeSpec := { name := "codecOnce", fn := fun _ => fun
  | [d1, d2, d3] => { results := [.lit (.bool false)], args := [d1, d2, d3] }
  | _ => none }
def CodecOnceWrongFalsely : Prop := codecOnceRow.holds Try.pinned (OpenSpec.ofChange codecOnceWrong)

/-- 'factotumlaw02.CodecReads': WHATEVER THE INPUT: true; the input reads as it did. -/
def codecReadsSpec : ChangeSpec := { name := "codecReads", fn := fun _ => fun
  | [d1, d2] => { results := [.lit (.bool true)], args := [d1, d2] }
  | _ => none }
def codecReadsRow : OpenClaim := { program := "ytnolhnlhohpkpaa", sum := "cadd2c1174e5ca1a7216cada2711283118585989bc38da274c49987815d5f3a9", func := "factotum/factotumlaw02.CodecReads", spec := "codecReads", inPlace := ["math.Float64bits", "math.Float64frombits"], apart := false }
def CodecReadsSaid : Prop := codecReadsRow.holds Try.pinned (OpenSpec.ofChange codecReadsSpec)

/-- ITS FALSE NEIGHBOUR: 'it returns false'. Refute it at one input. -/
def codecReadsWrong : ChangeSpec := { name := "codecReads", fn := fun _ => fun
  | [d1, d2] => { results := [.lit (.bool false)], args := [d1, d2] }
  | _ => none }
def CodecReadsWrongFalsely : Prop := codecReadsRow.holds Try.pinned (OpenSpec.ofChange codecReadsWrong)

/-- 'factotumlaw09.TaskFinds': WHATEVER THE INPUT: true; the input reads as it did. -/
def taskFindsSpec : ChangeSpec := { name := "taskFinds", fn := fun _ => fun
  | [d1, d2, d3, d4] => { results := [.lit (.bool true)], args := [d1, d2, d3, d4] }
  | _ => none }
def taskFindsRow : OpenClaim := { program := "ytnolhnlhohpkpaa", sum := "cadd2c1174e5ca1a7216cada2711283118585989bc38da274c49987815d5f3a9", func := "factotum/factotumlaw09.TaskFinds", spec := "taskFinds", inPlace := ["math.Float64bits", "math.Float64frombits"], unfollowed := true, recurses := true, apart := false }
def TaskFindsSaid : Prop := taskFindsRow.holds Try.pinned (OpenSpec.ofChange taskFindsSpec)

/-- ITS FALSE NEIGHBOUR: 'it returns false'. Refute it at one input. -/
def taskFindsWrong : ChangeSpec := { name := "taskFinds", fn := fun _ => fun
  | [d1, d2, d3, d4] => { results := [.lit (.bool false)], args := [d1, d2, d3, d4] }
  | _ => none }
def TaskFindsWrongFalsely : Prop := taskFindsRow.holds Try.pinned (OpenSpec.ofChange taskFindsWrong)

/-- 'factotumlaw09.TaskPuts': WHATEVER THE INPUT: true; the input reads as it did. -/
def taskPutsSpec : ChangeSpec := { name := "taskPuts", fn := fun _ => fun
  | [d1, d2] => { results := [.lit (.bool true)], args := [d1, d2] }
  | _ => none }
def taskPutsRow : OpenClaim := { program := "ytnolhnlhohpkpaa", sum := "cadd2c1174e5ca1a7216cada2711283118585989bc38da274c49987815d5f3a9", func := "factotum/factotumlaw09.TaskPuts", spec := "taskPuts", inPlace := ["math.Float64bits", "math.Float64frombits"], unfollowed := true, recurses := true, apart := false }
def TaskPutsSaid : Prop := taskPutsRow.holds Try.pinned (OpenSpec.ofChange taskPutsSpec)

/-- ITS FALSE NEIGHBOUR: 'it returns false'. Refute it at one input. -/
def taskPutsWrong : ChangeSpec := { name := "taskPuts", fn := fun _ => fun
  | [d1, d2] => { results := [.lit (.bool false)], args := [d1, d2] }
  | _ => none }
def TaskPutsWrongFalsely : Prop := taskPutsRow.holds Try.pinned (OpenSpec.ofChange taskPutsWrong)

/-- 'factotumlaw09.TaskBack': WHATEVER THE INPUT: true; the input reads as it did. -/
def taskBackSpec : ChangeSpec := { name := "taskBack", fn := fun _ => fun
  | [d1, d2] => { results := [.lit (.bool true)], args := [d1, d2] }
  | _ => none }
def taskBackRow : OpenClaim := { program := "ytnolhnlhohpkpaa", sum := "cadd2c1174e5ca1a7216cada2711283118585989bc38da274c49987815d5f3a9", func := "factotum/factotumlaw09.TaskBack", spec := "taskBack", inPlace := ["math.Float64bits", "math.Float64frombits"], unfollowed := true, recurses := true, apart := false }
def TaskBackSaid : Prop := taskBackRow.holds Try.pinned (OpenSpec.ofChange taskBackSpec)

/-- ITS FALSE NEIGHBOUR: 'it returns false'. Refute it at one input. -/
def taskBackWrong : ChangeSpec := { name := "taskBack", fn := fun _ => fun
  | [d1, d2] => { results := [.lit (.bool false)], args := [d1, d2] }
  | _ => none }
def TaskBackWrongFalsely : Prop := taskBackRow.holds Try.pinned (OpenSpec.ofChange taskBackWrong)

/- THE SECOND FORM. 'bulk': how many values and letters a reading holds, each counted each time it is reached (what is shared counts as often as it is met; a slice's spare places count too). A statement '..UptoSaid' is the law's where the arguments, and the package variables that the reading takes, are together of bulk at most 1048576: NARROWER than '..Said'. Prove '..Said' where nothing that the law and all that it calls make is longer than what came in: it says more and counts as full. Else prove '..UptoSaid'. A law counts once. -/
mutual
def uptoBulk {H : Type} : DataW H → Nat
  | .lit (.string bytes) => bytes.length + 1
  | .lit _ => 1
  | .nil => 1
  | .ptr d => uptoBulk d + 1
  | .slice elems spare => uptoBulkAll elems + uptoBulkAll spare + 1
  | .agg parts => uptoBulkAll parts + 1
  | .iface _ d => uptoBulk d + 1
  | .map entries => uptoBulkEntries entries + 1
  | .held _ => 1
def uptoBulkAll {H : Type} : List (DataW H) → Nat
  | [] => 0
  | d :: r => uptoBulk d + uptoBulkAll r
def uptoBulkEntries {H : Type} : List (Lit × DataW H) → Nat
  | [] => 0
  | x :: r => uptoBulkEntry x + uptoBulkEntries r
def uptoBulkEntry {H : Type} : Lit × DataW H → Nat
  | (.string bytes, d) => bytes.length + uptoBulk d + 1
  | (_, d) => uptoBulk d + 1
 end
def uptoSmall : (H : Type) → List (DataW H) → Bool := fun _ ds => decide (uptoBulkAll ds ≤ 1048576)
def OpenSpec.upto (s : _root_.Go.ChangeSpec) : _root_.Go.OpenSpec := { _root_.Go.OpenSpec.ofChange s with cond := some uptoSmall }

/-- 'factotumlaw02.CodecParts', WHERE WHAT IT READS IS OF BULK AT MOST 1048576: true; the input reads as it did. -/
def codecPartsUptoRow : OpenClaim := { program := "ytnolhnlhohpkpaa", sum := "cadd2c1174e5ca1a7216cada2711283118585989bc38da274c49987815d5f3a9", func := "factotum/factotumlaw02.CodecParts", spec := "codecParts", inPlace := ["math.Float64bits", "math.Float64frombits"], apart := false, narrowed := true }
def CodecPartsUptoSaid : Prop := codecPartsUptoRow.holds Try.pinned (OpenSpec.upto codecPartsSpec)

/-- 'factotumlaw02.CodecBack', WHERE WHAT IT READS IS OF BULK AT MOST 1048576: true; the input reads as it did. -/
def codecBackUptoRow : OpenClaim := { program := "ytnolhnlhohpkpaa", sum := "cadd2c1174e5ca1a7216cada2711283118585989bc38da274c49987815d5f3a9", func := "factotum/factotumlaw02.CodecBack", spec := "codecBack", inPlace := ["math.Float64bits", "math.Float64frombits"], apart := false, narrowed := true }
def CodecBackUptoSaid : Prop := codecBackUptoRow.holds Try.pinned (OpenSpec.upto codecBackSpec)

/-- 'factotumlaw02.CodecOnce', WHERE WHAT IT READS IS OF BULK AT MOST 1048576: true; the input reads as it did. -/
def codecOnceUptoRow : OpenClaim := { program := "ytnolhnlhohpkpaa", sum := "cadd2c1174e5ca1a7216cada2711283118585989bc38da274c49987815d5f3a9", func := "factotum/factotumlaw02.CodecOnce", spec := "codecOnce", inPlace := ["math.Float64bits", "math.Float64frombits"], apart := false, narrowed := true }
def CodecOnceUptoSaid : Prop := codecOnceUptoRow.holds Try.pinned (OpenSpec.upto codecOnceSpec)

/-- 'factotumlaw02.CodecReads', WHERE WHAT IT READS IS OF BULK AT MOST 1048576: true; the input reads as it did. -/
def codecReadsUptoRow : OpenClaim := { program := "ytnolhnlhohpkpaa", sum := "cadd2c1174e5ca1a7216cada2711283118585989bc38da274c49987815d5f3a9", func := "factotum/factotumlaw02.CodecReads", spec := "codecReads", inPlace := ["math.Float64bits", "math.Float64frombits"], apart := false, narrowed := true }
def CodecReadsUptoSaid : Prop := codecReadsUptoRow.holds Try.pinned (OpenSpec.upto codecReadsSpec)

/-- 'factotumlaw09.TaskFinds', WHERE WHAT IT READS IS OF BULK AT MOST 1048576: true; the input reads as it did. -/
def taskFindsUptoRow : OpenClaim := { program := "ytnolhnlhohpkpaa", sum := "cadd2c1174e5ca1a7216cada2711283118585989bc38da274c49987815d5f3a9", func := "factotum/factotumlaw09.TaskFinds", spec := "taskFinds", inPlace := ["math.Float64bits", "math.Float64frombits"], unfollowed := true, recurses := true, apart := false, narrowed := true }
def TaskFindsUptoSaid : Prop := taskFindsUptoRow.holds Try.pinned (OpenSpec.upto taskFindsSpec)

/-- 'factotumlaw09.TaskPuts', WHERE WHAT IT READS IS OF BULK AT MOST 1048576: true; the input reads as it did. -/
def taskPutsUptoRow : OpenClaim := { program := "ytnolhnlhohpkpaa", sum := "cadd2c1174e5ca1a7216cada2711283118585989bc38da274c49987815d5f3a9", func := "factotum/factotumlaw09.TaskPuts", spec := "taskPuts", inPlace := ["math.Float64bits", "math.Float64frombits"], unfollowed := true, recurses := true, apart := false, narrowed := true }
def TaskPutsUptoSaid : Prop := taskPutsUptoRow.holds Try.pinned (OpenSpec.upto taskPutsSpec)

/-- 'factotumlaw09.TaskBack', WHERE WHAT IT READS IS OF BULK AT MOST 1048576: true; the input reads as it did. -/
def taskBackUptoRow : OpenClaim := { program := "ytnolhnlhohpkpaa", sum := "cadd2c1174e5ca1a7216cada2711283118585989bc38da274c49987815d5f3a9", func := "factotum/factotumlaw09.TaskBack", spec := "taskBack", inPlace := ["math.Float64bits", "math.Float64frombits"], unfollowed := true, recurses := true, apart := false, narrowed := true }
def TaskBackUptoSaid : Prop := taskBackUptoRow.holds Try.pinned (OpenSpec.upto taskBackSpec)

end Rows
end Go.Proofs.Ytnolhnlhohpkpaa
