/-
  No cell of these rows narrows 'for every input' (looked for: loops, veiled, ifaces, maps, wideKeys, modest, calm, conditions, laid).
  DERIVED. THE GIVEN ROWS OF THIS SEAT. 8 by the template 'for every input the law returns true; each argument reads behind the call as it read before'; 0 by the template 'total and deterministic' (their statements: YtpacapodbbnnkaaTotals.lean).
  GIVEN WITH THE SEED: the statements are not yours to turn. If you find one false, say at which input.
  Laid BY PROGRAM, IN A SANDBOX (cutbox-rows.mjs): the forced cells as the released guide's own fill.sh prints them over the translation 5af7f29ad76c9353… (all of the seat's roots in one cut). By AI agents, Wed Nov 11 2026. No macro, syntax, notation, axiom, sorry.
-/
import Derived.Test.YtpacapodbbnnkaaChecked
import GoSem.Claim
import GoSem.ClaimJoined
import GoSem.ClaimMapViews
import Derived.JoinedTies
import Derived.KernelRfl
namespace Go.Proofs.Ytpacapodbbnnkaa
/- THE CELL 'sum', in the pinned program and in every row, IS THE sha256 OF THE DUMP (.gsa) THAT YtpacapodbbnnkaaProg.lean LOADS. Nothing in Lean hashes anything: it is a label: what it is worth is what the hold of that sum in a sandbox is worth. -/
noncomputable def Try.pinned : Pinned := { name := "ytpacapodbbnnkaa", sum := "5af7f29ad76c9353ddf97f57b8633ebfa47dd16c0368876be59c54b0a188ce93", checked := Try.checked }
namespace Rows
def none {H : Type} : Left H := { results := [], args := [] }

/-- 'factotumlaw01.FltCanon': WHATEVER THE INPUT: true; the input reads as it did. -/
def fltCanonSpec : ChangeSpec := { name := "fltCanon", fn := fun _ => fun
  | [d] => { results := [.lit (.bool true)], args := [d] }
  | _ => none }
def fltCanonRow : OpenClaim := { program := "ytpacapodbbnnkaa", sum := "5af7f29ad76c9353ddf97f57b8633ebfa47dd16c0368876be59c54b0a188ce93", func := "factotum/factotumlaw01.FltCanon", spec := "fltCanon", inPlace := ["math.Float64bits", "math.Float64frombits"], apart := false }
def FltCanonSaid : Prop := fltCanonRow.holds Try.pinned (OpenSpec.ofChange fltCanonSpec)

/-- ITS FALSE NEIGHBOUR: 'it returns false'. Refute it at one input. -/
def fltCanonWrong : ChangeSpec := { name := "fltCanon", fn := fun _ => fun
  | [d] => { results := [.lit (.bool false)], args := [d] }
  | _ => none }
def FltCanonWrongFalsely : Prop := fltCanonRow.holds Try.pinned (OpenSpec.ofChange fltCanonWrong)

/-- 'factotumlaw01.FltKeys': WHATEVER THE INPUT: true; the input reads as it did. -/
def fltKeysSpec : ChangeSpec := { name := "fltKeys", fn := fun _ => fun
  | [d1, d2] => { results := [.lit (.bool true)], args := [d1, d2] }
  | _ => none }
def fltKeysRow : OpenClaim := { program := "ytpacapodbbnnkaa", sum := "5af7f29ad76c9353ddf97f57b8633ebfa47dd16c0368876be59c54b0a188ce93", func := "factotum/factotumlaw01.FltKeys", spec := "fltKeys", inPlace := ["math.Float64bits", "math.Float64frombits"], apart := false }
def FltKeysSaid : Prop := fltKeysRow.holds Try.pinned (OpenSpec.ofChange fltKeysSpec)

/-- ITS FALSE NEIGHBOUR: 'it returns false'. Refute it at one input. -/
def fltKeysWrong : ChangeSpec := { name := "fltKeys", fn := fun _ => fun
  | [d1, d2] => { results := [.lit (.bool false)], args := [d1, d2] }
  | _ => none }
def FltKeysWrongFalsely : Prop := fltKeysRow.holds Try.pinned (OpenSpec.ofChange fltKeysWrong)

/-- 'factotumlaw01.FltBack': WHATEVER THE INPUT: true; the input reads as it did. -/
def fltBackSpec : ChangeSpec := { name := "fltBack", fn := fun _ => fun
  | [d1, d2] => { results := [.lit (.bool true)], args := [d1, d2] }
  | _ => none }
def fltBackRow : OpenClaim := { program := "ytpacapodbbnnkaa", sum := "5af7f29ad76c9353ddf97f57b8633ebfa47dd16c0368876be59c54b0a188ce93", func := "factotum/factotumlaw01.FltBack", spec := "fltBack", inPlace := ["math.Float64bits", "math.Float64frombits"], apart := false }
def FltBackSaid : Prop := fltBackRow.holds Try.pinned (OpenSpec.ofChange fltBackSpec)

/-- ITS FALSE NEIGHBOUR: 'it returns false'. Refute it at one input. -/
def fltBackWrong : ChangeSpec := { name := "fltBack", fn := fun _ => fun
  | [d1, d2] => { results := [.lit (.bool false)], args := [d1, d2] }
  | _ => none }
def FltBackWrongFalsely : Prop := fltBackRow.holds Try.pinned (OpenSpec.ofChange fltBackWrong)

/-- 'factotumlaw01.FltAdds': WHATEVER THE INPUT: true; the input reads as it did. -/
def fltAddsSpec : ChangeSpec := { name := "fltAdds", fn := fun _ => fun
  | [d1, d2, d3] => { results := [.lit (.bool true)], args := [d1, d2, d3] }
  | _ => none }
def fltAddsRow : OpenClaim := { program := "ytpacapodbbnnkaa", sum := "5af7f29ad76c9353ddf97f57b8633ebfa47dd16c0368876be59c54b0a188ce93", func := "factotum/factotumlaw01.FltAdds", spec := "fltAdds", inPlace := ["math.Float64bits", "math.Float64frombits"], apart := false }
def FltAddsSaid : Prop := fltAddsRow.holds Try.pinned (OpenSpec.ofChange fltAddsSpec)

/-- ITS FALSE NEIGHBOUR: 'it returns false'. Refute it at one input. -/
def fltAddsWrong : ChangeSpec := { name := "fltAdds", fn := fun _ => fun
  | [d1, d2, d3] => { results := [.lit (.bool false)], args := [d1, d2, d3] }
  | _ => none }
def FltAddsWrongFalsely : Prop := fltAddsRow.holds Try.pinned (OpenSpec.ofChange fltAddsWrong)

/-- 'factotumlaw01.FltMids': WHATEVER THE INPUT: true; the input reads as it did. -/
def fltMidsSpec : ChangeSpec := { name := "fltMids", fn := fun _ => fun
  | [d1, d2] => { results := [.lit (.bool true)], args := [d1, d2] }
  | _ => none }
def fltMidsRow : OpenClaim := { program := "ytpacapodbbnnkaa", sum := "5af7f29ad76c9353ddf97f57b8633ebfa47dd16c0368876be59c54b0a188ce93", func := "factotum/factotumlaw01.FltMids", spec := "fltMids", inPlace := ["math.Float64bits", "math.Float64frombits"], apart := false }
def FltMidsSaid : Prop := fltMidsRow.holds Try.pinned (OpenSpec.ofChange fltMidsSpec)

/-- ITS FALSE NEIGHBOUR: 'it returns false'. Refute it at one input. -/
def fltMidsWrong : ChangeSpec := { name := "fltMids", fn := fun _ => fun
  | [d1, d2] => { results := [.lit (.bool false)], args := [d1, d2] }
  | _ => none }
def FltMidsWrongFalsely : Prop := fltMidsRow.holds Try.pinned (OpenSpec.ofChange fltMidsWrong)

/-- 'factotumlaw01.FltBetween': WHATEVER THE INPUT: true; the input reads as it did. -/
def fltBetweenSpec : ChangeSpec := { name := "fltBetween", fn := fun _ => fun
  | [d1, d2, d3] => { results := [.lit (.bool true)], args := [d1, d2, d3] }
  | _ => none }
def fltBetweenRow : OpenClaim := { program := "ytpacapodbbnnkaa", sum := "5af7f29ad76c9353ddf97f57b8633ebfa47dd16c0368876be59c54b0a188ce93", func := "factotum/factotumlaw01.FltBetween", spec := "fltBetween", inPlace := ["math.Float64bits", "math.Float64frombits"], apart := false }
def FltBetweenSaid : Prop := fltBetweenRow.holds Try.pinned (OpenSpec.ofChange fltBetweenSpec)

/-- ITS FALSE NEIGHBOUR: 'it returns false'. Refute it at one input. -/
def fltBetweenWrong : ChangeSpec := { name := "fltBetween", fn := fun _ => fun
  | [d1, d2, d3] => { results := [.lit (.bool false)], args := [d1, d2, d3] }
  | _ => none }
def FltBetweenWrongFalsely : Prop := fltBetweenRow.holds Try.pinned (OpenSpec.ofChange fltBetweenWrong)

/-- 'factotumlaw01.FltOrder': WHATEVER THE INPUT: true; the input reads as it did. -/
def fltOrderSpec : ChangeSpec := { name := "fltOrder", fn := fun _ => fun
  | [d1, d2] => { results := [.lit (.bool true)], args := [d1, d2] }
  | _ => none }
def fltOrderRow : OpenClaim := { program := "ytpacapodbbnnkaa", sum := "5af7f29ad76c9353ddf97f57b8633ebfa47dd16c0368876be59c54b0a188ce93", func := "factotum/factotumlaw01.FltOrder", spec := "fltOrder", inPlace := ["math.Float64bits", "math.Float64frombits"], apart := false }
def FltOrderSaid : Prop := fltOrderRow.holds Try.pinned (OpenSpec.ofChange fltOrderSpec)

/-- ITS FALSE NEIGHBOUR: 'it returns false'. Refute it at one input. -/
def fltOrderWrong : ChangeSpec := { name := "fltOrder", fn := fun _ => fun
  | [d1, d2] => { results := [.lit (.bool false)], args := [d1, d2] }
  | _ => none }
def FltOrderWrongFalsely : Prop := fltOrderRow.holds Try.pinned (OpenSpec.ofChange fltOrderWrong)

/-- 'factotumlaw01.FltSums': WHATEVER THE INPUT: true; the input reads as it did. -/
def fltSumsSpec : ChangeSpec := { name := "fltSums", fn := fun _ => fun
  | [d] => { results := [.lit (.bool true)], args := [d] }
  | _ => none }
def fltSumsRow : OpenClaim := { program := "ytpacapodbbnnkaa", sum := "5af7f29ad76c9353ddf97f57b8633ebfa47dd16c0368876be59c54b0a188ce93", func := "factotum/factotumlaw01.FltSums", spec := "fltSums", inPlace := ["math.Float64bits", "math.Float64frombits"], unfollowed := true, recurses := true, apart := false }
def FltSumsSaid : Prop := fltSumsRow.holds Try.pinned (OpenSpec.ofChange fltSumsSpec)

/-- ITS FALSE NEIGHBOUR: 'it returns false'. Refute it at one input. -/
def fltSumsWrong : ChangeSpec := { name := "fltSums", fn := fun _ => fun
  | [d] => { results := [.lit (.bool false)], args := [d] }
  | _ => none }
def FltSumsWrongFalsely : Prop := fltSumsRow.holds Try.pinned (OpenSpec.ofChange fltSumsWrong)

/- THE SECOND FORM. 'bulk': how many values and letters a reading holds, each counted each time it is reached (what is shared counts as often as it is met; a slice's spare places count too). A statement '..UptoSaid' is the law's where the arguments, and the package variables that the reading takes, are together of bulk at most 1048576: NARROWER than '..Said'. Prove '..Said' where nothing that the law and all that it calls make is longer than what came in: it says more and counts as full. Else prove '..UptoSaid'. A law counts once. -/
mutual
def uptoBulk {H : Type} : DataW H → Nat
  | .lit (.string bytes) => bytes.length + 1
  | .lit _ => 1
  | .nil => 1
  | .ptr d => uptoBulk d + 1
  | .slice elems spare => uptoBulkAll elems + uptoBulkAll spare + 1
  | .agg parts => uptoBulkAll parts + 1
  | .iface _ d => uptoBulk d + 1
  | .map entries => uptoBulkEntries entries + 1
  | .held _ => 1
def uptoBulkAll {H : Type} : List (DataW H) → Nat
  | [] => 0
  | d :: r => uptoBulk d + uptoBulkAll r
def uptoBulkEntries {H : Type} : List (Lit × DataW H) → Nat
  | [] => 0
  | x :: r => uptoBulkEntry x + uptoBulkEntries r
def uptoBulkEntry {H : Type} : Lit × DataW H → Nat
  | (.string bytes, d) => bytes.length + uptoBulk d + 1
  | (_, d) => uptoBulk d + 1
 end
def uptoSmall : (H : Type) → List (DataW H) → Bool := fun _ ds => decide (uptoBulkAll ds ≤ 1048576)
def OpenSpec.upto (s : _root_.Go.ChangeSpec) : _root_.Go.OpenSpec := { _root_.Go.OpenSpec.ofChange s with cond := some uptoSmall }

/-- 'factotumlaw01.FltCanon', WHERE WHAT IT READS IS OF BULK AT MOST 1048576: true; the input reads as it did. -/
def fltCanonUptoRow : OpenClaim := { program := "ytpacapodbbnnkaa", sum := "5af7f29ad76c9353ddf97f57b8633ebfa47dd16c0368876be59c54b0a188ce93", func := "factotum/factotumlaw01.FltCanon", spec := "fltCanon", inPlace := ["math.Float64bits", "math.Float64frombits"], apart := false, narrowed := true }
def FltCanonUptoSaid : Prop := fltCanonUptoRow.holds Try.pinned (OpenSpec.upto fltCanonSpec)

/-- 'factotumlaw01.FltKeys', WHERE WHAT IT READS IS OF BULK AT MOST 1048576: true; the input reads as it did. -/
def fltKeysUptoRow : OpenClaim := { program := "ytpacapodbbnnkaa", sum := "5af7f29ad76c9353ddf97f57b8633ebfa47dd16c0368876be59c54b0a188ce93", func := "factotum/factotumlaw01.FltKeys", spec := "fltKeys", inPlace := ["math.Float64bits", "math.Float64frombits"], apart := false, narrowed := true }
def FltKeysUptoSaid : Prop := fltKeysUptoRow.holds Try.pinned (OpenSpec.upto fltKeysSpec)

/-- 'factotumlaw01.FltBack', WHERE WHAT IT READS IS OF BULK AT MOST 1048576: true; the input reads as it did. -/
def fltBackUptoRow : OpenClaim := { program := "ytpacapodbbnnkaa", sum := "5af7f29ad76c9353ddf97f57b8633ebfa47dd16c0368876be59c54b0a188ce93", func := "factotum/factotumlaw01.FltBack", spec := "fltBack", inPlace := ["math.Float64bits", "math.Float64frombits"], apart := false, narrowed := true }
def FltBackUptoSaid : Prop := fltBackUptoRow.holds Try.pinned (OpenSpec.upto fltBackSpec)

/-- 'factotumlaw01.FltAdds', WHERE WHAT IT READS IS OF BULK AT MOST 1048576: true; the input reads as it did. -/
def fltAddsUptoRow : OpenClaim := { program := "ytpacapodbbnnkaa", sum := "5af7f29ad76c9353ddf97f57b8633ebfa47dd16c0368876be59c54b0a188ce93", func := "factotum/factotumlaw01.FltAdds", spec := "fltAdds", inPlace := ["math.Float64bits", "math.Float64frombits"], apart := false, narrowed := true }
def FltAddsUptoSaid : Prop := fltAddsUptoRow.holds Try.pinned (OpenSpec.upto fltAddsSpec)

/-- 'factotumlaw01.FltMids', WHERE WHAT IT READS IS OF BULK AT MOST 1048576: true; the input reads as it did. -/
def fltMidsUptoRow : OpenClaim := { program := "ytpacapodbbnnkaa", sum := "5af7f29ad76c9353ddf97f57b8633ebfa47dd16c0368876be59c54b0a188ce93", func := "factotum/factotumlaw01.FltMids", spec := "fltMids", inPlace := ["math.Float64bits", "math.Float64frombits"], apart := false, narrowed := true }
def FltMidsUptoSaid : Prop := fltMidsUptoRow.holds Try.pinned (OpenSpec.upto fltMidsSpec)

/-- 'factotumlaw01.FltBetween', WHERE WHAT IT READS IS OF BULK AT MOST 1048576: true; the input reads as it did. -/
def fltBetweenUptoRow : OpenClaim := { program := "ytpacapodbbnnkaa", sum := "5af7f29ad76c9353ddf97f57b8633ebfa47dd16c0368876be59c54b0a188ce93", func := "factotum/factotumlaw01.FltBetween", spec := "fltBetween", inPlace := ["math.Float64bits", "math.Float64frombits"], apart := false, narrowed := true }
def FltBetweenUptoSaid : Prop := fltBetweenUptoRow.holds Try.pinned (OpenSpec.upto fltBetweenSpec)

/-- 'factotumlaw01.FltOrder', WHERE WHAT IT READS IS OF BULK AT MOST 1048576: true; the input reads as it did. -/
def fltOrderUptoRow : OpenClaim := { program := "ytpacapodbbnnkaa", sum := "5af7f29ad76c9353ddf97f57b8633ebfa47dd16c0368876be59c54b0a188ce93", func := "factotum/factotumlaw01.FltOrder", spec := "fltOrder", inPlace := ["math.Float64bits", "math.Float64frombits"], apart := false, narrowed := true }
def FltOrderUptoSaid : Prop := fltOrderUptoRow.holds Try.pinned (OpenSpec.upto fltOrderSpec)

/-- 'factotumlaw01.FltSums', WHERE WHAT IT READS IS OF BULK AT MOST 1048576: true; the input reads as it did. -/
def fltSumsUptoRow : OpenClaim := { program := "ytpacapodbbnnkaa", sum := "5af7f29ad76c9353ddf97f57b8633ebfa47dd16c0368876be59c54b0a188ce93", func := "factotum/factotumlaw01.FltSums", spec := "fltSums", inPlace := ["math.Float64bits", "math.Float64frombits"], unfollowed := true, recurses := true, apart := false, narrowed := true }
def FltSumsUptoSaid : Prop := fltSumsUptoRow.holds Try.pinned (OpenSpec.upto fltSumsSpec)

end Rows
end Go.Proofs.Ytpacapodbbnnkaa
