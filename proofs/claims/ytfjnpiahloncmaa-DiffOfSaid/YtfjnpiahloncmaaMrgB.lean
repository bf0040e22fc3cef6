import Derived.Test.YtfjnpiahloncmaaMrgA
namespace Go.Proofs.Ytfjnpiahloncmaa
open Go.RowKit
set_option linter.unusedVariables false
set_option linter.unusedSimpArgs false
set_option maxRecDepth 20000 in
theorem hasB_step {l : List ByteArray} {i : Nat} {x t : ByteArray} (hx : l[i]? = some x) : hasB (l.take (i + 1)) t = (hasB (l.take i) t || (x.toList == t.toList)) := by
  unfold hasB
  rw [take_at hx, List.any_append]
  simp
set_option maxRecDepth 20000 in
theorem hasB_hit {l : List ByteArray} {i : Nat} {x t : ByteArray} (hx : l[i]? = some x) (h : (x.toList == t.toList) = true) : hasB l t = true := by
  rw [hasB_iff, ← ba_ext (beq_iff_eq.1 h)]
  exact List.mem_of_getElem? hx
end Go.Proofs.Ytfjnpiahloncmaa
