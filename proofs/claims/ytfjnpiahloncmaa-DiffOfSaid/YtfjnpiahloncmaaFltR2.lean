import Derived.Test.YtfjnpiahloncmaaFltR
import Derived.Outline
import Derived.Deep.DeepCutAuto
import Derived.Deep.CutBlock
namespace Go.Proofs.Ytfjnpiahloncmaa
open Go.RowKit
def rstN (x y : Int) : Int :=
  if decide (x < 9223372036854775807) = true then (if decide (9223372036854775807 < y) = true then IntKind.u64.wrap (IntKind.u64.wrap (IntKind.u64.wrap (y - x) - 1) - 1) else IntKind.u64.wrap (IntKind.u64.wrap (y - x) - 1))
  else IntKind.u64.wrap (IntKind.u64.wrap (y - x) - 1)
def rstF (a b : Nat) : Int :=
  if decide (rkeyF b ≤ rkeyF a) = true then 0 else if (rkeyF a == 0) = true then rstN (IntKind.u64.wrap (rkeyF 18442240474082181120 - 1)) (rkeyF b) else rstN (rkeyF a) (rkeyF b)
def rmidK (a b : Nat) : Int := IntKind.u64.wrap (IntKind.u64.wrap (rkeyF a + 1) + IntKind.u64.wrap ((rstF a b).tdiv 2))
def rmidJ (a b : Nat) : Int :=
  if decide (rkeyF a < 9223372036854775807) = true then (if decide (9223372036854775807 ≤ rmidK a b) = true then IntKind.u64.wrap (rmidK a b + 1) else rmidK a b) else rmidK a b
def rmidF (a b : Nat) : Nat × Bool :=
  if (FloatKind.f64.format.order a a != some .eq) = true then (0, false) else if (FloatKind.f64.format.order b b != some .eq) = true then (0, false) else if (rstF a b == 0) = true then (0, false) else rofF (rmidJ a b)
end Go.Proofs.Ytfjnpiahloncmaa
