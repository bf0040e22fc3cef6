import Derived.Test.YtfjnpiahloncmaaFltW
namespace Go.Proofs.Ytfjnpiahloncmaa
open Go.RowKit
def plF (b : Nat) : Int := if decide (9223372036854775807 < keyF b) = true then IntKind.u64.wrap (keyF b - 1) else keyF b
def atF (p : Int) : Nat := if decide (9223372036854775807 ≤ p) = true then (ofF (IntKind.u64.wrap (p + 1))).1 else (ofF p).1
def stF (a b : Nat) : Int :=
  if decide (keyF a < keyF b) = false then 0 else if (FloatKind.f64.format.order a a != some .eq) = true then IntKind.u64.wrap (plF b - plF 18442240474082181120)
  else IntKind.u64.wrap (IntKind.u64.wrap (plF b - plF a) - 1)
def midF (a b : Nat) : Nat × Bool :=
  if (FloatKind.f64.format.order a a != some .eq) = true then (0, false) else if (FloatKind.f64.format.order b b != some .eq) = true then (0, false) else if (stF a b == 0) = true then (0, false)
  else (atF (IntKind.u64.wrap (IntKind.u64.wrap (plF a + 1) + IntKind.u64.wrap ((stF a b).tdiv 2))), true)
theorem same_any (a b : Nat) (w : World) :
    Calls Try.prog 30 #[.float .f64 a, .float .f64 b] w fun e w' => e = .returned (.bool (keyF a == keyF b)) ∧ w = w' := by
  go_enter Try.func30, Try.ntmps30
  go_wp2_with (go_at_call 45; refine (key_any _ _).mono ?_; rintro e w' ⟨rfl, rfl⟩)
  go_ret
  exact ⟨rfl, rfl⟩
end Go.Proofs.Ytfjnpiahloncmaa
