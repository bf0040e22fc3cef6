import Derived.Test.YtfjnpiahloncmaaFltW2
import Derived.Below
import Derived.Outline
namespace Go.Proofs.Ytfjnpiahloncmaa
open Go.RowKit
theorem if_f {α : Type} {c : Bool} {a b : α} (h : c = false) : (if c = true then a else b) = b := if_neg (Bool.eq_false_iff.1 h)
theorem if_t {α : Type} {c : Bool} {a b : α} (h : c = true) : (if c = true then a else b) = a := if_pos h
def rclsF (b : Nat) : Int :=
  if (FloatKind.f64.format.order b b != some .eq) = true then 0 else if (FloatKind.f64.format.order b 18442240474082181119 == some .lt) = true then 1 else if (FloatKind.f64.format.order b 0 == some .lt) = true then 2
  else if (FloatKind.f64.format.order b 0 == some .eq) = true then 3 else if (FloatKind.f64.format.order b 9218868437227405311 == some .gt) = true then 5 else 4
def rcanF (b : Nat) : Nat := if (FloatKind.f64.format.order b b != some .eq) = true then 9221120237041090561 else if (FloatKind.f64.format.order b 0 == some .eq) = true then 0 else b
def rkeyF (b : Nat) : Int :=
  if (FloatKind.f64.format.order b b != some .eq) = true then 0 else if (ubits (rcanF b) / 9223372036854775808 == 0) = true then IntKind.u64.wrap (ubits (rcanF b) + 9223372036854775808) else IntKind.u64.wrap (18446744073709551615 - ubits (rcanF b))
theorem rbits_any (b : Nat) (w : World) :
    Calls Try.prog 69 #[.float .f64 b] w fun e w' => e = .returned (.int .u64 (ubits b)) ∧ w = w' := by
  have hf := run_tobits
  go_enter Try.func69, Try.ntmps69
  go_wp2
  go_ret
  exact ⟨rfl, rfl⟩
theorem rcanon_any (b : Nat) (w : World) :
    Calls Try.prog 33 #[.float .f64 b] w fun e w' => e = .returned (.float .f64 (rcanF b)) ∧ w = w' := by
  have hf := run_frombits
  cases h1 : (FloatKind.f64.format.order b b != some .eq)
  · cases h2 : (FloatKind.f64.format.order b 0 == some .eq)
    all_goals
      go_enter Try.func33, Try.ntmps33
      go_wp2
      go_ret
      exact ⟨ret_flt (by simp only [rcanF, h1, h2]; rfl), rfl⟩
  · go_enter Try.func33, Try.ntmps33
    go_wp2
    go_ret
    exact ⟨ret_flt (by simp only [rcanF, h1]; rfl), rfl⟩
theorem rkey_any (b : Nat) (w : World) :
    Calls Try.prog 47 #[.float .f64 b] w fun e w' => e = .returned (.int .u64 (rkeyF b)) ∧ w = w' := by
  cases h1 : (FloatKind.f64.format.order b b != some .eq)
  · cases h2 : (ubits (rcanF b) / 9223372036854775808 == 0)
    · have HR := Lib.hid (show rkeyF b = IntKind.u64.wrap (18446744073709551615 - ubits (rcanF b)) by unfold rkeyF; rw [if_f h1, if_f h2])
      go_enter Try.func47, Try.ntmps47
      go_wp2_with (first | (go_at_call 33; refine (rcanon_any _ _).mono ?_; rintro e w' ⟨rfl, rfl⟩) | (go_at_call 69; refine (rbits_any _ _).mono ?_; rintro e w' ⟨rfl, rfl⟩))
      go_ret
      exact ⟨by rw [HR.out]; rfl, rfl⟩
    · have HR := Lib.hid (show rkeyF b = IntKind.u64.wrap (ubits (rcanF b) + 9223372036854775808) by unfold rkeyF; rw [if_f h1, if_t h2])
      go_enter Try.func47, Try.ntmps47
      go_wp2_with (first | (go_at_call 33; refine (rcanon_any _ _).mono ?_; rintro e w' ⟨rfl, rfl⟩) | (go_at_call 69; refine (rbits_any _ _).mono ?_; rintro e w' ⟨rfl, rfl⟩))
      go_ret
      exact ⟨by rw [HR.out]; rfl, rfl⟩
  · have HR := Lib.hid (show rkeyF b = 0 by simp only [rkeyF, h1]; rfl)
    go_enter Try.func47, Try.ntmps47
    go_wp2
    go_ret
    exact ⟨by rw [HR.out]; rfl, rfl⟩
theorem rsame_any (a b : Nat) (w : World) :
    Calls Try.prog 36 #[.float .f64 a, .float .f64 b] w fun e w' => e = .returned (.bool (rkeyF a == rkeyF b)) ∧ w = w' := by
  go_enter Try.func36, Try.ntmps36
  go_wp2_with (go_at_call 47; refine (rkey_any _ _).mono ?_; rintro e w' ⟨rfl, rfl⟩)
  go_ret
  exact ⟨rfl, rfl⟩
/-! ### Of: three floats are tried -/
def tryF (key c : Int) : Bool := (ubits c.toNat == ubits (rcanF c.toNat)) && (rkeyF c.toNat == key)
def rofF (key : Int) : Nat × Bool :=
  if tryF key (IntKind.u64.wrap (key - 9223372036854775808)) = true then ((IntKind.u64.wrap (key - 9223372036854775808)).toNat, true)
  else if tryF key (IntKind.u64.wrap (18446744073709551615 - key)) = true then ((IntKind.u64.wrap (18446744073709551615 - key)).toNat, true)
  else if tryF key 9221120237041090561 = true then (9221120237041090561, true) else (0, false)
def candF (c0 c1 c2 : Int) : Nat → Int
  | 0 => c0
  | 1 => c1
  | _ => c2
theorem tryF_a {key c : Int} (h : (ubits c.toNat == ubits (rcanF c.toNat)) = false) : tryF key c = false := by unfold tryF; rw [h]; rfl
theorem tryF_b {key c : Int} (h : (rkeyF c.toNat == key) = false) : tryF key c = false := by unfold tryF; rw [h, Bool.and_false]
theorem tryF_t {key c : Int} (h : (ubits c.toNat == ubits (rcanF c.toNat)) = true) (g : (rkeyF c.toNat == key) = true) : tryF key c = true := by unfold tryF; rw [h, g]; rfl
end Go.Proofs.Ytfjnpiahloncmaa
