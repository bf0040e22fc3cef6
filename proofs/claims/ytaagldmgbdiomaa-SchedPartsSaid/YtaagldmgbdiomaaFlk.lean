import Derived.Test.YtaagldmgbdiomaaBox2
import Derived.Laws.Externs
import Derived.Laws.FloatArith
namespace Go.Proofs.Ytaagldmgbdiomaa
open Go.RowKit
set_option linter.unusedVariables false
set_option linter.unusedSimpArgs false
set_option maxRecDepth 20000 in
theorem ret_int {k : IntKind} {a b : Int} (h : a = b) : Ending.returned (.int k a) = .returned (.int k b) := by rw [h]
set_option maxRecDepth 20000 in
theorem ret_flt {k : FloatKind} {a b : Nat} (h : a = b) : Ending.returned (.float k a) = .returned (.float k b) := by rw [h]
/-- A float's bits as a whole number. -/
def ubits (b : Nat) : Int := b
set_option maxRecDepth 20000 in
theorem run_tobits (b : Nat) (w : World) : (callFunc 121 #[.float .f64 b]).run Try.prog w = .ok (.value (.int .u64 (ubits b))) w :=
  (run_callFunc_extern (fn := Try.f121) (e := Extern.MathFloatBits.float64bits) (by kernel_rfl) (by kernel_rfl) (by kernel_rfl) (by kernel_rfl) (by kernel_rfl) _ w).trans rfl
set_option maxRecDepth 20000 in
theorem run_frombits (n : Int) (w : World) : (callFunc 122 #[.int .u64 n]).run Try.prog w = .ok (.value (.float .f64 n.toNat)) w :=
  (run_callFunc_extern (fn := Try.f122) (e := Extern.MathFloatBits.float64frombits) (by kernel_rfl) (by kernel_rfl) (by kernel_rfl) (by kernel_rfl) (by kernel_rfl) _ w).trans rfl
set_option maxRecDepth 20000 in
theorem if_f {α : Type} {c : Bool} {a b : α} (h : c = false) : (if c = true then a else b) = b := if_neg (Bool.eq_false_iff.1 h)
set_option maxRecDepth 20000 in
theorem if_t {α : Type} {c : Bool} {a b : α} (h : c = true) : (if c = true then a else b) = a := if_pos h
def rcanF (b : Nat) : Nat := if (FloatKind.f64.format.order b b != some .eq) = true then 9221120237041090561 else if (FloatKind.f64.format.order b 0 == some .eq) = true then 0 else b
def rkeyF (b : Nat) : Int :=
  if (FloatKind.f64.format.order b b != some .eq) = true then 0 else if (ubits (rcanF b) / 9223372036854775808 == 0) = true then IntKind.u64.wrap (ubits (rcanF b) + 9223372036854775808) else IntKind.u64.wrap (18446744073709551615 - ubits (rcanF b))
set_option maxRecDepth 20000 in
theorem rbits_any (b : Nat) (w : World) :
    Calls Try.prog 98 #[.float .f64 b] w fun e w' => e = .returned (.int .u64 (ubits b)) ∧ w = w' := by
  have hf := run_tobits
  go_enter Try.func98, Try.ntmps98
  go_wp2
  go_ret
  exact ⟨rfl, rfl⟩
set_option maxRecDepth 20000 in
theorem rcanon_any (b : Nat) (w : World) :
    Calls Try.prog 99 #[.float .f64 b] w fun e w' => e = .returned (.float .f64 (rcanF b)) ∧ w = w' := by
  have hf := run_frombits
  cases h1 : (FloatKind.f64.format.order b b != some .eq)
  · cases h2 : (FloatKind.f64.format.order b 0 == some .eq)
    all_goals
      go_enter Try.func99, Try.ntmps99
      go_wp2
      go_ret
      exact ⟨ret_flt (by simp only [rcanF, h1, h2]; rfl), rfl⟩
  · go_enter Try.func99, Try.ntmps99
    go_wp2
    go_ret
    exact ⟨ret_flt (by simp only [rcanF, h1]; rfl), rfl⟩
set_option maxRecDepth 20000 in
theorem rkey_any (b : Nat) (w : World) :
    Calls Try.prog 90 #[.float .f64 b] w fun e w' => e = .returned (.int .u64 (rkeyF b)) ∧ w = w' := by
  cases h1 : (FloatKind.f64.format.order b b != some .eq)
  · cases h2 : (ubits (rcanF b) / 9223372036854775808 == 0)
    · have HR := Lib.hid (show rkeyF b = IntKind.u64.wrap (18446744073709551615 - ubits (rcanF b)) by unfold rkeyF; rw [if_f h1, if_f h2])
      go_enter Try.func90, Try.ntmps90
      go_wp2_with (first | (go_at_call 99; refine (rcanon_any _ _).mono ?_; rintro e w' ⟨rfl, rfl⟩) | (go_at_call 98; refine (rbits_any _ _).mono ?_; rintro e w' ⟨rfl, rfl⟩))
      go_ret
      exact ⟨by rw [HR.out]; rfl, rfl⟩
    · have HR := Lib.hid (show rkeyF b = IntKind.u64.wrap (ubits (rcanF b) + 9223372036854775808) by unfold rkeyF; rw [if_f h1, if_t h2])
      go_enter Try.func90, Try.ntmps90
      go_wp2_with (first | (go_at_call 99; refine (rcanon_any _ _).mono ?_; rintro e w' ⟨rfl, rfl⟩) | (go_at_call 98; refine (rbits_any _ _).mono ?_; rintro e w' ⟨rfl, rfl⟩))
      go_ret
      exact ⟨by rw [HR.out]; rfl, rfl⟩
  · have HR := Lib.hid (show rkeyF b = 0 by simp only [rkeyF, h1]; rfl)
    go_enter Try.func90, Try.ntmps90
    go_wp2
    go_ret
    exact ⟨by rw [HR.out]; rfl, rfl⟩
set_option maxRecDepth 20000 in
theorem rsame_self (b : Nat) (w : World) :
    Calls Try.prog 83 #[.float .f64 b, .float .f64 b] w fun e w' => e = .returned (.bool true) ∧ w = w' := by
  generalize hk : rkeyF b = k
  have HK := Lib.hid hk
  clear hk
  go_enter Try.func83, Try.ntmps83
  go_wp2_with (go_at_call 90; refine (rkey_any _ _).mono ?_; rintro e w' ⟨rfl, rfl⟩; rw [HK.out])
  go_ret
  exact ⟨ret_bool (by simp), rfl⟩
end Go.Proofs.Ytaagldmgbdiomaa
