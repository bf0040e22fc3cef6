import Derived.Test.YtfjnpiahloncmaaProg
import Derived.WalkKit
import Derived.WalkLawsBesides
import Derived.WalkSpells
import Derived.KernelRfl
import Derived.Laws.Externs
import Derived.Laws.FloatArith
import Derived.Lib.Hide
namespace Go.Proofs.Ytfjnpiahloncmaa
open Go.RowKit
theorem ret_int {k : IntKind} {a b : Int} (h : a = b) : Ending.returned (.int k a) = .returned (.int k b) := by rw [h]
theorem ret_flt {k : FloatKind} {a b : Nat} (h : a = b) : Ending.returned (.float k a) = .returned (.float k b) := by rw [h]
theorem ret_bool {a b : Bool} (h : a = b) : Ending.returned (.bool a) = .returned (.bool b) := by rw [h]
theorem ret_fb {a b : Nat} {c d : Bool} (h : a = b) (g : c = d) : Ending.returned (.tuple #[.float .f64 a, .bool c]) = .returned (.tuple #[.float .f64 b, .bool d]) := by rw [h, g]
/-- A float's bits as a whole number. -/
def ubits (b : Nat) : Int := b
theorem run_tobits (b : Nat) (w : World) : (callFunc 68 #[.float .f64 b]).run Try.prog w = .ok (.value (.int .u64 (ubits b))) w :=
  (run_callFunc_extern (fn := Try.f68) (e := Extern.MathFloatBits.float64bits) (by kernel_rfl) (by kernel_rfl) (by kernel_rfl) (by kernel_rfl) (by kernel_rfl) _ w).trans rfl
theorem run_frombits (n : Int) (w : World) : (callFunc 46 #[.int .u64 n]).run Try.prog w = .ok (.value (.float .f64 n.toNat)) w :=
  (run_callFunc_extern (fn := Try.f46) (e := Extern.MathFloatBits.float64frombits) (by kernel_rfl) (by kernel_rfl) (by kernel_rfl) (by kernel_rfl) (by kernel_rfl) _ w).trans rfl
/-- '^x' of an unsigned number of 64 bits. -/
def notU (n : Int) : Int := bits .xor .u64 18446744073709551615 n
theorem unary_notU (n : Int) : Op.unary .xor (.int .u64 n) = pure (.int .u64 (notU n)) := rfl
attribute [local go_sem high] unary_notU
attribute [irreducible] notU
theorem run_negf (b : Nat) (w : World) : (Op.unary .neg (.float .f64 b)).run Try.prog w = .ok (.float .f64 (Op.negFloat .f64 b)) w := rfl

/-! ### What the functions compute, as the code says it -/
def infB (b : Nat) (s : Int) : Bool := FloatKind.f64.format.order (if s < 0 then Op.negFloat .f64 b else b) 9218868437227405311 == some .gt
def clsF (b : Nat) : Int :=
  if (FloatKind.f64.format.order b b != some .eq) = true then 0 else if infB b (-1) = true then 1 else if infB b 1 = true then 5
  else if (FloatKind.f64.format.order b 0 == some .lt) = true then 2 else if (FloatKind.f64.format.order b 0 == some .gt) = true then 4 else 3
def canF (b : Nat) : Nat := if (clsF b == 0) = true then 9221120237041090561 else if (clsF b == 3) = true then 0 else b
def keyF (b : Nat) : Int :=
  if (FloatKind.f64.format.order b b != some .eq) = true then 0 else if decide (ubits (canF b) < 9223372036854775808) = true then bits .or .u64 (ubits (canF b)) 9223372036854775808 else notU (ubits (canF b))
def ofB (key : Int) : Int := if decide (9223372036854775808 ≤ key) = true then bits .andNot .u64 key 9223372036854775808 else notU key
def ofF (key : Int) : Nat × Bool :=
  if (key == 0) = true then (canF 9221120237041090561, true) else if (FloatKind.f64.format.order (ofB key).toNat (ofB key).toNat != some .eq) = true then (0, false)
  else if (ofB key == 9223372036854775808) = true then (0, false) else ((ofB key).toNat, true)

theorem isinf_any (b : Nat) (s : Int) (w : World) (hs : s = 1 ∨ s = -1) :
    Calls Try.prog 70 #[.float .f64 b, .int .i64 s] w fun e w' => e = .returned (.bool (infB b s)) ∧ w = w' := by
  have h1 := run_negf
  rcases hs with rfl | rfl
  · go_enter Try.func70, Try.ntmps70
    go_wp2
    go_ret
    exact ⟨rfl, rfl⟩
  · go_enter Try.func70, Try.ntmps70
    go_wp2
    go_ret
    exact ⟨rfl, rfl⟩
theorem class_any (b : Nat) (w : World) :
    Calls Try.prog 48 #[.float .f64 b] w fun e w' => e = .returned (.int .i64 (clsF b)) ∧ w = w' := by
  cases h1 : (FloatKind.f64.format.order b b != some .eq)
  · cases h2 : infB b (-1)
    · cases h3 : infB b 1
      · cases h4 : (FloatKind.f64.format.order b 0 == some .lt)
        · cases h5 : (FloatKind.f64.format.order b 0 == some .gt)
          all_goals
            go_enter Try.func48, Try.ntmps48
            go_wp2_with (go_at_call 70; refine (isinf_any b _ _ (by simp)).mono ?_; rintro e w' ⟨rfl, rfl⟩)
            go_ret
            exact ⟨ret_int (by simp only [clsF, h1, h2, h3, h4, h5]; rfl), rfl⟩
        · go_enter Try.func48, Try.ntmps48
          go_wp2_with (go_at_call 70; refine (isinf_any b _ _ (by simp)).mono ?_; rintro e w' ⟨rfl, rfl⟩)
          go_ret
          exact ⟨ret_int (by simp only [clsF, h1, h2, h3, h4]; rfl), rfl⟩
      · go_enter Try.func48, Try.ntmps48
        go_wp2_with (go_at_call 70; refine (isinf_any b _ _ (by simp)).mono ?_; rintro e w' ⟨rfl, rfl⟩)
        go_ret
        exact ⟨ret_int (by simp only [clsF, h1, h2, h3]; rfl), rfl⟩
    · go_enter Try.func48, Try.ntmps48
      go_wp2_with (go_at_call 70; refine (isinf_any b _ _ (by simp)).mono ?_; rintro e w' ⟨rfl, rfl⟩)
      go_ret
      exact ⟨ret_int (by simp only [clsF, h1, h2]; rfl), rfl⟩
  · go_enter Try.func48, Try.ntmps48
    go_wp2
    go_ret
    exact ⟨ret_int (by simp only [clsF, h1]; rfl), rfl⟩
theorem canon_any (b : Nat) (w : World) :
    Calls Try.prog 38 #[.float .f64 b] w fun e w' => e = .returned (.float .f64 (canF b)) ∧ w = w' := by
  have hf := run_frombits
  cases h1 : (clsF b == 0)
  · cases h2 : (clsF b == 3)
    all_goals
      go_enter Try.func38, Try.ntmps38
      go_wp2_with (go_at_call 48; refine (class_any b _).mono ?_; rintro e w' ⟨rfl, rfl⟩)
      go_ret
      exact ⟨ret_flt (by simp only [canF, h1, h2]; rfl), rfl⟩
  · go_enter Try.func38, Try.ntmps38
    go_wp2_with (go_at_call 48; refine (class_any b _).mono ?_; rintro e w' ⟨rfl, rfl⟩)
    go_ret
    exact ⟨ret_flt (by simp only [canF, h1]; rfl), rfl⟩
theorem key_any (b : Nat) (w : World) :
    Calls Try.prog 45 #[.float .f64 b] w fun e w' => e = .returned (.int .u64 (keyF b)) ∧ w = w' := by
  have hf := run_tobits
  cases h1 : (FloatKind.f64.format.order b b != some .eq)
  · cases h2 : decide (ubits (canF b) < 9223372036854775808)
    all_goals
      go_enter Try.func45, Try.ntmps45
      go_wp2_with (go_at_call 38; refine (canon_any b _).mono ?_; rintro e w' ⟨rfl, rfl⟩)
      go_ret
      exact ⟨ret_int (by simp only [keyF, h1, h2]; rfl), rfl⟩
  · go_enter Try.func45, Try.ntmps45
    go_wp2
    go_ret
    exact ⟨ret_int (by simp only [keyF, h1]; rfl), rfl⟩
end Go.Proofs.Ytfjnpiahloncmaa
