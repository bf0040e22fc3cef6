import Derived.Test.YtpacapodbbnnkaaFltW
namespace Go.Proofs.Ytpacapodbbnnkaa
open Go.RowKit
def plF (b : Nat) : Int := if decide (9223372036854775807 < keyF b) = true then IntKind.u64.wrap (keyF b - 1) else keyF b
def atF (p : Int) : Nat := if decide (9223372036854775807 ≤ p) = true then (ofF (IntKind.u64.wrap (p + 1))).1 else (ofF p).1
def stF (a b : Nat) : Int :=
  if decide (keyF a < keyF b) = false then 0 else if (FloatKind.f64.format.order a a != some .eq) = true then IntKind.u64.wrap (plF b - plF 18442240474082181120)
  else IntKind.u64.wrap (IntKind.u64.wrap (plF b - plF a) - 1)
def midF (a b : Nat) : Nat × Bool :=
  if (FloatKind.f64.format.order a a != some .eq) = true then (0, false) else if (FloatKind.f64.format.order b b != some .eq) = true then (0, false) else if (stF a b == 0) = true then (0, false)
  else (atF (IntKind.u64.wrap (IntKind.u64.wrap (plF a + 1) + IntKind.u64.wrap ((stF a b).tdiv 2))), true)
theorem less_any (a b : Nat) (w : World) :
    Calls Try.prog 21 #[.float .f64 a, .float .f64 b] w fun e w' => e = .returned (.bool (decide (keyF a < keyF b))) ∧ w = w' := by
  go_enter Try.func21, Try.ntmps21
  go_wp2_with (go_at_call 19; refine (key_any _ _).mono ?_; rintro e w' ⟨rfl, rfl⟩)
  go_ret
  exact ⟨rfl, rfl⟩
theorem same_any (a b : Nat) (w : World) :
    Calls Try.prog 26 #[.float .f64 a, .float .f64 b] w fun e w' => e = .returned (.bool (keyF a == keyF b)) ∧ w = w' := by
  go_enter Try.func26, Try.ntmps26
  go_wp2_with (go_at_call 19; refine (key_any _ _).mono ?_; rintro e w' ⟨rfl, rfl⟩)
  go_ret
  exact ⟨rfl, rfl⟩
theorem inf_neg (w : World) :
    Calls Try.prog 42 #[.int .i64 (-1)] w fun e w' => e = .returned (.float .f64 18442240474082181120) ∧ w = w' := by
  have hf := run_frombits
  go_enter Try.func42, Try.ntmps42
  go_wp2
  go_ret
  exact ⟨rfl, rfl⟩
theorem place_hi (b : Nat) (w : World) (h1 : decide (9223372036854775807 < keyF b) = true) :
    Calls Try.prog 41 #[.float .f64 b] w fun e w' => e = .returned (.int .u64 (IntKind.u64.wrap (keyF b - 1))) ∧ w = w' := by
  go_enter Try.func41, Try.ntmps41
  go_wp2_with (go_at_call 19; refine (key_any _ _).mono ?_; rintro e w' ⟨rfl, rfl⟩)
  go_ret
  exact ⟨rfl, rfl⟩
theorem place_lo (b : Nat) (w : World) (h1 : decide (9223372036854775807 < keyF b) = false) :
    Calls Try.prog 41 #[.float .f64 b] w fun e w' => e = .returned (.int .u64 (keyF b)) ∧ w = w' := by
  go_enter Try.func41, Try.ntmps41
  go_wp2_with (go_at_call 19; refine (key_any _ _).mono ?_; rintro e w' ⟨rfl, rfl⟩)
  go_ret
  exact ⟨rfl, rfl⟩
theorem place_any (b : Nat) (w : World) :
    Calls Try.prog 41 #[.float .f64 b] w fun e w' => e = .returned (.int .u64 (plF b)) ∧ w = w' := by
  cases h1 : decide (9223372036854775807 < keyF b)
  · exact (place_lo b w h1).mono fun e w' ⟨he, hw⟩ => ⟨he.trans (ret_int (if_neg (Bool.eq_false_iff.1 h1)).symm), hw⟩
  · exact (place_hi b w h1).mono fun e w' ⟨he, hw⟩ => ⟨he.trans (ret_int (if_pos h1).symm), hw⟩
theorem at_hi (p : Int) (w : World) (h1 : decide (9223372036854775807 ≤ p) = true) :
    Calls Try.prog 43 #[.int .u64 p] w fun e w' => e = .returned (.float .f64 (ofF (IntKind.u64.wrap (p + 1))).1) ∧ w = w' := by
  go_enter Try.func43, Try.ntmps43
  go_wp2_with (go_at_call 17; refine (of_any _ _).mono ?_; rintro e w' ⟨rfl, rfl⟩)
  go_ret
  exact ⟨rfl, rfl⟩
theorem at_lo (p : Int) (w : World) (h1 : decide (9223372036854775807 ≤ p) = false) :
    Calls Try.prog 43 #[.int .u64 p] w fun e w' => e = .returned (.float .f64 (ofF p).1) ∧ w = w' := by
  go_enter Try.func43, Try.ntmps43
  go_wp2_with (go_at_call 17; refine (of_any _ _).mono ?_; rintro e w' ⟨rfl, rfl⟩)
  go_ret
  exact ⟨rfl, rfl⟩
theorem at_any (p : Int) (w : World) :
    Calls Try.prog 43 #[.int .u64 p] w fun e w' => e = .returned (.float .f64 (atF p)) ∧ w = w' := by
  cases h1 : decide (9223372036854775807 ≤ p)
  · exact (at_lo p w h1).mono fun e w' ⟨he, hw⟩ => ⟨by rw [he, atF, h1]; rfl, hw⟩
  · exact (at_hi p w h1).mono fun e w' ⟨he, hw⟩ => ⟨by rw [he, atF, h1]; rfl, hw⟩
theorem steps_any (a b : Nat) (w : World) :
    Calls Try.prog 22 #[.float .f64 a, .float .f64 b] w fun e w' => e = .returned (.int .u64 (stF a b)) ∧ w = w' := by
  cases h1 : decide (keyF a < keyF b)
  · have HR := Lib.hid (show stF a b = 0 by simp only [stF, h1]; rfl)
    go_enter Try.func22, Try.ntmps22
    go_wp2_with (first | (go_at_call 41; refine (place_any _ _).mono ?_; rintro e w' ⟨rfl, rfl⟩) | (go_at_call 21; refine (less_any _ _ _).mono ?_; rintro e w' ⟨rfl, rfl⟩))
    go_ret
    exact ⟨by rw [HR.out]; rfl, rfl⟩
  · cases h2 : (FloatKind.f64.format.order a a != some .eq)
    · have HR := Lib.hid (show stF a b = IntKind.u64.wrap (IntKind.u64.wrap (plF b - plF a) - 1) by simp only [stF, h1, h2]; rfl)
      go_enter Try.func22, Try.ntmps22
      go_wp2_with (first | (go_at_call 41; refine (place_any _ _).mono ?_; rintro e w' ⟨rfl, rfl⟩) | (go_at_call 21; refine (less_any _ _ _).mono ?_; rintro e w' ⟨rfl, rfl⟩))
      go_ret
      exact ⟨by rw [HR.out]; rfl, rfl⟩
    · have HR := Lib.hid (show stF a b = IntKind.u64.wrap (plF b - plF 18442240474082181120) by simp only [stF, h1, h2]; rfl)
      go_enter Try.func22, Try.ntmps22
      go_wp2_with (first | (go_at_call 41; refine (place_any _ _).mono ?_; rintro e w' ⟨rfl, rfl⟩) | (go_at_call 21; refine (less_any _ _ _).mono ?_; rintro e w' ⟨rfl, rfl⟩) | (go_at_call 42; refine (inf_neg _).mono ?_; rintro e w' ⟨rfl, rfl⟩))
      go_ret
      exact ⟨by rw [HR.out]; rfl, rfl⟩
theorem mid_any (a b : Nat) (w : World) :
    Calls Try.prog 23 #[.float .f64 a, .float .f64 b] w fun e w' => e = .returned (.tuple #[.float .f64 (midF a b).1, .bool (midF a b).2]) ∧ w = w' := by
  cases h1 : (FloatKind.f64.format.order a a != some .eq)
  · cases h2 : (FloatKind.f64.format.order b b != some .eq)
    · cases h3 : (stF a b == 0)
      · have HR := Lib.hid (show midF a b = (atF (IntKind.u64.wrap (IntKind.u64.wrap (plF a + 1) + IntKind.u64.wrap ((stF a b).tdiv 2))), true) by simp only [midF, h1, h2, h3]; rfl)
        go_enter Try.func23, Try.ntmps23
        go_wp2_with (first | (go_at_call 22; refine (steps_any _ _ _).mono ?_; rintro e w' ⟨rfl, rfl⟩) | (go_at_call 41; refine (place_any _ _).mono ?_; rintro e w' ⟨rfl, rfl⟩) | (go_at_call 43; refine (at_any _ _).mono ?_; rintro e w' ⟨rfl, rfl⟩))
        go_ret2
        exact ⟨by rw [HR.out]; rfl, rfl⟩
      · have HR := Lib.hid (show midF a b = (0, false) by simp only [midF, h1, h2, h3]; rfl)
        go_enter Try.func23, Try.ntmps23
        go_wp2_with (go_at_call 22; refine (steps_any _ _ _).mono ?_; rintro e w' ⟨rfl, rfl⟩)
        go_ret2
        exact ⟨by rw [HR.out]; rfl, rfl⟩
    · have HR := Lib.hid (show midF a b = (0, false) by simp only [midF, h1, h2]; rfl)
      go_enter Try.func23, Try.ntmps23
      go_wp2_with (go_at_call 22; refine (steps_any _ _ _).mono ?_; rintro e w' ⟨rfl, rfl⟩)
      go_ret2
      exact ⟨by rw [HR.out]; rfl, rfl⟩
  · have HR := Lib.hid (show midF a b = (0, false) by simp only [midF, h1]; rfl)
    go_enter Try.func23, Try.ntmps23
    go_wp2_with (go_at_call 22; refine (steps_any _ _ _).mono ?_; rintro e w' ⟨rfl, rfl⟩)
    go_ret2
    exact ⟨by rw [HR.out]; rfl, rfl⟩
end Go.Proofs.Ytpacapodbbnnkaa
