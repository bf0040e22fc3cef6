import Derived.Test.YtpacapodbbnnkaaFltR2
namespace Go.Proofs.Ytpacapodbbnnkaa
open Go.RowKit
theorem bits_any (a b : Nat) (w : World) :
    Calls Try.prog 14 #[.float .f64 a, .float .f64 b] w fun e w' => e = .returned (.bool (ubits a == ubits b)) ∧ w = w' := by
  go_enter Try.func14, Try.ntmps14
  go_wp2_with (go_at_call 36; refine (rbits_any _ _).mono ?_; rintro e w' ⟨rfl, rfl⟩)
  go_ret
  exact ⟨rfl, rfl⟩
theorem mid_01 : midF 0 4607182418800017408 = (2303591209400008704, true) := by decide +kernel
theorem key_0 : keyF 0 = 9223372036854775808 := by decide +kernel
theorem cls_m1 : clsF 13830554455654793216 = 2 := by decide +kernel
theorem awake_any (w : World) :
    Calls Try.prog 11 #[] w fun e w' => e = .returned (.bool true) ∧ w = w' := by
  have m (w : World) := mid_any 0 4607182418800017408 w
  rw [mid_01] at m
  have k (w : World) := key_any 0 w
  rw [key_0] at k
  have c (w : World) := class_any 13830554455654793216 w
  rw [cls_m1] at c
  have HM := Lib.hid m
  have HK := Lib.hid k
  have HC := Lib.hid c
  clear m k c
  have g1 : (FloatKind.f64.format.order 2303591209400008704 0 == some .gt) = true := by decide +kernel
  have g2 : (FloatKind.f64.format.order 2303591209400008704 4607182418800017408 == some .lt) = true := by decide +kernel
  go_enter Try.func11, Try.ntmps11
  go_wp2_with (first | (go_at_call 23; refine (HM.out _).mono ?_; rintro e w' ⟨rfl, rfl⟩) | (go_at_call 19; refine (HK.out _).mono ?_; rintro e w' ⟨rfl, rfl⟩) | (go_at_call 12; refine (HC.out _).mono ?_; rintro e w' ⟨rfl, rfl⟩))
  go_ret
  exact ⟨rfl, rfl⟩
end Go.Proofs.Ytpacapodbbnnkaa
