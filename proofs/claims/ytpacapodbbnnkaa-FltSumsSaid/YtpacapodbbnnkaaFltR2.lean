import Derived.Test.YtpacapodbbnnkaaFltR
import Derived.Outline
import Derived.Deep.DeepCutAuto
import Derived.Deep.CutBlock
namespace Go.Proofs.Ytpacapodbbnnkaa
open Go.RowKit
def rstN (x y : Int) : Int :=
  if decide (x < 9223372036854775807) = true then (if decide (9223372036854775807 < y) = true then IntKind.u64.wrap (IntKind.u64.wrap (IntKind.u64.wrap (y - x) - 1) - 1) else IntKind.u64.wrap (IntKind.u64.wrap (y - x) - 1))
  else IntKind.u64.wrap (IntKind.u64.wrap (y - x) - 1)
def rstF (a b : Nat) : Int :=
  if decide (rkeyF b ≤ rkeyF a) = true then 0 else if (rkeyF a == 0) = true then rstN (IntKind.u64.wrap (rkeyF 18442240474082181120 - 1)) (rkeyF b) else rstN (rkeyF a) (rkeyF b)
theorem rsteps_any (a b : Nat) (w : World) :
    Calls Try.prog 28 #[.float .f64 a, .float .f64 b] w fun e w' => e = .returned (.int .u64 (rstF a b)) ∧ w = w' := by
  cases h1 : decide (rkeyF b ≤ rkeyF a)
  · cases h2 : (rkeyF a == 0)
    · have HR := Lib.hid (show rstF a b = rstN (rkeyF a) (rkeyF b) by unfold rstF; rw [if_f h1, if_f h2])
      cases h3 : decide (rkeyF a < 9223372036854775807)
      · have HN := Lib.hid (HR.out.trans (show rstN (rkeyF a) (rkeyF b) = IntKind.u64.wrap (IntKind.u64.wrap (rkeyF b - rkeyF a) - 1) by unfold rstN; rw [if_f h3]))
        go_enter Try.func28, Try.ntmps28
        go_wp2_with (first | (go_at_call 20; refine (rkey_any _ _).mono ?_; rintro e w' ⟨rfl, rfl⟩) | (go_at_call 42; refine (inf_neg _).mono ?_; rintro e w' ⟨rfl, rfl⟩))
        go_ret
        exact ⟨ret_int HN.out.symm, rfl⟩
      · cases h4 : decide (9223372036854775807 < rkeyF b)
        · have HN := Lib.hid (HR.out.trans (show rstN (rkeyF a) (rkeyF b) = IntKind.u64.wrap (IntKind.u64.wrap (rkeyF b - rkeyF a) - 1) by unfold rstN; rw [if_t h3, if_f h4]))
          go_enter Try.func28, Try.ntmps28
          go_wp2_with (first | (go_at_call 20; refine (rkey_any _ _).mono ?_; rintro e w' ⟨rfl, rfl⟩) | (go_at_call 42; refine (inf_neg _).mono ?_; rintro e w' ⟨rfl, rfl⟩))
          go_ret
          exact ⟨ret_int HN.out.symm, rfl⟩
        · have HN := Lib.hid (HR.out.trans (show rstN (rkeyF a) (rkeyF b) = IntKind.u64.wrap (IntKind.u64.wrap (IntKind.u64.wrap (rkeyF b - rkeyF a) - 1) - 1) by unfold rstN; rw [if_t h3, if_t h4]))
          go_enter Try.func28, Try.ntmps28
          go_wp2_with (first | (go_at_call 20; refine (rkey_any _ _).mono ?_; rintro e w' ⟨rfl, rfl⟩) | (go_at_call 42; refine (inf_neg _).mono ?_; rintro e w' ⟨rfl, rfl⟩))
          go_ret
          exact ⟨ret_int HN.out.symm, rfl⟩
    · have HR := Lib.hid (show rstF a b = rstN (IntKind.u64.wrap (rkeyF 18442240474082181120 - 1)) (rkeyF b) by unfold rstF; rw [if_f h1, if_t h2])
      obtain ⟨X, hX⟩ : ∃ X, X = IntKind.u64.wrap (rkeyF 18442240474082181120 - 1) := ⟨_, rfl⟩
      have HX := Lib.hid hX
      clear hX
      cases h3 : decide (X < 9223372036854775807)
      · have HN := Lib.hid (HR.out.trans (show rstN (IntKind.u64.wrap (rkeyF 18442240474082181120 - 1)) (rkeyF b) = IntKind.u64.wrap (IntKind.u64.wrap (rkeyF b - X) - 1) by rw [← HX.out]; unfold rstN; rw [if_f h3]))
        go_enter Try.func28, Try.ntmps28
        go_upto_region 6 with (first | (go_at_call 20; refine (rkey_any _ _).mono ?_; rintro e w' ⟨rfl, rfl⟩) | (go_at_call 42; refine (inf_neg _).mono ?_; rintro e w' ⟨rfl, rfl⟩))
        rw [← HX.out]
        go_wp2_with fail
        go_ret
        exact ⟨ret_int HN.out.symm, rfl⟩
      · cases h4 : decide (9223372036854775807 < rkeyF b)
        · have HN := Lib.hid (HR.out.trans (show rstN (IntKind.u64.wrap (rkeyF 18442240474082181120 - 1)) (rkeyF b) = IntKind.u64.wrap (IntKind.u64.wrap (rkeyF b - X) - 1) by rw [← HX.out]; unfold rstN; rw [if_t h3, if_f h4]))
          go_enter Try.func28, Try.ntmps28
          go_upto_region 6 with (first | (go_at_call 20; refine (rkey_any _ _).mono ?_; rintro e w' ⟨rfl, rfl⟩) | (go_at_call 42; refine (inf_neg _).mono ?_; rintro e w' ⟨rfl, rfl⟩))
          rw [← HX.out]
          go_wp2_with fail
          go_ret
          exact ⟨ret_int HN.out.symm, rfl⟩
        · have HN := Lib.hid (HR.out.trans (show rstN (IntKind.u64.wrap (rkeyF 18442240474082181120 - 1)) (rkeyF b) = IntKind.u64.wrap (IntKind.u64.wrap (IntKind.u64.wrap (rkeyF b - X) - 1) - 1) by rw [← HX.out]; unfold rstN; rw [if_t h3, if_t h4]))
          go_enter Try.func28, Try.ntmps28
          go_upto_region 6 with (first | (go_at_call 20; refine (rkey_any _ _).mono ?_; rintro e w' ⟨rfl, rfl⟩) | (go_at_call 42; refine (inf_neg _).mono ?_; rintro e w' ⟨rfl, rfl⟩))
          rw [← HX.out]
          go_wp2_with fail
          go_ret
          exact ⟨ret_int HN.out.symm, rfl⟩
  · have HR := Lib.hid (show rstF a b = 0 by unfold rstF; rw [if_t h1])
    go_enter Try.func28, Try.ntmps28
    go_wp2_with (first | (go_at_call 20; refine (rkey_any _ _).mono ?_; rintro e w' ⟨rfl, rfl⟩) | (go_at_call 42; refine (inf_neg _).mono ?_; rintro e w' ⟨rfl, rfl⟩))
    go_ret
    exact ⟨ret_int HR.out.symm, rfl⟩
def rmidK (a b : Nat) : Int := IntKind.u64.wrap (IntKind.u64.wrap (rkeyF a + 1) + IntKind.u64.wrap ((rstF a b).tdiv 2))
def rmidJ (a b : Nat) : Int :=
  if decide (rkeyF a < 9223372036854775807) = true then (if decide (9223372036854775807 ≤ rmidK a b) = true then IntKind.u64.wrap (rmidK a b + 1) else rmidK a b) else rmidK a b
def rmidF (a b : Nat) : Nat × Bool :=
  if (FloatKind.f64.format.order a a != some .eq) = true then (0, false) else if (FloatKind.f64.format.order b b != some .eq) = true then (0, false) else if (rstF a b == 0) = true then (0, false) else rofF (rmidJ a b)
theorem rmid_no (a b : Nat) (w : World) (h : (FloatKind.f64.format.order a a != some .eq) = true ∨ (FloatKind.f64.format.order a a != some .eq) = false ∧ ((FloatKind.f64.format.order b b != some .eq) = true ∨ (FloatKind.f64.format.order b b != some .eq) = false ∧ (rstF a b == 0) = true)) :
    Calls Try.prog 24 #[.float .f64 a, .float .f64 b] w fun e w' => e = .returned (.tuple #[.float .f64 (rmidF a b).1, .bool (rmidF a b).2]) ∧ Below w.heap.size w w' := by
  have HR := Lib.hid (show rmidF a b = (0, false) by
    unfold rmidF
    rcases h with h | ⟨h, h' | ⟨h', h''⟩⟩
    · rw [if_t h]
    · rw [if_f h, if_t h']
    · rw [if_f h, if_f h', if_t h''])
  rcases h with h1 | ⟨h1, h2 | ⟨h2, h3⟩⟩
  all_goals
    go_enter Try.func24, Try.ntmps24
    go_wp2_with (first | (go_at_call 20; refine (rkey_any _ _).mono ?_; rintro e w' ⟨rfl, rfl⟩) | (go_at_call 28; refine (rsteps_any _ _ _).mono ?_; rintro e w' ⟨rfl, rfl⟩))
    go_ret2
    exact ⟨by rw [HR.out]; rfl, Below.refl _ _⟩
theorem rmid_yes (a b : Nat) (w : World) (h1 : (FloatKind.f64.format.order a a != some .eq) = false) (h2 : (FloatKind.f64.format.order b b != some .eq) = false) (h3 : (rstF a b == 0) = false) :
    Calls Try.prog 24 #[.float .f64 a, .float .f64 b] w fun e w' => e = .returned (.tuple #[.float .f64 (rmidF a b).1, .bool (rmidF a b).2]) ∧ Below w.heap.size w w' := by
  have HR := Lib.hid (show rmidF a b = rofF (rmidJ a b) by unfold rmidF; rw [if_f h1, if_f h2, if_f h3])
  obtain ⟨K, hK⟩ : ∃ K, K = rmidK a b := ⟨_, rfl⟩
  have HK := Lib.hid hK
  clear hK
  cases h4 : decide (rkeyF a < 9223372036854775807)
  · have HJ := Lib.hid (show rmidJ a b = K by rw [HK.out]; unfold rmidJ; rw [if_f h4])
    go_enter Try.func24, Try.ntmps24
    go_upto_region 5 with (first | (go_at_call 20; refine (rkey_any _ _).mono ?_; rintro e w' ⟨rfl, rfl⟩) | (go_at_call 28; refine (rsteps_any _ _ _).mono ?_; rintro e w' ⟨rfl, rfl⟩))
    rw [show IntKind.u64.wrap (IntKind.u64.wrap (rkeyF a + 1) + IntKind.u64.wrap ((rstF a b).tdiv 2)) = K from HK.out.symm]
    go_wp2_with (first | (go_at_call 20; refine (rkey_any _ _).mono ?_; rintro e w' ⟨rfl, rfl⟩) | (go_at_call 28; refine (rsteps_any _ _ _).mono ?_; rintro e w' ⟨rfl, rfl⟩))
    refine (rof_any _ _).mono ?_
    rintro e w' ⟨rfl, hb⟩
    go_wp2_with fail
    go_ret2
    exact ⟨by rw [HR.out, HJ.out]; rfl, hb⟩
  · cases h5 : decide (9223372036854775807 ≤ K)
    · have HJ := Lib.hid (show rmidJ a b = K by unfold rmidJ; rw [← HK.out, if_t h4, if_f h5])
      go_enter Try.func24, Try.ntmps24
      go_upto_region 5 with (first | (go_at_call 20; refine (rkey_any _ _).mono ?_; rintro e w' ⟨rfl, rfl⟩) | (go_at_call 28; refine (rsteps_any _ _ _).mono ?_; rintro e w' ⟨rfl, rfl⟩))
      rw [show IntKind.u64.wrap (IntKind.u64.wrap (rkeyF a + 1) + IntKind.u64.wrap ((rstF a b).tdiv 2)) = K from HK.out.symm]
      go_wp2_with (first | (go_at_call 20; refine (rkey_any _ _).mono ?_; rintro e w' ⟨rfl, rfl⟩) | (go_at_call 28; refine (rsteps_any _ _ _).mono ?_; rintro e w' ⟨rfl, rfl⟩))
      refine (rof_any _ _).mono ?_
      rintro e w' ⟨rfl, hb⟩
      go_wp2_with fail
      go_ret2
      exact ⟨by rw [HR.out, HJ.out]; rfl, hb⟩
    · have HJ := Lib.hid (show rmidJ a b = IntKind.u64.wrap (K + 1) by unfold rmidJ; rw [← HK.out, if_t h4, if_t h5])
      go_enter Try.func24, Try.ntmps24
      go_upto_region 5 with (first | (go_at_call 20; refine (rkey_any _ _).mono ?_; rintro e w' ⟨rfl, rfl⟩) | (go_at_call 28; refine (rsteps_any _ _ _).mono ?_; rintro e w' ⟨rfl, rfl⟩))
      rw [show IntKind.u64.wrap (IntKind.u64.wrap (rkeyF a + 1) + IntKind.u64.wrap ((rstF a b).tdiv 2)) = K from HK.out.symm]
      go_wp2_with (first | (go_at_call 20; refine (rkey_any _ _).mono ?_; rintro e w' ⟨rfl, rfl⟩) | (go_at_call 28; refine (rsteps_any _ _ _).mono ?_; rintro e w' ⟨rfl, rfl⟩))
      refine (rof_any _ _).mono ?_
      rintro e w' ⟨rfl, hb⟩
      go_wp2_with fail
      go_ret2
      exact ⟨by rw [HR.out, HJ.out]; rfl, hb⟩
theorem rmid_any (a b : Nat) (w : World) :
    Calls Try.prog 24 #[.float .f64 a, .float .f64 b] w fun e w' => e = .returned (.tuple #[.float .f64 (rmidF a b).1, .bool (rmidF a b).2]) ∧ Below w.heap.size w w' := by
  cases h1 : (FloatKind.f64.format.order a a != some .eq)
  · cases h2 : (FloatKind.f64.format.order b b != some .eq)
    · cases h3 : (rstF a b == 0)
      · exact rmid_yes a b w h1 h2 h3
      · exact rmid_no a b w (.inr ⟨h1, .inr ⟨h2, h3⟩⟩)
    · exact rmid_no a b w (.inr ⟨h1, .inl h2⟩)
  · exact rmid_no a b w (.inl h1)
end Go.Proofs.Ytpacapodbbnnkaa
