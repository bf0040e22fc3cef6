import Derived.Test.YtnolhnlhohpkpaaFltW2
import Derived.Below
import Derived.Outline
namespace Go.Proofs.Ytnolhnlhohpkpaa
open Go.RowKit
theorem if_f {α : Type} {c : Bool} {a b : α} (h : c = false) : (if c = true then a else b) = b := if_neg (Bool.eq_false_iff.1 h)
theorem if_t {α : Type} {c : Bool} {a b : α} (h : c = true) : (if c = true then a else b) = a := if_pos h
def rclsF (b : Nat) : Int :=
  if (FloatKind.f64.format.order b b != some .eq) = true then 0 else if (FloatKind.f64.format.order b 18442240474082181119 == some .lt) = true then 1 else if (FloatKind.f64.format.order b 0 == some .lt) = true then 2
  else if (FloatKind.f64.format.order b 0 == some .eq) = true then 3 else if (FloatKind.f64.format.order b 9218868437227405311 == some .gt) = true then 5 else 4
def rcanF (b : Nat) : Nat := if (FloatKind.f64.format.order b b != some .eq) = true then 9221120237041090561 else if (FloatKind.f64.format.order b 0 == some .eq) = true then 0 else b
def rkeyF (b : Nat) : Int :=
  if (FloatKind.f64.format.order b b != some .eq) = true then 0 else if (ubits (rcanF b) / 9223372036854775808 == 0) = true then IntKind.u64.wrap (ubits (rcanF b) + 9223372036854775808) else IntKind.u64.wrap (18446744073709551615 - ubits (rcanF b))
theorem rbits_any (b : Nat) (w : World) :
    Calls Try.prog 25 #[.float .f64 b] w fun e w' => e = .returned (.int .u64 (ubits b)) ∧ w = w' := by
  have hf := run_tobits
  go_enter Try.func25, Try.ntmps25
  go_wp2
  go_ret
  exact ⟨rfl, rfl⟩
theorem rcanon_any (b : Nat) (w : World) :
    Calls Try.prog 66 #[.float .f64 b] w fun e w' => e = .returned (.float .f64 (rcanF b)) ∧ w = w' := by
  have hf := run_frombits
  cases h1 : (FloatKind.f64.format.order b b != some .eq)
  · cases h2 : (FloatKind.f64.format.order b 0 == some .eq)
    all_goals
      go_enter Try.func66, Try.ntmps66
      go_wp2
      go_ret
      exact ⟨ret_flt (by simp only [rcanF, h1, h2]; rfl), rfl⟩
  · go_enter Try.func66, Try.ntmps66
    go_wp2
    go_ret
    exact ⟨ret_flt (by simp only [rcanF, h1]; rfl), rfl⟩
theorem rkey_any (b : Nat) (w : World) :
    Calls Try.prog 100 #[.float .f64 b] w fun e w' => e = .returned (.int .u64 (rkeyF b)) ∧ w = w' := by
  cases h1 : (FloatKind.f64.format.order b b != some .eq)
  · cases h2 : (ubits (rcanF b) / 9223372036854775808 == 0)
    · have HR := Lib.hid (show rkeyF b = IntKind.u64.wrap (18446744073709551615 - ubits (rcanF b)) by unfold rkeyF; rw [if_f h1, if_f h2])
      go_enter Try.func100, Try.ntmps100
      go_wp2_with (first | (go_at_call 66; refine (rcanon_any _ _).mono ?_; rintro e w' ⟨rfl, rfl⟩) | (go_at_call 25; refine (rbits_any _ _).mono ?_; rintro e w' ⟨rfl, rfl⟩))
      go_ret
      exact ⟨by rw [HR.out]; rfl, rfl⟩
    · have HR := Lib.hid (show rkeyF b = IntKind.u64.wrap (ubits (rcanF b) + 9223372036854775808) by unfold rkeyF; rw [if_f h1, if_t h2])
      go_enter Try.func100, Try.ntmps100
      go_wp2_with (first | (go_at_call 66; refine (rcanon_any _ _).mono ?_; rintro e w' ⟨rfl, rfl⟩) | (go_at_call 25; refine (rbits_any _ _).mono ?_; rintro e w' ⟨rfl, rfl⟩))
      go_ret
      exact ⟨by rw [HR.out]; rfl, rfl⟩
  · have HR := Lib.hid (show rkeyF b = 0 by simp only [rkeyF, h1]; rfl)
    go_enter Try.func100, Try.ntmps100
    go_wp2
    go_ret
    exact ⟨by rw [HR.out]; rfl, rfl⟩
theorem riscanon_any (b : Nat) (w : World) :
    Calls Try.prog 104 #[.float .f64 b] w fun e w' => e = .returned (.bool (ubits b == ubits (rcanF b))) ∧ w = w' := by
  go_enter Try.func104, Try.ntmps104
  go_wp2_with (first | (go_at_call 66; refine (rcanon_any _ _).mono ?_; rintro e w' ⟨rfl, rfl⟩) | (go_at_call 25; refine (rbits_any _ _).mono ?_; rintro e w' ⟨rfl, rfl⟩))
  go_ret
  exact ⟨rfl, rfl⟩
theorem rsame_any (a b : Nat) (w : World) :
    Calls Try.prog 65 #[.float .f64 a, .float .f64 b] w fun e w' => e = .returned (.bool (rkeyF a == rkeyF b)) ∧ w = w' := by
  go_enter Try.func65, Try.ntmps65
  go_wp2_with (go_at_call 100; refine (rkey_any _ _).mono ?_; rintro e w' ⟨rfl, rfl⟩)
  go_ret
  exact ⟨rfl, rfl⟩
/-! ### Of: three floats are tried -/
def tryF (key c : Int) : Bool := (ubits c.toNat == ubits (rcanF c.toNat)) && (rkeyF c.toNat == key)
def rofF (key : Int) : Nat × Bool :=
  if tryF key (IntKind.u64.wrap (key - 9223372036854775808)) = true then ((IntKind.u64.wrap (key - 9223372036854775808)).toNat, true)
  else if tryF key (IntKind.u64.wrap (18446744073709551615 - key)) = true then ((IntKind.u64.wrap (18446744073709551615 - key)).toNat, true)
  else if tryF key 9221120237041090561 = true then (9221120237041090561, true) else (0, false)
def candF (c0 c1 c2 : Int) : Nat → Int
  | 0 => c0
  | 1 => c1
  | _ => c2
theorem tryF_a {key c : Int} (h : (ubits c.toNat == ubits (rcanF c.toNat)) = false) : tryF key c = false := by unfold tryF; rw [h]; rfl
theorem tryF_b {key c : Int} (h : (rkeyF c.toNat == key) = false) : tryF key c = false := by unfold tryF; rw [h, Bool.and_false]
theorem tryF_t {key c : Int} (h : (ubits c.toNat == ubits (rcanF c.toNat)) = true) (g : (rkeyF c.toNat == key) = true) : tryF key c = true := by unfold tryF; rw [h, g]; rfl
theorem rof_any (key : Int) (w : World) :
    Calls Try.prog 78 #[.int .u64 key] w fun e w' => e = .returned (.tuple #[.float .f64 (rofF key).1, .bool (rofF key).2]) ∧ Below w.heap.size w w' := by
  have hf := run_frombits
  obtain ⟨c0, hc0⟩ : ∃ c, c = IntKind.u64.wrap (key - 9223372036854775808) := ⟨_, rfl⟩
  obtain ⟨c1, hc1⟩ : ∃ c, c = IntKind.u64.wrap (18446744073709551615 - key) := ⟨_, rfl⟩
  have HC0 := Lib.hid hc0
  have HC1 := Lib.hid hc1
  clear hc0 hc1
  have R : ∀ f b, (tryF key c0 = true → (f, b) = (c0.toNat, true)) → (tryF key c0 = false → tryF key c1 = true → (f, b) = (c1.toNat, true)) →
      (tryF key c0 = false → tryF key c1 = false → tryF key 9221120237041090561 = true → (f, b) = (9221120237041090561, true)) →
      (tryF key c0 = false → tryF key c1 = false → tryF key 9221120237041090561 = false → (f, b) = (0, false)) → rofF key = (f, b) := by
    intro f b r0 r1 r2 r3
    unfold rofF
    rw [← HC0.out, ← HC1.out]
    cases t0 : tryF key c0
    · rw [if_f rfl]
      cases t1 : tryF key c1
      · rw [if_f rfl]
        cases t2 : tryF key 9221120237041090561
        · rw [if_f rfl]; exact (r3 t0 t1 t2).symm
        · rw [if_t rfl]; exact (r2 t0 t1 t2).symm
      · rw [if_t rfl]; exact (r1 t0 t1).symm
    · rw [if_t rfl]; exact (r0 t0).symm
  have HR := Lib.hid R
  clear R
  go_enter Try.func78, Try.ntmps78
  go_wp2
  rw [← HC0.out, ← HC1.out]
  go_loop [13] (fun i => ∃ k : Nat, k ≤ 3 ∧ i = .int .i64 k ∧ Hid ((1 ≤ k → tryF key c0 = false) ∧ (2 ≤ k → tryF key c1 = false) ∧ (3 ≤ k → tryF key 9221120237041090561 = false))) (fun i => 3 - (intOf i).toNat)
  case atStart => exact ⟨0, by omega, rfl, Lib.hid ⟨fun h => by omega, fun h => by omega, fun h => by omega⟩⟩
  case round =>
    obtain ⟨k, hk, rfl, H⟩ := hrel
    have hk4 : k = 0 ∨ k = 1 ∨ k = 2 ∨ k = 3 := by omega
    clear hk
    rcases hk4 with rfl | rfl | rfl | rfl
    · cases hA : (ubits c0.toNat == ubits (rcanF c0.toNat))
      · have T := Lib.hid (tryF_a (key := key) hA)
        go_wp2_with (first | (go_at_call 104; refine (riscanon_any _ _).mono ?_; rintro e w' ⟨rfl, rfl⟩) | (go_at_call 100; refine (rkey_any _ _).mono ?_; rintro e w' ⟨rfl, rfl⟩))
        go_round
        case rel => exact ⟨1, by omega, rfl, Lib.hid ⟨fun _ => T.out, fun h => by omega, fun h => by omega⟩⟩
        case measure => simp [intOf]
      · cases hB : (rkeyF c0.toNat == key)
        · have T := Lib.hid (tryF_b (c := c0) hB)
          go_wp2_with (first | (go_at_call 104; refine (riscanon_any _ _).mono ?_; rintro e w' ⟨rfl, rfl⟩) | (go_at_call 100; refine (rkey_any _ _).mono ?_; rintro e w' ⟨rfl, rfl⟩))
          go_round
          case rel => exact ⟨1, by omega, rfl, Lib.hid ⟨fun _ => T.out, fun h => by omega, fun h => by omega⟩⟩
          case measure => simp [intOf]
        · have T := Lib.hid (tryF_t hA hB)
          have Z := Lib.hid (HR.out c0.toNat true (fun _ => rfl) (fun h => by rw [T.out] at h; cases h) (fun h => by rw [T.out] at h; cases h) (fun h => by rw [T.out] at h; cases h))
          go_wp2_with (first | (go_at_call 104; refine (riscanon_any _ _).mono ?_; rintro e w' ⟨rfl, rfl⟩) | (go_at_call 100; refine (rkey_any _ _).mono ?_; rintro e w' ⟨rfl, rfl⟩))
          go_ret2
          exact ⟨by rw [Z.out]; rfl, (Below.refl _ _).alloc (Nat.le_refl _) _⟩
    · cases hA : (ubits c1.toNat == ubits (rcanF c1.toNat))
      · have T := Lib.hid (tryF_a (key := key) hA)
        go_wp2_with (first | (go_at_call 104; refine (riscanon_any _ _).mono ?_; rintro e w' ⟨rfl, rfl⟩) | (go_at_call 100; refine (rkey_any _ _).mono ?_; rintro e w' ⟨rfl, rfl⟩))
        go_round
        case rel => exact ⟨2, by omega, rfl, Lib.hid ⟨fun _ => H.out.1 (by omega), fun _ => T.out, fun h => by omega⟩⟩
        case measure => simp [intOf]
      · cases hB : (rkeyF c1.toNat == key)
        · have T := Lib.hid (tryF_b (c := c1) hB)
          go_wp2_with (first | (go_at_call 104; refine (riscanon_any _ _).mono ?_; rintro e w' ⟨rfl, rfl⟩) | (go_at_call 100; refine (rkey_any _ _).mono ?_; rintro e w' ⟨rfl, rfl⟩))
          go_round
          case rel => exact ⟨2, by omega, rfl, Lib.hid ⟨fun _ => H.out.1 (by omega), fun _ => T.out, fun h => by omega⟩⟩
          case measure => simp [intOf]
        · have T := Lib.hid (tryF_t hA hB)
          have Z := Lib.hid (HR.out c1.toNat true (fun h => by rw [H.out.1 (by omega)] at h; cases h) (fun _ _ => rfl) (fun _ h => by rw [T.out] at h; cases h) (fun _ h => by rw [T.out] at h; cases h))
          go_wp2_with (first | (go_at_call 104; refine (riscanon_any _ _).mono ?_; rintro e w' ⟨rfl, rfl⟩) | (go_at_call 100; refine (rkey_any _ _).mono ?_; rintro e w' ⟨rfl, rfl⟩))
          go_ret2
          exact ⟨by rw [Z.out]; rfl, (Below.refl _ _).alloc (Nat.le_refl _) _⟩
    · cases hA : (ubits 9221120237041090561 == ubits (rcanF 9221120237041090561))
      · have T := Lib.hid (tryF_a (key := key) (c := (9221120237041090561 : Int)) hA)
        go_wp2_with (first | (go_at_call 104; refine (riscanon_any _ _).mono ?_; rintro e w' ⟨rfl, rfl⟩) | (go_at_call 100; refine (rkey_any _ _).mono ?_; rintro e w' ⟨rfl, rfl⟩))
        go_round
        case rel => exact ⟨3, by omega, rfl, Lib.hid ⟨fun _ => H.out.1 (by omega), fun _ => H.out.2.1 (by omega), fun _ => T.out⟩⟩
        case measure => simp [intOf]
      · cases hB : (rkeyF 9221120237041090561 == key)
        · have T := Lib.hid (tryF_b (c := (9221120237041090561 : Int)) hB)
          go_wp2_with (first | (go_at_call 104; refine (riscanon_any _ _).mono ?_; rintro e w' ⟨rfl, rfl⟩) | (go_at_call 100; refine (rkey_any _ _).mono ?_; rintro e w' ⟨rfl, rfl⟩))
          go_round
          case rel => exact ⟨3, by omega, rfl, Lib.hid ⟨fun _ => H.out.1 (by omega), fun _ => H.out.2.1 (by omega), fun _ => T.out⟩⟩
          case measure => simp [intOf]
        · have T := Lib.hid (tryF_t (c := (9221120237041090561 : Int)) hA hB)
          have Z := Lib.hid (HR.out 9221120237041090561 true (fun h => by rw [H.out.1 (by omega)] at h; cases h) (fun _ h => by rw [H.out.2.1 (by omega)] at h; cases h) (fun _ _ _ => rfl) (fun _ _ h => by rw [T.out] at h; cases h))
          go_wp2_with (first | (go_at_call 104; refine (riscanon_any _ _).mono ?_; rintro e w' ⟨rfl, rfl⟩) | (go_at_call 100; refine (rkey_any _ _).mono ?_; rintro e w' ⟨rfl, rfl⟩))
          go_ret2
          exact ⟨by rw [Z.out]; rfl, (Below.refl _ _).alloc (Nat.le_refl _) _⟩
    · have Z := Lib.hid (HR.out 0 false (fun h => by rw [H.out.1 (by omega)] at h; cases h) (fun _ h => by rw [H.out.2.1 (by omega)] at h; cases h) (fun _ _ h => by rw [H.out.2.2 (by omega)] at h; cases h) (fun _ _ _ => rfl))
      go_wp2
      go_ret2
      exact ⟨by rw [Z.out]; rfl, (Below.refl _ _).alloc (Nat.le_refl _) _⟩
end Go.Proofs.Ytnolhnlhohpkpaa
