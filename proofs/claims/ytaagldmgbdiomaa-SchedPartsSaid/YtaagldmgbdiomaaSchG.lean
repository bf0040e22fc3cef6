import Derived.Test.YtaagldmgbdiomaaSchE
namespace Go.Proofs.Ytaagldmgbdiomaa
open Go.RowKit
set_option linter.unusedVariables false
set_option linter.unusedSimpArgs false
/-- A step of a kind, of a node, without more. -/
def zs (k m : Int) : STEP.Ty := (k, m, 0, 0, (0, 0, 0, ⟨#[]⟩, 0, false, ()), (0, 0, ⟨#[]⟩, 0, false, 0, ()), ([] : List Bool), ([] : List UInt8), ())
def zc (k m : Int) : List Value := stepC k m 0 0 0 0 0 ⟨#[]⟩ 0 false 0 0 ⟨#[]⟩ 0 false 0 (.slice none 0 0) (.slice none 0 0)
set_option maxRecDepth 20000 in
theorem rd_zs (w : World) (ok : Nat → Prop) (k m : Int) (hk : I64 k) (hm : I64 m) : Rd w ok STEP (zs k m) (zc k m) := by
  have h0 : I64 0 := by unfold I64; decide
  have u0 : U64 0 := by unfold U64; decide
  refine rd_step_mk ⟨hk, hm, h0, h0, h0, u0, u0, by decide, by decide, u0, h0, by decide, h0, h0⟩ ?_ ?_
  · exact rd_sl.2 ⟨none, 0, 0, rfl, by omega, by omega, fun _ => rfl, rfl, fun _ => rfl, fun ad e => by cases e⟩
  · exact rd_sl.2 ⟨none, 0, 0, rfl, by omega, by omega, fun _ => rfl, rfl, fun _ => rfl, fun ad e => by cases e⟩
def fairL (j : Nat) : List STEP.Ty := zs 3 1 :: List.replicate j (zs 4 0)
set_option maxRecDepth 20000 in
theorem fairL_succ (j : Nat) : fairL j ++ [zs 4 0] = fairL (j + 1) := by unfold fairL; rw [List.replicate_succ']; rfl
set_option maxRecDepth 20000 in
theorem fairL_len (j : Nat) : (fairL j).length = j + 1 := by simp [fairL]
set_option maxRecDepth 20000 in
theorem fair11 (w : World) :
    Calls Try.prog 57 #[.int .i64 1, .int .i64 1] w fun e w' => ∃ v, e = .returned v ∧ Own w' w.heap.size 45 STEP v (fairL 4) ∧ Below w.heap.size w w' := by
  go_enter Try.func57, Try.ntmps57
  go_wp2_with fail
  go_loopw [5, 13] (fun s5 s13 wr => ∃ (v : Value) (r : Nat), s5 = v ∧ s13 = .int .i64 r ∧ Below w.heap.size w wr ∧ ((r = 0 ∧ Own wr w.heap.size 45 STEP v []) ∨ (r = 1 ∧ Own wr w.heap.size 45 STEP v (fairL 4)))) (fun _ s13 _ => 1 - (intOf s13).toNat)
  case atStart => exact ⟨_, 0, rfl, rfl, Below.refl _ _, .inl ⟨rfl, Own.nil _ _ _ _⟩⟩
  case round =>
    obtain ⟨v, r, rfl, rfl, hbel, hr⟩ := hrel
    rcases hr with ⟨rfl, hO⟩ | ⟨rfl, hO⟩
    · obtain ⟨A0, c0, rfl, _⟩ := hO.form
      have HO := Lib.hid hO
      clear hO
      go_wp2_with fail
      go_loopw [5, 16] (fun s5 s16 wx => ∃ (v : Value) (r : Nat), s5 = v ∧ s16 = .int .i64 r ∧ Below w.heap.size w wx ∧ ((r = 0 ∧ Own wx w.heap.size 45 STEP v []) ∨ (r = 1 ∧ Own wx w.heap.size 45 STEP v (fairL 0)))) (fun _ s16 _ => 1 - (intOf s16).toNat)
      case atStart => exact ⟨_, 0, rfl, rfl, hbel, .inl ⟨rfl, HO.out⟩⟩
      case round =>
        obtain ⟨v, r, rfl, rfl, hbx, hr⟩ := hrel
        rcases hr with ⟨rfl, hO⟩ | ⟨rfl, hO⟩
        · obtain ⟨A1, c1, rfl, _⟩ := hO.form
          have HO1 := Lib.hid hO
          clear hO
          go_wp2_with (at_builtin; go_loud (refine wp_appO (m := 1) (r := [zs 3 1]) (ys := zc 3 1) rfl (.tmp 19) (.tmp 23) rfl (HO1.out.below (below_alloc1 wr _)) rfl (fun e => by cases e) (fun ad' e => by cases e; exact At.blk (heap_alloc_new wr _)) (RdL.single (HO1.out.apart (B := wr.heap.size) (Nat.le_refl _) hbx.size (rd_zs wr _ 3 1 (by unfold I64; decide) (by unfold I64; decide)) (below_alloc1 wr _))) (hbx.alloc hbx.size _) Try.underlying33 info_step rfl (by decide) rfl rfl (by rw [bytes_step]; decide) (by decide) (by have := hbx.size; simp; omega) ?_; intro v4 w4 hO4 hb4 _ _; have HO4 := Lib.hid hO4; obtain ⟨A4, c4, rfl, _⟩ := hO4.form; clear hO4))
          go_roundw
          case measure => simp [intOf]
          case rel =>
            (repeat apply Exists.intro)
            exact ⟨⟨_, 1, rfl, rfl, hb4, .inr ⟨rfl, HO4.out⟩⟩, rfl⟩
        · obtain ⟨A1, c1, rfl, _⟩ := hO.form
          have HO1 := Lib.hid hO
          clear hO
          go_wp2_with fail
          go_loopw [5, 28] (fun s5 s28 wy => ∃ (v : Value) (j : Nat), s5 = v ∧ s28 = .int .i64 j ∧ j ≤ 4 ∧ Below w.heap.size w wy ∧ Own wy w.heap.size 45 STEP v (fairL j)) (fun _ s28 _ => 4 - (intOf s28).toNat)
          case atStart => exact ⟨_, 0, rfl, rfl, by omega, hbx, HO1.out⟩
          case round =>
            obtain ⟨v, j, rfl, rfl, hj, hby, hO⟩ := hrel
            obtain ⟨A2, c2, rfl, _⟩ := hO.form
            rw [fairL_len] at hO ⊢
            have HO2 := Lib.hid hO
            clear hO
            by_cases hlt : j < 4
            · have j0 : (0 : Int) ≤ (j : Int) := by omega
              have j1 : (j : Int) < 4 := by omega
              go_wp2_with (at_builtin; go_loud (refine wp_appO (m := 1) (r := [zs 4 0]) (ys := zc 4 0) rfl (.tmp 30) (.tmp 32) rfl (HO2.out.below (below_alloc1 wr _)) rfl (fun e => by cases e) (fun ad' e => by cases e; exact At.blk (heap_alloc_new wr _)) (RdL.single (HO2.out.apart (B := wr.heap.size) (Nat.le_refl _) hby.size (rd_zs wr _ 4 0 (by unfold I64; decide) (by unfold I64; decide)) (below_alloc1 wr _))) (hby.alloc hby.size _) Try.underlying33 info_step rfl (by decide) rfl rfl (by rw [bytes_step, fairL_len]; omega) (by rw [fairL_len]; omega) (by have := hby.size; simp; omega) ?_; intro v4 w4 hO4 hb4 _ _; rw [fairL_succ] at hO4; obtain ⟨A4, c4, rfl, _⟩ := hO4.form; rw [fairL_len] at hO4 ⊢; have HO4 := Lib.hid hO4; clear hO4))
              go_roundw
              case measure => simp [intOf]; omega
              case rel =>
                (repeat apply Exists.intro)
                exact ⟨⟨_, j + 1, rfl, by go_num, by omega, hb4, HO4.out⟩, rfl⟩
            · obtain rfl : j = 4 := by omega
              go_wp2_with fail
              go_roundw
              case measure => simp [intOf]
              case rel => exact ⟨_, 1, rfl, rfl, hby, .inr ⟨rfl, HO2.out⟩⟩
    · obtain ⟨A0, c0, rfl, _⟩ := hO.form
      have HO := Lib.hid hO
      clear hO
      go_wp2_with fail
      go_ret
      exact ⟨_, rfl, HO.out, hbel⟩
set_option maxRecDepth 20000 in
theorem sch_awake (w : World) :
    Calls Try.prog 17 #[] w fun e w' => e = .returned (.bool true) ∧ Below w.heap.size w w' := by
  go_enter Try.func17, Try.ntmps17
  go_wp2_with fail
  refine (fair11 w).mono ?_
  rintro e w1 ⟨v, rfl, hO, hb1⟩
  obtain ⟨A, c, rfl, hc1, hc2, hAn, hR⟩ := hO.form
  obtain ⟨ad, rfl⟩ : ∃ ad, A = some ad := by cases A with
    | none => have := hAn rfl; rw [this, fairL_len] at hc1; omega
    | some ad => exact ⟨ad, rfl⟩
  obtain ⟨c0, _, hat0, hr0⟩ := hR.2.2 ad rfl 0 (zs 3 1) rfl
  obtain ⟨c4, _, hat4, hr4⟩ := hR.2.2 ad rfl 4 (zs 4 0) rfl
  have f0 := hat0 0 _ (step_front hr0).1
  have f4 := hat4 0 _ (step_front hr4).1
  replace f0 : w1.cell? ad = some (.int .i64 3) := by simpa [Sh.size, Addr.add, zs] using f0
  replace f4 : w1.cell? ⟨ad.block, ad.off + 72, none⟩ = some (.int .i64 4) := by simpa [Sh.size, Addr.add, zs] using f4
  rw [fairL_len]
  clear hO hR hat0 hat4 hr0 hr4
  go_wp2_with fail
  go_ret
  exact ⟨rfl, hb1⟩
end Go.Proofs.Ytaagldmgbdiomaa
