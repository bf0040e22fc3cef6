import Derived.Test.YtnolhnlhohpkpaaCdcR
namespace Go.Proofs.Ytnolhnlhohpkpaa
open Go.RowKit Cdc
set_option linter.unusedVariables false
set_option linter.unusedSimpArgs false
set_option maxRecDepth 20000 in
theorem fx_lt (k : Nat) (s : St) : (fx k s).1 < 256 ^ k := by
  unfold fx
  split
  · exact Nat.pow_pos (by omega)
  · next h =>
    have := val_lt (s.1.take k)
    rw [List.length_take, Nat.min_eq_left (by simp only [not_or, Nat.not_lt] at h; exact h.2)] at this
    exact this
set_option maxRecDepth 20000 in
theorem fx_bad_eq {k : Nat} {s : St} (h : (fx k s).2.2 = true) : fx k s = (0, failed) := by
  unfold fx at h ⊢
  split
  · rfl
  · next hi => rw [if_neg hi] at h; cases h
def NPost (w : World) (g most : Nat) (s : St) (e : Ending) (w' : World) : Prop :=
  e = .returned (.int .u64 (rdN most s).1) ∧ RdAt w' g (rdN most s).2 ∧ w.grownBy w' (some g)
set_option maxRecDepth 20000 in
theorem npost_fail {w w' : World} {g most : Nat} {s : St} (h : rdN most s = (0, failed)) (hr : RdAt w' g failed) (hg : w.grownBy w' (some g)) : NPost w g most s (.returned (.int .u64 0)) w' := by
  unfold NPost
  rw [h]
  exact ⟨rfl, hr, hg⟩
set_option maxHeartbeats 4000000 in
set_option maxRecDepth 20000 in
theorem rN_any (w : World) (g most : Nat) (s : St) (h : RdAt w g s) :
    Calls Try.prog 21 #[.pointer (some ⟨g, 0, none⟩), .int .u64 most] w (NPost w g most s) := by
  have HX := Lib.hid (rfixed_any w g 1 s h (by omega))
  obtain ⟨a, s1, hp⟩ : ∃ a s1, fx 1 s = (a, s1) := ⟨_, _, rfl⟩
  have ha : a < 256 := by have := fx_lt 1 s; rw [hp] at this; simpa using this
  have HP := Lib.hid hp
  clear h hp
  by_cases h128 : 128 ≤ a
  · have c128 : (128 : Int) ≤ (a : Int) := by omega
    have hwr : IntKind.i64.wrap (a : Int) = (a : Int) := IntWalk.i64_in _ (by omega)
    by_cases hk : a - 128 < 1 ∨ 8 < a - 128
    · have HD := Lib.hid (show rdN most s = (0, failed) by unfold rdN; rw [HP.out]; rw [if_pos h128, if_pos hk])
      have hk2 : (a : Int) - 128 < 1 ∨ (8 : Int) < (a : Int) - 128 := by omega
      rcases hk2 with hk2 | hk2
      · clear hk
        go_enter Try.func21, Try.ntmps21
        go_wp2_with fail
        refine HX.out.mono ?_
        rintro e w2 ⟨rfl, hr, hgr⟩
        rw [HP.out] at hr ⊢
        have HR := Lib.hid hr
        clear hr
        go_wp2_with (go_at_call 69; refine (fail_any _ g s1 HR.out).mono ?_; rintro e w9 ⟨rfl, hr9, hg9⟩)
        go_ret
        exact npost_fail HD.out hr9 (hgr.trans hg9)
      · have hk3 : ¬ (a : Int) - 128 < 1 := by omega
        clear hk
        go_enter Try.func21, Try.ntmps21
        go_wp2_with fail
        refine HX.out.mono ?_
        rintro e w2 ⟨rfl, hr, hgr⟩
        rw [HP.out] at hr ⊢
        have HR := Lib.hid hr
        clear hr
        go_wp2_with (go_at_call 69; refine (fail_any _ g s1 HR.out).mono ?_; rintro e w9 ⟨rfl, hr9, hg9⟩)
        go_ret
        exact npost_fail HD.out hr9 (hgr.trans hg9)
    · obtain ⟨k, hka⟩ : ∃ k, a = 128 + k := ⟨a - 128, by omega⟩
      subst hka
      have hk8 : 1 ≤ k ∧ k ≤ 8 := by omega
      obtain ⟨b, s2, hq⟩ : ∃ b s2, fx k s1 = (b, s2) := ⟨_, _, rfl⟩
      have hb : b < 18446744073709551616 := by
        have := fx_lt k s1
        rw [hq] at this
        exact Nat.lt_of_lt_of_le this (show 256 ^ k ≤ 256 ^ 8 from Nat.pow_le_pow_right (by omega) hk8.2)
      have HQ := Lib.hid hq
      have hkk : 128 + k - 128 = k := by omega
      have HE := Lib.hid (show rdN most s = if b < 128 ∨ wide b ≠ k ∨ most < b ∨ s2.2 = true then (0, failed) else (b, s2) by
        unfold rdN
        rw [HP.out]
        simp only
        rw [if_pos h128, if_neg (by omega), hkk, HQ.out])
      clear hq
      have e1 : IntKind.i64.wrap (((128 + k : Nat) : Int)) = 128 + (k : Int) := by rw [IntWalk.i64_in _ (by omega)]; omega
      have E1 := Lib.hid e1
      have k1 : ¬ (k : Int) < 1 := by omega
      have k2 : ¬ (8 : Int) < (k : Int) := by omega
      clear hk hwr e1 hkk
      by_cases hd1 : b < 128
      · have HD := Lib.hid (show rdN most s = (0, failed) by rw [HE.out, if_pos (.inl hd1)])
        have hd2 : (b : Int) < 128 := by omega
        clear hd1
        by_cases hm : most < b
        · have hm2 : (most : Int) < (b : Int) := by omega
          clear hm
          go_enter Try.func21, Try.ntmps21
          go_wp2_with fail
          refine HX.out.mono ?_
          rintro e w2 ⟨rfl, hr, hgr⟩
          rw [HP.out] at hr ⊢
          have HX2 := Lib.hid (rfixed_any w2 g k s1 hr hk8.2)
          clear hr
          go_wp2_with fail
          rw [show (128 + (k : Int) - 128) = (k : Int) by omega]
          refine HX2.out.mono ?_
          rintro e w3 ⟨rfl, hr3, hgr3⟩
          rw [HQ.out] at hr3 ⊢
          have HR := Lib.hid hr3
          have hg3 := hgr.trans hgr3
          clear hr3
          go_wp2_with (first
            | (go_at_call 69; refine (fail_any _ g failed HR9.out).mono ?_; rintro e w8 ⟨rfl, hr8, hg8⟩; have HR8 := Lib.hid hr8; clear hr8)
            | (go_at_call 69; refine (fail_any _ g s2 HR.out).mono ?_; rintro e w9 ⟨rfl, hr9, hg9⟩; have HR9 := Lib.hid hr9; clear hr9)
            | (go_at_call 71; refine (ok_any _ g _ HR8.out).mono ?_; rintro e w10 ⟨rfl, rfl⟩)
            | (go_at_call 70; refine (size_any b _ hb).mono ?_; rintro e w7 ⟨rfl, rfl⟩))
          go_ret
          exact npost_fail HD.out HR8.out ((hg3.trans hg9).trans hg8)
        · have hm2 : ¬ (most : Int) < (b : Int) := by omega
          clear hm
          go_enter Try.func21, Try.ntmps21
          go_wp2_with fail
          refine HX.out.mono ?_
          rintro e w2 ⟨rfl, hr, hgr⟩
          rw [HP.out] at hr ⊢
          have HX2 := Lib.hid (rfixed_any w2 g k s1 hr hk8.2)
          clear hr
          go_wp2_with fail
          rw [show (128 + (k : Int) - 128) = (k : Int) by omega]
          refine HX2.out.mono ?_
          rintro e w3 ⟨rfl, hr3, hgr3⟩
          rw [HQ.out] at hr3 ⊢
          have HR := Lib.hid hr3
          have hg3 := hgr.trans hgr3
          clear hr3
          go_wp2_with (first
            | (go_at_call 69; refine (fail_any _ g s2 HR.out).mono ?_; rintro e w9 ⟨rfl, hr9, hg9⟩; have HR9 := Lib.hid hr9; clear hr9)
            | (go_at_call 71; refine (ok_any _ g _ HR9.out).mono ?_; rintro e w10 ⟨rfl, rfl⟩)
            | (go_at_call 70; refine (size_any b _ hb).mono ?_; rintro e w7 ⟨rfl, rfl⟩))
          go_ret
          exact npost_fail HD.out HR9.out (hg3.trans hg9)
      · have hd2 : ¬ (b : Int) < 128 := by omega
        by_cases hwd : wide b = k
        · have HWD := Lib.hid hwd
          have hwb : ((wide b : Int) == (k : Int)) = true := by rw [hwd]; simp
          by_cases hm : most < b
          · have HD := Lib.hid (show rdN most s = (0, failed) by rw [HE.out, if_pos (.inr (.inr (.inl hm)))])
            have hm2 : (most : Int) < (b : Int) := by omega
            clear hm hd1 hwd
            go_enter Try.func21, Try.ntmps21
            go_wp2_with fail
            refine HX.out.mono ?_
            rintro e w2 ⟨rfl, hr, hgr⟩
            rw [HP.out] at hr ⊢
            have HX2 := Lib.hid (rfixed_any w2 g k s1 hr hk8.2)
            clear hr
            go_wp2_with fail
            rw [show (128 + (k : Int) - 128) = (k : Int) by omega]
            refine HX2.out.mono ?_
            rintro e w3 ⟨rfl, hr3, hgr3⟩
            rw [HQ.out] at hr3 ⊢
            have HR := Lib.hid hr3
            have hg3 := hgr.trans hgr3
            clear hr3
            go_wp2_with (first
              | (go_at_call 69; refine (fail_any _ g s2 HR.out).mono ?_; rintro e w9 ⟨rfl, hr9, hg9⟩; have HR9 := Lib.hid hr9; clear hr9)
              | (go_at_call 71; refine (ok_any _ g _ HR9.out).mono ?_; rintro e w10 ⟨rfl, rfl⟩)
              | (go_at_call 70; refine (size_any b _ hb).mono ?_; rintro e w7 ⟨rfl, rfl⟩; rw [HWD.out]))
            go_ret
            exact npost_fail HD.out HR9.out (hg3.trans hg9)
          · have hm2 : ¬ (most : Int) < (b : Int) := by omega
            cases hb2 : s2.2 with
            | true =>
              exfalso
              have := fx_bad_eq (k := k) (s := s1) (by rw [HQ.out]; exact hb2)
              rw [HQ.out] at this
              injection this with e1 _
              omega
            | false =>
              have HD := Lib.hid (show rdN most s = (b, s2) by rw [HE.out, if_neg (by rw [hb2]; simp only [not_or]; exact ⟨hd1, fun e => e hwd, hm, by simp⟩)])
              have hb3 : (!s2.2) = true := by rw [hb2]; rfl
              clear hm hd1 hwd hb2
              go_enter Try.func21, Try.ntmps21
              go_wp2_with fail
              refine HX.out.mono ?_
              rintro e w2 ⟨rfl, hr, hgr⟩
              rw [HP.out] at hr ⊢
              have HX2 := Lib.hid (rfixed_any w2 g k s1 hr hk8.2)
              clear hr
              go_wp2_with fail
              rw [show (128 + (k : Int) - 128) = (k : Int) by omega]
              refine HX2.out.mono ?_
              rintro e w3 ⟨rfl, hr3, hgr3⟩
              rw [HQ.out] at hr3 ⊢
              have HR := Lib.hid hr3
              have hg3 := hgr.trans hgr3
              clear hr3
              go_wp2_with (first
                | (go_at_call 71; refine (ok_any _ g s2 HR.out).mono ?_; rintro e w10 ⟨rfl, rfl⟩; rw [hb3])
                | (go_at_call 70; refine (size_any b _ hb).mono ?_; rintro e w7 ⟨rfl, rfl⟩; rw [HWD.out]))
              go_ret
              unfold NPost
              rw [HD.out]
              exact ⟨rfl, HR.out, hg3⟩
        · have HD := Lib.hid (show rdN most s = (0, failed) by rw [HE.out, if_pos (.inr (.inl hwd))])
          obtain ⟨wb, hwbd⟩ : ∃ wb, wide b = wb := ⟨_, rfl⟩
          have HWD := Lib.hid hwbd
          have hwn : ¬ (wb : Int) = (k : Int) := by omega
          have hwb : ((wb : Int) == (k : Int)) = false := beq_eq_false_iff_ne.2 hwn
          have hbn : ((wb : Int) != (k : Int)) = true := by unfold bne; rw [hwb]; rfl
          clear hwbd
          clear hwd hd1
          by_cases hm : most < b
          · have hm2 : (most : Int) < (b : Int) := by omega
            clear hm
            go_enter Try.func21, Try.ntmps21
            go_wp2_with fail
            refine HX.out.mono ?_
            rintro e w2 ⟨rfl, hr, hgr⟩
            rw [HP.out] at hr ⊢
            have HX2 := Lib.hid (rfixed_any w2 g k s1 hr hk8.2)
            clear hr
            go_wp2_with fail
            rw [show (128 + (k : Int) - 128) = (k : Int) by omega]
            refine HX2.out.mono ?_
            rintro e w3 ⟨rfl, hr3, hgr3⟩
            rw [HQ.out] at hr3 ⊢
            have HR := Lib.hid hr3
            have hg3 := hgr.trans hgr3
            clear hr3
            go_wp2_with (first
              | (go_at_call 69; refine (fail_any _ g failed HR9.out).mono ?_; rintro e w8 ⟨rfl, hr8, hg8⟩; have HR8 := Lib.hid hr8; clear hr8)
              | (go_at_call 69; refine (fail_any _ g s2 HR.out).mono ?_; rintro e w9 ⟨rfl, hr9, hg9⟩; have HR9 := Lib.hid hr9; clear hr9)
              | (go_at_call 71; refine (ok_any _ g _ HR8.out).mono ?_; rintro e w10 ⟨rfl, rfl⟩)
              | (go_at_call 70; refine (size_any b _ hb).mono ?_; rintro e w7 ⟨rfl, rfl⟩; rw [HWD.out]))
            go_ret
            exact npost_fail HD.out HR8.out ((hg3.trans hg9).trans hg8)
          · have hm2 : ¬ (most : Int) < (b : Int) := by omega
            clear hm
            go_enter Try.func21, Try.ntmps21
            go_wp2_with fail
            refine HX.out.mono ?_
            rintro e w2 ⟨rfl, hr, hgr⟩
            rw [HP.out] at hr ⊢
            have HX2 := Lib.hid (rfixed_any w2 g k s1 hr hk8.2)
            clear hr
            go_wp2_with fail
            rw [show (128 + (k : Int) - 128) = (k : Int) by omega]
            refine HX2.out.mono ?_
            rintro e w3 ⟨rfl, hr3, hgr3⟩
            rw [HQ.out] at hr3 ⊢
            have HR := Lib.hid hr3
            have hg3 := hgr.trans hgr3
            clear hr3
            go_wp2_with (first
              | (go_at_call 69; refine (fail_any _ g s2 HR.out).mono ?_; rintro e w9 ⟨rfl, hr9, hg9⟩; have HR9 := Lib.hid hr9; clear hr9)
              | (go_at_call 71; refine (ok_any _ g _ HR9.out).mono ?_; rintro e w10 ⟨rfl, rfl⟩)
              | (go_at_call 70; refine (size_any b _ hb).mono ?_; rintro e w7 ⟨rfl, rfl⟩; rw [HWD.out]))
            go_ret
            exact npost_fail HD.out HR9.out (hg3.trans hg9)
  · have HE := Lib.hid (show rdN most s = if most < a ∨ s1.2 = true then (0, failed) else (a, s1) by
      unfold rdN
      rw [HP.out]
      simp only
      rw [if_neg h128])
    have c128 : ¬ (128 : Int) ≤ (a : Int) := by omega
    by_cases hm : most < a
    · have HD := Lib.hid (show rdN most s = (0, failed) by rw [HE.out, if_pos (.inl hm)])
      have hm2 : (most : Int) < (a : Int) := by omega
      clear hm h128
      go_enter Try.func21, Try.ntmps21
      go_wp2_with fail
      refine HX.out.mono ?_
      rintro e w2 ⟨rfl, hr, hgr⟩
      rw [HP.out] at hr ⊢
      have HR := Lib.hid hr
      clear hr
      go_wp2_with (first
        | (go_at_call 69; refine (fail_any _ g s1 HR.out).mono ?_; rintro e w9 ⟨rfl, hr9, hg9⟩; have HR9 := Lib.hid hr9; clear hr9)
        | (go_at_call 71; refine (ok_any _ g _ HR9.out).mono ?_; rintro e w10 ⟨rfl, rfl⟩))
      go_ret
      exact npost_fail HD.out HR9.out (hgr.trans hg9)
    · have hm2 : ¬ (most : Int) < (a : Int) := by omega
      cases hb : s1.2 with
      | true =>
        have HD := Lib.hid (show rdN most s = (0, failed) by rw [HE.out, if_pos (.inr hb)])
        have HS := Lib.hid (show s1 = failed by have := fx_bad_eq (k := 1) (s := s) (by rw [HP.out]; exact hb); rw [HP.out] at this; injection this)
        have hb2 : (!s1.2) = false := by rw [hb]; rfl
        clear hm h128 hb
        go_enter Try.func21, Try.ntmps21
        go_wp2_with fail
        refine HX.out.mono ?_
        rintro e w2 ⟨rfl, hr, hgr⟩
        rw [HP.out] at hr ⊢
        have HR := Lib.hid hr
        clear hr
        go_wp2_with (go_at_call 71; refine (ok_any _ g s1 HR.out).mono ?_; rintro e w10 ⟨rfl, rfl⟩; rw [hb2])
        go_ret
        exact npost_fail HD.out (HS.out ▸ HR.out) hgr
      | false =>
        have HD := Lib.hid (show rdN most s = (a, s1) by rw [HE.out, if_neg (by rw [hb]; simp; omega)])
        have hb2 : (!s1.2) = true := by rw [hb]; rfl
        clear hm h128 hb
        go_enter Try.func21, Try.ntmps21
        go_wp2_with fail
        refine HX.out.mono ?_
        rintro e w2 ⟨rfl, hr, hgr⟩
        rw [HP.out] at hr ⊢
        have HR := Lib.hid hr
        clear hr
        go_wp2_with (go_at_call 71; refine (ok_any _ g s1 HR.out).mono ?_; rintro e w10 ⟨rfl, rfl⟩; rw [hb2])
        go_ret
        unfold NPost
        rw [HD.out]
        exact ⟨rfl, HR.out, hgr⟩
end Go.Proofs.Ytnolhnlhohpkpaa
