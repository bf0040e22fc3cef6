import Derived.Test.YtnolhnlhohpkpaaRcdN
namespace Go.Proofs.Ytnolhnlhohpkpaa
open Go.RowKit Cdc
set_option linter.unusedVariables false
set_option linter.unusedSimpArgs false
attribute [local go_sem] run_store_float
set_option maxRecDepth 20000 in
theorem rrFlag_any (w : World) (M g : Nat) (s : St) (h : RfAt w M g s) :
    Calls Try.prog 31 #[.pointer (some ⟨g, 0, none⟩)] w fun e w' => e = .returned (.bool (rdFlag s).1) ∧ RfAt w' M g (rdFlag s).2 ∧ w.grownBy w' (some g) := by
  have HN := Lib.hid (rrN_any w M g 1 s h)
  obtain ⟨n, s1, hn⟩ : ∃ n s1, rdN 1 s = (n, s1) := ⟨_, _, rfl⟩
  have HQ := Lib.hid hn
  clear hn h
  go_enter Try.func31, Try.ntmps31
  go_wp2_with fail
  refine HN.out.mono ?_
  rintro e w2 ⟨rfl, hr, hg⟩
  rw [HQ.out] at hr ⊢
  go_wp2_with fail
  go_ret
  refine ⟨?_, ?_, hg⟩
  · unfold rdFlag
    rw [HQ.out]
    refine ret_bool ?_
    by_cases h1 : n = 1
    · subst h1; rfl
    · rw [show (n == 1) = false from beq_eq_false_iff_ne.2 h1]
      show ((n : Int) == 1) = false
      rw [beq_eq_false_iff_ne]; omega
  · unfold rdFlag; rw [HQ.out]; exact hr
set_option maxRecDepth 20000 in
theorem rrEnd_any (w : World) (M g : Nat) (s : St) (h : RfAt w M g s) :
    Calls Try.prog 34 #[.pointer (some ⟨g, 0, none⟩)] w fun e w' => e = .returned (.int .i64 (if s.2 = true ∨ s.1 ≠ [] then 20 else 0)) ∧ w = w' := by
  obtain ⟨A, c, hg, _⟩ := h
  have c0 := blk_at hg 0 _ rfl
  have c1 := blk_at hg 1 _ rfl
  clear hg
  cases hb : s.2 with
  | true =>
    have hv : (if true = true ∨ s.1 ≠ [] then 20 else 0 : Int) = 20 := if_pos (.inl rfl)
    rw [hb] at c1
    rw [hv]
    clear hb hv
    go_enter Try.func34, Try.ntmps34
    go_wp2_with fail
    go_ret
    exact ⟨rfl, rfl⟩
  | false =>
    rw [hb] at c1
    by_cases hl : s.1 = []
    · have hv : (if false = true ∨ s.1 ≠ [] then 20 else 0 : Int) = 0 := if_neg (by rw [hl]; simp)
      have hl0 : s.1.length = 0 := by rw [hl]; rfl
      rw [hv]
      clear hb hv hl
      go_enter Try.func34, Try.ntmps34
      go_wp2_with fail
      go_ret
      exact ⟨rfl, rfl⟩
    · have hv : (if false = true ∨ s.1 ≠ [] then 20 else 0 : Int) = 20 := if_pos (.inr hl)
      have hl0 : (0 : Int) < (s.1.length : Int) := by have := List.length_pos_iff.2 hl; omega
      rw [hv]
      clear hb hv hl
      go_enter Try.func34, Try.ntmps34
      go_wp2_with fail
      go_ret
      exact ⟨rfl, rfl⟩
set_option maxRecDepth 20000 in
theorem rrI_any (w : World) (M g : Nat) (s : St) (h : RfAt w M g s) :
    Calls Try.prog 24 #[.pointer (some ⟨g, 0, none⟩)] w fun e w' => e = .returned (.int .i64 (rdI s).1) ∧ RfAt w' M g (rdI s).2 ∧ w.grownBy w' (some g) := by
  have HN := Lib.hid (rrN_any w M g 18446744073709551615 s h)
  obtain ⟨n, s1, hn⟩ : ∃ n s1, rdN 18446744073709551615 s = (n, s1) := ⟨_, _, rfl⟩
  have HQ := Lib.hid hn
  have hlt : n < 18446744073709551616 := by have := rdN_lt (most := 18446744073709551615) (s := s) (by omega); rw [hn] at this; exact this
  clear hn h
  have hw : IntKind.i64.wrap ((n : Int) / 2) = (n : Int) / 2 := IntWalk.i64_in _ (by omega)
  have hw2 : IntKind.i64.wrap (-((n : Int) / 2)) = -((n : Int) / 2) := IntWalk.i64_in _ (by omega)
  have hw3 : IntKind.i64.wrap (-((n : Int) / 2) - 1) = -((n : Int) / 2) - 1 := IntWalk.i64_in _ (by omega)
  by_cases h2 : n % 2 = 0
  · have hb : ((n : Int) % 2 == 0) = true := beq_iff_eq.2 (by omega)
    have HU := Lib.hid (show (n : Int) / 2 = unzig n by unfold unzig; rw [if_pos h2]; omega)
    clear h2
    go_enter Try.func24, Try.ntmps24
    go_wp2_with fail
    refine HN.out.mono ?_
    rintro e w2 ⟨rfl, hr, hg⟩
    rw [HQ.out] at hr ⊢
    go_wp2_with fail
    go_ret
    refine ⟨?_, ?_, hg⟩
    · unfold rdI FULL
      rw [HQ.out]
      exact ret_int HU.out
    · unfold rdI FULL; rw [HQ.out]; exact hr
  · have hb : ((n : Int) % 2 == 0) = false := beq_eq_false_iff_ne.2 (by omega)
    have HU := Lib.hid (show -((n : Int) / 2) - 1 = unzig n by unfold unzig; rw [if_neg h2]; omega)
    clear h2
    go_enter Try.func24, Try.ntmps24
    go_wp2_with fail
    refine HN.out.mono ?_
    rintro e w2 ⟨rfl, hr, hg⟩
    rw [HQ.out] at hr ⊢
    go_wp2_with fail
    go_ret
    refine ⟨?_, ?_, hg⟩
    · unfold rdI FULL
      rw [HQ.out]
      exact ret_int HU.out
    · unfold rdI FULL; rw [HQ.out]; exact hr
def RFPost (w : World) (M g : Nat) (p : Nat × St) (e : Ending) (w' : World) : Prop :=
  e = .returned (.float .f64 p.1) ∧ RfAt w' M g p.2 ∧ w.grownBy w' (some g)
set_option maxHeartbeats 4000000 in
set_option maxRecDepth 20000 in
theorem rrF_any (w : World) (M g : Nat) (s : St) (h : RfAt w M g s) :
    Calls Try.prog 27 #[.pointer (some ⟨g, 0, none⟩)] w (RFPost w M g (rdF ofN s)) := by
  have HX := Lib.hid (rnum_any w M g 8 s h (by omega))
  obtain ⟨K, s1, hp⟩ : ∃ K s1, fx 8 s = (K, s1) := ⟨_, _, rfl⟩
  have hK : K < 18446744073709551616 := by have := fx_lt 8 s; rw [hp] at this; exact this
  have HP := Lib.hid hp
  clear h
  have HU := Lib.hid (show rdF ofN s = if s1.2 = true then (0, failed) else if (ofF (K : Int)).2 = true then ((ofF (K : Int)).1, s1) else (0, failed) by unfold rdF; rw [hp])
  cases hb : s1.2 with
  | true =>
    have HS := Lib.hid (show s1 = failed by have := fx_bad_eq (k := 8) (s := s) (by rw [hp]; exact hb); rw [hp] at this; injection this)
    have HD := Lib.hid (show rdF ofN s = (0, failed) by rw [HU.out, if_pos hb])
    have HB := Lib.hid hb
    clear hp hb
    go_enter Try.func27, Try.ntmps27
    go_wp2_with fail
    refine HX.out.mono ?_
    rintro e w2 ⟨rfl, hr, hgr⟩
    rw [HP.out] at hr ⊢
    have HR := Lib.hid hr
    have bR := hr.bad
    rw [show (K, s1).2.2 = true from HB.out] at bR
    clear hr
    go_wp2_with fail
    go_ret
    refine ⟨?_, ?_, hgr⟩
    · rw [HD.out]; rfl
    · rw [HD.out, ← HS.out]; exact HR.out
  | false =>
    have hof : ofF (K : Int) = rofF (K : Int) := by rw [ofF_eq (by omega) (by omega), rofF_eq (by omega) (by omega)]
    obtain ⟨f, b, hf⟩ : ∃ f b, ofF (K : Int) = (f, b) := ⟨_, _, rfl⟩
    have HOF := Lib.hid (hof ▸ hf)
    have HB := Lib.hid hb
    cases b with
    | true =>
      have HD := Lib.hid (show rdF ofN s = (f, s1) by rw [HU.out, if_neg (by rw [hb]; exact Bool.false_ne_true), hf, if_pos rfl])
      clear hp hb hof hf
      go_enter Try.func27, Try.ntmps27
      go_wp2_with fail
      refine HX.out.mono ?_
      rintro e w2 ⟨rfl, hr, hgr⟩
      rw [HP.out] at hr ⊢
      have HR := Lib.hid hr
      have bR := hr.bad
      rw [show (K, s1).2.2 = false from HB.out] at bR
      clear hr
      go_wp2_with (go_at_call 78; refine (rof_any _ _).mono ?_; rintro e w3 ⟨rfl, hb3⟩; rw [HOF.out]; have HB3 := Lib.hid hb3; clear hb3)
      go_ret
      refine ⟨?_, ?_, hgr.trans (grown_below HB3.out)⟩
      · rw [HD.out]; rfl
      · rw [HD.out]; exact HR.out.below HB3.out
    | false =>
      have HD := Lib.hid (show rdF ofN s = (0, failed) by rw [HU.out, if_neg (by rw [hb]; exact Bool.false_ne_true), hf, if_neg Bool.false_ne_true])
      clear hp hb hof hf
      go_enter Try.func27, Try.ntmps27
      go_wp2_with fail
      refine HX.out.mono ?_
      rintro e w2 ⟨rfl, hr, hgr⟩
      rw [HP.out] at hr ⊢
      have HR := Lib.hid hr
      have bR := hr.bad
      rw [show (K, s1).2.2 = false from HB.out] at bR
      clear hr
      go_wp2_with (first
        | (go_at_call 78; refine (rof_any _ _).mono ?_; rintro e w3 ⟨rfl, hb3⟩; rw [HOF.out]; have HR3 := Lib.hid (HR.out.below hb3); have HB3 := Lib.hid hb3; clear hb3)
        | (go_at_call 73; refine (rfail_any _ M g _ HR3.out).mono ?_; rintro e w4 ⟨rfl, hr4, hg4⟩; have HR4 := Lib.hid hr4; clear hr4))
      go_ret
      refine ⟨?_, ?_, hgr.trans ((grown_below HB3.out).trans hg4)⟩
      · rw [HD.out]; rfl
      · rw [HD.out]; exact HR4.out
end Go.Proofs.Ytnolhnlhohpkpaa
