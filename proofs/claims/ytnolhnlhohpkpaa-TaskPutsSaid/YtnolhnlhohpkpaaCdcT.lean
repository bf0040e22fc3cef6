import Derived.Test.YtnolhnlhohpkpaaCdcS
namespace Go.Proofs.Ytnolhnlhohpkpaa
open Go.RowKit Cdc
set_option linter.unusedVariables false
set_option linter.unusedSimpArgs false
/-- The float of a key. -/
abbrev ofN (k : Nat) : Nat × Bool := ofF (k : Int)
def FPost (w : World) (g : Nat) (p : Nat × St) (e : Ending) (w' : World) : Prop :=
  e = .returned (.float .f64 p.1) ∧ RdAt w' g p.2 ∧ w.grownBy w' (some g)
attribute [local go_sem] eqn_byte
set_option maxRecDepth 20000 in
theorem take_bad (w : World) (g n : Nat) (s : St) (h : RdAt w g s) (hi : s.2 = true ∨ s.1.length < n) (hn : n ≤ 9223372036854775807) :
    Calls Try.prog 76 #[.pointer (some ⟨g, 0, none⟩), .int .i64 n] w fun e w' => e = .returned (.slice none 0 0) ∧ RdAt w' g failed ∧ w.grownBy w' (some g) := by
  obtain ⟨A, c, hg, h1, h2, h3, h4, h5⟩ := id h
  have c0 := blk_at hg 0 _ rfl
  have c1 := blk_at hg 1 _ rfl
  have f0 := blk_free hg 0
  have HG := Lib.hid hg
  have H := Lib.hid h
  have H4 := Lib.hid h4
  by_cases hbad : s.2 = true
  · have hb2 : (!s.2) = false := by rw [hbad]; rfl
    clear hg h h4 hbad hi
    go_enter Try.func76, Try.ntmps76
    go_wp2_with (first
      | (go_at_call 71; refine (ok_any w g s H.out).mono ?_; rintro e w2 ⟨rfl, rfl⟩; rw [hb2])
      | (go_at_call 69; refine (fail_any w g s H.out).mono ?_; rintro e w2 ⟨rfl, hr, hgr⟩))
    go_ret
    exact ⟨rfl, hr, hgr⟩
  · have hlt : s.1.length < n := hi.resolve_left hbad
    have hgood : s.2 = false := by simpa using hbad
    have hb2 : (!s.2) = true := by rw [hgood]; rfl
    have hlt' : (s.1.length : Int) < (n : Int) := by omega
    clear hg h h4 hbad hgood hi
    go_enter Try.func76, Try.ntmps76
    go_wp2_with (first
      | (go_at_call 71; refine (ok_any w g s H.out).mono ?_; rintro e w2 ⟨rfl, rfl⟩; rw [hb2])
      | (go_at_call 69; refine (fail_any w g s H.out).mono ?_; rintro e w2 ⟨rfl, hr, hgr⟩))
    go_ret
    exact ⟨rfl, hr, hgr⟩
set_option maxHeartbeats 4000000 in
set_option maxRecDepth 20000 in
theorem rF_any (w : World) (g : Nat) (s : St) (h : RdAt w g s) :
    Calls Try.prog 26 #[.pointer (some ⟨g, 0, none⟩)] w (FPost w g (rdF ofN s)) := by
  have H0 := Lib.hid h
  have HT := Lib.hid (take_any w g 8 s h (by omega))
  clear h
  by_cases hi : s.2 = true ∨ s.1.length < 8
  · have HI := Lib.hid hi
    have HD := Lib.hid (show rdF ofN s = (0, failed) by unfold rdF; rw [fx_bad hi, if_pos rfl])
    have HB := Lib.hid (take_bad w g 8 s H0.out hi (by omega))
    clear hi
    go_enter Try.func26, Try.ntmps26
    go_wp2_with fail
    refine HB.out.mono ?_
    rintro e w2 ⟨rfl, hr, hgr⟩
    have HR := Lib.hid hr
    clear hr
    go_wp2_with fail
    go_ret
    refine ⟨?_, ?_, hgr⟩
    · rw [HD.out]; rfl
    · rw [HD.out]; exact HR.out
  · have HV := Lib.hid (show fx 8 s = (val (s.1.take 8), s.1.drop 8, false) by unfold fx; rw [if_neg hi])
    have hl8 : (s.1.take 8).length = 8 := by rw [List.length_take]; simp only [not_or, Nat.not_lt] at hi; omega
    have HI := Lib.hid hi
    clear hi
    go_enter Try.func26, Try.ntmps26
    go_wp2_with fail
    refine HT.out.mono ?_
    rintro e w2 ⟨⟨A, c, rfl, hc1, hc2, hc3, hbs⟩, hr, hgr⟩
    rw [if_neg HI.out] at hc1 hbs hr ⊢
    rw [if_neg HI.out] at hbs
    obtain ⟨ys, hys⟩ : ∃ ys, s.1.take 8 = ys := ⟨_, rfl⟩
    rw [hys] at hbs hl8 HV
    obtain ⟨ad, rfl⟩ : ∃ ad, A = some ad := by cases A with
      | none => have := hc3 rfl; omega
      | some ad => exact ⟨ad, rfl⟩
    have HR := Lib.hid hr
    clear hr hys
    go_wp2_with fail
    go_loop [4, 15] (fun s5 s12 => ∃ i : Nat, i ≤ 8 ∧ s12 = .int .i64 i ∧ s5 = .int .u64 (val (ys.take i))) (fun _ s12 => 8 - (intOf s12).toNat)
    case atStart => exact ⟨0, by omega, rfl, rfl⟩
    case round =>
      obtain ⟨i, hi, rfl, rfl⟩ := hrel
      by_cases hlt : i < 8
      · obtain ⟨ad', x, e, hx, cx⟩ := hbs.at_ i hlt
        injection e with e
        subst e
        have i0 : (0 : Int) ≤ (i : Int) := by omega
        have i1 : (i : Int) < 8 := by omega
        have hvl := val_lt (ys.take i)
        rw [List.length_take, Nat.min_eq_left (by omega)] at hvl
        have hv7 : val (ys.take i) < 72057594037927936 := Nat.lt_of_lt_of_le hvl (show 256 ^ i ≤ 256 ^ 7 from Nat.pow_le_pow_right (by omega) (by omega))
        have HN := Lib.hid (show val (ys.take (i + 1)) = val (ys.take i) * 256 + x.toNat by rw [take_at hx, val_snoc])
        clear hx hvl
        obtain ⟨V, hV⟩ : ∃ V, val (ys.take i) = V := ⟨_, rfl⟩
        rw [hV] at HN hv7 ⊢
        clear hV
        have HO := Lib.hid (or_step hv7 x)
        go_wp2_with fail
        go_round
        case rel => exact ⟨i + 1, by omega, by go_num, by rw [HN.out]; exact congrArg (Value.int .u64) HO.out⟩
        case measure => simp [intOf]; omega
      · obtain rfl : i = 8 := by omega
        have hall : val (ys.take 8) = val ys := by rw [List.take_of_length_le (by omega)]
        rw [hall]
        obtain ⟨K, hK⟩ : ∃ K, val ys = K := ⟨_, rfl⟩
        rw [hK] at HV ⊢
        clear hall hK hbs
        obtain ⟨f, b, hof⟩ : ∃ f b, ofF (K : Int) = (f, b) := ⟨_, _, rfl⟩
        have HOF := Lib.hid hof
        clear hof
        cases b with
        | true =>
          have HD := Lib.hid (show rdF ofN s = (f, s.1.drop 8, false) by unfold rdF; rw [HV.out, if_neg Bool.false_ne_true]; show (if (ofF (K : Int)).2 = true then ((ofF (K : Int)).1, (s.1.drop 8, false)) else _) = _; rw [HOF.out, if_pos rfl])
          go_wp2_with (go_at_call 77; refine (of_any _ _).mono ?_; rintro e w' ⟨rfl, rfl⟩; rw [HOF.out])
          go_ret
          refine ⟨?_, ?_, hgr⟩
          · rw [HD.out]; rfl
          · rw [HD.out]; exact HR.out
        | false =>
          have HD := Lib.hid (show rdF ofN s = (0, failed) by unfold rdF; rw [HV.out, if_neg Bool.false_ne_true]; show (if (ofF (K : Int)).2 = true then _ else _) = _; rw [HOF.out, if_neg Bool.false_ne_true])
          go_wp2_with (first
            | (go_at_call 77; refine (of_any _ _).mono ?_; rintro e w' ⟨rfl, rfl⟩; rw [HOF.out])
            | (go_at_call 69; refine (fail_any _ g _ HR.out).mono ?_; rintro e w4 ⟨rfl, hr4, hg4⟩; have HR4 := Lib.hid hr4; clear hr4))
          go_ret
          refine ⟨?_, ?_, hgr.trans hg4⟩
          · rw [HD.out]; rfl
          · rw [HD.out]; exact HR4.out
end Go.Proofs.Ytnolhnlhohpkpaa
