import Derived.Test.YtfkcgmhnledbmaaMrgI
namespace Go.Proofs.Ytfkcgmhnledbmaa
open Go.RowKit FP
set_option linter.unusedVariables false
set_option linter.unusedSimpArgs false
set_option maxHeartbeats 4000000 in
set_option maxRecDepth 20000 in
theorem rtags_any (w : World) (A0 A1 A2 : Option Addr) (n0 c0 n1 c1 n2 c2 : Nat) (l0 la lb : List ByteArray) (h0 : Rows w anyB .str A0 n0 l0) (h1 : Rows w anyB .str A1 n1 la) (h2 : Rows w anyB .str A2 n2 lb) (b0 : n0 ≤ 1000) (b1 : n1 ≤ 1000) (b2 : n2 ≤ 1000) :
    Calls Try.prog 12 #[.slice A0 n0 c0, .slice A1 n1 c1, .slice A2 n2 c2] w fun e w' => ∃ v', e = .returned v' ∧ Own w' w.heap.size 9 .str v' (tidy (tagX l0 la lb)) ∧ Below w.heap.size w w' := by
  have hl1 := h1.1
  have hl2 := h2.1
  have H0 := Lib.hid h0
  have H1 := Lib.hid h1
  have H2 := Lib.hid h2
  clear h0 h1 h2
  go_enter Try.func12, Try.ntmps12
  go_wp2_with (first
    | (at_builtin; obtain ⟨ys, hys, hyc⟩ := H1.out.cells; refine wp_appO (m := n1) (r := la) (ys := ys) (base := w.heap.size) (w0 := w) (ok := anyB) (S := .str) (l := []) rfl (.const (.slice none 0 0)) (.tmp 10) rfl (OwnG.nil w _ _ _ _) hl1.symm H1.out.2.1 (fun ad e => (hyc ad e).2) (rdl_anyS hys) (Below.refl _ _) Try.underlying24 info_str rfl (by decide) rfl rfl (by simp; omega) (by simp; omega) (Nat.le_refl _) ?_; intro v4 w4 hO4 hb4 _ _; have HO4 := Lib.hid hO4; have HB4 := Lib.hid hb4; clear hys hyc hO4 hb4)
    | (at_builtin; obtain ⟨ys, hys, hyc⟩ := (H2.out.below HB4.out).cells; refine wp_appO (m := n2) (r := lb) (ys := ys) (base := w.heap.size) (w0 := w) (ok := anyB) (S := .str) (l := [] ++ la) rfl (.tmp 11) (.tmp 12) rfl HO4.out hl2.symm H2.out.2.1 (fun ad e => (hyc ad e).2) (rdl_anyS hys) HB4.out Try.underlying24 info_str rfl (by decide) rfl rfl (by simp; omega) (by simp; omega) HB4.out.size ?_; intro v5 w5 hO5 hb5 _ _; have HO5 := Lib.hid hO5; have HB5 := Lib.hid hb5; clear hys hyc hO5 hb5; obtain ⟨A6, c6, rfl, _, _, hn6, hR6⟩ := OwnG.form HO5.out; have hR6 := hR6.any; obtain ⟨M, hM⟩ : ∃ M, [] ++ la ++ lb = M := ⟨_, rfl⟩; have HM := Lib.hid hM; rw [hM] at hR6 ⊢; obtain ⟨p, hp⟩ : ∃ p, M.length = p := ⟨_, rfl⟩; have hp1 : p ≤ 3000 := (by rw [← hp, ← hM, List.length_append, List.length_append]; simp; omega); rw [hp] at hR6 ⊢; have HP := Lib.hid hp; have HR6 := Lib.hid hR6; clear hR6 hn6 hM hp HO5))
  go_loopw [7, 15] (fun s7 s15 wr => ∃ (i : Nat) (v : Value), i ≤ p ∧ v = s7 ∧ s15 = .int .i64 i ∧ Own wr w5.heap.size 9 .str v ((M.take i).filter fun t => (hasB la t && hasB lb t) || !hasB l0 t) ∧ Below w5.heap.size w5 wr) (fun _ s15 _ => p - (intOf s15).toNat)
  case atStart => exact ⟨0, _, by omega, rfl, rfl, Own.nil _ _ _ _, Below.refl _ _⟩
  case round =>
    obtain ⟨i, v, hi, rfl, rfl, hO, hbel⟩ := hrel
    have HB := Lib.hid hbel
    have HO := Lib.hid hO
    have HW := Lib.hid (HB5.out.trans (hbel.mono HB5.out.size))
    obtain ⟨Av, cv, rfl, _⟩ := Own.form hO
    have hle := filt_len (p := fun t => (hasB la t && hasB lb t) || !hasB l0 t) (l := M) (i := i)
    obtain ⟨q, hq⟩ : ∃ q, ((M.take i).filter fun t => (hasB la t && hasB lb t) || !hasB l0 t).length = q := ⟨_, rfl⟩
    rw [hq] at HO hle ⊢
    clear hO
    by_cases hlt : i < p
    · obtain ⟨ad, x, rfl, hx⟩ := HR6.out.some_at hlt
      obtain ⟨hc, hsz⟩ := str_rows (HR6.out.below hbel) hx
      have i0 : (0 : Int) ≤ (i : Int) := by omega
      have i1 : (i : Int) < (p : Int) := by omega
      have HX := Lib.hid hsz
      have HC0 := Lib.hid (has_any wr A0 n0 c0 l0 x (H0.out.below HW.out) (by omega))
      have HC1 := Lib.hid (has_any wr A1 n1 c1 la x (H1.out.below HW.out) (by omega))
      have HC2 := Lib.hid (has_any wr A2 n2 c2 lb x (H2.out.below HW.out) (by omega))
      clear hbel hsz
      cases ha : hasB la x with
      | true =>
        cases hb : hasB lb x with
        | true =>
          have HN := Lib.hid (filt_yes (p := fun t => (hasB la t && hasB lb t) || !hasB l0 t) hx (by simp only [ha, hb]; rfl))
          have hq1 : ((M.take (i + 1)).filter fun t => (hasB la t && hasB lb t) || !hasB l0 t).length = q + 1 := by rw [HN.out, List.length_append, hq]; rfl
          rw [ha] at HC1
          rw [hb] at HC2
          clear hx ha hb
          go_wp2_with fail
          refine HC1.out.mono ?_
          rintro e w' ⟨rfl, rfl⟩
          go_wp2_with fail
          refine HC2.out.mono ?_
          rintro e w' ⟨rfl, rfl⟩
          go_wp2_with (at_builtin; refine wp_appO (m := 1) (r := [x]) (ys := [.string x]) rfl (.tmp 33) (.tmp 35) rfl (HO.out.below (below_alloc1 wr _)) rfl (fun e => by cases e) (fun ad' e => by cases e; exact At.blk (heap_alloc_new wr _)) (RdL.single (rd_strv HX.out)) (HB.out.alloc HB.out.size _) Try.underlying24 info_str rfl (by decide) rfl rfl (by rw [hq]; omega) (by rw [hq]; omega) (by have := HB.out.size; simp; omega) ?_; intro v6 w6 hO6 hb6 _ _; rw [← HN.out] at hO6; obtain ⟨A6, c6, rfl, _⟩ := Own.form hO6; rw [hq1] at hO6 ⊢; have HO6 := Lib.hid hO6; clear hO6)
          go_roundw
          case measure => simp [intOf]; omega
          case rel => exact ⟨i + 1, _, by omega, rfl, by go_num, HO6.out, hb6⟩
        | false =>
          rw [ha] at HC1
          rw [hb] at HC2
          cases h0 : hasB l0 x with
          | true =>
            have HN := Lib.hid (filt_no (p := fun t => (hasB la t && hasB lb t) || !hasB l0 t) hx (by simp only [ha, hb, h0]; rfl))
            rw [h0] at HC0
            clear hx ha hb h0
            go_wp2_with fail
            refine HC1.out.mono ?_
            rintro e w' ⟨rfl, rfl⟩
            go_wp2_with fail
            refine HC2.out.mono ?_
            rintro e w' ⟨rfl, rfl⟩
            go_wp2_with fail
            refine HC0.out.mono ?_
            rintro e w' ⟨rfl, rfl⟩
            go_wp2_with fail
            go_roundw
            case measure => simp [intOf]; omega
            case rel => exact ⟨i + 1, _, by omega, rfl, by go_num, by rw [HN.out]; exact HO.out, HB.out⟩
          | false =>
            have HN := Lib.hid (filt_yes (p := fun t => (hasB la t && hasB lb t) || !hasB l0 t) hx (by simp only [ha, hb, h0]; rfl))
            have hq1 : ((M.take (i + 1)).filter fun t => (hasB la t && hasB lb t) || !hasB l0 t).length = q + 1 := by rw [HN.out, List.length_append, hq]; rfl
            rw [h0] at HC0
            clear hx ha hb h0
            go_wp2_with fail
            refine HC1.out.mono ?_
            rintro e w' ⟨rfl, rfl⟩
            go_wp2_with fail
            refine HC2.out.mono ?_
            rintro e w' ⟨rfl, rfl⟩
            go_wp2_with fail
            refine HC0.out.mono ?_
            rintro e w' ⟨rfl, rfl⟩
            go_wp2_with (at_builtin; refine wp_appO (m := 1) (r := [x]) (ys := [.string x]) rfl (.tmp 33) (.tmp 35) rfl (HO.out.below (below_alloc1 wr _)) rfl (fun e => by cases e) (fun ad' e => by cases e; exact At.blk (heap_alloc_new wr _)) (RdL.single (rd_strv HX.out)) (HB.out.alloc HB.out.size _) Try.underlying24 info_str rfl (by decide) rfl rfl (by rw [hq]; omega) (by rw [hq]; omega) (by have := HB.out.size; simp; omega) ?_; intro v6 w6 hO6 hb6 _ _; rw [← HN.out] at hO6; obtain ⟨A6, c6, rfl, _⟩ := Own.form hO6; rw [hq1] at hO6 ⊢; have HO6 := Lib.hid hO6; clear hO6)
            go_roundw
            case measure => simp [intOf]; omega
            case rel => exact ⟨i + 1, _, by omega, rfl, by go_num, HO6.out, hb6⟩
      | false =>
        rw [ha] at HC1
        cases h0 : hasB l0 x with
        | true =>
          have HN := Lib.hid (filt_no (p := fun t => (hasB la t && hasB lb t) || !hasB l0 t) hx (by simp only [ha, h0]; rfl))
          rw [h0] at HC0
          clear hx ha h0
          go_wp2_with fail
          refine HC1.out.mono ?_
          rintro e w' ⟨rfl, rfl⟩
          go_wp2_with fail
          refine HC0.out.mono ?_
          rintro e w' ⟨rfl, rfl⟩
          go_wp2_with fail
          go_roundw
          case measure => simp [intOf]; omega
          case rel => exact ⟨i + 1, _, by omega, rfl, by go_num, by rw [HN.out]; exact HO.out, HB.out⟩
        | false =>
          have HN := Lib.hid (filt_yes (p := fun t => (hasB la t && hasB lb t) || !hasB l0 t) hx (by simp only [ha, h0]; rfl))
          have hq1 : ((M.take (i + 1)).filter fun t => (hasB la t && hasB lb t) || !hasB l0 t).length = q + 1 := by rw [HN.out, List.length_append, hq]; rfl
          rw [h0] at HC0
          clear hx ha h0
          go_wp2_with fail
          refine HC1.out.mono ?_
          rintro e w' ⟨rfl, rfl⟩
          go_wp2_with fail
          refine HC0.out.mono ?_
          rintro e w' ⟨rfl, rfl⟩
          go_wp2_with (at_builtin; refine wp_appO (m := 1) (r := [x]) (ys := [.string x]) rfl (.tmp 33) (.tmp 35) rfl (HO.out.below (below_alloc1 wr _)) rfl (fun e => by cases e) (fun ad' e => by cases e; exact At.blk (heap_alloc_new wr _)) (RdL.single (rd_strv HX.out)) (HB.out.alloc HB.out.size _) Try.underlying24 info_str rfl (by decide) rfl rfl (by rw [hq]; omega) (by rw [hq]; omega) (by have := HB.out.size; simp; omega) ?_; intro v6 w6 hO6 hb6 _ _; rw [← HN.out] at hO6; obtain ⟨A6, c6, rfl, _⟩ := Own.form hO6; rw [hq1] at hO6 ⊢; have HO6 := Lib.hid hO6; clear hO6)
          go_roundw
          case measure => simp [intOf]; omega
          case rel => exact ⟨i + 1, _, by omega, rfl, by go_num, HO6.out, hb6⟩
    · obtain rfl : i = p := by omega
      have HE := Lib.hid (show ((M.take i).filter fun t => (hasB la t && hasB lb t) || !hasB l0 t) = rtagX l0 la lb by rw [List.take_of_length_le (by rw [HP.out]; omega), ← HM.out]; rfl)
      rw [HE.out] at HO hq
      clear hbel
      go_wp2_with fail
      refine (rtexts_any wr Av q cv (rtagX l0 la lb) (own_rowsS HO.out hq.symm) (by omega)).mono ?_
      rintro e w8 ⟨v8, rfl, hO8, hb8⟩
      have hE2 : tidy (rtagX l0 la lb) = tidy (tagX l0 la lb) := Ris.uniq (tidy_ris _) (tidy_ris _) (fun x => (tagX_same l0 la lb x).symm)
      rw [hE2] at hO8
      have HO8 := Lib.hid (own_base_leS hO8 HW.out.size)
      have HB8 := Lib.hid (HW.out.trans (hb8.mono HW.out.size))
      clear hO8 hb8 hE2
      go_wp2_with fail
      go_ret
      exact ⟨_, rfl, HO8.out, HB8.out⟩
def sideN (bo ab ao : Bool) : Int := if bo || ab then 1 else if ao then 2 else 3
set_option maxRecDepth 20000 in
theorem side_any (w : World) (ao bo ab : Bool) : Calls Try.prog 23 #[.bool ao, .bool bo, .bool ab] w fun e w' => e = .returned (.int .i64 (sideN bo ab ao)) ∧ w = w' := by
  cases bo with
  | true =>
    go_enter Try.func23, Try.ntmps23
    go_wp2_with fail
    go_ret
    exact ⟨rfl, rfl⟩
  | false =>
    cases ab with
    | true =>
      go_enter Try.func23, Try.ntmps23
      go_wp2_with fail
      go_ret
      exact ⟨rfl, rfl⟩
    | false =>
      cases ao with
      | true =>
        go_enter Try.func23, Try.ntmps23
        go_wp2_with fail
        go_ret
        exact ⟨rfl, rfl⟩
      | false =>
        go_enter Try.func23, Try.ntmps23
        go_wp2_with fail
        go_ret
        exact ⟨rfl, rfl⟩
end Go.Proofs.Ytfkcgmhnledbmaa
