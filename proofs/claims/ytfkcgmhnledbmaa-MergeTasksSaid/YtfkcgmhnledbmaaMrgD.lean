import Derived.Test.YtfkcgmhnledbmaaMrgC
namespace Go.Proofs.Ytfkcgmhnledbmaa
open Go.RowKit
set_option linter.unusedVariables false
set_option linter.unusedSimpArgs false
set_option maxRecDepth 20000 in
theorem filt_yes {α : Type} {p : α → Bool} {l : List α} {i : Nat} {x : α} (hx : l[i]? = some x) (h : p x = true) : (l.take (i + 1)).filter p = (l.take i).filter p ++ [x] := by
  rw [take_at hx, List.filter_append, List.filter_cons_of_pos h]; rfl
set_option maxRecDepth 20000 in
theorem filt_no {α : Type} {p : α → Bool} {l : List α} {i : Nat} {x : α} (hx : l[i]? = some x) (h : p x = false) : (l.take (i + 1)).filter p = (l.take i).filter p := by
  rw [take_at hx, List.filter_append, List.filter_cons_of_neg (by rw [h]; simp)]; simp
set_option maxRecDepth 20000 in
theorem filt_len {α : Type} {p : α → Bool} {l : List α} {i : Nat} : ((l.take i).filter p).length ≤ i := Nat.le_trans (List.length_filter_le _ _) (by rw [List.length_take]; omega)
set_option maxHeartbeats 4000000 in
set_option maxRecDepth 20000 in
theorem tags_any (w : World) (A0 A1 A2 : Option Addr) (n0 c0 n1 c1 n2 c2 : Nat) (l0 la lb : List ByteArray) (h0 : Rows w anyB .str A0 n0 l0) (h1 : Rows w anyB .str A1 n1 la) (h2 : Rows w anyB .str A2 n2 lb) (b0 : n0 ≤ 1000) (b1 : n1 ≤ 1000) (b2 : n2 ≤ 1000) :
    Calls Try.prog 11 #[.slice A0 n0 c0, .slice A1 n1 c1, .slice A2 n2 c2] w fun e w' => ∃ v', e = .returned v' ∧ Own w' w.heap.size 9 .str v' (tidy (tagX l0 la lb)) ∧ Below w.heap.size w w' := by
  have hl1 := h1.1
  have hl2 := h2.1
  have H0 := Lib.hid h0
  have H1 := Lib.hid h1
  have H2 := Lib.hid h2
  clear h0 h1 h2
  go_enter Try.func11, Try.ntmps11
  go_wp2_with fail
  go_loopw [7, 14] (fun s7 s14 wr => ∃ (i : Nat) (v : Value), i ≤ n1 ∧ v = s7 ∧ s14 = .int .i64 i ∧ Own wr w.heap.size 9 .str v ((la.take i).filter fun t => hasB lb t || !hasB l0 t) ∧ Below w.heap.size w wr) (fun _ s14 _ => n1 - (intOf s14).toNat)
  case atStart => exact ⟨0, _, by omega, rfl, rfl, Own.nil _ _ _ _, Below.refl _ _⟩
  case round =>
    obtain ⟨i, v, hi, rfl, rfl, hO, hbel⟩ := hrel
    have HB := Lib.hid hbel
    have HO := Lib.hid hO
    obtain ⟨Av, cv, rfl, _⟩ := Own.form hO
    have hle := filt_len (p := fun t => hasB lb t || !hasB l0 t) (l := la) (i := i)
    obtain ⟨q, hq⟩ : ∃ q, ((la.take i).filter fun t => hasB lb t || !hasB l0 t).length = q := ⟨_, rfl⟩
    rw [hq] at HO hle ⊢
    clear hO
    by_cases hlt : i < n1
    · obtain ⟨ad, x, rfl, hx⟩ := H1.out.some_at hlt
      obtain ⟨hc, hsz⟩ := str_rows (H1.out.below hbel) hx
      have i0 : (0 : Int) ≤ (i : Int) := by omega
      have i1 : (i : Int) < (n1 : Int) := by omega
      have HX := Lib.hid hsz
      have HC0 := Lib.hid (contains_any wr A0 n0 c0 l0 x (H0.out.below hbel) (by omega))
      have HC2 := Lib.hid (contains_any wr A2 n2 c2 lb x (H2.out.below hbel) (by omega))
      clear hbel hsz
      cases hb : hasB lb x with
      | true =>
        have HN := Lib.hid (filt_yes (p := fun t => hasB lb t || !hasB l0 t) hx (by simp only [hb]; rfl))
        have hq1 : ((la.take (i + 1)).filter fun t => hasB lb t || !hasB l0 t).length = q + 1 := by rw [HN.out, List.length_append, hq]; rfl
        rw [hb] at HC2
        clear hx hb
        go_wp2_with fail
        refine HC2.out.mono ?_
        rintro e w' ⟨rfl, rfl⟩
        go_wp2_with (at_builtin; refine wp_appO (m := 1) (r := [x]) (ys := [.string x]) rfl (.tmp 27) (.tmp 29) rfl (HO.out.below (below_alloc1 wr _)) rfl (fun e => by cases e) (fun ad' e => by cases e; exact At.blk (heap_alloc_new wr _)) (RdL.single (rd_strv HX.out)) (HB.out.alloc HB.out.size _) Try.underlying24 info_str rfl (by decide) rfl rfl (by rw [hq]; omega) (by rw [hq]; omega) (by have := HB.out.size; simp; omega) ?_; intro v6 w6 hO6 hb6 _ _; rw [← HN.out] at hO6; obtain ⟨A6, c6, rfl, _⟩ := Own.form hO6; rw [hq1] at hO6 ⊢; have HO6 := Lib.hid hO6; clear hO6)
        go_roundw
        case measure => simp [intOf]; omega
        case rel => exact ⟨i + 1, _, by omega, rfl, by go_num, HO6.out, hb6⟩
      | false =>
        rw [hb] at HC2
        go_wp2_with fail
        refine HC2.out.mono ?_
        rintro e w' ⟨rfl, rfl⟩
        cases h0 : hasB l0 x with
        | true =>
          have HN := Lib.hid (filt_no (p := fun t => hasB lb t || !hasB l0 t) hx (by simp only [hb, h0]; rfl))
          rw [h0] at HC0
          clear hx hb h0
          go_wp2_with fail
          refine HC0.out.mono ?_
          rintro e w' ⟨rfl, rfl⟩
          go_wp2_with fail
          go_roundw
          case measure => simp [intOf]; omega
          case rel => exact ⟨i + 1, _, by omega, rfl, by go_num, by rw [HN.out]; exact HO.out, HB.out⟩
        | false =>
          have HN := Lib.hid (filt_yes (p := fun t => hasB lb t || !hasB l0 t) hx (by simp only [hb, h0]; rfl))
          have hq1 : ((la.take (i + 1)).filter fun t => hasB lb t || !hasB l0 t).length = q + 1 := by rw [HN.out, List.length_append, hq]; rfl
          rw [h0] at HC0
          clear hx hb h0
          go_wp2_with fail
          refine HC0.out.mono ?_
          rintro e w' ⟨rfl, rfl⟩
          go_wp2_with (at_builtin; refine wp_appO (m := 1) (r := [x]) (ys := [.string x]) rfl (.tmp 27) (.tmp 29) rfl (HO.out.below (below_alloc1 wr _)) rfl (fun e => by cases e) (fun ad' e => by cases e; exact At.blk (heap_alloc_new wr _)) (RdL.single (rd_strv HX.out)) (HB.out.alloc HB.out.size _) Try.underlying24 info_str rfl (by decide) rfl rfl (by rw [hq]; omega) (by rw [hq]; omega) (by have := HB.out.size; simp; omega) ?_; intro v6 w6 hO6 hb6 _ _; rw [← HN.out] at hO6; obtain ⟨A6, c6, rfl, _⟩ := Own.form hO6; rw [hq1] at hO6 ⊢; have HO6 := Lib.hid hO6; clear hO6)
          go_roundw
          case measure => simp [intOf]; omega
          case rel => exact ⟨i + 1, _, by omega, rfl, by go_num, HO6.out, hb6⟩
    · obtain rfl : i = n1 := by omega
      obtain ⟨u, hu⟩ : ∃ u, (la.filter fun t => hasB lb t || !hasB l0 t) = u := ⟨_, rfl⟩
      have HU := Lib.hid hu
      rw [List.take_of_length_le (by omega), hu] at HO hq
      clear hbel hu
      go_wp2_with fail
      go_loopw [7, 34] (fun s7 s34 wr => ∃ (j : Nat) (v : Value), j ≤ n2 ∧ v = s7 ∧ s34 = .int .i64 j ∧ Own wr w.heap.size 9 .str v (u ++ (lb.take j).filter fun t => !hasB l0 t) ∧ Below w.heap.size w wr) (fun _ s34 _ => n2 - (intOf s34).toNat)
      case atStart => exact ⟨0, _, by omega, rfl, rfl, by simpa using HO.out, HB.out⟩
      case round =>
        obtain ⟨j, v, hj, rfl, rfl, hO, hbel⟩ := hrel
        have HB := Lib.hid hbel
        have HO := Lib.hid hO
        obtain ⟨Av, cv, rfl, _⟩ := Own.form hO
        have hle2 := filt_len (p := fun t => !hasB l0 t) (l := lb) (i := j)
        obtain ⟨q2, hq2⟩ : ∃ q2, (u ++ (lb.take j).filter fun t => !hasB l0 t).length = q2 := ⟨_, rfl⟩
        have hq3 : q2 ≤ q + j := by rw [← hq2, List.length_append, hq]; omega
        rw [hq2] at HO ⊢
        clear hO hle2
        by_cases hlt : j < n2
        · obtain ⟨ad, x, rfl, hx⟩ := H2.out.some_at hlt
          obtain ⟨hc, hsz⟩ := str_rows (H2.out.below hbel) hx
          have i0 : (0 : Int) ≤ (j : Int) := by omega
          have i1 : (j : Int) < (n2 : Int) := by omega
          have HX := Lib.hid hsz
          have HC0 := Lib.hid (contains_any wr A0 n0 c0 l0 x (H0.out.below hbel) (by omega))
          clear hbel hsz
          cases h0 : hasB l0 x with
          | true =>
            have HN := Lib.hid (show (u ++ (lb.take (j + 1)).filter fun t => !hasB l0 t) = u ++ (lb.take j).filter fun t => !hasB l0 t by rw [filt_no (p := fun t => !hasB l0 t) hx (by simp only [h0]; rfl)])
            rw [h0] at HC0
            clear hx h0
            go_wp2_with fail
            refine HC0.out.mono ?_
            rintro e w' ⟨rfl, rfl⟩
            go_wp2_with fail
            go_roundw
            case measure => simp [intOf]; omega
            case rel => exact ⟨j + 1, _, by omega, rfl, by go_num, by rw [HN.out]; exact HO.out, HB.out⟩
          | false =>
            have HN := Lib.hid (show (u ++ (lb.take (j + 1)).filter fun t => !hasB l0 t) = (u ++ (lb.take j).filter fun t => !hasB l0 t) ++ [x] by rw [filt_yes (p := fun t => !hasB l0 t) hx (by simp only [h0]; rfl), List.append_assoc])
            have hq1 : (u ++ (lb.take (j + 1)).filter fun t => !hasB l0 t).length = q2 + 1 := by rw [HN.out, List.length_append, hq2]; rfl
            rw [h0] at HC0
            clear hx h0
            go_wp2_with fail
            refine HC0.out.mono ?_
            rintro e w' ⟨rfl, rfl⟩
            go_wp2_with (at_builtin; refine wp_appO (m := 1) (r := [x]) (ys := [.string x]) rfl (.tmp 42) (.tmp 44) rfl (HO.out.below (below_alloc1 wr _)) rfl (fun e => by cases e) (fun ad' e => by cases e; exact At.blk (heap_alloc_new wr _)) (RdL.single (rd_strv HX.out)) (HB.out.alloc HB.out.size _) Try.underlying24 info_str rfl (by decide) rfl rfl (by rw [hq2]; omega) (by rw [hq2]; omega) (by have := HB.out.size; simp; omega) ?_; intro v6 w6 hO6 hb6 _ _; rw [← HN.out] at hO6; obtain ⟨A6, c6, rfl, _⟩ := Own.form hO6; rw [hq1] at hO6 ⊢; have HO6 := Lib.hid hO6; clear hO6)
            go_roundw
            case measure => simp [intOf]; omega
            case rel => exact ⟨j + 1, _, by omega, rfl, by go_num, HO6.out, hb6⟩
        · obtain rfl : j = n2 := by omega
          have HE := Lib.hid (show (u ++ (lb.take j).filter fun t => !hasB l0 t) = tagX l0 la lb by rw [List.take_of_length_le (by omega), ← HU.out]; rfl)
          rw [HE.out] at HO hq2
          clear hbel
          go_wp2_with fail
          refine (sorts_any wr w.heap.size (.slice Av q2 cv) _ HO.out (by omega) HB.out.size).mono ?_
          rintro e w5 ⟨l', rfl, hO5, hs5, hb5⟩
          have HB5 := Lib.hid (HB.out.trans hb5)
          have HO5 := Lib.hid hO5
          have hl5 : l'.length ≤ 100000 := by
            have := congrArg List.length hs5
            rw [List.length_map, (List.mergeSort_perm _ _).length_eq, List.length_map] at this
            omega
          have HS5 := Lib.hid hs5
          clear hO5 hs5 hb5
          go_wp2_with fail
          refine (comps_any w5 w.heap.size (.slice Av q2 cv) l' HO5.out hl5 HB5.out.size).mono ?_
          rintro e w7 ⟨v7, rfl, hO7, hb7⟩
          have HT := Lib.hid (show (Lib.compactUpTo (l'.map bsF).toArray (l'.map bsF).toArray.size).map unF = tidy (tagX l0 la lb) by unfold tidy; rw [HS5.out])
          rw [HT.out] at hO7
          have HO7 := Lib.hid hO7
          clear hO7
          go_wp2_with fail
          go_ret
          exact ⟨_, rfl, HO7.out, HB5.out.trans hb7⟩
end Go.Proofs.Ytfkcgmhnledbmaa
