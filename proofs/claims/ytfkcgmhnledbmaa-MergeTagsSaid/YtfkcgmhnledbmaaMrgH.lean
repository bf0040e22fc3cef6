import Derived.Test.YtfkcgmhnledbmaaMrgH0
namespace Go.Proofs.Ytfkcgmhnledbmaa
open Go.RowKit FP
set_option linter.unusedVariables false
set_option linter.unusedSimpArgs false
attribute [local go_sem] run_store_float
set_option maxRecDepth 20000 in
theorem tagX_mem (l0 la lb : List ByteArray) {x : ByteArray} (h : x ∈ tagX l0 la lb) : x ∈ la ∨ x ∈ lb := by
  unfold tagX at h
  rcases List.mem_append.1 h with h | h
  · exact .inl (List.mem_filter.1 h).1
  · exact .inr (List.mem_filter.1 h).1
set_option maxRecDepth 20000 in
theorem tagX_tells (l0 la lb : List ByteArray) {x : ByteArray} (h : x ∈ la ++ lb) : hasB (tidy (tagX l0 la lb)) x = ((hasB la x && hasB lb x) || !hasB l0 x) := by
  have e : hasB (tidy (tagX l0 la lb)) x = true ↔ x ∈ rtagX l0 la lb := by rw [hasB_iff, (tidy_ris _).2 x, tagX_same]
  have e2 : x ∈ rtagX l0 la lb ↔ ((hasB la x && hasB lb x) || !hasB l0 x) = true := by
    unfold rtagX
    rw [List.mem_filter]
    exact ⟨fun h => h.2, fun h2 => ⟨h, h2⟩⟩
  exact Bool.eq_iff_iff.2 (e.trans e2)
set_option maxHeartbeats 4000000 in
set_option maxRecDepth 20000 in
theorem w_MergeTags (A0 : Option Addr) (n0 c0 : Nat) (l0 : List ByteArray) (A1 : Option Addr) (n1 c1 : Nat) (la : List ByteArray) (A2 : Option Addr) (n2 c2 : Nat) (lb : List ByteArray) (w : World) (h0 : Rd w anyB (.sl .str) l0 [.slice A0 n0 c0]) (h1 : Rd w anyB (.sl .str) la [.slice A1 n1 c1]) (h2 : Rd w anyB (.sl .str) lb [.slice A2 n2 c2]) :
    Calls Try.prog 4 #[.slice A0 n0 c0, .slice A1 n1 c1, .slice A2 n2 c2] w fun e w' => e = .returned (.bool true) ∧ Below w.heap.size w w' := by
  have H0 := Lib.hid h0
  have H1 := Lib.hid h1
  have H2 := Lib.hid h2
  have hl0 := (rd_rows h0).1
  have hl1 := (rd_rows h1).1
  have hl2 := (rd_rows h2).1
  clear h0 h1 h2
  go_enter Try.func4, Try.ntmps4
  go_wp2_with fail
  refine (mrg_awake w).mono ?_
  rintro e w1 ⟨rfl, hb⟩
  have HB1 := Lib.hid hb
  clear hb
  go_wp2_with (refine wpL_lit3 rfl (.tmp 15) (.tmp 17) (.tmp 19) rfl rfl rfl rfl ?_)
  have hat := At.blk (heap_alloc_new w1 (.cells #[Value.int .u64 0, Value.int .u64 0, Value.string ⟨#[]⟩, Value.bool false, Value.float .f64 0, Value.float .f64 0, Value.slice A0 n0 c0, Value.int .u64 0, Value.int .u64 0, Value.string ⟨#[]⟩, Value.bool false, Value.float .f64 0, Value.float .f64 0, Value.slice A1 n1 c1, Value.int .u64 0, Value.int .u64 0, Value.string ⟨#[]⟩, Value.bool false, Value.float .f64 0, Value.float .f64 0, Value.slice A2 n2 c2] 26))
  have hbx := below_alloc1 w1 (.cells #[Value.int .u64 0, Value.int .u64 0, Value.string ⟨#[]⟩, Value.bool false, Value.float .f64 0, Value.float .f64 0, Value.slice A0 n0 c0, Value.int .u64 0, Value.int .u64 0, Value.string ⟨#[]⟩, Value.bool false, Value.float .f64 0, Value.float .f64 0, Value.slice A1 n1 c1, Value.int .u64 0, Value.int .u64 0, Value.string ⟨#[]⟩, Value.bool false, Value.float .f64 0, Value.float .f64 0, Value.slice A2 n2 c2] 26)
  have hbw := HB1.out.trans (hbx.mono HB1.out.size)
  have hrt := rows_tk (H0.out.below hbw) (H1.out.below hbw) (H2.out.below hbw) hat
  refine (light_any _ none (some ⟨w1.heap.size, 0, none⟩) 0 0 3 3 [] [tk l0, tk la, tk lb] (rows_none _ _) hrt (by omega) (by omega)).mono ?_
  rintro e w2 ⟨b, rfl, hb, hb2⟩
  have HB2 := Lib.hid (hbw.trans (hb2.mono hbw.size))
  clear hat hrt hb2 hbx hbw
  cases b with
  | false =>
    clear hb
    go_wp2_with fail
    go_ret
    exact ⟨rfl, HB2.out⟩
  | true =>
  have hL := (hb rfl).2.2.2
  have k0 : n0 ≤ 8 := by rw [← hl0]; exact (hL (tk l0) List.mem_cons_self).2.1
  have k1 : n1 ≤ 8 := by rw [← hl1]; exact (hL (tk la) (List.mem_cons_of_mem _ List.mem_cons_self)).2.1
  have k2 : n2 ≤ 8 := by rw [← hl2]; exact (hL (tk lb) (List.mem_cons_of_mem _ (List.mem_cons_of_mem _ List.mem_cons_self))).2.1
  clear hL hb
  go_wp2_with fail
  refine (tags_any w2 A0 A1 A2 n0 c0 n1 c1 n2 c2 l0 la lb (rd_rows (H0.out.below HB2.out)) (rd_rows (H1.out.below HB2.out)) (rd_rows (H2.out.below HB2.out)) (by omega) (by omega) (by omega)).mono ?_
  rintro e w3 ⟨v3, rfl, hO3, hb3⟩
  have HB3 := Lib.hid (HB2.out.trans (hb3.mono HB2.out.size))
  obtain ⟨A3, c3, rfl, _, _, _, hR3⟩ := Own.form hO3
  obtain ⟨T, hT⟩ : ∃ T, tidy (tagX l0 la lb) = T := ⟨_, rfl⟩
  have HT := Lib.hid hT
  rw [hT] at hR3 ⊢
  obtain ⟨q, hq⟩ : ∃ q, T.length = q := ⟨_, rfl⟩
  have HQ := Lib.hid hq
  rw [hq] at hR3 ⊢
  have hq1 : q ≤ 3000 := by
    have h1 := tidy_le (tagX l0 la lb)
    rw [hT, hq] at h1
    unfold tagX at h1
    rw [List.length_append] at h1
    have h2 := List.length_filter_le (fun t => hasB lb t || !hasB l0 t) la
    have h3 := List.length_filter_le (fun t => !hasB l0 t) lb
    omega
  have HR3 := Lib.hid hR3.any
  have HRIS := Lib.hid (show Ris (tagX l0 la lb) T by rw [← hT]; exact tidy_ris _)
  clear hO3 hR3 hb3 hT hq
  go_wp2_with fail
  go_loopw [30] (fun s30 wr => ∃ i : Nat, i ≤ q ∧ s30 = .int .i64 i ∧ Below w3.heap.size w3 wr) (fun s30 _ => q - (intOf s30).toNat)
  case atStart => exact ⟨0, by omega, rfl, Below.refl _ _⟩
  case round =>
    obtain ⟨i, hi, rfl, hbel⟩ := hrel
    have HB := Lib.hid hbel
    have HW := Lib.hid (HB3.out.trans (hbel.mono HB3.out.size))
    by_cases hlt : i < q
    · have HRr := Lib.hid (HR3.out.below hbel)
      obtain ⟨ad, x, rfl, hx⟩ := HRr.out.some_at hlt
      have hc := (str_rows HRr.out hx).1
      have i0 : (0 : Int) ≤ (i : Int) := by omega
      have i1 : (i : Int) < (q : Int) := by omega
      have HA1 := Lib.hid (among_any wr A1 n1 c1 la x (rd_rows (H1.out.below HW.out)) (by omega))
      have HA2 := Lib.hid (among_any wr A2 n2 c2 lb x (rd_rows (H2.out.below HW.out)) (by omega))
      have HMx := Lib.hid (tagX_mem l0 la lb ((HRIS.out.2 x).1 (List.mem_of_getElem? hx)))
      clear hbel
      by_cases hz : i = 0
      · have j0 : ¬ (0 : Int) < (i : Int) := by omega
        clear hz hx
        cases ha : hasB la x with
        | true =>
          rw [ha] at HA1
          clear ha
          go_wp2_with (first | (go_at_call 13; refine HA1.out.mono ?_; rintro e w' ⟨rfl, rfl⟩))
          go_roundw
          case measure => simp [intOf]; omega
          case rel => exact ⟨i + 1, by omega, by go_num, HB.out⟩
        | false =>
          have hb' : hasB lb x = true := hasB_iff.2 (HMx.out.resolve_left (hasB_no.1 ha))
          rw [ha] at HA1
          rw [hb'] at HA2
          clear ha hb'
          go_wp2_with fail
          refine HA1.out.mono ?_
          rintro e w' ⟨rfl, rfl⟩
          go_wp2_with fail
          refine HA2.out.mono ?_
          rintro e w' ⟨rfl, rfl⟩
          go_wp2_with fail
          go_roundw
          case measure => simp [intOf]; omega
          case rel => exact ⟨i + 1, by omega, by go_num, HB.out⟩
      · obtain ⟨y, hy⟩ : ∃ y, T[i - 1]? = some y := ⟨T[i - 1]'(by have := HQ.out; omega), List.getElem?_eq_getElem (by have := HQ.out; omega)⟩
        have hcy := (str_rows HRr.out hy).1
        have j0 : (0 : Int) < (i : Int) := by omega
        have jw : IntKind.i64.wrap ((i : Int) - 1) = ((i - 1 : Nat) : Int) := by rw [IntWalk.i64_in _ (by omega)]; omega
        have j1 : (0 : Int) ≤ ((i - 1 : Nat) : Int) := by omega
        have j2 : ((i - 1 : Nat) : Int) < (q : Int) := by omega
        have hyx : ltS y x := by
          obtain ⟨a1, a2⟩ := List.getElem?_eq_some_iff.1 hy
          obtain ⟨b1, b2⟩ := List.getElem?_eq_some_iff.1 hx
          have := (List.pairwise_iff_getElem.1 HRIS.out.1) (i - 1) i a1 b1 (by omega)
          rwa [a2, b2] at this
        have o1 : Op.bytesLess x.toList y.toList = false := by
          cases h : Op.bytesLess x.toList y.toList with
          | false => rfl
          | true => exact absurd (ltS_trans hyx h) (ltS_irrefl y)
        have o2 : (x.toList == y.toList) = false := beq_false_of_ne (fun e => by unfold ltS at hyx; rw [e, bl_irrefl] at hyx; cases hyx)
        have o3 : (Op.bytesLess x.toList y.toList || x.toList == y.toList) = false := by rw [o1, o2]; rfl
        clear hz hx hy hyx
        cases ha : hasB la x with
        | true =>
          rw [ha] at HA1
          clear ha
          go_wp2_with fail
          refine HA1.out.mono ?_
          rintro e w' ⟨rfl, rfl⟩
          go_wp2_with fail
          go_roundw
          case measure => simp [intOf]; omega
          case rel => exact ⟨i + 1, by omega, by go_num, HB.out⟩
        | false =>
          have hb' : hasB lb x = true := hasB_iff.2 (HMx.out.resolve_left (hasB_no.1 ha))
          rw [ha] at HA1
          rw [hb'] at HA2
          clear ha hb'
          go_wp2_with fail
          refine HA1.out.mono ?_
          rintro e w' ⟨rfl, rfl⟩
          go_wp2_with fail
          refine HA2.out.mono ?_
          rintro e w' ⟨rfl, rfl⟩
          go_wp2_with fail
          go_roundw
          case measure => simp [intOf]; omega
          case rel => exact ⟨i + 1, by omega, by go_num, HB.out⟩
    · obtain rfl : i = q := by omega
      clear hbel
      go_wp2_with (first
        | (at_builtin; obtain ⟨ys, hys, hyc⟩ := (rd_rows (H1.out.below HW.out)).cells; refine wp_appO (m := n1) (r := la) (ys := ys) (base := wr.heap.size) (w0 := wr) (ok := anyB) (S := .str) (l := []) rfl (.const (.slice none 0 0)) (.tmp 59) rfl (OwnG.nil wr _ _ _ _) hl1.symm (rd_rows H1.out).2.1 (fun ad e => (hyc ad e).2) (rdl_str.2 (rdl_str.1 hys)) (Below.refl _ _) Try.underlying24 info_str rfl (by decide) rfl rfl (by simp; omega) (by simp; omega) (Nat.le_refl _) ?_; intro v4 w4 hO4 hb4 _ _; have HO4 := Lib.hid hO4; have HB4 := Lib.hid hb4; clear hys hyc hO4 hb4)
        | (at_builtin; obtain ⟨ys, hys, hyc⟩ := (rd_rows (H2.out.below (HW.out.trans (HB4.out.mono HW.out.size)))).cells; refine wp_appO (m := n2) (r := lb) (ys := ys) (base := wr.heap.size) (w0 := wr) (ok := anyB) (S := .str) (l := [] ++ la) rfl (.tmp 60) (.tmp 61) rfl HO4.out hl2.symm (rd_rows H2.out).2.1 (fun ad e => (hyc ad e).2) (rdl_str.2 (rdl_str.1 hys)) HB4.out Try.underlying24 info_str rfl (by decide) rfl rfl (by simp; omega) (by simp; omega) HB4.out.size ?_; intro v5 w5 hO5 hb5 _ _; have HO5 := Lib.hid hO5; have HB5 := Lib.hid hb5; clear hys hyc hO5 hb5; obtain ⟨A6, c6, rfl, _, _, hn6, hR6⟩ := OwnG.form HO5.out; have hR6 := hR6.any; obtain ⟨M, hM⟩ : ∃ M, [] ++ la ++ lb = M := ⟨_, rfl⟩; have HM := Lib.hid hM; rw [hM] at hR6 ⊢; obtain ⟨p, hp⟩ : ∃ p, M.length = p := ⟨_, rfl⟩; have hp1 : p ≤ 3000 := (by rw [← hp, ← hM, List.length_append, List.length_append]; simp; omega); rw [hp] at hR6 ⊢; have HR6 := Lib.hid hR6; have HW5 := Lib.hid (HW.out.trans (HB5.out.mono HW.out.size)); have HT5 := Lib.hid (HR3.out.below (HB.out.trans (HB5.out.mono HB.out.size))); clear hR6 hn6 hM hp HO5))
      go_loopw [64] (fun s64 wr => ∃ j : Nat, j ≤ p ∧ s64 = .int .i64 j ∧ Below w5.heap.size w5 wr) (fun s64 _ => p - (intOf s64).toNat)
      case atStart => exact ⟨0, by omega, rfl, Below.refl _ _⟩
      case round =>
        obtain ⟨j, hj, rfl, hbel⟩ := hrel
        have HB6 := Lib.hid hbel
        have HW6 := Lib.hid (HW5.out.trans (hbel.mono HW5.out.size))
        by_cases hlt : j < p
        · have HRr := Lib.hid (HR6.out.below hbel)
          obtain ⟨ad, x, rfl, hx⟩ := HRr.out.some_at hlt
          have hc := (str_rows HRr.out hx).1
          have i0 : (0 : Int) ≤ (j : Int) := by omega
          have i1 : (j : Int) < (p : Int) := by omega
          have HA0 := Lib.hid (among_any wr A0 n0 c0 l0 x (rd_rows (H0.out.below HW6.out)) (by omega))
          have HA1 := Lib.hid (among_any wr A1 n1 c1 la x (rd_rows (H1.out.below HW6.out)) (by omega))
          have HA2 := Lib.hid (among_any wr A2 n2 c2 lb x (rd_rows (H2.out.below HW6.out)) (by omega))
          have hmx : x ∈ la ++ lb := by rw [← HM.out] at hx; exact List.mem_of_getElem? hx
          have htl := tagX_tells l0 la lb hmx
          rw [HT.out] at htl
          have HA3 := Lib.hid (among_any wr A3 i c3 T x (HT5.out.below hbel) (by omega))
          rw [htl] at HA3
          clear htl hmx hbel hx
          cases ha : hasB la x with
          | true =>
            cases hb : hasB lb x with
            | true =>
              rw [ha] at HA1 HA3
              rw [hb] at HA2 HA3
              simp only [Bool.and_self, Bool.true_or] at HA3
              clear ha hb
              go_wp2_with fail
              refine HA3.out.mono ?_
              rintro e w' ⟨rfl, rfl⟩
              go_wp2_with fail
              refine HA1.out.mono ?_
              rintro e w' ⟨rfl, rfl⟩
              go_wp2_with fail
              refine HA2.out.mono ?_
              rintro e w' ⟨rfl, rfl⟩
              go_wp2_with fail
              go_roundw
              case measure => simp [intOf]; omega
              case rel => exact ⟨j + 1, by omega, by go_num, HB6.out⟩
            | false =>
              rw [ha] at HA1 HA3
              rw [hb] at HA2 HA3
              simp only [Bool.and_false, Bool.false_or] at HA3
              clear ha hb
              cases h0 : hasB l0 x <;> (
                rw [h0] at HA0 HA3
                simp only [Bool.not_true, Bool.not_false] at HA3
                clear h0
                go_wp2_with fail
                refine HA3.out.mono ?_
                rintro e w' ⟨rfl, rfl⟩
                go_wp2_with fail
                refine HA1.out.mono ?_
                rintro e w' ⟨rfl, rfl⟩
                go_wp2_with fail
                refine HA2.out.mono ?_
                rintro e w' ⟨rfl, rfl⟩
                go_wp2_with fail
                refine HA0.out.mono ?_
                rintro e w' ⟨rfl, rfl⟩
                go_wp2_with fail
                go_roundw
                case measure => simp [intOf]; omega
                case rel => exact ⟨j + 1, by omega, by go_num, HB6.out⟩)
          | false =>
            rw [ha] at HA1 HA3
            simp only [Bool.false_and, Bool.false_or] at HA3
            clear ha
            cases h0 : hasB l0 x <;> (
              rw [h0] at HA0 HA3
              simp only [Bool.not_true, Bool.not_false] at HA3
              clear h0
              go_wp2_with fail
              refine HA3.out.mono ?_
              rintro e w' ⟨rfl, rfl⟩
              go_wp2_with fail
              refine HA1.out.mono ?_
              rintro e w' ⟨rfl, rfl⟩
              go_wp2_with fail
              refine HA0.out.mono ?_
              rintro e w' ⟨rfl, rfl⟩
              go_wp2_with fail
              go_roundw
              case measure => simp [intOf]; omega
              case rel => exact ⟨j + 1, by omega, by go_num, HB6.out⟩)
        · obtain rfl : j = p := by omega
          have HW7 := Lib.hid (HW5.out.trans (HB6.out.mono HW5.out.size))
          clear hbel
          go_wp2_with fail
          refine (tags_any wr A0 A2 A1 n0 c0 n2 c2 n1 c1 l0 lb la (rd_rows (H0.out.below HW7.out)) (rd_rows (H2.out.below HW7.out)) (rd_rows (H1.out.below HW7.out)) (by omega) (by omega) (by omega)).mono ?_
          rintro e w8 ⟨v8, rfl, hO8, hb8⟩
          have he : tidy (tagX l0 lb la) = T := Ris.uniq (tidy_ris _) HRIS.out (tagX_turn l0 la lb)
          rw [he] at hO8
          obtain ⟨A8, c8, rfl, _, _, _, hR8⟩ := Own.form hO8
          have HR8 := Lib.hid hR8.any
          have HB8 := Lib.hid hb8
          clear hO8 hR8 hb8 he
          go_wp2_with fail
          have hTq := HQ.out
          refine (sametags_any w8 A8 A3 T.length i c8 c3 T T HR8.out (HT5.out.below (HB6.out.trans (HB8.out.mono HB6.out.size))) (by omega)).mono ?_
          rintro e w9 ⟨b, rfl, hbt, hb9⟩
          obtain rfl : b = true := hbt.2 rfl
          have HB9 := Lib.hid (HW7.out.trans ((HB8.out.trans (hb9.mono HB8.out.size)).mono HW7.out.size))
          clear hbt hb9
          go_wp2_with fail
          go_ret
          exact ⟨rfl, HB9.out⟩
end Go.Proofs.Ytfkcgmhnledbmaa
