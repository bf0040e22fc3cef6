import Derived.Test.YthkfjcfncobllaaStaV
namespace Go.Proofs.Ythkfjcfncobllaa
open Go.RowKit FP
set_option linter.unusedVariables false
set_option linter.unusedSimpArgs false
attribute [local go_sem] run_store_flt
set_option maxHeartbeats 4000000 in
set_option maxRecDepth 20000 in
theorem rbins_any (w : World) (A B : Option Addr) (n m ca cb : Nat) (l b : List Nat) (ha : Rd w anyB (.sl .f64) l [.slice A n ca]) (hb : Rd w anyB (.sl .f64) b [.slice B m cb]) (hl : n ≤ 1000) (hl2 : m ≤ 1000) :
    Calls Try.prog 19 #[.slice A n ca, .slice B m cb] w fun e w' => ∃ v', e = .returned v' ∧ Own w' w.heap.size 41 BIN v' (binsE (ded (sortK (knownL b))) (knownL l)) ∧ Below w.heap.size w w' := by
  have hbl : b.length = m := (rd_rows hb).1
  have hal : l.length = n := (rd_rows ha).1
  have hblt := (rows_fs (rd_rows hb)).2
  have halt := (rows_fs (rd_rows ha)).2
  have hk1 : (knownL b).length ≤ m := by rw [← hbl]; exact List.length_filter_le _ _
  have HA := Lib.hid ha
  have HBb := Lib.hid (rd_rows hb)
  clear ha hb
  go_enter Try.func19, Try.ntmps19
  go_wp2_with (go_at_call 40; refine (inf_neg _).mono ?_; rintro e w' ⟨rfl, rfl⟩)
  refine (rknown_any w B m cb b HBb.out (by omega)).mono ?_
  rintro e w1 ⟨v1, rfl, hO1, hb1⟩
  obtain ⟨A1, c1, rfl, _, _, _, hR1⟩ := Own.form hO1
  have hkc := sortK_can (known_lt hblt)
  have hks := sortK_sorted (knownL b)
  have hsl := sortK_len (knownL b)
  obtain ⟨E0, hE0⟩ : ∃ E0, knownL b = E0 := ⟨_, rfl⟩
  rw [hE0] at hk1 hR1 hsl hkc hks ⊢
  obtain ⟨m1, hm1⟩ : ∃ m1, E0.length = m1 := ⟨_, rfl⟩
  rw [hm1] at hk1 hsl hR1 ⊢
  go_wp2_with fail
  refine (rsort_any w1 A1 m1 c1 E0 hR1.any (by omega)).mono ?_
  rintro e w2 ⟨v2, rfl, hO2, hb2⟩
  have HB2 := Lib.hid (hb1.trans (hb2.mono hb1.size))
  obtain ⟨S0, hS0⟩ : ∃ S0, sortK E0 = S0 := ⟨_, rfl⟩
  rw [hS0] at hO2 hkc hsl hks
  obtain ⟨A2, c2, rfl, _⟩ := Own.form hO2
  rw [hsl] at hO2 ⊢
  have HS2 := Lib.hid (own_rows hO2 hsl.symm)
  have HSc := Lib.hid hkc
  have hEc : ∀ x ∈ ded S0, CanN x := fun x hx => hkc x (ded_lt hkc x hx)
  have hup := ded_up hkc hks
  have hdl := ded_len_le S0
  obtain ⟨E, hE⟩ : ∃ E, ded S0 = E := ⟨_, rfl⟩
  rw [hE] at hEc hdl hup
  have HEc := Lib.hid hEc
  have HEu := Lib.hid hup
  have HEQ := Lib.hid (show ded (sortK (knownL b)) = E by rw [hE0, hS0, hE])
  have HED := Lib.hid hE
  obtain ⟨q, hq⟩ : ∃ q, E.length = q := ⟨_, rfl⟩
  rw [hq] at hdl
  have hqm : q ≤ 1000 := by omega
  have hm1k : m1 ≤ 1000 := by omega
  clear hO1 hb1 hb2 hO2 hR1 hk1 hkc hks hup hS0 hE hm1 hE0 hEc
  go_wp2_with fail
  go_loopw [6, 19] (fun s6 s19 wr => ∃ (k : Nat) (v : Value), k ≤ m1 ∧ v = s6 ∧ s19 = .int .i64 k ∧ Own wr w2.heap.size 27 .f64 v (ded (S0.take k)) ∧ Below w2.heap.size w2 wr) (fun _ s19 _ => m1 - (intOf s19).toNat)
  case atStart => exact ⟨0, _, by omega, rfl, rfl, Own.nil _ _ _ _, Below.refl _ _⟩
  case round =>
    obtain ⟨k, v, hk, rfl, rfl, hO, hbel⟩ := hrel
    have HB := Lib.hid hbel
    have HR := Lib.hid (HS2.out.below hbel)
    have hdk := ded_len_le (S0.take k)
    rw [List.length_take] at hdk
    by_cases hlt : k < m1
    · obtain ⟨ad, x, rfl, hx⟩ := HR.out.some_at hlt
      have cx := (row_at HR.out hx).1
      have HX := Lib.hid (row_at HR.out hx).2
      have i0 : (0 : Int) ≤ (k : Int) := by omega
      have i1 : (k : Int) < (m1 : Int) := by omega
      have hxc := HSc.out x (List.mem_of_getElem? hx)
      have hstep : ded (S0.take (k + 1)) = stepD (ded (S0.take k)) x := by rw [take_at hx, ded_snoc]
      have hDc : ∀ y ∈ ded (S0.take k), CanN y := fun y hy => HSc.out y (List.mem_of_mem_take (ded_lt (fun z hz => HSc.out z (List.mem_of_mem_take hz)) y hy))
      obtain ⟨D, hD⟩ : ∃ D, ded (S0.take k) = D := ⟨_, rfl⟩
      rw [hD] at hO hdk hstep hDc
      obtain ⟨AD, cD, rfl, _⟩ := Own.form hO
      obtain ⟨d, hd⟩ : ∃ d, D.length = d := ⟨_, rfl⟩
      rw [hd] at hdk hO ⊢
      have HOD := Lib.hid hO
      have HRD := Lib.hid (own_rows hO hd.symm)
      clear hO hx hbel hD
      by_cases hd0 : d = 0
      · subst hd0
        have HN := Lib.hid (show ded (S0.take (k + 1)) = D ++ [x] by
          rw [hstep]
          obtain rfl : D = [] := List.eq_nil_of_length_eq_zero (by omega)
          rfl)
        have hN2 : (ded (S0.take (k + 1))).length = 1 := by rw [HN.out, List.length_append, hd]; rfl
        clear hstep hDc hxc
        go_wp2_with (at_builtin; refine wp_appO (m := 1) (r := [x]) (ys := [.float .f64 x]) rfl (.tmp 37) (.tmp 39) rfl (HOD.out.below (below_alloc1 wr _)) rfl (fun e => by cases e) (fun ad' e => by cases e; exact At.blk (heap_alloc_new wr _)) (RdL.single (rd_f64v HX.out)) (HB.out.alloc HB.out.size _) Try.underlying22 info_f64 rfl (by decide) rfl rfl (by rw [hd]; omega) (by rw [hd]; omega) (by have := HB.out.size; simp; omega) ?_; intro v6 w6 hO6 hb6 _ _; rw [← HN.out] at hO6; obtain ⟨A6, c6, rfl, _⟩ := Own.form hO6; rw [hN2] at hO6 ⊢; have HO6 := Lib.hid hO6; have HB6 := Lib.hid hb6; clear hO6 hb6)
        go_roundw
        case measure => simp [intOf]; omega
        case rel => exact ⟨k + 1, _, by omega, rfl, by go_num, HO6.out, HB6.out⟩
      · obtain ⟨bd, y, rfl, hy⟩ := HRD.out.some_at (i := d - 1) (by omega)
        have cy := (row_at HRD.out hy).1
        have hyc := hDc y (List.mem_of_getElem? hy)
        have hlast : D.getLast? = some y := by rw [List.getLast?_eq_getElem?, hd, hy]
        have jw : IntKind.i64.wrap ((d : Int) - 1) = ((d - 1 : Nat) : Int) := by rw [IntWalk.i64_in _ (by omega)]; omega
        have j0 : (0 : Int) ≤ ((d - 1 : Nat) : Int) := by omega
        have j1 : ((d - 1 : Nat) : Int) < (d : Int) := by omega
        have hdz : ¬ ((d : Nat) : Int) = 0 := by omega
        by_cases hxy : x = y
        · subst hxy
          have HN := Lib.hid (show ded (S0.take (k + 1)) = D by rw [hstep]; unfold stepD; rw [if_pos hlast])
          have hbb : (rkeyF x == rkeyF x) = true := beq_self_eq_true _
          clear hstep hDc hxc hyc hlast hy
          go_wp2_with (go_at_call 16; refine (rsame_any _ _ _).mono ?_; rintro e w' ⟨rfl, rfl⟩; rw [hbb])
          go_roundw
          case measure => simp [intOf]; omega
          case rel => exact ⟨k + 1, _, by omega, rfl, by go_num, by rw [HN.out]; exact HOD.out, HB.out⟩
        · have HN := Lib.hid (show ded (S0.take (k + 1)) = D ++ [x] by
            rw [hstep]
            unfold stepD
            rw [if_neg (by rw [hlast]; intro e; injection e with e; exact hxy e.symm)])
          have hN2 : (ded (S0.take (k + 1))).length = d + 1 := by rw [HN.out, List.length_append, hd]; rfl
          have hbb : (rkeyF x == rkeyF y) = false := beq_false_of_ne (fun e => hxy (key_inj hxc hyc (by rw [← rkeyF_eq hxc.1, ← rkeyF_eq hyc.1, e])))
          clear hstep hDc hxc hyc hlast hy hxy
          go_wp2_with (first | (go_at_call 16; refine (rsame_any _ _ _).mono ?_; rintro e w' ⟨rfl, rfl⟩; rw [hbb]) | (at_builtin; refine wp_appO (m := 1) (r := [x]) (ys := [.float .f64 x]) rfl (.tmp 37) (.tmp 39) rfl (HOD.out.below (below_alloc1 wr _)) rfl (fun e => by cases e) (fun ad' e => by cases e; exact At.blk (heap_alloc_new wr _)) (RdL.single (rd_f64v HX.out)) (HB.out.alloc HB.out.size _) Try.underlying22 info_f64 rfl (by decide) rfl rfl (by rw [hd]; omega) (by rw [hd]; omega) (by have := HB.out.size; simp; omega) ?_; intro v6 w6 hO6 hb6 _ _; rw [← HN.out] at hO6; obtain ⟨A6, c6, rfl, _⟩ := Own.form hO6; rw [hN2] at hO6 ⊢; have HO6 := Lib.hid hO6; have HB6 := Lib.hid hb6; clear hO6 hb6))
          go_roundw
          case measure => simp [intOf]; omega
          case rel => exact ⟨k + 1, _, by omega, rfl, by go_num, HO6.out, HB6.out⟩
    · obtain rfl : k = m1 := by omega
      rw [List.take_of_length_le (by omega), HED.out] at hO
      obtain ⟨AE, cE, rfl, _⟩ := Own.form hO
      rw [hq] at hO ⊢
      obtain ⟨wE, hwE⟩ : ∃ wE, wr = wE := ⟨_, rfl⟩
      subst hwE
      have HEr := Lib.hid (own_rows hO hq.symm)
      have HBE := Lib.hid (HB2.out.trans (HB.out.mono HB2.out.size))
      clear hO hbel
      have hlo0 : (Value.float .f64 18442240474082181120) = .float .f64 (loE E 0) := rfl
      go_wp2_with fail
      go_loopw [5, 9, 10] (fun s5 s9 s10 wx => ∃ (i : Nat) (v : Value), i ≤ q + 1 ∧ s5 = .float .f64 (loE E (min i q)) ∧ v = s9 ∧ s10 = .int .i64 i ∧ Own wx wr.heap.size 41 BIN v ((binsE E (knownL l)).take i) ∧ Below wr.heap.size wr wx) (fun _ _ s10 _ => q + 1 - (intOf s10).toNat)
      case atStart => exact ⟨0, _, by omega, by rw [Nat.zero_min]; rfl, rfl, rfl, Own.nil _ _ _ _, Below.refl _ _⟩
      case round =>
        obtain ⟨i, v, hi, rfl, rfl, rfl, hO, hbel⟩ := hrel
        have HB := Lib.hid hbel
        have HR := Lib.hid (HEr.out.below hbel)
        by_cases hiq : i ≤ q
        · rw [Nat.min_eq_left hiq]
          have i0 : (0 : Int) ≤ (i : Int) := by omega
          have i1 : (i : Int) ≤ (q : Int) := by omega
          have hlen : ((binsE E (knownL l)).take i).length = i := by rw [List.length_take, binsE_len]; omega
          obtain ⟨AO, cO, rfl, _⟩ := Own.form hO
          rw [hlen] at hO ⊢
          have HO := Lib.hid hO
          clear hO hbel
          go_wp2_with fail
          refine (rleast0 wr).mono ?_
          rintro e w5 ⟨rfl, hb5⟩
          have HB5 := Lib.hid (HB.out.trans (hb5.mono HB.out.size))
          have HO5 := Lib.hid (HO.out.below hb5)
          have HR5 := Lib.hid (HR.out.below hb5)
          clear hb5
          go_upto_if 54 with (refine wpL_store rfl 41 _ _ rfl w5.heap.size rfl _ _ 41 rfl (heap_alloc_new w5 _) rfl rfl (by intro v hv; simp at hv; rcases hv with rfl | rfl | rfl <;> rfl) ?_; intro w6 hx6 hg6; have HB6 := Lib.hid ((below_alloc1 w5 _).grown hg6 (by simp) (fun k e => by cases e; exact Nat.le_refl _) : Below w5.heap.size w5 w6); have HX6 := Lib.hid hx6; clear hx6 hg6)
          go_cut [5] from 54 to 63 (fun s5 wx => s5 = .float .f64 (loE E (min (i + 1) q)) ∧ wx.heap[w5.heap.size]? = some (.cells #[.float .f64 (loE E i), .float .f64 (hiE E i), .int .i64 0] 41 (0, 0)) ∧ Below w5.heap.size w5 wx)
          case first =>
            by_cases hlt : i < q
            · obtain ⟨ed, e, rfl, he⟩ := HR5.out.some_at hlt
              have ce := cell_below HB6.out (row_at HR5.out he).1
              have x1 := blk_at HX6.out 1 _ rfl
              have f1 := blk_free HX6.out 1
              have i2 : (i : Int) < (q : Int) := by omega
              have hlo' : loE E (min (i + 1) q) = e := by
                rw [Nat.min_eq_left (by omega)]
                unfold loE
                rw [if_neg (by omega), List.getD_eq_getElem?_getD, Nat.add_sub_cancel, he]
                rfl
              have hhi' : hiE E i = e := by
                unfold hiE
                rw [if_pos (by omega), List.getD_eq_getElem?_getD, he]
                rfl
              have HL' := Lib.hid hlo'
              have HH' := Lib.hid hhi'
              obtain ⟨w7, hw7⟩ : ∃ w7, w6.setCell ⟨w5.heap.size, 1, none⟩ (.float .f64 e) = w7 := ⟨_, rfl⟩
              have c7 : w7.cell? (ed.add i) = some (.float .f64 e) := by
                rw [← hw7, World.cell?_setCell_other _ _ _ _ (fun h => by
                  have h1 := World.block_lt_of_cell? _ _ (row_at HR5.out he).1
                  rw [← h] at h1
                  exact absurd h1 (Nat.lt_irrefl _)), ce]
              have HX7 := Lib.hid (show w7.heap[w5.heap.size]? = some (.cells #[.float .f64 (loE E i), .float .f64 e, .int .i64 0] 41 (0, 0)) by rw [← hw7]; exact blk_set HX6.out 1 _)
              have HB7 := Lib.hid (show Below w5.heap.size w5 w7 by rw [← hw7]; exact HB6.out.setCell (p := ⟨w5.heap.size, 1, none⟩) (Nat.le_refl _) _)
              clear he hlo' hhi'
              go_wp2_with fail
              go_meet
              case rel => exact ⟨by rw [HL'.out], by rw [HH'.out]; exact HX7.out, HB7.out⟩
            · have HI := Lib.hid (show i = q by omega)
              have hi2 : ¬ (i : Int) < (q : Int) := by omega
              go_wp2_with fail
              go_meet
              case rel => exact ⟨by rw [Nat.min_eq_right (by omega), HI.out], by rw [show hiE E i = (rcanF (endL .lt [])) by unfold hiE; rw [if_neg (by omega)]]; exact HX6.out, HB6.out⟩
          case rest =>
          obtain ⟨rfl, hx, hbx⟩ := hcut
          obtain ⟨lo2, hlo2⟩ : ∃ x, loE E (min (i + 1) q) = x := ⟨_, rfl⟩
          rw [hlo2]
          have HL2 := Lib.hid hlo2
          clear hlo2
          have HX := Lib.hid hx
          have HBX := Lib.hid hbx
          have HBc := Lib.hid (HB5.out.trans (hbx.mono HB5.out.size))
          have hlt8 : w5.heap.size < wc.heap.size := blk_lt hx
          clear hx hbx
          go_wp2_with fail
          refine (rknown_any wc A n ca l (rd_rows (HA.out.below (HBE.out.trans (HBc.out.mono HBE.out.size)))) (by omega)).mono ?_
          rintro e w8 ⟨v8, rfl, hO8, hb8⟩
          have hKlt := known_lt halt
          have hKn := @known_nan l
          have hkl : (knownL l).length ≤ n := by rw [← hal]; exact List.length_filter_le _ _
          obtain ⟨K, hK⟩ : ∃ K, knownL l = K := ⟨_, rfl⟩
          have HKe := Lib.hid hK
          rw [hK] at hO8 hKlt hkl hKn
          obtain ⟨A8, c8, rfl, _⟩ := Own.form hO8
          obtain ⟨r, hr⟩ : ∃ r, K.length = r := ⟨_, rfl⟩
          rw [hr] at hO8 hkl ⊢
          have HX8 := Lib.hid (blk_below HX.out hb8 (blk_lt HX.out))
          have HB8 := Lib.hid (HBX.out.trans (hb8.mono HBX.out.size))
          have HK8 := Lib.hid hO8
          clear hO8 hb8 hK
          go_wp2_with fail
          go_loopw [67] (fun s67 wx => ∃ j : Nat, j ≤ r ∧ s67 = .int .i64 j ∧ wx.heap[w5.heap.size]? = some (.cells #[.float .f64 (loE E i), .float .f64 (hiE E i), .int .i64 (cntE E (K.take j) i)] 41 (0, 0)) ∧ Own wx wc.heap.size 27 .f64 (.slice A8 r c8) K ∧ Below w5.heap.size w5 wx) (fun s67 _ => r - (intOf s67).toNat)
          case atStart => exact ⟨0, by omega, rfl, HX8.out, HK8.out, HB8.out⟩
          case round =>
            obtain ⟨j, hj, rfl, hx9, hk9, hb9⟩ := hrel
            have HX9 := Lib.hid hx9
            have HK9 := Lib.hid hk9
            have HB9 := Lib.hid hb9
            have HKr := Lib.hid (own_rows hk9 hr.symm)
            clear hx9 hk9 hb9
            by_cases hjr : j < r
            · obtain ⟨ad, x, rfl, hx⟩ := HKr.out.some_at hjr
              have cx := (row_at HKr.out hx).1
              have j0 : (0 : Int) ≤ (j : Int) := by omega
              have j1 : (j : Int) < (r : Int) := by omega
              have y0 := blk_at HX9.out 0 _ rfl
              have y1 := blk_at HX9.out 1 _ rfl
              have y2 := blk_at HX9.out 2 _ rfl
              have hpl := place_iff HEu.out (hKlt x (List.mem_of_getElem? hx)) (hKn x (List.mem_of_getElem? hx)) (by rw [hq]; exact hiq : i ≤ E.length)
              have hsn := cntE_snoc E (K.take j) x i
              rw [← take_at hx] at hsn
              have k1 := rkeyF_eq (hKlt x (List.mem_of_getElem? hx))
              have k2 := rkeyF_eq (lo_lt (fun y hy => (HEc.out y hy).1) i)
              have k3 := rkeyF_eq (hi_lt (fun y hy => (HEc.out y hy).1) i)
              rw [← k1, ← k2, ← k3, hq] at hpl
              clear k1 k2 k3 hx
              obtain ⟨ct, hct⟩ : ∃ ct, cntE E (K.take j) i = ct := ⟨_, rfl⟩
              have hctl : ct ≤ 1000 := by
                have := cnt_le E (K.take j) i
                rw [hct, List.length_take] at this
                omega
              rw [hct] at hsn y2 HX9
              by_cases hp : placeE E x = i
              · rw [if_pos hp] at hsn
                obtain ⟨hp1, hp2⟩ := hpl.1 hp
                have d1 := decide_eq_false hp1
                have f2 := blk_free HX9.out 2
                have jw : IntKind.i64.wrap ((ct : Int) + 1) = (ct : Int) + 1 := IntWalk.i64_in _ (by omega)
                have HX10 := Lib.hid (show (wr.setCell ⟨w5.heap.size, 2, none⟩ (.int .i64 ((ct : Int) + 1))).heap[w5.heap.size]? = some (.cells #[.float .f64 (loE E i), .float .f64 (hiE E i), .int .i64 (cntE E (K.take (j + 1)) i)] 41 (0, 0)) by rw [hsn]; exact blk_set HX9.out 2 _)
                have HK10 := Lib.hid (HK9.out.setc hlt8 2 (.int .i64 ((ct : Int) + 1)))
                have HB10 := Lib.hid (HB9.out.setCell (p := ⟨w5.heap.size, 2, none⟩) (Nat.le_refl _) (.int .i64 ((ct : Int) + 1)))
                clear hsn hpl hct hp
                by_cases hiq2 : i = q
                · subst hiq2
                  clear hp2
                  go_wp2_with (go_at_call 28; refine (rless_any _ _ _).mono ?_; rintro e w' ⟨rfl, rfl⟩; rw [d1])
                  go_roundw
                  case measure => simp [intOf]; omega
                  case rel => exact ⟨j + 1, by omega, by go_num, HX10.out, HK10.out, HB10.out⟩
                · have hii : ¬ ((i : Nat) : Int) = (q : Int) := by omega
                  have d2 := decide_eq_true (hp2.resolve_left hiq2)
                  clear hp2
                  go_wp2_with (go_at_call 28; refine (rless_any _ _ _).mono ?_; rintro e w' ⟨rfl, rfl⟩; first | rw [d1] | rw [d2])
                  go_roundw
                  case measure => simp [intOf]; omega
                  case rel => exact ⟨j + 1, by omega, by go_num, HX10.out, HK10.out, HB10.out⟩
              · rw [if_neg hp, Nat.add_zero] at hsn
                have HN0 := Lib.hid hsn
                clear hsn hct
                by_cases hle : rkeyF x < rkeyF (loE E i)
                · have d1 := decide_eq_true hle
                  clear hpl hle hp
                  go_wp2_with (go_at_call 28; refine (rless_any _ _ _).mono ?_; rintro e w' ⟨rfl, rfl⟩; rw [d1])
                  go_roundw
                  case measure => simp [intOf]; omega
                  case rel => exact ⟨j + 1, by omega, by go_num, by rw [HN0.out]; exact HX9.out, HK9.out, HB9.out⟩
                · have d1 := decide_eq_false hle
                  have hii : ¬ ((i : Nat) : Int) = (q : Int) := fun e => hp (hpl.2 ⟨hle, .inl (by omega)⟩)
                  have d2 := decide_eq_false (fun e => hp (hpl.2 ⟨hle, .inr e⟩))
                  clear hpl hle hp
                  go_wp2_with (go_at_call 28; refine (rless_any _ _ _).mono ?_; rintro e w' ⟨rfl, rfl⟩; first | rw [d1] | rw [d2])
                  go_roundw
                  case measure => simp [intOf]; omega
                  case rel => exact ⟨j + 1, by omega, by go_num, by rw [HN0.out]; exact HX9.out, HK9.out, HB9.out⟩
            · obtain rfl : j = r := by omega
              have HF := Lib.hid (show (binsE E (knownL l)).take (i + 1) = (binsE E (knownL l)).take i ++ [(loE E i, hiE E i, (cntE E (K.take j) i : Int), ())] by
                rw [take_at (binsE_at (by rw [hq]; exact hiq)), HKe.out, show K.take j = K from List.take_of_length_le (by omega)]
                rfl)
              have hFl : ((binsE E (knownL l)).take (i + 1)).length = i + 1 := by rw [List.length_take, binsE_len]; omega
              have HOj := Lib.hid (HO5.out.below HB9.out)
              have HBj := Lib.hid (HB5.out.trans (HB9.out.mono HB5.out.size))
              have hctl : cntE E (K.take j) i ≤ 1000 := by
                have := cnt_le E (K.take j) i
                rw [List.length_take] at this
                omega
              have hlo := lo_lt (fun y hy => (HEc.out y hy).1) i
              have hhi := hi_lt (fun y hy => (HEc.out y hy).1) i
              have HV := Lib.hid (fun W (ok : Nat → Prop) => (rd_binv hlo hhi (by omega) (by omega) : Rd W ok BIN (loE E i, hiE E i, (cntE E (K.take j) i : Int), ()) _))
              clear hlo hhi
              go_wp2_with (first
                | (refine wpL_load rfl 41 _ rfl _ rfl _ _ (At.blk HX9.out) Try.underlying41 rfl rfl ?_)
                | (refine wpL_lit1 rfl (cs := [.float .f64 (loE E i), .float .f64 (hiE E i), .int .i64 (cntE E (K.take j) i)]) (.tmp 94) rfl rfl Try.underlying36 info_bin rfl (by decide) (by decide) rfl ?_)
                | (at_builtin; go_loud (refine wp_appO (m := 1) (r := [((loE E i : Nat), hiE E i, (cntE E (K.take j) i : Int), ())]) (ys := [.float .f64 (loE E i), .float .f64 (hiE E i), .int .i64 (cntE E (K.take j) i)]) rfl (.tmp 93) (.tmp 95) rfl (HOj.out.below (below_alloc1 wr _)) rfl (fun e => by cases e) (fun ad' e => by cases e; exact At.blk (heap_alloc_new wr _)) (RdL.single (HV.out _ _)) (HBj.out.alloc HBj.out.size _) Try.underlying36 info_bin rfl (by decide) rfl rfl (by rw [hlen, bytes_bin]; omega) (by rw [hlen]; omega) (by have := HBj.out.size; simp; omega) ?_; intro v9 w9 hO9 hb9 _ _; rw [← HF.out] at hO9; obtain ⟨A9, c9, rfl, _⟩ := Own.form hO9; rw [hFl] at hO9 ⊢; have HO9 := Lib.hid hO9; have HB9' := Lib.hid hb9; clear hO9 hb9)))
              go_roundw
              case measure => simp [intOf]; omega
              case rel => exact ⟨i + 1, _, by omega, by rw [HL2.out], rfl, by go_num, HO9.out, HB9'.out⟩
        · obtain rfl : i = q + 1 := by omega
          rw [List.take_of_length_le (by rw [binsE_len]; omega)] at hO
          have hi3 : ¬ ((q + 1 : Nat) : Int) ≤ (q : Int) := by omega
          go_wp2_with fail
          go_ret
          refine ⟨_, rfl, ?_, HBE.out.trans (HB.out.mono HBE.out.size)⟩
          rw [HEQ.out]
          exact Own.base hO HBE.out.size
end Go.Proofs.Ythkfjcfncobllaa
