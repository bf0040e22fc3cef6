import Derived.Test.YthkfjcfncobllaaStaP
namespace Go.Proofs.Ythkfjcfncobllaa
open Go.RowKit FP
set_option linter.unusedVariables false
set_option linter.unusedSimpArgs false
attribute [local go_sem] run_store_flt
set_option maxRecDepth 20000 in
theorem Own.setc {w : World} {base g : Nat} {v : Value} {l : List Nat} (h : Own w base 27 .f64 v l) (hg : g < base) (j : Nat) (x : Value) : Own (w.setCell ⟨g, j, none⟩ x) base 27 .f64 v l := by
  obtain ⟨xs, ⟨h1, h2⟩, h3⟩ := h
  refine ⟨xs, ⟨h1, ?_⟩, rdl_any h3⟩
  rcases h2 with h2 | ⟨b, cap, cur, e, hb, hh, hr⟩
  · exact .inl h2
  · exact .inr ⟨b, cap, cur, e, hb, blk_other hh j x (by omega), hr⟩
set_option maxRecDepth 20000 in
theorem rleast0 (w : World) : Calls Try.prog 34 #[.slice none 0 0] w fun e w' => e = .returned (.float .f64 (rcanF (endL .lt []))) ∧ Below w.heap.size w w' := rleast none 0 0 [] w (fs_nil w) (by omega)
set_option maxHeartbeats 4000000 in
set_option maxRecDepth 20000 in
theorem dig_any (w : World) (A : Option Addr) (n c : Nat) (l : List Nat) (h : Rows w anyB .f64 A n l) (hl : n ≤ 100000) :
    Calls Try.prog 13 #[.slice A n c] w fun e w' => e = .returned (.agg (digC (digL l)).toArray) ∧ Below w.heap.size w w' := by
  have hln := h.1
  have hZ := heap_alloc_new w (.cells #[.int .i64 0, .int .i64 0, .float .f64 0, .float .f64 0, .float .f64 0, .float .f64 0] 29)
  have hb0 := below_alloc1 w (.cells #[.int .i64 0, .int .i64 0, .float .f64 0, .float .f64 0, .float .f64 0, .float .f64 0] 29)
  go_enter Try.func13, Try.ntmps13
  go_wp2_with fail
  obtain ⟨w0, hw0⟩ : ∃ w0, w.alloc (.cells #[.int .i64 0, .int .i64 0, .float .f64 0, .float .f64 0, .float .f64 0, .float .f64 0] 29) = w0 := ⟨_, rfl⟩
  rw [hw0] at hZ hb0 ⊢
  refine (rknown_any w0 A n c l (h.below hb0) hl).mono ?_
  rintro e w1 ⟨v1, rfl, hO1, hb1⟩
  obtain ⟨A1, c1, rfl, _⟩ := Own.form hO1
  obtain ⟨k, hk⟩ : ∃ k, knownL l = k := ⟨_, rfl⟩
  have hkl : k.length ≤ n := by rw [← hk, ← hln]; exact List.length_filter_le _ _
  have HD := Lib.hid (show digL l = if k.length = 0 then ((n : Int), (n : Int), (rcanF (endL .lt [])), (rcanF (endL .lt [])), (rcanF (endL .lt [])), (rcanF (endL .lt []))) else ((n : Int), (n : Int) - (k.length : Int), rcanF (endL .lt k), rcanF (endL .gt k), vO (meanO k), vO (spreadO k)) by unfold digL; rw [hk, hln])
  rw [hk] at hO1 ⊢
  obtain ⟨q, hq⟩ : ∃ q, k.length = q := ⟨_, rfl⟩
  rw [hq] at hkl hO1 HD ⊢
  have HK1 := Lib.hid (own_rows hO1 hq.symm)
  have HZ1 := Lib.hid (blk_below hZ hb1 (blk_lt hZ))
  have HB1 := Lib.hid (hb0.trans (hb1.mono hb0.size))
  clear hZ hb1 hO1 hb0 hk h hw0 hln
  go_wp2_with fail
  refine (rleast A1 q c1 k w1 (rows_fs HK1.out) (by omega)).mono ?_
  rintro e w2 ⟨rfl, hb2⟩
  go_wp2_with fail
  refine (rmost A1 q c1 k w2 (rows_fs (HK1.out.below hb2)) (by omega)).mono ?_
  rintro e w3 ⟨rfl, hb3⟩
  go_wp2_with fail
  refine (rleast0 w3).mono ?_
  rintro e w4 ⟨rfl, hb4⟩
  go_wp2_with fail
  refine (rleast0 w4).mono ?_
  rintro e w5 ⟨rfl, hb5⟩
  have hb15 := hb2.trans ((hb3.trans ((hb4.trans (hb5.mono hb4.size)).mono hb3.size)).mono hb2.size)
  have HZ2 := Lib.hid (blk_below HZ1.out hb15 (blk_lt HZ1.out))
  have HB2 := Lib.hid (HB1.out.trans (hb15.mono HB1.out.size))
  have HK2 := Lib.hid (HK1.out.below hb15)
  clear hb2 hb3 hb4 hb5 hb15
  have hwq : IntKind.i64.wrap ((n : Int) - (q : Int)) = (n : Int) - (q : Int) := by rw [IntWalk.i64_in _ (by omega)]
  have hwq2 : wrap64 ((n : Int) - (q : Int)) = (n : Int) - (q : Int) := IntWalk.wrap64_in _ (by omega)
  have HZ3 := Lib.hid (blk_below HZ2.out (below_alloc1 w5 (.cells #[.int .i64 0, .int .i64 0, .float .f64 0, .float .f64 0, .float .f64 0, .float .f64 0] 29)) (blk_lt HZ2.out))
  have hlt2 := blk_lt HZ2.out
  by_cases h0 : q = 0
  · subst h0
    obtain rfl : k = [] := List.eq_nil_of_length_eq_zero hq
    have HE := Lib.hid (show digL l = ((n : Int), (n : Int), (rcanF (endL .lt [])), (rcanF (endL .lt [])), (rcanF (endL .lt [])), (rcanF (endL .lt []))) by rw [HD.out, if_pos rfl])
    have HNB := Lib.hid (show rcanF (endL .gt []) = (rcanF (endL .lt [])) from rfl)
    rw [HNB.out]
    go_wp2_with (first
      | (refine wpL_store rfl 29 (.tmp 4) (.tmp 25) rfl w5.heap.size rfl _ _ 29 rfl (heap_alloc_new w5 _) rfl rfl (by intro v hv; simp at hv; rcases hv with rfl | rfl | rfl | rfl | rfl | rfl <;> rfl) ?_
         intro w6 hw3 hg3
         have HC3 := Lib.hid hw3
         have HZ4 := Lib.hid (blk_grown HZ3.out hg3 (by intro e; injection e; omega))
         have HB3 := Lib.hid ((HB2.out.alloc HB2.out.size _).grown hg3 (by have := HB2.out.size; simp; omega) (fun k e => by injection e with e; have := HB2.out.size; omega))
         clear hw3 hg3)
      | (refine wpL_load rfl 29 _ rfl _ rfl _ _ (At.blk HC3.out) Try.underlying29 rfl rfl ?_)
      | (refine wpL_store rfl 29 (.tmp 2) (.tmp 29) rfl w.heap.size rfl _ _ 29 rfl HZ4.out rfl rfl (by intro v hv; simp at hv; rcases hv with rfl | rfl | rfl | rfl | rfl | rfl <;> rfl) ?_
         intro w7 hw4 hg4))
    refine bodyPost_ret (results_cell_row rfl _ _ w.heap.size 29 _ (0, 0) _ rfl hw4 Try.underlying29 rfl rfl) rfl ?_
    exact ⟨by rw [HE.out]; simp [digC], HB3.out.grown hg4 HB3.out.size (fun k e => by injection e with e; omega)⟩
  have q0 : ¬ (q : Int) = 0 := by omega
  have q0b : ((q : Int) == 0) = false := beq_false_of_ne q0
  have HE := Lib.hid (show digL l = ((n : Int), (n : Int) - (q : Int), rcanF (endL .lt k), rcanF (endL .gt k), vO (meanO k), vO (spreadO k)) by rw [HD.out, if_neg h0])
  go_wp2_with (first
      | (refine wpL_store rfl 29 (.tmp 4) (.tmp 25) rfl w5.heap.size rfl _ _ 29 rfl (heap_alloc_new w5 _) rfl rfl (by intro v hv; simp at hv; rcases hv with rfl | rfl | rfl | rfl | rfl | rfl <;> rfl) ?_
         intro w6 hw3 hg3
         have HC6 := Lib.hid hw3
         have HZ6 := Lib.hid (blk_grown HZ3.out hg3 (by intro e; injection e; omega))
         have HX6 := Lib.hid (show Below w5.heap.size w5 w6 from (below_alloc1 w5 _).grown hg3 (by simp) (fun k e => by injection e with e; omega))
         clear hw3 hg3))
  have HK6 := Lib.hid (HK2.out.below HX6.out)
  refine (rsum_any A1 q c1 k w6 (rows_fs HK6.out) (by omega)).mono ?_
  rintro e w7 ⟨rfl, hb7⟩
  obtain ⟨mb, w8, hr8, hI8, hb8⟩ := run_ar Try.prog .quo (.inr (.inr (.inr rfl))) 27 (sumV k) (nF k) w7
  have HM := Lib.hid (show Is (meanO k) mb from hI8)
  have hb68 := hb7.trans (hb8.mono hb7.size)
  have HC8 := Lib.hid (blk_below HC6.out hb68 (blk_lt HC6.out))
  have HZ8 := Lib.hid (blk_below HZ6.out hb68 (blk_lt HZ6.out))
  have HX8 := Lib.hid (HX6.out.trans (hb68.mono HX6.out.size))
  have HK := Lib.hid (HK2.out.below HX8.out)
  have hq1 : q ≤ 100000 := by omega
  have hkq := hq
  unfold nF at hr8
  rw [hq] at hr8
  clear hb7 hb8 hb68 hI8 hq
  go_wp2_with fail
  go_loopw [6, 38] (fun sv si wr => ∃ (i : Nat) (v : Value) (z : List Nat), i ≤ q ∧ v = sv ∧ si = .int .i64 i ∧ Own wr w8.heap.size 27 .f64 v z ∧ AllIs ((k.take i).map (sqO (meanO k))) z ∧ Below w8.heap.size w8 wr) (fun _ si _ => q - (intOf si).toNat)
  case atStart => exact ⟨0, _, [], by omega, rfl, rfl, Own.nil _ _ _ _, trivial, Below.refl _ _⟩
  case round =>
    obtain ⟨i, v, z, hi, rfl, rfl, hO, hai, hbel⟩ := hrel
    have HB := Lib.hid hbel
    have HO := Lib.hid hO
    have HAI := Lib.hid hai
    obtain ⟨Av, cv, rfl, _⟩ := Own.form hO
    have hzl : z.length = i := by rw [← allIs_len hai, List.length_map, List.length_take]; omega
    rw [hzl] at HO ⊢
    clear hO hai
    by_cases hlt : i < q
    · obtain ⟨ad, x, rfl, hx⟩ := HK.out.some_at hlt
      obtain ⟨hc, _⟩ := row_at HK.out hx
      have hcx := cell_below hbel hc
      have i0 : (0 : Int) ≤ (i : Int) := by omega
      have i1 : (i : Int) < (q : Int) := by omega
      obtain ⟨o1, u1, hr1, hI1, hbu1⟩ := run_ar Try.prog .sub (.inr (.inl rfl)) 27 x mb wr
      obtain ⟨o2, u2, hr2, hI2, hbu2⟩ := run_ar Try.prog .mul (.inr (.inr (.inl rfl))) 27 o1 o1 u1
      have hS := is_sq (is_off HM.out hI1) hI2
      have HN := Lib.hid (show AllIs ((k.take (i + 1)).map (sqO (meanO k))) (z ++ [o2]) by rw [take_at hx, List.map_append]; exact allIs_snoc HAI.out hS)
      have HBu := Lib.hid (HB.out.trans ((hbu1.trans (hbu2.mono hbu1.size)).mono HB.out.size))
      have HOu := Lib.hid (HO.out.below (hbu1.trans (hbu2.mono hbu1.size)))
      have HX := Lib.hid hI2.1
      have hn1 : (z ++ [o2]).length = i + 1 := by rw [List.length_append, hzl]; rfl
      have hsu := HBu.out.size
      clear hc hx hbel hI1 hI2 hbu1 hbu2 hS
      go_wp2_with (at_builtin; go_loud (refine wp_appO (m := 1) (r := [o2]) (ys := [.float .f64 o2]) rfl (.tmp 45) (.tmp 49) rfl (HOu.out.below (below_alloc1 u2 _)) rfl (fun e => by cases e) (fun ad' e => by cases e; exact At.blk (heap_alloc_new u2 _)) (RdL.single (rd_f64v HX.out)) (HBu.out.alloc hsu _) Try.underlying22 info_f64 rfl (by decide) rfl rfl (by rw [hzl]; omega) (by rw [hzl]; omega) (by simp; omega) ?_; intro v6 w6 hO6 hb6 _ _; obtain ⟨A6, c6, rfl, _⟩ := Own.form hO6; rw [hn1] at hO6 ⊢; have HO6 := Lib.hid hO6; clear hO6))
      go_roundw
      case measure => simp [intOf]; omega
      case rel => exact ⟨i + 1, _, z ++ [o2], by omega, rfl, by go_num, HO6.out, HN.out, hb6⟩
    · obtain rfl : i = q := by omega
      have HSU := Lib.hid (show sumV z = vO (sumO (k.map (sqO (meanO k)))) by
        have := HAI.out
        rw [List.take_of_length_le (by omega)] at this
        exact allIs_sum this)
      have HFZ := Lib.hid (rows_fs (own_rows HO.out hzl.symm))
      clear hbel
      have hx := HB.out
      have HCr := Lib.hid (blk_below HC8.out hx (blk_lt HC8.out))
      have HZr := Lib.hid (blk_below HZ8.out hx (blk_lt HZ8.out))
      have HXr := Lib.hid (HX8.out.trans (hx.mono HX8.out.size))
      have HCAN := Lib.hid (is_rcan HM.out)
      have hcr := HCr.out
      obtain ⟨-, -, -, -, y4, -⟩ := blk6 hcr
      have g4 := blk_free hcr 4
      have hzq := hzl
      clear hx hcr
      go_wp2_with (go_at_call 27; refine (rcanon_any _ _).mono ?_; rintro e w' ⟨rfl, rfl⟩)
      have HCs := Lib.hid (blk_set HCr.out 4 (.float .f64 (rcanF mb)))
      have HZs := Lib.hid (blk_other HZr.out 4 (.float .f64 (rcanF mb)) (k := w5.heap.size) (by omega))
      have HXs := Lib.hid (HXr.out.setCell (p := ⟨w5.heap.size, 4, none⟩) (Nat.le_refl _) (.float .f64 (rcanF mb)))
      have HFs := Lib.hid (show Fs (wr.setCell ⟨w5.heap.size, 4, none⟩ (.float .f64 (rcanF mb))) Av i z from rows_fs (own_rows (HO.out.setc (show w5.heap.size < w8.heap.size by have := blk_lt HC8.out; omega) 4 (.float .f64 (rcanF mb))) hzl.symm))
      obtain ⟨ws, hws⟩ : ∃ ws, wr.setCell ⟨w5.heap.size, 4, none⟩ (.float .f64 (rcanF mb)) = ws := ⟨_, rfl⟩
      rw [hws] at HCs HZs HXs HFs ⊢
      refine (rsum_any Av i cv z ws HFs.out (by omega)).mono ?_
      rintro e wa ⟨rfl, hba⟩
      rw [HSU.out]
      obtain ⟨sb, wb, hrb, hIb, hbb⟩ := run_ar Try.prog .quo (.inr (.inr (.inr rfl))) 27 (vO (sumO (k.map (sqO (meanO k))))) (nF k) wa
      have HCSp := Lib.hid (show rcanF sb = vO (spreadO k) from is_rcan hIb)
      have hrab := hba.trans (hbb.mono hba.size)
      have HCb := Lib.hid (blk_below HCs.out hrab (blk_lt HCs.out))
      have HZb := Lib.hid (blk_below HZs.out hrab (blk_lt HZs.out))
      have HXb := Lib.hid (HXs.out.trans (hrab.mono HXs.out.size))
      have hcb := HCb.out
      clear y4 g4
      obtain ⟨-, -, -, -, -, y5⟩ := blk6 hcb
      have g5 := blk_free hcb 5
      have HCe := Lib.hid (blk_set hcb 5 (.float .f64 (rcanF sb)))
      have HZe := Lib.hid (blk_other HZb.out 5 (.float .f64 (rcanF sb)) (k := w5.heap.size) (by omega))
      have HXe := Lib.hid (HXb.out.setCell (p := ⟨w5.heap.size, 5, none⟩) (Nat.le_refl _) (.float .f64 (rcanF sb)))
      have HBe := Lib.hid (HB2.out.trans (HXe.out.mono HB2.out.size))
      unfold nF at hrb
      rw [hkq] at hrb
      clear hcb hba hbb hrab hIb hws
      go_wp2_with (first
        | (go_at_call 27; refine (rcanon_any _ _).mono ?_; rintro e w' ⟨rfl, rfl⟩)
        | (refine wpL_load rfl 29 _ rfl _ rfl _ _ (At.blk HCe.out) Try.underlying29 rfl rfl ?_)
        | (refine wpL_store rfl 29 (.tmp 2) (.tmp 63) rfl w.heap.size rfl _ _ 29 rfl HZe.out rfl rfl (by intro v hv; simp at hv; rcases hv with rfl | rfl | rfl | rfl | rfl | rfl <;> rfl) ?_
           intro w4 hw4 hg4))
      refine bodyPost_ret (results_cell_row rfl _ _ w.heap.size 29 _ (0, 0) _ rfl hw4 Try.underlying29 rfl rfl) rfl ?_
      exact ⟨by rw [HE.out, ← HCAN.out, ← HCSp.out]; simp [digC], HBe.out.grown hg4 HBe.out.size (fun k e => by injection e with e; omega)⟩
end Go.Proofs.Ythkfjcfncobllaa
