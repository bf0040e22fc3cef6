import Derived.Test.YthkfjcfncobllaaStaN
namespace Go.Proofs.Ythkfjcfncobllaa
open Go.RowKit FP
set_option linter.unusedVariables false
set_option linter.unusedSimpArgs false
set_option maxRecDepth 20000 in
theorem heap_at (w : World) (o : Obj) (n : Nat) (h : w.heap.size = n) : (w.alloc o).heap[n]? = some o := by rw [← h]; exact heap_alloc_new w o
set_option maxHeartbeats 4000000 in
set_option maxRecDepth 20000 in
theorem w_StatsAll (a : Option Addr) (n c : Nat) (l : List Nat) (b : Option Addr) (m d : Nat) (s : List Nat) (x : Nat) (hx : x < 18446744073709551616) (w : World) (ha : Rd w anyB (.sl .f64) l [.slice a n c]) (hb : Rd w anyB (.sl .f64) s [.slice b m d]) :
    Calls Try.prog 5 #[.slice a n c, .slice b m d, .float .f64 x] w fun e w' => e = .returned (.bool true) ∧ Below w.heap.size w w' := by
  have HA := Lib.hid ha
  have HS := Lib.hid hb
  have hln : l.length = n := (rd_rows ha).1
  have hsn : s.length = m := (rd_rows hb).1
  have hn : n ≤ 9223372036854775807 := by have := rd_rowsN ha; omega
  have hm : m ≤ 9223372036854775807 := by have := rd_rowsN hb; omega
  have hlt := (rows_fs (rd_rows ha)).2
  have hslt := (rows_fs (rd_rows hb)).2
  clear ha hb
  go_enter Try.func5, Try.ntmps5
  go_wp2_with fail
  refine (sta_awake w).mono ?_
  rintro e w1 ⟨rfl, hb⟩
  have HB1 := Lib.hid hb
  clear hb
  by_cases h100 : (100 : Int) < (n : Nat)
  · go_wp2_with fail
    go_ret
    exact ⟨rfl, HB1.out⟩
  by_cases h20 : (20 : Int) < (m : Nat)
  · go_wp2_with fail
    go_ret
    exact ⟨rfl, HB1.out⟩
  have n100 : n ≤ 100 := by omega
  have m20 : m ≤ 20 := by omega
  go_wp2_with fail
  refine (bins_any w1 a b n m c d l s (HA.out.below HB1.out) (HS.out.below HB1.out) (by omega) (by omega)).mono ?_
  rintro e w4 ⟨v4, rfl, hO4, hb4⟩
  have hK : ∀ y ∈ knownL l, OkF y := fun y hy => ⟨known_lt hlt y hy, known_nan y hy⟩
  have hkl : (knownL l).length ≤ n := by rw [← hln]; exact List.length_filter_le _ _
  have hEl : (ded (sortK (knownL s))).length ≤ m := by
    have h1 := ded_len_le (sortK (knownL s))
    rw [sortK_len] at h1
    have h2 : (knownL s).length ≤ s.length := List.length_filter_le _ _
    omega
  obtain ⟨E, hE⟩ : ∃ E, ded (sortK (knownL s)) = E := ⟨_, rfl⟩
  rw [hE] at hO4 hEl
  clear hE
  obtain ⟨A4, c4, rfl, _, _, _, hR4⟩ := Own.form hO4
  rw [binsE_len] at hR4 ⊢
  obtain ⟨q, hq⟩ : ∃ q, E.length = q := ⟨_, rfl⟩
  rw [hq] at hR4 hEl ⊢
  have HB4 := Lib.hid (HB1.out.trans (hb4.mono HB1.out.size))
  have HR4 := Lib.hid hR4.any
  clear hb4 hR4 hO4
  have HF0 := Lib.hid (first_zero E (knownL l))
  go_wp2_with fail
  go_loopw [7, 30] (fun s7 s30 wr => ∃ i : Nat, i ≤ q + 1 ∧ s7 = .int .i64 (firstE E (knownL l) i) ∧ s30 = .int .i64 i ∧ Below w4.heap.size w4 wr) (fun _ s30 _ => q + 1 - (intOf s30).toNat)
  case atStart => exact ⟨0, by omega, by rw [HF0.out]; rfl, rfl, Below.refl _ _⟩
  case round =>
    obtain ⟨i, hi, rfl, rfl, hbel⟩ := hrel
    have HB := Lib.hid hbel
    by_cases hiq : i < q + 1
    · obtain ⟨ad, y, cs, rfl, hy, hat, hrd⟩ := (HR4.out.below hbel).get i hiq
      rw [binsE_at (by omega)] at hy
      injection hy with hy
      subst hy
      obtain rfl := rd_bin_at hrd
      have HAt := Lib.hid hat
      have i0 : (0 : Int) ≤ (i : Int) := by omega
      have i1 : (i : Int) < ((q + 1 : Nat) : Int) := by omega
      have hst := first_step E (knownL l) i
      have hfl : firstE E (knownL l) (i + 1) ≤ 100 := by
        have : firstE E (knownL l) (i + 1) ≤ (knownL l).length := List.countP_le_length
        omega
      have jw : IntKind.i64.wrap ((firstE E (knownL l) i : Int) + (cntE E (knownL l) i : Int)) = (firstE E (knownL l) (i + 1) : Int) := by rw [IntWalk.i64_in _ (by omega)]; omega
      clear hbel hat hrd hst hfl
      go_wp2_with (first
        | (refine wpL_load rfl 41 _ rfl _ rfl _ _ HAt.out Try.underlying41 rfl rfl ?_)
        | (refine wpL_store rfl 41 _ _ rfl wr.heap.size rfl _ _ 41 rfl (heap_alloc_new wr _) rfl rfl (by intro v hv; simp at hv; rcases hv with rfl | rfl | rfl <;> rfl) ?_; intro w6 hx6 hg6; have HB6 := Lib.hid (HB.out.trans (((below_alloc1 wr _).grown hg6 (by simp) (fun k e => by cases e; exact Nat.le_refl _) : Below wr.heap.size wr w6).mono HB.out.size)); have y2 := blk_at hx6 2 _ rfl; clear hx6 hg6))
      go_roundw
      case measure => simp [intOf]; omega
      case rel => exact ⟨i + 1, by omega, rfl, by go_num, HB6.out⟩
    · obtain rfl : i = q + 1 := by omega
      have hfa := first_all E (knownL l)
      rw [hq] at hfa
      rw [hfa]
      clear hfa
      have HBw := Lib.hid (HB4.out.trans (HB.out.mono HB4.out.size))
      clear hbel HR4
      have hends := fun h : knownL l ≠ [] => sort_ends hK h
      have hdf := dig_form l
      have hr0 : rankL l 0 1 = if (knownL l).length = 0 then (0, false) else ((sortK (knownL l)).getD 0 0, true) := by
        unfold rankL
        by_cases h : (knownL l).length = 0
        · rw [if_pos (by simp [h]), if_pos h]
        · rw [if_neg (by omega), if_neg h]; simp
      have hr1 : rankL l 1 1 = if (knownL l).length = 0 then (0, false) else ((sortK (knownL l)).getD ((knownL l).length - 1) 0, true) := by
        unfold rankL
        by_cases h : (knownL l).length = 0
        · rw [if_pos (by simp [h]), if_pos h]
        · rw [if_neg (by omega), if_neg h]
          rw [show ((((knownL l).length : Int) - 1) * 1 / 1).toNat = (knownL l).length - 1 by rw [Int.mul_one, Int.ediv_one]; omega]
      rw [hln] at hdf
      obtain ⟨K, hKe⟩ : ∃ K, knownL l = K := ⟨_, rfl⟩
      rw [hKe] at hends hdf hr0 hr1 hkl ⊢
      obtain ⟨r, hr⟩ : ∃ r, K.length = r := ⟨_, rfl⟩
      rw [hr] at hends hdf hr0 hr1 hkl ⊢
      obtain ⟨f3, f4, hdg⟩ := hdf
      obtain ⟨e1, he1⟩ : ∃ e1, (if r = 0 then (rcanF (endL .lt [])) else rcanF (endL .lt K)) = e1 := ⟨_, rfl⟩
      obtain ⟨e2, he2⟩ : ∃ e2, (if r = 0 then (rcanF (endL .lt [])) else rcanF (endL .gt K)) = e2 := ⟨_, rfl⟩
      rw [he1, he2] at hdg
      have HE1 := Lib.hid he1
      have HE2 := Lib.hid he2
      clear he1 he2
      have HD := Lib.hid hdg
      have HR0 := Lib.hid hr0
      have HR1 := Lib.hid hr1
      have HEN := Lib.hid (show ¬ r = 0 → _ from fun h => hends (by intro e; rw [e] at hr; exact h hr.symm))
      clear hdg hr0 hr1 hends hK hKe
      go_wp2_with fail
      refine (of_any wr a n c l (HA.out.below HBw.out) hln (by omega)).mono ?_
      rintro e w5 ⟨rfl, hb5⟩
      rw [HD.out]
      have HB5 := Lib.hid (HBw.out.trans (hb5.mono HBw.out.size))
      clear hb5
      have HX := Lib.hid (show Rd (w5.alloc (.cells ([Value.float .f64 x]).toArray 27)) anyB (.sl .f64) [x] [.slice (some ⟨w5.heap.size, 0, none⟩) 1 1] from OwnG.rd (OwnG.lit1 (s := .f64) (ok := anyB) (x := x) (cs := [.float .f64 x]) ⟨rfl, hx⟩ (Nat.le_refl w5.heap.size)))
      have HB6 := Lib.hid (HB5.out.alloc HB5.out.size (.cells ([Value.float .f64 x]).toArray 27))
      go_wp2_with fail
      obtain ⟨c0, c1, g1, g2, g3, g4, hd1, hk3⟩ := dig_one hx
      refine (of_any _ _ 1 1 [x] HX.out rfl (by omega)).mono ?_
      rintro e w8 ⟨rfl, hb8⟩
      rw [hd1]
      have HB8 := Lib.hid (HB6.out.trans (hb8.mono HB6.out.size))
      have HK3 := Lib.hid hk3
      clear hb8 hd1 hk3 HX
      have hz1 := blk_alloc (heap_alloc_new w8 (.cells #[.int .i64 0, .int .i64 0, .float .f64 0, .float .f64 0, .float .f64 0, .float .f64 0] 29)) (.cells #[.int .i64 0, .int .i64 0, .float .f64 0, .float .f64 0, .float .f64 0, .float .f64 0] 29)
      have hz2 := heap_at (w8.alloc (.cells #[.int .i64 0, .int .i64 0, .float .f64 0, .float .f64 0, .float .f64 0, .float .f64 0] 29)) (.cells #[.int .i64 0, .int .i64 0, .float .f64 0, .float .f64 0, .float .f64 0, .float .f64 0] 29) (w8.heap.size + 1) (by simp)
      have hbz : Below w8.heap.size w8 ((w8.alloc (.cells #[.int .i64 0, .int .i64 0, .float .f64 0, .float .f64 0, .float .f64 0, .float .f64 0] 29)).alloc (.cells #[.int .i64 0, .int .i64 0, .float .f64 0, .float .f64 0, .float .f64 0, .float .f64 0] 29)) := (below_alloc1 w8 _).alloc (by simp) _
      obtain ⟨wz, hwz⟩ : ∃ wz, (w8.alloc (.cells #[.int .i64 0, .int .i64 0, .float .f64 0, .float .f64 0, .float .f64 0, .float .f64 0] 29)).alloc (.cells #[.int .i64 0, .int .i64 0, .float .f64 0, .float .f64 0, .float .f64 0, .float .f64 0] 29) = wz := ⟨_, rfl⟩
      rw [hwz] at hz1 hz2 hbz
      have jn : IntKind.i64.wrap ((n : Int) - ((n : Int) - (r : Int))) = (r : Int) := by rw [IntWalk.i64_in _ (by omega)]; omega
      go_wp2_with (first
        | ((refine wpL_store rfl 29 (.tmp 10) _ rfl w8.heap.size rfl _ _ 29 rfl hz1 rfl rfl (by intro v hv; simp at hv; rcases hv with rfl | rfl | rfl | rfl | rfl | rfl <;> rfl) ?_; intro w9 hd9 hg9; have HZ2 := Lib.hid (blk_grown hz2 hg9 (by intro e; injection e; omega)); have HD9 := Lib.hid hd9; have HB9 := Lib.hid (hbz.grown hg9 hbz.size (fun k e => by cases e; exact Nat.le_refl _)); clear hd9 hg9))
        | ((refine wpL_store rfl 29 (.tmp 11) _ rfl (w8.heap.size + 1) rfl _ _ 29 rfl HZ2.out rfl rfl (by intro v hv; simp at hv; rcases hv with rfl | rfl | rfl | rfl | rfl | rfl <;> rfl) ?_; intro w10 hd10 hg10; have HD9' := Lib.hid (blk_grown HD9.out hg10 (by intro e; injection e; omega)); have HD10 := Lib.hid hd10; have HB10 := Lib.hid (HB9.out.grown hg10 HB9.out.size (fun k e => by cases e; omega)); have y0 := blk_at HD9'.out 0 _ rfl; have y1 := blk_at HD9'.out 1 _ rfl; clear hd10 hg10)))
      have HBX := Lib.hid (HB8.out.trans (HB10.out.mono HB8.out.size))
      clear y0 y1
      refine (rank_any w10 _ l 0 1 (HA.out.below HBX.out) (by omega) (by omega) (by omega) (by omega) (by omega)).mono ?_
      rintro e w11 ⟨rfl, hb11⟩
      rw [HR0.out]
      have HB11 := Lib.hid (HBX.out.trans (hb11.mono HBX.out.size))
      have HD11 := Lib.hid (blk_below HD9'.out hb11 (blk_lt HD9'.out))
      have HE11 := Lib.hid (blk_below HD10.out hb11 (blk_lt HD10.out))
      clear hb11
      have hqm : ∀ w12 : World, Below w11.heap.size w11 w12 → w12.cell? ⟨w8.heap.size, 2, none⟩ = some (.float .f64 e1) ∧ w12.cell? ⟨w8.heap.size, 3, none⟩ = some (.float .f64 e2) ∧ w12.cell? ⟨w8.heap.size + 1, 4, none⟩ = some (.float .f64 g3) := fun w12 hb => ⟨blk_at (blk_below HD11.out hb (blk_lt HD11.out)) 2 _ rfl, blk_at (blk_below HD11.out hb (blk_lt HD11.out)) 3 _ rfl, blk_at (blk_below HE11.out hb (blk_lt HE11.out)) 4 _ rfl⟩
      have HQ := Lib.hid hqm
      clear hqm
      have k3 : (rkeyF g3 == rkeyF x) = true := beq_iff_eq.2 HK3.out
      by_cases hr0 : r = 0
      · rw [if_pos hr0]
        subst hr0
        go_wp2_with fail
        refine (rank_any w11 _ l 1 1 (HA.out.below HB11.out) (by omega) (by omega) (by omega) (by omega) (by omega)).mono ?_
        rintro e w12 ⟨rfl, hb12⟩
        rw [HR1.out, if_pos True.intro]
        obtain ⟨y2, y3, y4⟩ := HQ.out w12 hb12
        have HB12 := Lib.hid (HB11.out.trans (hb12.mono HB11.out.size))
        clear hb12
        go_wp2_with (go_at_call 16; refine (rsame_any _ _ _).mono ?_; rintro e w' ⟨rfl, rfl⟩; rw [k3])
        go_ret
        exact ⟨rfl, HB12.out⟩
      · rw [if_neg hr0]
        have hen := HEN.out hr0
        have h1 := HE1.out
        have h2 := HE2.out
        rw [if_neg hr0] at h1 h2
        rw [h1, h2] at hen
        obtain ⟨s1, hs1⟩ : ∃ s1, (sortK K).getD 0 0 = s1 := ⟨_, rfl⟩
        obtain ⟨s2, hs2⟩ : ∃ s2, (sortK K).getD (r - 1) 0 = s2 := ⟨_, rfl⟩
        rw [hs1, hs2] at hen
        rw [hs1]
        have k1 : (rkeyF s1 == rkeyF e1) = true := beq_iff_eq.2 hen.1
        have k2 : (rkeyF s2 == rkeyF e2) = true := beq_iff_eq.2 hen.2
        have hrp : (0 : Int) < (r : Int) := by omega
        clear hen h1 h2 hs1
        have HS2 := Lib.hid hs2
        clear hs2
        go_wp2_with fail
        refine (rank_any w11 _ l 1 1 (HA.out.below HB11.out) (by omega) (by omega) (by omega) (by omega) (by omega)).mono ?_
        rintro e w12 ⟨rfl, hb12⟩
        rw [HR1.out, if_neg hr0, HS2.out]
        obtain ⟨y2, y3, y4⟩ := HQ.out w12 hb12
        have HB12 := Lib.hid (HB11.out.trans (hb12.mono HB11.out.size))
        clear hb12
        go_wp2_with (go_at_call 16; refine (rsame_any _ _ _).mono ?_; rintro e w' ⟨rfl, rfl⟩; first | rw [k1] | rw [k2] | rw [k3])
        go_ret
        exact ⟨rfl, HB12.out⟩
end Go.Proofs.Ythkfjcfncobllaa
