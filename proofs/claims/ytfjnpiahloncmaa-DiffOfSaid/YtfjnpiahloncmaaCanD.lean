import Derived.Test.YtfjnpiahloncmaaCanC
import Derived.Test.YtfjnpiahloncmaaHul
namespace Go.Proofs.Ytfjnpiahloncmaa
open Go.RowKit Go.Maps FP
set_option linter.unusedVariables false
set_option linter.unusedSimpArgs false
set_option maxHeartbeats 8000000 in
set_option maxRecDepth 20000 in
theorem tcanon_any (w : World) (A B : Option Addr) (n ca m cb : Nat) (ls : List LIST.Ty) (ts : List TASK.Ty) (ha : Rows w anyB LIST A n ls) (hb : Rows w anyB TASK B m ts) (hn : n ≤ 1000) (hm : m ≤ 1000) (hsm : ∀ t ∈ ts, t.2.2.2.2.2.2.1.length ≤ 100000) :
    Calls Try.prog 11 #[.agg #[Value.slice A n ca, Value.slice B m cb]] w fun e w' => ∃ vL vT eL eT, e = .returned (.agg #[vL, vT]) ∧ Own w' w.heap.size 37 LIST vL eL ∧ Own w' w.heap.size 41 TASK vT eT ∧
      Firsts (fun x : LIST.Ty => x.1) ls eL ∧ Rises (fun x : LIST.Ty => x.1) eL ∧ eL.length ≤ n ∧ Firsts (fun x : TASK.Ty => x.1) (ts.map ownT) eT ∧ Rises (fun x : TASK.Ty => x.1) eT ∧ eT.length ≤ m ∧ Below w.heap.size w w' := by
  have hal := ha.1
  have hbl := hb.1
  obtain ⟨W, hW⟩ : ∃ W, ((w.alloc (.cells #[Value.slice A n ca, Value.slice B m cb] 25)).alloc (.cells #[Value.slice none 0 0, Value.slice none 0 0] 25)).alloc (.cells #[Value.slice none 0 0, Value.slice none 0 0] 25) = W := ⟨_, rfl⟩
  have hs0 : W.heap.size = w.heap.size + 3 := by rw [← hW]; simp
  have h0 : W.heap[w.heap.size]? = some (.cells #[Value.slice A n ca, Value.slice B m cb] 25 (0, 0)) := by rw [← hW]; exact blk_alloc (blk_alloc (heap_alloc_new w _) _) _
  have h1 : W.heap[w.heap.size + 1]? = some (.cells #[Value.slice none 0 0, Value.slice none 0 0] 25 (0, 0)) := by rw [← hW]; exact blk_alloc (heap_alloc2_new w _ _) _
  have h2 : W.heap[w.heap.size + 2]? = some (.cells #[Value.slice none 0 0, Value.slice none 0 0] 25 (0, 0)) := by
    rw [← hW]
    have := heap_alloc_new ((w.alloc (.cells #[Value.slice A n ca, Value.slice B m cb] 25)).alloc (.cells #[Value.slice none 0 0, Value.slice none 0 0] 25)) (.cells #[Value.slice none 0 0, Value.slice none 0 0] 25)
    simpa using this
  have hb0 : Below w.heap.size w W := by rw [← hW]; exact (((Below.refl _ _).alloc (Nat.le_refl _) _).alloc (by simp) _).alloc (by simp; omega) _
  have HA := Lib.hid ha
  have HBt := Lib.hid hb
  have HS := Lib.hid hs0
  have H0 := Lib.hid h0
  have H1 := Lib.hid h1
  have H2 := Lib.hid h2
  have HW := Lib.hid hb0
  have HN := Lib.hid hW
  clear ha hb hs0 h0 h1 h2 hb0 hW
  go_enter Try.func11, Try.ntmps11
  have hW := HN.out
  have x0 := blk_at H0.out 0 _ rfl
  go_wp2_with fail
  go_step3
  go_wp2_with fail
  go_step3
  go_wp2_with fail
  clear hW x0
  go_loopw [14] (fun s14 wr => ∃ (i : Nat) (vL : Value) (e : List LIST.Ty), i ≤ n ∧ s14 = .int .i64 i ∧ wr.heap[w.heap.size + 2]? = some (.cells #[vL, .slice none 0 0] 25 (0, 0)) ∧ Own wr W.heap.size 37 LIST vL e ∧ Firsts (fun x : LIST.Ty => x.1) (ls.take i) e ∧ e.Pairwise (fun x y => x.1 ≠ y.1) ∧ e.length ≤ i ∧ W.grownBy wr (some (w.heap.size + 2))) (fun s14 _ => n - (intOf s14).toNat)
  case atStart => exact ⟨0, _, [], by omega, rfl, H2.out, Own.nil _ _ _ _, firsts_nil, List.Pairwise.nil, by simp, grown_none _ _⟩
  case round =>
    obtain ⟨i, vL, e, hi, rfl, hx2, hO, hF, hP, hel, hG⟩ := hrel
    have hbw : Below w.heap.size w wr := HW.out.trans ((Below.refl _ _).grown hG (by have := HS.out; omega) (fun k e => by injection e; omega))
    have S0 := HS.out
    have HG := Lib.hid hG
    have HX := Lib.hid hx2
    have HO := Lib.hid hO
    have HF := Lib.hid hF
    have HP := Lib.hid hP
    have HB := Lib.hid hbw
    have hgs := hG.size
    by_cases hlt : i < n
    · obtain ⟨ad, x, cs, rfl, hx, hat, hrd⟩ := (HA.out.below hbw).get i hlt
      obtain ⟨k1, t1, rfl, rfl, ok1⟩ := rd_lst hrd
      have HAt := Lib.hid hat
      have HFx := Lib.hid hx
      have i0 : (0 : Int) ≤ (i : Int) := by omega
      have i1 : (i : Int) < (n : Int) := by omega
      obtain ⟨AL, cL, rfl, _, hcL, _, hRL⟩ := Own.form hO
      obtain ⟨q, hq⟩ : ∃ q, e.length = q := ⟨_, rfl⟩
      rw [hq] at hel hRL HX HO
      have HR := Lib.hid hRL.any
      clear hG hx2 hO hF hP hbw hx hat hrd hRL
      go_loud (go_wp2_with (first
        | (refine wpL_load rfl 37 _ rfl _ rfl _ _ HAt.out Try.underlying37 rfl rfl ?_)
        | (refine wpL_store rfl 37 (.tmp 5) _ rfl wr.heap.size rfl _ _ 37 rfl (heap_alloc_new wr _) rfl rfl (by intro v hv; simp at hv; rcases hv with rfl | rfl <;> rfl) ?_; intro w3 hx3 hg3; have HB3 := Lib.hid ((below_alloc1 wr _).grown hg3 (by simp) (fun k e => by cases e; exact Nat.le_refl _) : Below wr.heap.size wr w3); have HX3 := Lib.hid hx3; have HY3 := Lib.hid (blk_below HX.out HB3.out (blk_lt HX.out)); have z0 := blk_at HX3.out 0 _ rfl; clear hx3 hg3)
        | (refine wpL_load rfl 25 _ rfl _ rfl _ _ (At.blk HY3.out) Try.underlying25 rfl rfl ?_)))
      refine (lists_any w3 AL none q cL 0 0 e k1 (HR.out.below HB3.out) (by omega)).mono ?_
      rintro e' w4 ⟨cs, rfl, hrd4, hb4⟩
      obtain ⟨k4, t4, _, rfl, _⟩ := rd_lst hrd4
      have HB4 := Lib.hid (HB3.out.trans (hb4.mono HB3.out.size))
      have HX4 := Lib.hid (blk_below HX3.out hb4 (blk_lt HX3.out))
      have HY4 := Lib.hid (blk_below HY3.out hb4 (blk_lt HY3.out))
      have HT := Lib.hid (findL_has (e := e) (k := k1))
      obtain ⟨th, hth⟩ : ∃ th, (findL e k1).2 = th := ⟨_, rfl⟩
      rw [hth] at HT ⊢
      clear hrd4 hb4 z0 hth
      cases th with
      | true =>
        go_wp2_with (refine wpL_store rfl 37 (.tmp 6) _ rfl w4.heap.size rfl _ _ 37 rfl (heap_alloc_new w4 _) rfl rfl (by intro v hv; simp at hv; rcases hv with rfl | rfl <;> rfl) ?_; intro w5 hx5 hg5; have HB5 := Lib.hid (HB4.out.trans (((below_alloc1 w4 _).grown hg5 (by simp) (fun k e => by cases e; exact Nat.le_refl _) : Below w4.heap.size w4 w5).mono HB4.out.size)); clear hx5 hg5)
        go_roundw
        case measure => simp [intOf]; omega
        case rel => exact ⟨i + 1, _, e, by omega, by go_num, blk_below HX.out HB5.out (blk_lt HX.out), HO.out.below HB5.out, by rw [take_at HFx.out]; exact HF.out.old (HT.out.1 trivial), HP.out, by omega, gb_below HG.out HB5.out⟩
      | false =>
        have HNo := Lib.hid (show ¬ ∃ y ∈ e, y.1 = k1 from fun h => by have := HT.out.2 h; cases this)
        have HV := Lib.hid (fun (W : World) (ok : Nat → Prop) => (rd_lst_mk ok1 : Rd W ok LIST (k1, t1, ()) [.int .u64 k1, .string t1]))
        clear HT ok1
        go_wp2_with (first
          | (refine wpL_store rfl 37 (.tmp 6) _ rfl w4.heap.size rfl _ _ 37 rfl (heap_alloc_new w4 _) rfl rfl (by intro v hv; simp at hv; rcases hv with rfl | rfl <;> rfl) ?_; intro w5 hx5 hg5; have HB5 := Lib.hid (HB4.out.trans (((below_alloc1 w4 _).grown hg5 (by simp) (fun k e => by cases e; exact Nat.le_refl _) : Below w4.heap.size w4 w5).mono HB4.out.size)); have hb5 : Below w4.heap.size w4 w5 := ((below_alloc1 w4 _).grown hg5 (by simp) (fun k e => by cases e; exact Nat.le_refl _)); have HX5 := Lib.hid (blk_below HX4.out hb5 (blk_lt HX4.out)); have HY5 := Lib.hid (blk_below HY4.out hb5 (blk_lt HY4.out)); have y0 := blk_at HY5.out 0 _ rfl; have HA5 := Lib.hid (show Below wr.heap.size wr (w5.alloc (.cells ([Value.int .u64 k1, Value.string t1]).toArray 37)) from HB5.out.alloc HB5.out.size _); have HY6 := Lib.hid (blk_alloc HY5.out (.cells ([Value.int .u64 k1, Value.string t1]).toArray 37)); clear hx5 hg5 hb5)
          | (refine wpL_load rfl 37 _ rfl _ rfl _ _ (At.blk HX5.out) Try.underlying37 rfl rfl ?_)
          | (refine wpL_lit1 rfl (cs := [.int .u64 k1, .string t1]) (.tmp 28) rfl rfl Try.underlying22 info_lst2 rfl (by decide) (by decide) rfl ?_)
          | (at_builtin; go_loud (refine wp_appO (w0 := w5.alloc (.cells ([Value.int .u64 k1, Value.string t1]).toArray 37)) (m := 1) (S := LIST) (r := [((k1 : Int), t1, ())]) (ys := [.int .u64 k1, .string t1]) rfl (.tmp 27) (.tmp 29) rfl (HO.out.below HA5.out) rfl (fun e => by cases e) (fun ad' e => by cases e; exact At.blk (heap_alloc_new w5 _)) (RdL.single (HV.out _ _)) (Below.refl _ _) Try.underlying22 info_lst2 rfl (by decide) rfl rfl (by rw [hq, bytes_lst2]; omega) (by rw [hq]; omega) (Nat.le_trans hgs HA5.out.size) ?_; intro v6 w6 hO6 _ hg6 _; have HG6 := Lib.hid (gb_grown (gb_below HG.out HA5.out) hg6 (fun g e => own_baseb HO.out g e)); have HY7 := Lib.hid (blk_app HY6.out hg6 (fun g e => own_baseb HO.out g e) (by omega)); obtain ⟨A6, c6, rfl, _⟩ := Own.form hO6; have hl6 : (e ++ [((k1 : Int), t1, ())]).length = q + 1 := (by rw [List.length_append, hq]; rfl); rw [hl6] at hO6 ⊢; have HO6 := Lib.hid hO6; have y6 := blk_at HY7.out 0 _ rfl; have f6 := blk_free HY7.out 0; clear hl6 hO6 hg6)))
        go_roundw
        case measure => simp [intOf]; omega
        case rel =>
          exact ⟨i + 1, _, e ++ [(k1, t1, ())], by omega, by go_num, blk_set HY7.out 0 _, own_grown HO6.out (grown_one (grown_none w6 _)) (by omega), by rw [take_at HFx.out]; exact HF.out.new HNo.out (fun z => by simp), List.pairwise_append.2 ⟨HP.out, List.pairwise_singleton _ _, fun y hy z hz => by rw [List.mem_singleton.1 hz]; exact fun e => HNo.out ⟨y, hy, e⟩⟩, by rw [List.length_append, hq]; simp; omega, gb_set HG6.out 0 _⟩
    · obtain rfl : i = n := by omega
      rw [List.take_of_length_le (by omega)] at HF
      obtain ⟨M, hM⟩ : ∃ M, wr.heap.size = M := ⟨_, rfl⟩
      have hmm := @run_makeMap Try.prog
      have hown0 := World.ownsMap_made (H := Unit) wr Try.prog 35 (plainElem Try.prog 4)
      obtain ⟨AL, cL, rfl, _⟩ := Own.form hO
      obtain ⟨q, hq⟩ : ∃ q, e.length = q := ⟨_, rfl⟩
      rw [hq] at hel HX HO
      have hvl : ∀ kb, (Value.slice AL q cL).ownBlock = some kb → kb < M := fun kb e => by rw [← hM]; exact OwnG.lt HO.out kb e
      have HVL := Lib.hid hvl
      have HX0 := Lib.hid (blk_alloc HX.out (.map #[] 0))
      have HM0 := Lib.hid hown0
      have x1 := blk_at HX0.out 0 _ rfl
      have p1 := blk_at (blk_alloc (hG.block w.heap.size (by omega) (by intro e; injection e; omega) |>.trans H0.out) (.map #[] 0)) 1 _ rfl
      clear hG hx2 hO hF hP hbw hown0 hvl
      go_wp2_with fail
      clear hmm x1 p1
      go_loopw [37] (fun s37 wx => ∃ (i : Nat) (vT : Value) (e2 : List TASK.Ty) (D : DataW Unit), i ≤ m ∧ s37 = .int .i64 i ∧ wx.heap[w.heap.size + 2]? = some (.cells #[.slice AL q cL, vT] 25 (0, 0)) ∧ Own wx (M + 1) 41 TASK vT e2 ∧ wx.ownsMap Try.prog 35 (plainElem Try.prog 4) M i D ∧ MetD D e2 ∧ Firsts (fun x : TASK.Ty => x.1) ((ts.take i).map ownT) e2 ∧ e2.Pairwise (fun x y => x.1 ≠ y.1) ∧ e2.length ≤ i ∧ wr.grownBy wx (some (w.heap.size + 2)) ∧ M + 1 ≤ wx.heap.size) (fun s37 _ => m - (intOf s37).toNat)
      case atStart => exact ⟨0, _, [], _, by omega, rfl, HX0.out, Own.nil _ _ _ _, by rw [← hM]; exact HM0.out, met_nil, firsts_nil, List.Pairwise.nil, by simp, gb_below (grown_none _ _) (below_alloc1 _ _), by simp; omega⟩
      case round =>
        obtain ⟨j, vT, e2, D, hj, rfl, hx2, hO2, hmap, hmet, hF2, hP2, hel2, hG, hsz⟩ := hrel
        have HG0 := Lib.hid (gb_trans HG.out hG)
        have hbw : Below w.heap.size w _ := HW.out.trans ((Below.refl _ _).grown HG0.out (by omega) (fun k e => by injection e; omega))
        have HG2 := Lib.hid hG
        have HX2 := Lib.hid hx2
        have HT := Lib.hid hO2
        have HMp := Lib.hid hmap
        have HMt := Lib.hid hmet
        have HF2 := Lib.hid hF2
        have HP2 := Lib.hid hP2
        have HB := Lib.hid hbw
        by_cases hjm : j < m
        · obtain ⟨ad, x, cs, rfl, hx, hat, hrd⟩ := HBt.out.get j hjm
          obtain ⟨i1, l1, t1, d1, r1, e1, g1, A1, c1, rfl, rfl, ok1, hrg⟩ := rd_task hrd
          have HAt := Lib.hid (hat.below hbw)
          have HFx := Lib.hid hx
          have HRg := Lib.hid hrg
          have hgl : g1.length ≤ 100000 := hsm _ (List.mem_of_getElem? hx)
          obtain ⟨⟨ok1a, ok1b⟩, ok2, ok3, ok4, ok5⟩ := ok1
          have j0 : (0 : Int) ≤ (j : Int) := by omega
          have j1 : (j : Int) < (m : Int) := by omega
          have HKey := Lib.hid (keyOf_int_mk Try.underlying35 (of_u64 ⟨ok1a, ok1b⟩) : keyOf Try.prog 35 (.int .u64 i1) = some (.int .u64 i1))
          obtain ⟨AT, cT, rfl, _⟩ := Own.form hO2
          obtain ⟨q2, hq2⟩ : ∃ q2, e2.length = q2 := ⟨_, rfl⟩
          rw [hq2] at hel2 HX2 HT
          obtain ⟨mt, hmt⟩ : ∃ mt, (e2.any fun y => y.1 == i1) = mt := ⟨_, rfl⟩
          have HMT := Lib.hid (show mt = true ↔ ∃ y ∈ e2, y.1 = i1 by rw [← hmt]; simp)
          clear hG hx2 hO2 hmap hmet hF2 hP2 hbw hx hat hrd hrg
          cases mt with
          | true =>
            go_wp2_with (first
              | (refine wpL_load rfl 41 _ rfl _ rfl _ _ HAt.out Try.underlying41 rfl rfl ?_)
              | (refine wpL_store rfl 41 (.tmp 10) _ rfl wr.heap.size rfl _ _ 41 rfl (heap_alloc_new wr _) rfl rfl (by intro v hv; simp at hv; rcases hv with rfl | rfl | rfl | rfl | rfl | rfl | rfl <;> rfl) ?_; intro w3 hx3 hg3; have HB3 := Lib.hid ((below_alloc1 wr _).grown hg3 (by simp) (fun k e => by cases e; exact Nat.le_refl _) : Below wr.heap.size wr w3); have z0 := blk_at hx3 0 _ rfl; have hrun := met_run (HMp.out.kept (below_gb HB3.out none) (by simp)) HMt.out ok1a ok1b; rw [hmt] at hrun; clear hx3 hg3))
            go_roundw
            case measure => simp [intOf]; omega
            case rel => exact ⟨j + 1, _, e2, D, by omega, by go_num, blk_below HX2.out HB3.out (blk_lt HX2.out), HT.out.below HB3.out, (HMp.out.kept (below_gb HB3.out none) (by simp)).mono (by omega), HMt.out, by rw [take_at HFx.out, List.map_append]; exact HF2.out.old (HMT.out.1 rfl), HP2.out, by omega, gb_below HG2.out HB3.out, Nat.le_trans hsz HB3.out.size⟩
          | false =>
            have HNo := Lib.hid (show ¬ ∃ y ∈ e2, y.1 = i1 from fun h => by have := HMT.out.2 h; cases this)
            clear HMT
            go_upto_region 15 with (first
              | (refine wpL_load rfl 41 _ rfl _ rfl _ _ HAt.out Try.underlying41 rfl rfl ?_)
              | (refine wpL_store rfl 41 (.tmp 10) _ rfl wr.heap.size rfl _ _ 41 rfl (heap_alloc_new wr _) rfl rfl (by intro v hv; simp at hv; rcases hv with rfl | rfl | rfl | rfl | rfl | rfl | rfl <;> rfl) ?_; intro w3 hx3 hg3; have HB3 := Lib.hid ((below_alloc1 wr _).grown hg3 (by simp) (fun k e => by cases e; exact Nat.le_refl _) : Below wr.heap.size wr w3); have HX3 := Lib.hid hx3; have z0 := blk_at hx3 0 _ rfl; have HM3 := Lib.hid (HMp.out.kept (below_gb HB3.out none) (by simp)); have hrun := met_run HM3.out HMt.out ok1a ok1b; rw [hmt] at hrun; have hsz3 := HB3.out.size; clear hx3 hg3)
              | (at_mapUpdate; go_loud (refine wpList_mapUpdate_own _ rfl _ _ _ 51 rfl 35 4 keyedB Try.underlying51 _ M j D rfl HM3.out (by unfold maxLen; omega) _ _ _ rfl rfl HKey.out _ [] (plainElem_bool Try.underlying4 true) ?_; intro w4 hown4 hg4; have HM4 := Lib.hid hown4; have HG4 := Lib.hid (gb_grown (gb_below HG2.out HB3.out) hg4 (fun g e => by injection e with e; omega)); have HX4 := Lib.hid (blk_grown HX3.out hg4 (by intro e; injection e with e; omega)); have HY4 := Lib.hid (blk_grown (blk_below HX2.out HB3.out (blk_lt HX2.out)) hg4 (by intro e; injection e with e; omega)); have HT4 := Lib.hid (own_grownO (HT.out.below HB3.out) hg4 (fun g e => by injection e with e; omega)); have hsz4 := hg4.size; clear hown4 hg4 hrun z0)))
            refine region_inU 6 (fun W : World => W.cell? ⟨w.heap.size + 2, 1, none⟩ = some (.slice AT q2 cT) ∧ W.heap[wr.heap.size]? = some (.cells #[.int .u64 i1, .int .u64 l1, .string t1, .bool d1, .float .f64 r1, .float .f64 e1, .slice A1 g1.length c1] 41 (0, 0))) (by kernel_rfl) (fun x1 hx1 heq => ?_)
            have HX5 := Lib.hid (blk_below HX4.out hx1 (blk_lt HX4.out))
            have HY5 := Lib.hid (blk_below HY4.out hx1 (blk_lt HY4.out))
            have HM5 := Lib.hid (HM4.out.kept (below_gb hx1 none) (by simp))
            have HT5 := Lib.hid (HT4.out.below hx1)
            have HG5 := Lib.hid (gb_below HG4.out hx1)
            have hsz5 := hx1.size
            have hHeld : x1.cell? ⟨w.heap.size + 2, 1, none⟩ = some (.slice AT q2 cT) ∧ x1.heap[wr.heap.size]? = some (.cells #[.int .u64 i1, .int .u64 l1, .string t1, .bool d1, .float .f64 r1, .float .f64 e1, .slice A1 g1.length c1] 41 (0, 0)) := ⟨blk_at HY5.out 1 _ rfl, HX5.out⟩
            have c1F : ∀ W : World, (W.cell? ⟨w.heap.size + 2, 1, none⟩ = some (.slice AT q2 cT) ∧ W.heap[wr.heap.size]? = some (.cells #[.int .u64 i1, .int .u64 l1, .string t1, .bool d1, .float .f64 r1, .float .f64 e1, .slice A1 g1.length c1] 41 (0, 0))) → W.cell? ⟨w.heap.size + 2, 1, none⟩ = some (.slice AT q2 cT) := fun W h => h.1
            clear hx1 heq
            first
              | (refine takeT (i := 0) (v := ?_) rfl (by kernel_rfl) (by kernel_rfl) (by kernel_rfl) (fun _ _ _ h => h) (by kernel_rfl) (Or.inl ⟨by rfl, ?_⟩) (fun _ => hHeld) ?_; rotate_left; (focus (intro W hSw; go_simp; (try rfl); done)); (try simp only [Act.put, List.setIfInBounds_toArray, List.set_cons_zero, List.set_cons_succ]))
              | (fail "UTAKE 0")
            first
              | (refine takeU (i := 1) (v := ?_) rfl (by kernel_rfl) (by kernel_rfl) (by kernel_rfl) (fun _ _ _ h => h) (by kernel_rfl) (by kernel_rfl) (by kernel_rfl) (Or.inl ⟨by rfl, ?_⟩) hHeld ?_; rotate_left; (focus (intro W hSw; have c1F := c1F W hSw; (try dsimp only at hSw); go_simp; (try rfl); done)); (try simp only [Act.put, List.setIfInBounds_toArray, List.set_cons_zero, List.set_cons_succ]))
              | (fail "UTAKE 1")
            refine takeU (i := 2) (v := _) rfl (by kernel_rfl) (by kernel_rfl) (by kernel_rfl) (fun _ _ _ h => h) (by kernel_rfl) (by kernel_rfl) (by kernel_rfl) (yields_load (by rfl) _ _ rfl _ rfl _ _ (fun W hW => At.blk hW.2) Try.underlying41 rfl rfl) hHeld ?_
            (try simp only [Act.put, List.setIfInBounds_toArray, List.set_cons_zero, List.set_cons_succ])
            refine callU (i := 3) rfl (by kernel_rfl) (by kernel_rfl) (fun K hK => ?_)
            (try clear hHeld)
            go_simp
            have hbx : Below w.heap.size w x1 := HW.out.trans ((Below.refl _ _).grown (gb_trans HG.out HG5.out) (by omega) (fun k e => by injection e; omega))
            refine (town_any x1 i1 l1 t1 d1 r1 e1 A1 g1.length c1 g1 ok4 ok5 (HRg.out.below hbx) hgl).mono ?_
            rintro e' x2 ⟨v5, rfl, hO5, hb5⟩
            obtain ⟨A5, c5, rfl, _⟩ := Own.form hO5
            obtain ⟨n5, hn5⟩ : ∃ n5, (tidy g1).length = n5 := ⟨_, rfl⟩
            rw [hn5] at hO5 ⊢
            have HX6 := Lib.hid (blk_below HX5.out hb5 (blk_lt HX5.out))
            have HY6 := Lib.hid (blk_below HY5.out hb5 (blk_lt HY5.out))
            have HM6 := Lib.hid (HM5.out.kept (below_gb hb5 none) (by simp))
            have HT6 := Lib.hid (HT5.out.below hb5)
            have HG6 := Lib.hid (gb_below HG5.out hb5)
            have hsz6 := hb5.size
            have hR6 : Rd x2 (fun k => x1.heap.size ≤ k) TASK ((i1 : Int), (l1 : Int), t1, d1, rcanF r1, rcanF e1, tidy g1, ()) [.int .u64 i1, .int .u64 l1, .string t1, .bool d1, .float .f64 (rcanF r1), .float .f64 (rcanF e1), .slice A5 n5 c5] := rd_task_mk ⟨⟨ok1a, ok1b⟩, ok2, ok3, rcan_lt ok4, rcan_lt ok5⟩ (by have := Own.rd hO5; rw [← hn5]; rwa [← hn5] at this)
            have HR6 := Lib.hid hR6
            have C6 : x2.cell? ⟨w.heap.size + 2, 1, none⟩ = some (.slice AT q2 cT) ∧ x2.heap[wr.heap.size]? = some (.cells #[.int .u64 i1, .int .u64 l1, .string t1, .bool d1, .float .f64 r1, .float .f64 e1, .slice A1 g1.length c1] 41 (0, 0)) := ⟨blk_at HY6.out 1 _ rfl, HX6.out⟩
            clear hbx hO5 hb5 hR6 c1F
            have hHeld := C6
            refine hK.out (fun W : World => W.cell? ⟨w.heap.size + 2, 1, none⟩ = some (.slice AT q2 cT) ∧ W.heap[wr.heap.size]? = some (.cells #[.int .u64 i1, .int .u64 l1, .string t1, .bool d1, .float .f64 r1, .float .f64 e1, .slice A1 g1.length c1] 41 (0, 0))) _ _ (fun _ => hHeld) (fun _ h => h) ?_
            (try simp only [Act.put, List.setIfInBounds_toArray, List.set_cons_zero, List.set_cons_succ])
            refine callU (i := 4) rfl (by kernel_rfl) (by kernel_rfl) (fun K hK => ?_)
            clear hHeld
            refine wpo_lit1 (cs := [.int .u64 i1, .int .u64 l1, .string t1, .bool d1, .float .f64 (rcanF r1), .float .f64 (rcanF e1), .slice A5 n5 c5]) (.tmp 52) rfl rfl Try.underlying23 info_task2 rfl (by decide) (by decide) rfl ?_
            have hb7 := below_alloc1 x2 (.cells ([.int .u64 i1, .int .u64 l1, .string t1, .bool d1, .float .f64 (rcanF r1), .float .f64 (rcanF e1), .slice A5 n5 c5]).toArray 41)
            have HX7 := Lib.hid (blk_below HX6.out hb7 (blk_lt HX6.out))
            have HY7 := Lib.hid (blk_below HY6.out hb7 (blk_lt HY6.out))
            have HM7 := Lib.hid (HM6.out.kept (below_gb hb7 none) (by simp))
            have HT7 := Lib.hid (HT6.out.below hb7)
            have HG7 := Lib.hid (gb_below HG6.out hb7)
            have AT7 := Lib.hid (At.blk (heap_alloc_new x2 (.cells ([.int .u64 i1, .int .u64 l1, .string t1, .bool d1, .float .f64 (rcanF r1), .float .f64 (rcanF e1), .slice A5 n5 c5]).toArray 41)))
            have HR7 := Lib.hid (Own.apart HT5.out (Nat.le_refl _) (by omega) HR6.out hb7)
            have hsz7 : M + 1 ≤ (x2.alloc (.cells ([.int .u64 i1, .int .u64 l1, .string t1, .bool d1, .float .f64 (rcanF r1), .float .f64 (rcanF e1), .slice A5 n5 c5]).toArray 41)).heap.size := by simp; omega
            have C7 : (x2.alloc (.cells ([.int .u64 i1, .int .u64 l1, .string t1, .bool d1, .float .f64 (rcanF r1), .float .f64 (rcanF e1), .slice A5 n5 c5]).toArray 41)).cell? ⟨w.heap.size + 2, 1, none⟩ = some (.slice AT q2 cT) ∧ (x2.alloc (.cells ([.int .u64 i1, .int .u64 l1, .string t1, .bool d1, .float .f64 (rcanF r1), .float .f64 (rcanF e1), .slice A5 n5 c5]).toArray 41)).heap[wr.heap.size]? = some (.cells #[.int .u64 i1, .int .u64 l1, .string t1, .bool d1, .float .f64 r1, .float .f64 e1, .slice A1 g1.length c1] 41 (0, 0)) := ⟨blk_at HY7.out 1 _ rfl, HX7.out⟩
            clear hb7 C6
            have hHeld := C7
            refine hK.out (fun W : World => W.cell? ⟨w.heap.size + 2, 1, none⟩ = some (.slice AT q2 cT) ∧ W.heap[wr.heap.size]? = some (.cells #[.int .u64 i1, .int .u64 l1, .string t1, .bool d1, .float .f64 r1, .float .f64 e1, .slice A1 g1.length c1] 41 (0, 0))) _ _ (fun _ => hHeld) (fun _ h => h) ?_
            (try simp only [Act.put, List.setIfInBounds_toArray, List.set_cons_zero, List.set_cons_succ])
            refine callU (i := 5) rfl (by kernel_rfl) (by kernel_rfl) (fun K hK => ?_)
            clear hHeld
            refine wpo_appO (w0 := x2.alloc (.cells ([.int .u64 i1, .int .u64 l1, .string t1, .bool d1, .float .f64 (rcanF r1), .float .f64 (rcanF e1), .slice A5 n5 c5]).toArray 41)) (m := 1) (S := TASK) (r := [((i1 : Int), (l1 : Int), t1, d1, rcanF r1, rcanF e1, tidy g1, ())]) (ys := [.int .u64 i1, .int .u64 l1, .string t1, .bool d1, .float .f64 (rcanF r1), .float .f64 (rcanF e1), .slice A5 n5 c5]) (.tmp 50) (.tmp 53) rfl HT7.out rfl (fun e => by cases e) (fun ad' e => by cases e; exact AT7.out) (RdL.single HR7.out) (Below.refl _ _) Try.underlying23 info_task2 rfl (by decide) rfl rfl (by rw [bytes_task2, hq2]; omega) (by rw [hq2]; omega) hsz7 ?_
            intro v8 x4 hO8 _ hg8 _
            have HX8 := Lib.hid ((hg8.block wr.heap.size (blk_lt HX7.out) (fun e => by have := OwnG.lt HT.out _ e.symm; omega)).trans HX7.out)
            have HY8 := Lib.hid (blk_app HY7.out hg8 (fun g e => own_baseb HT7.out g e) (by omega))
            have HM8 := Lib.hid (HM7.out.kept hg8 (fun e => by have := own_baseb HT7.out _ e.symm; omega))
            have HG8 := Lib.hid (gb_grown HG7.out hg8 (fun g e => by have := own_baseb HT7.out g e; omega))
            have hsz8 := hg8.size
            obtain ⟨A8, c8, rfl, _⟩ := Own.form hO8
            have hl8 : (e2 ++ [((i1 : Int), (l1 : Int), t1, d1, rcanF r1, rcanF e1, tidy g1, ())]).length = q2 + 1 := by rw [List.length_append, hq2]; rfl
            rw [hl8] at hO8 ⊢
            have HT8 := Lib.hid hO8
            have C8 : x4.cell? ⟨w.heap.size + 2, 1, none⟩ = some (.slice AT q2 cT) ∧ x4.heap[wr.heap.size]? = some (.cells #[.int .u64 i1, .int .u64 l1, .string t1, .bool d1, .float .f64 r1, .float .f64 e1, .slice A1 g1.length c1] 41 (0, 0)) := ⟨blk_at HY8.out 1 _ rfl, HX8.out⟩
            clear hl8 hO8 hg8 C7
            have hHeld := C8
            refine hK.out (fun W : World => W.cell? ⟨w.heap.size + 2, 1, none⟩ = some (.slice AT q2 cT) ∧ W.heap[wr.heap.size]? = some (.cells #[.int .u64 i1, .int .u64 l1, .string t1, .bool d1, .float .f64 r1, .float .f64 e1, .slice A1 g1.length c1] 41 (0, 0))) _ _ (fun _ => hHeld) (fun _ h => h) ?_
            (try simp only [Act.put, List.setIfInBounds_toArray, List.set_cons_zero, List.set_cons_succ])
            refine callU (i := 6) rfl (by kernel_rfl) (by kernel_rfl) (fun K hK => ?_)
            (try clear hHeld)
            go_simp
            refine hK.out _ _ _ (offU (by kernel_rfl)) (fun _ h => h) ?_
            (try simp only [Act.put, List.setIfInBounds_toArray, List.set_cons_zero, List.set_cons_succ])
            have y1 := blk_at HY8.out 1 _ rfl
            have f1 := blk_free HY8.out 1
            have hHeld := trivial
            refine callU (i := 7) rfl (by kernel_rfl) (by kernel_rfl) (fun K hK => ?_)
            (try clear hHeld)
            go_simp
            have HY9 := Lib.hid (blk_set HY8.out 1 (.slice A8 (q2 + 1) c8))
            have HT9 := Lib.hid (own_grownO HT8.out (grown_one (j := 1) (v := .slice A8 (q2 + 1) c8) (grown_none x4 (some (w.heap.size + 2)))) (fun g e => by injection e; omega))
            have HM9 := Lib.hid (HM8.out.kept (grown_one (j := 1) (v := .slice A8 (q2 + 1) c8) (grown_none x4 (some (w.heap.size + 2)))) (fun e => by injection e; omega))
            have HG9 := Lib.hid (gb_set HG8.out 1 (.slice A8 (q2 + 1) c8))
            refine hK.out _ _ _ (offU (by kernel_rfl)) (fun _ h => h) ?_
            (try simp only [Act.put, List.setIfInBounds_toArray, List.set_cons_zero, List.set_cons_succ])
            refine doneU (by kernel_rfl) ?_ _
            go_wp2_with fail
            go_roundw
            case measure => simp [intOf]; omega
            case rel => exact ⟨j + 1, _, e2 ++ [((i1 : Int), (l1 : Int), t1, d1, rcanF r1, rcanF e1, tidy g1, ())], _, by omega, by go_num, HY9.out, HT9.out, HM9.out, MetD.put (t := ((i1 : Int), (l1 : Int), t1, d1, rcanF r1, rcanF e1, tidy g1, ())) HMt.out HMp.out.isMap trivial, by rw [take_at HFx.out, List.map_append]; exact HF2.out.new HNo.out (fun z => by simp [ownT]), List.pairwise_append.2 ⟨HP2.out, List.pairwise_singleton _ _, fun y hy z hz => by rw [List.mem_singleton.1 hz]; exact fun e => HNo.out ⟨y, hy, e⟩⟩, by rw [List.length_append, hq2]; simp; omega, HG9.out, by simp; omega⟩
        · obtain rfl : j = m := by omega
          rw [List.take_of_length_le (by omega)] at HF2
          have HLo := Lib.hid (own_grown HO.out hG (by omega))
          have y0 := blk_at HX2.out 0 _ rfl
          have y1 := blk_at HX2.out 1 _ rfl
          have hr1 := (gb_trans HG.out hG).block (w.heap.size + 1) (by omega) (by intro e; injection e; omega) |>.trans H1.out
          have HR1 := Lib.hid hr1
          have HWx := Lib.hid (show W.heap.size ≤ wr.heap.size by omega)
          obtain ⟨AT, cT, rfl, _⟩ := Own.form hO2
          obtain ⟨q2, hq2⟩ : ∃ q2, e2.length = q2 := ⟨_, rfl⟩
          rw [hq2] at hel2 HX2 HT
          clear hG hx2 hO2 hmap hmet hF2 hP2 hr1 y1
          go_wp2_with fail
          refine (sortL_own wr W.heap.size _ e HLo.out (by omega) HWx.out).mono ?_
          rintro e' w6 ⟨rfl, eL, hOL, hpL, hsL, hbL, hgL⟩
          have HX6 := Lib.hid (blk_below HX2.out hbL (by omega))
          have HR6 := Lib.hid (blk_below HR1.out hbL (by omega))
          have HT6 := Lib.hid (own_grownO HT.out hgL (fun g e => by have := HVL.out g e; omega))
          have HB6 := Lib.hid (HB.out.trans (hbL.mono (by omega)))
          have HL6 := Lib.hid hOL
          have RL := Lib.hid (rises_of_sort HP.out hpL hsL)
          have FL := Lib.hid (HF.out.perm hpL)
          have hlL : eL.length ≤ i := by rw [hpL.length_eq]; omega
          have y1 := blk_at HX6.out 1 _ rfl
          have hsz6 := hbL.size
          clear hOL hpL hsL hbL hgL y0
          go_wp2_with fail
          refine (sortT_own w6 (M + 1) _ e2 HT6.out (by omega) (by omega)).mono ?_
          rintro e' w7 ⟨rfl, eT, hOT, hpT, hsT, hbT, hgT⟩
          have HX7 := Lib.hid (blk_below HX6.out hbT (by omega))
          have HR7 := Lib.hid (blk_below HR6.out hbT (by omega))
          have HB7 := Lib.hid (HB6.out.trans (hbT.mono (by omega)))
          have HL7 := Lib.hid (own_lst_other HL6.out hgT (fun kb e1 e2 => by have := HVL.out kb e1; have := own_baseb HT6.out kb e2; omega))
          have HT7 := Lib.hid hOT
          have RT := Lib.hid (rises_of_sort HP2.out hpT hsT)
          have FT := Lib.hid (HF2.out.perm hpT)
          have hlT : eT.length ≤ j := by rw [hpT.length_eq]; omega
          clear hOT hpT hsT hbT hgT y1
          go_wp2_with (first
            | (refine wpL_load rfl 25 _ rfl _ rfl _ _ (At.blk HX7.out) Try.underlying25 rfl rfl ?_)
            | (refine wpL_store rfl 25 (.tmp 2) _ rfl (w.heap.size + 1) rfl _ _ 25 rfl HR7.out rfl rfl (by intro v hv; simp at hv; rcases hv with rfl | rfl <;> rfl) ?_; intro w8 hw8 hg8))
          (try rw [Exit.noGoto_ret])
          refine bodyPost_ret (results_cell_row rfl _ _ (w.heap.size + 1) 25 _ (0, 0) _ rfl hw8 Try.underlying25 rfl rfl) rfl ?_
          exact ⟨_, _, eL, eT, rfl, Own.base (own_grown HL7.out hg8 (by omega)) (by omega), Own.base (own_grown HT7.out hg8 (by omega)) (by omega), FL.out, RL.out, hlL, FT.out, RT.out, hlT, HB7.out.grown hg8 HB7.out.size (fun k e => by injection e; omega)⟩
end Go.Proofs.Ytfjnpiahloncmaa
