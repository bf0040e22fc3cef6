import Derived.Test.YtfjnpiahloncmaaMrgI
import Derived.Test.YtfjnpiahloncmaaHul
namespace Go.Proofs.Ytfjnpiahloncmaa
open Go.RowKit Go.Maps FP
set_option linter.unusedVariables false
set_option linter.unusedSimpArgs false
attribute [local go_sem] run_store_float
set_option maxHeartbeats 8000000 in
set_option maxRecDepth 20000 in
theorem rcanon_st (w : World) (A B : Option Addr) (n ca m cb : Nat) (ls : List LIST.Ty) (ts : List TASK.Ty) (ha : Rows w anyB LIST A n ls) (hb : Rows w anyB TASK B m ts) (hn : n ≤ 1000) (hm : m ≤ 1000) (hsm : ∀ t ∈ ts, t.2.2.2.2.2.2.1.length ≤ 100000) :
    Calls Try.prog 17 #[.agg #[Value.slice A n ca, Value.slice B m cb]] w fun e w' => ∃ vL vT eL eT, e = .returned (.agg #[vL, vT]) ∧ Own w' w.heap.size 37 LIST vL eL ∧ Own w' w.heap.size 41 TASK vT eT ∧
      Firsts (fun x : LIST.Ty => x.1) ls eL ∧ Rises (fun x : LIST.Ty => x.1) eL ∧ eL.length ≤ n ∧ Firsts (fun x : TASK.Ty => x.1) (ts.map ownT) eT ∧ Rises (fun x : TASK.Ty => x.1) eT ∧ eT.length ≤ m ∧ Below w.heap.size w w' := by
  have hal := ha.1
  have hbl := hb.1
  obtain ⟨W, hW⟩ : ∃ W, ((w.alloc (.cells #[Value.slice A n ca, Value.slice B m cb] 25)).alloc (.cells #[Value.slice none 0 0, Value.slice none 0 0] 25)).alloc (.cells #[Value.slice none 0 0, Value.slice none 0 0] 25) = W := ⟨_, rfl⟩
  have hs0 : W.heap.size = w.heap.size + 3 := by rw [← hW]; simp
  have h0 : W.heap[w.heap.size]? = some (.cells #[Value.slice A n ca, Value.slice B m cb] 25 (0, 0)) := by rw [← hW]; exact blk_alloc (blk_alloc (heap_alloc_new w _) _) _
  have h1 : W.heap[w.heap.size + 1]? = some (.cells #[Value.slice none 0 0, Value.slice none 0 0] 25 (0, 0)) := by rw [← hW]; exact blk_alloc (heap_alloc2_new w _ _) _
  have h2 : W.heap[w.heap.size + 2]? = some (.cells #[Value.slice none 0 0, Value.slice none 0 0] 25 (0, 0)) := by
    rw [← hW]
    have := heap_alloc_new ((w.alloc (.cells #[Value.slice A n ca, Value.slice B m cb] 25)).alloc (.cells #[Value.slice none 0 0, Value.slice none 0 0] 25)) (.cells #[Value.slice none 0 0, Value.slice none 0 0] 25)
    simpa using this
  have hb0 : Below w.heap.size w W := by rw [← hW]; exact (((Below.refl _ _).alloc (Nat.le_refl _) _).alloc (by simp) _).alloc (by simp; omega) _
  have HA := Lib.hid ha
  have HBt := Lib.hid hb
  have HS := Lib.hid hs0
  have H0 := Lib.hid h0
  have H1 := Lib.hid h1
  have H2 := Lib.hid h2
  have HW := Lib.hid hb0
  have HN := Lib.hid hW
  clear ha hb hs0 h0 h1 h2 hb0 hW
  go_enter Try.func17, Try.ntmps17
  have hW := HN.out
  have x0 := blk_at H0.out 0 _ rfl
  go_wp2_with fail
  clear hW x0
  go_loopw [11] (fun s11 wr => ∃ (i : Nat) (vL : Value) (e : List LIST.Ty), i ≤ n ∧ s11 = .int .i64 i ∧ wr.heap[w.heap.size + 2]? = some (.cells #[vL, .slice none 0 0] 25 (0, 0)) ∧ Own wr W.heap.size 37 LIST vL e ∧ Firsts (fun x : LIST.Ty => x.1) (ls.take i) e ∧ Rises (fun x : LIST.Ty => x.1) e ∧ e.length ≤ i ∧ W.grownBy wr (some (w.heap.size + 2))) (fun s11 _ => n - (intOf s11).toNat)
  case atStart => exact ⟨0, _, [], by omega, rfl, H2.out, Own.nil _ _ _ _, firsts_nil, List.Pairwise.nil, by simp, grown_none _ _⟩
  case round =>
    obtain ⟨i, vL, e, hi, rfl, hx2, hO, hF, hP, hel, hG⟩ := hrel
    have hbw : Below w.heap.size w wr := HW.out.trans ((Below.refl _ _).grown hG (by have := HS.out; omega) (fun k e => by injection e; omega))
    have S0 := HS.out
    have HG := Lib.hid hG
    have HX := Lib.hid hx2
    have HO := Lib.hid hO
    have HF := Lib.hid hF
    have HP := Lib.hid hP
    have HB := Lib.hid hbw
    have hgs := hG.size
    by_cases hlt : i < n
    · obtain ⟨ad, x, cs, rfl, hx, hat, hrd⟩ := (HA.out.below hbw).get i hlt
      obtain ⟨k1, t1, rfl, rfl, ok1⟩ := rd_lst hrd
      have HAt := Lib.hid hat
      have HFx := Lib.hid hx
      have i0 : (0 : Int) ≤ (i : Int) := by omega
      have i1 : (i : Int) < (n : Int) := by omega
      obtain ⟨AL, cL, rfl, _, hcL, _, hRL⟩ := Own.form hO
      obtain ⟨q, hq⟩ : ∃ q, e.length = q := ⟨_, rfl⟩
      rw [hq] at hel HX HO
      clear hG hx2 hO hF hP hbw hx hat hrd hRL
      go_wp2_with (first
        | (refine wpL_load rfl 37 _ rfl _ rfl _ _ HAt.out Try.underlying37 rfl rfl ?_)
        | (refine wpL_store rfl 37 (.tmp 5) _ rfl wr.heap.size rfl _ _ 37 rfl (heap_alloc_new wr _) rfl rfl (by intro v hv; simp at hv; rcases hv with rfl | rfl <;> rfl) ?_; intro w3 hx3 hg3; have HB3 := Lib.hid ((below_alloc1 wr _).grown hg3 (by simp) (fun k e => by cases e; exact Nat.le_refl _) : Below wr.heap.size wr w3); have HX3 := Lib.hid hx3; have HY3 := Lib.hid (blk_below HX.out HB3.out (blk_lt HX.out)); have y0 := blk_at HY3.out 0 _ rfl; clear hx3 hg3)
        | (refine wpL_load rfl 37 _ rfl _ rfl _ _ (At.blk HX3.out) Try.underlying37 rfl rfl ?_))
      refine (withl_any w3 W.heap.size _ e (k1, t1, ()) k1 t1 _ rfl rfl (by omega) (HO.out.below HB3.out) (Nat.le_trans hgs HB3.out.size) (rd_lst_mk ok1) HP.out).mono ?_
      rintro e' w4 ⟨v4, r, rfl, hO4, hl4, hr4, hp4, hb4⟩
      have HB4 := Lib.hid (HB3.out.trans (hb4.mono HB3.out.size))
      have HY4 := Lib.hid (blk_below HY3.out hb4 (blk_lt HY3.out))
      obtain ⟨A4, c4, rfl, _⟩ := Own.form hO4
      obtain ⟨q4, hq4⟩ : ∃ q4, r.length = q4 := ⟨_, rfl⟩
      rw [hq4] at hO4 hl4 ⊢
      have HO4 := Lib.hid hO4
      have HR4 := Lib.hid hr4
      have HP4 := Lib.hid hp4
      have y4 := blk_at HY4.out 0 _ rfl
      have f4 := blk_free HY4.out 0
      clear hO4 hr4 hp4 hb4 y0
      go_wp2_with fail
      go_roundw
      case measure => simp [intOf]; omega
      case rel => exact ⟨i + 1, _, r, by omega, by go_num, blk_set HY4.out 0 _, own_grown HO4.out (grown_one (grown_none w4 _)) (by omega), by rw [take_at HFx.out]; exact HP4.out.firsts HF.out, HR4.out, by omega, gb_set (gb_below HG.out HB4.out) 0 _⟩
    · obtain rfl : i = n := by omega
      rw [List.take_of_length_le (by omega)] at HF
      obtain ⟨M, hM⟩ : ∃ M, wr.heap.size = M := ⟨_, rfl⟩
      obtain ⟨AL, cL, rfl, _⟩ := Own.form hO
      obtain ⟨q, hq⟩ : ∃ q, e.length = q := ⟨_, rfl⟩
      rw [hq] at hel HX HO
      have x1 := blk_at HX.out 0 _ rfl
      have p1 := blk_at ((hG.block w.heap.size (by omega) (by intro e; injection e; omega)).trans H0.out) 1 _ rfl
      clear hG hx2 hO hF hP hbw
      go_wp2_with fail
      clear x1 p1
      go_loopw [24] (fun s24 wx => ∃ (i : Nat) (vT : Value) (e2 : List TASK.Ty), i ≤ m ∧ s24 = .int .i64 i ∧ wx.heap[w.heap.size + 2]? = some (.cells #[.slice AL q cL, vT] 25 (0, 0)) ∧ Own wx M 41 TASK vT e2 ∧ Firsts (fun x : TASK.Ty => x.1) ((ts.take i).map ownT) e2 ∧ Rises (fun x : TASK.Ty => x.1) e2 ∧ e2.length ≤ i ∧ wr.grownBy wx (some (w.heap.size + 2))) (fun s24 _ => m - (intOf s24).toNat)
      case atStart => exact ⟨0, _, [], by omega, rfl, HX.out, Own.nil _ _ _ _, firsts_nil, List.Pairwise.nil, by simp, grown_none _ _⟩
      case round =>
        obtain ⟨j, vT, e2, hj, rfl, hx2, hO2, hF2, hP2, hel2, hG⟩ := hrel
        have HG0 := Lib.hid (gb_trans HG.out hG)
        have hbw : Below w.heap.size w _ := HW.out.trans ((Below.refl _ _).grown HG0.out (by omega) (fun k e => by injection e; omega))
        have hsz : M ≤ wr.heap.size := by have := hG.size; omega
        have HG2 := Lib.hid hG
        have HX2 := Lib.hid hx2
        have HT := Lib.hid hO2
        have HF2 := Lib.hid hF2
        have HP2 := Lib.hid hP2
        have HB := Lib.hid hbw
        by_cases hjm : j < m
        · obtain ⟨ad, x, cs, rfl, hx, hat, hrd⟩ := HBt.out.get j hjm
          obtain ⟨i1, l1, t1, d1, r1, e1, g1, A1, c1, rfl, rfl, ok1, hrg⟩ := rd_task hrd
          have HAt := Lib.hid (hat.below hbw)
          have HFx := Lib.hid hx
          have HRg := Lib.hid hrg
          have hgl : g1.length ≤ 100000 := hsm _ (List.mem_of_getElem? hx)
          obtain ⟨⟨ok1a, ok1b⟩, ok2, ok3, ok4, ok5⟩ := ok1
          have j0 : (0 : Int) ≤ (j : Int) := by omega
          have j1 : (j : Int) < (m : Int) := by omega
          obtain ⟨AT, cT, rfl, _⟩ := Own.form hO2
          obtain ⟨q2, hq2⟩ : ∃ q2, e2.length = q2 := ⟨_, rfl⟩
          rw [hq2] at hel2 HX2 HT
          clear hG hx2 hO2 hF2 hP2 hbw hx hat hrd hrg
          go_upto_region 10 with (first
            | (refine wpL_load rfl 41 _ rfl _ rfl _ _ HAt.out Try.underlying41 rfl rfl ?_)
            | (refine wpL_store rfl 41 (.tmp 7) _ rfl wr.heap.size rfl _ _ 41 rfl (heap_alloc_new wr _) rfl rfl (by intro v hv; simp at hv; rcases hv with rfl | rfl | rfl | rfl | rfl | rfl | rfl <;> rfl) ?_; intro w3 hx3 hg3; have HB3 := Lib.hid ((below_alloc1 wr _).grown hg3 (by simp) (fun k e => by cases e; exact Nat.le_refl _) : Below wr.heap.size wr w3); have HX3 := Lib.hid hx3; clear hx3 hg3))
          refine region_inU 10 (fun W : World => W.heap[wr.heap.size]? = some (.cells #[.int .u64 i1, .int .u64 l1, .string t1, .bool d1, .float .f64 r1, .float .f64 e1, .slice A1 g1.length c1] 41 (0, 0))) (by kernel_rfl) (fun x1 hx1 heq => ?_)
          have HX5 := Lib.hid (blk_below HX3.out hx1 (blk_lt HX3.out))
          have HB5 := Lib.hid (HB3.out.trans (hx1.mono HB3.out.size))
          have hHeld : x1.heap[wr.heap.size]? = some (.cells #[.int .u64 i1, .int .u64 l1, .string t1, .bool d1, .float .f64 r1, .float .f64 e1, .slice A1 g1.length c1] 41 (0, 0)) := HX5.out
          have c4F : ∀ W : World, W.heap[wr.heap.size]? = some (.cells #[.int .u64 i1, .int .u64 l1, .string t1, .bool d1, .float .f64 r1, .float .f64 e1, .slice A1 g1.length c1] 41 (0, 0)) → W.cell? ⟨wr.heap.size, 4, none⟩ = some (.float .f64 r1) := fun W h => blk_at h 4 _ rfl
          have c5F : ∀ W : World, W.heap[wr.heap.size]? = some (.cells #[.int .u64 i1, .int .u64 l1, .string t1, .bool d1, .float .f64 r1, .float .f64 e1, .slice A1 g1.length c1] 41 (0, 0)) → W.cell? ⟨wr.heap.size, 5, none⟩ = some (.float .f64 e1) := fun W h => blk_at h 5 _ rfl
          have c6F : ∀ W : World, W.heap[wr.heap.size]? = some (.cells #[.int .u64 i1, .int .u64 l1, .string t1, .bool d1, .float .f64 r1, .float .f64 e1, .slice A1 g1.length c1] 41 (0, 0)) → W.cell? ⟨wr.heap.size, 6, none⟩ = some (.slice A1 g1.length c1) := fun W h => blk_at h 6 _ rfl
          clear hx1 heq
          first
            | (refine takeT (i := 0) (v := ?_) rfl (by kernel_rfl) (by kernel_rfl) (by kernel_rfl) (fun _ _ _ h => h) (by kernel_rfl) (Or.inl ⟨by rfl, ?_⟩) (fun _ => hHeld) ?_; rotate_left; (focus (intro W hSw; go_simp; (try rfl); done)); (try simp only [Act.put, List.setIfInBounds_toArray, List.set_cons_zero, List.set_cons_succ]))
            | (fail "UTAKE 0")
          first
            | (refine takeU (i := 1) (v := ?_) rfl (by kernel_rfl) (by kernel_rfl) (by kernel_rfl) (fun _ _ _ h => h) (by kernel_rfl) (by kernel_rfl) (by kernel_rfl) (Or.inl ⟨by rfl, ?_⟩) hHeld ?_; rotate_left; (focus (intro W hSw; have c4F := c4F W hSw; (try dsimp only at hSw); go_simp; (try rfl); done)); (try simp only [Act.put, List.setIfInBounds_toArray, List.set_cons_zero, List.set_cons_succ]))
            | (fail "UTAKE 1")
          first
            | (refine takeT (i := 3) (v := ?_) rfl (by kernel_rfl) (by kernel_rfl) (by kernel_rfl) (fun _ _ _ h => h) (by kernel_rfl) (Or.inl ⟨by rfl, ?_⟩) (fun _ => hHeld) ?_; rotate_left; (focus (intro W hSw; go_simp; (try rfl); done)); (try simp only [Act.put, List.setIfInBounds_toArray, List.set_cons_zero, List.set_cons_succ]))
            | (fail "UTAKE 3")
          first
            | (refine takeU (i := 4) (v := ?_) rfl (by kernel_rfl) (by kernel_rfl) (by kernel_rfl) (fun _ _ _ h => h) (by kernel_rfl) (by kernel_rfl) (by kernel_rfl) (Or.inl ⟨by rfl, ?_⟩) hHeld ?_; rotate_left; (focus (intro W hSw; have c5F := c5F W hSw; (try dsimp only at hSw); go_simp; (try rfl); done)); (try simp only [Act.put, List.setIfInBounds_toArray, List.set_cons_zero, List.set_cons_succ]))
            | (fail "UTAKE 4")
          first
            | (refine takeT (i := 6) (v := ?_) rfl (by kernel_rfl) (by kernel_rfl) (by kernel_rfl) (fun _ _ _ h => h) (by kernel_rfl) (Or.inl ⟨by rfl, ?_⟩) (fun _ => hHeld) ?_; rotate_left; (focus (intro W hSw; go_simp; (try rfl); done)); (try simp only [Act.put, List.setIfInBounds_toArray, List.set_cons_zero, List.set_cons_succ]))
            | (fail "UTAKE 6")
          first
            | (refine takeU (i := 7) (v := ?_) rfl (by kernel_rfl) (by kernel_rfl) (by kernel_rfl) (fun _ _ _ h => h) (by kernel_rfl) (by kernel_rfl) (by kernel_rfl) (Or.inl ⟨by rfl, ?_⟩) hHeld ?_; rotate_left; (focus (intro W hSw; have c6F := c6F W hSw; (try dsimp only at hSw); go_simp; (try rfl); done)); (try simp only [Act.put, List.setIfInBounds_toArray, List.set_cons_zero, List.set_cons_succ]))
            | (fail "UTAKE 7")
          refine callU (i := 2) rfl (by kernel_rfl) (by kernel_rfl) (fun K hK => ?_)
          (try clear hHeld)
          go_simp
          refine (rcanon_any _ _).mono ?_
          rintro e' w' ⟨rfl, rfl⟩
          have hHeld := HX5.out
          refine hK.out (fun W : World => W.heap[wr.heap.size]? = some (.cells #[.int .u64 i1, .int .u64 l1, .string t1, .bool d1, .float .f64 r1, .float .f64 e1, .slice A1 g1.length c1] 41 (0, 0))) _ _ (fun _ => hHeld) (fun _ h => h) ?_
          (try simp only [Act.put, List.setIfInBounds_toArray, List.set_cons_zero, List.set_cons_succ])
          first
            | (refine takeT (i := 9) (v := ?_) rfl (by kernel_rfl) (by kernel_rfl) (by kernel_rfl) (fun _ _ _ h => h) (by kernel_rfl) (Or.inl ⟨by rfl, ?_⟩) (fun _ => hHeld) ?_; rotate_left; (focus (intro W hSw; go_simp; (try rfl); done)); (try simp only [Act.put, List.setIfInBounds_toArray, List.set_cons_zero, List.set_cons_succ]))
            | (fail "UTAKE 9")
          refine callU (i := 5) rfl (by kernel_rfl) (by kernel_rfl) (fun K hK => ?_)
          (try clear hHeld)
          go_simp
          refine (rcanon_any _ _).mono ?_
          rintro e' w' ⟨rfl, rfl⟩
          have hHeld := HX5.out
          refine hK.out (fun W : World => W.heap[wr.heap.size]? = some (.cells #[.int .u64 i1, .int .u64 l1, .string t1, .bool d1, .float .f64 r1, .float .f64 e1, .slice A1 g1.length c1] 41 (0, 0))) _ _ (fun _ => hHeld) (fun _ h => h) ?_
          (try simp only [Act.put, List.setIfInBounds_toArray, List.set_cons_zero, List.set_cons_succ])
          refine callU (i := 8) rfl (by kernel_rfl) (by kernel_rfl) (fun K hK => ?_)
          (try clear hHeld)
          go_simp
          refine (rtexts_any x1 A1 g1.length c1 g1 (rd_rows (HRg.out.below (HB.out.trans (HB5.out.mono HB.out.size)))) hgl).mono ?_
          rintro e' x2 ⟨v5, rfl, hO5, hb5⟩
          obtain ⟨A5, c5, rfl, _⟩ := Own.form hO5
          obtain ⟨n5, hn5⟩ : ∃ n5, (tidy g1).length = n5 := ⟨_, rfl⟩
          rw [hn5] at hO5 ⊢
          have HX6 := Lib.hid (blk_below HX5.out hb5 (blk_lt HX5.out))
          have HB6 := Lib.hid (HB5.out.trans (hb5.mono HB5.out.size))
          have HO5 := Lib.hid hO5
          have hsz5 := blk_lt HX5.out
          clear hO5 hb5 c4F c5F c6F
          have hHeld := HX6.out
          refine hK.out (fun W : World => W.heap[wr.heap.size]? = some (.cells #[.int .u64 i1, .int .u64 l1, .string t1, .bool d1, .float .f64 r1, .float .f64 e1, .slice A1 g1.length c1] 41 (0, 0))) _ _ (fun _ => hHeld) (fun _ h => h) ?_
          (try simp only [Act.put, List.setIfInBounds_toArray, List.set_cons_zero, List.set_cons_succ])
          have z4 := blk_at HX6.out 4 _ rfl
          have z5 := blk_at HX6.out 5 _ rfl
          have z6 := blk_at HX6.out 6 _ rfl
          have f4 := blk_free HX6.out 4
          have f5 := blk_free HX6.out 5
          have f6 := blk_free HX6.out 6
          have hHeld := trivial
          refine callU (i := 10) rfl (by kernel_rfl) (by kernel_rfl) (fun K hK => ?_)
          (try clear hHeld)
          go_simp
          refine hK.out _ _ _ (offU (by kernel_rfl)) (fun _ h => h) ?_
          (try simp only [Act.put, List.setIfInBounds_toArray, List.set_cons_zero, List.set_cons_succ])
          first
            | (refine takeT (i := 11) (v := ?_) rfl (by kernel_rfl) (by kernel_rfl) (by kernel_rfl) (fun _ _ _ h => h) (by kernel_rfl) (Or.inl ⟨by rfl, ?_⟩) (offU (by kernel_rfl)) ?_; rotate_left; (focus (intro W hSw; go_simp; (try rfl); done)); (try simp only [Act.put, List.setIfInBounds_toArray, List.set_cons_zero, List.set_cons_succ]))
            | (fail "UTAKE 11")
          have hHeld := trivial
          refine callU (i := 12) rfl (by kernel_rfl) (by kernel_rfl) (fun K hK => ?_)
          (try clear hHeld)
          go_simp
          refine hK.out _ _ _ (offU (by kernel_rfl)) (fun _ h => h) ?_
          (try simp only [Act.put, List.setIfInBounds_toArray, List.set_cons_zero, List.set_cons_succ])
          first
            | (refine takeT (i := 13) (v := ?_) rfl (by kernel_rfl) (by kernel_rfl) (by kernel_rfl) (fun _ _ _ h => h) (by kernel_rfl) (Or.inl ⟨by rfl, ?_⟩) (offU (by kernel_rfl)) ?_; rotate_left; (focus (intro W hSw; go_simp; (try rfl); done)); (try simp only [Act.put, List.setIfInBounds_toArray, List.set_cons_zero, List.set_cons_succ]))
            | (fail "UTAKE 13")
          have hHeld := trivial
          refine callU (i := 14) rfl (by kernel_rfl) (by kernel_rfl) (fun K hK => ?_)
          (try clear hHeld)
          go_simp
          obtain ⟨w9, hw9⟩ : ∃ w9, ((x2.setCell ⟨wr.heap.size, 4, none⟩ (.float .f64 (rcanF r1))).setCell ⟨wr.heap.size, 5, none⟩ (.float .f64 (rcanF e1))).setCell ⟨wr.heap.size, 6, none⟩ (.slice A5 n5 c5) = w9 := ⟨_, rfl⟩
          have HX9 := Lib.hid (show w9.heap[wr.heap.size]? = some (.cells ([.int .u64 i1, .int .u64 l1, .string t1, .bool d1, .float .f64 (rcanF r1), .float .f64 (rcanF e1), .slice A5 n5 c5]).toArray 41 (0, 0)) by rw [← hw9]; exact blk_set (blk_set (blk_set HX6.out 4 _) 5 _) 6 _)
          have HB9 := Lib.hid (show Below wr.heap.size wr w9 by rw [← hw9]; exact ((HB6.out.setCell (p := ⟨wr.heap.size, 4, none⟩) (Nat.le_refl _) _).setCell (p := ⟨wr.heap.size, 5, none⟩) (Nat.le_refl _) _).setCell (p := ⟨wr.heap.size, 6, none⟩) (Nat.le_refl _) _)
          have HO9 := Lib.hid (show Own w9 x1.heap.size 9 .str (.slice A5 n5 c5) (tidy g1) by
            rw [← hw9]
            exact own_grown HO5.out (grown_one (grown_one (grown_one (grown_none x2 (some wr.heap.size))))) hsz5)
          rw [hw9]
          refine hK.out _ _ _ (offU (by kernel_rfl)) (fun _ h => h) ?_
          (try simp only [Act.put, List.setIfInBounds_toArray, List.set_cons_zero, List.set_cons_succ])
          refine doneU (by kernel_rfl) ?_ _
          have HY9 := Lib.hid (blk_below HX2.out HB9.out (blk_lt HX2.out))
          have y1 := blk_at HY9.out 1 _ rfl
          clear z4 z5 z6 f4 f5 f6 hw9
          go_wp2_with (refine wpL_load rfl 41 _ rfl _ rfl _ _ (At.blk HX9.out) Try.underlying41 rfl rfl ?_)
          refine (witht_any w9 M _ e2 ((i1 : Int), (l1 : Int), t1, d1, rcanF r1, rcanF e1, tidy g1, ()) i1 l1 t1 d1 (rcanF r1) (rcanF e1) A5 n5 c5 _ rfl rfl (by omega) (HT.out.below HB9.out) (Nat.le_trans hsz HB9.out.size) (rd_task_mk ⟨⟨ok1a, ok1b⟩, ok2, ok3, rcan_lt ok4, rcan_lt ok5⟩ ((Own.rd HO9.out).weak (fun k hk _ => by have : x1.heap.size ≤ k := hk; omega))) HP2.out).mono ?_
          rintro e' w10 ⟨v10, r, rfl, hO10, hl10, hr10, hp10, hb10⟩
          have HB10 := Lib.hid (HB9.out.trans (hb10.mono HB9.out.size))
          have HY10 := Lib.hid (blk_below HY9.out hb10 (blk_lt HY9.out))
          obtain ⟨A10, c10, rfl, _⟩ := Own.form hO10
          obtain ⟨q10, hq10⟩ : ∃ q10, r.length = q10 := ⟨_, rfl⟩
          rw [hq10] at hO10 hl10 ⊢
          have HO10 := Lib.hid hO10
          have HR10 := Lib.hid hr10
          have HP10 := Lib.hid hp10
          have y10 := blk_at HY10.out 1 _ rfl
          have g10 := blk_free HY10.out 1
          clear hO10 hr10 hp10 hb10 y1
          go_wp2_with fail
          go_roundw
          case measure => simp [intOf]; omega
          case rel => exact ⟨j + 1, _, r, by omega, by go_num, blk_set HY10.out 1 _, own_grown HO10.out (grown_one (grown_none w10 _)) (by omega), by rw [take_at HFx.out, List.map_append]; exact HP10.out.firsts HF2.out, HR10.out, by omega, gb_set (gb_below HG2.out HB10.out) 1 _⟩
        · obtain rfl : j = m := by omega
          rw [List.take_of_length_le (by omega)] at HF2
          have HLo := Lib.hid (own_grown HO.out hG (by omega))
          obtain ⟨AT, cT, rfl, _⟩ := Own.form hO2
          obtain ⟨q2, hq2⟩ : ∃ q2, e2.length = q2 := ⟨_, rfl⟩
          rw [hq2] at hel2 HX2 HT
          have hr1 := HG0.out.block (w.heap.size + 1) (by omega) (by intro e; injection e; omega) |>.trans H1.out
          have HR1 := Lib.hid hr1
          clear hG hx2 hO2 hF2 hP2 hr1
          go_wp2_with (first
            | (refine wpL_load rfl 25 _ rfl _ rfl _ _ (At.blk HX2.out) Try.underlying25 rfl rfl ?_)
            | (refine wpL_store rfl 25 (.tmp 2) _ rfl (w.heap.size + 1) rfl _ _ 25 rfl HR1.out rfl rfl (by intro v hv; simp at hv; rcases hv with rfl | rfl <;> rfl) ?_; intro w8 hw8 hg8))
          refine bodyPost_ret (results_cell_row rfl _ _ (w.heap.size + 1) 25 _ (0, 0) _ rfl hw8 Try.underlying25 rfl rfl) rfl ?_
          have q1 : Own w8 w.heap.size 37 LIST (.slice AL q cL) e := Own.base (own_grown HLo.out hg8 (by omega)) (by omega)
          have q2 : Own w8 w.heap.size 41 TASK (.slice AT q2 cT) e2 := Own.base (own_grown HT.out hg8 (by omega)) (by omega)
          have q3 : Below w.heap.size w w8 := HB.out.grown hg8 HB.out.size (fun k e => by injection e; omega)
          exact ⟨_, _, rfl, e, q1, e2, q2, HF.out, HP.out, by omega, HF2.out, HP2.out, by omega, q3⟩
end Go.Proofs.Ytfjnpiahloncmaa
