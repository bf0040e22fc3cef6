import Derived.Test.YtfjnpiahloncmaaTskF
namespace Go.Proofs.Ytfjnpiahloncmaa
open Go.RowKit Cdc
set_option linter.unusedVariables false
set_option linter.unusedSimpArgs false
attribute [local go_sem] run_store_float
set_option maxHeartbeats 2000000 in
set_option maxRecDepth 20000 in
theorem find_any (w : World) (A B : Option Addr) (n ca m cb : Nat) (ts : List TASK.Ty) (id : Int) (hb : Rows w anyB TASK B m ts) (hm : m ≤ 9223372036854775807) (hsm : ∀ t ∈ ts, t.2.2.2.2.2.2.1.length ≤ 100000) :
    Calls Try.prog 13 #[.agg #[Value.slice A n ca, Value.slice B m cb], .int .u64 id] w (FindPost w (findT ts id)) := by
  have h1 := blk_alloc (heap_alloc_new w (.cells #[Value.slice A n ca, Value.slice B m cb] 25)) (.cells Z7 41)
  have h2 := heap_alloc2_new w (.cells #[Value.slice A n ca, Value.slice B m cb] 25) (.cells Z7 41)
  obtain ⟨p0, p1⟩ := blk2 h1
  have HW := Lib.hid ((below_alloc1 w (.cells #[Value.slice A n ca, Value.slice B m cb] 25)).alloc (by simp) (.cells Z7 41))
  have hbl := hb.1
  go_enter Try.func13, Try.ntmps13
  obtain ⟨W, hW⟩ : ∃ W, (w.alloc (.cells #[Value.slice A n ca, Value.slice B m cb] 25)).alloc (.cells Z7 41) = W := ⟨_, rfl⟩
  have hsz : w.heap.size + 1 < W.heap.size := by rw [← hW]; simp
  rw [hW] at p0 p1 h1 h2 HW
  have H2 := Lib.hid h2
  clear h1 h2
  go_wp2_with fail
  go_loopw [11] (fun s11 wr => ∃ i : Nat, i ≤ m ∧ s11 = .int .i64 i ∧ (∀ y ∈ ts.take i, (y.1 == id) = false) ∧ Below W.heap.size W wr) (fun s11 _ => m - (intOf s11).toNat)
  case atStart => exact ⟨0, by omega, rfl, (fun x hx => by simp at hx), Below.refl _ _⟩
  case round =>
    obtain ⟨i, hi, rfl, hP, hbel⟩ := hrel
    have HB := Lib.hid hbel
    have HP := Lib.hid hP
    have HWr := Lib.hid (HW.out.trans (hbel.mono HW.out.size))
    have H2r := Lib.hid (blk_below H2.out hbel hsz)
    have hszr : w.heap.size + 1 < wr.heap.size := Nat.lt_of_lt_of_le hsz hbel.size
    clear hP
    by_cases hlt : i < m
    · have i0 : (0 : Int) ≤ (i : Int) := by omega
      have i1 : (i : Int) < (m : Int) := by omega
      obtain ⟨ad, x, cs, rfl, hx, hat, hrd⟩ := hb.get i hlt
      have HAt := Lib.hid (hat.below HWr.out)
      have HR := Lib.hid hrd
      obtain ⟨i1, l1, t1, d1, r1, e1, g1, A1, c1', rfl, rfl, ok1, hg1⟩ := rd_task hrd
      have HG := Lib.hid hg1
      have HOK := Lib.hid ok1
      have HL := Lib.hid (hsm _ (List.mem_of_getElem? hx))
      by_cases hid : i1 = id
      · have hb2 : (i1 == id) = true := beq_iff_eq.2 hid
        have HV := Lib.hid (show findT ts id = ((i1, l1, t1, d1, r1, e1, g1, ()), true) by unfold findT; rw [find_at HP.out hx hb2])
        clear hx hb hbel hat hrd hg1 ok1 hid
        have hg2 := heap_alloc_new wr (.cells #[Value.int .u64 i1, Value.int .u64 l1, Value.string t1, Value.bool d1, Value.float .f64 r1, Value.float .f64 e1, Value.slice A1 g1.length c1'] 41)
        obtain ⟨v0, v1, v2, v3, v4, v5, v6⟩ := blk7 hg2
        have HG2 := Lib.hid hg2
        clear hg2
        go_wp2_with (first
          | (refine wpL_load rfl 41 _ rfl _ rfl _ _ HAt.out Try.underlying41 rfl rfl ?_))
        have HWa := Lib.hid (HWr.out.trans ((below_alloc1 wr (.cells #[Value.int .u64 i1, Value.int .u64 l1, Value.string t1, Value.bool d1, Value.float .f64 r1, Value.float .f64 e1, Value.slice A1 g1.length c1'] 41)).mono HWr.out.size))
        refine (clone_str _ anyB A1 g1.length c1' g1 (HG.out.below HWa.out) HL.out).mono ?_
        rintro e w3 ⟨A3, c3, rfl, hr3, hw3⟩
        have hq := blk_below HG2.out hw3 (by simp)
        obtain ⟨u0, u1, u2, u3, u4, u5, u6⟩ := blk7 hq
        have f6 := blk_free hq 6
        have HQ := Lib.hid hq
        have HR3 := Lib.hid hr3
        have HB3 := Lib.hid (HWa.out.trans (hw3.mono HWa.out.size))
        have H2s := Lib.hid (blk_below (blk_alloc H2r.out (.cells #[Value.int .u64 i1, Value.int .u64 l1, Value.string t1, Value.bool d1, Value.float .f64 r1, Value.float .f64 e1, Value.slice A1 g1.length c1'] 41)) hw3 (by simp; omega))
        have hs3 : wr.heap.size < w3.heap.size := by have := hw3.size; simp at this; omega
        clear v0 v1 v2 v3 v4 v5 v6 hq hr3 hw3
        have F1 := Lib.hid (blk_set HQ.out 6 (.slice A3 g1.length c3))
        have F2 := Lib.hid (blk_other H2s.out 6 (.slice A3 g1.length c3) (show w.heap.size + 1 ≠ wr.heap.size by omega))
        have F3 := Lib.hid (show Below w.heap.size w (w3.setCell ⟨wr.heap.size, 6, none⟩ (.slice A3 g1.length c3)) from HB3.out.setCell (by show w.heap.size ≤ wr.heap.size; omega) _)
        have F4 := Lib.hid (show Rd (w3.setCell ⟨wr.heap.size, 6, none⟩ (.slice A3 g1.length c3)) (fun k => wr.heap.size < k) (.sl .str) g1 [.slice A3 g1.length c3] from HR3.out.of (fun a v hk hc => cell_grown (grown_set (grown_refl _ _)) hc (by intro e; injection e with e; simp at hk; omega)) (fun k hk _ => by simp at hk; omega))
        obtain ⟨W5, hW5⟩ : ∃ W5, w3.setCell ⟨wr.heap.size, 6, none⟩ (.slice A3 g1.length c3) = W5 := ⟨_, rfl⟩
        rw [hW5] at F1 F2 F3 F4
        go_wp2_with (first
          | (refine wpL_load rfl 41 (.tmp 7) rfl ⟨wr.heap.size, 0, none⟩ rfl [.int .u64 i1, .int .u64 l1, .string t1, .bool d1, .float .f64 r1, .float .f64 e1, .slice A3 g1.length c3] _ (At.blk F1.out) Try.underlying41 rfl rfl ?_)
          | (refine wpL_store rfl 41 (.tmp 4) (.tmp 23) rfl (w.heap.size + 1) rfl _ _ 41 rfl F2.out rfl rfl (by intro v hv; simp at hv; rcases hv with rfl | rfl | rfl | rfl | rfl | rfl | rfl <;> rfl) ?_
             intro w4 hw4 hg4))
        refine bodyPost_ret (result_pair rfl _ _ (w.heap.size + 1) 41 _ (0, 0) _ rfl hw4 Try.underlying41 rfl rfl) rfl ?_
        have hb4 := F3.out.grown hg4 F3.out.size (fun k e => by injection e; omega)
        rw [HV.out]
        refine ⟨_, rfl, rd_task_mk HOK.out (F4.out.of (fun a v hk hc => cell_grown hg4 hc (by intro e; injection e with e; omega)) (fun _ _ _ => trivial)), hb4⟩
      · have hb2 : (i1 == id) = false := beq_eq_false_iff_ne.2 hid
        have HN := Lib.hid (take_allG (P := fun y : TASK.Ty => (y.1 == id) = false) HP.out hx hb2)
        clear hx hb hbel hat hrd hg1 ok1 hid
        go_wp2_with (first
          | (refine wpL_load rfl 41 _ rfl _ rfl _ _ HAt.out Try.underlying41 rfl rfl ?_))
        go_roundw
        case measure => simp [intOf]; omega
        case rel => exact ⟨i + 1, by omega, by go_num, HN.out, HB.out.trans ((below_alloc1 wr _).mono HB.out.size)⟩
    · obtain rfl : i = m := by omega
      have HV := Lib.hid (show findT ts id = (zeroT, false) by unfold findT; rw [find_no (take_full HP.out hbl)])
      go_wp2_with (first
        | (refine wpL_store rfl 41 (.tmp 4) (.tmp 25) rfl (w.heap.size + 1) rfl _ _ 41 rfl H2r.out rfl rfl (by intro v hv; simp at hv; rcases hv with rfl | rfl | rfl | rfl | rfl | rfl | rfl <;> rfl) ?_
           intro w4 hw4 hg4))
      refine bodyPost_ret (result_pair rfl _ _ (w.heap.size + 1) 41 _ (0, 0) _ rfl hw4 Try.underlying41 rfl rfl) rfl ?_
      have hb4 := HWr.out.grown hg4 HWr.out.size (fun k e => by injection e; omega)
      rw [HV.out]
      exact ⟨Z7.toList, rfl, rd_zeroT _ _, hb4⟩
set_option maxRecDepth 20000 in
/-- What a closure of task.Lists tells: by the Id that it holds. -/
theorem listsf_any (w : World) (i1 id : Int) (t1 : ByteArray) (g : Nat) (hc : w.cell? ⟨g, 0, none⟩ = some (.int .u64 id)) :
    Calls Try.prog 28 #[.agg #[Value.int .u64 i1, Value.string t1], .pointer (some ⟨g, 0, none⟩)] w fun e w' => e = .returned (.bool (i1 == id)) ∧ Below w.heap.size w w' := by
  have h1 := heap_alloc_new w (.cells #[Value.int .u64 i1, Value.string t1] 37)
  obtain ⟨p0, p1⟩ := blk2 h1
  have hc2 := cell_below (below_alloc1 w (.cells #[Value.int .u64 i1, Value.string t1] 37)) hc
  have HW := Lib.hid (below_alloc1 w (.cells #[Value.int .u64 i1, Value.string t1] 37))
  clear h1 hc
  go_enter Try.func28, Try.ntmps28
  go_wp2_with fail
  go_ret
  exact ⟨rfl, HW.out⟩
def IdxPost (w : World) (ls : List LIST.Ty) (id : Int) (e : Ending) (w' : World) : Prop :=
  (∃ (i : Nat) (x : LIST.Ty), e = .returned (.int .i64 i) ∧ ls[i]? = some x ∧ findL ls id = (x, true) ∧ Below w.heap.size w w') ∨ (e = .returned (.int .i64 (-1)) ∧ findL ls id = (zeroL, false) ∧ Below w.heap.size w w')
set_option maxHeartbeats 2000000 in
set_option maxRecDepth 20000 in
theorem listsidx_any (w : World) (A : Option Addr) (n ca : Nat) (ls : List LIST.Ty) (id : Int) (g : Nat) (ha : Rows w anyB LIST A n ls) (hn : n ≤ 9223372036854775807) (hc : w.cell? ⟨g, 0, none⟩ = some (.int .u64 id)) :
    Calls Try.prog 27 #[.slice A n ca, .func (.func 28) #[] #[.pointer (some ⟨g, 0, none⟩)]] w (IdxPost w ls id) := by
  have hbl := ha.1
  go_enter Try.func27, Try.ntmps27
  go_wp2_with fail
  go_loopw [8] (fun s8 wr => ∃ i : Nat, i ≤ n ∧ s8 = .int .i64 i ∧ (∀ y ∈ ls.take i, (y.1 == id) = false) ∧ Below w.heap.size w wr) (fun s8 _ => n - (intOf s8).toNat)
  case atStart => exact ⟨0, by omega, rfl, (fun x hx => by simp at hx), Below.refl _ _⟩
  case round =>
    obtain ⟨i, hi, rfl, hP, hbel⟩ := hrel
    have HB := Lib.hid hbel
    have HP := Lib.hid hP
    clear hP
    by_cases hlt : i < n
    · have i0 : (0 : Int) ≤ (i : Int) := by omega
      have i1 : (i : Int) < (n : Int) := by omega
      obtain ⟨ad, x, cs, rfl, hx, hat, hrd⟩ := ha.get i hlt
      have HAt := Lib.hid (hat.below hbel)
      obtain ⟨k1, t1, rfl, rfl, ok1⟩ := rd_lst hrd
      have HT := Lib.hid (listsf_any wr k1 id t1 g (cell_below hbel hc))
      by_cases hid : k1 = id
      · have hb2 : (k1 == id) = true := beq_iff_eq.2 hid
        have HV := Lib.hid (show findL ls id = ((k1, t1, ()), true) by unfold findL; rw [find_at HP.out hx hb2])
        have HX := Lib.hid hx
        clear hx hbel hat hrd ok1 hid ha
        rw [hb2] at HT
        go_wp2_with (first
          | (refine wpL_load rfl 37 _ rfl _ rfl _ _ HAt.out Try.underlying37 rfl rfl ?_)
          | (go_at_call 28; refine HT.out.mono ?_; rintro e w2 ⟨rfl, hw2⟩))
        go_ret
        exact .inl ⟨i, _, rfl, HX.out, HV.out, HB.out.trans (hw2.mono HB.out.size)⟩
      · have hb2 : (k1 == id) = false := beq_eq_false_iff_ne.2 hid
        have HN := Lib.hid (take_allG (P := fun y : LIST.Ty => (y.1 == id) = false) HP.out hx hb2)
        clear hx hbel hat hrd ok1 hid ha
        rw [hb2] at HT
        go_wp2_with (first
          | (refine wpL_load rfl 37 _ rfl _ rfl _ _ HAt.out Try.underlying37 rfl rfl ?_)
          | (go_at_call 28; refine HT.out.mono ?_; rintro e w2 ⟨rfl, hw2⟩))
        go_roundw
        case measure => simp [intOf]; omega
        case rel => exact ⟨i + 1, by omega, by go_num, HN.out, HB.out.trans (hw2.mono HB.out.size)⟩
    · obtain rfl : i = n := by omega
      have HV := Lib.hid (show findL ls id = (zeroL, false) by unfold findL; rw [find_no (take_full HP.out hbl)])
      go_wp2_with fail
      go_ret
      exact .inr ⟨rfl, HV.out, HB.out⟩
set_option maxHeartbeats 2000000 in
set_option maxRecDepth 20000 in
theorem lists_any (w : World) (A B : Option Addr) (n ca m cb : Nat) (ls : List LIST.Ty) (id : Int) (ha : Rows w anyB LIST A n ls) (hn : n ≤ 9223372036854775807) :
    Calls Try.prog 12 #[.agg #[Value.slice A n ca, Value.slice B m cb], .int .u64 id] w (FindLPost w (findL ls id)) := by
  have hsz : (((w.alloc (.cells #[Value.slice A n ca, Value.slice B m cb] 25)).alloc (.cells #[.int .u64 id] 35)).alloc (.cells Z2 37)).heap.size = w.heap.size + 3 := by simp
  have h1 := blk_alloc (blk_alloc (heap_alloc_new w (.cells #[Value.slice A n ca, Value.slice B m cb] 25)) (.cells #[.int .u64 id] 35)) (.cells Z2 37)
  have h2 := blk_alloc (heap_alloc2_new w (.cells #[Value.slice A n ca, Value.slice B m cb] 25) (.cells #[.int .u64 id] 35)) (.cells Z2 37)
  have h3 := heap_alloc_new ((w.alloc (.cells #[Value.slice A n ca, Value.slice B m cb] 25)).alloc (.cells #[.int .u64 id] 35)) (.cells Z2 37)
  rw [show ((w.alloc (.cells #[Value.slice A n ca, Value.slice B m cb] 25)).alloc (.cells #[.int .u64 id] 35)).heap.size = w.heap.size + 2 by simp] at h3
  have HW := Lib.hid (((below_alloc1 w (.cells #[Value.slice A n ca, Value.slice B m cb] 25)).alloc (by simp) (.cells #[.int .u64 id] 35)).alloc (by simp; omega) (.cells Z2 37))
  obtain ⟨p0, p1⟩ := blk2 h1
  have q0 := blk_at h2 0 _ rfl
  go_enter Try.func12, Try.ntmps12
  obtain ⟨W, hW⟩ : ∃ W, ((w.alloc (.cells #[Value.slice A n ca, Value.slice B m cb] 25)).alloc (.cells #[.int .u64 id] 35)).alloc (.cells Z2 37) = W := ⟨_, rfl⟩
  rw [hW] at p0 p1 q0 h3 HW hsz
  have H3 := Lib.hid h3
  clear h1 h2 h3
  go_wp2_with fail
  refine (listsidx_any W A n ca ls id (w.heap.size + 1) (ha.below HW.out) hn q0).mono ?_
  rintro e w2 (⟨i, x, rfl, hx, hv, hw2⟩ | ⟨rfl, hv, hw2⟩)
  · have p0' := cell_below hw2 p0
    have H32 := Lib.hid (blk_below H3.out hw2 (by omega))
    have HB2 := Lib.hid (HW.out.trans (hw2.mono HW.out.size))
    have hil : i < n := by have := (List.getElem?_eq_some_iff.1 hx).1; have := ha.1; omega
    obtain ⟨ad, x', cs, rfl, hx', hat, hrd⟩ := ha.get i hil
    rw [hx] at hx'
    injection hx' with hx'
    subst hx'
    have HAt := Lib.hid (hat.below HB2.out)
    have HR := Lib.hid hrd
    obtain ⟨k1, t1, rfl, rfl, ok1⟩ := rd_lst hrd
    have HV := Lib.hid hv
    have i0 : (0 : Int) ≤ (i : Int) := by omega
    have i1 : (i : Int) < (n : Int) := by omega
    have i2 : ¬ (i : Int) < 0 := by omega
    clear hx hat hrd ok1 hv hw2 p0 p1 q0
    go_wp2_with (first
      | (refine wpL_load rfl 37 _ rfl _ rfl _ _ HAt.out Try.underlying37 rfl rfl ?_)
      | (refine wpL_store rfl 37 (.tmp 4) (.tmp 18) rfl (w.heap.size + 2) rfl _ _ 37 rfl H32.out rfl rfl (by intro v hv; simp at hv; rcases hv with rfl | rfl <;> rfl) ?_
         intro w4 hw4 hg4))
    refine bodyPost_ret (result_pair rfl _ _ (w.heap.size + 2) 37 _ (0, 0) _ rfl hw4 Try.underlying37 rfl rfl) rfl ?_
    have hb4 := HB2.out.grown hg4 HB2.out.size (fun k e => by injection e; omega)
    rw [HV.out]
    exact ⟨_, rfl, HR.out.below hb4, hb4⟩
  · have H32 := Lib.hid (blk_below H3.out hw2 (by omega))
    have HB2 := Lib.hid (HW.out.trans (hw2.mono HW.out.size))
    have HV := Lib.hid hv
    clear hv hw2 p0 p1 q0
    go_wp2_with (first
      | (refine wpL_store rfl 37 (.tmp 4) (.tmp 13) rfl (w.heap.size + 2) rfl _ _ 37 rfl H32.out rfl rfl (by intro v hv; simp at hv; rcases hv with rfl | rfl <;> rfl) ?_
         intro w4 hw4 hg4))
    refine bodyPost_ret (result_pair rfl _ _ (w.heap.size + 2) 37 _ (0, 0) _ rfl hw4 Try.underlying37 rfl rfl) rfl ?_
    have hb4 := HB2.out.grown hg4 HB2.out.size (fun k e => by injection e; omega)
    rw [HV.out]
    exact ⟨Z2.toList, rfl, rd_zeroL _ _, hb4⟩
end Go.Proofs.Ytfjnpiahloncmaa
