import Derived.Test.YtfjnpiahloncmaaGreatTskF
namespace Go.Proofs.YtfjnpiahloncmaaGreat
open Go.RowKit Cdc
set_option linter.unusedVariables false
set_option linter.unusedSimpArgs false
attribute [local go_sem] run_store_float
set_option maxRecDepth 20000 in
/-- What a closure of task.Lists tells: by the Id that it holds. -/
theorem listsf_any (w : World) (i1 id : Int) (t1 : ByteArray) (g : Nat) (hc : w.cell? ⟨g, 0, none⟩ = some (.int .u64 id)) :
    Calls Tryz.prog 40 #[.agg #[Value.int .u64 i1, Value.string t1], .pointer (some ⟨g, 0, none⟩)] w fun e w' => e = .returned (.bool (i1 == id)) ∧ Below w.heap.size w w' := by
  have h1 := heap_alloc_new w (.cells #[Value.int .u64 i1, Value.string t1] 42)
  obtain ⟨p0, p1⟩ := blk2 h1
  have hc2 := cell_below (below_alloc1 w (.cells #[Value.int .u64 i1, Value.string t1] 42)) hc
  have HW := Lib.hid (below_alloc1 w (.cells #[Value.int .u64 i1, Value.string t1] 42))
  clear h1 hc
  go_enter Tryz.func40, Tryz.ntmps40
  go_wp2_with fail
  go_ret
  exact ⟨rfl, HW.out⟩
def IdxPost (w : World) (ls : List LIST.Ty) (id : Int) (e : Ending) (w' : World) : Prop :=
  (∃ (i : Nat) (x : LIST.Ty), e = .returned (.int .i64 i) ∧ ls[i]? = some x ∧ findL ls id = (x, true) ∧ Below w.heap.size w w') ∨ (e = .returned (.int .i64 (-1)) ∧ findL ls id = (zeroL, false) ∧ Below w.heap.size w w')
set_option maxHeartbeats 2000000 in
set_option maxRecDepth 20000 in
theorem listsidx_any (w : World) (A : Option Addr) (n ca : Nat) (ls : List LIST.Ty) (id : Int) (g : Nat) (ha : Rows w anyB LIST A n ls) (hn : n ≤ 9223372036854775807) (hc : w.cell? ⟨g, 0, none⟩ = some (.int .u64 id)) :
    Calls Tryz.prog 39 #[.slice A n ca, .func (.func 40) #[] #[.pointer (some ⟨g, 0, none⟩)]] w (IdxPost w ls id) := by
  have hbl := ha.1
  go_enter Tryz.func39, Tryz.ntmps39
  go_wp2_with fail
  go_loopw [8] (fun s8 wr => ∃ i : Nat, i ≤ n ∧ s8 = .int .i64 i ∧ (∀ y ∈ ls.take i, (y.1 == id) = false) ∧ Below w.heap.size w wr) (fun s8 _ => n - (intOf s8).toNat)
  case atStart => exact ⟨0, by omega, rfl, (fun x hx => by simp at hx), Below.refl _ _⟩
  case round =>
    obtain ⟨i, hi, rfl, hP, hbel⟩ := hrel
    have HB := Lib.hid hbel
    have HP := Lib.hid hP
    clear hP
    by_cases hlt : i < n
    · have i0 : (0 : Int) ≤ (i : Int) := by omega
      have i1 : (i : Int) < (n : Int) := by omega
      obtain ⟨ad, x, cs, rfl, hx, hat, hrd⟩ := ha.get i hlt
      have HAt := Lib.hid (hat.below hbel)
      obtain ⟨k1, t1, rfl, rfl, ok1⟩ := rd_lst hrd
      have HT := Lib.hid (listsf_any wr k1 id t1 g (cell_below hbel hc))
      by_cases hid : k1 = id
      · have hb2 : (k1 == id) = true := beq_iff_eq.2 hid
        have HV := Lib.hid (show findL ls id = ((k1, t1, ()), true) by unfold findL; rw [find_at HP.out hx hb2])
        have HX := Lib.hid hx
        clear hx hbel hat hrd ok1 hid ha
        rw [hb2] at HT
        go_wp2_with (first
          | (refine wpL_load rfl 42 _ rfl _ rfl _ _ HAt.out Tryz.underlying42 rfl rfl ?_)
          | (go_at_call 40; refine HT.out.mono ?_; rintro e w2 ⟨rfl, hw2⟩))
        go_ret
        exact .inl ⟨i, _, rfl, HX.out, HV.out, HB.out.trans (hw2.mono HB.out.size)⟩
      · have hb2 : (k1 == id) = false := beq_eq_false_iff_ne.2 hid
        have HN := Lib.hid (take_allG (P := fun y : LIST.Ty => (y.1 == id) = false) HP.out hx hb2)
        clear hx hbel hat hrd ok1 hid ha
        rw [hb2] at HT
        go_wp2_with (first
          | (refine wpL_load rfl 42 _ rfl _ rfl _ _ HAt.out Tryz.underlying42 rfl rfl ?_)
          | (go_at_call 40; refine HT.out.mono ?_; rintro e w2 ⟨rfl, hw2⟩))
        go_roundw
        case measure => simp [intOf]; omega
        case rel => exact ⟨i + 1, by omega, by go_num, HN.out, HB.out.trans (hw2.mono HB.out.size)⟩
    · obtain rfl : i = n := by omega
      have HV := Lib.hid (show findL ls id = (zeroL, false) by unfold findL; rw [find_no (take_full HP.out hbl)])
      go_wp2_with fail
      go_ret
      exact .inr ⟨rfl, HV.out, HB.out⟩
set_option maxHeartbeats 2000000 in
set_option maxRecDepth 20000 in
theorem lists_any (w : World) (A B : Option Addr) (n ca m cb : Nat) (ls : List LIST.Ty) (id : Int) (ha : Rows w anyB LIST A n ls) (hn : n ≤ 9223372036854775807) :
    Calls Tryz.prog 14 #[.agg #[Value.slice A n ca, Value.slice B m cb], .int .u64 id] w (FindLPost w (findL ls id)) := by
  have hsz : (((w.alloc (.cells #[Value.slice A n ca, Value.slice B m cb] 25)).alloc (.cells #[.int .u64 id] 33)).alloc (.cells Z2 42)).heap.size = w.heap.size + 3 := by simp
  have h1 := blk_alloc (blk_alloc (heap_alloc_new w (.cells #[Value.slice A n ca, Value.slice B m cb] 25)) (.cells #[.int .u64 id] 33)) (.cells Z2 42)
  have h2 := blk_alloc (heap_alloc2_new w (.cells #[Value.slice A n ca, Value.slice B m cb] 25) (.cells #[.int .u64 id] 33)) (.cells Z2 42)
  have h3 := heap_alloc_new ((w.alloc (.cells #[Value.slice A n ca, Value.slice B m cb] 25)).alloc (.cells #[.int .u64 id] 33)) (.cells Z2 42)
  rw [show ((w.alloc (.cells #[Value.slice A n ca, Value.slice B m cb] 25)).alloc (.cells #[.int .u64 id] 33)).heap.size = w.heap.size + 2 by simp] at h3
  have HW := Lib.hid (((below_alloc1 w (.cells #[Value.slice A n ca, Value.slice B m cb] 25)).alloc (by simp) (.cells #[.int .u64 id] 33)).alloc (by simp; omega) (.cells Z2 42))
  obtain ⟨p0, p1⟩ := blk2 h1
  have q0 := blk_at h2 0 _ rfl
  go_enter Tryz.func14, Tryz.ntmps14
  obtain ⟨W, hW⟩ : ∃ W, ((w.alloc (.cells #[Value.slice A n ca, Value.slice B m cb] 25)).alloc (.cells #[.int .u64 id] 33)).alloc (.cells Z2 42) = W := ⟨_, rfl⟩
  rw [hW] at p0 p1 q0 h3 HW hsz
  have H3 := Lib.hid h3
  clear h1 h2 h3
  go_wp2_with fail
  refine (listsidx_any W A n ca ls id (w.heap.size + 1) (ha.below HW.out) hn q0).mono ?_
  rintro e w2 (⟨i, x, rfl, hx, hv, hw2⟩ | ⟨rfl, hv, hw2⟩)
  · have p0' := cell_below hw2 p0
    have H32 := Lib.hid (blk_below H3.out hw2 (by omega))
    have HB2 := Lib.hid (HW.out.trans (hw2.mono HW.out.size))
    have hil : i < n := by have := (List.getElem?_eq_some_iff.1 hx).1; have := ha.1; omega
    obtain ⟨ad, x', cs, rfl, hx', hat, hrd⟩ := ha.get i hil
    rw [hx] at hx'
    injection hx' with hx'
    subst hx'
    have HAt := Lib.hid (hat.below HB2.out)
    have HR := Lib.hid hrd
    obtain ⟨k1, t1, rfl, rfl, ok1⟩ := rd_lst hrd
    have HV := Lib.hid hv
    have i0 : (0 : Int) ≤ (i : Int) := by omega
    have i1 : (i : Int) < (n : Int) := by omega
    have i2 : ¬ (i : Int) < 0 := by omega
    clear hx hat hrd ok1 hv hw2 p0 p1 q0
    go_wp2_with (first
      | (refine wpL_load rfl 42 _ rfl _ rfl _ _ HAt.out Tryz.underlying42 rfl rfl ?_)
      | (refine wpL_store rfl 42 (.tmp 4) (.tmp 18) rfl (w.heap.size + 2) rfl _ _ 42 rfl H32.out rfl rfl (by intro v hv; simp at hv; rcases hv with rfl | rfl <;> rfl) ?_
         intro w4 hw4 hg4))
    refine bodyPost_ret (result_pair rfl _ _ (w.heap.size + 2) 42 _ (0, 0) _ rfl hw4 Tryz.underlying42 rfl rfl) rfl ?_
    have hb4 := HB2.out.grown hg4 HB2.out.size (fun k e => by injection e; omega)
    rw [HV.out]
    exact ⟨_, rfl, HR.out.below hb4, hb4⟩
  · have H32 := Lib.hid (blk_below H3.out hw2 (by omega))
    have HB2 := Lib.hid (HW.out.trans (hw2.mono HW.out.size))
    have HV := Lib.hid hv
    clear hv hw2 p0 p1 q0
    go_wp2_with (first
      | (refine wpL_store rfl 42 (.tmp 4) (.tmp 13) rfl (w.heap.size + 2) rfl _ _ 42 rfl H32.out rfl rfl (by intro v hv; simp at hv; rcases hv with rfl | rfl <;> rfl) ?_
         intro w4 hw4 hg4))
    refine bodyPost_ret (result_pair rfl _ _ (w.heap.size + 2) 42 _ (0, 0) _ rfl hw4 Tryz.underlying42 rfl rfl) rfl ?_
    have hb4 := HB2.out.grown hg4 HB2.out.size (fun k e => by injection e; omega)
    rw [HV.out]
    exact ⟨Z2.toList, rfl, rd_zeroL _ _, hb4⟩
end Go.Proofs.YtfjnpiahloncmaaGreat
