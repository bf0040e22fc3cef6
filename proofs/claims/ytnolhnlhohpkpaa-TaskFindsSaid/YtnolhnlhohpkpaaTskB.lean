import Derived.Test.YtnolhnlhohpkpaaTskA
import Derived.Test.YtnolhnlhohpkpaaGd
namespace Go.Proofs.Ytnolhnlhohpkpaa
open Go.RowKit Cdc
set_option linter.unusedVariables false
set_option linter.unusedSimpArgs false
attribute [local go_sem] run_store_float
attribute [local go_sem high] run_eq_list run_neq_list
set_option maxHeartbeats 4000000 in
set_option maxRecDepth 20000 in
theorem x_TaskFinds (ls : List LIST.Ty) (ts : List TASK.Ty) (lo : List LIST.Ty) (tq : List TASK.Ty) (A B C D : Option Addr) (n ca m cb k cc q cd : Nat) (id : Int) (text : ByteArray) (w : World)
    (hs : Rd w anyB STATE (ls, ts, ()) [.slice A n ca, .slice B m cb]) (ho : Rd w anyB STATE (lo, tq, ()) [.slice C k cc, .slice D q cd]) (htx : text.size ≤ 9223372036854775807) :
    Calls Try.prog 7 #[.agg #[Value.slice A n ca, Value.slice B m cb], .agg #[Value.slice C k cc, Value.slice D q cd], .int .u64 id, .string text] w fun e w' => e = .returned (.bool true) ∧ Below w.heap.size w w' := by
  obtain ⟨ls', ts', A', ca', B', cb', e1, e2, _, h1, h2⟩ := rd_state hs
  obtain ⟨rfl, rfl⟩ : ls = ls' ∧ ts = ts' := by simpa using e1
  have hn := rd_rowsN h1
  have hm := rd_rowsN h2
  obtain ⟨⟨rfl, rfl, rfl⟩, rfl, rfl, rfl⟩ : (A = A' ∧ n = ls.length ∧ ca = ca') ∧ B = B' ∧ m = ts.length ∧ cb = cb' := by simpa using e2
  obtain ⟨lo', tq', A', ca', B', cb', e1, e2, _, h3, h4⟩ := rd_state ho
  obtain ⟨rfl, rfl⟩ : lo = lo' ∧ tq = tq' := by simpa using e1
  have hk := rd_rowsN h3
  have hq := rd_rowsN h4
  obtain ⟨⟨rfl, rfl, rfl⟩, rfl, rfl, rfl⟩ : (C = A' ∧ k = lo.length ∧ cc = ca') ∧ D = B' ∧ q = tq.length ∧ cd = cb' := by simpa using e2
  obtain ⟨n, hln⟩ : ∃ n, ls.length = n := ⟨_, rfl⟩
  obtain ⟨m, hlm⟩ : ∃ n, ts.length = n := ⟨_, rfl⟩
  obtain ⟨k, hlk⟩ : ∃ n, lo.length = n := ⟨_, rfl⟩
  obtain ⟨q, hlq⟩ : ∃ n, tq.length = n := ⟨_, rfl⟩
  rw [hln] at hn ⊢
  rw [hlm] at hm ⊢
  rw [hlk] at hk ⊢
  rw [hlq] at hq ⊢
  have HA := Lib.hid hn.2.2.2
  have HBr := Lib.hid hm.2.2.2
  have HC := Lib.hid hk.2.2.2
  have HD := Lib.hid hq.2.2.2
  have bn : n ≤ 9223372036854775807 := by omega
  have bm : m ≤ 9223372036854775807 := by omega
  have bk : k ≤ 9223372036854775807 := by omega
  have bq : q ≤ 9223372036854775807 := by omega
  clear hs ho h1 h2 h3 h4 hn hm hk hq e1 e2 hln hlm hlk hlq
  have hp := blk_alloc (heap_alloc_new w (.cells #[Value.slice A n ca, Value.slice B m cb] 59)) (.cells #[Value.slice C k cc, Value.slice D q cd] 59)
  have hq := heap_alloc2_new w (.cells #[Value.slice A n ca, Value.slice B m cb] 59) (.cells #[Value.slice C k cc, Value.slice D q cd] 59)
  have hw := (below_alloc1 w (.cells #[Value.slice A n ca, Value.slice B m cb] 59)).alloc (by simp) (.cells #[Value.slice C k cc, Value.slice D q cd] 59)
  go_enter Try.func7, Try.ntmps7
  obtain ⟨v0, hv0⟩ : ∃ v0, (w.alloc (.cells #[Value.slice A n ca, Value.slice B m cb] 59)).alloc (.cells #[Value.slice C k cc, Value.slice D q cd] 59) = v0 := ⟨_, rfl⟩
  rw [hv0] at hp hq hw
  have HS := Lib.hid (At.blk hp)
  have HO := Lib.hid (At.blk hq)
  have HW := Lib.hid hw
  clear hp hq hw
  go_wp2_with fail
  refine (tsk_awake v0).mono ?_
  rintro e v1 ⟨rfl, hb⟩
  have HB1 := Lib.hid hb
  clear hb
  go_wp2_with (refine wpL_load rfl 59 (.tmp 4) rfl ⟨w.heap.size, 0, none⟩ rfl _ _ (HS.out.below HB1.out) Try.underlying59 rfl rfl ?_)
  refine (light_any v1 A B n ca m cb ls ts (HA.out.below (HW.out.trans (HB1.out.mono HW.out.size))) (HBr.out.below (HW.out.trans (HB1.out.mono HW.out.size))) bn bm).mono ?_
  rintro e v2 ⟨b, rfl, hb, hb2⟩
  have HB2 := Lib.hid (HB1.out.trans (hb2.mono HB1.out.size))
  cases b with
  | false =>
    clear hb hb2
    go_wp2_with fail
    go_ret
    exact ⟨rfl, HW.out.trans (HB2.out.mono HW.out.size)⟩
  | true =>
  have HL1 := Lib.hid (hb rfl)
  clear hb hb2
  go_wp2_with (refine wpG_load (by rfl) 59 (.tmp 5) rfl ⟨w.heap.size + 1, 0, none⟩ rfl _ _ (HO.out.below HB2.out) Try.underlying59 rfl rfl ?_)
  refine (light_any v2 C D k cc q cd lo tq (HC.out.below (HW.out.trans (HB2.out.mono HW.out.size))) (HD.out.below (HW.out.trans (HB2.out.mono HW.out.size))) bk bq).mono ?_
  rintro e v3 ⟨b, rfl, hb, hb2⟩
  have HB3 := Lib.hid (HB2.out.trans (hb2.mono HB2.out.size))
  cases b with
  | false =>
    clear hb hb2
    go_wp2_with fail
    go_ret
    exact ⟨rfl, HW.out.trans (HB3.out.mono HW.out.size)⟩
  | true =>
  have HL2 := Lib.hid (hb rfl)
  clear hb hb2
  by_cases h200 : (200 : Int) < (text.size : Int)
  · go_wp2_with fail
    go_ret
    exact ⟨rfl, HW.out.trans (HB3.out.mono HW.out.size)⟩
  go_wp2_with (refine wpL_load rfl 59 (.tmp 4) rfl ⟨w.heap.size, 0, none⟩ rfl _ _ (HS.out.below HB3.out) Try.underlying59 rfl rfl ?_)
  have HX3 := Lib.hid (HW.out.trans (HB3.out.mono HW.out.size))
  refine (find_any v3 A B n ca m cb ts id (HBr.out.below HX3.out) bm (fun t ht => by have := (HL1.out.2.2.2 t ht).2.1; omega)).mono ?_
  rintro e v4 ⟨cs1, rfl, hr1, hb4⟩
  obtain ⟨i1, l1, t1, d1, r1, e1, g1, A1, c1', f1, rfl, ok1, hg1⟩ := rd_task hr1
  have HB4 := Lib.hid (HB3.out.trans (hb4.mono HB3.out.size))
  have HG1 := Lib.hid hg1
  have HOK := Lib.hid ok1
  have HF1 := Lib.hid f1
  obtain ⟨bf, hbf⟩ : ∃ b, (findT ts id).2 = b := ⟨_, rfl⟩
  rw [hbf]
  clear hr1 hb4 ok1 hg1
  have HB4a := Lib.hid (HB4.out.trans ((below_alloc1 v4 (.cells #[Value.int .u64 i1, Value.int .u64 l1, Value.string t1, Value.bool d1, Value.float .f64 r1, Value.float .f64 e1, Value.slice A1 g1.length c1'] 63)).mono HB4.out.size))
  have HT1 := Lib.hid (At.blk (heap_alloc_new v4 (.cells #[Value.int .u64 i1, Value.int .u64 l1, Value.string t1, Value.bool d1, Value.float .f64 r1, Value.float .f64 e1, Value.slice A1 g1.length c1'] 63)))
  go_wp2_with (refine wpL_load rfl 59 (.tmp 4) rfl ⟨w.heap.size, 0, none⟩ rfl _ _ (HS.out.below HB4a.out) Try.underlying59 rfl rfl ?_)
  refine (rtask_any _ A B n ca m cb ts id (HBr.out.below (HW.out.trans (HB4a.out.mono HW.out.size))) bm).mono ?_
  rintro e v5 ⟨cs2, rfl, hr2, hb5⟩
  obtain ⟨i2, l2, t2, d2, r2, e2, g2, A2, c2', f2, rfl, ok2, hg2⟩ := rd_task hr2
  rw [HF1.out] at f2
  obtain ⟨rfl, rfl, rfl, rfl, rfl, rfl, rfl⟩ : i1 = i2 ∧ l1 = l2 ∧ t1 = t2 ∧ d1 = d2 ∧ r1 = r2 ∧ e1 = e2 ∧ g1 = g2 := by simpa using f2
  rw [hbf]
  have HG2 := Lib.hid hg2
  have HB5 := Lib.hid (HB4a.out.trans (hb5.mono HB4a.out.size))
  have HC5 := Lib.hid hb5
  clear hr2 hb5 ok2 hg2 f2 f1
  have HB5a := Lib.hid (HB5.out.trans ((below_alloc1 v5 (.cells #[Value.int .u64 i1, Value.int .u64 l1, Value.string t1, Value.bool d1, Value.float .f64 r1, Value.float .f64 e1, Value.slice A2 g1.length c2'] 63)).mono HB5.out.size))
  have HT2 := Lib.hid (At.blk (heap_alloc_new v5 (.cells #[Value.int .u64 i1, Value.int .u64 l1, Value.string t1, Value.bool d1, Value.float .f64 r1, Value.float .f64 e1, Value.slice A2 g1.length c2'] 63)))
  go_wp2_with (refine wpL_load rfl 59 (.tmp 4) rfl ⟨w.heap.size, 0, none⟩ rfl _ _ (HS.out.below HB5a.out) Try.underlying59 rfl rfl ?_)
  refine (lists_any _ A B n ca m cb ls id (HA.out.below (HW.out.trans (HB5a.out.mono HW.out.size))) bn).mono ?_
  rintro e v6 ⟨cs3, rfl, hr3, hb6⟩
  obtain ⟨x1, y1, f3, rfl, ok3⟩ := rd_lst hr3
  have HF3 := Lib.hid f3
  obtain ⟨bl, hbl⟩ : ∃ b, (findL ls id).2 = b := ⟨_, rfl⟩
  rw [hbl]
  have HB6 := Lib.hid (HB5a.out.trans (hb6.mono HB5a.out.size))
  have HC6 := Lib.hid hb6
  clear hr3 hb6 ok3 f3
  have HB6a := Lib.hid (HB6.out.trans ((below_alloc1 v6 (.cells #[Value.int .u64 x1, Value.string y1] 67)).mono HB6.out.size))
  have HT3 := Lib.hid (At.blk (heap_alloc_new v6 (.cells #[Value.int .u64 x1, Value.string y1] 67)))
  go_wp2_with (refine wpL_load rfl 59 (.tmp 4) rfl ⟨w.heap.size, 0, none⟩ rfl _ _ (HS.out.below HB6a.out) Try.underlying59 rfl rfl ?_)
  refine (rlist_any _ A B n ca m cb ls id (HA.out.below (HW.out.trans (HB6a.out.mono HW.out.size))) bn).mono ?_
  rintro e v7 ⟨cs4, rfl, hr4, hb7⟩
  obtain ⟨x2, y2, f4, rfl, ok4⟩ := rd_lst hr4
  rw [HF3.out] at f4
  obtain ⟨rfl, rfl⟩ : x1 = x2 ∧ y1 = y2 := by simpa using f4
  rw [hbl]
  have HB7 := Lib.hid (HB6a.out.trans (hb7.mono HB6a.out.size))
  have HC7 := Lib.hid hb7
  clear hr4 hb7 ok4 f4
  have HT4 := Lib.hid (At.blk (heap_alloc_new v7 (.cells #[Value.int .u64 x1, Value.string y1] 67)))
  obtain ⟨v8, hv8⟩ : ∃ v8, v7.alloc (.cells #[Value.int .u64 x1, Value.string y1] 67) = v8 := ⟨_, rfl⟩
  have hb78 := below_alloc1 v7 (.cells #[Value.int .u64 x1, Value.string y1] 67)
  rw [hv8] at HT4 hb78
  have HB8 := Lib.hid (HB7.out.trans (hb78.mono HB7.out.size))
  have HU1 := Lib.hid (HT1.out.below (HC5.out.trans ((below_alloc1 v5 (.cells #[Value.int .u64 i1, Value.int .u64 l1, Value.string t1, Value.bool d1, Value.float .f64 r1, Value.float .f64 e1, Value.slice A2 g1.length c2'] 63)).mono HC5.out.size)))
  have HU2 := Lib.hid (HT2.out.below (HC6.out.trans ((below_alloc1 v6 (.cells #[Value.int .u64 x1, Value.string y1] 67)).mono HC6.out.size)))
  have HU3 := Lib.hid (HT3.out.below (HC7.out.trans (hb78.mono HC7.out.size)))
  have hc58 := (HC6.out.trans ((below_alloc1 v6 (.cells #[Value.int .u64 x1, Value.string y1] 67)).mono HC6.out.size)).trans ((HC7.out.trans (hb78.mono HC7.out.size)).mono (by have := HC6.out.size; simp at this ⊢; omega))
  have HV1 := Lib.hid (HU1.out.below hc58)
  have HV2 := Lib.hid (HU2.out.below (HC7.out.trans (hb78.mono HC7.out.size)))
  have HG8 := Lib.hid (HG1.out.below ((below_alloc1 v4 (.cells #[Value.int .u64 i1, Value.int .u64 l1, Value.string t1, Value.bool d1, Value.float .f64 r1, Value.float .f64 e1, Value.slice A1 g1.length c1'] 63)).trans (((HC5.out.trans ((below_alloc1 v5 (.cells #[Value.int .u64 i1, Value.int .u64 l1, Value.string t1, Value.bool d1, Value.float .f64 r1, Value.float .f64 e1, Value.slice A2 g1.length c2'] 63)).mono HC5.out.size)).trans (hc58.mono (by have := HC5.out.size; simp at this ⊢; omega))).mono (by simp))))
  have HG9 := Lib.hid (HG2.out.below ((below_alloc1 v5 (.cells #[Value.int .u64 i1, Value.int .u64 l1, Value.string t1, Value.bool d1, Value.float .f64 r1, Value.float .f64 e1, Value.slice A2 g1.length c2'] 63)).trans (hc58.mono (by simp))))
  have ht := eq_true_str y1
  have hg := guard_lst
  have htk : g1.length ≤ 9223372036854775807 := by have := rd_rowsN HG1.out; omega
  clear hc58 hb78 HT1 HT2 HT3
  go_wp2_with fail
  refine region_in (by kernel_rfl) (fun v9 h89 => ?_)
  have HB9 := Lib.hid (HB8.out.trans (h89.mono HB8.out.size))
  first
    | (refine take_in (i := 0) (v := ?_) rfl (by kernel_rfl) (by kernel_rfl) (by kernel_rfl) (fun _ _ _ h => h) (Or.inl ⟨by rfl, ?_⟩) (Below.refl _ _) ?_; rotate_left; (focus (intro W hSw; go_simp; (try rfl); done)); (try simp only [Act.put, List.setIfInBounds_toArray, List.set_cons_zero, List.set_cons_succ]))
    | (refine take_in (i := 0) (v := undef) rfl (by kernel_rfl) (by kernel_rfl) (by kernel_rfl) (fun _ _ _ h => h) (Or.inr ⟨by rfl, rfl⟩) (Below.refl _ _) ?_; (try simp only [Act.put, List.setIfInBounds_toArray, List.set_cons_zero, List.set_cons_succ]))
    | (fail "HTAKE 0")
  first
    | (refine take_in (i := 1) (v := ?_) rfl (by kernel_rfl) (by kernel_rfl) (by kernel_rfl) (fun _ _ _ h => h) (Or.inl ⟨by rfl, ?_⟩) (Below.refl _ _) ?_; rotate_left; (focus (intro W hSw; go_simp; (try rfl); done)); (try simp only [Act.put, List.setIfInBounds_toArray, List.set_cons_zero, List.set_cons_succ]))
    | (refine take_in (i := 1) (v := undef) rfl (by kernel_rfl) (by kernel_rfl) (by kernel_rfl) (fun _ _ _ h => h) (Or.inr ⟨by rfl, rfl⟩) (Below.refl _ _) ?_; (try simp only [Act.put, List.setIfInBounds_toArray, List.set_cons_zero, List.set_cons_succ]))
    | (fail "HTAKE 1")
  first
    | (refine take_in (i := 2) (v := ?_) rfl (by kernel_rfl) (by kernel_rfl) (by kernel_rfl) (fun _ _ _ h => h) (Or.inl ⟨by rfl, ?_⟩) (Below.refl _ _) ?_; rotate_left; (focus (intro W hSw; go_simp; (try rfl); done)); (try simp only [Act.put, List.setIfInBounds_toArray, List.set_cons_zero, List.set_cons_succ]))
    | (refine take_in (i := 2) (v := undef) rfl (by kernel_rfl) (by kernel_rfl) (by kernel_rfl) (fun _ _ _ h => h) (Or.inr ⟨by rfl, rfl⟩) (Below.refl _ _) ?_; (try simp only [Act.put, List.setIfInBounds_toArray, List.set_cons_zero, List.set_cons_succ]))
    | (fail "HTAKE 2")
  first
    | (refine take_in (i := 3) (v := ?_) rfl (by kernel_rfl) (by kernel_rfl) (by kernel_rfl) (fun _ _ _ h => h) (Or.inl ⟨by rfl, ?_⟩) (Below.refl _ _) ?_; rotate_left; (focus (intro W hSw; go_simp; (try rfl); done)); (try simp only [Act.put, List.setIfInBounds_toArray, List.set_cons_zero, List.set_cons_succ]))
    | (refine take_in (i := 3) (v := undef) rfl (by kernel_rfl) (by kernel_rfl) (by kernel_rfl) (fun _ _ _ h => h) (Or.inr ⟨by rfl, rfl⟩) (Below.refl _ _) ?_; (try simp only [Act.put, List.setIfInBounds_toArray, List.set_cons_zero, List.set_cons_succ]))
    | (fail "HTAKE 3")
  refine take_in (i := 4) (v := _) rfl (by kernel_rfl) (by kernel_rfl) (by kernel_rfl) (fun _ _ _ h => h) (yields_load (by rfl) _ _ rfl _ rfl _ _ (fun W hW => (HV1.out.below h89).below hW) Try.underlying63 rfl rfl) (Below.refl _ _) ?_
  (try simp only [Act.put, List.setIfInBounds_toArray, List.set_cons_zero, List.set_cons_succ])
  refine take_in (i := 5) (v := _) rfl (by kernel_rfl) (by kernel_rfl) (by kernel_rfl) (fun _ _ _ h => h) (yields_load (by rfl) _ _ rfl _ rfl _ _ (fun W hW => (HV2.out.below h89).below hW) Try.underlying63 rfl rfl) (Below.refl _ _) ?_
  (try simp only [Act.put, List.setIfInBounds_toArray, List.set_cons_zero, List.set_cons_succ])
  refine call_in (i := 6) rfl (by kernel_rfl) (by kernel_rfl) (fun K hK => ?_)
  go_simp
  refine (rsametask_any v9 i1 l1 i1 l1 t1 t1 d1 d1 r1 e1 r1 e1 A1 A2 g1.length g1.length c1' c2' g1 g1 HOK.out.2.2.2.1 HOK.out.2.2.2.2 HOK.out.2.2.2.1 HOK.out.2.2.2.2 (rd_rows (HG8.out.below h89)) (rd_rows (HG9.out.below h89)) htk).mono ?_
  rintro e v10 ⟨b, rfl, hb, h910⟩
  obtain rfl : b = true := hb.2 (SameT.refl _)
  clear hb
  have h810 := h89.trans (h910.mono h89.size)
  have HB10 := Lib.hid (HB8.out.trans (h810.mono HB8.out.size))
  refine hK.out _ _ h910 ?_
  (try simp only [Act.put, List.setIfInBounds_toArray, List.set_cons_zero, List.set_cons_succ])
  first
    | (refine take_in (i := 7) (v := ?_) rfl (by kernel_rfl) (by kernel_rfl) (by kernel_rfl) (fun _ _ _ h => h) (Or.inl ⟨by rfl, ?_⟩) (Below.refl _ _) ?_; rotate_left; (focus (intro W hSw; go_simp; (try rfl); done)); (try simp only [Act.put, List.setIfInBounds_toArray, List.set_cons_zero, List.set_cons_succ]))
    | (refine take_in (i := 7) (v := undef) rfl (by kernel_rfl) (by kernel_rfl) (by kernel_rfl) (fun _ _ _ h => h) (Or.inr ⟨by rfl, rfl⟩) (Below.refl _ _) ?_; (try simp only [Act.put, List.setIfInBounds_toArray, List.set_cons_zero, List.set_cons_succ]))
    | (fail "HTAKE 7")
  first
    | (refine take_in (i := 8) (v := ?_) rfl (by kernel_rfl) (by kernel_rfl) (by kernel_rfl) (fun _ _ _ h => h) (Or.inl ⟨by rfl, ?_⟩) (Below.refl _ _) ?_; rotate_left; (focus (intro W hSw; go_simp; (try rfl); done)); (try simp only [Act.put, List.setIfInBounds_toArray, List.set_cons_zero, List.set_cons_succ]))
    | (refine take_in (i := 8) (v := undef) rfl (by kernel_rfl) (by kernel_rfl) (by kernel_rfl) (fun _ _ _ h => h) (Or.inr ⟨by rfl, rfl⟩) (Below.refl _ _) ?_; (try simp only [Act.put, List.setIfInBounds_toArray, List.set_cons_zero, List.set_cons_succ]))
    | (fail "HTAKE 8")
  first
    | (refine take_in (i := 9) (v := ?_) rfl (by kernel_rfl) (by kernel_rfl) (by kernel_rfl) (fun _ _ _ h => h) (Or.inl ⟨by rfl, ?_⟩) (Below.refl _ _) ?_; rotate_left; (focus (intro W hSw; go_simp; (try rfl); done)); (try simp only [Act.put, List.setIfInBounds_toArray, List.set_cons_zero, List.set_cons_succ]))
    | (refine take_in (i := 9) (v := undef) rfl (by kernel_rfl) (by kernel_rfl) (by kernel_rfl) (fun _ _ _ h => h) (Or.inr ⟨by rfl, rfl⟩) (Below.refl _ _) ?_; (try simp only [Act.put, List.setIfInBounds_toArray, List.set_cons_zero, List.set_cons_succ]))
    | (fail "HTAKE 9")
  first
    | (refine take_in (i := 10) (v := ?_) rfl (by kernel_rfl) (by kernel_rfl) (by kernel_rfl) (fun _ _ _ h => h) (Or.inl ⟨by rfl, ?_⟩) (Below.refl _ _) ?_; rotate_left; (focus (intro W hSw; go_simp; (try rfl); done)); (try simp only [Act.put, List.setIfInBounds_toArray, List.set_cons_zero, List.set_cons_succ]))
    | (refine take_in (i := 10) (v := undef) rfl (by kernel_rfl) (by kernel_rfl) (by kernel_rfl) (fun _ _ _ h => h) (Or.inr ⟨by rfl, rfl⟩) (Below.refl _ _) ?_; (try simp only [Act.put, List.setIfInBounds_toArray, List.set_cons_zero, List.set_cons_succ]))
    | (fail "HTAKE 10")
  first
    | (refine take_in (i := 11) (v := ?_) rfl (by kernel_rfl) (by kernel_rfl) (by kernel_rfl) (fun _ _ _ h => h) (Or.inl ⟨by rfl, ?_⟩) (Below.refl _ _) ?_; rotate_left; (focus (intro W hSw; go_simp; (try rfl); done)); (try simp only [Act.put, List.setIfInBounds_toArray, List.set_cons_zero, List.set_cons_succ]))
    | (refine take_in (i := 11) (v := undef) rfl (by kernel_rfl) (by kernel_rfl) (by kernel_rfl) (fun _ _ _ h => h) (Or.inr ⟨by rfl, rfl⟩) (Below.refl _ _) ?_; (try simp only [Act.put, List.setIfInBounds_toArray, List.set_cons_zero, List.set_cons_succ]))
    | (fail "HTAKE 11")
  first
    | (refine take_in (i := 12) (v := ?_) rfl (by kernel_rfl) (by kernel_rfl) (by kernel_rfl) (fun _ _ _ h => h) (Or.inl ⟨by rfl, ?_⟩) (Below.refl _ _) ?_; rotate_left; (focus (intro W hSw; go_simp; (try rfl); done)); (try simp only [Act.put, List.setIfInBounds_toArray, List.set_cons_zero, List.set_cons_succ]))
    | (refine take_in (i := 12) (v := undef) rfl (by kernel_rfl) (by kernel_rfl) (by kernel_rfl) (fun _ _ _ h => h) (Or.inr ⟨by rfl, rfl⟩) (Below.refl _ _) ?_; (try simp only [Act.put, List.setIfInBounds_toArray, List.set_cons_zero, List.set_cons_succ]))
    | (fail "HTAKE 12")
  first
    | (refine take_in (i := 13) (v := ?_) rfl (by kernel_rfl) (by kernel_rfl) (by kernel_rfl) (fun _ _ _ h => h) (Or.inl ⟨by rfl, ?_⟩) (Below.refl _ _) ?_; rotate_left; (focus (intro W hSw; go_simp; (try rfl); done)); (try simp only [Act.put, List.setIfInBounds_toArray, List.set_cons_zero, List.set_cons_succ]))
    | (refine take_in (i := 13) (v := undef) rfl (by kernel_rfl) (by kernel_rfl) (by kernel_rfl) (fun _ _ _ h => h) (Or.inr ⟨by rfl, rfl⟩) (Below.refl _ _) ?_; (try simp only [Act.put, List.setIfInBounds_toArray, List.set_cons_zero, List.set_cons_succ]))
    | (fail "HTAKE 13")
  refine take_in (i := 14) (v := _) rfl (by kernel_rfl) (by kernel_rfl) (by kernel_rfl) (fun _ _ _ h => h) (yields_load (by rfl) _ _ rfl _ rfl _ _ (fun W hW => (HU3.out.below h810).below hW) Try.underlying67 rfl rfl) (Below.refl _ _) ?_
  (try simp only [Act.put, List.setIfInBounds_toArray, List.set_cons_zero, List.set_cons_succ])
  refine take_in (i := 15) (v := _) rfl (by kernel_rfl) (by kernel_rfl) (by kernel_rfl) (fun _ _ _ h => h) (yields_load (by rfl) _ _ rfl _ rfl _ _ (fun W hW => (HT4.out.below h810).below hW) Try.underlying67 rfl rfl) (Below.refl _ _) ?_
  (try simp only [Act.put, List.setIfInBounds_toArray, List.set_cons_zero, List.set_cons_succ])
  first
    | (refine take_in (i := 16) (v := ?_) rfl (by kernel_rfl) (by kernel_rfl) (by kernel_rfl) (fun _ _ _ h => h) (Or.inl ⟨by rfl, ?_⟩) (Below.refl _ _) ?_; rotate_left; (focus (intro W hSw; go_simp; (try rfl); done)); (try simp only [Act.put, List.setIfInBounds_toArray, List.set_cons_zero, List.set_cons_succ]))
    | (refine take_in (i := 16) (v := undef) rfl (by kernel_rfl) (by kernel_rfl) (by kernel_rfl) (fun _ _ _ h => h) (Or.inr ⟨by rfl, rfl⟩) (Below.refl _ _) ?_; (try simp only [Act.put, List.setIfInBounds_toArray, List.set_cons_zero, List.set_cons_succ]))
    | (fail "HTAKE 16")
  first
    | (refine take_in (i := 17) (v := ?_) rfl (by kernel_rfl) (by kernel_rfl) (by kernel_rfl) (fun _ _ _ h => h) (Or.inl ⟨by rfl, ?_⟩) (Below.refl _ _) ?_; rotate_left; (focus (intro W hSw; go_simp; (try rfl); done)); (try simp only [Act.put, List.setIfInBounds_toArray, List.set_cons_zero, List.set_cons_succ]))
    | (refine take_in (i := 17) (v := undef) rfl (by kernel_rfl) (by kernel_rfl) (by kernel_rfl) (fun _ _ _ h => h) (Or.inr ⟨by rfl, rfl⟩) (Below.refl _ _) ?_; (try simp only [Act.put, List.setIfInBounds_toArray, List.set_cons_zero, List.set_cons_succ]))
    | (fail "HTAKE 17")
  first
    | (refine take_in (i := 18) (v := ?_) rfl (by kernel_rfl) (by kernel_rfl) (by kernel_rfl) (fun _ _ _ h => h) (Or.inl ⟨by rfl, ?_⟩) (Below.refl _ _) ?_; rotate_left; (focus (intro W hSw; go_simp; (try rfl); done)); (try simp only [Act.put, List.setIfInBounds_toArray, List.set_cons_zero, List.set_cons_succ]))
    | (refine take_in (i := 18) (v := undef) rfl (by kernel_rfl) (by kernel_rfl) (by kernel_rfl) (fun _ _ _ h => h) (Or.inr ⟨by rfl, rfl⟩) (Below.refl _ _) ?_; (try simp only [Act.put, List.setIfInBounds_toArray, List.set_cons_zero, List.set_cons_succ]))
    | (fail "HTAKE 18")
  refine take_in (i := 19) (v := _) rfl (by kernel_rfl) (by kernel_rfl) (by kernel_rfl) (fun _ _ _ h => h) (yields_load (by rfl) _ _ rfl _ rfl _ _ (fun W hW => (HS.out.below HB10.out).below hW) Try.underlying59 rfl rfl) (Below.refl _ _) ?_
  (try simp only [Act.put, List.setIfInBounds_toArray, List.set_cons_zero, List.set_cons_succ])
  refine take_in (i := 20) (v := _) rfl (by kernel_rfl) (by kernel_rfl) (by kernel_rfl) (fun _ _ _ h => h) (yields_load (by rfl) _ _ rfl _ rfl _ _ (fun W hW => (HO.out.below HB10.out).below hW) Try.underlying59 rfl rfl) (Below.refl _ _) ?_
  (try simp only [Act.put, List.setIfInBounds_toArray, List.set_cons_zero, List.set_cons_succ])
  refine take_in (i := 22) (v := _) rfl (by kernel_rfl) (by kernel_rfl) (by kernel_rfl) (fun _ _ _ h => h) (yields_load (by rfl) _ _ rfl _ rfl _ _ (fun W hW => (HS.out.below HB10.out).below hW) Try.underlying59 rfl rfl) (Below.refl _ _) ?_
  (try simp only [Act.put, List.setIfInBounds_toArray, List.set_cons_zero, List.set_cons_succ])
  refine take_in (i := 23) (v := _) rfl (by kernel_rfl) (by kernel_rfl) (by kernel_rfl) (fun _ _ _ h => h) (yields_load (by rfl) _ _ rfl _ rfl _ _ (fun W hW => (HO.out.below HB10.out).below hW) Try.underlying59 rfl rfl) (Below.refl _ _) ?_
  (try simp only [Act.put, List.setIfInBounds_toArray, List.set_cons_zero, List.set_cons_succ])
  have HW10 := Lib.hid (HW.out.trans (HB10.out.mono HW.out.size))
  refine call_in (i := 21) rfl (by kernel_rfl) (by kernel_rfl) (fun K hK => ?_)
  go_simp
  refine (same_state v10 A C B D n k m q ca cc cb cd ls lo ts tq (HA.out.below HW10.out) (HC.out.below HW10.out) (HBr.out.below HW10.out) (HD.out.below HW10.out) bn bm).mono ?_
  rintro e v11 ⟨b, rfl, hb, h1011⟩
  have HI := Lib.hid hb
  clear hb
  have HW11 := Lib.hid (HW10.out.trans (h1011.mono HW10.out.size))
  refine hK.out _ _ h1011 ?_
  (try simp only [Act.put, List.setIfInBounds_toArray, List.set_cons_zero, List.set_cons_succ])
  refine call_in (i := 24) rfl (by kernel_rfl) (by kernel_rfl) (fun K hK => ?_)
  go_simp
  refine (rsame_state v11 A C B D n k m q ca cc cb cd ls lo ts tq (HA.out.below HW11.out) (HC.out.below HW11.out) (HBr.out.below HW11.out) (HD.out.below HW11.out) bn bm).mono ?_
  rintro e v12 ⟨b', rfl, hb, h1112⟩
  obtain rfl : b = b' := Bool.eq_iff_iff.2 (HI.out.trans hb.symm)
  clear hb HI
  have HW12 := Lib.hid (HW11.out.trans (h1112.mono HW11.out.size))
  have HB12 := Lib.hid (HB10.out.trans ((h1011.trans (h1112.mono h1011.size)).mono HB10.out.size))
  refine hK.out _ _ h1112 ?_
  (try simp only [Act.put, List.setIfInBounds_toArray, List.set_cons_zero, List.set_cons_succ])
  first
    | (refine take_in (i := 25) (v := ?_) rfl (by kernel_rfl) (by kernel_rfl) (by kernel_rfl) (fun _ _ _ h => h) (Or.inl ⟨by rfl, ?_⟩) (Below.refl _ _) ?_; rotate_left; (focus (intro W hSw; go_simp; (try rfl); done)); (try simp only [Act.put, List.setIfInBounds_toArray, List.set_cons_zero, List.set_cons_succ]))
    | (refine take_in (i := 25) (v := undef) rfl (by kernel_rfl) (by kernel_rfl) (by kernel_rfl) (fun _ _ _ h => h) (Or.inr ⟨by rfl, rfl⟩) (Below.refl _ _) ?_; (try simp only [Act.put, List.setIfInBounds_toArray, List.set_cons_zero, List.set_cons_succ]))
    | (fail "HTAKE 25")
  first
    | (refine take_in (i := 26) (v := ?_) rfl (by kernel_rfl) (by kernel_rfl) (by kernel_rfl) (fun _ _ _ h => h) (Or.inl ⟨by rfl, ?_⟩) (Below.refl _ _) ?_; rotate_left; (focus (intro W hSw; go_simp; (try rfl); done)); (try simp only [Act.put, List.setIfInBounds_toArray, List.set_cons_zero, List.set_cons_succ]))
    | (refine take_in (i := 26) (v := undef) rfl (by kernel_rfl) (by kernel_rfl) (by kernel_rfl) (fun _ _ _ h => h) (Or.inr ⟨by rfl, rfl⟩) (Below.refl _ _) ?_; (try simp only [Act.put, List.setIfInBounds_toArray, List.set_cons_zero, List.set_cons_succ]))
    | (fail "HTAKE 26")
  first
    | (refine take_in (i := 27) (v := ?_) rfl (by kernel_rfl) (by kernel_rfl) (by kernel_rfl) (fun _ _ _ h => h) (Or.inl ⟨by rfl, ?_⟩) (Below.refl _ _) ?_; rotate_left; (focus (intro W hSw; go_simp; (try rfl); done)); (try simp only [Act.put, List.setIfInBounds_toArray, List.set_cons_zero, List.set_cons_succ]))
    | (refine take_in (i := 27) (v := undef) rfl (by kernel_rfl) (by kernel_rfl) (by kernel_rfl) (fun _ _ _ h => h) (Or.inr ⟨by rfl, rfl⟩) (Below.refl _ _) ?_; (try simp only [Act.put, List.setIfInBounds_toArray, List.set_cons_zero, List.set_cons_succ]))
    | (fail "HTAKE 27")
  refine take_in (i := 28) (v := _) rfl (by kernel_rfl) (by kernel_rfl) (by kernel_rfl) (fun _ _ _ h => h) (yields_load (by rfl) _ _ rfl _ rfl _ _ (fun W hW => (HS.out.below HB12.out).below hW) Try.underlying59 rfl rfl) (Below.refl _ _) ?_
  (try simp only [Act.put, List.setIfInBounds_toArray, List.set_cons_zero, List.set_cons_succ])
  refine take_in (i := 29) (v := _) rfl (by kernel_rfl) (by kernel_rfl) (by kernel_rfl) (fun _ _ _ h => h) (yields_load (by rfl) _ _ rfl _ rfl _ _ (fun W hW => (HS.out.below HB12.out).below hW) Try.underlying59 rfl rfl) (Below.refl _ _) ?_
  (try simp only [Act.put, List.setIfInBounds_toArray, List.set_cons_zero, List.set_cons_succ])
  refine call_in (i := 30) rfl (by kernel_rfl) (by kernel_rfl) (fun K hK => ?_)
  go_simp
  refine (same_state v12 A A B B n n m m ca ca cb cb ls ls ts ts (HA.out.below HW12.out) (HA.out.below HW12.out) (HBr.out.below HW12.out) (HBr.out.below HW12.out) bn bm).mono ?_
  rintro e v13 ⟨b2, rfl, hb, h1213⟩
  obtain rfl : b2 = true := hb.2 (SameS.refl _)
  clear hb
  have HW13 := Lib.hid (HW12.out.trans (h1213.mono HW12.out.size))
  refine hK.out _ _ h1213 ?_
  (try simp only [Act.put, List.setIfInBounds_toArray, List.set_cons_zero, List.set_cons_succ])
  first
    | (refine take_in (i := 31) (v := ?_) rfl (by kernel_rfl) (by kernel_rfl) (by kernel_rfl) (fun _ _ _ h => h) (Or.inl ⟨by rfl, ?_⟩) (Below.refl _ _) ?_; rotate_left; (focus (intro W hSw; go_simp; (try rfl); done)); (try simp only [Act.put, List.setIfInBounds_toArray, List.set_cons_zero, List.set_cons_succ]))
    | (refine take_in (i := 31) (v := undef) rfl (by kernel_rfl) (by kernel_rfl) (by kernel_rfl) (fun _ _ _ h => h) (Or.inr ⟨by rfl, rfl⟩) (Below.refl _ _) ?_; (try simp only [Act.put, List.setIfInBounds_toArray, List.set_cons_zero, List.set_cons_succ]))
    | (fail "HTAKE 31")
  first
    | (refine take_in (i := 32) (v := ?_) rfl (by kernel_rfl) (by kernel_rfl) (by kernel_rfl) (fun _ _ _ h => h) (Or.inl ⟨by rfl, ?_⟩) (Below.refl _ _) ?_; rotate_left; (focus (intro W hSw; go_simp; (try rfl); done)); (try simp only [Act.put, List.setIfInBounds_toArray, List.set_cons_zero, List.set_cons_succ]))
    | (refine take_in (i := 32) (v := undef) rfl (by kernel_rfl) (by kernel_rfl) (by kernel_rfl) (fun _ _ _ h => h) (Or.inr ⟨by rfl, rfl⟩) (Below.refl _ _) ?_; (try simp only [Act.put, List.setIfInBounds_toArray, List.set_cons_zero, List.set_cons_succ]))
    | (fail "HTAKE 32")
  first
    | (refine take_in (i := 33) (v := ?_) rfl (by kernel_rfl) (by kernel_rfl) (by kernel_rfl) (fun _ _ _ h => h) (Or.inl ⟨by rfl, ?_⟩) (Below.refl _ _) ?_; rotate_left; (focus (intro W hSw; go_simp; (try rfl); done)); (try simp only [Act.put, List.setIfInBounds_toArray, List.set_cons_zero, List.set_cons_succ]))
    | (refine take_in (i := 33) (v := undef) rfl (by kernel_rfl) (by kernel_rfl) (by kernel_rfl) (fun _ _ _ h => h) (Or.inr ⟨by rfl, rfl⟩) (Below.refl _ _) ?_; (try simp only [Act.put, List.setIfInBounds_toArray, List.set_cons_zero, List.set_cons_succ]))
    | (fail "HTAKE 33")
  first
    | (refine take_in (i := 35) (v := ?_) rfl (by kernel_rfl) (by kernel_rfl) (by kernel_rfl) (fun _ _ _ h => h) (Or.inl ⟨by rfl, ?_⟩) (Below.refl _ _) ?_; rotate_left; (focus (intro W hSw; go_simp; (try rfl); done)); (try simp only [Act.put, List.setIfInBounds_toArray, List.set_cons_zero, List.set_cons_succ]))
    | (refine take_in (i := 35) (v := undef) rfl (by kernel_rfl) (by kernel_rfl) (by kernel_rfl) (fun _ _ _ h => h) (Or.inr ⟨by rfl, rfl⟩) (Below.refl _ _) ?_; (try simp only [Act.put, List.setIfInBounds_toArray, List.set_cons_zero, List.set_cons_succ]))
    | (fail "HTAKE 35")
  refine call_in (i := 34) rfl (by kernel_rfl) (by kernel_rfl) (fun K hK => ?_)
  go_simp
  refine (title_any v13 text htx).mono ?_
  rintro e v14 ⟨rfl, h1314⟩
  have HW14 := Lib.hid (HW13.out.trans (h1314.mono HW13.out.size))
  refine hK.out _ _ h1314 ?_
  (try simp only [Act.put, List.setIfInBounds_toArray, List.set_cons_zero, List.set_cons_succ])
  refine call_in (i := 36) rfl (by kernel_rfl) (by kernel_rfl) (fun K hK => ?_)
  go_simp
  refine (rtitle_any v14 text htx).mono ?_
  rintro e v15 ⟨rfl, rfl⟩
  refine hK.out _ _ (Below.refl _ _) ?_
  (try simp only [Act.put, List.setIfInBounds_toArray, List.set_cons_zero, List.set_cons_succ])
  first
    | (refine take_in (i := 37) (v := ?_) rfl (by kernel_rfl) (by kernel_rfl) (by kernel_rfl) (fun _ _ _ h => h) (Or.inl ⟨by rfl, ?_⟩) (Below.refl _ _) ?_; rotate_left; (focus (intro W hSw; go_simp; (try rfl); done)); (try simp only [Act.put, List.setIfInBounds_toArray, List.set_cons_zero, List.set_cons_succ]))
    | (refine take_in (i := 37) (v := undef) rfl (by kernel_rfl) (by kernel_rfl) (by kernel_rfl) (fun _ _ _ h => h) (Or.inr ⟨by rfl, rfl⟩) (Below.refl _ _) ?_; (try simp only [Act.put, List.setIfInBounds_toArray, List.set_cons_zero, List.set_cons_succ]))
    | (fail "HTAKE 37")
  first
    | (refine take_in (i := 38) (v := ?_) rfl (by kernel_rfl) (by kernel_rfl) (by kernel_rfl) (fun _ _ _ h => h) (Or.inl ⟨by rfl, ?_⟩) (Below.refl _ _) ?_; rotate_left; (focus (intro W hSw; go_simp; (try rfl); done)); (try simp only [Act.put, List.setIfInBounds_toArray, List.set_cons_zero, List.set_cons_succ]))
    | (refine take_in (i := 38) (v := undef) rfl (by kernel_rfl) (by kernel_rfl) (by kernel_rfl) (fun _ _ _ h => h) (Or.inr ⟨by rfl, rfl⟩) (Below.refl _ _) ?_; (try simp only [Act.put, List.setIfInBounds_toArray, List.set_cons_zero, List.set_cons_succ]))
    | (fail "HTAKE 38")
  first
    | (refine take_in (i := 39) (v := ?_) rfl (by kernel_rfl) (by kernel_rfl) (by kernel_rfl) (fun _ _ _ h => h) (Or.inl ⟨by rfl, ?_⟩) (Below.refl _ _) ?_; rotate_left; (focus (intro W hSw; go_simp; (try rfl); done)); (try simp only [Act.put, List.setIfInBounds_toArray, List.set_cons_zero, List.set_cons_succ]))
    | (refine take_in (i := 39) (v := undef) rfl (by kernel_rfl) (by kernel_rfl) (by kernel_rfl) (fun _ _ _ h => h) (Or.inr ⟨by rfl, rfl⟩) (Below.refl _ _) ?_; (try simp only [Act.put, List.setIfInBounds_toArray, List.set_cons_zero, List.set_cons_succ]))
    | (fail "HTAKE 39")
  first
    | (refine take_in (i := 40) (v := ?_) rfl (by kernel_rfl) (by kernel_rfl) (by kernel_rfl) (fun _ _ _ h => h) (Or.inl ⟨by rfl, ?_⟩) (Below.refl _ _) ?_; rotate_left; (focus (intro W hSw; go_simp; (try rfl); done)); (try simp only [Act.put, List.setIfInBounds_toArray, List.set_cons_zero, List.set_cons_succ]))
    | (refine take_in (i := 40) (v := undef) rfl (by kernel_rfl) (by kernel_rfl) (by kernel_rfl) (fun _ _ _ h => h) (Or.inr ⟨by rfl, rfl⟩) (Below.refl _ _) ?_; (try simp only [Act.put, List.setIfInBounds_toArray, List.set_cons_zero, List.set_cons_succ]))
    | (fail "HTAKE 40")
  first
    | (refine take_in (i := 42) (v := ?_) rfl (by kernel_rfl) (by kernel_rfl) (by kernel_rfl) (fun _ _ _ h => h) (Or.inl ⟨by rfl, ?_⟩) (Below.refl _ _) ?_; rotate_left; (focus (intro W hSw; go_simp; (try rfl); done)); (try simp only [Act.put, List.setIfInBounds_toArray, List.set_cons_zero, List.set_cons_succ]))
    | (refine take_in (i := 42) (v := undef) rfl (by kernel_rfl) (by kernel_rfl) (by kernel_rfl) (fun _ _ _ h => h) (Or.inr ⟨by rfl, rfl⟩) (Below.refl _ _) ?_; (try simp only [Act.put, List.setIfInBounds_toArray, List.set_cons_zero, List.set_cons_succ]))
    | (fail "HTAKE 42")
  refine call_in (i := 41) rfl (by kernel_rfl) (by kernel_rfl) (fun K hK => ?_)
  go_simp
  refine (tag_any v14 text htx).mono ?_
  rintro e v16 ⟨rfl, h1416⟩
  have HW16 := Lib.hid (HW14.out.trans (h1416.mono HW14.out.size))
  refine hK.out _ _ h1416 ?_
  (try simp only [Act.put, List.setIfInBounds_toArray, List.set_cons_zero, List.set_cons_succ])
  refine call_in (i := 43) rfl (by kernel_rfl) (by kernel_rfl) (fun K hK => ?_)
  go_simp
  refine (rtag_any v16 text htx).mono ?_
  rintro e v17 ⟨rfl, rfl⟩
  refine hK.out _ _ (Below.refl _ _) ?_
  (try simp only [Act.put, List.setIfInBounds_toArray, List.set_cons_zero, List.set_cons_succ])
  first
    | (refine take_in (i := 44) (v := ?_) rfl (by kernel_rfl) (by kernel_rfl) (by kernel_rfl) (fun _ _ _ h => h) (Or.inl ⟨by rfl, ?_⟩) (Below.refl _ _) ?_; rotate_left; (focus (intro W hSw; go_simp; (try rfl); done)); (try simp only [Act.put, List.setIfInBounds_toArray, List.set_cons_zero, List.set_cons_succ]))
    | (refine take_in (i := 44) (v := undef) rfl (by kernel_rfl) (by kernel_rfl) (by kernel_rfl) (fun _ _ _ h => h) (Or.inr ⟨by rfl, rfl⟩) (Below.refl _ _) ?_; (try simp only [Act.put, List.setIfInBounds_toArray, List.set_cons_zero, List.set_cons_succ]))
    | (fail "HTAKE 44")
  first
    | (refine take_in (i := 45) (v := ?_) rfl (by kernel_rfl) (by kernel_rfl) (by kernel_rfl) (fun _ _ _ h => h) (Or.inl ⟨by rfl, ?_⟩) (Below.refl _ _) ?_; rotate_left; (focus (intro W hSw; go_simp; (try rfl); done)); (try simp only [Act.put, List.setIfInBounds_toArray, List.set_cons_zero, List.set_cons_succ]))
    | (refine take_in (i := 45) (v := undef) rfl (by kernel_rfl) (by kernel_rfl) (by kernel_rfl) (fun _ _ _ h => h) (Or.inr ⟨by rfl, rfl⟩) (Below.refl _ _) ?_; (try simp only [Act.put, List.setIfInBounds_toArray, List.set_cons_zero, List.set_cons_succ]))
    | (fail "HTAKE 45")
  first
    | (refine take_in (i := 46) (v := ?_) rfl (by kernel_rfl) (by kernel_rfl) (by kernel_rfl) (fun _ _ _ h => h) (Or.inl ⟨by rfl, ?_⟩) (Below.refl _ _) ?_; rotate_left; (focus (intro W hSw; go_simp; (try rfl); done)); (try simp only [Act.put, List.setIfInBounds_toArray, List.set_cons_zero, List.set_cons_succ]))
    | (refine take_in (i := 46) (v := undef) rfl (by kernel_rfl) (by kernel_rfl) (by kernel_rfl) (fun _ _ _ h => h) (Or.inr ⟨by rfl, rfl⟩) (Below.refl _ _) ?_; (try simp only [Act.put, List.setIfInBounds_toArray, List.set_cons_zero, List.set_cons_succ]))
    | (fail "HTAKE 46")
  refine wpAnyH_done (by kernel_rfl) ?_ _
  go_wp2_with fail
  go_ret
  exact ⟨rfl, HW16.out⟩
set_option maxRecDepth 20000 in
theorem w_TaskFinds (s : STATE.Ty) (cs : List Value) (o : STATE.Ty) (cs2 : List Value) (id : Int) (wid : 0 ≤ id) (wid2 : id < 18446744073709551616) (text : ByteArray) (htx : text.size ≤ maxLen) (w : World) (hs : Rd w anyB STATE s cs) (ho : Rd w anyB STATE o cs2) :
    Calls Try.prog 7 #[.agg cs.toArray, .agg cs2.toArray, .int .u64 id, .string text] w fun e w' => e = .returned (.bool true) ∧ Below w.heap.size w w' := by
  obtain ⟨ls, ts, A, ca, B, cb, rfl, rfl, _, h1, h2⟩ := rd_state hs
  obtain ⟨lo, tq, C, cc, D, cd, rfl, rfl, _, h3, h4⟩ := rd_state ho
  simp only [maxLen] at htx
  exact x_TaskFinds ls ts lo tq A B C D _ ca _ cb _ cc _ cd id text w hs ho (by omega)
end Go.Proofs.Ytnolhnlhohpkpaa
