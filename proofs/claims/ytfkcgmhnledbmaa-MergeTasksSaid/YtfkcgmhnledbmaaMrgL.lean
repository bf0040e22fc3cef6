import Derived.Test.YtfkcgmhnledbmaaTskS
namespace Go.Proofs.Ytfkcgmhnledbmaa
open Go.RowKit FP
set_option linter.unusedVariables false
set_option linter.unusedSimpArgs false
attribute [local go_sem] run_store_float
set_option maxRecDepth 20000 in
theorem pk_lt {bo ab ao : Bool} {a b : Nat} (ha : a < 18446744073709551616) (hb : b < 18446744073709551616) : (pk bo ab ao a b).1 < 18446744073709551616 := by
  cases bo <;> cases ab <;> cases ao <;> simp [pk] <;> assumption
set_option maxRecDepth 20000 in
theorem rows_tk3 {w : World} {ad : Addr} {x y z : TASK.Ty} {cx cy cz : List Value} (hg : Rd w anyB TASK x cx) (hh : Rd w anyB TASK y cy) (hl : Rd w anyB TASK z cz) (hat : At w ad 0 (cx ++ (cy ++ cz))) :
    Rows w anyB TASK (some ad) 3 [x, y, z] := by
  refine rows_of (l := [x, y, z]) (cs := cx ++ (cy ++ cz)) ⟨_, _, rfl, hg, ⟨_, _, rfl, hh, RdL.single hl⟩⟩ (fun _ => trivial) hat
set_option maxHeartbeats 4000000 in
set_option maxRecDepth 20000 in
theorem w_MergeTasks (x0 : TASK.Ty) (cs0 : List Value) (x1 : TASK.Ty) (cs1 : List Value) (x2 : TASK.Ty) (cs2 : List Value) (w : World) (h0 : Rd w anyB TASK x0 cs0) (h1 : Rd w anyB TASK x1 cs1) (h2 : Rd w anyB TASK x2 cs2) :
    Calls Try.prog 3 #[.agg cs0.toArray, .agg cs1.toArray, .agg cs2.toArray] w fun e w' => e = .returned (.bool true) ∧ Below w.heap.size w w' := by
  have R0 := Lib.hid h0
  have R1 := Lib.hid h1
  have R2 := Lib.hid h2
  obtain ⟨i0, l0, t0, d0, r0, e0, g0, G0, c0, rfl, rfl, ok0, s0⟩ := rd_task h0
  obtain ⟨i1, l1, t1, d1, r1, e1, g1, G1, c1, rfl, rfl, ok1, s1⟩ := rd_task h1
  obtain ⟨i2, l2, t2, d2, r2, e2, g2, G2, c2, rfl, rfl, ok2, s2⟩ := rd_task h2
  have H0 := Lib.hid (rd_rows s0)
  have H1 := Lib.hid (rd_rows s1)
  have H2 := Lib.hid (rd_rows s2)
  have O0 := Lib.hid ok0
  have O1 := Lib.hid ok1
  have O2 := Lib.hid ok2
  clear h0 h1 h2 s0 s1 s2 ok0 ok1 ok2
  have hc5 := heap_new_at ((w.alloc (.cells #[Value.int .u64 i0, Value.int .u64 l0, Value.string t0, Value.bool d0, Value.float .f64 r0, Value.float .f64 e0, Value.slice G0 g0.length c0] 26)).alloc (.cells #[Value.int .u64 i1, Value.int .u64 l1, Value.string t1, Value.bool d1, Value.float .f64 r1, Value.float .f64 e1, Value.slice G1 g1.length c1] 26)) (.cells #[Value.int .u64 i2, Value.int .u64 l2, Value.string t2, Value.bool d2, Value.float .f64 r2, Value.float .f64 e2, Value.slice G2 g2.length c2] 26) (w.heap.size + 1 + 1) (by simp)
  have hb5 := blk_alloc (heap_new_at (w.alloc (.cells #[Value.int .u64 i0, Value.int .u64 l0, Value.string t0, Value.bool d0, Value.float .f64 r0, Value.float .f64 e0, Value.slice G0 g0.length c0] 26)) (.cells #[Value.int .u64 i1, Value.int .u64 l1, Value.string t1, Value.bool d1, Value.float .f64 r1, Value.float .f64 e1, Value.slice G1 g1.length c1] 26) (w.heap.size + 1) (by simp)) (.cells #[Value.int .u64 i2, Value.int .u64 l2, Value.string t2, Value.bool d2, Value.float .f64 r2, Value.float .f64 e2, Value.slice G2 g2.length c2] 26)
  have ha5 := blk_alloc (blk_alloc (heap_alloc_new w (.cells #[Value.int .u64 i0, Value.int .u64 l0, Value.string t0, Value.bool d0, Value.float .f64 r0, Value.float .f64 e0, Value.slice G0 g0.length c0] 26)) (.cells #[Value.int .u64 i1, Value.int .u64 l1, Value.string t1, Value.bool d1, Value.float .f64 r1, Value.float .f64 e1, Value.slice G1 g1.length c1] 26)) (.cells #[Value.int .u64 i2, Value.int .u64 l2, Value.string t2, Value.bool d2, Value.float .f64 r2, Value.float .f64 e2, Value.slice G2 g2.length c2] 26)
  obtain ⟨w0, hw0⟩ : ∃ w0, (((w.alloc (.cells #[Value.int .u64 i0, Value.int .u64 l0, Value.string t0, Value.bool d0, Value.float .f64 r0, Value.float .f64 e0, Value.slice G0 g0.length c0] 26)).alloc (.cells #[Value.int .u64 i1, Value.int .u64 l1, Value.string t1, Value.bool d1, Value.float .f64 r1, Value.float .f64 e1, Value.slice G1 g1.length c1] 26)).alloc (.cells #[Value.int .u64 i2, Value.int .u64 l2, Value.string t2, Value.bool d2, Value.float .f64 r2, Value.float .f64 e2, Value.slice G2 g2.length c2] 26)) = w0 := ⟨_, rfl⟩
  rw [hw0] at ha5 hb5 hc5
  have hs0 : w0.heap.size = w.heap.size + 3 := by rw [← hw0]; simp
  have hbw : Below w.heap.size w w0 := by
    rw [← hw0]
    exact (((Below.refl _ _).alloc (Nat.le_refl _) _).alloc (by simp) _).alloc (by simp; omega) _
  have HXA := Lib.hid (fun W (hW : Below w0.heap.size w0 W) => At.blk (blk_below ha5 hW (blk_lt ha5)))
  have HXB := Lib.hid (fun W (hW : Below w0.heap.size w0 W) => At.blk (blk_below hb5 hW (blk_lt hb5)))
  have HXC := Lib.hid (fun W (hW : Below w0.heap.size w0 W) => At.blk (blk_below hc5 hW (blk_lt hc5)))
  have HW0 := Lib.hid hbw
  clear hbw ha5 hb5 hc5 hs0
  go_enter Try.func3, Try.ntmps3
  go_wp2_with fail
  clear hw0
  refine (mrg_awake w0).mono ?_
  rintro e w1 ⟨rfl, hb⟩
  have HC := Lib.hid hb
  clear hb
  go_wp2_with (first
    | (refine wpL_load rfl 26 _ rfl _ rfl _ _ (HXA.out _ HC.out) Try.underlying26 rfl rfl ?_)
    | (refine wpL_load rfl 26 _ rfl _ rfl _ _ (HXB.out _ HC.out) Try.underlying26 rfl rfl ?_)
    | (refine wpL_load rfl 26 _ rfl _ rfl _ _ (HXC.out _ HC.out) Try.underlying26 rfl rfl ?_)
    | (refine wpL_lit3 rfl (.tmp 14) (.tmp 15) (.tmp 16) rfl rfl rfl rfl ?_))
  have hat := At.blk (heap_alloc_new w1 (.cells #[Value.int .u64 i0, Value.int .u64 l0, Value.string t0, Value.bool d0, Value.float .f64 r0, Value.float .f64 e0, Value.slice G0 g0.length c0, Value.int .u64 i1, Value.int .u64 l1, Value.string t1, Value.bool d1, Value.float .f64 r1, Value.float .f64 e1, Value.slice G1 g1.length c1, Value.int .u64 i2, Value.int .u64 l2, Value.string t2, Value.bool d2, Value.float .f64 r2, Value.float .f64 e2, Value.slice G2 g2.length c2] 26))
  have hbx := below_alloc1 w1 (.cells #[Value.int .u64 i0, Value.int .u64 l0, Value.string t0, Value.bool d0, Value.float .f64 r0, Value.float .f64 e0, Value.slice G0 g0.length c0, Value.int .u64 i1, Value.int .u64 l1, Value.string t1, Value.bool d1, Value.float .f64 r1, Value.float .f64 e1, Value.slice G1 g1.length c1, Value.int .u64 i2, Value.int .u64 l2, Value.string t2, Value.bool d2, Value.float .f64 r2, Value.float .f64 e2, Value.slice G2 g2.length c2] 26)
  have hbw := HC.out.trans (hbx.mono HC.out.size)
  have hbW := HW0.out.trans (hbw.mono HW0.out.size)
  have hrt := rows_tk3 (R0.out.below hbW) (R1.out.below hbW) (R2.out.below hbW) hat
  refine (light_any _ none (some ⟨w1.heap.size, 0, none⟩) 0 0 3 3 [] _ (rows_none _ _) hrt (by omega) (by omega)).mono ?_
  rintro e w2 ⟨b, rfl, hb, hb2⟩
  have HC2 := Lib.hid (hbw.trans (hb2.mono hbw.size))
  clear hat hrt hb2 hbx hbw hbW HC R0 R1 R2
  cases b with
  | false =>
    clear hb
    go_wp2_with fail
    go_ret
    exact ⟨rfl, HW0.out.trans (HC2.out.mono HW0.out.size)⟩
  | true =>
  have hL := (hb rfl).2.2.2
  have k0 : g0.length ≤ 8 := (hL _ List.mem_cons_self).2.1
  have k1 : g1.length ≤ 8 := (hL _ (List.mem_cons_of_mem _ List.mem_cons_self)).2.1
  have k2 : g2.length ≤ 8 := (hL _ (List.mem_cons_of_mem _ (List.mem_cons_of_mem _ List.mem_cons_self))).2.1
  clear hL hb
  obtain ⟨_, _, _, hr0, he0⟩ := id O0.out
  obtain ⟨_, _, _, hr1, he1⟩ := id O1.out
  obtain ⟨_, _, _, hr2, he2⟩ := id O2.out
  have hmt := fun (W : World) (h0 : Rows W anyB .str G0 g0.length g0) (h1 : Rows W anyB .str G1 g1.length g1) (h2 : Rows W anyB .str G2 g2.length g2) => mtasks_any W i0 l0 i1 l1 i2 l2 t0 t1 t2 d0 d1 d2 r0 e0 r1 e1 r2 e2 G0 G1 G2 g0.length c0 g1.length c1 g2.length c2 g0 g1 g2 h0 h1 h2 (by omega) (by omega) (by omega)
  have hrm := fun (W : World) (h0 : Rows W anyB .str G0 g0.length g0) (h1 : Rows W anyB .str G1 g1.length g1) (h2 : Rows W anyB .str G2 g2.length g2) => rmtasks_any W i0 l0 i1 l1 i2 l2 t0 t1 t2 d0 d1 d2 r0 e0 r1 e1 r2 e2 G0 G1 G2 g0.length c0 g1.length c1 g2.length c2 g0 g1 g2 h0 h1 h2 (by omega) (by omega) (by omega)
  simp only [rkeyF_eq hr0, rkeyF_eq hr1, rkeyF_eq hr2, rkeyF_eq he0, rkeyF_eq he1, rkeyF_eq he2, ← keyF_eq hr0, ← keyF_eq hr1, ← keyF_eq hr2, ← keyF_eq he0, ← keyF_eq he1, ← keyF_eq he2] at hrm
  obtain ⟨p1, hp1⟩ : ∃ p, pk (l2 == l0) (l1 == l2) (l1 == l0) l1 l2 = p := ⟨_, rfl⟩
  obtain ⟨p2, hp2⟩ : ∃ p, pk (t2.toList == t0.toList) (t1.toList == t2.toList) (t1.toList == t0.toList) t1 t2 = p := ⟨_, rfl⟩
  obtain ⟨p3, hp3⟩ : ∃ p, pk (d2 == d0) (d1 == d2) (d1 == d0) d1 d2 = p := ⟨_, rfl⟩
  obtain ⟨p4, hp4⟩ : ∃ p, pk (keyF r2 == keyF r0) (keyF r1 == keyF r2) (keyF r1 == keyF r0) r1 r2 = p := ⟨_, rfl⟩
  obtain ⟨p5, hp5⟩ : ∃ p, pk (keyF e2 == keyF e0) (keyF e1 == keyF e2) (keyF e1 == keyF e0) e1 e2 = p := ⟨_, rfl⟩
  have hx4 : p4.1 < 18446744073709551616 := by rw [← hp4]; exact pk_lt hr1 hr2
  have hx5 : p5.1 < 18446744073709551616 := by rw [← hp5]; exact pk_lt he1 he2
  obtain ⟨T, hT⟩ : ∃ T, tidy (tagX g0 g1 g2) = T := ⟨_, rfl⟩
  simp only [hp1, hp2, hp3, hp4, hp5, hT] at hmt hrm
  obtain ⟨CL, hCL⟩ : ∃ CL, clL (flagsL p1.2 p2.2 p3.2 p4.2 p5.2) = CL := ⟨_, rfl⟩
  simp only [hCL] at hmt hrm
  have HMT := Lib.hid hmt
  have HRM := Lib.hid hrm
  have HX4 := Lib.hid hx4
  have HX5 := Lib.hid hx5
  have hu5 : CL.length ≤ 5 := by rw [← hCL]; exact cl_len _
  have HTT := Lib.hid (show T.length ≤ 3000 by
    have h1 := tidy_le (tagX g0 g1 g2)
    rw [hT] at h1
    unfold tagX at h1
    rw [List.length_append] at h1
    have h2 := List.length_filter_le (fun t => hasB g2 t || !hasB g0 t) g1
    have h3 := List.length_filter_le (fun t => !hasB g0 t) g2
    omega)
  have HT := Lib.hid hT
  clear hmt hrm hx4 hx5 hT hCL hp1 hp2 hp3 hp4 hp5 hr0 hr1 hr2 he0 he1 he2 O0 O1 O2
  go_wp2_with (first
    | (refine wpL_load rfl 26 _ rfl _ rfl _ _ (HXA.out _ HC2.out) Try.underlying26 rfl rfl ?_)
    | (refine wpL_load rfl 26 _ rfl _ rfl _ _ (HXB.out _ HC2.out) Try.underlying26 rfl rfl ?_)
    | (refine wpL_load rfl 26 _ rfl _ rfl _ _ (HXC.out _ HC2.out) Try.underlying26 rfl rfl ?_))
  have hq := HW0.out.trans (HC2.out.mono HW0.out.size)
  refine (HMT.out w2 (H0.out.below hq) (H1.out.below hq) (H2.out.below hq)).mono ?_
  rintro e w3 ⟨A6, m, vcl, rfl, hm, hR, hO, hb3⟩
  obtain ⟨Av, cv, rfl, _, _, _, hRv⟩ := Own.form hO
  obtain ⟨u, hu⟩ : ∃ u, CL.length = u := ⟨_, rfl⟩
  rw [hu] at hRv hu5 ⊢
  obtain ⟨w4, hw4⟩ : ∃ w4, w3.alloc (.cells #[Value.int .u64 i0, Value.int .u64 p1.1, Value.string p2.1, Value.bool p3.1, Value.float .f64 p4.1, Value.float .f64 p5.1, Value.slice A6 m m] 26) = w4 := ⟨_, rfl⟩
  have hb4 := below_alloc1 w3 (.cells #[Value.int .u64 i0, Value.int .u64 p1.1, Value.string p2.1, Value.bool p3.1, Value.float .f64 p4.1, Value.float .f64 p5.1, Value.slice A6 m m] 26)
  have hv4 := heap_alloc_new w3 (.cells #[Value.int .u64 i0, Value.int .u64 p1.1, Value.string p2.1, Value.bool p3.1, Value.float .f64 p4.1, Value.float .f64 p5.1, Value.slice A6 m m] 26)
  rw [hw4] at hb4 hv4
  have HC4 := Lib.hid (HC2.out.trans ((hb3.trans (hb4.mono hb3.size)).mono HC2.out.size))
  have HU := Lib.hid hu
  have HM := Lib.hid hm
  have HV4 := Lib.hid hv4
  have HR4 := Lib.hid (hR.below hb4)
  have HL4 := Lib.hid (hRv.any.below hb4)
  clear hq hm hR hO hb3 hRv hb4 hv4 hu
  go_wp2_with (first
    | (refine wpL_load rfl 26 _ rfl _ rfl _ _ (HXA.out _ HC4.out) Try.underlying26 rfl rfl ?_)
    | (refine wpL_load rfl 26 _ rfl _ rfl _ _ (HXB.out _ HC4.out) Try.underlying26 rfl rfl ?_)
    | (refine wpL_load rfl 26 _ rfl _ rfl _ _ (HXC.out _ HC4.out) Try.underlying26 rfl rfl ?_))
  clear hw4
  have hq := HW0.out.trans (HC4.out.mono HW0.out.size)
  refine (HRM.out w4 (H0.out.below hq) (H1.out.below hq) (H2.out.below hq)).mono ?_
  rintro e w5 ⟨A7, m2, cc, vcl, rfl, hm2, hR, hO, hb5⟩
  obtain rfl : m = m2 := HM.out.trans hm2.symm
  obtain ⟨Bv, dv, rfl, _, _, _, hRv⟩ := Own.form hO
  rw [HU.out] at hRv ⊢
  obtain ⟨w6, hw6⟩ : ∃ w6, w5.alloc (.cells #[Value.int .u64 i0, Value.int .u64 p1.1, Value.string p2.1, Value.bool p3.1, Value.float .f64 p4.1, Value.float .f64 p5.1, Value.slice A7 m cc] 26) = w6 := ⟨_, rfl⟩
  have hb6 := below_alloc1 w5 (.cells #[Value.int .u64 i0, Value.int .u64 p1.1, Value.string p2.1, Value.bool p3.1, Value.float .f64 p4.1, Value.float .f64 p5.1, Value.slice A7 m cc] 26)
  have hv6 := heap_alloc_new w5 (.cells #[Value.int .u64 i0, Value.int .u64 p1.1, Value.string p2.1, Value.bool p3.1, Value.float .f64 p4.1, Value.float .f64 p5.1, Value.slice A7 m cc] 26)
  rw [hw6] at hb6 hv6
  have hb56 := hb5.trans (hb6.mono hb5.size)
  have HC6 := Lib.hid (HC4.out.trans (hb56.mono HC4.out.size))
  have HV1 := Lib.hid (At.blk (blk_below HV4.out hb56 (blk_lt HV4.out)))
  have HV2 := Lib.hid (At.blk hv6)
  have HR1 := Lib.hid (HR4.out.below hb56)
  have HR2 := Lib.hid (hR.below hb6)
  have HL1 := Lib.hid (HL4.out.below hb56)
  have HL2 := Lib.hid (hRv.any.below hb6)
  clear hq hm2 hR hO hb5 hRv hb6 hv6 hb56 HV4 HR4 HL4 HC4 HC2
  go_upto_region 7 with fail
  clear hw6
  refine region_in (by kernel_rfl) (fun x1 hx1 => ?_)
  first
    | (refine take_in (i := 0) (v := ?_) rfl (by kernel_rfl) (by kernel_rfl) (by kernel_rfl) (fun _ _ _ h => h) (Or.inl ⟨by rfl, ?_⟩) (Below.refl _ _) ?_; rotate_left; (focus (intro W hSw; go_simp; (try rfl); done)); (try simp only [Act.put, List.setIfInBounds_toArray, List.set_cons_zero, List.set_cons_succ]))
    | (refine take_in (i := 0) (v := undef) rfl (by kernel_rfl) (by kernel_rfl) (by kernel_rfl) (fun _ _ _ h => h) (Or.inr ⟨by rfl, rfl⟩) (Below.refl _ _) ?_; (try simp only [Act.put, List.setIfInBounds_toArray, List.set_cons_zero, List.set_cons_succ]))
    | (fail "HTAKE 0")
  first
    | (refine take_in (i := 1) (v := ?_) rfl (by kernel_rfl) (by kernel_rfl) (by kernel_rfl) (fun _ _ _ h => h) (Or.inl ⟨by rfl, ?_⟩) (Below.refl _ _) ?_; rotate_left; (focus (intro W hSw; go_simp; (try rfl); done)); (try simp only [Act.put, List.setIfInBounds_toArray, List.set_cons_zero, List.set_cons_succ]))
    | (refine take_in (i := 1) (v := undef) rfl (by kernel_rfl) (by kernel_rfl) (by kernel_rfl) (fun _ _ _ h => h) (Or.inr ⟨by rfl, rfl⟩) (Below.refl _ _) ?_; (try simp only [Act.put, List.setIfInBounds_toArray, List.set_cons_zero, List.set_cons_succ]))
    | (fail "HTAKE 1")
  first
    | (refine take_in (i := 2) (v := ?_) rfl (by kernel_rfl) (by kernel_rfl) (by kernel_rfl) (fun _ _ _ h => h) (Or.inl ⟨by rfl, ?_⟩) (Below.refl _ _) ?_; rotate_left; (focus (intro W hSw; go_simp; (try rfl); done)); (try simp only [Act.put, List.setIfInBounds_toArray, List.set_cons_zero, List.set_cons_succ]))
    | (refine take_in (i := 2) (v := undef) rfl (by kernel_rfl) (by kernel_rfl) (by kernel_rfl) (fun _ _ _ h => h) (Or.inr ⟨by rfl, rfl⟩) (Below.refl _ _) ?_; (try simp only [Act.put, List.setIfInBounds_toArray, List.set_cons_zero, List.set_cons_succ]))
    | (fail "HTAKE 2")
  first
    | (refine take_in (i := 3) (v := ?_) rfl (by kernel_rfl) (by kernel_rfl) (by kernel_rfl) (fun _ _ _ h => h) (Or.inl ⟨by rfl, ?_⟩) (Below.refl _ _) ?_; rotate_left; (focus (intro W hSw; go_simp; (try rfl); done)); (try simp only [Act.put, List.setIfInBounds_toArray, List.set_cons_zero, List.set_cons_succ]))
    | (refine take_in (i := 3) (v := undef) rfl (by kernel_rfl) (by kernel_rfl) (by kernel_rfl) (fun _ _ _ h => h) (Or.inr ⟨by rfl, rfl⟩) (Below.refl _ _) ?_; (try simp only [Act.put, List.setIfInBounds_toArray, List.set_cons_zero, List.set_cons_succ]))
    | (fail "HTAKE 3")
  first
    | (refine take_in (i := 4) (v := ?_) rfl (by kernel_rfl) (by kernel_rfl) (by kernel_rfl) (fun _ _ _ h => h) (Or.inl ⟨by rfl, ?_⟩) (Below.refl _ _) ?_; rotate_left; (focus (intro W hSw; go_simp; (try rfl); done)); (try simp only [Act.put, List.setIfInBounds_toArray, List.set_cons_zero, List.set_cons_succ]))
    | (refine take_in (i := 4) (v := undef) rfl (by kernel_rfl) (by kernel_rfl) (by kernel_rfl) (fun _ _ _ h => h) (Or.inr ⟨by rfl, rfl⟩) (Below.refl _ _) ?_; (try simp only [Act.put, List.setIfInBounds_toArray, List.set_cons_zero, List.set_cons_succ]))
    | (fail "HTAKE 4")
  first
    | (refine take_in (i := 5) (v := ?_) rfl (by kernel_rfl) (by kernel_rfl) (by kernel_rfl) (fun _ _ _ h => h) (Or.inl ⟨by rfl, ?_⟩) (Below.refl _ _) ?_; rotate_left; (focus (intro W hSw; go_simp; (try rfl); done)); (try simp only [Act.put, List.setIfInBounds_toArray, List.set_cons_zero, List.set_cons_succ]))
    | (refine take_in (i := 5) (v := undef) rfl (by kernel_rfl) (by kernel_rfl) (by kernel_rfl) (fun _ _ _ h => h) (Or.inr ⟨by rfl, rfl⟩) (Below.refl _ _) ?_; (try simp only [Act.put, List.setIfInBounds_toArray, List.set_cons_zero, List.set_cons_succ]))
    | (fail "HTAKE 5")
  refine take_in (i := 6) (v := _) rfl (by kernel_rfl) (by kernel_rfl) (by kernel_rfl) (fun _ _ _ h => h) (yields_load (by rfl) _ _ rfl _ rfl _ _ (fun W hW => (HV1.out.below hx1).below hW) Try.underlying26 rfl rfl) (Below.refl _ _) ?_
  (try simp only [Act.put, List.setIfInBounds_toArray, List.set_cons_zero, List.set_cons_succ])
  refine take_in (i := 7) (v := _) rfl (by kernel_rfl) (by kernel_rfl) (by kernel_rfl) (fun _ _ _ h => h) (yields_load (by rfl) _ _ rfl _ rfl _ _ (fun W hW => (HV2.out.below hx1).below hW) Try.underlying26 rfl rfl) (Below.refl _ _) ?_
  (try simp only [Act.put, List.setIfInBounds_toArray, List.set_cons_zero, List.set_cons_succ])
  refine call_in (i := 8) rfl (by kernel_rfl) (by kernel_rfl) (fun K hK => ?_)
  go_simp
  refine (rsametask_any x1 i0 p1.1 i0 p1.1 p2.1 p2.1 p3.1 p3.1 p4.1 p5.1 p4.1 p5.1 A6 A7 m m m cc (T.take m) (T.take m) HX4.out HX5.out HX4.out HX5.out (HR1.out.below hx1) (HR2.out.below hx1) (by have := HM.out; omega)).mono ?_
  rintro e x2 ⟨b, rfl, hbt, hb8⟩
  obtain rfl : b = true := hbt.2 (SameT.refl _)
  have HC8 := Lib.hid (HC6.out.trans ((hx1.trans (hb8.mono hx1.size)).mono HC6.out.size))
  have HL8 := Lib.hid (And.intro (HL1.out.below (hx1.trans (hb8.mono hx1.size))) (HL2.out.below (hx1.trans (hb8.mono hx1.size))))
  refine hK.out _ _ hb8 ?_
  (try simp only [Act.put, List.setIfInBounds_toArray, List.set_cons_zero, List.set_cons_succ])
  clear hbt hb8 hx1 HV1 HV2 HR1 HR2 HL1 HL2
  have XA : ∀ W, Below x2.heap.size x2 W → W.cell? ⟨w.heap.size, 6, none⟩ = some (.slice G0 g0.length c0) := fun W hW => HXA.out W (HC8.out.trans (hW.mono HC8.out.size)) 6 _ rfl
  have XB : ∀ W, Below x2.heap.size x2 W → W.cell? ⟨w.heap.size + 1, 6, none⟩ = some (.slice G1 g1.length c1) := fun W hW => HXB.out W (HC8.out.trans (hW.mono HC8.out.size)) 6 _ rfl
  have XC : ∀ W, Below x2.heap.size x2 W → W.cell? ⟨w.heap.size + 1 + 1, 6, none⟩ = some (.slice G2 g2.length c2) := fun W hW => HXC.out W (HC8.out.trans (hW.mono HC8.out.size)) 6 _ rfl
  have hq := Lib.hid (HW0.out.trans (HC8.out.mono HW0.out.size))
  first
    | (refine take_in (i := 9) (v := ?_) rfl (by kernel_rfl) (by kernel_rfl) (by kernel_rfl) (fun _ _ _ h => h) (Or.inl ⟨by rfl, ?_⟩) (Below.refl _ _) ?_; rotate_left; (focus (intro W hSw; go_simp; (try rfl); done)); (try simp only [Act.put, List.setIfInBounds_toArray, List.set_cons_zero, List.set_cons_succ]))
    | (refine take_in (i := 9) (v := undef) rfl (by kernel_rfl) (by kernel_rfl) (by kernel_rfl) (fun _ _ _ h => h) (Or.inr ⟨by rfl, rfl⟩) (Below.refl _ _) ?_; (try simp only [Act.put, List.setIfInBounds_toArray, List.set_cons_zero, List.set_cons_succ]))
    | (fail "HTAKE 9")
  first
    | (refine take_in (i := 10) (v := ?_) rfl (by kernel_rfl) (by kernel_rfl) (by kernel_rfl) (fun _ _ _ h => h) (Or.inl ⟨by rfl, ?_⟩) (Below.refl _ _) ?_; rotate_left; (focus (intro W hSw; go_simp; (try rfl); done)); (try simp only [Act.put, List.setIfInBounds_toArray, List.set_cons_zero, List.set_cons_succ]))
    | (refine take_in (i := 10) (v := undef) rfl (by kernel_rfl) (by kernel_rfl) (by kernel_rfl) (fun _ _ _ h => h) (Or.inr ⟨by rfl, rfl⟩) (Below.refl _ _) ?_; (try simp only [Act.put, List.setIfInBounds_toArray, List.set_cons_zero, List.set_cons_succ]))
    | (fail "HTAKE 10")
  first
    | (refine take_in (i := 11) (v := ?_) rfl (by kernel_rfl) (by kernel_rfl) (by kernel_rfl) (fun _ _ _ h => h) (Or.inl ⟨by rfl, ?_⟩) (Below.refl _ _) ?_; rotate_left; (focus (intro W hSw; go_simp; (try rfl); done)); (try simp only [Act.put, List.setIfInBounds_toArray, List.set_cons_zero, List.set_cons_succ]))
    | (refine take_in (i := 11) (v := undef) rfl (by kernel_rfl) (by kernel_rfl) (by kernel_rfl) (fun _ _ _ h => h) (Or.inr ⟨by rfl, rfl⟩) (Below.refl _ _) ?_; (try simp only [Act.put, List.setIfInBounds_toArray, List.set_cons_zero, List.set_cons_succ]))
    | (fail "HTAKE 11")
  first
    | (refine take_in (i := 12) (v := ?_) rfl (by kernel_rfl) (by kernel_rfl) (by kernel_rfl) (fun _ _ _ h => h) (Or.inl ⟨by rfl, ?_⟩) (Below.refl _ _) ?_; rotate_left; (focus (intro W hSw; go_simp; (try rfl); done)); (try simp only [Act.put, List.setIfInBounds_toArray, List.set_cons_zero, List.set_cons_succ]))
    | (refine take_in (i := 12) (v := undef) rfl (by kernel_rfl) (by kernel_rfl) (by kernel_rfl) (fun _ _ _ h => h) (Or.inr ⟨by rfl, rfl⟩) (Below.refl _ _) ?_; (try simp only [Act.put, List.setIfInBounds_toArray, List.set_cons_zero, List.set_cons_succ]))
    | (fail "HTAKE 12")
  first
    | (refine take_in (i := 13) (v := ?_) rfl (by kernel_rfl) (by kernel_rfl) (by kernel_rfl) (fun _ _ _ h => h) (Or.inl ⟨by rfl, ?_⟩) (Below.refl _ _) ?_; rotate_left; (focus (intro W hSw; have XA := XA W hSw; go_simp; (try rfl); done)); (try simp only [Act.put, List.setIfInBounds_toArray, List.set_cons_zero, List.set_cons_succ]))
    | (refine take_in (i := 13) (v := undef) rfl (by kernel_rfl) (by kernel_rfl) (by kernel_rfl) (fun _ _ _ h => h) (Or.inr ⟨by rfl, rfl⟩) (Below.refl _ _) ?_; (try simp only [Act.put, List.setIfInBounds_toArray, List.set_cons_zero, List.set_cons_succ]))
    | (fail "HTAKE 13")
  first
    | (refine take_in (i := 14) (v := ?_) rfl (by kernel_rfl) (by kernel_rfl) (by kernel_rfl) (fun _ _ _ h => h) (Or.inl ⟨by rfl, ?_⟩) (Below.refl _ _) ?_; rotate_left; (focus (intro W hSw; go_simp; (try rfl); done)); (try simp only [Act.put, List.setIfInBounds_toArray, List.set_cons_zero, List.set_cons_succ]))
    | (refine take_in (i := 14) (v := undef) rfl (by kernel_rfl) (by kernel_rfl) (by kernel_rfl) (fun _ _ _ h => h) (Or.inr ⟨by rfl, rfl⟩) (Below.refl _ _) ?_; (try simp only [Act.put, List.setIfInBounds_toArray, List.set_cons_zero, List.set_cons_succ]))
    | (fail "HTAKE 14")
  first
    | (refine take_in (i := 15) (v := ?_) rfl (by kernel_rfl) (by kernel_rfl) (by kernel_rfl) (fun _ _ _ h => h) (Or.inl ⟨by rfl, ?_⟩) (Below.refl _ _) ?_; rotate_left; (focus (intro W hSw; have XB := XB W hSw; go_simp; (try rfl); done)); (try simp only [Act.put, List.setIfInBounds_toArray, List.set_cons_zero, List.set_cons_succ]))
    | (refine take_in (i := 15) (v := undef) rfl (by kernel_rfl) (by kernel_rfl) (by kernel_rfl) (fun _ _ _ h => h) (Or.inr ⟨by rfl, rfl⟩) (Below.refl _ _) ?_; (try simp only [Act.put, List.setIfInBounds_toArray, List.set_cons_zero, List.set_cons_succ]))
    | (fail "HTAKE 15")
  first
    | (refine take_in (i := 16) (v := ?_) rfl (by kernel_rfl) (by kernel_rfl) (by kernel_rfl) (fun _ _ _ h => h) (Or.inl ⟨by rfl, ?_⟩) (Below.refl _ _) ?_; rotate_left; (focus (intro W hSw; go_simp; (try rfl); done)); (try simp only [Act.put, List.setIfInBounds_toArray, List.set_cons_zero, List.set_cons_succ]))
    | (refine take_in (i := 16) (v := undef) rfl (by kernel_rfl) (by kernel_rfl) (by kernel_rfl) (fun _ _ _ h => h) (Or.inr ⟨by rfl, rfl⟩) (Below.refl _ _) ?_; (try simp only [Act.put, List.setIfInBounds_toArray, List.set_cons_zero, List.set_cons_succ]))
    | (fail "HTAKE 16")
  first
    | (refine take_in (i := 17) (v := ?_) rfl (by kernel_rfl) (by kernel_rfl) (by kernel_rfl) (fun _ _ _ h => h) (Or.inl ⟨by rfl, ?_⟩) (Below.refl _ _) ?_; rotate_left; (focus (intro W hSw; have XC := XC W hSw; go_simp; (try rfl); done)); (try simp only [Act.put, List.setIfInBounds_toArray, List.set_cons_zero, List.set_cons_succ]))
    | (refine take_in (i := 17) (v := undef) rfl (by kernel_rfl) (by kernel_rfl) (by kernel_rfl) (fun _ _ _ h => h) (Or.inr ⟨by rfl, rfl⟩) (Below.refl _ _) ?_; (try simp only [Act.put, List.setIfInBounds_toArray, List.set_cons_zero, List.set_cons_succ]))
    | (fail "HTAKE 17")
  first
    | (refine take_in (i := 19) (v := ?_) rfl (by kernel_rfl) (by kernel_rfl) (by kernel_rfl) (fun _ _ _ h => h) (Or.inl ⟨by rfl, ?_⟩) (Below.refl _ _) ?_; rotate_left; (focus (intro W hSw; go_simp; (try rfl); done)); (try simp only [Act.put, List.setIfInBounds_toArray, List.set_cons_zero, List.set_cons_succ]))
    | (refine take_in (i := 19) (v := undef) rfl (by kernel_rfl) (by kernel_rfl) (by kernel_rfl) (fun _ _ _ h => h) (Or.inr ⟨by rfl, rfl⟩) (Below.refl _ _) ?_; (try simp only [Act.put, List.setIfInBounds_toArray, List.set_cons_zero, List.set_cons_succ]))
    | (fail "HTAKE 19")
  first
    | (refine take_in (i := 20) (v := ?_) rfl (by kernel_rfl) (by kernel_rfl) (by kernel_rfl) (fun _ _ _ h => h) (Or.inl ⟨by rfl, ?_⟩) (Below.refl _ _) ?_; rotate_left; (focus (intro W hSw; have XA := XA W hSw; go_simp; (try rfl); done)); (try simp only [Act.put, List.setIfInBounds_toArray, List.set_cons_zero, List.set_cons_succ]))
    | (refine take_in (i := 20) (v := undef) rfl (by kernel_rfl) (by kernel_rfl) (by kernel_rfl) (fun _ _ _ h => h) (Or.inr ⟨by rfl, rfl⟩) (Below.refl _ _) ?_; (try simp only [Act.put, List.setIfInBounds_toArray, List.set_cons_zero, List.set_cons_succ]))
    | (fail "HTAKE 20")
  first
    | (refine take_in (i := 21) (v := ?_) rfl (by kernel_rfl) (by kernel_rfl) (by kernel_rfl) (fun _ _ _ h => h) (Or.inl ⟨by rfl, ?_⟩) (Below.refl _ _) ?_; rotate_left; (focus (intro W hSw; go_simp; (try rfl); done)); (try simp only [Act.put, List.setIfInBounds_toArray, List.set_cons_zero, List.set_cons_succ]))
    | (refine take_in (i := 21) (v := undef) rfl (by kernel_rfl) (by kernel_rfl) (by kernel_rfl) (fun _ _ _ h => h) (Or.inr ⟨by rfl, rfl⟩) (Below.refl _ _) ?_; (try simp only [Act.put, List.setIfInBounds_toArray, List.set_cons_zero, List.set_cons_succ]))
    | (fail "HTAKE 21")
  first
    | (refine take_in (i := 22) (v := ?_) rfl (by kernel_rfl) (by kernel_rfl) (by kernel_rfl) (fun _ _ _ h => h) (Or.inl ⟨by rfl, ?_⟩) (Below.refl _ _) ?_; rotate_left; (focus (intro W hSw; have XB := XB W hSw; go_simp; (try rfl); done)); (try simp only [Act.put, List.setIfInBounds_toArray, List.set_cons_zero, List.set_cons_succ]))
    | (refine take_in (i := 22) (v := undef) rfl (by kernel_rfl) (by kernel_rfl) (by kernel_rfl) (fun _ _ _ h => h) (Or.inr ⟨by rfl, rfl⟩) (Below.refl _ _) ?_; (try simp only [Act.put, List.setIfInBounds_toArray, List.set_cons_zero, List.set_cons_succ]))
    | (fail "HTAKE 22")
  first
    | (refine take_in (i := 23) (v := ?_) rfl (by kernel_rfl) (by kernel_rfl) (by kernel_rfl) (fun _ _ _ h => h) (Or.inl ⟨by rfl, ?_⟩) (Below.refl _ _) ?_; rotate_left; (focus (intro W hSw; go_simp; (try rfl); done)); (try simp only [Act.put, List.setIfInBounds_toArray, List.set_cons_zero, List.set_cons_succ]))
    | (refine take_in (i := 23) (v := undef) rfl (by kernel_rfl) (by kernel_rfl) (by kernel_rfl) (fun _ _ _ h => h) (Or.inr ⟨by rfl, rfl⟩) (Below.refl _ _) ?_; (try simp only [Act.put, List.setIfInBounds_toArray, List.set_cons_zero, List.set_cons_succ]))
    | (fail "HTAKE 23")
  first
    | (refine take_in (i := 24) (v := ?_) rfl (by kernel_rfl) (by kernel_rfl) (by kernel_rfl) (fun _ _ _ h => h) (Or.inl ⟨by rfl, ?_⟩) (Below.refl _ _) ?_; rotate_left; (focus (intro W hSw; have XC := XC W hSw; go_simp; (try rfl); done)); (try simp only [Act.put, List.setIfInBounds_toArray, List.set_cons_zero, List.set_cons_succ]))
    | (refine take_in (i := 24) (v := undef) rfl (by kernel_rfl) (by kernel_rfl) (by kernel_rfl) (fun _ _ _ h => h) (Or.inr ⟨by rfl, rfl⟩) (Below.refl _ _) ?_; (try simp only [Act.put, List.setIfInBounds_toArray, List.set_cons_zero, List.set_cons_succ]))
    | (fail "HTAKE 24")
  refine call_in (i := 18) rfl (by kernel_rfl) (by kernel_rfl) (fun K hK => ?_)
  go_simp
  refine (tags_any x2 G0 G1 G2 g0.length c0 g1.length c1 g2.length c2 g0 g1 g2 (H0.out.below hq.out) (H1.out.below hq.out) (H2.out.below hq.out) (by omega) (by omega) (by omega)).mono ?_
  rintro e x3 ⟨v3, rfl, hO3, hb9⟩
  obtain ⟨A3, c3, rfl, _, _, _, hR3⟩ := Own.form hO3
  rw [HT.out] at hR3 ⊢
  have HR3 := Lib.hid hR3.any
  have HB9 := Lib.hid hb9
  refine hK.out _ _ hb9 ?_
  (try simp only [Act.put, List.setIfInBounds_toArray, List.set_cons_zero, List.set_cons_succ])
  clear hO3 hR3 hb9
  have hq3 := Lib.hid (hq.out.trans (HB9.out.mono hq.out.size))
  refine call_in (i := 25) rfl (by kernel_rfl) (by kernel_rfl) (fun K hK => ?_)
  go_simp
  refine (rtags_any x3 G0 G1 G2 g0.length c0 g1.length c1 g2.length c2 g0 g1 g2 (H0.out.below hq3.out) (H1.out.below hq3.out) (H2.out.below hq3.out) (by omega) (by omega) (by omega)).mono ?_
  rintro e x4 ⟨v4, rfl, hO4, hb10⟩
  obtain ⟨A4, c4, rfl, _, _, _, hR4⟩ := Own.form hO4
  rw [HT.out] at hR4 ⊢
  have HR4 := Lib.hid hR4.any
  have HB10 := Lib.hid hb10
  refine hK.out _ _ hb10 ?_
  (try simp only [Act.put, List.setIfInBounds_toArray, List.set_cons_zero, List.set_cons_succ])
  clear hO4 hR4 hb10
  refine call_in (i := 26) rfl (by kernel_rfl) (by kernel_rfl) (fun K hK => ?_)
  go_simp
  refine (sametags_any x4 A3 A4 T.length T.length c3 c4 T T (HR3.out.below HB10.out) HR4.out (by have := HTT.out; omega)).mono ?_
  rintro e x5 ⟨b, rfl, hbt, hb11⟩
  obtain rfl : b = true := hbt.2 rfl
  have HB11 := Lib.hid hb11
  refine hK.out _ _ hb11 ?_
  (try simp only [Act.put, List.setIfInBounds_toArray, List.set_cons_zero, List.set_cons_succ])
  clear hbt hb11 XA XB XC
  first
    | (refine take_in (i := 27) (v := ?_) rfl (by kernel_rfl) (by kernel_rfl) (by kernel_rfl) (fun _ _ _ h => h) (Or.inl ⟨by rfl, ?_⟩) (Below.refl _ _) ?_; rotate_left; (focus (intro W hSw; go_simp; (try rfl); done)); (try simp only [Act.put, List.setIfInBounds_toArray, List.set_cons_zero, List.set_cons_succ]))
    | (refine take_in (i := 27) (v := undef) rfl (by kernel_rfl) (by kernel_rfl) (by kernel_rfl) (fun _ _ _ h => h) (Or.inr ⟨by rfl, rfl⟩) (Below.refl _ _) ?_; (try simp only [Act.put, List.setIfInBounds_toArray, List.set_cons_zero, List.set_cons_succ]))
    | (fail "HTAKE 27")
  first
    | (refine take_in (i := 28) (v := ?_) rfl (by kernel_rfl) (by kernel_rfl) (by kernel_rfl) (fun _ _ _ h => h) (Or.inl ⟨by rfl, ?_⟩) (Below.refl _ _) ?_; rotate_left; (focus (intro W hSw; go_simp; (try rfl); done)); (try simp only [Act.put, List.setIfInBounds_toArray, List.set_cons_zero, List.set_cons_succ]))
    | (refine take_in (i := 28) (v := undef) rfl (by kernel_rfl) (by kernel_rfl) (by kernel_rfl) (fun _ _ _ h => h) (Or.inr ⟨by rfl, rfl⟩) (Below.refl _ _) ?_; (try simp only [Act.put, List.setIfInBounds_toArray, List.set_cons_zero, List.set_cons_succ]))
    | (fail "HTAKE 28")
  refine wpAnyH_done (by kernel_rfl) ?_ _
  have h25 := HB9.out.trans ((HB10.out.trans (HB11.out.mono HB10.out.size)).mono HB9.out.size)
  have HQ := Lib.hid (hq.out.trans (h25.mono hq.out.size))
  have HLa := Lib.hid (HL8.out.1.below h25)
  have HLb := Lib.hid (HL8.out.2.below h25)
  clear h25 HB9 HB10 HB11 HR3 HR4
  go_wp2_with fail
  go_loopw [66] (fun s66 wr => ∃ i : Nat, i ≤ u ∧ s66 = .int .i64 i ∧ Below x5.heap.size x5 wr) (fun s66 _ => u - (intOf s66).toNat)
  case atStart => exact ⟨0, by omega, rfl, Below.refl _ _⟩
  case round =>
    obtain ⟨i, hi, rfl, hbel⟩ := hrel
    have HB := Lib.hid hbel
    by_cases hlt : i < u
    · obtain ⟨ad, y, ca, rfl, hy, hata, hrda⟩ := (HLa.out.below hbel).get i hlt
      obtain ⟨bd, z, cb, rfl, hz, hatb, hrdb⟩ := (HLb.out.below hbel).get i hlt
      obtain rfl : y = z := by rw [hy] at hz; injection hz
      obtain ⟨rfl, _⟩ := hrda
      obtain ⟨rfl, _⟩ := hrdb
      have ca : wr.cell? (ad.add i) = some (.int .i64 y) := by
        have hc := hata 0 _ rfl
        have e : (ad.add (i * Sh.size (.int .i64))).add (0 + 0) = ad.add i := by simp [Sh.size, Addr.add]
        rwa [e] at hc
      have cb : wr.cell? (bd.add i) = some (.int .i64 y) := by
        have hc := hatb 0 _ rfl
        have e : (bd.add (i * Sh.size (.int .i64))).add (0 + 0) = bd.add i := by simp [Sh.size, Addr.add]
        rwa [e] at hc
      have i0 : (0 : Int) ≤ (i : Int) := by omega
      have i1 : (i : Int) < (u : Int) := by omega
      clear hy hz hata hatb hbel
      go_wp2_with fail
      go_quiet (fail)
      go_wp2_with fail
      go_roundw
      case measure => simp [intOf]; omega
      case rel => exact ⟨i + 1, by omega, by go_num, below_drewN HB.out nq⟩
    · obtain rfl : i = u := by omega
      clear hbel
      go_wp2_with fail
      go_ret
      exact ⟨rfl, HQ.out.trans (HB.out.mono HQ.out.size)⟩
end Go.Proofs.Ytfkcgmhnledbmaa
