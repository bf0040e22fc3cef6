import Derived.Test.YtfjnpiahloncmaaDifC
import Derived.Test.YtfjnpiahloncmaaDifD
import Derived.Test.YtfjnpiahloncmaaDifE
namespace Go.Proofs.Ytfjnpiahloncmaa
open Go.RowKit FP
set_option linter.unusedVariables false
set_option linter.unusedSimpArgs false
attribute [local go_sem] run_store_float
set_option maxHeartbeats 4000000 in
set_option maxRecDepth 20000 in
theorem x_DiffOf (hAw : ∀ w : World, Calls Try.prog 4 #[] w fun e w' => e = .returned (.bool true) ∧ Below w.heap.size w w') (l1 l2 : List LIST.Ty) (t1 t2 : List TASK.Ty) (A B C D : Option Addr) (n ca m cb k cc q cd : Nat) (w : World)
    (ha : Rows w anyB LIST A n l1) (hb : Rows w anyB TASK B m t1) (hc : Rows w anyB LIST C k l2) (hd : Rows w anyB TASK D q t2) (bn : n ≤ 9223372036854775807) (bm : m ≤ 9223372036854775807) (bk : k ≤ 9223372036854775807) (bq : q ≤ 9223372036854775807) :
    Calls Try.prog 3 #[.agg #[Value.slice A n ca, Value.slice B m cb], .agg #[Value.slice C k cc, Value.slice D q cd]] w fun e w' => e = .returned (.bool true) ∧ Below w.heap.size w w' := by
  have hln := ha.1
  have hlm := hb.1
  have hlk := hc.1
  have hlq := hd.1
  obtain ⟨W, hW⟩ : ∃ W, (w.alloc (.cells #[Value.slice A n ca, Value.slice B m cb] 25)).alloc (.cells #[Value.slice C k cc, Value.slice D q cd] 25) = W := ⟨_, rfl⟩
  have HX := Lib.hid (show W.heap[w.heap.size]? = some (.cells #[Value.slice A n ca, Value.slice B m cb] 25 (0, 0)) by rw [← hW]; exact blk_alloc (heap_alloc_new w _) _)
  have HY := Lib.hid (show W.heap[w.heap.size + 1]? = some (.cells #[Value.slice C k cc, Value.slice D q cd] 25 (0, 0)) by rw [← hW]; exact heap_alloc2_new w _ _)
  have HW := Lib.hid (show Below w.heap.size w W by rw [← hW]; exact (below_alloc1 w _).alloc (by simp) _)
  have HA := Lib.hid ha
  have HB := Lib.hid hb
  have HC := Lib.hid hc
  have HD := Lib.hid hd
  have HAw := Lib.hid hAw
  clear ha hb hc hd hAw
  go_enter Try.func3, Try.ntmps3
  go_wp2_with fail
  refine (HAw.out W).mono ?_
  rintro e v1 ⟨rfl, hb1⟩
  have HB1 := Lib.hid hb1
  clear hb1 hW
  go_wp2_with (refine wpL_load rfl 25 _ rfl _ rfl _ _ (At.blk (blk_below HX.out HB1.out (blk_lt HX.out))) Try.underlying25 rfl rfl ?_)
  have hw1 := HW.out.trans (HB1.out.mono HW.out.size)
  refine (light_any v1 A B n ca m cb l1 t1 (HA.out.below hw1) (HB.out.below hw1) bn bm).mono ?_
  rintro e v2 ⟨r, rfl, hr, hb2⟩
  have HB2 := Lib.hid (HB1.out.trans (hb2.mono HB1.out.size))
  cases r with
  | false =>
    clear hr hb2
    go_wp2_with fail
    go_ret
    exact ⟨rfl, HW.out.trans (HB2.out.mono HW.out.size)⟩
  | true =>
  have hL1 := hr rfl
  clear hr hb2 hw1
  have y0 := blk_at (blk_below HY.out HB2.out (blk_lt HY.out)) 0 _ rfl
  have y1 := blk_at (blk_below HY.out HB2.out (blk_lt HY.out)) 1 _ rfl
  go_wp2_with fail
  clear y0 y1
  have hw2 := HW.out.trans (HB2.out.mono HW.out.size)
  refine (light_any v2 C D k cc q cd l2 t2 (HC.out.below hw2) (HD.out.below hw2) bk bq).mono ?_
  rintro e v3 ⟨r, rfl, hr, hb3⟩
  have HB3 := Lib.hid (HB2.out.trans (hb3.mono HB2.out.size))
  cases r with
  | false =>
    clear hr hb3
    go_wp2_with fail
    go_ret
    exact ⟨rfl, HW.out.trans (HB3.out.mono HW.out.size)⟩
  | true =>
  have hL2 := hr rfl
  clear hr hb3 hw2
  have hs1 : ∀ t ∈ t1, t.2.2.2.2.2.2.1.length ≤ 100000 := fun t ht => by have := (hL1.2.2.2 t ht).2.1; omega
  have hs2 : ∀ t ∈ t2, t.2.2.2.2.2.2.1.length ≤ 100000 := fun t ht => by have := (hL2.2.2.2 t ht).2.1; omega
  have n25 : n ≤ 1000 := by have := hL1.1; omega
  have m70 : m ≤ 1000 := by have := hL1.2.1; omega
  have k25 : k ≤ 1000 := by have := hL2.1; omega
  have q70 : q ≤ 1000 := by have := hL2.2.1; omega
  obtain ⟨sB, hsB⟩ : ∃ sB : TASK.Ty → TASK.Ty → Bool, ∀ x y, sB x y = true ↔ SameT x y := ⟨fun x y => @decide (SameT x y) (Classical.propDecidable _), fun x y => by simp⟩
  have HSB := Lib.hid hsB
  clear hL1 hL2 hsB
  have hw3 := HW.out.trans (HB3.out.mono HW.out.size)
  go_wp2_with (first | (refine wpL_load rfl 25 _ rfl _ rfl _ _ (At.blk (blk_below HX.out HB3.out (blk_lt HX.out))) Try.underlying25 rfl rfl ?_) | (refine wpL_load rfl 25 _ rfl _ rfl _ _ (At.blk (blk_below HY.out HB3.out (blk_lt HY.out))) Try.underlying25 rfl rfl ?_))
  refine (diff_any sB HSB.out v3 A B C D n ca m cb k cc q cd l1 l2 t1 t2 (HA.out.below hw3) (HB.out.below hw3) (HC.out.below hw3) (HD.out.below hw3) n25 m70 k25 q70 hs1 hs2).mono ?_
  rintro e v4 ⟨P0, P1, P2, P3, p0, p1, p2, p3, u0, u1, u2, u3, rfl, aL, aT, bL, bT, hca, hcb, r0, r1, r2, r3, hb4⟩
  have HB4 := Lib.hid (HB3.out.trans (hb4.mono HB3.out.size))
  have HR := Lib.hid (And.intro (And.intro r0 r1) (And.intro r2 r3))
  have HCA := Lib.hid (And.intro hca hcb)
  have ba := rises_len hca.2.1 (fun x hx => hca.1.mem hx)
  have bb := rises_len hcb.2.1 (fun x hx => hcb.1.mem hx)
  have bc := rises_len hca.2.2.2 (fun x hx => hca.2.2.1.mem hx)
  have bd := rises_len hcb.2.2.2 (fun x hx => hcb.2.2.1.mem hx)
  rw [List.length_map] at bc bd
  have e0 : p0 ≤ 1000 := by have h1 := r0.1; have h2 := List.length_filter_le (fun y : LIST.Ty => !(findL aL y.1).2 || neL (findL aL y.1).1 y) bL; omega
  have e1 : p1 ≤ 1000 := by have h1 := r1.1; have h2 := List.length_filter_le (fun y : TASK.Ty => !(findT aT y.1).2 || !sB (findT aT y.1).1 y) bT; omega
  have e2 : p2 ≤ 1000 := by have h1 := r2.1; rw [List.length_map] at h1; have h2 := List.length_filter_le (fun y : LIST.Ty => !(findL bL y.1).2) aL; omega
  have e3 : p3 ≤ 1000 := by have h1 := r3.1; rw [List.length_map] at h1; have h2 := List.length_filter_le (fun y : TASK.Ty => !(findT bT y.1).2) aT; omega
  clear hca hcb r0 r1 r2 r3 hb4 ba bb bc bd hw3
  go_wp2_with (refine wpL_store rfl 30 (.tmp 5) _ rfl v4.heap.size rfl _ _ 30 rfl (heap_alloc_new v4 _) rfl rfl (by intro v hv; simp at hv; rcases hv with rfl | rfl | rfl | rfl <;> rfl) ?_; intro v5 hx5 hg5; have HB5 := Lib.hid ((below_alloc1 v4 _).grown hg5 (by simp) (fun k e => by cases e; exact Nat.le_refl _) : Below v4.heap.size v4 v5); have HP5 := Lib.hid hx5; clear hx5 hg5)
  have HC5 := Lib.hid (HB4.out.trans (HB5.out.mono HB4.out.size))
  refine region_in (by kernel_rfl) (fun x1 hx1 => ?_)
  have HC6 := Lib.hid (HC5.out.trans (hx1.mono HC5.out.size))
  have HP6 := Lib.hid (blk_below HP5.out hx1 (blk_lt HP5.out))
  have H56 := Lib.hid (HB5.out.trans (hx1.mono HB5.out.size))
  have hw6 := HW.out.trans (HC6.out.mono HW.out.size)
  refine take_in (i := 0) (v := _) rfl (by kernel_rfl) (by kernel_rfl) (by kernel_rfl) (fun _ _ _ h => h) (yields_load (by rfl) _ _ rfl _ rfl _ _ (fun W hW => (At.blk HP6.out).below hW) Try.underlying30 rfl rfl) (Below.refl _ _) ?_
  (try simp only [Act.put, List.setIfInBounds_toArray, List.set_cons_zero, List.set_cons_succ])
  refine take_in (i := 1) (v := _) rfl (by kernel_rfl) (by kernel_rfl) (by kernel_rfl) (fun _ _ _ h => h) (yields_load (by rfl) _ _ rfl _ rfl _ _ (fun W hW => (At.blk (blk_below HX.out HC6.out (blk_lt HX.out))).below hW) Try.underlying25 rfl rfl) (Below.refl _ _) ?_
  (try simp only [Act.put, List.setIfInBounds_toArray, List.set_cons_zero, List.set_cons_succ])
  refine take_in (i := 2) (v := _) rfl (by kernel_rfl) (by kernel_rfl) (by kernel_rfl) (fun _ _ _ h => h) (yields_load (by rfl) _ _ rfl _ rfl _ _ (fun W hW => (At.blk (blk_below HY.out HC6.out (blk_lt HY.out))).below hW) Try.underlying25 rfl rfl) (Below.refl _ _) ?_
  (try simp only [Act.put, List.setIfInBounds_toArray, List.set_cons_zero, List.set_cons_succ])
  refine call_in (i := 3) rfl (by kernel_rfl) (by kernel_rfl) (fun K hK => ?_)
  go_simp
  refine (rdiff_any sB HSB.out x1 A B C D n ca m cb k cc q cd l1 l2 t1 t2 (HA.out.below hw6) (HB.out.below hw6) (HC.out.below hw6) (HD.out.below hw6) n25 m70 k25 q70 hs1 hs2).mono ?_
  rintro e x2 ⟨Q0, Q1, Q2, Q3, q0, q1, q2, q3, z0, z1, z2, z3, rfl, aL', aT', bL', bT', hca, hcb, r0, r1, r2, r3, hb7⟩
  obtain rfl : aL' = aL := can_uniq hca.1 hca.2.1 HCA.out.1.1 HCA.out.1.2.1
  obtain rfl : bL' = bL := can_uniq hcb.1 hcb.2.1 HCA.out.2.1 HCA.out.2.2.1
  obtain rfl : aT' = aT := can_uniq hca.2.2.1 hca.2.2.2 HCA.out.1.2.2.1 HCA.out.1.2.2.2
  obtain rfl : bT' = bT := can_uniq hcb.2.2.1 hcb.2.2.2 HCA.out.2.2.2.1 HCA.out.2.2.2.2
  obtain rfl : p0 = q0 := HR.out.1.1.1.symm.trans r0.1
  obtain rfl : p1 = q1 := HR.out.1.2.1.symm.trans r1.1
  obtain rfl : p2 = q2 := HR.out.2.1.1.symm.trans r2.1
  obtain rfl : p3 = q3 := HR.out.2.2.1.symm.trans r3.1
  have h47 := H56.out.trans (hb7.mono H56.out.size)
  have hw7 := hw6.trans (hb7.mono hw6.size)
  refine hK.out _ _ hb7 ?_
  (try simp only [Act.put, List.setIfInBounds_toArray, List.set_cons_zero, List.set_cons_succ])
  refine call_in (i := 4) rfl (by kernel_rfl) (by kernel_rfl) (fun K hK => ?_)
  go_simp
  refine (samepatch_any x2 P0 P1 P2 P3 Q0 Q1 Q2 Q3 p0 p1 p2 p3 u0 u1 u2 u3 z0 z1 z2 z3 _ _ _ _ (HR.out.1.1.below h47) (HR.out.1.2.below h47) (HR.out.2.1.below h47) (HR.out.2.2.below h47) r0 r1 r2 r3 e0 e1 e2 e3).mono ?_
  rintro e x3 ⟨rfl, hb8⟩
  have hb18 := hb7.trans (hb8.mono hb7.size)
  have HP8 := Lib.hid (blk_below HP6.out hb18 (blk_lt HP6.out))
  have hw8 := hw7.trans (hb8.mono hw7.size)
  have E0 := fun (W' : World) (hW : Below x3.heap.size x3 W') => blk_at (blk_below HP8.out hW (blk_lt HP8.out)) 0 _ rfl
  have E1 := fun (W' : World) (hW : Below x3.heap.size x3 W') => blk_at (blk_below HP8.out hW (blk_lt HP8.out)) 1 _ rfl
  have E2 := fun (W' : World) (hW : Below x3.heap.size x3 W') => blk_at (blk_below HP8.out hW (blk_lt HP8.out)) 2 _ rfl
  have E3 := fun (W' : World) (hW : Below x3.heap.size x3 W') => blk_at (blk_below HP8.out hW (blk_lt HP8.out)) 3 _ rfl
  have j1 : IntKind.i64.wrap ((p0 : Int) + (p1 : Int)) = ((p0 + p1 : Nat) : Int) := by rw [IntWalk.i64_in _ (by omega)]; omega
  have j2 : IntKind.i64.wrap (((p0 + p1 : Nat) : Int) + (p2 : Int)) = ((p0 + p1 + p2 : Nat) : Int) := by rw [IntWalk.i64_in _ (by omega)]; omega
  have j3 : IntKind.i64.wrap (((p0 + p1 + p2 : Nat) : Int) + (p3 : Int)) = ((p0 + p1 + p2 + p3 : Nat) : Int) := by rw [IntWalk.i64_in _ (by omega)]; omega
  refine hK.out _ _ hb8 ?_
  (try simp only [Act.put, List.setIfInBounds_toArray, List.set_cons_zero, List.set_cons_succ])
  first
    | (refine take_in (i := 5) (v := ?_) rfl (by kernel_rfl) (by kernel_rfl) (by kernel_rfl) (fun _ _ _ h => h) (Or.inl ⟨by rfl, ?_⟩) (Below.refl _ _) ?_; rotate_left; (focus (intro W hSw; go_simp; (try rfl); done)); (try simp only [Act.put, List.setIfInBounds_toArray, List.set_cons_zero, List.set_cons_succ]))
    | (refine take_in (i := 5) (v := undef) rfl (by kernel_rfl) (by kernel_rfl) (by kernel_rfl) (fun _ _ _ h => h) (Or.inr ⟨by rfl, rfl⟩) (Below.refl _ _) ?_; (try simp only [Act.put, List.setIfInBounds_toArray, List.set_cons_zero, List.set_cons_succ]))
    | (fail "HTAKE 5")
  refine take_in (i := 6) (v := _) rfl (by kernel_rfl) (by kernel_rfl) (by kernel_rfl) (fun _ _ _ h => h) (yields_load (by rfl) _ _ rfl _ rfl _ _ (fun W hW => (At.blk HP8.out).below hW) Try.underlying30 rfl rfl) (Below.refl _ _) ?_
  (try simp only [Act.put, List.setIfInBounds_toArray, List.set_cons_zero, List.set_cons_succ])
  first
    | (refine take_in (i := 8) (v := ?_) rfl (by kernel_rfl) (by kernel_rfl) (by kernel_rfl) (fun _ _ _ h => h) (Or.inl ⟨by rfl, ?_⟩) (Below.refl _ _) ?_; rotate_left; (focus (intro W hSw; go_simp; (try rfl); done)); (try simp only [Act.put, List.setIfInBounds_toArray, List.set_cons_zero, List.set_cons_succ]))
    | (refine take_in (i := 8) (v := undef) rfl (by kernel_rfl) (by kernel_rfl) (by kernel_rfl) (fun _ _ _ h => h) (Or.inr ⟨by rfl, rfl⟩) (Below.refl _ _) ?_; (try simp only [Act.put, List.setIfInBounds_toArray, List.set_cons_zero, List.set_cons_succ]))
    | (fail "HTAKE 8")
  first
    | (refine take_in (i := 9) (v := ?_) rfl (by kernel_rfl) (by kernel_rfl) (by kernel_rfl) (fun _ _ _ h => h) (Or.inl ⟨by rfl, ?_⟩) (Below.refl _ _) ?_; rotate_left; (focus (intro W hSw; have E0 := E0 W hSw; go_simp; (try rfl); done)); (try simp only [Act.put, List.setIfInBounds_toArray, List.set_cons_zero, List.set_cons_succ]))
    | (refine take_in (i := 9) (v := undef) rfl (by kernel_rfl) (by kernel_rfl) (by kernel_rfl) (fun _ _ _ h => h) (Or.inr ⟨by rfl, rfl⟩) (Below.refl _ _) ?_; (try simp only [Act.put, List.setIfInBounds_toArray, List.set_cons_zero, List.set_cons_succ]))
    | (fail "HTAKE 9")
  first
    | (refine take_in (i := 10) (v := ?_) rfl (by kernel_rfl) (by kernel_rfl) (by kernel_rfl) (fun _ _ _ h => h) (Or.inl ⟨by rfl, ?_⟩) (Below.refl _ _) ?_; rotate_left; (focus (intro W hSw; go_simp; (try rfl); done)); (try simp only [Act.put, List.setIfInBounds_toArray, List.set_cons_zero, List.set_cons_succ]))
    | (refine take_in (i := 10) (v := undef) rfl (by kernel_rfl) (by kernel_rfl) (by kernel_rfl) (fun _ _ _ h => h) (Or.inr ⟨by rfl, rfl⟩) (Below.refl _ _) ?_; (try simp only [Act.put, List.setIfInBounds_toArray, List.set_cons_zero, List.set_cons_succ]))
    | (fail "HTAKE 10")
  first
    | (refine take_in (i := 11) (v := ?_) rfl (by kernel_rfl) (by kernel_rfl) (by kernel_rfl) (fun _ _ _ h => h) (Or.inl ⟨by rfl, ?_⟩) (Below.refl _ _) ?_; rotate_left; (focus (intro W hSw; go_simp; (try rfl); done)); (try simp only [Act.put, List.setIfInBounds_toArray, List.set_cons_zero, List.set_cons_succ]))
    | (refine take_in (i := 11) (v := undef) rfl (by kernel_rfl) (by kernel_rfl) (by kernel_rfl) (fun _ _ _ h => h) (Or.inr ⟨by rfl, rfl⟩) (Below.refl _ _) ?_; (try simp only [Act.put, List.setIfInBounds_toArray, List.set_cons_zero, List.set_cons_succ]))
    | (fail "HTAKE 11")
  first
    | (refine take_in (i := 12) (v := ?_) rfl (by kernel_rfl) (by kernel_rfl) (by kernel_rfl) (fun _ _ _ h => h) (Or.inl ⟨by rfl, ?_⟩) (Below.refl _ _) ?_; rotate_left; (focus (intro W hSw; have E1 := E1 W hSw; go_simp; (try rfl); done)); (try simp only [Act.put, List.setIfInBounds_toArray, List.set_cons_zero, List.set_cons_succ]))
    | (refine take_in (i := 12) (v := undef) rfl (by kernel_rfl) (by kernel_rfl) (by kernel_rfl) (fun _ _ _ h => h) (Or.inr ⟨by rfl, rfl⟩) (Below.refl _ _) ?_; (try simp only [Act.put, List.setIfInBounds_toArray, List.set_cons_zero, List.set_cons_succ]))
    | (fail "HTAKE 12")
  first
    | (refine take_in (i := 13) (v := ?_) rfl (by kernel_rfl) (by kernel_rfl) (by kernel_rfl) (fun _ _ _ h => h) (Or.inl ⟨by rfl, ?_⟩) (Below.refl _ _) ?_; rotate_left; (focus (intro W hSw; go_simp; (try rfl); done)); (try simp only [Act.put, List.setIfInBounds_toArray, List.set_cons_zero, List.set_cons_succ]))
    | (refine take_in (i := 13) (v := undef) rfl (by kernel_rfl) (by kernel_rfl) (by kernel_rfl) (fun _ _ _ h => h) (Or.inr ⟨by rfl, rfl⟩) (Below.refl _ _) ?_; (try simp only [Act.put, List.setIfInBounds_toArray, List.set_cons_zero, List.set_cons_succ]))
    | (fail "HTAKE 13")
  first
    | (refine take_in (i := 14) (v := ?_) rfl (by kernel_rfl) (by kernel_rfl) (by kernel_rfl) (fun _ _ _ h => h) (Or.inl ⟨by rfl, ?_⟩) (Below.refl _ _) ?_; rotate_left; (focus (intro W hSw; go_simp; (try rfl); done)); (try simp only [Act.put, List.setIfInBounds_toArray, List.set_cons_zero, List.set_cons_succ]))
    | (refine take_in (i := 14) (v := undef) rfl (by kernel_rfl) (by kernel_rfl) (by kernel_rfl) (fun _ _ _ h => h) (Or.inr ⟨by rfl, rfl⟩) (Below.refl _ _) ?_; (try simp only [Act.put, List.setIfInBounds_toArray, List.set_cons_zero, List.set_cons_succ]))
    | (fail "HTAKE 14")
  first
    | (refine take_in (i := 15) (v := ?_) rfl (by kernel_rfl) (by kernel_rfl) (by kernel_rfl) (fun _ _ _ h => h) (Or.inl ⟨by rfl, ?_⟩) (Below.refl _ _) ?_; rotate_left; (focus (intro W hSw; go_simp; (try rfl); done)); (try simp only [Act.put, List.setIfInBounds_toArray, List.set_cons_zero, List.set_cons_succ]))
    | (refine take_in (i := 15) (v := undef) rfl (by kernel_rfl) (by kernel_rfl) (by kernel_rfl) (fun _ _ _ h => h) (Or.inr ⟨by rfl, rfl⟩) (Below.refl _ _) ?_; (try simp only [Act.put, List.setIfInBounds_toArray, List.set_cons_zero, List.set_cons_succ]))
    | (fail "HTAKE 15")
  first
    | (refine take_in (i := 16) (v := ?_) rfl (by kernel_rfl) (by kernel_rfl) (by kernel_rfl) (fun _ _ _ h => h) (Or.inl ⟨by rfl, ?_⟩) (Below.refl _ _) ?_; rotate_left; (focus (intro W hSw; have E2 := E2 W hSw; go_simp; (try rfl); done)); (try simp only [Act.put, List.setIfInBounds_toArray, List.set_cons_zero, List.set_cons_succ]))
    | (refine take_in (i := 16) (v := undef) rfl (by kernel_rfl) (by kernel_rfl) (by kernel_rfl) (fun _ _ _ h => h) (Or.inr ⟨by rfl, rfl⟩) (Below.refl _ _) ?_; (try simp only [Act.put, List.setIfInBounds_toArray, List.set_cons_zero, List.set_cons_succ]))
    | (fail "HTAKE 16")
  first
    | (refine take_in (i := 17) (v := ?_) rfl (by kernel_rfl) (by kernel_rfl) (by kernel_rfl) (fun _ _ _ h => h) (Or.inl ⟨by rfl, ?_⟩) (Below.refl _ _) ?_; rotate_left; (focus (intro W hSw; go_simp; (try rfl); done)); (try simp only [Act.put, List.setIfInBounds_toArray, List.set_cons_zero, List.set_cons_succ]))
    | (refine take_in (i := 17) (v := undef) rfl (by kernel_rfl) (by kernel_rfl) (by kernel_rfl) (fun _ _ _ h => h) (Or.inr ⟨by rfl, rfl⟩) (Below.refl _ _) ?_; (try simp only [Act.put, List.setIfInBounds_toArray, List.set_cons_zero, List.set_cons_succ]))
    | (fail "HTAKE 17")
  first
    | (refine take_in (i := 18) (v := ?_) rfl (by kernel_rfl) (by kernel_rfl) (by kernel_rfl) (fun _ _ _ h => h) (Or.inl ⟨by rfl, ?_⟩) (Below.refl _ _) ?_; rotate_left; (focus (intro W hSw; go_simp; (try rfl); done)); (try simp only [Act.put, List.setIfInBounds_toArray, List.set_cons_zero, List.set_cons_succ]))
    | (refine take_in (i := 18) (v := undef) rfl (by kernel_rfl) (by kernel_rfl) (by kernel_rfl) (fun _ _ _ h => h) (Or.inr ⟨by rfl, rfl⟩) (Below.refl _ _) ?_; (try simp only [Act.put, List.setIfInBounds_toArray, List.set_cons_zero, List.set_cons_succ]))
    | (fail "HTAKE 18")
  first
    | (refine take_in (i := 19) (v := ?_) rfl (by kernel_rfl) (by kernel_rfl) (by kernel_rfl) (fun _ _ _ h => h) (Or.inl ⟨by rfl, ?_⟩) (Below.refl _ _) ?_; rotate_left; (focus (intro W hSw; go_simp; (try rfl); done)); (try simp only [Act.put, List.setIfInBounds_toArray, List.set_cons_zero, List.set_cons_succ]))
    | (refine take_in (i := 19) (v := undef) rfl (by kernel_rfl) (by kernel_rfl) (by kernel_rfl) (fun _ _ _ h => h) (Or.inr ⟨by rfl, rfl⟩) (Below.refl _ _) ?_; (try simp only [Act.put, List.setIfInBounds_toArray, List.set_cons_zero, List.set_cons_succ]))
    | (fail "HTAKE 19")
  first
    | (refine take_in (i := 20) (v := ?_) rfl (by kernel_rfl) (by kernel_rfl) (by kernel_rfl) (fun _ _ _ h => h) (Or.inl ⟨by rfl, ?_⟩) (Below.refl _ _) ?_; rotate_left; (focus (intro W hSw; have E3 := E3 W hSw; go_simp; (try rfl); done)); (try simp only [Act.put, List.setIfInBounds_toArray, List.set_cons_zero, List.set_cons_succ]))
    | (refine take_in (i := 20) (v := undef) rfl (by kernel_rfl) (by kernel_rfl) (by kernel_rfl) (fun _ _ _ h => h) (Or.inr ⟨by rfl, rfl⟩) (Below.refl _ _) ?_; (try simp only [Act.put, List.setIfInBounds_toArray, List.set_cons_zero, List.set_cons_succ]))
    | (fail "HTAKE 20")
  first
    | (refine take_in (i := 21) (v := ?_) rfl (by kernel_rfl) (by kernel_rfl) (by kernel_rfl) (fun _ _ _ h => h) (Or.inl ⟨by rfl, ?_⟩) (Below.refl _ _) ?_; rotate_left; (focus (intro W hSw; go_simp; (try rfl); done)); (try simp only [Act.put, List.setIfInBounds_toArray, List.set_cons_zero, List.set_cons_succ]))
    | (refine take_in (i := 21) (v := undef) rfl (by kernel_rfl) (by kernel_rfl) (by kernel_rfl) (fun _ _ _ h => h) (Or.inr ⟨by rfl, rfl⟩) (Below.refl _ _) ?_; (try simp only [Act.put, List.setIfInBounds_toArray, List.set_cons_zero, List.set_cons_succ]))
    | (fail "HTAKE 21")
  first
    | (refine take_in (i := 22) (v := ?_) rfl (by kernel_rfl) (by kernel_rfl) (by kernel_rfl) (fun _ _ _ h => h) (Or.inl ⟨by rfl, ?_⟩) (Below.refl _ _) ?_; rotate_left; (focus (intro W hSw; go_simp; (try rfl); done)); (try simp only [Act.put, List.setIfInBounds_toArray, List.set_cons_zero, List.set_cons_succ]))
    | (refine take_in (i := 22) (v := undef) rfl (by kernel_rfl) (by kernel_rfl) (by kernel_rfl) (fun _ _ _ h => h) (Or.inr ⟨by rfl, rfl⟩) (Below.refl _ _) ?_; (try simp only [Act.put, List.setIfInBounds_toArray, List.set_cons_zero, List.set_cons_succ]))
    | (fail "HTAKE 22")
  refine call_in (i := 7) rfl (by kernel_rfl) (by kernel_rfl) (fun K hK => ?_)
  go_simp
  refine (size_any x3 P0 P1 P2 P3 p0 p1 p2 p3 u0 u1 u2 u3 e0 e1 e2 e3).mono ?_
  rintro e x4 ⟨rfl, hb9⟩
  have hw9 := hw8.trans (hb9.mono hw8.size)
  refine hK.out _ _ hb9 ?_
  (try simp only [Act.put, List.setIfInBounds_toArray, List.set_cons_zero, List.set_cons_succ])
  first
    | (refine take_in (i := 23) (v := ?_) rfl (by kernel_rfl) (by kernel_rfl) (by kernel_rfl) (fun _ _ _ h => h) (Or.inl ⟨by rfl, ?_⟩) (Below.refl _ _) ?_; rotate_left; (focus (intro W hSw; go_simp; (try rfl); done)); (try simp only [Act.put, List.setIfInBounds_toArray, List.set_cons_zero, List.set_cons_succ]))
    | (refine take_in (i := 23) (v := undef) rfl (by kernel_rfl) (by kernel_rfl) (by kernel_rfl) (fun _ _ _ h => h) (Or.inr ⟨by rfl, rfl⟩) (Below.refl _ _) ?_; (try simp only [Act.put, List.setIfInBounds_toArray, List.set_cons_zero, List.set_cons_succ]))
    | (fail "HTAKE 23")
  first
    | (refine take_in (i := 24) (v := ?_) rfl (by kernel_rfl) (by kernel_rfl) (by kernel_rfl) (fun _ _ _ h => h) (Or.inl ⟨by rfl, ?_⟩) (Below.refl _ _) ?_; rotate_left; (focus (intro W hSw; go_simp; (try rfl); done)); (try simp only [Act.put, List.setIfInBounds_toArray, List.set_cons_zero, List.set_cons_succ]))
    | (refine take_in (i := 24) (v := undef) rfl (by kernel_rfl) (by kernel_rfl) (by kernel_rfl) (fun _ _ _ h => h) (Or.inr ⟨by rfl, rfl⟩) (Below.refl _ _) ?_; (try simp only [Act.put, List.setIfInBounds_toArray, List.set_cons_zero, List.set_cons_succ]))
    | (fail "HTAKE 24")
  first
    | (refine take_in (i := 25) (v := ?_) rfl (by kernel_rfl) (by kernel_rfl) (by kernel_rfl) (fun _ _ _ h => h) (Or.inl ⟨by rfl, ?_⟩) (Below.refl _ _) ?_; rotate_left; (focus (intro W hSw; go_simp; (try rfl); done)); (try simp only [Act.put, List.setIfInBounds_toArray, List.set_cons_zero, List.set_cons_succ]))
    | (refine take_in (i := 25) (v := undef) rfl (by kernel_rfl) (by kernel_rfl) (by kernel_rfl) (fun _ _ _ h => h) (Or.inr ⟨by rfl, rfl⟩) (Below.refl _ _) ?_; (try simp only [Act.put, List.setIfInBounds_toArray, List.set_cons_zero, List.set_cons_succ]))
    | (fail "HTAKE 25")
  refine wpAnyH_done (by kernel_rfl) ?_ _
  go_wp2_with fail
  go_ret
  refine ⟨?_, hw9⟩
  have k1 : IntKind.i64.wrap ((p0 : Int) + (p1 : Int) + (p2 : Int)) = (p0 : Int) + (p1 : Int) + (p2 : Int) := IntWalk.i64_in _ (by omega)
  have k2 : IntKind.i64.wrap ((p0 : Int) + (p1 : Int) + (p2 : Int) + (p3 : Int)) = (p0 : Int) + (p1 : Int) + (p2 : Int) + (p3 : Int) := IntWalk.i64_in _ (by omega)
  show Ending.returned (Value.bool ((p0 : Int) + (p1 : Int) + (p2 : Int) + (p3 : Int) == IntKind.i64.wrap (IntKind.i64.wrap ((p0 : Int) + (p1 : Int) + (p2 : Int)) + (p3 : Int)))) = Ending.returned (Value.bool true)
  rw [k1, k2, beq_self_eq_true]
end Go.Proofs.Ytfjnpiahloncmaa
