import Derived.Test.YtnolhnlhohpkpaaRcdL
namespace Go.Proofs.Ytnolhnlhohpkpaa
open Go.RowKit Cdc
set_option linter.unusedVariables false
set_option linter.unusedSimpArgs false
attribute [local go_sem] run_store_float
set_option maxRecDepth 20000 in
theorem rcanF_lt {a : Nat} (h : a < 18446744073709551616) : rcanF a < 18446744073709551616 := by
  have hr := keyV_range a h
  have h2 := of_key h
  have h3 := ofF_lt (k := (keyF a).toNat) (by rw [keyF_eq h]; omega)
  rw [show (((keyF a).toNat : Nat) : Int) = keyF a by rw [keyF_eq h]; omega, h2] at h3
  exact h3
set_option maxRecDepth 20000 in
theorem heap_alloc3_new (w : World) (A B C : Obj) : (((w.alloc A).alloc B).alloc C).heap[w.heap.size + 2]? = some C := by
  have h := heap_alloc_new ((w.alloc A).alloc B) C
  rwa [show ((w.alloc A).alloc B).heap.size = w.heap.size + 2 by simp] at h
set_option maxRecDepth 20000 in
theorem ostart {w w1 : World} {c : Array Value} {t : TypeId} (hg1 : (((w.alloc (.cells c t)).alloc (.cells Z6 t)).alloc (.cells Z6 t)).grownBy w1 (some (w.heap.size + 2))) :
    w1.heap[w.heap.size]? = some (.cells c t (0, 0)) ∧ w1.heap[w.heap.size + 1]? = some (.cells Z6 t (0, 0)) ∧ Below w.heap.size w w1 := by
  have h0 : (((w.alloc (.cells c t)).alloc (.cells Z6 t)).alloc (.cells Z6 t)).heap[w.heap.size]? = some (.cells c t (0, 0)) := blk_alloc (blk_alloc (heap_alloc_new w _) _) _
  have h1 : (((w.alloc (.cells c t)).alloc (.cells Z6 t)).alloc (.cells Z6 t)).heap[w.heap.size + 1]? = some (.cells Z6 t (0, 0)) := blk_alloc (heap_alloc2_new w _ _) _
  exact ⟨blk_grown h0 hg1 (by intro e; injection e; omega), blk_grown h1 hg1 (by intro e; injection e; omega), ((((Below.refl _ _).alloc (Nat.le_refl _) _).alloc (by simp) _).alloc (by simp; omega) _).grown hg1 (by simp; omega) (fun k e => by injection e; omega)⟩
set_option maxRecDepth 20000 in
theorem ostep {w w1 : World} {c0 c : Array Value} {t : TypeId} {j : Nat} {v : Value} (h : w1.heap[w.heap.size]? = some (.cells c0 t (0, 0)) ∧ w1.heap[w.heap.size + 1]? = some (.cells Z6 t (0, 0)) ∧ Below w.heap.size w w1) (hc : w1.heap[w.heap.size + 2]? = some (.cells c t (0, 0))) :
    (w1.setCell ⟨w.heap.size + 2, j, none⟩ v).heap[w.heap.size + 2]? = some (.cells (c.setIfInBounds j v) t (0, 0)) ∧ (w1.setCell ⟨w.heap.size + 2, j, none⟩ v).heap[w.heap.size + 1]? = some (.cells Z6 t (0, 0)) ∧ Below w.heap.size w (w1.setCell ⟨w.heap.size + 2, j, none⟩ v) :=
  ⟨blk_set hc j v, blk_other h.2.1 j v (by omega), h.2.2.setCell (show w.heap.size ≤ w.heap.size + 2 by omega) _⟩
def OwnPost (w : World) (ok : Nat → Prop) (y : PartT) (e : Ending) (w' : World) : Prop := ∃ cs : List Value, e = .returned (.agg cs.toArray) ∧ Rd w' ok PART y cs ∧ Below w.heap.size w w'
set_option maxRecDepth 20000 in
theorem own_end {w W w4 : World} {ok : Nat → Prop} {x y : PartT} {cs : List Value} (hy : y = ownP rcanF x) (rd : ∀ W, Below w.heap.size w W → Rd W ok PART y cs) (hb : Below w.heap.size w W) (h4 : W.grownBy w4 (some (w.heap.size + 1))) :
    OwnPost w ok (ownP rcanF x) (.returned (.agg cs.toArray)) w4 := by
  have hb4 := hb.grown h4 hb.size (fun k e => by injection e; omega)
  rw [← hy]
  exact ⟨cs, rfl, rd _ hb4, hb4⟩
set_option maxHeartbeats 4000000 in
set_option maxRecDepth 20000 in
theorem own1 (w : World) (ok : Nat → Prop) (k nn ii : Int) (f : Nat) (bs : List UInt8) (q : Bool) (Ab : Option Addr) (cb : Nat) (k1 : k = 1) (hk : (Lit.int .i64 k).wf = true) (hok : PartOk (k, nn, ii, f, bs, q, ())) (h5 : Rd w ok (.sl .byte) bs [.slice Ab bs.length cb]) :
    Calls Try.prog 18 #[.agg #[Value.int .i64 k, Value.int .u64 nn, Value.int .i64 ii, Value.float .f64 f, Value.slice Ab bs.length cb, Value.bool q]] w (OwnPost w ok (ownP rcanF (k, nn, ii, f, bs, q, ()))) := by
  obtain ⟨o1, o2, o3, o4, o5⟩ := hok
  simp only at o1 o2 o3 o4 o5
  have HK := Lib.hid hk
  have H5 := Lib.hid h5
  clear hk h5
  subst k1
  go_enter Try.func18, Try.ntmps18
  go_wp2_with (first
    | (refine wpL_store rfl 39 (.tmp 3) (.tmp 6) rfl (w.heap.size + 2) rfl _ _ 39 rfl (heap_alloc3_new w _ _ _) rfl rfl (by intro v hv; simp at hv; rcases hv with rfl | rfl | rfl | rfl | rfl | rfl <;> rfl) ?_
       intro w1 hc1 hg1
       have HC1 := Lib.hid hc1
       have HS := Lib.hid (ostart hg1)
       obtain ⟨p0, p1, p2, p3, p4, p5⟩ := blk6 HS.out.1
       obtain ⟨c0, c1, c2, c3, c4, c5⟩ := blk6 hc1
       have f1 := blk_free hc1 1
       have f2 := blk_free hc1 2
       have f3 := blk_free hc1 3
       have f4 := blk_free hc1 4
       have f5 := blk_free hc1 5
       clear hc1 hg1)
    | (have F := Lib.hid (ostep (j := 1) (v := .int .u64 nn) HS.out HC1.out)
       obtain ⟨W, hW⟩ : ∃ W, w1.setCell ⟨w.heap.size + 2, 1, none⟩ (.int .u64 nn) = W := ⟨_, rfl⟩
       rw [hW] at F ⊢
       refine wpL_load rfl 39 (.tmp 3) rfl ⟨w.heap.size + 2, 0, none⟩ rfl [.int .i64 1, .int .u64 nn, .int .i64 0, .float .f64 0, .slice none 0 0, .bool false] _ (At.blk F.out.1) Try.underlying39 rfl rfl ?_)
    | (refine wpL_store rfl 39 (.tmp 2) (.tmp 35) rfl (w.heap.size + 1) rfl _ _ 39 rfl F.out.2.1 rfl rfl (by intro v hv; simp at hv; rcases hv with rfl | rfl | rfl | rfl | rfl | rfl <;> rfl) ?_
       intro w4 hw4 hg4))
  refine bodyPost_ret (results_cell_row rfl _ _ (w.heap.size + 1) 39 _ (0, 0) _ rfl hw4 Try.underlying39 rfl rfl) rfl ?_
  exact own_end (y := (1, nn, 0, 0, [], false, ())) (cs := [.int .i64 1, .int .u64 nn, .int .i64 0, .float .f64 0, .slice none 0 0, .bool false]) rfl (fun W _ => rd_part_nil HK.out (partOk_of o1 o2 (by decide) (by decide) (by decide))) F.out.2.2 hg4
set_option maxHeartbeats 4000000 in
set_option maxRecDepth 20000 in
theorem own2 (w : World) (ok : Nat → Prop) (k nn ii : Int) (f : Nat) (bs : List UInt8) (q : Bool) (Ab : Option Addr) (cb : Nat) (k2 : k = 2) (hk : (Lit.int .i64 k).wf = true) (hok : PartOk (k, nn, ii, f, bs, q, ())) (h5 : Rd w ok (.sl .byte) bs [.slice Ab bs.length cb]) :
    Calls Try.prog 18 #[.agg #[Value.int .i64 k, Value.int .u64 nn, Value.int .i64 ii, Value.float .f64 f, Value.slice Ab bs.length cb, Value.bool q]] w (OwnPost w ok (ownP rcanF (k, nn, ii, f, bs, q, ()))) := by
  obtain ⟨o1, o2, o3, o4, o5⟩ := hok
  simp only at o1 o2 o3 o4 o5
  have HK := Lib.hid hk
  have H5 := Lib.hid h5
  clear hk h5
  subst k2
  go_enter Try.func18, Try.ntmps18
  go_wp2_with (first
    | (refine wpL_store rfl 39 (.tmp 3) (.tmp 6) rfl (w.heap.size + 2) rfl _ _ 39 rfl (heap_alloc3_new w _ _ _) rfl rfl (by intro v hv; simp at hv; rcases hv with rfl | rfl | rfl | rfl | rfl | rfl <;> rfl) ?_
       intro w1 hc1 hg1
       have HC1 := Lib.hid hc1
       have HS := Lib.hid (ostart hg1)
       obtain ⟨p0, p1, p2, p3, p4, p5⟩ := blk6 HS.out.1
       obtain ⟨c0, c1, c2, c3, c4, c5⟩ := blk6 hc1
       have f1 := blk_free hc1 1
       have f2 := blk_free hc1 2
       have f3 := blk_free hc1 3
       have f4 := blk_free hc1 4
       have f5 := blk_free hc1 5
       clear hc1 hg1)
    | (have F := Lib.hid (ostep (j := 2) (v := .int .i64 ii) HS.out HC1.out)
       obtain ⟨W, hW⟩ : ∃ W, w1.setCell ⟨w.heap.size + 2, 2, none⟩ (.int .i64 ii) = W := ⟨_, rfl⟩
       rw [hW] at F ⊢
       refine wpL_load rfl 39 (.tmp 3) rfl ⟨w.heap.size + 2, 0, none⟩ rfl [.int .i64 2, .int .u64 0, .int .i64 ii, .float .f64 0, .slice none 0 0, .bool false] _ (At.blk F.out.1) Try.underlying39 rfl rfl ?_)
    | (refine wpL_store rfl 39 (.tmp 2) (.tmp 35) rfl (w.heap.size + 1) rfl _ _ 39 rfl F.out.2.1 rfl rfl (by intro v hv; simp at hv; rcases hv with rfl | rfl | rfl | rfl | rfl | rfl <;> rfl) ?_
       intro w4 hw4 hg4))
  refine bodyPost_ret (results_cell_row rfl _ _ (w.heap.size + 1) 39 _ (0, 0) _ rfl hw4 Try.underlying39 rfl rfl) rfl ?_
  exact own_end (y := (2, 0, ii, 0, [], false, ())) (cs := [.int .i64 2, .int .u64 0, .int .i64 ii, .float .f64 0, .slice none 0 0, .bool false]) rfl (fun W _ => rd_part_nil HK.out (partOk_of (by decide) (by decide) o3 o4 (by decide))) F.out.2.2 hg4
set_option maxHeartbeats 4000000 in
set_option maxRecDepth 20000 in
theorem own3 (w : World) (ok : Nat → Prop) (k nn ii : Int) (f : Nat) (bs : List UInt8) (q : Bool) (Ab : Option Addr) (cb : Nat) (k3 : k = 3) (hk : (Lit.int .i64 k).wf = true) (hok : PartOk (k, nn, ii, f, bs, q, ())) (h5 : Rd w ok (.sl .byte) bs [.slice Ab bs.length cb]) :
    Calls Try.prog 18 #[.agg #[Value.int .i64 k, Value.int .u64 nn, Value.int .i64 ii, Value.float .f64 f, Value.slice Ab bs.length cb, Value.bool q]] w (OwnPost w ok (ownP rcanF (k, nn, ii, f, bs, q, ()))) := by
  obtain ⟨o1, o2, o3, o4, o5⟩ := hok
  simp only at o1 o2 o3 o4 o5
  have HK := Lib.hid hk
  have H5 := Lib.hid h5
  clear hk h5
  subst k3
  go_enter Try.func18, Try.ntmps18
  go_wp2_with (first
    | (refine wpL_store rfl 39 (.tmp 3) (.tmp 6) rfl (w.heap.size + 2) rfl _ _ 39 rfl (heap_alloc3_new w _ _ _) rfl rfl (by intro v hv; simp at hv; rcases hv with rfl | rfl | rfl | rfl | rfl | rfl <;> rfl) ?_
       intro w1 hc1 hg1
       have HC1 := Lib.hid hc1
       have HS := Lib.hid (ostart hg1)
       obtain ⟨p0, p1, p2, p3, p4, p5⟩ := blk6 HS.out.1
       obtain ⟨c0, c1, c2, c3, c4, c5⟩ := blk6 hc1
       have f1 := blk_free hc1 1
       have f2 := blk_free hc1 2
       have f3 := blk_free hc1 3
       have f4 := blk_free hc1 4
       have f5 := blk_free hc1 5
       clear hc1 hg1)
    | (go_at_call 66; refine (rcanon_any _ _).mono ?_; rintro e w2 ⟨rfl, rfl⟩)
    | (have F := Lib.hid (ostep (j := 3) (v := .float .f64 (rcanF f)) HS.out HC1.out)
       obtain ⟨W, hW⟩ : ∃ W, w1.setCell ⟨w.heap.size + 2, 3, none⟩ (.float .f64 (rcanF f)) = W := ⟨_, rfl⟩
       rw [hW] at F ⊢
       refine wpL_load rfl 39 (.tmp 3) rfl ⟨w.heap.size + 2, 0, none⟩ rfl [.int .i64 3, .int .u64 0, .int .i64 0, .float .f64 (rcanF f), .slice none 0 0, .bool false] _ (At.blk F.out.1) Try.underlying39 rfl rfl ?_)
    | (refine wpL_store rfl 39 (.tmp 2) (.tmp 35) rfl (w.heap.size + 1) rfl _ _ 39 rfl F.out.2.1 rfl rfl (by intro v hv; simp at hv; rcases hv with rfl | rfl | rfl | rfl | rfl | rfl <;> rfl) ?_
       intro w4 hw4 hg4))
  refine bodyPost_ret (results_cell_row rfl _ _ (w.heap.size + 1) 39 _ (0, 0) _ rfl hw4 Try.underlying39 rfl rfl) rfl ?_
  exact own_end (y := (3, 0, 0, rcanF f, [], false, ())) (cs := [.int .i64 3, .int .u64 0, .int .i64 0, .float .f64 (rcanF f), .slice none 0 0, .bool false]) rfl (fun W _ => rd_part_nil HK.out (partOk_of (by decide) (by decide) (by decide) (by decide) (rcanF_lt o5))) F.out.2.2 hg4
set_option maxHeartbeats 4000000 in
set_option maxRecDepth 20000 in
theorem own4 (w : World) (ok : Nat → Prop) (k nn ii : Int) (f : Nat) (bs : List UInt8) (q : Bool) (Ab : Option Addr) (cb : Nat) (k4 : k = 4) (hk : (Lit.int .i64 k).wf = true) (hok : PartOk (k, nn, ii, f, bs, q, ())) (h5 : Rd w ok (.sl .byte) bs [.slice Ab bs.length cb]) :
    Calls Try.prog 18 #[.agg #[Value.int .i64 k, Value.int .u64 nn, Value.int .i64 ii, Value.float .f64 f, Value.slice Ab bs.length cb, Value.bool q]] w (OwnPost w ok (ownP rcanF (k, nn, ii, f, bs, q, ()))) := by
  obtain ⟨o1, o2, o3, o4, o5⟩ := hok
  simp only at o1 o2 o3 o4 o5
  have HK := Lib.hid hk
  have H5 := Lib.hid h5
  clear hk h5
  subst k4
  go_enter Try.func18, Try.ntmps18
  go_wp2_with (first
    | (refine wpL_store rfl 39 (.tmp 3) (.tmp 6) rfl (w.heap.size + 2) rfl _ _ 39 rfl (heap_alloc3_new w _ _ _) rfl rfl (by intro v hv; simp at hv; rcases hv with rfl | rfl | rfl | rfl | rfl | rfl <;> rfl) ?_
       intro w1 hc1 hg1
       have HC1 := Lib.hid hc1
       have HS := Lib.hid (ostart hg1)
       obtain ⟨p0, p1, p2, p3, p4, p5⟩ := blk6 HS.out.1
       obtain ⟨c0, c1, c2, c3, c4, c5⟩ := blk6 hc1
       have f1 := blk_free hc1 1
       have f2 := blk_free hc1 2
       have f3 := blk_free hc1 3
       have f4 := blk_free hc1 4
       have f5 := blk_free hc1 5
       clear hc1 hg1)
    | (have F := Lib.hid (ostep (j := 4) (v := .slice Ab bs.length cb) HS.out HC1.out)
       obtain ⟨W, hW⟩ : ∃ W, w1.setCell ⟨w.heap.size + 2, 4, none⟩ (.slice Ab bs.length cb) = W := ⟨_, rfl⟩
       rw [hW] at F ⊢
       refine wpL_load rfl 39 (.tmp 3) rfl ⟨w.heap.size + 2, 0, none⟩ rfl [.int .i64 4, .int .u64 0, .int .i64 0, .float .f64 0, .slice Ab bs.length cb, .bool false] _ (At.blk F.out.1) Try.underlying39 rfl rfl ?_)
    | (refine wpL_store rfl 39 (.tmp 2) (.tmp 35) rfl (w.heap.size + 1) rfl _ _ 39 rfl F.out.2.1 rfl rfl (by intro v hv; simp at hv; rcases hv with rfl | rfl | rfl | rfl | rfl | rfl <;> rfl) ?_
       intro w4 hw4 hg4))
  refine bodyPost_ret (results_cell_row rfl _ _ (w.heap.size + 1) 39 _ (0, 0) _ rfl hw4 Try.underlying39 rfl rfl) rfl ?_
  exact own_end (y := (4, 0, 0, 0, bs, false, ())) (cs := [.int .i64 4, .int .u64 0, .int .i64 0, .float .f64 0, .slice Ab bs.length cb, .bool false]) rfl (fun W hb => rd_part_mk HK.out (partOk_of (by decide) (by decide) (by decide) (by decide) (by decide)) (H5.out.below hb)) F.out.2.2 hg4
set_option maxHeartbeats 4000000 in
set_option maxRecDepth 20000 in
theorem own5 (w : World) (ok : Nat → Prop) (k nn ii : Int) (f : Nat) (bs : List UInt8) (q : Bool) (Ab : Option Addr) (cb : Nat) (k5 : k = 5) (hk : (Lit.int .i64 k).wf = true) (hok : PartOk (k, nn, ii, f, bs, q, ())) (h5 : Rd w ok (.sl .byte) bs [.slice Ab bs.length cb]) :
    Calls Try.prog 18 #[.agg #[Value.int .i64 k, Value.int .u64 nn, Value.int .i64 ii, Value.float .f64 f, Value.slice Ab bs.length cb, Value.bool q]] w (OwnPost w ok (ownP rcanF (k, nn, ii, f, bs, q, ()))) := by
  obtain ⟨o1, o2, o3, o4, o5⟩ := hok
  simp only at o1 o2 o3 o4 o5
  have HK := Lib.hid hk
  have H5 := Lib.hid h5
  clear hk h5
  subst k5
  go_enter Try.func18, Try.ntmps18
  go_wp2_with (first
    | (refine wpL_store rfl 39 (.tmp 3) (.tmp 6) rfl (w.heap.size + 2) rfl _ _ 39 rfl (heap_alloc3_new w _ _ _) rfl rfl (by intro v hv; simp at hv; rcases hv with rfl | rfl | rfl | rfl | rfl | rfl <;> rfl) ?_
       intro w1 hc1 hg1
       have HC1 := Lib.hid hc1
       have HS := Lib.hid (ostart hg1)
       obtain ⟨p0, p1, p2, p3, p4, p5⟩ := blk6 HS.out.1
       obtain ⟨c0, c1, c2, c3, c4, c5⟩ := blk6 hc1
       have f1 := blk_free hc1 1
       have f2 := blk_free hc1 2
       have f3 := blk_free hc1 3
       have f4 := blk_free hc1 4
       have f5 := blk_free hc1 5
       clear hc1 hg1)
    | (have F := Lib.hid (ostep (j := 5) (v := .bool q) HS.out HC1.out)
       obtain ⟨W, hW⟩ : ∃ W, w1.setCell ⟨w.heap.size + 2, 5, none⟩ (.bool q) = W := ⟨_, rfl⟩
       rw [hW] at F ⊢
       refine wpL_load rfl 39 (.tmp 3) rfl ⟨w.heap.size + 2, 0, none⟩ rfl [.int .i64 5, .int .u64 0, .int .i64 0, .float .f64 0, .slice none 0 0, .bool q] _ (At.blk F.out.1) Try.underlying39 rfl rfl ?_)
    | (refine wpL_store rfl 39 (.tmp 2) (.tmp 35) rfl (w.heap.size + 1) rfl _ _ 39 rfl F.out.2.1 rfl rfl (by intro v hv; simp at hv; rcases hv with rfl | rfl | rfl | rfl | rfl | rfl <;> rfl) ?_
       intro w4 hw4 hg4))
  refine bodyPost_ret (results_cell_row rfl _ _ (w.heap.size + 1) 39 _ (0, 0) _ rfl hw4 Try.underlying39 rfl rfl) rfl ?_
  exact own_end (y := (5, 0, 0, 0, [], q, ())) (cs := [.int .i64 5, .int .u64 0, .int .i64 0, .float .f64 0, .slice none 0 0, .bool q]) rfl (fun W _ => rd_part_nil HK.out (partOk_of (by decide) (by decide) (by decide) (by decide) (by decide))) F.out.2.2 hg4
set_option maxHeartbeats 4000000 in
set_option maxRecDepth 20000 in
theorem own0 (w : World) (ok : Nat → Prop) (k nn ii : Int) (f : Nat) (bs : List UInt8) (q : Bool) (Ab : Option Addr) (cb : Nat) (k1 : ¬ k = 1) (k2 : ¬ k = 2) (k3 : ¬ k = 3) (k4 : ¬ k = 4) (k5 : ¬ k = 5) (hk : (Lit.int .i64 k).wf = true) (hok : PartOk (k, nn, ii, f, bs, q, ())) (h5 : Rd w ok (.sl .byte) bs [.slice Ab bs.length cb]) :
    Calls Try.prog 18 #[.agg #[Value.int .i64 k, Value.int .u64 nn, Value.int .i64 ii, Value.float .f64 f, Value.slice Ab bs.length cb, Value.bool q]] w (OwnPost w ok (ownP rcanF (k, nn, ii, f, bs, q, ()))) := by
  obtain ⟨o1, o2, o3, o4, o5⟩ := hok
  simp only at o1 o2 o3 o4 o5
  have HK := Lib.hid hk
  have H5 := Lib.hid h5
  clear hk h5
  have b1 : (k == 1) = false := beq_eq_false_iff_ne.2 k1
  have b2 : (k == 2) = false := beq_eq_false_iff_ne.2 k2
  have b3 : (k == 3) = false := beq_eq_false_iff_ne.2 k3
  have b4 : (k == 4) = false := beq_eq_false_iff_ne.2 k4
  have b5 : (k == 5) = false := beq_eq_false_iff_ne.2 k5
  have HD := Lib.hid (show ((k, 0, 0, 0, [], false, ()) : PartT) = ownP rcanF (k, nn, ii, f, bs, q, ()) by unfold ownP; rw [if_neg k1, if_neg k2, if_neg k3, if_neg k4, if_neg k5])
  clear k1 k2 k3 k4 k5
  go_enter Try.func18, Try.ntmps18
  go_wp2_with (first
      | (refine wpL_store rfl 39 (.tmp 3) (.tmp 6) rfl (w.heap.size + 2) rfl _ _ 39 rfl (heap_alloc3_new w _ _ _) rfl rfl (by intro v hv; simp at hv; rcases hv with rfl | rfl | rfl | rfl | rfl | rfl <;> rfl) ?_
         intro w1 hc1 hg1
         have HC1 := Lib.hid hc1
         have HS := Lib.hid (ostart hg1)
         obtain ⟨p0, p1, p2, p3, p4, p5⟩ := blk6 HS.out.1
         obtain ⟨c0, c1, c2, c3, c4, c5⟩ := blk6 hc1
         have f1 := blk_free hc1 1
         have f2 := blk_free hc1 2
         have f3 := blk_free hc1 3
         have f4 := blk_free hc1 4
         have f5 := blk_free hc1 5
         clear hc1 hg1)
      | (refine wpL_load rfl 39 (.tmp 3) rfl ⟨w.heap.size + 2, 0, none⟩ rfl _ _ (At.blk HC1.out) Try.underlying39 rfl rfl ?_)
      | (refine wpL_store rfl 39 (.tmp 2) (.tmp 35) rfl (w.heap.size + 1) rfl _ _ 39 rfl HS.out.2.1 rfl rfl (by intro v hv; simp at hv; rcases hv with rfl | rfl | rfl | rfl | rfl | rfl <;> rfl) ?_
         intro w4 hw4 hg4))
  refine bodyPost_ret (results_cell_row rfl _ _ (w.heap.size + 1) 39 _ (0, 0) _ rfl hw4 Try.underlying39 rfl rfl) rfl ?_
  exact own_end (y := (k, 0, 0, 0, [], false, ())) (cs := [.int .i64 k, .int .u64 0, .int .i64 0, .float .f64 0, .slice none 0 0, .bool false]) HD.out (fun W _ => rd_part_nil HK.out (partOk_of (by decide) (by decide) (by decide) (by decide) (by decide))) HS.out.2.2 hg4
set_option maxHeartbeats 4000000 in
set_option maxRecDepth 20000 in
theorem own_any (w : World) (ok : Nat → Prop) (k nn ii : Int) (f : Nat) (bs : List UInt8) (q : Bool) (Ab : Option Addr) (cb : Nat) (hk : (Lit.int .i64 k).wf = true) (hok : PartOk (k, nn, ii, f, bs, q, ())) (h5 : Rd w ok (.sl .byte) bs [.slice Ab bs.length cb]) :
    Calls Try.prog 18 #[.agg #[Value.int .i64 k, Value.int .u64 nn, Value.int .i64 ii, Value.float .f64 f, Value.slice Ab bs.length cb, Value.bool q]] w (OwnPost w ok (ownP rcanF (k, nn, ii, f, bs, q, ()))) := by
  by_cases k1 : k = 1
  · exact own1 w ok k nn ii f bs q Ab cb k1 hk hok h5
  by_cases k2 : k = 2
  · exact own2 w ok k nn ii f bs q Ab cb k2 hk hok h5
  by_cases k3 : k = 3
  · exact own3 w ok k nn ii f bs q Ab cb k3 hk hok h5
  by_cases k4 : k = 4
  · exact own4 w ok k nn ii f bs q Ab cb k4 hk hok h5
  by_cases k5 : k = 5
  · exact own5 w ok k nn ii f bs q Ab cb k5 hk hok h5
  exact own0 w ok k nn ii f bs q Ab cb k1 k2 k3 k4 k5 hk hok h5
end Go.Proofs.Ytnolhnlhohpkpaa
