import Derived.Test.YthkfjcfncobllaaStaF
import Derived.Test.YthkfjcfncobllaaTskL
namespace Go.Proofs.Ythkfjcfncobllaa
open Go.RowKit FP
set_option linter.unusedVariables false
set_option linter.unusedSimpArgs false
attribute [local go_sem] run_store_float
set_option maxHeartbeats 2000000 in
set_option maxRecDepth 20000 in
theorem sta_awake (w : World) : Calls Try.prog 7 #[] w fun e w' => e = .returned (.bool true) ∧ Below w.heap.size w w' := by
  have hq : (FloatKind.f64.format.order 4611686018427387904 4611686018427387904 == some .eq) = true := by decide +kernel
  have h3 : Rd (w.alloc (.cells #[.float .f64 4613937818241073152, .float .f64 4607182418800017408, .float .f64 4611686018427387904] 27)) anyB (.sl .f64) [4613937818241073152, 4607182418800017408, 4611686018427387904] [.slice (some ⟨w.heap.size, 0, none⟩) 3 3] := by
    refine rd_sl.2 ⟨_, 3, 3, rfl, by omega, by omega, (fun e => by cases e), rows_of (rdl_f64.2 ⟨rfl, by decide⟩) (fun _ => trivial) (At.blk (heap_alloc_new w _))⟩
  have H3 := Lib.hid h3
  have HB := Lib.hid (below_alloc1 w (.cells #[.float .f64 4613937818241073152, .float .f64 4607182418800017408, .float .f64 4611686018427387904] 27))
  clear h3
  go_enter Try.func7, Try.ntmps7
  go_wp2_with fail
  refine (rank_any _ _ _ 1 2 H3.out (by decide) (by omega) (by omega) (by omega) (by omega)).mono ?_
  rintro e w1 ⟨rfl, hb1⟩
  rw [rank312]
  have HB1 := Lib.hid (HB.out.trans (hb1.mono HB.out.size))
  clear hb1
  go_wp2_with fail
  refine (of_nil w1).mono ?_
  rintro e w2 ⟨⟨a, b, c, d, rfl⟩, hb2⟩
  have HB2 := Lib.hid (HB1.out.trans (hb2.mono HB1.out.size))
  clear hb2
  have hfd : ∀ w : World, (Instr.field 29 (.agg #[.int .i64 0, .int .i64 0, a, b, c, d]) 0).run Try.prog w = .ok (.int .i64 0) w := fun _ => by kernel_rfl
  go_wp2_with fail
  refine (bins_nil w2).mono ?_
  rintro e w3 ⟨⟨A, c, rfl⟩, hb3⟩
  have HB3 := Lib.hid (HB2.out.trans (hb3.mono HB2.out.size))
  clear hb3
  go_wp2_with fail
  go_ret
  exact ⟨rfl, HB3.out⟩
def estL (ts : List TASK.Ty) (id : Int) : List Nat := (ts.filter fun t => decide (id = 0) || decide (t.2.1 = id)).map fun t => t.2.2.2.2.2.1
set_option maxRecDepth 20000 in
theorem estL_yes {ts : List TASK.Ty} {i : Nat} {x : TASK.Ty} {id : Int} (hx : ts[i]? = some x) (h : (decide (id = 0) || decide (x.2.1 = id)) = true) : estL (ts.take (i + 1)) id = estL (ts.take i) id ++ [x.2.2.2.2.2.1] := by
  unfold estL
  rw [take_at hx, List.filter_append, List.map_append, List.filter_cons_of_pos (by exact h)]
  rfl
set_option maxRecDepth 20000 in
theorem estL_no {ts : List TASK.Ty} {i : Nat} {x : TASK.Ty} {id : Int} (hx : ts[i]? = some x) (h : (decide (id = 0) || decide (x.2.1 = id)) = false) : estL (ts.take (i + 1)) id = estL (ts.take i) id := by
  unfold estL
  rw [take_at hx, List.filter_append, List.filter_cons_of_neg (by rw [h]; simp)]
  simp
set_option maxRecDepth 20000 in
theorem estL_le (ts : List TASK.Ty) (id : Int) : (estL ts id).length ≤ ts.length := by
  unfold estL
  rw [List.length_map]
  exact List.length_filter_le _ _
end Go.Proofs.Ythkfjcfncobllaa
