import Derived.Test.YtfjnpiahloncmaaGreatTskP
namespace Go.Proofs.YtfjnpiahloncmaaGreat
open Go.RowKit Cdc
set_option linter.unusedVariables false
set_option linter.unusedSimpArgs false
attribute [local go_sem] run_store_float
attribute [local go_sem high] run_eq_list run_neq_list
set_option maxRecDepth 20000 in
theorem rows_nil (w : World) (e : Sh) : Rows w anyB e none 0 [] := ⟨rfl, fun _ => rfl, fun ad e => by cases e⟩
set_option maxRecDepth 20000 in
theorem rd_nil (w : World) (ok : Nat → Prop) (e : Sh) : Rd w ok (.sl e) ([] : List e.Ty) [.slice none 0 0] := rd_sl.2 ⟨none, 0, 0, rfl, by omega, by omega, fun _ => rfl, rfl, fun _ => rfl, fun ad e => by cases e⟩
def task1 : TASK.Ty := (1, 2, ⟨#[116]⟩, false, 0, 0, [], ())
set_option maxRecDepth 20000 in
theorem right1 : rightE [] [task1] = 91 := by decide
set_option maxRecDepth 20000 in
theorem titlea : titleB ⟨#[97]⟩ = true := by decide
set_option maxRecDepth 20000 in
theorem put0 : encState [] [] = [0, 0] := by decide
set_option maxRecDepth 20000 in
theorem info_task : (Tryz.prog.info? 37).map (fun i => (i.zero, i.size, i.bytes)) = some (some (.agg Z7), 7, (Tryz.prog.bytesOf 37)) := by kernel_rfl
abbrev T1 : List Value := [.int .u64 1, .int .u64 2, .string ⟨#[116]⟩, .bool false, .float .f64 0, .float .f64 0, .slice none 0 0]
set_option maxHeartbeats 2000000 in
set_option maxRecDepth 20000 in
theorem tsk_awake (w : World) : Calls Tryz.prog 4 #[] w fun e w' => e = .returned (.bool true) ∧ Below w.heap.size w w' := by
  have hr : Rd (w.alloc (.cells T1.toArray 37)) anyB TASK task1 T1 := rd_task_mk ⟨⟨by decide, by decide⟩, ⟨by decide, by decide⟩, by decide, by decide, by decide⟩ (rd_nil _ _ _)
  have hR := rows_of (ad := ⟨w.heap.size, 0, none⟩) (RdL.single hr) (fun _ => trivial) (At.blk (heap_alloc_new w (.cells T1.toArray 37)))
  have HR := Lib.hid hR
  have hb := (below_alloc1 w (.cells T1.toArray 37))
  have hc := heap_alloc2_new w (.cells T1.toArray 37) (.cells #[.slice none 0 0, .slice (some ⟨w.heap.size, 0, none⟩) 1 1] 25)
  have HB := Lib.hid (hb.alloc hb.size (.cells #[.slice none 0 0, .slice (some ⟨w.heap.size, 0, none⟩) 1 1] 25))
  have HC := Lib.hid hc
  clear hr hR hb hc
  go_enter Tryz.func4, Tryz.ntmps4
  go_wp2_with (first
    | (refine wpL_lit1 rfl (cs := T1) (.tmp 2) rfl rfl Tryz.underlying23 info_task rfl (by decide) (by decide) rfl ?_)
    | (refine wpL_load rfl 25 (.tmp 1) rfl ⟨w.heap.size + 1, 0, none⟩ rfl _ _ (At.blk HC.out) Tryz.underlying25 rfl rfl ?_))
  refine (right_any _ none (some ⟨w.heap.size, 0, none⟩) 0 0 1 1 [] [task1] (rows_nil _ _) (HR.out.below (below_alloc1 _ _)) (by decide) (by decide)).mono ?_
  rintro e w2 ⟨rfl, hw2⟩
  rw [right1]
  have HB2 := Lib.hid (HB.out.trans (hw2.mono HB.out.size))
  clear hw2
  go_wp2_with fail
  refine (title_any _ _ (by decide)).mono ?_
  rintro e w3 ⟨rfl, hw3⟩
  rw [titlea]
  have HB3 := Lib.hid (HB2.out.trans (hw3.mono HB2.out.size))
  clear hw3
  go_wp2_with fail
  refine (put_state _ none none 0 0 0 0 [] [] (rows_nil _ _) (rows_nil _ _) ⟨by decide, by decide, (fun x hx => by cases hx), (fun x hx => by cases hx)⟩).mono ?_
  rintro e w4 ⟨v4, rfl, hr4, hw4⟩
  rw [put0] at hr4
  obtain ⟨A4, c4, rfl, _⟩ := rd_bs hr4
  have HB4 := Lib.hid (HB3.out.trans (hw4.mono HB3.out.size))
  clear hr4 hw4
  go_wp2_with fail
  go_ret
  exact ⟨rfl, HB4.out⟩
end Go.Proofs.YtfjnpiahloncmaaGreat
