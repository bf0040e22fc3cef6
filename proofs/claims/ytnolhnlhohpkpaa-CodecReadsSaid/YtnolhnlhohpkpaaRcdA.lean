import Derived.Test.YtnolhnlhohpkpaaRcdL
namespace Go.Proofs.Ytnolhnlhohpkpaa
open Go.RowKit Cdc
set_option linter.unusedVariables false
set_option linter.unusedSimpArgs false
attribute [local go_sem] run_store_float
set_option maxRecDepth 20000 in
theorem enc300 : encParts keyN [(1, 300, 0, 0, [], false, ())] = [130, 1, 44] := by decide
set_option maxRecDepth 20000 in
theorem parts129 : partsL ofN [129, 5] [1] = none := by decide
set_option maxHeartbeats 4000000 in
set_option maxRecDepth 20000 in
theorem cdc_awake (w : World) :
    Calls Try.prog 10 #[] w fun e w' => e = .returned (.bool true) ∧ Below w.heap.size w w' := by
  go_enter Try.func10, Try.ntmps10
  go_wp2_with (first
    | (refine wpL_lit1 rfl (cs := [.int .i64 1, .int .u64 300, .int .i64 0, .float .f64 0, .slice none 0 0, .bool false]) (.tmp 4) rfl rfl Try.underlying22 info_part rfl (by decide) (by decide) rfl ?_)
    | (go_at_call 14; go_loud (
       refine (put_any _ _ _ _ [(1, 300, 0, 0, [], false, ())] (rows_of (RdL.single (rd_part_nil (by decide) (partOk_of (by decide) (by decide) (by decide) (by decide) (by decide)))) (fun _ => trivial) (At.blk (heap_alloc_new w _))) (by decide) (by intro x hx; simp at hx; subst hx; simp)).mono ?_
       rintro e w2 ⟨v2, rfl, hr2, hb2⟩
       rw [enc300] at hr2
       obtain ⟨A2, c2, rfl, h1, h2, h3, h4⟩ := rd_bs hr2
       have HB2 := Lib.hid ((below_alloc1 w _).trans (hb2.mono (by simp)))
       have H4 := Lib.hid h4
       clear hr2 hb2 h4))
    | (go_at_call 12; go_loud (
       have hb1 := (below_alloc1 w2 (.cells #[.int .u8 129, .int .u8 5] 5))
       have hb2 := (below_alloc1 (w2.alloc (.cells #[.int .u8 129, .int .u8 5] 5)) (.cells #[.int .i64 1] 3))
       have k1 : Bs (w2.alloc (.cells #[.int .u8 129, .int .u8 5] 5)) (some ⟨w2.heap.size, 0, none⟩) 2 [129, 5] := (lit_bs w2 5 [129, 5] #[.int .u8 129, .int .u8 5] rfl (by decide)).2
       have k3 := lit_rc (w2.alloc (.cells #[.int .u8 129, .int .u8 5] 5)) 3 (0, 0) #[.int .i64 1] 1 rfl
       rw [show (w2.alloc (.cells #[.int .u8 129, .int .u8 5] 5)).heap.size = w2.heap.size + 1 by simp] at k3
       refine (parts_any _ (some ⟨w2.heap.size, 0, none⟩) 2 2 [129, 5] (rd_of_bs (k1.below hb2) (by omega) (by omega) (fun e => by cases e)) (by decide) (some ⟨w2.heap.size + 1, 0, none⟩) 1 1 [1] (rows_ints (ks := [1]) k3 (by decide) (fun _ _ _ => trivial)) (by decide)).mono ?_
       intro e w3 h3
       unfold PartsPost at h3
       rw [parts129] at h3
       obtain ⟨rfl, hb3⟩ := h3
       have HB3 := Lib.hid ((HB2.out.trans ((hb1.trans (hb2.mono (by simp))).mono HB2.out.size)).trans (hb3.mono (by have := HB2.out.size; simp <;> omega)))
       have H5 := Lib.hid ((H4.out.below (hb1.trans (hb2.mono (by simp)))).below (hb3.mono (by simp <;> omega)))
       obtain ⟨ad, _, e0, _, _⟩ := H5.out.at_ 0 (by decide)
       subst e0
       have c0 : w3.cell? ad = some (.int .u8 130) := H5.out.2.2.2 ad rfl 0 (encB 130) rfl
       have c1 : w3.cell? (ad.add 1) = some (.int .u8 1) := H5.out.2.2.2 ad rfl 1 (encB 1) rfl
       simp [Addr.add] at c1
       have c2 : w3.cell? (ad.add 2) = some (.int .u8 44) := H5.out.2.2.2 ad rfl 2 (encB 44) rfl
       simp [Addr.add] at c2
       clear hb1 hb2 hb3 k1 k3)))
  go_ret
  exact ⟨rfl, HB3.out⟩
end Go.Proofs.Ytnolhnlhohpkpaa
