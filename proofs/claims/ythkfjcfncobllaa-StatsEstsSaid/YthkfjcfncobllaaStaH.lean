import Derived.Test.YthkfjcfncobllaaStaG
namespace Go.Proofs.Ythkfjcfncobllaa
open Go.RowKit FP
set_option linter.unusedVariables false
set_option linter.unusedSimpArgs false
attribute [local go_sem] run_store_float
set_option maxHeartbeats 4000000 in
set_option maxRecDepth 20000 in
theorem ests_any (w0 w : World) (A B : Option Addr) (n ca m cb : Nat) (ts : List TASK.Ty) (id : Int) (hbr : Rows w anyB TASK B m ts) (bm : m ≤ 70) :
    Calls Try.prog 21 #[.agg #[Value.slice A n ca, Value.slice B m cb], .int .u64 id] w fun e w' => ∃ v', e = .returned v' ∧ Own w' w.heap.size 27 .f64 v' (estL ts id) ∧ Below w.heap.size w w' := by
  have h0 := heap_alloc_new w (.cells #[Value.slice A n ca, Value.slice B m cb] 46)
  obtain ⟨p0, p1⟩ := blk2 h0
  have HB0 := Lib.hid (below_alloc1 w (.cells #[Value.slice A n ca, Value.slice B m cb] 46))
  have HBr := Lib.hid hbr
  clear hbr h0
  go_enter Try.func21, Try.ntmps21
  go_wp2_with fail
  go_loopw [5, 11] (fun s5 sI wr => ∃ (i : Nat) (v : Value), i ≤ m ∧ v = s5 ∧ sI = .int .i64 i ∧ Own wr w.heap.size 27 .f64 v (estL (ts.take i) id) ∧ Below w.heap.size w wr) (fun _ sI _ => m - (intOf sI).toNat)
  case atStart => exact ⟨0, _, by omega, rfl, rfl, Own.nil _ _ _ _, HB0.out⟩
  case round =>
    obtain ⟨i, v, hi, rfl, rfl, hO, hbel⟩ := hrel
    have HB := Lib.hid hbel
    have HO := Lib.hid hO
    obtain ⟨Av, cv, rfl, _⟩ := Own.form hO
    obtain ⟨q, hq⟩ : ∃ q, (estL (ts.take i) id).length = q := ⟨_, rfl⟩
    rw [hq] at HO ⊢
    clear hO hbel
    by_cases hlt : i < m
    · obtain ⟨ad, x, cs, rfl, hx, hat, hrd⟩ := HBr.out.get i hlt
      have i0 : (0 : Int) ≤ (i : Int) := by omega
      have i1' : (i : Int) < (m : Int) := by omega
      have HAt := Lib.hid (hat.below HB.out)
      obtain ⟨k1, l1, t1, d1, r1, e1, g1, A1, c1, rfl, rfl, hok, hg1⟩ := rd_task hrd
      have HE64 := Lib.hid (show e1 < B64 from hok.2.2.2.2)
      have hc := heap_alloc_new wr (.cells #[.int .u64 k1, .int .u64 l1, .string t1, .bool d1, .float .f64 r1, .float .f64 e1, .slice A1 g1.length c1] 51)
      have HBa := Lib.hid (below_alloc1 wr (.cells #[.int .u64 k1, .int .u64 l1, .string t1, .bool d1, .float .f64 r1, .float .f64 e1, .slice A1 g1.length c1] 51))
      obtain ⟨-, y1, -, -, -, y5, -⟩ := blk7 hc
      have hle := Nat.le_trans (estL_le (ts.take i) id) (show (ts.take i).length ≤ 70 by rw [List.length_take]; omega)
      rw [hq] at hle
      have HO3 := Lib.hid ((HO.out.below HBa.out).below (below_alloc1 (wr.alloc (.cells #[.int .u64 k1, .int .u64 l1, .string t1, .bool d1, .float .f64 r1, .float .f64 e1, .slice A1 g1.length c1] 51)) (.cells #[.float .f64 e1] 27)))
      have HB3 := Lib.hid ((HB.out.trans (HBa.out.mono HB.out.size)).alloc (HB.out.trans (HBa.out.mono HB.out.size)).size (.cells #[.float .f64 e1] 27))
      have hsz3 := HB3.out.size
      clear hc hat hrd hok hg1
      by_cases hz : id = 0
      · subst hz
        have HN := Lib.hid (estL_yes (id := 0) hx (by simp))
        have hq1 : (estL (ts.take (i + 1)) 0).length = q + 1 := by rw [HN.out, List.length_append, hq]; rfl
        clear hx
        go_wp2_with (first
          | (refine wpL_load rfl 51 _ rfl _ rfl _ _ HAt.out Try.underlying51 rfl rfl ?_)
          | (at_builtin; go_loud (refine wp_appO (m := 1) (r := [e1]) (ys := [.float .f64 e1]) rfl (.tmp 23) (.tmp 26) rfl HO3.out rfl (fun e => by cases e) (fun ad' e => by cases e; exact At.blk (heap_alloc2_new wr _ _)) (RdL.single (rd_f64v HE64.out)) HB3.out Try.underlying22 info_f64 rfl (by decide) rfl rfl (by rw [hq]; omega) (by rw [hq]; omega) hsz3 ?_; intro v6 w6 hO6 hb6 _ _; rw [← HN.out] at hO6; obtain ⟨A6, c6, rfl, _⟩ := Own.form hO6; rw [hq1] at hO6 ⊢; have HO6 := Lib.hid hO6; clear hO6)))
        go_roundw
        case measure => simp [intOf]; omega
        case rel => exact ⟨i + 1, _, by omega, rfl, by go_num, HO6.out, hb6⟩
      have hzb : (id == 0) = false := beq_false_of_ne hz
      by_cases hl1 : l1 = id
      · have hlb : (l1 == id) = true := beq_iff_eq.2 hl1
        have HN := Lib.hid (estL_yes (id := id) hx (by simp [hl1]))
        have hq1 : (estL (ts.take (i + 1)) id).length = q + 1 := by rw [HN.out, List.length_append, hq]; rfl
        clear hx hl1 hz
        go_wp2_with (first
          | (refine wpL_load rfl 51 _ rfl _ rfl _ _ HAt.out Try.underlying51 rfl rfl ?_)
          | (at_builtin; go_loud (refine wp_appO (m := 1) (r := [e1]) (ys := [.float .f64 e1]) rfl (.tmp 23) (.tmp 26) rfl HO3.out rfl (fun e => by cases e) (fun ad' e => by cases e; exact At.blk (heap_alloc2_new wr _ _)) (RdL.single (rd_f64v HE64.out)) HB3.out Try.underlying22 info_f64 rfl (by decide) rfl rfl (by rw [hq]; omega) (by rw [hq]; omega) hsz3 ?_; intro v6 w6 hO6 hb6 _ _; rw [← HN.out] at hO6; obtain ⟨A6, c6, rfl, _⟩ := Own.form hO6; rw [hq1] at hO6 ⊢; have HO6 := Lib.hid hO6; clear hO6)))
        go_roundw
        case measure => simp [intOf]; omega
        case rel => exact ⟨i + 1, _, by omega, rfl, by go_num, HO6.out, hb6⟩
      · have hlb : (l1 == id) = false := beq_false_of_ne hl1
        have HN := Lib.hid (estL_no (id := id) hx (by simp [hl1, hz]))
        have HO := Lib.hid (show Own wr w.heap.size 27 .f64 (.slice Av q cv) (estL (ts.take i) id) from HO.out)
        clear hx hl1 hz
        go_wp2_with (first
          | (refine wpL_load rfl 51 _ rfl _ rfl _ _ HAt.out Try.underlying51 rfl rfl ?_))
        go_roundw
        case measure => simp [intOf]; omega
        case rel => exact ⟨i + 1, _, by omega, rfl, by go_num, by rw [HN.out]; exact HO.out.below HBa.out, HB.out.trans (HBa.out.mono HB.out.size)⟩
    · obtain rfl : i = m := by omega
      have HE := Lib.hid (show estL (ts.take i) id = estL ts id by rw [List.take_of_length_le (by rw [HBr.out.1]; omega)])
      have HQ := Lib.hid (show (estL ts id).length = q by rw [← HE.out]; exact hq)
      have HQ7 := Lib.hid (show q ≤ 70 by rw [← HQ.out]; have := estL_le ts id; have := HBr.out.1; omega)
      rw [HE.out] at HO
      clear hq
      go_wp2_with fail
      go_ret
      exact ⟨_, rfl, HO.out, HB.out⟩
end Go.Proofs.Ythkfjcfncobllaa
