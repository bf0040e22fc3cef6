import Derived.Test.YthkfjcfncobllaaStaH
namespace Go.Proofs.Ythkfjcfncobllaa
open Go.RowKit FP
set_option linter.unusedVariables false
set_option linter.unusedSimpArgs false
attribute [local go_sem] run_store_float
set_option maxHeartbeats 4000000 in
set_option maxRecDepth 20000 in
theorem x_StatsEsts (ls : List LIST.Ty) (ts : List TASK.Ty) (A B : Option Addr) (n ca m cb : Nat) (id : Int) (w : World) (hs : Rd w anyB STATE (ls, ts, ()) [.slice A n ca, .slice B m cb]) :
    Calls Try.prog 6 #[.agg #[Value.slice A n ca, Value.slice B m cb], .int .u64 id] w fun e w' => e = .returned (.bool true) ∧ Below w.heap.size w w' := by
  obtain ⟨ls', ts', A', ca', B', cb', e1, e2, _, h1, h2⟩ := rd_state hs
  obtain ⟨rfl, rfl⟩ : ls = ls' ∧ ts = ts' := by simpa using e1
  have hn := rd_rowsN h1
  have hm := rd_rowsN h2
  obtain ⟨⟨rfl, rfl, rfl⟩, rfl, rfl, rfl⟩ : (A = A' ∧ n = ls.length ∧ ca = ca') ∧ B = B' ∧ m = ts.length ∧ cb = cb' := by simpa using e2
  obtain ⟨n, hln⟩ : ∃ n, ls.length = n := ⟨_, rfl⟩
  obtain ⟨m, hlm⟩ : ∃ n, ts.length = n := ⟨_, rfl⟩
  rw [hln] at hn ⊢
  rw [hlm] at hm ⊢
  have HA := Lib.hid hn.2.2.2
  have HBw := Lib.hid hm.2.2.2
  have bn : n ≤ 9223372036854775807 := by omega
  have bm0 : m ≤ 9223372036854775807 := by omega
  have HLM := Lib.hid hlm
  clear hs h1 h2 hn hm e1 e2 hln hlm
  have hp := heap_alloc_new w (.cells #[Value.slice A n ca, Value.slice B m cb] 46)
  have hw := below_alloc1 w (.cells #[Value.slice A n ca, Value.slice B m cb] 46)
  go_enter Try.func6, Try.ntmps6
  obtain ⟨v0, hv0⟩ : ∃ v0, w.alloc (.cells #[Value.slice A n ca, Value.slice B m cb] 46) = v0 := ⟨_, rfl⟩
  rw [hv0] at hp hw
  have HS := Lib.hid hp
  have HW := Lib.hid hw
  clear hp hw
  go_wp2_with fail
  refine (sta_awake v0).mono ?_
  rintro e v1 ⟨rfl, hb⟩
  have HB1 := Lib.hid hb
  clear hb
  go_wp2_with (refine wpL_load rfl 46 _ rfl ⟨w.heap.size, 0, none⟩ rfl _ _ ((At.blk HS.out).below HB1.out) Try.underlying46 rfl rfl ?_)
  refine (light_any v1 A B n ca m cb ls ts (HA.out.below (HW.out.trans (HB1.out.mono HW.out.size))) (HBw.out.below (HW.out.trans (HB1.out.mono HW.out.size))) bn bm0).mono ?_
  rintro e v2 ⟨q, rfl, hq, hb2⟩
  have HB2 := Lib.hid (HB1.out.trans (hb2.mono HB1.out.size))
  cases q with
  | false =>
    clear hq hb2
    go_wp2_with fail
    go_ret
    exact ⟨rfl, HW.out.trans (HB2.out.mono HW.out.size)⟩
  | true =>
  have HL1 := Lib.hid (hq rfl)
  clear hq hb2
  have bm : m ≤ 70 := by have := HL1.out.2.1; have := HLM.out; omega
  have HX2 := Lib.hid (HW.out.trans (HB2.out.mono HW.out.size))
  have HZ2 := Lib.hid (blk_below HS.out HB2.out (blk_lt HS.out))
  obtain ⟨p0, p1⟩ := blk2 HZ2.out
  have HB0 := Lib.hid (Below.refl v2.heap.size v2)
  have HBr := Lib.hid (HBw.out.below HX2.out)
  clear p0
  go_wp2_with fail
  go_loopw [5, 16] (fun s5 sI wr => ∃ (i : Nat) (v : Value), i ≤ m ∧ v = s5 ∧ sI = .int .i64 i ∧ Own wr v2.heap.size 27 .f64 v (estL (ts.take i) id) ∧ Below v2.heap.size v2 wr) (fun _ sI _ => m - (intOf sI).toNat)
  case atStart => exact ⟨0, _, by omega, rfl, rfl, Own.nil _ _ _ _, HB0.out⟩
  case round =>
    obtain ⟨i, v, hi, rfl, rfl, hO, hbel⟩ := hrel
    have HB := Lib.hid hbel
    have HO := Lib.hid hO
    obtain ⟨Av, cv, rfl, _⟩ := Own.form hO
    obtain ⟨q, hq⟩ : ∃ q, (estL (ts.take i) id).length = q := ⟨_, rfl⟩
    rw [hq] at HO ⊢
    clear hO hbel
    by_cases hlt : i < m
    · obtain ⟨ad, x, cs, rfl, hx, hat, hrd⟩ := HBr.out.get i hlt
      have i0 : (0 : Int) ≤ (i : Int) := by omega
      have i1' : (i : Int) < (m : Int) := by omega
      have HAt := Lib.hid (hat.below HB.out)
      obtain ⟨k1, l1, t1, d1, r1, e1, g1, A1, c1, rfl, rfl, hok, hg1⟩ := rd_task hrd
      have HE64 := Lib.hid (show e1 < B64 from hok.2.2.2.2)
      have hc := heap_alloc_new wr (.cells #[.int .u64 k1, .int .u64 l1, .string t1, .bool d1, .float .f64 r1, .float .f64 e1, .slice A1 g1.length c1] 51)
      have HBa := Lib.hid (below_alloc1 wr (.cells #[.int .u64 k1, .int .u64 l1, .string t1, .bool d1, .float .f64 r1, .float .f64 e1, .slice A1 g1.length c1] 51))
      obtain ⟨-, y1, -, -, -, y5, -⟩ := blk7 hc
      have hle := Nat.le_trans (estL_le (ts.take i) id) (show (ts.take i).length ≤ 70 by rw [List.length_take]; omega)
      rw [hq] at hle
      have HO3 := Lib.hid ((HO.out.below HBa.out).below (below_alloc1 (wr.alloc (.cells #[.int .u64 k1, .int .u64 l1, .string t1, .bool d1, .float .f64 r1, .float .f64 e1, .slice A1 g1.length c1] 51)) (.cells #[.float .f64 e1] 27)))
      have HB3 := Lib.hid ((HB.out.trans (HBa.out.mono HB.out.size)).alloc (HB.out.trans (HBa.out.mono HB.out.size)).size (.cells #[.float .f64 e1] 27))
      have hsz3 := HB3.out.size
      clear hc hat hrd hok hg1
      by_cases hz : id = 0
      · subst hz
        have HN := Lib.hid (estL_yes (id := 0) hx (by simp))
        have hq1 : (estL (ts.take (i + 1)) 0).length = q + 1 := by rw [HN.out, List.length_append, hq]; rfl
        clear hx
        go_wp2_with (first
          | (refine wpL_load rfl 51 _ rfl _ rfl _ _ HAt.out Try.underlying51 rfl rfl ?_)
          | (at_builtin; go_loud (refine wp_appO (m := 1) (r := [e1]) (ys := [.float .f64 e1]) rfl (.tmp 28) (.tmp 31) rfl HO3.out rfl (fun e => by cases e) (fun ad' e => by cases e; exact At.blk (heap_alloc2_new wr _ _)) (RdL.single (rd_f64v HE64.out)) HB3.out Try.underlying22 info_f64 rfl (by decide) rfl rfl (by rw [hq]; omega) (by rw [hq]; omega) hsz3 ?_; intro v6 w6 hO6 hb6 _ _; rw [← HN.out] at hO6; obtain ⟨A6, c6, rfl, _⟩ := Own.form hO6; rw [hq1] at hO6 ⊢; have HO6 := Lib.hid hO6; clear hO6)))
        go_roundw
        case measure => simp [intOf]; omega
        case rel => exact ⟨i + 1, _, by omega, rfl, by go_num, HO6.out, hb6⟩
      have hzb : (id == 0) = false := beq_false_of_ne hz
      by_cases hl1 : l1 = id
      · have hlb : (l1 == id) = true := beq_iff_eq.2 hl1
        have HN := Lib.hid (estL_yes (id := id) hx (by simp [hl1]))
        have hq1 : (estL (ts.take (i + 1)) id).length = q + 1 := by rw [HN.out, List.length_append, hq]; rfl
        clear hx hl1 hz
        go_wp2_with (first
          | (refine wpL_load rfl 51 _ rfl _ rfl _ _ HAt.out Try.underlying51 rfl rfl ?_)
          | (at_builtin; go_loud (refine wp_appO (m := 1) (r := [e1]) (ys := [.float .f64 e1]) rfl (.tmp 28) (.tmp 31) rfl HO3.out rfl (fun e => by cases e) (fun ad' e => by cases e; exact At.blk (heap_alloc2_new wr _ _)) (RdL.single (rd_f64v HE64.out)) HB3.out Try.underlying22 info_f64 rfl (by decide) rfl rfl (by rw [hq]; omega) (by rw [hq]; omega) hsz3 ?_; intro v6 w6 hO6 hb6 _ _; rw [← HN.out] at hO6; obtain ⟨A6, c6, rfl, _⟩ := Own.form hO6; rw [hq1] at hO6 ⊢; have HO6 := Lib.hid hO6; clear hO6)))
        go_roundw
        case measure => simp [intOf]; omega
        case rel => exact ⟨i + 1, _, by omega, rfl, by go_num, HO6.out, hb6⟩
      · have hlb : (l1 == id) = false := beq_false_of_ne hl1
        have HN := Lib.hid (estL_no (id := id) hx (by simp [hl1, hz]))
        have HO := Lib.hid (show Own wr v2.heap.size 27 .f64 (.slice Av q cv) (estL (ts.take i) id) from HO.out)
        clear hx hl1 hz
        go_wp2_with (first
          | (refine wpL_load rfl 51 _ rfl _ rfl _ _ HAt.out Try.underlying51 rfl rfl ?_))
        go_roundw
        case measure => simp [intOf]; omega
        case rel => exact ⟨i + 1, _, by omega, rfl, by go_num, by rw [HN.out]; exact HO.out.below HBa.out, HB.out.trans (HBa.out.mono HB.out.size)⟩
    · obtain rfl : i = m := by omega
      have HE := Lib.hid (show estL (ts.take i) id = estL ts id by rw [List.take_of_length_le (by rw [HBr.out.1]; omega)])
      have HQ := Lib.hid (show (estL ts id).length = q by rw [← HE.out]; exact hq)
      have HQ7 := Lib.hid (show q ≤ 70 by rw [← HQ.out]; have := estL_le ts id; have := HBr.out.1; omega)
      rw [HE.out] at HO
      clear hq
      have hlm := estL_le ts id
      have hx := HB.out
      go_wp2_with (refine wpL_load rfl 46 _ rfl ⟨w.heap.size, 0, none⟩ rfl _ _ ((At.blk HZ2.out).below HB.out) Try.underlying46 rfl rfl ?_)
      refine (ests_any wr wr A B n ca i cb ts id (HBw.out.below (HX2.out.trans (HB.out.mono HX2.out.size))) bm).mono ?_
      rintro e w7 ⟨v7, rfl, hO7, hb7⟩
      obtain ⟨A7, c7, rfl, _⟩ := Own.form hO7
      have HR7 := Lib.hid (own_rows hO7 rfl)
      have HR6 := Lib.hid ((own_rows HO.out HQ.out.symm).below hb7)
      rw [HQ.out] at HR7 ⊢
      have HB7 := Lib.hid (HB.out.trans (hb7.mono HB.out.size))
      clear hO7 hb7 hx hlm
      go_wp2_with fail
      refine (samefl_any w7 A7 Av q c7 cv (estL ts id) HR7.out HR6.out (by have := HQ7.out; omega)).mono ?_
      rintro e w8 ⟨rfl, hb8⟩
      go_wp2_with fail
      go_ret
      exact ⟨rfl, HX2.out.trans ((HB7.out.trans (hb8.mono HB7.out.size)).mono HX2.out.size)⟩
set_option maxRecDepth 20000 in
theorem w_StatsEsts (s : STATE.Ty) (cs : List Value) (id : Int) (wid : 0 ≤ id) (wid2 : id < 18446744073709551616) (w : World) (hs : Rd w anyB STATE s cs) :
    Calls Try.prog 6 #[.agg cs.toArray, .int .u64 id] w fun e w' => e = .returned (.bool true) ∧ Below w.heap.size w w' := by
  obtain ⟨ls, ts, A, ca, B, cb, rfl, rfl, _, h1, h2⟩ := rd_state hs
  exact x_StatsEsts ls ts A B _ ca _ cb id w hs
end Go.Proofs.Ythkfjcfncobllaa
