import Derived.Test.YthkfjcfncobllaaStaQ
import Derived.Test.YthkfjcfncobllaaStaG
namespace Go.Proofs.Ythkfjcfncobllaa
open Go.RowKit FP
set_option linter.unusedVariables false
set_option linter.unusedSimpArgs false
set_option maxHeartbeats 1000000 in
set_option maxRecDepth 20000 in
theorem samedig_any (w : World) (a b : Int) (x y z u : Nat) :
    Calls Try.prog 11 #[.agg #[.int .i64 a, .int .i64 b, .float .f64 x, .float .f64 y, .float .f64 z, .float .f64 u], .agg #[.int .i64 a, .int .i64 b, .float .f64 x, .float .f64 y, .float .f64 z, .float .f64 u]] w fun e w' => e = .returned (.bool true) ∧ Below w.heap.size w w' := by
  have ha : (a == a) = true := beq_self_eq_true _
  have hb : (b == b) = true := beq_self_eq_true _
  have hk : ∀ f : Nat, (rkeyF f == rkeyF f) = true := fun f => beq_self_eq_true _
  have HK := Lib.hid hk
  have HW := Lib.hid ((below_alloc1 w (.cells #[.int .i64 a, .int .i64 b, .float .f64 x, .float .f64 y, .float .f64 z, .float .f64 u] 29)).alloc (by simp) (.cells #[.int .i64 a, .int .i64 b, .float .f64 x, .float .f64 y, .float .f64 z, .float .f64 u] 29))
  have h1 := blk_alloc (heap_alloc_new w (.cells #[.int .i64 a, .int .i64 b, .float .f64 x, .float .f64 y, .float .f64 z, .float .f64 u] 29)) (.cells #[.int .i64 a, .int .i64 b, .float .f64 x, .float .f64 y, .float .f64 z, .float .f64 u] 29)
  have h2 := heap_alloc2_new w (.cells #[.int .i64 a, .int .i64 b, .float .f64 x, .float .f64 y, .float .f64 z, .float .f64 u] 29) (.cells #[.int .i64 a, .int .i64 b, .float .f64 x, .float .f64 y, .float .f64 z, .float .f64 u] 29)
  obtain ⟨p0, p1, p2, p3, p4, p5⟩ := blk6 h1
  obtain ⟨q0, q1, q2, q3, q4, q5⟩ := blk6 h2
  clear h1 h2 hk
  go_enter Try.func11, Try.ntmps11
  go_wp2_with (go_at_call 16; refine (rsame_any _ _ _).mono ?_; rintro e w' ⟨rfl, rfl⟩; rw [HK.out])
  go_ret
  exact ⟨rfl, HW.out⟩
set_option maxHeartbeats 2000000 in
set_option maxRecDepth 20000 in
theorem w_StatsOf (a : Option Addr) (n c : Nat) (l : List Nat) (w : World) (ha : Rd w anyB (.sl .f64) l [.slice a n c]) :
    Calls Try.prog 3 #[.slice a n c] w fun e w' => e = .returned (.bool true) ∧ Below w.heap.size w w' := by
  have HA := Lib.hid ha
  have hln : l.length = n := (rd_rows ha).1
  have hn : n ≤ 9223372036854775807 := by have := rd_rowsN ha; omega
  clear ha
  go_enter Try.func3, Try.ntmps3
  go_wp2_with fail
  refine (sta_awake w).mono ?_
  rintro e w1 ⟨rfl, hb⟩
  have HB1 := Lib.hid hb
  clear hb
  by_cases h100 : (100 : Int) < (n : Nat)
  · go_wp2_with fail
    go_ret
    exact ⟨rfl, HB1.out⟩
  have HR1 := Lib.hid (HA.out.below HB1.out)
  go_wp2_with fail
  refine (sort_any w1 a n c l (rd_rows HR1.out) (by omega)).mono ?_
  rintro e w2 ⟨v2, rfl, hO2, hb2⟩
  have HB2 := Lib.hid (HB1.out.trans (hb2.mono HB1.out.size))
  obtain ⟨A2, c2, rfl, _⟩ := Own.form hO2
  have HO2 := Lib.hid (own_rows hO2 rfl)
  have hsl : (sortK l).length = n := by rw [sortK_len, hln]
  rw [hsl] at HO2 ⊢
  clear hO2 hb2
  go_wp2_with fail
  refine (rsort_any w2 a n c l (rd_rows (HA.out.below HB2.out)) (by omega)).mono ?_
  rintro e w3 ⟨v3, rfl, hO3, hb3⟩
  have HB3 := Lib.hid (HB2.out.trans (hb3.mono HB2.out.size))
  obtain ⟨A3, c3, rfl, _⟩ := Own.form hO3
  have HO3 := Lib.hid (own_rows hO3 rfl)
  have HO2' := Lib.hid (HO2.out.below hb3)
  rw [hsl] at HO3 ⊢
  clear hO3 hb3
  go_wp2_with fail
  refine (samefl_any w3 A2 A3 n c2 c3 (sortK l) HO2'.out HO3.out hn).mono ?_
  rintro e w4 ⟨rfl, hb4⟩
  have HB4 := Lib.hid (HB3.out.trans (hb4.mono HB3.out.size))
  clear hb4 hsl
  go_wp2_with fail
  refine (of_any w4 a n c l (HA.out.below HB4.out) hln (by omega)).mono ?_
  rintro e w5 ⟨rfl, hb5⟩
  have HB5 := Lib.hid (HB4.out.trans (hb5.mono HB4.out.size))
  clear hb5
  go_wp2_with fail
  refine (dig_any w5 a n c l (rd_rows (HA.out.below HB5.out)) (by omega)).mono ?_
  rintro e w6 ⟨rfl, hb6⟩
  have HB6 := Lib.hid (HB5.out.trans (hb6.mono HB5.out.size))
  clear hb6
  go_wp2_with fail
  refine (samedig_any w6 _ _ _ _ _ _).mono ?_
  rintro e w7 ⟨rfl, hb7⟩
  go_wp2_with fail
  go_ret
  exact ⟨rfl, HB6.out.trans (hb7.mono HB6.out.size)⟩
end Go.Proofs.Ythkfjcfncobllaa
