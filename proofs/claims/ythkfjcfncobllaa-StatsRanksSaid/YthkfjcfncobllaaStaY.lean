import Derived.Test.YthkfjcfncobllaaStaX
namespace Go.Proofs.Ythkfjcfncobllaa
open Go.RowKit FP
set_option linter.unusedVariables false
set_option linter.unusedSimpArgs false
set_option maxHeartbeats 2000000 in
set_option maxRecDepth 20000 in
theorem w_StatsRanks (a : Option Addr) (n c : Nat) (l : List Nat) (num : Int) (wnum : (Lit.int .i64 num).wf = true) (den : Int) (wden : (Lit.int .i64 den).wf = true) (b : Option Addr) (m d : Nat) (s : List Nat) (w : World) (ha : Rd w anyB (.sl .f64) l [.slice a n c]) (hb : Rd w anyB (.sl .f64) s [.slice b m d]) :
    Calls Try.prog 4 #[.slice a n c, .int .i64 num, .int .i64 den, .slice b m d] w fun e w' => e = .returned (.bool true) ∧ Below w.heap.size w w' := by
  obtain ⟨hn1, hn2⟩ := i64_of wnum
  obtain ⟨hd1, hd2⟩ := i64_of wden
  have HA := Lib.hid ha
  have HS := Lib.hid hb
  have hln : l.length = n := (rd_rows ha).1
  have hn : n ≤ 9223372036854775807 := by have := rd_rowsN ha; omega
  have hm : m ≤ 9223372036854775807 := by have := rd_rowsN hb; omega
  have hlt := (rows_fs (rd_rows ha)).2
  clear ha hb
  go_enter Try.func4, Try.ntmps4
  go_wp2_with fail
  refine (sta_awake w).mono ?_
  rintro e w1 ⟨rfl, hb⟩
  have HB1 := Lib.hid hb
  clear hb
  by_cases h100 : (100 : Int) < (n : Nat)
  · go_wp2_with fail
    go_ret
    exact ⟨rfl, HB1.out⟩
  by_cases h20 : (20 : Int) < (m : Nat)
  · go_wp2_with fail
    go_ret
    exact ⟨rfl, HB1.out⟩
  have n100 : n ≤ 100 := by omega
  have m20 : m ≤ 20 := by omega
  go_wp2_with fail
  refine (rank_any w1 _ l num den (HA.out.below HB1.out) (by omega) hn1 (by omega) hd1 (by omega)).mono ?_
  rintro e w2 ⟨rfl, hb2⟩
  have HB2 := Lib.hid (HB1.out.trans (hb2.mono HB1.out.size))
  clear hb2
  obtain ⟨r1, hr1⟩ : ∃ r, (rankL l num den).1 = r := ⟨_, rfl⟩
  obtain ⟨r2, hr2⟩ : ∃ r, (rankL l num den).2 = r := ⟨_, rfl⟩
  rw [hr1, hr2]
  go_wp2_with fail
  refine (rrank_any w2 _ l num den (HA.out.below HB2.out) (by omega) hn1 (by omega) hd1 (by omega)).mono ?_
  rintro e w3 ⟨rfl, hb3⟩
  have HB3 := Lib.hid (HB2.out.trans (hb3.mono HB2.out.size))
  rw [hr1, hr2]
  clear hb3 hr1 hr2
  have hbb : (rkeyF r1 == rkeyF r1) = true := beq_self_eq_true _
  have hbq : (r2 == r2) = true := beq_self_eq_true _
  go_wp2_with (go_at_call 16; refine (rsame_any _ _ _).mono ?_; rintro e w' ⟨rfl, rfl⟩; rw [hbb])
  refine (bins_any w3 a b n m c d l s (HA.out.below HB3.out) (HS.out.below HB3.out) (by omega) (by omega)).mono ?_
  rintro e w4 ⟨v4, rfl, hO4, hb4⟩
  obtain ⟨BL, hBL⟩ : ∃ BL, binsE (ded (sortK (knownL s))) (knownL l) = BL := ⟨_, rfl⟩
  rw [hBL] at hO4
  obtain ⟨A4, c4, rfl, _, _, _, hR4⟩ := Own.form hO4
  have HB4 := Lib.hid (HB3.out.trans (hb4.mono HB3.out.size))
  have HR4 := Lib.hid hR4.any
  clear hb4 hR4 hO4
  go_wp2_with fail
  refine (rbins_any w4 a b n m c d l s (HA.out.below HB4.out) (HS.out.below HB4.out) (by omega) (by omega)).mono ?_
  rintro e w5 ⟨v5, rfl, hO5, hb5⟩
  rw [hBL] at hO5
  obtain ⟨A5, c5, rfl, _, h50, _, hR5⟩ := Own.form hO5
  have HB5 := Lib.hid (HB4.out.trans (hb5.mono HB4.out.size))
  have HR5 := Lib.hid hR5.any
  have HR45 := Lib.hid (HR4.out.below hb5)
  have hbl : BL.length ≤ 9223372036854775807 := by omega
  clear hb5 hR5 hO5
  go_wp2_with fail
  refine (samebins_any w5 A4 A5 BL.length c4 c5 BL HR45.out HR5.out hbl).mono ?_
  rintro e w6 ⟨rfl, hb6⟩
  have HB6 := Lib.hid (HB5.out.trans (hb6.mono HB5.out.size))
  clear hb6
  go_wp2_with fail
  go_ret
  exact ⟨rfl, HB6.out⟩
end Go.Proofs.Ythkfjcfncobllaa
