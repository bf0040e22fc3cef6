import Derived.Test.YtkfgfcgfpcocaaaFrmT
import Derived.Deep.OwnRows
namespace Go.Proofs.Ytkfgfcgfpcocaaa
open Go.RowKit
theorem made_bs (W : World) (k : Nat) (h : k ≤ 9223372036854775807) : Bs (W.alloc (.cells (madeCells #[.int .u8 0] k) 5)) (some ⟨W.heap.size, 0, none⟩) k (List.replicate k 0) := by
  refine ⟨h, by simp, (fun e => by cases e), ?_⟩
  intro ad e j u hu
  injection e with e
  subst e
  rw [List.map_replicate, List.getElem?_replicate] at hu
  by_cases hj : j < k
  · rw [if_pos hj] at hu
    injection hu with hu
    subst hu
    have hr := World.rowIs_made W (.int .u8 0) k 5
    obtain ⟨c, hb, hn, hc⟩ := hr
    rw [add_plain]
    have h3 := hc j hj
    unfold World.cell?
    rw [hb]
    exact h3
  · rw [if_neg hj] at hu; cases hu
theorem w_FrameAll (a : Option Addr) (n cap : Nat) (xs : List UInt8) (m : Int) (w : World) (ha : Bs w a n xs) (hc : n ≤ cap) (hcm : cap ≤ 9223372036854775807) :
    Calls Try.prog 8 #[.slice a n cap, .int .i64 m] w fun e w' => e = .returned (.bool true) ∧ Below w.heap.size w w' := by
  have hm := ha.1
  by_cases hn : 1000 < n
  · go_enter Try.func8, Try.ntmps8
    go_wp2_with (go_at_call 16; refine (frm_awake _).mono ?_; rintro e w1 ⟨rfl, hb1⟩)
    go_ret
    exact ⟨rfl, hb1⟩
  · by_cases h0 : m < 0
    · go_enter Try.func8, Try.ntmps8
      go_wp2_with (go_at_call 16; refine (frm_awake _).mono ?_; rintro e w1 ⟨rfl, hb1⟩)
      go_ret
      exact ⟨rfl, hb1⟩
    · by_cases h7 : 70000 < m
      · go_enter Try.func8, Try.ntmps8
        go_wp2_with (go_at_call 16; refine (frm_awake _).mono ?_; rintro e w1 ⟨rfl, hb1⟩)
        go_ret
        exact ⟨rfl, hb1⟩
      · obtain ⟨k, rfl⟩ : ∃ k : Nat, m = k := ⟨m.toNat, by omega⟩
        have hmk := run_make_row' (P := Try.prog) 23 5 (.int .u8 0) 1 Try.underlying23 infoB rfl .i64 .i64 k (by omega) (by omega)
        have hmb := fun W => made_bs W k (by omega)
        have HMB := Lib.hid hmb
        clear hmb
        by_cases h6 : k ≤ 60000
        · go_enter Try.func8, Try.ntmps8
          go_wp2_with (first
            | (go_at_call 16; refine (frm_awake _).mono ?_; rintro e w1 ⟨rfl, hb1⟩)
            | (go_at_call 17; refine (put_ok _ _ _ _ _ (HMB.out w1) h6).mono ?_; rintro e w2 ⟨v, rfl, ho2, hq2⟩; have hb2 := hb1.trans (((below_alloc1 w1 _).trans (hq2.mono (below_alloc1 w1 _).size)).mono hb1.size))
            | (go_at_call 23; refine (all_any _ _ _ _ _ (ha.below hb2) hc hcm (by omega)).mono ?_; rintro e w3 ⟨v3, vs, rfl, ho3, ht3, hq3⟩; have hb3 := hb2.trans (hq3.mono hb2.size); obtain ⟨A3, c3, hv3, _, hl3, hr3⟩ := own_rc ho3; subst hv3)
            | (go_at_call 24; refine (frames_any _ _ _ _ _ (ha.below hb3) hc hcm (by omega)).mono ?_; rintro e w4 ⟨v4, us, rfl, ho4, ht4, hq4⟩; have hb4 := hb3.trans (hq4.mono hb3.size); obtain ⟨A4, c4, hv4, _, _, hr4⟩ := own_rc ho4; subst hv4)
            | (go_at_call 22; refine (same_true _ _ _ _ _ _ _ _ _ hl3 (hr3.of_cells fun _ _ h => cell_below hq4 h) (ht3.below hq4) hr4 ht4).mono ?_; rintro e w5 ⟨rfl, hq5⟩))
          go_ret
          exact ⟨rfl, hb4.trans (hq5.mono hb4.size)⟩
        · have h6' : 60000 < k := by omega
          go_enter Try.func8, Try.ntmps8
          go_wp2_with (first
            | (go_at_call 16; refine (frm_awake _).mono ?_; rintro e w1 ⟨rfl, hb1⟩)
            | (go_at_call 17; refine (put_no _ _ _ _ h6' (by omega)).mono ?_; rintro e w2 ⟨rfl, rfl⟩; have hb2 := hb1.trans ((below_alloc1 w1 (.cells (madeCells #[.int .u8 0] k) 5)).mono hb1.size))
            | (go_at_call 23; refine (all_any _ _ _ _ _ (ha.below hb2) hc hcm (by omega)).mono ?_; rintro e w3 ⟨v3, vs, rfl, ho3, ht3, hq3⟩; have hb3 := hb2.trans (hq3.mono hb2.size); obtain ⟨A3, c3, hv3, _, hl3, hr3⟩ := own_rc ho3; subst hv3)
            | (go_at_call 24; refine (frames_any _ _ _ _ _ (ha.below hb3) hc hcm (by omega)).mono ?_; rintro e w4 ⟨v4, us, rfl, ho4, ht4, hq4⟩; have hb4 := hb3.trans (hq4.mono hb3.size); obtain ⟨A4, c4, hv4, _, _, hr4⟩ := own_rc ho4; subst hv4)
            | (go_at_call 22; refine (same_true _ _ _ _ _ _ _ _ _ hl3 (hr3.of_cells fun _ _ h => cell_below hq4 h) (ht3.below hq4) hr4 ht4).mono ?_; rintro e w5 ⟨rfl, hq5⟩))
          go_ret
          exact ⟨ret_bool (a := !decide ((k : Int) ≤ 60000)) (by rw [decide_eq_false (by omega)]; rfl), hb4.trans (hq5.mono hb4.size)⟩
end Go.Proofs.Ytkfgfcgfpcocaaa
