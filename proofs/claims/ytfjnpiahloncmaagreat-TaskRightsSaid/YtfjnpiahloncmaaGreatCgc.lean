import Derived.Test.YtfjnpiahloncmaaGreatCgb
import Derived.Test.YtfjnpiahloncmaaGreatTskH
namespace Go.Proofs.YtfjnpiahloncmaaGreat
open Go.RowKit
set_option linter.unusedVariables false
set_option linter.unusedSimpArgs false
attribute [local go_sem] run_store_float
set_option maxRecDepth 20000 in
theorem firsts_self {α : Type} {key : α → Int} : ∀ {e : List α}, Rises key e → Firsts key e e
  | [], _ => firsts_nil
  | y :: e, h => fun x => by
    have h1 := List.pairwise_cons.1 h
    rw [List.find?_cons]
    by_cases hk : key y = key x
    · have hb : (key y == key x) = true := beq_iff_eq.2 hk
      rw [hb]
      constructor
      · intro hx
        rcases List.mem_cons.1 hx with rfl | hx
        · rfl
        · have := h1.1 x hx; omega
      · intro e; injection e with e; subst e; exact List.mem_cons_self
    · have hb : (key y == key x) = false := beq_false_of_ne hk
      rw [hb]
      rw [← firsts_self h1.2 x]
      constructor
      · intro hx
        rcases List.mem_cons.1 hx with rfl | hx
        · exact absurd rfl hk
        · exact hx
      · exact List.mem_cons_of_mem _
set_option maxRecDepth 20000 in
theorem tidy_twice (l : List ByteArray) : tidy (tidy l) = tidy l := (tidy_ris (tidy l)).uniq (tidy_ris l) (fun x => (tidy_ris l).2 x)
set_option maxRecDepth 20000 in
theorem rcan_twice {a : Nat} (h : a < 18446744073709551616) : rcanF (rcanF a) = rcanF a := by
  have h2 := rcan_lt h
  rw [rcanF_eq h2]
  by_cases hn : FP.fnan a = true
  · have e : rcanF a = 9221120237041090561 := by rw [rcanF_eq h, if_pos hn]
    rw [e, if_pos (by decide)]
  · by_cases hv : FP.val a = 0
    · have e : rcanF a = 0 := by rw [rcanF_eq h, if_neg hn, if_pos hv]
      rw [e, if_neg (by decide), if_pos (by decide)]
    · have e : rcanF a = a := by rw [rcanF_eq h, if_neg hn, if_neg hv]
      rw [e, if_neg hn, if_neg hv]
set_option maxRecDepth 20000 in
theorem own_twice {t : TASK.Ty} (h1 : t.2.2.2.2.1 < 18446744073709551616) (h2 : t.2.2.2.2.2.1 < 18446744073709551616) : ownT (ownT t) = ownT t := by
  unfold ownT
  simp only [tidy_twice, rcan_twice h1, rcan_twice h2]
set_option maxRecDepth 20000 in
theorem own_all {ts e : List TASK.Ty} (h : ∀ t ∈ ts, t.2.2.2.2.1 < 18446744073709551616 ∧ t.2.2.2.2.2.1 < 18446744073709551616) (he : ∀ t ∈ e, t ∈ ts.map ownT) : e.map ownT = e := by
  rw [← List.map_id e, List.map_map]
  refine List.map_congr_left fun t ht => ?_
  obtain ⟨t', ht', rfl⟩ := List.mem_map.1 (he t ht)
  exact own_twice (h t' ht').1 (h t' ht').2
set_option maxRecDepth 20000 in
theorem rows_fl {w : World} {A : Option Addr} {n : Nat} {ts : List TASK.Ty} (h : Rows w anyB TASK A n ts) : ∀ t ∈ ts, t.2.2.2.2.1 < 18446744073709551616 ∧ t.2.2.2.2.2.1 < 18446744073709551616 := fun t ht => by
  obtain ⟨i, hi, rfl⟩ := List.mem_iff_getElem.1 ht
  have hn := h.1
  obtain ⟨ad, x, cs, _, hx, _, hrd⟩ := h.get i (by omega)
  rw [List.getElem?_eq_getElem hi] at hx
  injection hx with hx
  rw [hx]
  obtain ⟨_, _, _, _, _, _, _, _, _, rfl, _, ok, _⟩ := rd_task hrd
  exact ⟨ok.2.2.2.1, ok.2.2.2.2⟩
set_option maxHeartbeats 4000000 in
set_option maxRecDepth 20000 in
theorem x_TaskRights (ls : List LIST.Ty) (ts : List TASK.Ty) (A B : Option Addr) (n ca m cb : Nat) (w : World)
    (hs : Rd w anyB STATE (ls, ts, ()) [.slice A n ca, .slice B m cb]) :
    Calls Tryz.prog 3 #[.agg #[Value.slice A n ca, Value.slice B m cb]] w fun e w' => e = .returned (.bool true) ∧ Below w.heap.size w w' := by
  obtain ⟨ls', ts', A', ca', B', cb', e1, e2, _, h1, h2⟩ := rd_state hs
  obtain ⟨rfl, rfl⟩ : ls = ls' ∧ ts = ts' := by simpa using e1
  have hn := rd_rowsN h1
  have hm := rd_rowsN h2
  obtain ⟨⟨rfl, rfl, rfl⟩, rfl, rfl, rfl⟩ : (A = A' ∧ n = ls.length ∧ ca = ca') ∧ B = B' ∧ m = ts.length ∧ cb = cb' := by simpa using e2
  obtain ⟨n, hln⟩ : ∃ n, ls.length = n := ⟨_, rfl⟩
  obtain ⟨m, hlm⟩ : ∃ n, ts.length = n := ⟨_, rfl⟩
  rw [hln] at hn ⊢
  rw [hlm] at hm ⊢
  have HFl := Lib.hid (rows_fl hm.2.2.2)
  have HA := Lib.hid hn.2.2.2
  have HBr := Lib.hid hm.2.2.2
  have bn : n ≤ 9223372036854775807 := by omega
  have bm : m ≤ 9223372036854775807 := by omega
  clear hs h1 h2 hn hm e1 e2
  have hp := heap_alloc_new w (.cells #[Value.slice A n ca, Value.slice B m cb] 25)
  have hw := below_alloc1 w (.cells #[Value.slice A n ca, Value.slice B m cb] 25)
  go_enter Tryz.func3, Tryz.ntmps3
  obtain ⟨v0, hv0⟩ : ∃ v0, w.alloc (.cells #[Value.slice A n ca, Value.slice B m cb] 25) = v0 := ⟨_, rfl⟩
  rw [hv0] at hp hw
  have HS := Lib.hid (At.blk hp)
  have HW := Lib.hid hw
  clear hp hw
  go_wp2_with fail
  refine (tsk_awake v0).mono ?_
  rintro e v1 ⟨rfl, hb⟩
  have HB1 := Lib.hid hb
  clear hb
  go_wp2_with (refine wpL_load rfl 25 _ rfl ⟨w.heap.size, 0, none⟩ rfl _ _ (HS.out.below HB1.out) Tryz.underlying25 rfl rfl ?_)
  refine (light_any v1 A B n ca m cb ls ts (HA.out.below (HW.out.trans (HB1.out.mono HW.out.size))) (HBr.out.below (HW.out.trans (HB1.out.mono HW.out.size))) bn bm).mono ?_
  rintro e v2 ⟨q, rfl, hq, hb2⟩
  have HB2 := Lib.hid (HB1.out.trans (hb2.mono HB1.out.size))
  cases q with
  | false =>
    clear hq hb2
    go_wp2_with fail
    go_ret
    exact ⟨rfl, HW.out.trans (HB2.out.mono HW.out.size)⟩
  | true =>
  have hL := hq rfl
  have n25 : n ≤ 25 := by have := hL.1; omega
  have m70 : m ≤ 70 := by have := hL.2.1; omega
  have hsm : ∀ t ∈ ts, t.2.2.2.2.2.2.1.length ≤ 100000 := fun t ht => by have := (hL.2.2.2 t ht).2.1; omega
  have HX2 := Lib.hid (HW.out.trans (HB2.out.mono HW.out.size))
  clear hq hb2 hL hln hlm
  go_wp2_with (refine wpL_load rfl 25 _ rfl ⟨w.heap.size, 0, none⟩ rfl _ _ (HS.out.below HB2.out) Tryz.underlying25 rfl rfl ?_)
  refine (tcanon_any v2 A B n ca m cb ls ts (HA.out.below HX2.out) (HBr.out.below HX2.out) (by omega) (by omega) hsm).mono ?_
  rintro e v3 ⟨vL, vT, eL, eT, rfl, hOL, hOT, hFL, hRL, hlL, hFT, hRT, hlT, hb3⟩
  have HEo := Lib.hid (own_all HFl.out (fun t ht => hFT.mem ht))
  have hsm2 : ∀ t ∈ eT, t.2.2.2.2.2.2.1.length ≤ 100000 := fun t ht => by
    obtain ⟨t', ht', rfl⟩ := List.mem_map.1 (hFT.mem ht)
    exact Nat.le_trans (tidy_le _) (hsm t' ht')
  obtain ⟨AL, cL, rfl, _, _, _, hr1⟩ := Own.form hOL
  obtain ⟨AT, cT, rfl, _, _, _, hr2⟩ := Own.form hOT
  obtain ⟨p, hp⟩ : ∃ p, eL.length = p := ⟨_, rfl⟩
  obtain ⟨q, hq⟩ : ∃ q, eT.length = q := ⟨_, rfl⟩
  rw [hp] at hr1 hlL ⊢
  rw [hq] at hr2 hlT ⊢
  have HB3 := Lib.hid (HB2.out.trans (hb3.mono HB2.out.size))
  have hp3 := heap_alloc_new v3 (.cells #[Value.slice AL p cL, Value.slice AT q cT] 25)
  have hw3 := below_alloc1 v3 (.cells #[Value.slice AL p cL, Value.slice AT q cT] 25)
  obtain ⟨v4, hv4⟩ : ∃ v4, v3.alloc (.cells #[Value.slice AL p cL, Value.slice AT q cT] 25) = v4 := ⟨_, rfl⟩
  rw [hv4] at hp3 hw3
  have HB4 := Lib.hid (HB3.out.trans (hw3.mono HB3.out.size))
  have HT := Lib.hid (At.blk hp3)
  have HR1 := Lib.hid (hr1.any.below hw3)
  have HR2 := Lib.hid (hr2.any.below hw3)
  have HP := Lib.hid (And.intro (And.intro hFL hRL) (And.intro hFT hRT))
  clear hOL hOT hFL hRL hFT hRT hr1 hr2 hb3 hp3 hw3
  go_wp2_with fail
  refine region_in (by kernel_rfl) (fun v9 h49 => ?_)
  have HB9 := Lib.hid (HB4.out.trans (h49.mono HB4.out.size))
  have HX9 := Lib.hid (HW.out.trans (HB9.out.mono HW.out.size))
  obtain ⟨er, her⟩ : ∃ er, rightE ls ts = er := ⟨_, rfl⟩
  have hee : (er == er) = true := beq_self_eq_true _
  refine take_in (i := 0) (v := _) rfl (by kernel_rfl) (by kernel_rfl) (by kernel_rfl) (fun _ _ _ h => h) (yields_load (by rfl) _ _ rfl _ rfl _ _ (fun W hW => (HS.out.below HB9.out).below hW) Tryz.underlying25 rfl rfl) (Below.refl _ _) ?_
  (try simp only [Act.put, List.setIfInBounds_toArray, List.set_cons_zero, List.set_cons_succ])
  refine take_in (i := 2) (v := _) rfl (by kernel_rfl) (by kernel_rfl) (by kernel_rfl) (fun _ _ _ h => h) (yields_load (by rfl) _ _ rfl _ rfl _ _ (fun W hW => (HS.out.below HB9.out).below hW) Tryz.underlying25 rfl rfl) (Below.refl _ _) ?_
  (try simp only [Act.put, List.setIfInBounds_toArray, List.set_cons_zero, List.set_cons_succ])
  refine call_in (i := 1) rfl (by kernel_rfl) (by kernel_rfl) (fun K hK => ?_)
  go_simp
  refine (right_any v9 A B n ca m cb ls ts (HA.out.below HX9.out) (HBr.out.below HX9.out) bn bm).mono ?_
  rintro e v10 ⟨rfl, h910⟩
  rw [her]
  have h410 := h49.trans (h910.mono h49.size)
  have HX10 := Lib.hid (HX9.out.trans (h910.mono HX9.out.size))
  refine hK.out _ _ h910 ?_
  (try simp only [Act.put, List.setIfInBounds_toArray, List.set_cons_zero, List.set_cons_succ])
  refine call_in (i := 3) rfl (by kernel_rfl) (by kernel_rfl) (fun K hK => ?_)
  go_simp
  refine (rright_any v10 A B n ca m cb ls ts (HA.out.below HX10.out) (HBr.out.below HX10.out) bn bm).mono ?_
  rintro e v11 ⟨rfl, h1011⟩
  rw [her]
  have h411 := h410.trans (h1011.mono h410.size)
  have HX11 := Lib.hid (HX10.out.trans (h1011.mono HX10.out.size))
  have HB11 := Lib.hid (HB4.out.trans (h411.mono HB4.out.size))
  refine hK.out _ _ h1011 ?_
  (try simp only [Act.put, List.setIfInBounds_toArray, List.set_cons_zero, List.set_cons_succ])
  first
    | (refine take_in (i := 4) (v := ?_) rfl (by kernel_rfl) (by kernel_rfl) (by kernel_rfl) (fun _ _ _ h => h) (Or.inl ⟨by rfl, ?_⟩) (Below.refl _ _) ?_; rotate_left; (focus (intro W hSw; go_simp; (try rfl); done)); (try simp only [Act.put, List.setIfInBounds_toArray, List.set_cons_zero, List.set_cons_succ]))
    | (refine take_in (i := 4) (v := undef) rfl (by kernel_rfl) (by kernel_rfl) (by kernel_rfl) (fun _ _ _ h => h) (Or.inr ⟨by rfl, rfl⟩) (Below.refl _ _) ?_; (try simp only [Act.put, List.setIfInBounds_toArray, List.set_cons_zero, List.set_cons_succ]))
    | (fail "HTAKE 4")
  first
    | (refine take_in (i := 5) (v := ?_) rfl (by kernel_rfl) (by kernel_rfl) (by kernel_rfl) (fun _ _ _ h => h) (Or.inl ⟨by rfl, ?_⟩) (Below.refl _ _) ?_; rotate_left; (focus (intro W hSw; go_simp; (try rfl); done)); (try simp only [Act.put, List.setIfInBounds_toArray, List.set_cons_zero, List.set_cons_succ]))
    | (refine take_in (i := 5) (v := undef) rfl (by kernel_rfl) (by kernel_rfl) (by kernel_rfl) (fun _ _ _ h => h) (Or.inr ⟨by rfl, rfl⟩) (Below.refl _ _) ?_; (try simp only [Act.put, List.setIfInBounds_toArray, List.set_cons_zero, List.set_cons_succ]))
    | (fail "HTAKE 5")
  refine take_in (i := 6) (v := _) rfl (by kernel_rfl) (by kernel_rfl) (by kernel_rfl) (fun _ _ _ h => h) (yields_load (by rfl) _ _ rfl _ rfl _ _ (fun W hW => (HT.out.below h411).below hW) Tryz.underlying25 rfl rfl) (Below.refl _ _) ?_
  (try simp only [Act.put, List.setIfInBounds_toArray, List.set_cons_zero, List.set_cons_succ])
  refine take_in (i := 7) (v := _) rfl (by kernel_rfl) (by kernel_rfl) (by kernel_rfl) (fun _ _ _ h => h) (yields_load (by rfl) _ _ rfl _ rfl _ _ (fun W hW => (HS.out.below HB11.out).below hW) Tryz.underlying25 rfl rfl) (Below.refl _ _) ?_
  (try simp only [Act.put, List.setIfInBounds_toArray, List.set_cons_zero, List.set_cons_succ])
  refine call_in (i := 8) rfl (by kernel_rfl) (by kernel_rfl) (fun K hK => ?_)
  go_simp
  refine (rcanon_st v11 A B n ca m cb ls ts (HA.out.below HX11.out) (HBr.out.below HX11.out) (by omega) (by omega) hsm).mono ?_
  rintro e v12 ⟨wL, wT, fL, fT, rfl, hPL, hPT, hGL, hSL, hkL, hGT, hST, hkT, hb12⟩
  obtain rfl : fL = eL := can_uniq hGL hSL HP.out.1.1 HP.out.1.2
  obtain rfl : fT = eT := can_uniq hGT hST HP.out.2.1 HP.out.2.2
  obtain ⟨CL, dL, rfl, _, _, _, hq1⟩ := Own.form hPL
  obtain ⟨CT, dT, rfl, _, _, _, hq2⟩ := Own.form hPT
  rw [hp] at hq1 ⊢
  rw [hq] at hq2 ⊢
  have h412 := h411.trans (hb12.mono h411.size)
  have HX12 := Lib.hid (HX11.out.trans (hb12.mono HX11.out.size))
  refine hK.out _ _ hb12 ?_
  (try simp only [Act.put, List.setIfInBounds_toArray, List.set_cons_zero, List.set_cons_succ])
  refine call_in (i := 9) rfl (by kernel_rfl) (by kernel_rfl) (fun K hK => ?_)
  go_simp
  refine (rsame_state v12 AL CL AT CT p p q q cL dL cT dT fL fL fT fT (HR1.out.below h412) hq1.any (HR2.out.below h412) hq2.any (by omega) (by omega)).mono ?_
  rintro e v13 ⟨b1, rfl, hb1, hb13⟩
  obtain rfl : b1 = true := hb1.2 (SameS.refl _)
  have h413 := h412.trans (hb13.mono h412.size)
  have HX13 := Lib.hid (HX12.out.trans (hb13.mono HX12.out.size))
  refine hK.out _ _ hb13 ?_
  (try simp only [Act.put, List.setIfInBounds_toArray, List.set_cons_zero, List.set_cons_succ])
  first
    | (refine take_in (i := 10) (v := ?_) rfl (by kernel_rfl) (by kernel_rfl) (by kernel_rfl) (fun _ _ _ h => h) (Or.inl ⟨by rfl, ?_⟩) (Below.refl _ _) ?_; rotate_left; (focus (intro W hSw; go_simp; (try rfl); done)); (try simp only [Act.put, List.setIfInBounds_toArray, List.set_cons_zero, List.set_cons_succ]))
    | (refine take_in (i := 10) (v := undef) rfl (by kernel_rfl) (by kernel_rfl) (by kernel_rfl) (fun _ _ _ h => h) (Or.inr ⟨by rfl, rfl⟩) (Below.refl _ _) ?_; (try simp only [Act.put, List.setIfInBounds_toArray, List.set_cons_zero, List.set_cons_succ]))
    | (fail "HTAKE 10")
  first
    | (refine take_in (i := 11) (v := ?_) rfl (by kernel_rfl) (by kernel_rfl) (by kernel_rfl) (fun _ _ _ h => h) (Or.inl ⟨by rfl, ?_⟩) (Below.refl _ _) ?_; rotate_left; (focus (intro W hSw; go_simp; (try rfl); done)); (try simp only [Act.put, List.setIfInBounds_toArray, List.set_cons_zero, List.set_cons_succ]))
    | (refine take_in (i := 11) (v := undef) rfl (by kernel_rfl) (by kernel_rfl) (by kernel_rfl) (fun _ _ _ h => h) (Or.inr ⟨by rfl, rfl⟩) (Below.refl _ _) ?_; (try simp only [Act.put, List.setIfInBounds_toArray, List.set_cons_zero, List.set_cons_succ]))
    | (fail "HTAKE 11")
  refine take_in (i := 12) (v := _) rfl (by kernel_rfl) (by kernel_rfl) (by kernel_rfl) (fun _ _ _ h => h) (yields_load (by rfl) _ _ rfl _ rfl _ _ (fun W hW => (HT.out.below h413).below hW) Tryz.underlying25 rfl rfl) (Below.refl _ _) ?_
  (try simp only [Act.put, List.setIfInBounds_toArray, List.set_cons_zero, List.set_cons_succ])
  refine take_in (i := 14) (v := _) rfl (by kernel_rfl) (by kernel_rfl) (by kernel_rfl) (fun _ _ _ h => h) (yields_load (by rfl) _ _ rfl _ rfl _ _ (fun W hW => (HT.out.below h413).below hW) Tryz.underlying25 rfl rfl) (Below.refl _ _) ?_
  (try simp only [Act.put, List.setIfInBounds_toArray, List.set_cons_zero, List.set_cons_succ])
  refine call_in (i := 13) rfl (by kernel_rfl) (by kernel_rfl) (fun K hK => ?_)
  go_simp
  refine (tcanon_any v13 AL AT p cL q cT fL fT (HR1.out.below h413) (HR2.out.below h413) (by omega) (by omega) hsm2).mono ?_
  rintro e v14 ⟨uL, uT, gL, gT, rfl, iPL, iPT, iGL, iSL, ikL, iGT, iST, ikT, hb14⟩
  rw [HEo.out] at iGT
  obtain rfl : gL = fL := can_uniq iGL iSL (firsts_self HP.out.1.2) HP.out.1.2
  obtain rfl : gT = fT := can_uniq iGT iST (firsts_self HP.out.2.2) HP.out.2.2
  obtain ⟨DL, kL, rfl, _, _, _, hr1⟩ := Own.form iPL
  obtain ⟨DT, kT, rfl, _, _, _, hr2⟩ := Own.form iPT
  rw [hp] at hr1 ⊢
  rw [hq] at hr2 ⊢
  have h414 := h413.trans (hb14.mono h413.size)
  have HX14 := Lib.hid (HX13.out.trans (hb14.mono HX13.out.size))
  refine hK.out _ _ hb14 ?_
  (try simp only [Act.put, List.setIfInBounds_toArray, List.set_cons_zero, List.set_cons_succ])
  refine call_in (i := 15) rfl (by kernel_rfl) (by kernel_rfl) (fun K hK => ?_)
  go_simp
  refine (rsame_state v14 DL AL DT AT p p q q kL cL kT cT gL gL gT gT hr1.any (HR1.out.below h414) hr2.any (HR2.out.below h414) (by omega) (by omega)).mono ?_
  rintro e v15 ⟨b2, rfl, hb2, hb15⟩
  obtain rfl : b2 = true := hb2.2 (SameS.refl _)
  have HX15 := Lib.hid (HX14.out.trans (hb15.mono HX14.out.size))
  refine hK.out _ _ hb15 ?_
  (try simp only [Act.put, List.setIfInBounds_toArray, List.set_cons_zero, List.set_cons_succ])
  first
    | (refine take_in (i := 16) (v := ?_) rfl (by kernel_rfl) (by kernel_rfl) (by kernel_rfl) (fun _ _ _ h => h) (Or.inl ⟨by rfl, ?_⟩) (Below.refl _ _) ?_; rotate_left; (focus (intro W hSw; go_simp; (try rfl); done)); (try simp only [Act.put, List.setIfInBounds_toArray, List.set_cons_zero, List.set_cons_succ]))
    | (refine take_in (i := 16) (v := undef) rfl (by kernel_rfl) (by kernel_rfl) (by kernel_rfl) (fun _ _ _ h => h) (Or.inr ⟨by rfl, rfl⟩) (Below.refl _ _) ?_; (try simp only [Act.put, List.setIfInBounds_toArray, List.set_cons_zero, List.set_cons_succ]))
    | (fail "HTAKE 16")
  first
    | (refine take_in (i := 17) (v := ?_) rfl (by kernel_rfl) (by kernel_rfl) (by kernel_rfl) (fun _ _ _ h => h) (Or.inl ⟨by rfl, ?_⟩) (Below.refl _ _) ?_; rotate_left; (focus (intro W hSw; go_simp; (try rfl); done)); (try simp only [Act.put, List.setIfInBounds_toArray, List.set_cons_zero, List.set_cons_succ]))
    | (refine take_in (i := 17) (v := undef) rfl (by kernel_rfl) (by kernel_rfl) (by kernel_rfl) (fun _ _ _ h => h) (Or.inr ⟨by rfl, rfl⟩) (Below.refl _ _) ?_; (try simp only [Act.put, List.setIfInBounds_toArray, List.set_cons_zero, List.set_cons_succ]))
    | (fail "HTAKE 17")
  refine wpAnyH_done (by kernel_rfl) ?_ _
  go_wp2_with fail
  go_ret
  exact ⟨rfl, HX15.out⟩
set_option maxRecDepth 20000 in
theorem w_TaskRights (s : STATE.Ty) (cs : List Value) (w : World) (hs : Rd w anyB STATE s cs) :
    Calls Tryz.prog 3 #[.agg cs.toArray] w fun e w' => e = .returned (.bool true) ∧ Below w.heap.size w w' := by
  obtain ⟨ls, ts, A, ca, B, cb, rfl, rfl, _, h1, h2⟩ := rd_state hs
  exact x_TaskRights ls ts A B _ ca _ cb w hs
end Go.Proofs.YtfjnpiahloncmaaGreat
