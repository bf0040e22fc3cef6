import Derived.Test.YtnolhnlhohpkpaaRcdO
namespace Go.Proofs.Ytnolhnlhohpkpaa
open Go.RowKit Cdc
set_option linter.unusedVariables false
set_option linter.unusedSimpArgs false
def RBPost (w : World) (M g : Nat) (p : List UInt8 × St) (e : Ending) (w' : World) : Prop :=
  ∃ v', e = .returned v' ∧ Rd w' (fun k => w.heap.size ≤ k) (.sl .byte) p.1 [v'] ∧ RfAt w' M g p.2 ∧ w.grownBy w' (some g)
set_option maxRecDepth 20000 in
theorem rd_own_bytes {w : World} {B : Nat} {v : Value} {n : Nat} {xs : List UInt8} (h : w.ownsRow B 5 1 v n (xs.map encB)) : Rd w (fun k => B ≤ k) (.sl .byte) xs [v] := by
  have hl : xs.length = n := by have := h.1; simp at this; omega
  rcases h.2 with ⟨rfl, hz⟩ | ⟨g, cap, cur, rfl, hg, hh, hnc, hcm, _⟩
  · have : xs = [] := List.eq_nil_of_length_eq_zero (by omega)
    subst this
    exact rd_nil_bytes _ _
  · obtain ⟨A, c, e, h1, h2, h3⟩ := own_rc h
    injection e with e1 e2 e3
    subst e1
    simp only [maxLen] at hcm
    refine rd_sl.2 ⟨_, _, _, rfl, hnc, by omega, (fun e => by cases e), rows_of_bytes (?_ : Bs w _ n xs) (fun _ ad e => by injection e with e; subst e; exact hg)⟩
    exact ⟨by omega, h3.1, h3.2.1, h3.2.2⟩
set_option maxHeartbeats 4000000 in
set_option maxRecDepth 20000 in
theorem rrB_any (w : World) (M g most : Nat) (s : St) (h : RfAt w M g s) (hm : most ≤ 65536) (hl : s.1.length ≤ 1000000) :
    Calls Try.prog 29 #[.pointer (some ⟨g, 0, none⟩), .int .i64 most] w (RBPost w M g (rdB most s)) := by
  have HN := Lib.hid (rrN_any w M g most s h)
  obtain ⟨n, s1, hn⟩ : ∃ n s1, rdN most s = (n, s1) := ⟨_, _, rfl⟩
  have HQ := Lib.hid hn
  have hm0 : ¬ (most : Int) < 0 := by omega
  have hw : IntKind.u64.wrap (most : Int) = (most : Int) := by rw [IntKind.wrap_u64]; omega
  have hsl : s1.1.length ≤ 1000000 := by
    have := rdN_len most s
    rw [hn] at this
    exact Nat.le_trans this hl
  have hnm : n ≤ 65536 := by
    have := rdN_most most s
    rw [hn] at this
    exact Nat.le_trans this hm
  have HE := Lib.hid (show rdB most s = if s1.2 = true ∨ s1.1.length < n then ([], failed) else (s1.1.take n, s1.1.drop n, false) by unfold rdB; rw [hn])
  clear hn h
  cases hb : s1.2 with
  | true =>
    have HD := Lib.hid (show rdB most s = ([], failed) by rw [HE.out, if_pos (.inl hb)])
    have HB := Lib.hid hb
    clear hb
    go_enter Try.func29, Try.ntmps29
    go_wp2_with fail
    refine HN.out.mono ?_
    rintro e w2 ⟨rfl, hr, hg⟩
    rw [HQ.out] at hr ⊢
    have HR := Lib.hid hr
    have bR := hr.bad
    rw [show (n, s1).2.2 = true from HB.out] at bR
    clear hr
    go_wp2_with (go_at_call 73; refine (rfail_any _ M g s1 HR.out).mono ?_; rintro e w4 ⟨rfl, hr4, hg4⟩; have HR4 := Lib.hid hr4; clear hr4)
    go_ret
    rw [HD.out]
    exact ⟨_, rfl, rd_nil_bytes _ _, HR4.out, hg.trans hg4⟩
  | false =>
    by_cases hlt : s1.1.length < n
    · have HD := Lib.hid (show rdB most s = ([], failed) by rw [HE.out, if_pos (.inr hlt)])
      have HB := Lib.hid hb
      have hlt2 : (s1.1.length : Int) < (n : Int) := by omega
      have hw2 : IntKind.u64.wrap (s1.1.length : Int) = (s1.1.length : Int) := by rw [IntKind.wrap_u64]; omega
      clear hb hlt
      go_enter Try.func29, Try.ntmps29
      go_wp2_with fail
      refine HN.out.mono ?_
      rintro e w2 ⟨rfl, hr, hg⟩
      rw [HQ.out] at hr ⊢
      have HR := Lib.hid hr
      have bR := hr.bad
      rw [show (n, s1).2.2 = false from HB.out] at bR
      obtain ⟨A, c, hgb, _⟩ := hr
      have c0 := blk_at hgb 0 _ rfl
      clear hgb
      go_wp2_with (go_at_call 73; refine (rfail_any _ M g s1 HR.out).mono ?_; rintro e w4 ⟨rfl, hr4, hg4⟩; have HR4 := Lib.hid hr4; clear hr4)
      go_ret
      rw [HD.out]
      exact ⟨_, rfl, rd_nil_bytes _ _, HR4.out, hg.trans hg4⟩
    · have HD := Lib.hid (show rdB most s = (s1.1.take n, s1.1.drop n, false) by rw [HE.out, if_neg (by rw [hb]; simp; omega)])
      have HB := Lib.hid hb
      have hlt2 : ¬ (s1.1.length : Int) < (n : Int) := by omega
      have hle : (n : Int) ≤ (s1.1.length : Int) := by omega
      have hw2 : IntKind.u64.wrap (s1.1.length : Int) = (s1.1.length : Int) := by rw [IntKind.wrap_u64]; omega
      have n0 : (0 : Int) ≤ (n : Int) := by omega
      have hnl : n ≤ s1.1.length := by omega
      have HNL := Lib.hid hnl
      clear hb hlt hnl
      go_enter Try.func29, Try.ntmps29
      go_wp2_with fail
      refine HN.out.mono ?_
      rintro e w2 ⟨rfl, hr, hg⟩
      rw [HQ.out] at hr ⊢
      have HR := Lib.hid hr
      have bR := hr.bad
      rw [show (n, s1).2.2 = false from HB.out] at bR
      obtain ⟨A, c, hgb, h1, h2, h3, h4, h5, h6, h7⟩ := hr
      have c0 := blk_at hgb 0 _ rfl
      have hle2 : (n : Int) ≤ (c : Int) := by have : s1.1.length ≤ c := h1; omega
      have HG := Lib.hid hgb
      have H4 := Lib.hid h4
      have HBs := Lib.hid (show Rc w2 A n ((s1.1.take n).map encB) from ⟨by rw [List.length_map, List.length_take]; exact Nat.min_eq_left HNL.out, fun e => by have := h3 e; have := HNL.out; have : s1.1.length ≤ c := h1; omega, fun ad e j u hu => h4.2.2.2 ad e j u (by
        rw [List.getElem?_map, List.getElem?_take] at hu
        rw [List.getElem?_map]
        by_cases hj : j < n
        · rwa [if_pos hj] at hu
        · rw [if_neg hj] at hu; cases hu)⟩)
      clear hgb h4 h7
      go_wp2_with (at_builtin
                   refine wp_app (base := w2.heap.size) (w0 := w2) (n := 0) (xs := []) rfl (.const (.slice none 0 0)) (.tmp 36) rfl (own_nil _ _ _ _) HBs.out (Below.refl _ w2) Try.underlying23 info_byte rfl rfl rfl (one_bs _) (by omega) (by omega) (Nat.le_refl _) ?_
                   intro v3 w3 ho3 hb3 _ _
                   rw [List.nil_append] at ho3
                   have HO3 := Lib.hid ho3
                   have HB3 := Lib.hid hb3
                   have hg3 := blk_below HG.out hb3 (blk_lt HG.out)
                   have d0 := blk_at hg3 0 _ rfl
                   have f0 := blk_free hg3 0
                   have HG3 := Lib.hid hg3
                   have H43 := Lib.hid (H4.out.below hb3)
                   clear ho3 hb3 hg3)
      · go_ret
        have hcn : c = n := by assumption
        rw [HD.out]
        refine ⟨v3, rfl, ((rd_own_bytes HO3.out).of (fun a u hk hc => ?_) (fun k hk _ => Nat.le_trans hg.size hk)), rf_from (A2 := A) HNL.out HB.out HG3.out h1 h2 h3 H43.out h5 h6 (if_pos hcn).symm rfl (by omega), hg.trans ((grown_below HB3.out).trans (grown_set (grown_refl _ _)))⟩
        rw [World.cell?_setCell_far _ _ _ _ (by have h9 : w2.heap.size ≤ a.block := hk; have := blk_lt HG.out; show g ≠ a.block; omega)]; exact hc
      · go_ret
        have hcn : ¬ c = n := by assumption
        rw [HD.out]
        refine ⟨v3, rfl, ((rd_own_bytes HO3.out).of (fun a u hk hc => ?_) (fun k hk _ => Nat.le_trans hg.size hk)), rf_from (A2 := A.map (fun x : Addr => x.add n)) HNL.out HB.out HG3.out h1 h2 h3 H43.out h5 h6 (if_neg hcn).symm rfl rfl, hg.trans ((grown_below HB3.out).trans (grown_set (grown_refl _ _)))⟩
        rw [World.cell?_setCell_far _ _ _ _ (by have h9 : w2.heap.size ≤ a.block := hk; have := blk_lt HG.out; show g ≠ a.block; omega)]; exact hc
end Go.Proofs.Ytnolhnlhohpkpaa
