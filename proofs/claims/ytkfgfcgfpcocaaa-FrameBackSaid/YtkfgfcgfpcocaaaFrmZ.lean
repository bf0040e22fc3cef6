import Derived.Test.YtkfgfcgfpcocaaaFrmQ
namespace CrcM
theorem b32_len (c : B) : (b32 c).length = 4 := rfl
theorem ofL_frm_app (x r : List UInt8) (hx : x.length ≤ 60000) : ofL (frm x ++ r) = some (x, x.length) := by
  have hn : ((UInt8.ofNat (x.length / 256)).toNat * 256 + (UInt8.ofNat x.length).toNat) = x.length := by
    rw [UInt8.toNat_ofNat', UInt8.toNat_ofNat']; omega
  have hl := frm_len x
  have hbl := body_len x
  have hf : frm x ++ r = 165 :: (body x ++ (b32 (sum (body x)) ++ r)) := by
    unfold frm
    simp only [List.cons_append, List.append_assoc]
  have h0 : (frm x ++ r)[0]? = some 165 := by rw [hf]; rfl
  have h1 : (frm x ++ r)[1]? = some (UInt8.ofNat (x.length / 256)) := by rw [hf]; rfl
  have h2 : (frm x ++ r)[2]? = some (UInt8.ofNat x.length) := by rw [hf]; rfl
  have t1 : (frm x ++ r).take (3 + x.length) = 165 :: body x := by
    rw [hf, show 3 + x.length = (body x).length + 1 from by omega, List.take_succ_cons, List.take_left]
  have t2 : (frm x ++ r).take (7 + x.length) = frm x := by
    rw [List.take_append_of_le_length (by omega), List.take_of_length_le (by omega)]
  have key := ofL_of (xs := frm x ++ r) (m := x.length) (by rw [List.length_append]; omega) h0 h1 h2 hn hx (by rw [List.length_append]; omega) (by
    rw [t1, t2]
    unfold frm
    rw [show (165 :: body x ++ b32 (sum (body x)) : List UInt8) = (165 :: body x) ++ b32 (sum (body x)) from rfl, show 3 + x.length = (165 :: body x : List UInt8).length from by simp only [List.length_cons]; omega, List.drop_left]
    rfl)
  rw [key, t1]
  rfl
theorem allL_frm (x r : List UInt8) (hx : x.length ≤ 60000) : allL (frm x ++ r) = x :: allL r := by
  rw [allL_some (ofL_frm_app x r hx)]
  have hl := frm_len x
  rw [← hl, List.drop_left]
theorem allL_flat : ∀ (l : List (List UInt8)) (r : List UInt8), (∀ x ∈ l, x.length ≤ 60000) → allL (l.flatMap frm ++ r) = l ++ allL r
  | [], _, _ => rfl
  | x :: l, r, h => by
    rw [List.flatMap_cons, List.append_assoc, allL_frm x _ (h x (by simp)), allL_flat l r (fun y hy => h y (by simp [hy]))]
    rfl
theorem flat_take {l : List (List UInt8)} {k : Nat} {x : List UInt8} (h : l[k]? = some x) : (l.take (k + 1)).flatMap frm = (l.take k).flatMap frm ++ frm x := by
  rw [List.take_add_one, h, List.flatMap_append]; simp
end CrcM
namespace Go.Proofs.Ytkfgfcgfpcocaaa
open Go.RowKit
theorem Rc.take {w : World} {A : Option Addr} {m : Nat} {cs : List Value} (h : Rc w A m cs) (n : Nat) (hn : n ≤ m) : Rc w A n (cs.take n) := by
  refine ⟨by rw [List.length_take, h.1]; omega, fun e => by have := h.2.1 e; omega, ?_⟩
  intro ad e j u hu
  refine h.2.2 ad e j u ?_
  rw [List.getElem?_take] at hu
  by_cases hj : j < n
  · rwa [if_pos hj] at hu
  · rw [if_neg hj] at hu; cases hu
theorem Txs.take {w : World} {vs : List Value} {l r : List (List UInt8)} (h : Txs w vs (l ++ r)) : Txs w (vs.take l.length) l := by
  refine ⟨by have := h.1; rw [List.length_append] at this; rw [List.length_take]; omega, fun i v x hv hx => h.2 i v x ?_ ?_⟩
  · rw [List.getElem?_take] at hv
    by_cases hj : i < l.length
    · rwa [if_pos hj] at hv
    · rw [if_neg hj] at hv; cases hv
  · rw [List.getElem?_append_left (List.getElem?_eq_some_iff.1 hx).1]; exact hx
theorem w_FrameBack (a : Option Addr) (n cap : Nat) (vs : List Value) (l : List (List UInt8)) (b : Option Addr) (m capb : Nat) (ys : List UInt8) (w : World)
    (hn : n ≤ 9223372036854775807) (ha : Rc w a n vs) (hta : Txs w vs l) (hb : Bs w b m ys) :
    Calls Try.prog 9 #[.slice a n cap, .slice b m capb] w fun e w' => e = .returned (.bool true) ∧ Below w.heap.size w w' := by
  have hm := hb.1
  by_cases hn10 : 10 < n
  · go_enter Try.func9, Try.ntmps9
    go_wp2_with (go_at_call 16; refine (frm_awake _).mono ?_; rintro e w1 ⟨rfl, hb1⟩)
    go_ret
    exact ⟨rfl, hb1⟩
  · by_cases hm3 : 300 < m
    · go_enter Try.func9, Try.ntmps9
      go_wp2_with (go_at_call 16; refine (frm_awake _).mono ?_; rintro e w1 ⟨rfl, hb1⟩)
      go_ret
      exact ⟨rfl, hb1⟩
    · go_enter Try.func9, Try.ntmps9
      go_wp2_with (go_at_call 16; refine (frm_awake _).mono ?_; rintro e w1 ⟨rfl, hb1⟩)
      go_loopw [5, 23] (fun o i wr => ∃ k z : Nat, k ≤ n ∧ i = .int .i64 k ∧ z ≤ 307 * k ∧ (∀ x ∈ l.take k, x.length ≤ 300) ∧ wr.ownsRow w.heap.size 5 1 o z (((l.take k).flatMap CrcM.frm).map encB) ∧ Below w.heap.size w wr) (fun _ i _ => n - (intOf i).toNat)
      case atStart => exact ⟨0, 0, by omega, rfl, by omega, fun x hx => by simp at hx, own_nil _ _ _ _, hb1⟩
      case round =>
        obtain ⟨k, z, hk, rfl, hz, hall, hown, hbel⟩ := hrel
        have hln := ha.1
        have hll := hta.1
        have hbs := hbel.size
        by_cases hlt : k < n
        · have hkl : k < l.length := by omega
          have hkv : k < vs.length := by omega
          obtain ⟨A1, n1, c1, hv1, hnc1, hc1, hx1⟩ := (hta.2 k vs[k] l[k] (List.getElem?_eq_getElem hkv) (List.getElem?_eq_getElem hkl)).below hbel
          obtain ⟨ad, rfl⟩ : ∃ ad, a = some ad := by cases a with
            | none => exact absurd (ha.2.1 rfl) (by omega)
            | some ad => exact ⟨ad, rfl⟩
          have hcell := cell_below hbel (ha.2.2 ad rfl k vs[k] (List.getElem?_eq_getElem hkv))
          rw [hv1] at hcell
          have hxl := hx1.len
          have HT := Lib.hid (CrcM.flat_take (List.getElem?_eq_getElem hkl))
          have HT2 := Lib.hid (take_at (List.getElem?_eq_getElem hkl))
          have i0 : (0 : Int) ≤ (k : Int) := by omega
          have i1 : (k : Int) < (n : Int) := by omega
          by_cases h3 : 300 < n1
          · go_wp2_with fail
            go_ret
            exact ⟨rfl, hbel⟩
          · go_wp2_with (first
              | (go_at_call 17; refine (put_ok _ _ _ _ _ hx1 (by omega)).mono ?_; rintro e w2 ⟨v, rfl, ho2, hq2⟩; obtain ⟨A2, c2, hv2, _, _, hr2⟩ := own_rc ho2; subst hv2)
              | (at_builtin; refine wp_app (base := w.heap.size) rfl (.tmp 37) (.tmp 38) rfl (own_below hown hq2) hr2 (hbel.trans (hq2.mono hbs)) Try.underlying23 infoB rfl rfl rfl (one_bs _) (by omega) (by omega) (by have := hq2.size; omega) ?_; intro v3 w3 ho3 hq3 _ _))
            go_roundw
            case rel =>
              refine ⟨k + 1, z + (7 + n1), by omega, by go_num, by omega, ?_, own_cast ho3 ?_, hq3⟩
              · rw [HT2.out]
                intro x hx
                rcases List.mem_append.1 hx with hx | hx
                · exact hall x hx
                · rw [List.mem_singleton.1 hx]; omega
              · rw [HT.out, List.map_append]
            case measure => simp [intOf]; omega
        · obtain rfl : k = n := by omega
          obtain rfl : k = l.length := by omega
          rw [List.take_of_length_le (Nat.le_refl _)] at hall hown
          have HA := Lib.hid (CrcM.allL_flat l ys (fun x hx => by have := hall x hx; omega))
          have hge : (l.length : Int) ≤ (l.length : Int) + ((CrcM.allL ys).length : Int) := by omega
          go_wp2_with (first
            | (at_builtin; refine wp_app (base := w.heap.size) rfl (.tmp 41) (.tmp 42) rfl hown (hb.below hbel).2 hbel Try.underlying23 infoB rfl rfl rfl (one_bs _) (by omega) (by omega) hbs ?_; intro v3 w3 ho3 hq3 _ _; rw [← List.map_append] at ho3; obtain ⟨A3, c3, hv3, hnc3, hb3⟩ := own_bs ho3; have ht3 := own_tx ho3; subst hv3)
            | (go_at_call 23; refine (all_any _ _ _ _ _ hb3 hnc3 (by obtain ⟨A', n', c', he, _, hc', _⟩ := ht3; injection he with _ _ he; omega) (by omega)).mono ?_; rintro e w4 ⟨v4, us, rfl, ho4, ht4, hq4⟩; rw [HA.out] at ho4 ht4; obtain ⟨A4, c4, hv4, hnc4, hl4, hr4⟩ := own_rc ho4; subst hv4; have hlc : (l.length : Int) ≤ (c4 : Int) := (by rw [List.length_append] at hnc4; omega); have hq04 := hq3.trans (hq4.mono hq3.size)))
          refine (same_true _ _ _ _ _ _ _ _ _ (by omega) (hr4.take l.length (by rw [List.length_append]; omega)) ht4.take (ha.of_cells fun _ _ h => cell_below hq04 h) (hta.below hq04)).mono ?_
          rintro e w5 ⟨rfl, hq5⟩
          go_wp2_with fail
          go_ret
          exact ⟨rfl, hq04.trans (hq5.mono hq04.size)⟩
end Go.Proofs.Ytkfgfcgfpcocaaa
