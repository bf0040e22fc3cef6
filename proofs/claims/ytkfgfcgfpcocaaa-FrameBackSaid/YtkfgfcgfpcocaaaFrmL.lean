import Derived.Test.YtkfgfcgfpcocaaaFrmV
import Derived.Deep.CutBlock
import Derived.Deep.DeepCutAuto
import Derived.Outline
import Derived.Lib.SlBytesConst
namespace Go.Proofs.Ytkfgfcgfpcocaaa
open Go.RowKit
theorem frm_len_a : (CrcM.frm [97])[0]? = some 165 ∧ (CrcM.frm [97])[2]? = some 1 ∧ (CrcM.frm [97])[3]? = some 97 := by decide +kernel
theorem frm_awake (w : World) :
    Calls Try.prog 16 #[] w fun e w' => e = .returned (.bool true) ∧ Below w.heap.size w w' := by
  have hb : ∀ W : World, Bs (W.alloc (.cells #[.int .u8 97] 5 (1, 2))) (some ⟨W.heap.size, 0, none⟩) 1 [97] :=
    fun W => lit_bs_mark W 5 (1, 2) [97] _ rfl (by decide)
  have hk := fun (w : World) (C : Array Value) (n c : Nat) => Lib.run_convert_bytes_const (P := Try.prog) w 23 5 C n c Try.underlying23 Try.underlying5
  have HB := Lib.hid hb
  clear hb
  go_enter Try.func16, Try.ntmps16
  go_wp2_with (go_at_call 17; refine (put_ok _ 1 _ _ _ (HB.out _) (by omega)).mono ?_; rintro e w' ⟨v, rfl, ho, hq⟩; obtain ⟨g, cap2, hv2, hgb, hgl, hnc, hcm⟩ := own_form ho (by omega); subst hv2; have c0 := own_byte ho frm_len_a.1; have c2 := own_byte ho frm_len_a.2.1; have c3 := own_byte ho frm_len_a.2.2)
  go_ret
  exact ⟨rfl, (below_alloc1 w _).trans (hq.mono (below_alloc1 w _).size)⟩
/-! ### Bits -/
theorem b32_inj {c d : CrcM.B} (h : CrcM.b32 c = CrcM.b32 d) : c = d := by
  have hc := c.isLt
  have hd := d.isLt
  unfold CrcM.b32 at h
  injection h with h0 h
  injection h with h1 h
  injection h with h2 h
  injection h with h3 h
  have e0 := congrArg UInt8.toNat h0
  have e1 := congrArg UInt8.toNat h1
  have e2 := congrArg UInt8.toNat h2
  have e3 := congrArg UInt8.toNat h3
  rw [UInt8.toNat_ofNat', UInt8.toNat_ofNat'] at e0 e1 e2 e3
  exact BitVec.eq_of_toNat_eq (by omega)
/-- A list that is a frame, all of it, is framed anew. -/
theorem ofL_frm {xs y : List UInt8} {m : Nat} (h : CrcM.ofL xs = some (y, m)) (hl : 7 + m = xs.length) : xs = CrcM.frm y ∧ y.length = m := by
  have hlen := CrcM.ofL_len h
  obtain ⟨x0, x1, x2, r, rfl⟩ := CrcM.three (xs := xs) (by omega)
  unfold CrcM.ofL at h
  dsimp only at h
  split at h
  · rename_i g
    injection h with h
    injection h with ha hb
    subst ha hb
    have hi := CrcM.frm_iff (xs := x0 :: x1 :: x2 :: r) (x0 := x0) (x1 := x1) (x2 := x2) rfl rfl rfl rfl (by omega)
    refine ⟨?_, hlen.1⟩
    have := hi.2 ⟨g.2.1, g.2.2.2.2⟩
    rw [this, List.take_of_length_le (by omega)]
  · cases h
theorem frm_get_head (xs ys : List UInt8) (h : xs.length = ys.length) (j : Nat) (hj : j < 3) : (CrcM.frm xs)[j]? = (CrcM.frm ys)[j]? := by
  unfold CrcM.frm CrcM.body
  rw [h]
  rcases (show j = 0 ∨ j = 1 ∨ j = 2 by omega) with rfl | rfl | rfl <;> rfl
theorem frm_bit (xs y : List UInt8) (j : Nat) (x z : UInt8) (m : Nat) (hx : (CrcM.frm xs)[j]? = some x) (hne : z ≠ x) (h : CrcM.ofL ((CrcM.frm xs).set j z) = some (y, m)) (hm : 7 + m = 7 + xs.length) : False := by
  obtain ⟨hj, hx'⟩ := List.getElem?_eq_some_iff.1 hx
  have hfl := CrcM.frm_len xs
  obtain ⟨he, hy⟩ := ofL_frm h (by rw [List.length_set]; omega)
  have hyx : y.length = xs.length := by omega
  have hz : (CrcM.frm y)[j]? = some z := by rw [← he]; exact List.getElem?_set_self hj
  have hsame : ∀ k, k ≠ j → (CrcM.frm y)[k]? = (CrcM.frm xs)[k]? := by
    intro k hk
    rw [← he, List.getElem?_set_ne (fun e => hk e.symm)]
  have hbl := CrcM.body_len xs
  have hbl' := CrcM.body_len y
  -- the places of a frame
  have tail : ∀ (l : List UInt8) (k : Nat), k < 4 → (CrcM.frm l)[(CrcM.body l).length + 1 + k]? = (CrcM.b32 (CrcM.sum (CrcM.body l)))[k]? := by
    intro l k _
    unfold CrcM.frm
    rw [List.getElem?_append_right (by simp only [List.length_cons]; omega)]
    congr 1
    simp only [List.length_cons]; omega
  have bod : ∀ (l : List UInt8) (k : Nat), k < (CrcM.body l).length → (CrcM.frm l)[k + 1]? = (CrcM.body l)[k]? := by
    intro l k hk
    unfold CrcM.frm
    rw [List.getElem?_append_left (by simp only [List.length_cons]; omega)]
    rfl
  by_cases h3 : j < 3
  · rw [frm_get_head y xs hyx j h3, hx] at hz
    injection hz with hz
    exact hne hz.symm
  · by_cases h4 : j < 3 + xs.length
    · -- in the body
      have hb : CrcM.body y = (CrcM.body xs).set (j - 1) z := by
        apply List.ext_getElem?
        intro k
        by_cases hk : k < (CrcM.body y).length
        · by_cases hkj : k = j - 1
          · subst hkj
            rw [List.getElem?_set_self (by omega), ← bod y (j - 1) hk, show j - 1 + 1 = j from by omega, hz]
          · rw [List.getElem?_set_ne (fun e => hkj e.symm), ← bod y k hk, ← bod xs k (by omega), hsame (k + 1) (by omega)]
        · rw [List.getElem?_eq_none (by omega), List.getElem?_eq_none (by rw [List.length_set]; omega)]
      have hs : CrcM.b32 (CrcM.sum (CrcM.body y)) = CrcM.b32 (CrcM.sum (CrcM.body xs)) := by
        apply List.ext_getElem?
        intro k
        by_cases hk : k < 4
        · rw [← tail y k hk, ← tail xs k hk, hbl, hbl', hyx]
          exact hsame _ (by omega)
        · rw [List.getElem?_eq_none (by simp [CrcM.b32]; omega), List.getElem?_eq_none (by simp [CrcM.b32]; omega)]
      have hs := b32_inj hs
      rw [hb] at hs
      have hjb : j - 1 < (CrcM.body xs).length := by omega
      have := CrcM.more_set _ (CrcM.body xs) (j - 1) hjb z hs
      have hx2 := bod xs (j - 1) hjb
      rw [show j - 1 + 1 = j from by omega, hx, List.getElem?_eq_getElem hjb] at hx2
      injection hx2 with hx2
      exact hne (this.trans hx2.symm)
    · have hb : CrcM.body y = CrcM.body xs := by
        apply List.ext_getElem?
        intro k
        by_cases hk : k < (CrcM.body y).length
        · rw [← bod y k hk, ← bod xs k (by omega), hsame (k + 1) (by omega)]
        · rw [List.getElem?_eq_none (by omega), List.getElem?_eq_none (by omega)]
      have hf : CrcM.frm y = CrcM.frm xs := by unfold CrcM.frm; rw [hb]
      rw [hf, hx] at hz
      injection hz with hz
      exact hne hz.symm
theorem w_FrameBits (a : Option Addr) (n cap : Nat) (xs : List UInt8) (i : Int) (w : World) (ha : Bs w a n xs) :
    Calls Try.prog 7 #[.slice a n cap, .int .i64 i] w fun e w' => e = .returned (.bool true) ∧ Below w.heap.size w w' := by
  have hm := ha.1
  by_cases hn : 300 < n
  · go_enter Try.func7, Try.ntmps7
    go_wp2_with (go_at_call 16; refine (frm_awake _).mono ?_; rintro e w1 ⟨rfl, hb1⟩)
    go_ret
    exact ⟨rfl, hb1⟩
  · by_cases hi : i < 0
    · go_enter Try.func7, Try.ntmps7
      go_wp2_with (first | (go_at_call 16; refine (frm_awake _).mono ?_; rintro e w1 ⟨rfl, hb1⟩) | (go_at_call 17; refine (put_ok _ _ _ _ _ (ha.below hb1) (by omega)).mono ?_; rintro e w2 ⟨v, rfl, ho, hq⟩))
      go_ret
      exact ⟨rfl, hb1.trans (hq.mono hb1.size)⟩
    · by_cases hi2 : 8 * (7 + (n : Int)) ≤ i
      · go_enter Try.func7, Try.ntmps7
        go_wp2_with (first | (go_at_call 16; refine (frm_awake _).mono ?_; rintro e w1 ⟨rfl, hb1⟩) | (go_at_call 17; refine (put_ok _ _ _ _ _ (ha.below hb1) (by omega)).mono ?_; rintro e w2 ⟨v, rfl, ho, hq⟩; obtain ⟨g, cap2, hv2, hgb, hgl, hnc, hcm⟩ := own_form ho (by omega); subst hv2))
        go_ret
        exact ⟨rfl, hb1.trans (hq.mono hb1.size)⟩
      · have h0 : 0 ≤ i / 8 := by omega
        have h1 : i / 8 < 7 + n := by omega
        have h2 : 0 ≤ i % 8 := by omega
        have h3 : i % 8 < 8 := by omega
        have hlen := ha.len
        have hfl := CrcM.frm_len xs
        obtain ⟨x, hx⟩ : ∃ x, (CrcM.frm xs)[(i / 8).toNat]? = some x := ⟨(CrcM.frm xs)[(i / 8).toNat]'(by omega), List.getElem?_eq_getElem (by omega)⟩
        have HX := Lib.hid hx
        have HLEN := Lib.hid hlen
        clear hx hlen hfl
        go_enter Try.func7, Try.ntmps7
        go_wp2_with (first | (go_at_call 16; refine (frm_awake _).mono ?_; rintro e w1 ⟨rfl, hb1⟩) | (go_at_call 17; refine (put_ok _ _ _ _ _ (ha.below hb1) (by omega)).mono ?_; rintro e w2 ⟨v, rfl, ho2, hq2⟩; obtain ⟨g, cap2, hv2, hgb, hgl, hnc, hcm⟩ := own_form ho2 (by omega); subst hv2; have hcell := own_byte ho2 HX.out; have hfree := own_free ho2 (i / 8).toNat))
        go_region
        have HV := Lib.hid (flip_val x (i % 8) h2 h3)
        have hs := ho2.stored (i / 8).toNat (.int .u8 (bits .xor .u8 (x.toNat : Int) (2 ^ (i % 8).toNat % 256)))
        rw [flip_map HV.out] at hs
        have hb4 := own_bs_at hs.1.drew
        have hq3 := (hq2.grown hs.2 (by omega) (fun k hk => by injection hk with hk; omega)).drew
        generalize (w2.setCell ⟨g, (i / 8).toNat, none⟩ (.int .u8 (bits .xor .u8 (x.toNat : Int) (2 ^ (i % 8).toNat % 256)))).drew = w3 at *
        clear hcell hfree hs ho2
        go_wp2_with fail
        refine (only_any _ _ cap2 _ _ hb4 hnc).mono ?_
        rintro e w' ⟨⟨ho, rfl⟩ | ⟨y, m, v, ho, hmn, rfl, hov⟩, hw⟩
        · clear ho
          go_wp2_with fail
          go_ret
          exact ⟨rfl, hb1.trans ((hq3.trans (hw.mono hq3.size)).mono hb1.size)⟩
        · exact absurd (frm_bit xs y _ x _ m HX.out (flip_ne x (i % 8) h2 h3) ho (by rw [HLEN.out]; exact hmn)) id
end Go.Proofs.Ytkfgfcgfpcocaaa
