import Derived.Test.YtkfgfcgfpcocaaaFrmS
namespace Go.Proofs.Ytkfgfcgfpcocaaa
open Go.RowKit
/-- Lists of bytes that are alike. -/
theorem same_true (a : Option Addr) (n cap : Nat) (vs : List Value) (b : Option Addr) (capb : Nat) (us : List Value) (l : List (List UInt8)) (w : World) (hn : n ≤ 9223372036854775807)
    (ha : Rc w a n vs) (hta : Txs w vs l) (hb : Rc w b n us) (htb : Txs w us l) :
    Calls Try.prog 22 #[.slice a n cap, .slice b n capb] w fun e w' => e = .returned (.bool true) ∧ Below w.heap.size w w' := by
  go_enter Try.func22, Try.ntmps22
  go_wp2_with fail
  go_loopw [13] (fun i wr => ∃ k : Nat, k ≤ n ∧ i = .int .i64 k ∧ Below w.heap.size w wr) (fun i _ => n - (intOf i).toNat)
  case atStart => exact ⟨0, by omega, rfl, Below.refl _ _⟩
  case round =>
    obtain ⟨k, hk, rfl, hbel⟩ := hrel
    by_cases hlt : k < n
    · have hkl : k < l.length := by have := ha.1; have := hta.1; omega
      have hkv : k < vs.length := by have := ha.1; omega
      have hku : k < us.length := by have := hb.1; omega
      obtain ⟨A1, n1, c1, hv1, _, _, hb1⟩ := (hta.2 k vs[k] l[k] (List.getElem?_eq_getElem hkv) (List.getElem?_eq_getElem hkl)).below hbel
      obtain ⟨A2, n2, c2, hv2, _, _, hb2⟩ := (htb.2 k us[k] l[k] (List.getElem?_eq_getElem hku) (List.getElem?_eq_getElem hkl)).below hbel
      obtain ⟨ad, rfl⟩ : ∃ ad, a = some ad := by cases a with
        | none => exact absurd (ha.2.1 rfl) (by omega)
        | some ad => exact ⟨ad, rfl⟩
      obtain ⟨bd, rfl⟩ : ∃ bd, b = some bd := by cases b with
        | none => exact absurd (hb.2.1 rfl) (by omega)
        | some bd => exact ⟨bd, rfl⟩
      have hc1 := cell_below hbel (ha.2.2 ad rfl k vs[k] (List.getElem?_eq_getElem hkv))
      have hc2 := cell_below hbel (hb.2.2 bd rfl k us[k] (List.getElem?_eq_getElem hku))
      rw [hv1] at hc1
      rw [hv2] at hc2
      have hn1 := hb1.len
      have hn2 := hb2.len
      have hcv1 := fun q => conv_bs (c := c1) (hb1.below (below_drewN (Below.refl _ wr) q))
      have hcv2 := fun q => conv_bs (c := c2) (hb2.below (below_drewN (Below.refl _ wr) q))
      have i0 : (0 : Int) ≤ (k : Int) := by omega
      have i1 : (k : Int) < (n : Int) := by omega
      generalize hX : l[k] = X at *
      clear hX hta htb ha hb hv1 hv2
      go_wp2_with fail
      go_quiet (fail)
      go_wp2_with fail
      go_roundw
      case rel => exact ⟨k + 1, by omega, by go_num, below_drewN hbel _⟩
      case measure => simp [intOf]; omega
    · go_wp2_with fail
      go_ret
      exact ⟨rfl, hbel⟩
end Go.Proofs.Ytkfgfcgfpcocaaa
