import Derived.Test.YtkfgfcgfpcocaaaFrmP
import Derived.Deep.RegionWith
import Derived.Laws.IdiomStrings
import Derived.Outline
namespace Go.Proofs.Ytkfgfcgfpcocaaa
open Go.RowKit
/-- A text out of bytes that are read. -/
theorem conv_bs {w : World} {A : Option Addr} {n c : Nat} {xs : List UInt8} (h : Bs w A n xs) : (convert 23 9 (.slice A n c)).run Try.prog w = .ok (.string ⟨xs.toArray⟩) w := by
  have hl := h.len
  cases A with
  | none =>
    obtain rfl : n = 0 := h.2.2.1 rfl
    obtain rfl : xs = [] := List.eq_nil_of_length_eq_zero hl
    exact run_convert_bytes_nil w 23 5 Try.underlying23 Try.underlying5 0 c 9 Try.underlying9
  | some ad =>
    subst hl
    exact run_convert_bytes_back w 23 9 5 ad c xs Try.underlying23 Try.underlying5 Try.underlying9 (fun j hj => h.2.2.2 ad rfl j _ (by rw [List.getElem?_map, List.getElem?_eq_getElem hj]; rfl))
/-- How Unframe ends where the head may be. -/
def UnfPost (a : Option Addr) (m : Nat) (Y G : List UInt8) (e : Ending) (w' : World) : Prop :=
  (CrcM.frm Y ≠ G ∧ e = .returned (.tuple #[.slice none 0 0, .int .i64 0, .int .i64 40])) ∨
  (CrcM.frm Y = G ∧ ∃ A c, e = .returned (.tuple #[.slice A m c, .int .i64 (7 + m), .int .i64 0]) ∧ Bs w' A m Y ∧ A.map (·.block) = a.map (·.block) ∧ m ≤ c ∧ c ≤ 9223372036854775807)
set_option maxHeartbeats 2000000 in
theorem unf_main (a : Option Addr) (n cap : Nat) (xs : List UInt8) (w : World) (hb : Bs w a n xs) (h : 3 ≤ n) (x1 x2 : UInt8) (hx1 : xs[1]? = some x1) (hx2 : xs[2]? = some x2)
    (hcap : n ≤ cap) (hcm0 : cap ≤ 9223372036854775807) (m : Nat) (hm : x1.toNat * 256 + x2.toNat = m) (hm6 : m ≤ 60000) (hm7 : 7 + m ≤ n) :
    Calls Try.prog 19 #[.slice a n cap] w fun e w' => UnfPost a m ((xs.take (3 + m)).drop 3) (xs.take (7 + m)) e w' ∧ Below w.heap.size w w' := by
  obtain ⟨ad, y0, y1, y2, rfl, h0, h1, h2, c0, c1, c2⟩ := hb.three (by omega)
  obtain rfl : x1 = y1 := Option.some.inj (hx1.symm.trans h1)
  obtain rfl : x2 = y2 := Option.some.inj (hx2.symm.trans h2)
  have hz := hb.1
  have hcapI : (cap : Int) ≤ 9223372036854775807 := by omega
  have i1 : (1 : Int) < (n : Int) := by omega
  have i2 : (2 : Int) < (n : Int) := by omega
  have hml : m ≤ 65535 := by omega
  clear hx1 hx2 h0 h1 h2
  obtain ⟨Y, hY⟩ : ∃ Y, Y = (xs.take (3 + m)).drop 3 := ⟨_, rfl⟩
  obtain ⟨G, hG⟩ : ∃ G, G = xs.take (7 + m) := ⟨_, rfl⟩
  rw [← hY, ← hG]
  have HY := Lib.hid hY
  have HG := Lib.hid hG
  clear hY hG
  cases hFG : (CrcM.frm Y == G)
  all_goals
    go_enter Try.func19, Try.ntmps19
    go_wp2_with fail
    go_quiet (fail)
    have hb' := hb.below (below_drewN (Below.refl _ _) nq)
    clear c0 c1 c2
    go_upto_region 6 with (fail)
    rw [show ((x1.toNat : Int) * 256 + (x2.toNat : Int)) = (m : Int) from by omega]
    have hbN := hb.below (below_drewN (Below.refl _ _) (nq + 1))
    have hbodyd : Bs (w.drewN (nq + 1)) (some ⟨ad.block, ad.off + 3, none⟩) (3 + m - 3) ((xs.take (3 + m)).drop 3) := hbN.sub 3 (3 + m) (by omega) (by omega)
    have hfulld := hbN.sub 0 (7 + m) (by omega) (by omega)
    rw [show 3 + m - 3 = m from by omega] at hbodyd
    rw [List.drop_zero, Nat.sub_zero] at hfulld
    replace hfulld : Bs (w.drewN (nq + 1)) (some ad) (7 + m) (xs.take (7 + m)) := hfulld
    rw [← HY.out] at hbodyd
    rw [← HG.out] at hfulld
    have hcv := conv_bs (c := cap) hfulld
    have q0 : 0 < 7 + m := by omega
    have q3 : (3 + (m : Int)).toNat = 3 + m := by omega
    have q4 : (7 + (m : Int)).toNat = 7 + m := by omega
    have q5 : (0 : Int) ≤ 3 + (m : Int) := by omega
    have q6 : (3 : Int) ≤ 3 + (m : Int) := by omega
    have q7 : 3 + (m : Int) ≤ (cap : Int) := by omega
    have q8 : (0 : Int) ≤ 7 + (m : Int) := by omega
    have q9 : 7 + (m : Int) ≤ (cap : Int) := by omega
    have q10 : ¬ (cap = 3) := by omega
    have q11 : 3 + m - 3 = m := by omega
    have q1 : IntKind.i64.wrap (3 + (m : Int)) = 3 + (m : Int) := IntWalk.i64_in _ (by omega)
    have q2 : IntKind.i64.wrap (7 + (m : Int)) = 7 + (m : Int) := IntWalk.i64_in _ ⟨Int.le_trans (by decide) q8, Int.le_trans q9 hcapI⟩
    go_region_with ((go_at_call 21; refine (rframe_ok _ m _ _ _ hbodyd hm6).mono ?_; rintro e w2 ⟨v, rfl, hov, hbv⟩; obtain ⟨g, cap2, hv2, hgb, hgl, hnc, hcm⟩ := own_form hov q0; subst hv2; have hcv2 := conv_bs (c := cap2) (own_bs_at hov); have hcv3 := conv_bs (c := cap) (hfulld.below hbv)))
    all_goals
      have hbw := hbodyd.below hbv
      have hsz : w.heap.size ≤ (w.drewN (nq + 1)).heap.size := (below_drewN (Below.refl w.heap.size w) _).size
      have hbel := (below_drewN (Below.refl w.heap.size w) (nq + 1)).trans (hbv.mono hsz)
      clear hcv2 hcv3 hcv hov hbv hbodyd hfulld hbN hb'
      go_wp2_with fail
      go_ret3
      first
      | exact ⟨.inl ⟨beq_eq_false_iff_ne.1 hFG, rfl⟩, hbel⟩
      | exact ⟨.inr ⟨beq_iff_eq.1 hFG, _, _, rfl, hbw, rfl, by omega, by omega⟩, hbel⟩
theorem unf_short (a : Option Addr) (n cap : Nat) (w : World) (h : n < 3) :
    Calls Try.prog 19 #[.slice a n cap] w fun e w' => e = .returned (.tuple #[.slice none 0 0, .int .i64 0, .int .i64 40]) ∧ Below w.heap.size w w' := by
  go_enter Try.func19, Try.ntmps19
  go_wp2_with fail
  go_ret3
  exact ⟨rfl, Below.refl _ _⟩
theorem unf_len (a : Option Addr) (n cap : Nat) (xs : List UInt8) (w : World) (hb : Bs w a n xs) (h : 3 ≤ n) (x1 x2 : UInt8) (hx1 : xs[1]? = some x1) (hx2 : xs[2]? = some x2)
    (hbig : 60000 < x1.toNat * 256 + x2.toNat ∨ n < 7 + (x1.toNat * 256 + x2.toNat)) :
    Calls Try.prog 19 #[.slice a n cap] w fun e w' => e = .returned (.tuple #[.slice none 0 0, .int .i64 0, .int .i64 40]) ∧ Below w.heap.size w w' := by
  obtain ⟨ad, y0, y1, y2, rfl, h0, h1, h2, c0, c1, c2⟩ := hb.three h
  obtain rfl : x1 = y1 := Option.some.inj (hx1.symm.trans h1)
  obtain rfl : x2 = y2 := Option.some.inj (hx2.symm.trans h2)
  have hz := hb.1
  have i1 : (1 : Int) < (n : Int) := by omega
  have i2 : (2 : Int) < (n : Int) := by omega
  have hv1 := x1.toNat_lt
  have hv2 := x2.toNat_lt
  clear hx1 hx2 h0 h1 h2
  by_cases hb6 : (60000 : Int) < (x1.toNat : Int) * 256 + (x2.toNat : Int)
  · go_enter Try.func19, Try.ntmps19
    go_wp2_with fail
    go_quiet (fail)
    go_wp2_with fail
    go_ret3
    exact ⟨rfl, below_drewN (Below.refl _ _) _⟩
  · have hb7 : (n : Int) < 7 + ((x1.toNat : Int) * 256 + (x2.toNat : Int)) := by omega
    go_enter Try.func19, Try.ntmps19
    go_wp2_with fail
    go_quiet (fail)
    go_wp2_with fail
    go_ret3
    exact ⟨rfl, below_drewN (Below.refl _ _) _⟩
end Go.Proofs.Ytkfgfcgfpcocaaa
