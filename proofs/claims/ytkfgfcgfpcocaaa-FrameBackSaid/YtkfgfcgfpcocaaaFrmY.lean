import Derived.Test.YtkfgfcgfpcocaaaFrmX
namespace Go.Proofs.Ytkfgfcgfpcocaaa
open Go.RowKit
theorem own_weaken {w : World} {b b' : Nat} {e : TypeId} {size n : Nat} {v : Value} {xs : List Value} (h : w.ownsRow b e size v n xs) (hb : b' ≤ b) : w.ownsRow b' e size v n xs := by
  obtain ⟨h1, h2 | ⟨g, cap, cur, hv, hg, h3⟩⟩ := h
  · exact ⟨h1, .inl h2⟩
  · exact ⟨h1, .inr ⟨g, cap, cur, hv, by omega, h3⟩⟩
theorem rframe_ok (a : Option Addr) (n cap : Nat) (xs : List UInt8) (w : World) (hb : Bs w a n xs) (hn : n ≤ 60000) :
    Calls Try.prog 21 #[.slice a n cap] w fun e w' => ∃ v, e = .returned v ∧ w'.ownsRow w.heap.size 5 1 v (7 + n) ((CrcM.frm xs).map encB) ∧ Below w.heap.size w w' := by
  have h0 : ¬ 60000 < n := by omega
  have HL := Lib.hid hb.len
  go_enter Try.func21, Try.ntmps21
  go_wp2_with fail
  refine (fixed_any w.heap.size w (.slice none 0 0) 0 [] n 2 _ (own_nil _ _ _ _) (Below.refl _ _) (Nat.le_refl _) (by omega) (by omega)).mono ?_
  rintro e w1 ⟨v1, rfl, ho1, hq1⟩
  rw [CrcM.be_2] at ho1
  have hz1 := hq1.size
  go_wp2_with (first
    | (at_builtin; refine wp_app (base := w.heap.size) rfl (.tmp 10) (.tmp 11) rfl ho1 (hb.below hq1).2 hq1 Try.underlying23 infoB rfl rfl rfl (one_bs _) (by omega) (by omega) hz1 ?_; intro v2 w2 ho2 hq2 _ _; rw [← List.map_append] at ho2; replace ho2 := own_cast (ys := (CrcM.body xs).map encB) ho2 (by unfold CrcM.body; rw [HL.out]; rfl); have hz2 := hq2.size; obtain ⟨g, cap2, hv2, hgb, hgl, hnc, hcm⟩ := own_form ho2 (by omega); subst hv2)
    | (at_builtin; refine wp_app (base := w2.heap.size) rfl (.tmp 13) (.tmp 14) rfl (lit_own w2 5 _ 1 rfl (by decide)) ((own_bs_at ho2).below (below_alloc1 w2 _)).2 (below_alloc1 w2 _) Try.underlying23 infoB rfl rfl rfl (one_bs _) (by omega) (by omega) (by simp) ?_; intro v3 w3 ho3 hq3 _ _; have hb3 := (own_bs_at ho2).below hq3; have hz3 := hq3.size)
    | (go_at_call 14; refine (rsum_any _ _ _ _ _ hb3).mono ?_; rintro e w' ⟨rfl, rfl⟩))
  replace ho3 := own_cast (ys := (165 :: CrcM.body xs).map encB) ho3 rfl
  refine (fixed_any w2.heap.size w2 v3 (1 + (0 + 2 + n)) (165 :: CrcM.body xs) (CrcM.sum (CrcM.body xs)).toNat 4 _ ho3 hq3 (Nat.le_refl _) (by omega) (by omega)).mono ?_
  rintro e w4 ⟨v4, rfl, ho4, hq4⟩
  go_wp2_with fail
  go_ret
  refine ⟨v4, rfl, own_weaken (own_len (own_cast ho4 ?_) (by omega)) hz2, hq2.trans (hq4.mono hz2)⟩
  rw [CrcM.be_4]; rfl
theorem rframe_no (a : Option Addr) (n cap : Nat) (w : World) (hn : 60000 < n) (hm : n ≤ 9223372036854775807) :
    Calls Try.prog 21 #[.slice a n cap] w fun e w' => e = .returned (.slice none 0 0) ∧ w = w' := by
  go_enter Try.func21, Try.ntmps21
  go_wp2_with fail
  go_ret
  exact ⟨rfl, rfl⟩
theorem put_no (a : Option Addr) (n cap : Nat) (w : World) (hn : 60000 < n) (hm : n ≤ 9223372036854775807) :
    Calls Try.prog 17 #[.slice a n cap] w fun e w' => e = .returned (.tuple #[.slice none 0 0, .int .i64 2]) ∧ w = w' := by
  go_enter Try.func17, Try.ntmps17
  go_wp2_with fail
  go_ret2
  exact ⟨rfl, rfl⟩
/-- slices.Clone of bytes: the same bytes in memory of the call's own. -/
theorem clone_any (a : Option Addr) (n cap : Nat) (xs : List UInt8) (w : World) (hb : Bs w a n xs) (hn : n ≤ 70000000000) (hcap : n ≤ cap) (hnil : a = none → cap = 0) :
    Calls Try.prog 25 #[.slice a n cap] w fun e w' => ∃ v, e = .returned v ∧ w'.ownsRow w.heap.size 5 1 v n (xs.map encB) ∧ Below w.heap.size w w' := by
  cases a with
  | none =>
    obtain rfl : n = 0 := hb.2.2.1 rfl
    obtain rfl : cap = 0 := hnil rfl
    have hx : xs = [] := List.eq_nil_of_length_eq_zero hb.len
    subst hx
    have he := Lib.run_eql_slice_nil (P := Try.prog) w 23 5 none 0 0 0 0 Try.underlying23
    go_enter Try.func25, Try.ntmps25
    go_wp2_with fail
    go_ret
    exact ⟨_, rfl, own_nil _ _ _ _, Below.refl _ _⟩
  | some ad =>
    have he := Lib.run_eql_slice_nil (P := Try.prog) w 23 5 (some ad) n cap 0 0 Try.underlying23
    go_enter Try.func25, Try.ntmps25
    go_wp2_with (at_builtin; refine wp_app (base := w.heap.size) rfl (.tmp 5) (.tmp 6) rfl (lit_own w 5 _ 0 rfl (by decide)) (hb.below (below_alloc1 w _)).2 (below_alloc1 w _) Try.underlying23 infoB rfl rfl rfl (one_bs _) (by omega) (by omega) (by simp) ?_; intro v2 w2 ho2 hq2 _ _)
    go_ret
    exact ⟨v2, rfl, own_len ho2 (by omega), hq2⟩
end Go.Proofs.Ytkfgfcgfpcocaaa
