import Derived.Test.YtnolhnlhohpkpaaCdcO
namespace Go.Proofs.Ytnolhnlhohpkpaa
open Go.RowKit Cdc
set_option linter.unusedVariables false
set_option linter.unusedSimpArgs false
set_option maxRecDepth 20000 in
theorem unzig_bits {n : Nat} (h : n < 18446744073709551616) : bits .xor .i64 ((n : Int) / 2) (wrap64 (-wrap64 (bits .and .u64 (n : Int) 1))) = unzig n := by
  have ha : bits .and .u64 (n : Int) 1 = ((n % 2 : Nat) : Int) := by
    have := bits_and_u64_nat n 1 h (by omega)
    rw [Nat.and_one_is_mod] at this
    exact this
  rw [ha]
  unfold wrap64
  unfold unzig
  rcases Nat.mod_two_eq_zero_or_one n with h2 | h2
  · rw [h2, if_pos rfl]
    show bits .xor .i64 ((n : Int) / 2) 0 = _
    unfold bits
    simp only
    rw [show BitVec.ofInt IntKind.i64.bits 0 = 0#64 from rfl]
    show IntKind.i64.wrap ((BitVec.ofInt 64 ((n : Int) / 2) ^^^ 0#64).toNat : Int) = _
    rw [BitVec.xor_zero, IntKind.wrap_i64, BitVec.toNat_ofInt]
    omega
  · rw [h2, if_neg (by decide)]
    show bits .xor .i64 ((n : Int) / 2) (-1) = _
    unfold bits
    simp only
    show IntKind.i64.wrap ((BitVec.ofInt 64 ((n : Int) / 2) ^^^ BitVec.ofInt 64 (-1)).toNat : Int) = _
    rw [show BitVec.ofInt 64 (-1) = BitVec.allOnes 64 from rfl, BitVec.xor_allOnes, IntKind.wrap_i64, BitVec.toNat_not, BitVec.toNat_ofInt]
    omega
set_option maxRecDepth 20000 in
theorem rdN_lt {most : Nat} {s : St} (hm : most < 18446744073709551616) : (rdN most s).1 < 18446744073709551616 := by
  cases hb : (rdN most s).2.2 with
  | true => rw [rdN_failed hb]; decide
  | false =>
    have hs := rdN_ok hb
    obtain ⟨xs, b⟩ := s
    simp only at hs
    subst hs
    obtain ⟨r, hr⟩ : ∃ r, rdN most (xs, false) = ((rdN most (xs, false)).1, r, false) := ⟨(rdN most (xs, false)).2.1, by revert hb; generalize rdN most (xs, false) = p; obtain ⟨a, b, c⟩ := p; intro hb; simp only at hb; subst hb; rfl⟩
    exact (rdN_inv hr).2.2
set_option maxRecDepth 20000 in
theorem fx_len (k : Nat) (s : St) : (fx k s).2.1.length ≤ s.1.length := by
  unfold fx
  split
  · simp
  · simp
set_option maxRecDepth 20000 in
theorem rdN_len (most : Nat) (s : St) : (rdN most s).2.1.length ≤ s.1.length := by
  unfold rdN
  have h1 := fx_len 1 s
  have h2 := fx_len ((fx 1 s).1 - 128) (fx 1 s).2
  (repeat' split) <;> first
    | omega
    | simp
set_option maxRecDepth 20000 in
theorem rdN_most (most : Nat) (s : St) : (rdN most s).1 ≤ most := by
  unfold rdN
  split
  · split
    · exact Nat.zero_le _
    · split
      · exact Nat.zero_le _
      · next h => simp only [not_or, Nat.not_lt] at h; exact h.2.2.1
  · split
    · exact Nat.zero_le _
    · next h => simp only [not_or, Nat.not_lt] at h; exact h.1
set_option maxRecDepth 20000 in
theorem rI_any (w : World) (g : Nat) (s : St) (h : RdAt w g s) :
    Calls Try.prog 23 #[.pointer (some ⟨g, 0, none⟩)] w fun e w' => e = .returned (.int .i64 (rdI s).1) ∧ RdAt w' g (rdI s).2 ∧ w.grownBy w' (some g) := by
  have HN := Lib.hid (rN_any w g 18446744073709551615 s h)
  obtain ⟨n, s1, hn⟩ : ∃ n s1, rdN 18446744073709551615 s = (n, s1) := ⟨_, _, rfl⟩
  have HQ := Lib.hid hn
  have hlt : n < 18446744073709551616 := by have := rdN_lt (most := 18446744073709551615) (s := s) (by omega); rw [hn] at this; exact this
  have HU := Lib.hid (unzig_bits hlt)
  clear hn h
  go_enter Try.func23, Try.ntmps23
  go_wp2_with fail
  refine HN.out.mono ?_
  rintro e w2 ⟨rfl, hr, hg⟩
  rw [HQ.out] at hr ⊢
  go_wp2_with fail
  go_ret
  refine ⟨?_, ?_, hg⟩
  · unfold rdI FULL
    rw [HQ.out]
    exact ret_int HU.out
  · unfold rdI FULL; rw [HQ.out]; exact hr
/-- How B ends. -/
def BPost (w : World) (g : Nat) (p : List UInt8 × St) (e : Ending) (w' : World) : Prop :=
  ∃ v', e = .returned v' ∧ Rd w' (fun k => w.heap.size ≤ k) (.sl .byte) p.1 [v'] ∧ RdAt w' g p.2 ∧ w.grownBy w' (some g)
set_option maxRecDepth 20000 in
theorem rd_nil_bytes (w : World) (ok : Nat → Prop) : Rd w ok (.sl .byte) ([] : List UInt8) [.slice none 0 0] := rd_sl.2 ⟨none, 0, 0, rfl, by omega, by omega, fun _ => rfl, rfl, fun _ => rfl, fun ad e => by cases e⟩
set_option maxRecDepth 20000 in
theorem rd_of_bs {w : World} {A : Option Addr} {n c : Nat} {xs : List UInt8} (h : Bs w A n xs) (h1 : n ≤ c) (h2 : c ≤ 9223372036854775807) (h3 : A = none → c = 0) : Rd w anyB (.sl .byte) xs [.slice A n c] :=
  rd_sl.2 ⟨A, n, c, rfl, h1, h2, h3, rows_of_bytes h (fun _ _ _ => trivial)⟩
set_option maxRecDepth 20000 in
theorem rB_any (w : World) (g most : Nat) (s : St) (h : RdAt w g s) (hm : most ≤ 65536) (hl : s.1.length ≤ 1000000) :
    Calls Try.prog 28 #[.pointer (some ⟨g, 0, none⟩), .int .i64 most] w (BPost w g (rdB most s)) := by
  have HN := Lib.hid (rN_any w g most s h)
  obtain ⟨n, s1, hn⟩ : ∃ n s1, rdN most s = (n, s1) := ⟨_, _, rfl⟩
  have HQ := Lib.hid hn
  have hm0 : ¬ (most : Int) < 0 := by omega
  have hw : IntKind.u64.wrap (most : Int) = (most : Int) := by rw [IntKind.wrap_u64]; omega
  have hsl : s1.1.length ≤ 1000000 := by
    have := rdN_len most s
    rw [hn] at this
    exact Nat.le_trans this hl
  have hnm : n ≤ 65536 := by
    have := rdN_most most s
    rw [hn] at this
    exact Nat.le_trans this hm
  have HE := Lib.hid (show rdB most s = if s1.2 = true ∨ s1.1.length < n then ([], failed) else (s1.1.take n, s1.1.drop n, false) by unfold rdB; rw [hn])
  have HZ := Lib.hid (show s1.2 = true → n = 0 by intro hb; have := rdN_failed (most := most) (s := s) (by rw [hn]; exact hb); rw [hn] at this; injection this)
  clear hn h
  obtain ⟨L, hL⟩ : ∃ L, (if s1.2 = true then 0 else s1.1.length : Nat) = L := ⟨_, rfl⟩
  have hLl : L ≤ 1000000 := by rw [← hL]; split <;> omega
  have hw2 : IntKind.u64.wrap (L : Int) = (L : Int) := by rw [IntKind.wrap_u64]; omega
  have hw3 : IntKind.i64.wrap (n : Int) = (n : Int) := IntWalk.i64_in _ (by omega)
  have hmin : ¬ (9223372036854775807 : Int) < (n : Int) := by omega
  have HL := Lib.hid hL
  clear hL
  by_cases hlt : L < n
  · have hlt2 : (L : Int) < (n : Int) := by omega
    have HD := Lib.hid (show rdB most s = ([], failed) by
      rw [HE.out, if_pos]
      cases hb : s1.2 with
      | true => exact .inl rfl
      | false => exact .inr (by have := HL.out; rw [hb] at this; simp at this; omega))
    clear hlt
    go_enter Try.func28, Try.ntmps28
    go_wp2_with fail
    refine HN.out.mono ?_
    rintro e w2 ⟨rfl, hr, hg⟩
    rw [HQ.out] at hr ⊢
    have HR := Lib.hid hr
    clear hr
    go_wp2_with (first
      | (go_at_call 32; refine (rLeft_any w2 g s1 HR.out).mono ?_; rintro e w3 ⟨rfl, rfl⟩; rw [HL.out])
      | (go_at_call 69; refine (fail_any _ g s1 HR.out).mono ?_; rintro e w4 ⟨rfl, hr4, hg4⟩; have HR4 := Lib.hid hr4; clear hr4))
    refine (take_any _ g n failed HR4.out (by omega)).mono ?_
    rintro e w5 ⟨⟨A5, c5, rfl, p5, q5, n5, hb5⟩, hr5, hg5⟩
    rw [if_pos (.inl rfl)] at hr5 hb5 p5 ⊢
    rw [if_pos (.inl rfl)] at hb5
    have HR5 := Lib.hid hr5
    have HB5 := Lib.hid (rd_of_bs hb5 p5 q5 n5)
    have hg1 := hg.trans (hg4.trans hg5)
    clear hr5 hb5 p5 q5 n5
    go_wp2_with (go_at_call 67; refine (clone_byte w5 anyB _ _ HB5.out (by simp)).mono ?_; rintro e w6 ⟨v6, rfl, hr6, hb6⟩; have HR6 := Lib.hid hr6; obtain ⟨A6, c6, rfl⟩ := rd_slice hr6; clear hr6)
    go_ret
    rw [HD.out]
    exact ⟨_, rfl, HR6.out.weak (fun k hk _ => Nat.le_trans hg1.size hk), HR5.out.below hb6, hg1.trans (grown_below hb6)⟩
  · have hlt2 : ¬ (L : Int) < (n : Int) := by omega
    have HC := Lib.hid (show ((s1.2 = true ∨ s1.1.length < n) ∧ s1.2 = true ∧ n = 0) ∨ (¬ (s1.2 = true ∨ s1.1.length < n)) by
      cases hb : s1.2 with
      | true => exact .inl ⟨.inl rfl, rfl, HZ.out hb⟩
      | false => refine .inr ?_; have := HL.out; rw [hb] at this; simp at this ⊢; omega)
    clear hlt
    go_enter Try.func28, Try.ntmps28
    go_wp2_with fail
    refine HN.out.mono ?_
    rintro e w2 ⟨rfl, hr, hg⟩
    rw [HQ.out] at hr ⊢
    have HR := Lib.hid hr
    clear hr
    go_wp2_with (go_at_call 32; refine (rLeft_any w2 g s1 HR.out).mono ?_; rintro e w3 ⟨rfl, rfl⟩; rw [HL.out])
    refine (take_any _ g n s1 HR.out (by omega)).mono ?_
    rintro e w5 ⟨⟨A5, c5, rfl, p5, q5, n5, hb5⟩, hr5, hg5⟩
    obtain ⟨m5, hm5⟩ : ∃ m5, (if s1.2 = true ∨ s1.1.length < n then 0 else n) = m5 := ⟨_, rfl⟩
    obtain ⟨ys, hys⟩ : ∃ ys, (if s1.2 = true ∨ s1.1.length < n then [] else s1.1.take n) = ys := ⟨_, rfl⟩
    have HYS := Lib.hid hys
    rw [hm5, hys] at hb5
    rw [hm5] at p5 ⊢
    have HR5 := Lib.hid hr5
    have HB5 := Lib.hid (rd_of_bs hb5 p5 q5 n5)
    have hyl : ys.length ≤ 100000 := by rw [← hys]; split <;> simp; omega
    have hg1 := hg.trans hg5
    clear hr5 hb5 p5 q5 n5 hys hm5
    go_wp2_with (go_at_call 67; refine (clone_byte w5 anyB _ _ HB5.out hyl).mono ?_; rintro e w6 ⟨v6, rfl, hr6, hb6⟩; have HR6 := Lib.hid hr6; obtain ⟨A6, c6, rfl⟩ := rd_slice hr6; clear hr6)
    go_ret
    have HV := Lib.hid (show rdB most s = (ys, (if s1.2 = true ∨ s1.1.length < n then failed else (s1.1.drop n, false))) by
      rw [HE.out, ← HYS.out]
      by_cases hi : s1.2 = true ∨ s1.1.length < n
      · rw [if_pos hi, if_pos hi, if_pos hi]
      · rw [if_neg hi, if_neg hi, if_neg hi])
    rw [HV.out]
    exact ⟨_, rfl, HR6.out.weak (fun k hk _ => Nat.le_trans hg1.size hk), HR5.out.below hb6, hg1.trans (grown_below hb6)⟩
end Go.Proofs.Ytnolhnlhohpkpaa
