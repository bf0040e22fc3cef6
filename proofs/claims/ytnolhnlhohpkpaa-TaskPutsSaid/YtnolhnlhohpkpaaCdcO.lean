import Derived.Test.YtnolhnlhohpkpaaCdcN
import Derived.Test.YtnolhnlhohpkpaaCdcQ
namespace Go.Proofs.Ytnolhnlhohpkpaa
open Go.RowKit Cdc
set_option linter.unusedVariables false
set_option linter.unusedSimpArgs false
set_option maxRecDepth 20000 in
theorem rFlag_any (w : World) (g : Nat) (s : St) (h : RdAt w g s) :
    Calls Try.prog 30 #[.pointer (some ⟨g, 0, none⟩)] w fun e w' => e = .returned (.bool (rdFlag s).1) ∧ RdAt w' g (rdFlag s).2 ∧ w.grownBy w' (some g) := by
  have HN := Lib.hid (rN_any w g 1 s h)
  obtain ⟨n, s1, hn⟩ : ∃ n s1, rdN 1 s = (n, s1) := ⟨_, _, rfl⟩
  have HQ := Lib.hid hn
  clear hn h
  go_enter Try.func30, Try.ntmps30
  go_wp2_with fail
  refine HN.out.mono ?_
  rintro e w2 ⟨rfl, hr, hg⟩
  rw [HQ.out] at hr ⊢
  go_wp2_with fail
  go_ret
  refine ⟨?_, ?_, hg⟩
  · unfold rdFlag
    rw [HQ.out]
    refine ret_bool ?_
    by_cases h1 : n = 1
    · subst h1; rfl
    · rw [show (n == 1) = false from beq_eq_false_iff_ne.2 h1]
      show ((n : Int) == 1) = false
      rw [beq_eq_false_iff_ne]; omega
  · unfold rdFlag; rw [HQ.out]; exact hr
set_option maxRecDepth 20000 in
theorem rLeft_any (w : World) (g : Nat) (s : St) (h : RdAt w g s) :
    Calls Try.prog 32 #[.pointer (some ⟨g, 0, none⟩)] w fun e w' => e = .returned (.int .i64 (if s.2 = true then 0 else s.1.length : Nat)) ∧ w = w' := by
  have H := Lib.hid h
  obtain ⟨A, c, hg, _⟩ := h
  have c0 := blk_at hg 0 _ rfl
  clear hg
  obtain ⟨b, hb⟩ : ∃ b, s.2 = b := ⟨_, rfl⟩
  have HB := Lib.hid hb
  cases b with
  | true =>
    have hb2 : (!s.2) = false := by rw [hb]; rfl
    have hv : (if s.2 = true then 0 else s.1.length : Nat) = 0 := if_pos hb
    rw [hv]
    clear hb hv
    go_enter Try.func32, Try.ntmps32
    go_wp2_with (go_at_call 71; refine (ok_any _ g s H.out).mono ?_; rintro e w10 ⟨rfl, rfl⟩; rw [hb2])
    go_ret
    exact ⟨rfl, rfl⟩
  | false =>
    have hb2 : (!s.2) = true := by rw [hb]; rfl
    have hv : (if s.2 = true then 0 else s.1.length : Nat) = s.1.length := if_neg (by rw [hb]; exact Bool.false_ne_true)
    rw [hv]
    clear hb hv
    go_enter Try.func32, Try.ntmps32
    go_wp2_with (go_at_call 71; refine (ok_any _ g s H.out).mono ?_; rintro e w10 ⟨rfl, rfl⟩; rw [hb2])
    go_ret
    exact ⟨rfl, rfl⟩
set_option maxRecDepth 20000 in
theorem rEnd_any (w : World) (g : Nat) (s : St) (h : RdAt w g s) :
    Calls Try.prog 33 #[.pointer (some ⟨g, 0, none⟩)] w fun e w' => e = .returned (.int .i64 (if s.2 = true ∨ s.1 ≠ [] then 20 else 0)) ∧ w = w' := by
  have H := Lib.hid h
  obtain ⟨A, c, hg, _⟩ := h
  have c0 := blk_at hg 0 _ rfl
  clear hg
  obtain ⟨b, hb⟩ : ∃ b, s.2 = b := ⟨_, rfl⟩
  cases b with
  | true =>
    have hb2 : (!s.2) = false := by rw [hb]; rfl
    have hv : (if s.2 = true ∨ s.1 ≠ [] then 20 else 0 : Int) = 20 := if_pos (.inl hb)
    rw [hv]
    clear hb hv
    go_enter Try.func33, Try.ntmps33
    go_wp2_with (go_at_call 71; refine (ok_any _ g s H.out).mono ?_; rintro e w10 ⟨rfl, rfl⟩; rw [hb2])
    go_ret
    exact ⟨rfl, rfl⟩
  | false =>
    have hb2 : (!s.2) = true := by rw [hb]; rfl
    by_cases hl : s.1 = []
    · have hv : (if s.2 = true ∨ s.1 ≠ [] then 20 else 0 : Int) = 0 := if_neg (by rw [hb, hl]; simp)
      have hl0 : s.1.length = 0 := by rw [hl]; rfl
      rw [hv]
      clear hb hv hl
      go_enter Try.func33, Try.ntmps33
      go_wp2_with (go_at_call 71; refine (ok_any _ g s H.out).mono ?_; rintro e w10 ⟨rfl, rfl⟩; rw [hb2])
      go_ret
      exact ⟨rfl, rfl⟩
    · have hv : (if s.2 = true ∨ s.1 ≠ [] then 20 else 0 : Int) = 20 := if_pos (.inr hl)
      have hl0 : (0 : Int) < (s.1.length : Int) := by have := List.length_pos_iff.2 hl; omega
      rw [hv]
      clear hb hv hl
      go_enter Try.func33, Try.ntmps33
      go_wp2_with (go_at_call 71; refine (ok_any _ g s H.out).mono ?_; rintro e w10 ⟨rfl, rfl⟩; rw [hb2])
      go_ret
      exact ⟨rfl, rfl⟩
set_option maxRecDepth 20000 in
theorem read_any (w : World) (A : Option Addr) (n c : Nat) (xs : List UInt8) (h : Rd w anyB (.sl .byte) xs [.slice A n c]) (hn : xs.length ≤ 100000) :
    Calls Try.prog 20 #[.slice A n c] w fun e w' => ∃ g, e = .returned (.pointer (some ⟨g, 0, none⟩)) ∧ w.heap.size ≤ g ∧ RdAt w' g (xs, false) ∧ Below w.heap.size w w' := by
  have H := Lib.hid h
  clear h
  go_enter Try.func20, Try.ntmps20
  go_wp2_with fail
  refine (clone_byte w anyB _ xs H.out hn).mono ?_
  rintro e w2 ⟨v', rfl, hr, hb⟩
  obtain ⟨A2, c2, rfl, h1, h2, h3, h4⟩ := rd_bs hr
  have H4 := Lib.hid h4
  have hblk : xs ≠ [] → ∀ ad, A2 = some ad → ad.block < w2.heap.size := by
    intro hx ad e
    subst e
    exact h4.lt hx
  have HK := Lib.hid hblk
  clear hr h4 hblk
  go_wp2_with fail
  go_ret
  have hb2 := below_alloc1 w2 (.cells #[.slice A2 xs.length c2, .bool false] 101)
  exact ⟨w2.heap.size, rfl, hb.size, ⟨A2, c2, heap_alloc_new w2 _, h1, h2, h3, H4.out.below hb2, HK.out⟩, hb.trans (hb2.mono hb.size)⟩
end Go.Proofs.Ytnolhnlhohpkpaa
