import Derived.Test.YtkfgfcgfpcocaaaFrmU
namespace Go.Proofs.Ytkfgfcgfpcocaaa
open Go.RowKit
/-- How Of ends. -/
def OfEnd (B : Nat) (xs : List UInt8) (e : Ending) (w' : World) : Prop :=
  (CrcM.ofL xs = none ∧ e = .returned (.tuple #[.slice none 0 0, .int .i64 0, .int .i64 40])) ∨
  ∃ y m v, CrcM.ofL xs = some (y, m) ∧ e = .returned (.tuple #[v, .int .i64 (7 + m), .int .i64 0]) ∧ w'.ownsRow B 5 1 v m (y.map encB)
theorem get_at {xs : List UInt8} {k : Nat} (h : k < xs.length) : ∃ x, xs[k]? = some x := ⟨xs[k], List.getElem?_eq_getElem h⟩
theorem of_any (a : Option Addr) (n cap : Nat) (xs : List UInt8) (w : World) (hb : Bs w a n xs) (hcap : n ≤ cap) :
    Calls Try.prog 18 #[.slice a n cap] w fun e w' => OfEnd w.heap.size xs e w' ∧ Below w.heap.size w w' := by
  have hl := hb.len
  by_cases h7 : n < 7
  · exact (of_short a n cap w h7).mono fun e w' ⟨he, hw⟩ => ⟨.inl ⟨CrcM.ofL_short (by omega), he⟩, hw⟩
  · obtain ⟨x0, h0⟩ := get_at (xs := xs) (k := 0) (by omega)
    obtain ⟨x1, h1⟩ := get_at (xs := xs) (k := 1) (by omega)
    obtain ⟨x2, h2⟩ := get_at (xs := xs) (k := 2) (by omega)
    by_cases hx : x0 = 165
    · subst hx
      by_cases hm : 60000 < x1.toNat * 256 + x2.toNat ∨ n - 7 < x1.toNat * 256 + x2.toNat
      · exact (of_len a n cap xs w hb (by omega) x1 x2 h0 h1 h2 _ rfl hm).mono fun e w' ⟨he, hw⟩ => ⟨.inl ⟨CrcM.ofL_not h0 h1 h2 rfl (fun g => by omega), he⟩, hw⟩
      · refine (of_crc a n cap xs w hb (by omega) x1 x2 h0 h1 h2 hcap _ rfl (by omega) (by omega) _ rfl _ rfl).mono fun e w' ⟨he, hw⟩ => ⟨?_, hw⟩
        rcases he with ⟨hne, he⟩ | ⟨heq, v, he, hov⟩
        · exact .inl ⟨CrcM.ofL_not h0 h1 h2 rfl (fun g => hne g.2.2.2), he⟩
        · exact .inr ⟨_, _, v, CrcM.ofL_of (by omega) h0 h1 h2 rfl (by omega) (by omega) heq, he, hov⟩
    · exact (of_mark a n cap xs w hb (by omega) x0 h0 hx).mono fun e w' ⟨he, hw⟩ => ⟨.inl ⟨CrcM.ofL_not h0 h1 h2 rfl (fun g => hx g.1), he⟩, hw⟩
/-- How Unframe ends. -/
def UnfEnd (a : Option Addr) (xs : List UInt8) (e : Ending) (w' : World) : Prop :=
  (CrcM.ofL xs = none ∧ e = .returned (.tuple #[.slice none 0 0, .int .i64 0, .int .i64 40])) ∨
  ∃ y m A c, CrcM.ofL xs = some (y, m) ∧ e = .returned (.tuple #[.slice A m c, .int .i64 (7 + m), .int .i64 0]) ∧ Bs w' A m y ∧ A.map (·.block) = a.map (·.block) ∧ m ≤ c ∧ c ≤ 9223372036854775807
theorem unf_any (a : Option Addr) (n cap : Nat) (xs : List UInt8) (w : World) (hb : Bs w a n xs) (hcap : n ≤ cap) (hcm : cap ≤ 9223372036854775807) :
    Calls Try.prog 19 #[.slice a n cap] w fun e w' => UnfEnd a xs e w' ∧ Below w.heap.size w w' := by
  have hl := hb.len
  by_cases h3 : n < 3
  · exact (unf_short a n cap w h3).mono fun e w' ⟨he, hw⟩ => ⟨.inl ⟨CrcM.ofL_short (by omega), he⟩, hw⟩
  · obtain ⟨x0, h0⟩ := get_at (xs := xs) (k := 0) (by omega)
    obtain ⟨x1, h1⟩ := get_at (xs := xs) (k := 1) (by omega)
    obtain ⟨x2, h2⟩ := get_at (xs := xs) (k := 2) (by omega)
    by_cases hm : 60000 < x1.toNat * 256 + x2.toNat ∨ n < 7 + (x1.toNat * 256 + x2.toNat)
    · exact (unf_len a n cap xs w hb (by omega) x1 x2 h1 h2 hm).mono fun e w' ⟨he, hw⟩ => ⟨.inl ⟨CrcM.ofL_not h0 h1 h2 rfl (fun g => by omega), he⟩, hw⟩
    · refine (unf_main a n cap xs w hb (by omega) x1 x2 h1 h2 hcap hcm _ rfl (by omega) (by omega)).mono fun e w' ⟨he, hw⟩ => ⟨?_, hw⟩
      have hi := CrcM.frm_iff h0 h1 h2 rfl (show x1.toNat * 256 + x2.toNat + 7 ≤ xs.length by omega)
      rcases he with ⟨hne, he⟩ | ⟨heq, A, c, he, hbs⟩
      · exact .inl ⟨CrcM.ofL_not h0 h1 h2 rfl (fun g => hne (hi.2 ⟨g.1, g.2.2.2⟩)), he⟩
      · have g := hi.1 heq
        obtain ⟨rfl, g⟩ := g
        exact .inr ⟨_, _, A, c, CrcM.ofL_of (by omega) h0 h1 h2 rfl (by omega) (by omega) g, he, hbs⟩
/-- How Only ends. -/
def OnlyEnd (B n : Nat) (xs : List UInt8) (e : Ending) (w' : World) : Prop :=
  ((∀ y m, CrcM.ofL xs = some (y, m) → 7 + m ≠ n) ∧ e = .returned (.tuple #[.slice none 0 0, .int .i64 40])) ∨
  ∃ y m v, CrcM.ofL xs = some (y, m) ∧ 7 + m = n ∧ e = .returned (.tuple #[v, .int .i64 0]) ∧ w'.ownsRow B 5 1 v m (y.map encB)
theorem only_any (a : Option Addr) (n cap : Nat) (xs : List UInt8) (w : World) (hb : Bs w a n xs) (hcap : n ≤ cap) :
    Calls Try.prog 20 #[.slice a n cap] w fun e w' => OnlyEnd w.heap.size n xs e w' ∧ Below w.heap.size w w' := by
  go_enter Try.func20, Try.ntmps20
  go_wp2_with fail
  refine (of_any a n cap xs _ hb hcap).mono ?_
  rintro e w1 ⟨⟨ho, rfl⟩ | ⟨y, m, v, ho, rfl, hov⟩, hw⟩
  · go_wp2_with fail
    go_ret2
    exact ⟨.inl ⟨fun y m h => (by rw [ho] at h; cases h), rfl⟩, hw⟩
  · have hl := CrcM.ofL_len ho
    have HO := Lib.hid ho
    clear ho
    by_cases hn : 7 + m = n
    · have hc : ((7 : Int) + (m : Int) != (n : Int)) = false := by rw [bne_eq_false_iff_eq]; omega
      have HN := Lib.hid hn
      clear hn
      go_wp2_with fail
      go_ret2
      exact ⟨.inr ⟨y, m, v, HO.out, HN.out, rfl, hov⟩, hw⟩
    · have hc : ((7 : Int) + (m : Int) != (n : Int)) = true := by rw [bne_iff_ne]; omega
      go_wp2_with fail
      go_ret2
      exact ⟨.inl ⟨fun y' m' h => (by rw [HO.out] at h; injection h with h; injection h with _ h; omega), rfl⟩, hw⟩
end Go.Proofs.Ytkfgfcgfpcocaaa
