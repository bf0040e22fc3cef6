import Derived.Test.YtkfgfcgfpcocaaaFrmY
import Derived.Deep.QuietTactic
import Derived.BigQuiet
namespace Go.Proofs.Ytkfgfcgfpcocaaa
open Go.RowKit
/-- What stands at the head of a text of seven bytes and more. -/
theorem Bs.three {w : World} {a : Option Addr} {n : Nat} {xs : List UInt8} (h : Bs w a n xs) (hn : 3 ≤ n) :
    ∃ ad x0 x1 x2, a = some ad ∧ xs[0]? = some x0 ∧ xs[1]? = some x1 ∧ xs[2]? = some x2 ∧ w.cell? ad = some (.int .u8 x0.toNat) ∧ w.cell? ⟨ad.block, ad.off + 1, none⟩ = some (.int .u8 x1.toNat) ∧ w.cell? ⟨ad.block, ad.off + 2, none⟩ = some (.int .u8 x2.toNat) := by
  obtain ⟨ad, x0, e, h0, c0⟩ := h.at_ 0 (by omega)
  obtain ⟨ad1, x1, e1, h1, c1⟩ := h.at_ 1 (by omega)
  obtain ⟨ad2, x2, e2, h2, c2⟩ := h.at_ 2 (by omega)
  rw [e] at e1 e2
  injection e1 with e1
  injection e2 with e2
  subst e1
  subst e2
  exact ⟨ad, x0, x1, x2, e, h0, h1, h2, c0, c1, c2⟩
theorem of_short (a : Option Addr) (n cap : Nat) (w : World) (h : n < 7) :
    Calls Try.prog 18 #[.slice a n cap] w fun e w' => e = .returned (.tuple #[.slice none 0 0, .int .i64 0, .int .i64 40]) ∧ Below w.heap.size w w' := by
  go_enter Try.func18, Try.ntmps18
  go_wp2_with fail
  go_ret3
  exact ⟨rfl, Below.refl _ _⟩
theorem of_mark (a : Option Addr) (n cap : Nat) (xs : List UInt8) (w : World) (hb : Bs w a n xs) (h : 7 ≤ n) (x : UInt8) (hx : xs[0]? = some x) (hne : x ≠ 165) :
    Calls Try.prog 18 #[.slice a n cap] w fun e w' => e = .returned (.tuple #[.slice none 0 0, .int .i64 0, .int .i64 40]) ∧ Below w.heap.size w w' := by
  obtain ⟨ad, x0, x1, x2, rfl, h0, _, _, c0, _, _⟩ := hb.three (by omega)
  obtain rfl : x = x0 := Option.some.inj (hx.symm.trans h0)
  have hc : ((x.toNat : Int) != 165) = true := by
    rw [bne_iff_ne]; intro e
    exact hne (UInt8.toNat_inj.1 (by show x.toNat = 165; omega))
  have hm := hb.1
  clear hx h0 hne
  go_enter Try.func18, Try.ntmps18
  go_wp2_with fail
  go_ret3
  exact ⟨rfl, Below.refl _ _⟩
theorem or_num (x1 x2 : UInt8) : bits .or .i64 (wrap64 (wrap64 (x1.toNat : Int) * 256)) (wrap64 (x2.toNat : Int)) = ((x1.toNat * 256 + x2.toNat : Nat) : Int) := by
  have h1 := x1.toNat_lt
  have h2 := x2.toNat_lt
  rw [IntWalk.wrap64_in (x1.toNat : Int) (by omega), IntWalk.wrap64_in (x2.toNat : Int) (by omega), IntWalk.wrap64_in _ (by omega)]
  show IntKind.i64.wrap ((BitVec.ofInt 64 ((x1.toNat : Int) * 256) ||| BitVec.ofInt 64 (x2.toNat : Int)).toNat : Int) = _
  have e1 : (x1.toNat : Int) * 256 = ((x1.toNat * 256 : Nat) : Int) := by omega
  rw [e1, BitVec.ofInt_natCast, BitVec.ofInt_natCast, BitVec.toNat_or, BitVec.toNat_ofNat, BitVec.toNat_ofNat, Nat.mod_eq_of_lt (by omega), Nat.mod_eq_of_lt (by omega)]
  have e2 := Nat.two_pow_add_eq_or_of_lt (i := 8) (b := x2.toNat) (by omega) x1.toNat
  rw [Nat.mul_comm x1.toNat 256, ← e2, IntWalk.i64_in _ (by omega)]
theorem of_len (a : Option Addr) (n cap : Nat) (xs : List UInt8) (w : World) (hb : Bs w a n xs) (h : 7 ≤ n) (x1 x2 : UInt8) (hx : xs[0]? = some 165) (hx1 : xs[1]? = some x1) (hx2 : xs[2]? = some x2)
    (m : Nat) (hm : x1.toNat * 256 + x2.toNat = m) (hbig : 60000 < m ∨ n - 7 < m) :
    Calls Try.prog 18 #[.slice a n cap] w fun e w' => e = .returned (.tuple #[.slice none 0 0, .int .i64 0, .int .i64 40]) ∧ Below w.heap.size w w' := by
  obtain ⟨ad, y0, y1, y2, rfl, h0, h1, h2, c0, c1, c2⟩ := hb.three (by omega)
  obtain rfl : (165 : UInt8) = y0 := Option.some.inj (hx.symm.trans h0)
  obtain rfl : x1 = y1 := Option.some.inj (hx1.symm.trans h1)
  obtain rfl : x2 = y2 := Option.some.inj (hx2.symm.trans h2)
  have hz := hb.1
  have ho := or_num x1 x2
  rw [hm] at ho
  have i1 : (1 : Int) < (n : Int) := by omega
  have i2 : (2 : Int) < (n : Int) := by omega
  have hml : m ≤ 65535 := by have := x1.toNat_lt; have := x2.toNat_lt; omega
  clear hx hx1 hx2 h0 h1 h2 hm
  by_cases hb6 : 60000 < m
  · go_enter Try.func18, Try.ntmps18
    go_wp2_with fail
    go_quiet (fail)
    go_wp2_with fail
    go_ret3
    exact ⟨rfl, below_drewN (Below.refl _ _) _⟩
  · have hb7 : n - 7 < m := by omega
    go_enter Try.func18, Try.ntmps18
    go_wp2_with fail
    go_quiet (fail)
    go_wp2_with fail
    go_ret3
    exact ⟨rfl, below_drewN (Below.refl _ _) _⟩
end Go.Proofs.Ytkfgfcgfpcocaaa
