import Derived.Test.YtkfgfcgfpcocaaaProg
import Derived.Test.YtkfgfcgfpcocaaaCrcM
import Derived.Test.YtkfgfcgfpcocaaaMem
import Derived.WalkKit
import Derived.WalkLawsBesides
import Derived.WalkSpells
import Derived.KernelRfl
import Derived.Lib.Hide
import Derived.Outline
namespace Go.Proofs.Ytkfgfcgfpcocaaa
open Go.RowKit
theorem ret_int {k : IntKind} {a b : Int} (h : a = b) : Ending.returned (.int k a) = .returned (.int k b) := by rw [h]
theorem u32_of (a : BitVec 32) : IntKind.u32.wrap (a.toNat : Int) = a.toNat := IntWalk.u32_in _ (by have := a.isLt; omega)
theorem xor32 (a b : BitVec 32) : bits .xor .u32 (a.toNat : Int) (b.toNat : Int) = ((a ^^^ b).toNat : Int) := by
  show IntKind.u32.wrap ((BitVec.ofInt 32 (a.toNat : Int) ^^^ BitVec.ofInt 32 (b.toNat : Int)).toNat : Int) = _
  rw [BitVec.ofInt_natCast, BitVec.ofInt_natCast, BitVec.ofNat_toNat, BitVec.ofNat_toNat, BitVec.setWidth_eq, BitVec.setWidth_eq, u32_of]
theorem shl32 (c : BitVec 32) : (c.toNat : Int) * (2 : Int) % (4294967296 : Int) = ((c <<< 1).toNat : Int) := by
  rw [BitVec.toNat_shiftLeft, Nat.shiftLeft_eq]; omega
theorem rnd_step (c : BitVec 32) : bits .xor .u32 (((c.toNat : Int) * 2) % 4294967296) ((79764919 * ((c.toNat : Int) / 2147483648)) % 4294967296) = ((CrcM.rnd c).toNat : Int) := by
  have hc := c.isLt
  have h2 : (79764919 * ((c.toNat : Int) / 2147483648)) % 4294967296 = ((if c.msb then CrcM.poly else 0#32).toNat : Int) := by
    rw [BitVec.msb_eq_decide]
    by_cases g : 2 ^ 31 ≤ c.toNat
    · rw [show decide (2 ^ (32 - 1) ≤ c.toNat) = true from decide_eq_true g, if_pos rfl]
      show _ = (79764919 : Int)
      omega
    · rw [show decide (2 ^ (32 - 1) ≤ c.toNat) = false from decide_eq_false g, if_neg Bool.false_ne_true]
      show _ = (0 : Int)
      omega
  rw [shl32, h2, xor32]; rfl
theorem up_step (c : BitVec 32) (x : UInt8) : bits .xor .u32 (c.toNat : Int) ((((x.toNat : Int)) % 4294967296 * 16777216) % 4294967296) = ((c ^^^ CrcM.up x).toNat : Int) := by
  have h : (((x.toNat : Int)) % 4294967296 * 16777216) % 4294967296 = ((CrcM.up x).toNat : Int) := by
    have := x.toNat_lt
    unfold CrcM.up
    rw [BitVec.toNat_ofNat]; omega
  rw [h, xor32]
theorem step_any (c : BitVec 32) (x : UInt8) (w : World) :
    Calls Try.prog 11 #[.int .u32 (c.toNat : Int), .int .u8 (x.toNat : Int)] w fun e w' => e = .returned (.int .u32 ((CrcM.step c x).toNat : Int)) ∧ w = w' := by
  obtain ⟨n, hn⟩ : ∃ n : Int, n = c.toNat := ⟨_, rfl⟩
  obtain ⟨y, hy⟩ : ∃ n : Int, n = x.toNat := ⟨_, rfl⟩
  rw [← hn, ← hy]
  have HN := Lib.hid hn
  have HY := Lib.hid hy
  clear hn hy
  go_enter Try.func11, Try.ntmps11
  go_wp2
  go_loop [0, 11] (fun v i => ∃ k : Nat, k ≤ 8 ∧ i = .int .i64 k ∧ ∃ m : Int, v = .int .u32 m ∧ Hid (m = ((CrcM.it k (c ^^^ CrcM.up x)).toNat : Int))) (fun _ i => 8 - (intOf i).toNat)
  case atStart => exact ⟨0, by omega, rfl, _, rfl, Lib.hid (by rw [HN.out, HY.out]; exact up_step c x)⟩
  case round =>
    obtain ⟨k, hk, rfl, m, rfl, HM⟩ := hrel
    by_cases hlt : k < 8
    · go_wp2
      go_round
      case rel => exact ⟨k + 1, by omega, by go_num, _, rfl, Lib.hid (by rw [HM.out, CrcM.it_succ]; exact rnd_step _)⟩
      case measure => simp [intOf]; omega
    · go_wp2
      go_ret
      exact ⟨ret_int (by rw [HM.out, show k = 8 by omega]; rfl), rfl⟩
theorem more_any (c : BitVec 32) (a : Option Addr) (n cap : Nat) (xs : List UInt8) (w : World) (hb : Bs w a n xs) :
    Calls Try.prog 15 #[.int .u32 (c.toNat : Int), .slice a n cap] w fun e w' => e = .returned (.int .u32 ((CrcM.more c xs).toNat : Int)) ∧ w = w' := by
  have hm := hb.1
  have HB := Lib.hid hb
  clear hb
  go_enter Try.func15, Try.ntmps15
  go_wp2
  go_loop [0, 9] (fun v i => ∃ k : Nat, k ≤ n ∧ i = .int .i64 k ∧ ∃ d : BitVec 32, v = .int .u32 d.toNat ∧ Hid (d = CrcM.more c (xs.take k))) (fun _ i => n - (intOf i).toNat)
  case atStart => exact ⟨0, by omega, rfl, c, rfl, Lib.hid rfl⟩
  case round =>
    obtain ⟨k, hk, rfl, d, rfl, HD⟩ := hrel
    by_cases hlt : k < n
    · obtain ⟨ad, x, rfl, hx, hc⟩ := HB.out.at_ k hlt
      have HX := Lib.hid hx
      clear hx
      go_wp2_with (go_at_call 11; refine (step_any _ _ _).mono ?_; rintro e w' ⟨rfl, rfl⟩)
      go_round
      case rel => exact ⟨k + 1, by omega, by go_num, _, rfl, Lib.hid (by rw [HD.out, take_at HX.out, CrcM.more_append]; rfl)⟩
      case measure => simp [intOf]; omega
    · go_wp2
      go_ret
      exact ⟨ret_int (by rw [HD.out, List.take_of_length_le (by have := HB.out.len; omega)]), rfl⟩
theorem sum_any (a : Option Addr) (n cap : Nat) (xs : List UInt8) (w : World) (hb : Bs w a n xs) :
    Calls Try.prog 13 #[.slice a n cap] w fun e w' => e = .returned (.int .u32 ((CrcM.sum xs).toNat : Int)) ∧ w = w' := by
  have m := more_any (BitVec.allOnes 32) a n cap xs w hb
  have e : ((BitVec.allOnes 32).toNat : Int) = 4294967295 := by decide
  rw [e] at m
  have HM := Lib.hid m
  clear m hb
  go_enter Try.func13, Try.ntmps13
  go_wp2_with fail
  refine HM.out.mono ?_
  rintro e w' ⟨rfl, rfl⟩
  go_wp2_with fail
  go_ret
  exact ⟨rfl, rfl⟩
end Go.Proofs.Ytkfgfcgfpcocaaa
