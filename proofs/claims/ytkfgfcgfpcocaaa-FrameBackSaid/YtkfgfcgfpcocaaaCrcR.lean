import Derived.Test.YtkfgfcgfpcocaaaCrcW
namespace Go.Proofs.Ytkfgfcgfpcocaaa
open Go.RowKit
theorem and1 (n : Nat) : bits .and .u32 (n : Int) 1 = ((n % 2 : Nat) : Int) := by
  show IntKind.u32.wrap ((BitVec.ofInt 32 (n : Int) &&& BitVec.ofInt 32 1).toNat : Int) = _
  rw [BitVec.ofInt_natCast, BitVec.toNat_and, BitVec.toNat_ofNat]
  have e : (BitVec.ofInt 32 1).toNat = 1 := rfl
  rw [e, Nat.and_one_is_mod, IntWalk.u32_in _ (by omega)]
  omega
theorem rb_test (d : BitVec 32) (x : UInt8) (j : Nat) (D : Int) (hD : D = ((2 ^ j : Nat) : Int)) :
    bits .xor .u32 (bits .and .u32 ((x.toNat : Int) / D % 4294967296) 1) ((d.toNat : Int) / 2147483648) = if (x.toNat.testBit j ^^ d.msb) then 1 else 0 := by
  have hx := x.toNat_lt
  have hd := d.isLt
  have e0 : x.toNat / 2 ^ j ≤ x.toNat := Nat.div_le_self _ _
  have e1 : (x.toNat : Int) / D % 4294967296 = ((x.toNat / 2 ^ j : Nat) : Int) := by
    rw [hD, ← Int.natCast_ediv]
    generalize x.toNat / 2 ^ j = q at *
    omega
  rw [e1, and1 _]
  have e2 : (x.toNat.testBit j = true ∧ x.toNat / 2 ^ j % 2 = 1) ∨ (x.toNat.testBit j = false ∧ x.toNat / 2 ^ j % 2 = 0) := by
    rw [Nat.testBit_eq_decide_div_mod_eq]
    by_cases g : x.toNat / 2 ^ j % 2 = 1
    · exact .inl ⟨decide_eq_true g, g⟩
    · exact .inr ⟨decide_eq_false g, by omega⟩
  have e3 : (d.msb = true ∧ (d.toNat : Int) / 2147483648 = 1) ∨ (d.msb = false ∧ (d.toNat : Int) / 2147483648 = 0) := by
    rw [BitVec.msb_eq_decide]
    by_cases g : 2 ^ (32 - 1) ≤ d.toNat
    · exact .inl ⟨decide_eq_true g, by omega⟩
    · exact .inr ⟨decide_eq_false g, by omega⟩
  rcases e2 with ⟨a1, a2⟩ | ⟨a1, a2⟩ <;> rcases e3 with ⟨b1, b2⟩ | ⟨b1, b2⟩ <;> rw [a1, a2, b1, b2] <;> decide
theorem rb_yes {d : BitVec 32} {x : UInt8} {j : Nat} {D : Int} (hD : D = ((2 ^ j : Nat) : Int))
    (h : (bits .xor .u32 (bits .and .u32 ((x.toNat : Int) / D % 4294967296) 1) ((d.toNat : Int) / 2147483648) == 1) = true) :
    bits .xor .u32 ((d.toNat : Int) * (2 : Int) % (4294967296 : Int)) 79764919 = ((CrcM.rbit d (x.toNat.testBit j)).toNat : Int) := by
  have h := beq_iff_eq.1 h
  rw [rb_test d x j D hD] at h
  have hb : (x.toNat.testBit j ^^ d.msb) = true := by
    cases g : (x.toNat.testBit j ^^ d.msb)
    · rw [g] at h; cases h
    · rfl
  unfold CrcM.rbit
  rw [hb, if_pos rfl, shl32]
  exact xor32 _ CrcM.poly
theorem rb_no {d : BitVec 32} {x : UInt8} {j : Nat} {D : Int} (hD : D = ((2 ^ j : Nat) : Int))
    (h : (bits .xor .u32 (bits .and .u32 ((x.toNat : Int) / D % 4294967296) 1) ((d.toNat : Int) / 2147483648) == 1) = false) :
    (d.toNat : Int) * (2 : Int) % (4294967296 : Int) = ((CrcM.rbit d (x.toNat.testBit j)).toNat : Int) := by
  have h := beq_eq_false_iff_ne.1 h
  rw [rb_test d x j D hD] at h
  have hb : (x.toNat.testBit j ^^ d.msb) = false := by
    cases g : (x.toNat.testBit j ^^ d.msb)
    · rfl
    · rw [g] at h; exact absurd rfl h
  unfold CrcM.rbit
  rw [hb, if_neg Bool.false_ne_true, shl32, BitVec.xor_zero]
theorem rstep_any (c : BitVec 32) (x : UInt8) (w : World) :
    Calls Try.prog 12 #[.int .u32 (c.toNat : Int), .int .u8 (x.toNat : Int)] w fun e w' => e = .returned (.int .u32 ((CrcM.step c x).toNat : Int)) ∧ w = w' := by
  obtain ⟨n, hn⟩ : ∃ n : Int, n = c.toNat := ⟨_, rfl⟩
  obtain ⟨y, hy⟩ : ∃ n : Int, n = x.toNat := ⟨_, rfl⟩
  rw [← hn, ← hy]
  have HN := Lib.hid hn
  have HY := Lib.hid hy
  clear hn hy
  go_enter Try.func12, Try.ntmps12
  go_wp2
  go_loop [0, 5] (fun v i => ∃ k : Nat, k ≤ 8 ∧ i = .int .i64 (7 - k) ∧ ∃ m : Int, v = .int .u32 m ∧ Hid (m = ((CrcM.rIt x k c).toNat : Int))) (fun _ i => (intOf i + 1).toNat)
  case atStart => exact ⟨0, by omega, rfl, _, rfl, Lib.hid HN.out⟩
  case round =>
    obtain ⟨k, hk, rfl, m, rfl, HM⟩ := hrel
    have hk8 : k = 0 ∨ k = 1 ∨ k = 2 ∨ k = 3 ∨ k = 4 ∨ k = 5 ∨ k = 6 ∨ k = 7 ∨ k = 8 := by omega
    rcases hk8 with rfl | rfl | rfl | rfl | rfl | rfl | rfl | rfl | rfl
    · go_wp2
      all_goals
        first
        | (have hy : (bits .xor .u32 (bits .and .u32 (y / 128 % 4294967296) 1) (m / 2147483648) == 1) = true := by assumption
           rw [HM.out, HY.out] at hy
           go_round
           case rel => exact ⟨1, by omega, rfl, _, rfl, Lib.hid (by rw [HM.out]; exact rb_yes (j := 7) rfl hy)⟩
           case measure => simp [intOf])
        | (have hy : (bits .xor .u32 (bits .and .u32 (y / 128 % 4294967296) 1) (m / 2147483648) == 1) = false := by assumption
           rw [HM.out, HY.out] at hy
           go_round
           case rel => exact ⟨1, by omega, rfl, _, rfl, Lib.hid (by rw [HM.out]; exact rb_no (j := 7) rfl hy)⟩
           case measure => simp [intOf])
    · go_wp2
      all_goals
        first
        | (have hy : (bits .xor .u32 (bits .and .u32 (y / 64 % 4294967296) 1) (m / 2147483648) == 1) = true := by assumption
           rw [HM.out, HY.out] at hy
           go_round
           case rel => exact ⟨2, by omega, rfl, _, rfl, Lib.hid (by rw [HM.out]; exact rb_yes (j := 6) rfl hy)⟩
           case measure => simp [intOf])
        | (have hy : (bits .xor .u32 (bits .and .u32 (y / 64 % 4294967296) 1) (m / 2147483648) == 1) = false := by assumption
           rw [HM.out, HY.out] at hy
           go_round
           case rel => exact ⟨2, by omega, rfl, _, rfl, Lib.hid (by rw [HM.out]; exact rb_no (j := 6) rfl hy)⟩
           case measure => simp [intOf])
    · go_wp2
      all_goals
        first
        | (have hy : (bits .xor .u32 (bits .and .u32 (y / 32 % 4294967296) 1) (m / 2147483648) == 1) = true := by assumption
           rw [HM.out, HY.out] at hy
           go_round
           case rel => exact ⟨3, by omega, rfl, _, rfl, Lib.hid (by rw [HM.out]; exact rb_yes (j := 5) rfl hy)⟩
           case measure => simp [intOf])
        | (have hy : (bits .xor .u32 (bits .and .u32 (y / 32 % 4294967296) 1) (m / 2147483648) == 1) = false := by assumption
           rw [HM.out, HY.out] at hy
           go_round
           case rel => exact ⟨3, by omega, rfl, _, rfl, Lib.hid (by rw [HM.out]; exact rb_no (j := 5) rfl hy)⟩
           case measure => simp [intOf])
    · go_wp2
      all_goals
        first
        | (have hy : (bits .xor .u32 (bits .and .u32 (y / 16 % 4294967296) 1) (m / 2147483648) == 1) = true := by assumption
           rw [HM.out, HY.out] at hy
           go_round
           case rel => exact ⟨4, by omega, rfl, _, rfl, Lib.hid (by rw [HM.out]; exact rb_yes (j := 4) rfl hy)⟩
           case measure => simp [intOf])
        | (have hy : (bits .xor .u32 (bits .and .u32 (y / 16 % 4294967296) 1) (m / 2147483648) == 1) = false := by assumption
           rw [HM.out, HY.out] at hy
           go_round
           case rel => exact ⟨4, by omega, rfl, _, rfl, Lib.hid (by rw [HM.out]; exact rb_no (j := 4) rfl hy)⟩
           case measure => simp [intOf])
    · go_wp2
      all_goals
        first
        | (have hy : (bits .xor .u32 (bits .and .u32 (y / 8 % 4294967296) 1) (m / 2147483648) == 1) = true := by assumption
           rw [HM.out, HY.out] at hy
           go_round
           case rel => exact ⟨5, by omega, rfl, _, rfl, Lib.hid (by rw [HM.out]; exact rb_yes (j := 3) rfl hy)⟩
           case measure => simp [intOf])
        | (have hy : (bits .xor .u32 (bits .and .u32 (y / 8 % 4294967296) 1) (m / 2147483648) == 1) = false := by assumption
           rw [HM.out, HY.out] at hy
           go_round
           case rel => exact ⟨5, by omega, rfl, _, rfl, Lib.hid (by rw [HM.out]; exact rb_no (j := 3) rfl hy)⟩
           case measure => simp [intOf])
    · go_wp2
      all_goals
        first
        | (have hy : (bits .xor .u32 (bits .and .u32 (y / 4 % 4294967296) 1) (m / 2147483648) == 1) = true := by assumption
           rw [HM.out, HY.out] at hy
           go_round
           case rel => exact ⟨6, by omega, rfl, _, rfl, Lib.hid (by rw [HM.out]; exact rb_yes (j := 2) rfl hy)⟩
           case measure => simp [intOf])
        | (have hy : (bits .xor .u32 (bits .and .u32 (y / 4 % 4294967296) 1) (m / 2147483648) == 1) = false := by assumption
           rw [HM.out, HY.out] at hy
           go_round
           case rel => exact ⟨6, by omega, rfl, _, rfl, Lib.hid (by rw [HM.out]; exact rb_no (j := 2) rfl hy)⟩
           case measure => simp [intOf])
    · go_wp2
      all_goals
        first
        | (have hy : (bits .xor .u32 (bits .and .u32 (y / 2 % 4294967296) 1) (m / 2147483648) == 1) = true := by assumption
           rw [HM.out, HY.out] at hy
           go_round
           case rel => exact ⟨7, by omega, rfl, _, rfl, Lib.hid (by rw [HM.out]; exact rb_yes (j := 1) rfl hy)⟩
           case measure => simp [intOf])
        | (have hy : (bits .xor .u32 (bits .and .u32 (y / 2 % 4294967296) 1) (m / 2147483648) == 1) = false := by assumption
           rw [HM.out, HY.out] at hy
           go_round
           case rel => exact ⟨7, by omega, rfl, _, rfl, Lib.hid (by rw [HM.out]; exact rb_no (j := 1) rfl hy)⟩
           case measure => simp [intOf])
    · go_wp2
      all_goals
        first
        | (have hy : (bits .xor .u32 (bits .and .u32 (y % 4294967296) 1) (m / 2147483648) == 1) = true := by assumption
           rw [HM.out, HY.out, ← Int.ediv_one (x.toNat : Int)] at hy
           go_round
           case rel => exact ⟨8, by omega, rfl, _, rfl, Lib.hid (by rw [HM.out]; exact rb_yes (j := 0) rfl hy)⟩
           case measure => simp [intOf])
        | (have hy : (bits .xor .u32 (bits .and .u32 (y % 4294967296) 1) (m / 2147483648) == 1) = false := by assumption
           rw [HM.out, HY.out, ← Int.ediv_one (x.toNat : Int)] at hy
           go_round
           case rel => exact ⟨8, by omega, rfl, _, rfl, Lib.hid (by rw [HM.out]; exact rb_no (j := 0) rfl hy)⟩
           case measure => simp [intOf])
    · go_wp2
      go_ret
      exact ⟨ret_int (by rw [HM.out, CrcM.step_rIt]), rfl⟩
theorem rsum_any (a : Option Addr) (n cap : Nat) (xs : List UInt8) (w : World) (hb : Bs w a n xs) :
    Calls Try.prog 14 #[.slice a n cap] w fun e w' => e = .returned (.int .u32 ((CrcM.sum xs).toNat : Int)) ∧ w = w' := by
  have hm := hb.1
  have HB := Lib.hid hb
  clear hb
  go_enter Try.func14, Try.ntmps14
  go_wp2
  go_loop [3, 8] (fun v i => ∃ k : Nat, k ≤ n ∧ i = .int .i64 k ∧ ∃ d : BitVec 32, v = .int .u32 d.toNat ∧ Hid (d = CrcM.more (BitVec.allOnes 32) (xs.take k))) (fun _ i => n - (intOf i).toNat)
  case atStart => exact ⟨0, by omega, rfl, BitVec.allOnes 32, rfl, Lib.hid rfl⟩
  case round =>
    obtain ⟨k, hk, rfl, d, rfl, HD⟩ := hrel
    by_cases hlt : k < n
    · obtain ⟨ad, x, rfl, hx, hc⟩ := HB.out.at_ k hlt
      have HX := Lib.hid hx
      clear hx
      go_wp2_with (go_at_call 12; refine (rstep_any _ _ _).mono ?_; rintro e w' ⟨rfl, rfl⟩)
      go_round
      case rel => exact ⟨k + 1, by omega, by go_num, _, rfl, Lib.hid (by rw [HD.out, take_at HX.out, CrcM.more_append]; rfl)⟩
      case measure => simp [intOf]; omega
    · go_wp2
      go_ret
      exact ⟨ret_int (by rw [HD.out, List.take_of_length_le (by have := HB.out.len; omega)]; rfl), rfl⟩
end Go.Proofs.Ytkfgfcgfpcocaaa
