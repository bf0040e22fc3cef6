import Derived.Test.YtkfgfcgfpcocaaaCrcR
import Derived.Deep.CutBlock
import Derived.Deep.DeepCutAuto
import Derived.Outline
import Derived.Lib.SlBytesConst
namespace Go.Proofs.Ytkfgfcgfpcocaaa
open Go.RowKit
theorem infoB : (Try.prog.info? 5).map (fun i => (i.zero, i.size, i.bytes)) = some (some (.int .u8 0), 1, 1) := by kernel_rfl
theorem beq_t {α : Type} [BEq α] [LawfulBEq α] {a b : α} (h : a = b) : (a == b) = true := beq_iff_eq.2 h
/-- A literal of bytes whose row bears a conversion's mark: it is read. -/
theorem lit_bs_mark (W : World) (e : TypeId) (f : Nat × Nat) (xs : List UInt8) (cells : Array Value) (hc : cells = (xs.map encB).toArray) (hl : xs.length ≤ 9223372036854775807) :
    Bs (W.alloc (.cells cells e f)) (some ⟨W.heap.size, 0, none⟩) xs.length xs := by
  subst hc
  refine ⟨hl, by simp, (fun e => by cases e), ?_⟩
  intro ad e j u hu
  injection e with e
  subst e
  have ha : (⟨W.heap.size, 0, none⟩ : Addr).add j = ⟨W.heap.size, j, none⟩ := by unfold Addr.add; split <;> simp_all
  rw [ha, World.cell?_alloc_mark]
  simpa using hu
theorem sum_awake : CrcM.sum [49, 50, 51, 52, 53, 54, 55, 56, 57] = 58124007#32 := by decide +kernel
theorem crc_awake (w : World) :
    Calls Try.prog 10 #[] w fun e w' => e = .returned (.bool true) ∧ Below w.heap.size w w' := by
  have hb : ∀ W : World, Bs (W.alloc (.cells #[.int .u8 49, .int .u8 50, .int .u8 51, .int .u8 52, .int .u8 53, .int .u8 54, .int .u8 55, .int .u8 56, .int .u8 57] 5 (9, 10))) (some ⟨W.heap.size, 0, none⟩) 9 [49, 50, 51, 52, 53, 54, 55, 56, 57] :=
    fun W => lit_bs_mark W 5 (9, 10) [49, 50, 51, 52, 53, 54, 55, 56, 57] _ rfl (by decide)
  have s9 (W : World) := sum_any _ _ 9 _ _ (hb W)
  rw [sum_awake] at s9
  have e : ((58124007#32).toNat : Int) = 58124007 := rfl
  rw [e] at s9
  have HS := Lib.hid s9
  clear s9 hb e
  have hk := fun (w : World) (C : Array Value) (n c : Nat) => Lib.run_convert_bytes_const (P := Try.prog) w 23 5 C n c Try.underlying23 Try.underlying5
  go_enter Try.func10, Try.ntmps10
  go_wp2_with (go_at_call 13; refine (HS.out _).mono ?_; rintro e w' ⟨rfl, rfl⟩)
  go_ret
  exact ⟨rfl, (Below.refl _ _).alloc (Nat.le_refl _) _⟩
theorem w_CrcSums (c : BitVec 32) (x : UInt8) (a : Option Addr) (n cap : Nat) (xs : List UInt8) (w : World) (hb : Bs w a n xs) :
    Calls Try.prog 3 #[.int .u32 (c.toNat : Int), .int .u8 (x.toNat : Int), .slice a n cap] w fun e w' => e = .returned (.bool true) ∧ Below w.heap.size w w' := by
  have hm := hb.1
  by_cases hn : 500 < n
  · go_enter Try.func3, Try.ntmps3
    go_wp2_with (go_at_call 10; refine (crc_awake _).mono ?_; rintro e w1 ⟨rfl, hb1⟩)
    go_ret
    exact ⟨rfl, hb1⟩
  · go_enter Try.func3, Try.ntmps3
    go_wp2_with (first | (go_at_call 10; refine (crc_awake _).mono ?_; rintro e w1 ⟨rfl, hb1⟩; have hb2 := hb.below hb1) | (go_at_call 11; refine (step_any _ _ _).mono ?_; rintro e w' ⟨rfl, rfl⟩) | (go_at_call 12; refine (rstep_any _ _ _).mono ?_; rintro e w' ⟨rfl, rfl⟩) | (go_at_call 13; refine (sum_any _ _ _ _ _ hb2).mono ?_; rintro e w' ⟨rfl, rfl⟩) | (go_at_call 14; refine (rsum_any _ _ _ _ _ hb2).mono ?_; rintro e w' ⟨rfl, rfl⟩))
    go_ret
    exact ⟨rfl, hb1⟩
theorem w_CrcPieces (c : BitVec 32) (a : Option Addr) (n cap : Nat) (xs : List UInt8) (b : Option Addr) (m capb : Nat) (ys : List UInt8) (w : World) (ha : Bs w a n xs) (hb : Bs w b m ys) :
    Calls Try.prog 4 #[.int .u32 (c.toNat : Int), .slice a n cap, .slice b m capb] w fun e w' => e = .returned (.bool true) ∧ Below w.heap.size w w' := by
  have hm := ha.1
  have hm' := hb.1
  by_cases hn : 500 < n
  · go_enter Try.func4, Try.ntmps4
    go_wp2_with (go_at_call 10; refine (crc_awake _).mono ?_; rintro e w1 ⟨rfl, hb1⟩)
    go_ret
    exact ⟨rfl, hb1⟩
  · by_cases hn' : 500 < m
    · go_enter Try.func4, Try.ntmps4
      go_wp2_with (go_at_call 10; refine (crc_awake _).mono ?_; rintro e w1 ⟨rfl, hb1⟩)
      go_ret
      exact ⟨rfl, hb1⟩
    · have HE := Lib.hid (ret_bool (beq_t (congrArg (fun d : BitVec 32 => (d.toNat : Int)) (CrcM.more_append c xs ys)).symm))
      go_enter Try.func4, Try.ntmps4
      go_wp2_with (first
        | (go_at_call 10; refine (crc_awake _).mono ?_; rintro e w1 ⟨rfl, hb1⟩; have ha2 := ha.below hb1; have hb2 := hb.below hb1)
        | (go_at_call 15; refine (more_any _ _ _ _ _ _ (by assumption)).mono ?_; rintro e w' ⟨rfl, rfl⟩)
        | (at_builtin; refine wp_app (base := w1.heap.size) rfl (.const (.slice none 0 0)) (.tmp 23) rfl (own_nil _ _ _ _) ha2.2 (Below.refl w1.heap.size w1) Try.underlying23 infoB rfl rfl rfl (one_bs _) (by omega) (by omega) (Nat.le_refl _) ?_; intro v2 w2 ho2 hq2 _ _; rw [List.nil_append, Nat.zero_add] at ho2; have hz2 := hq2.size; have hb3 := hb2.below hq2)
        | (at_builtin; refine wp_app (base := w1.heap.size) rfl (.tmp 24) (.tmp 25) rfl ho2 hb3.2 hq2 Try.underlying23 infoB rfl rfl rfl (one_bs _) (by omega) (by omega) hz2 ?_; intro v3 w3 ho3 hq3 _ _; rw [← List.map_append] at ho3; obtain ⟨A3, c3, hv3, _, hb4⟩ := own_bs ho3; subst hv3))
      go_ret
      exact ⟨HE.out, hb1.trans (hq3.mono hb1.size)⟩
theorem u8_of (a : UInt8) : IntKind.u8.wrap (a.toNat : Int) = a.toNat := IntWalk.u8_in _ (by have := a.toNat_lt; omega)
theorem xor8 (a b : UInt8) : bits .xor .u8 (a.toNat : Int) (b.toNat : Int) = ((a ^^^ b).toNat : Int) := by
  show IntKind.u8.wrap ((BitVec.ofInt 8 (a.toNat : Int) ^^^ BitVec.ofInt 8 (b.toNat : Int)).toNat : Int) = _
  rw [BitVec.ofInt_natCast, BitVec.ofInt_natCast]
  have e : (BitVec.ofNat 8 a.toNat ^^^ BitVec.ofNat 8 b.toNat).toNat = (a ^^^ b).toNat := by
    rw [UInt8.toNat_xor, BitVec.toNat_xor, BitVec.toNat_ofNat, BitVec.toNat_ofNat, Nat.mod_eq_of_lt a.toNat_lt, Nat.mod_eq_of_lt b.toNat_lt]
  rw [e, u8_of]
/-- A byte with one bit turned. -/
def flip (x : UInt8) (r : Int) : UInt8 := x ^^^ UInt8.ofNat (2 ^ r.toNat)
theorem pow8 (r : Int) (h0 : 0 ≤ r) (h : r < 8) : ((2 : Int) ^ r.toNat % 256 = ((UInt8.ofNat (2 ^ r.toNat)).toNat : Int)) ∧ UInt8.ofNat (2 ^ r.toNat) ≠ 0 := by
  rcases (show r = 0 ∨ r = 1 ∨ r = 2 ∨ r = 3 ∨ r = 4 ∨ r = 5 ∨ r = 6 ∨ r = 7 by omega) with rfl | rfl | rfl | rfl | rfl | rfl | rfl | rfl <;> exact ⟨by decide, by decide⟩
theorem flip_val (x : UInt8) (r : Int) (h0 : 0 ≤ r) (h : r < 8) : bits .xor .u8 (x.toNat : Int) (2 ^ r.toNat % 256) = ((flip x r).toNat : Int) := by
  rw [(pow8 r h0 h).1, xor8]; rfl
theorem flip_ne (x : UInt8) (r : Int) (h0 : 0 ≤ r) (h : r < 8) : flip x r ≠ x := by
  intro e
  have : x ^^^ (x ^^^ UInt8.ofNat (2 ^ r.toNat)) = x ^^^ x := congrArg (x ^^^ ·) e
  rw [← UInt8.xor_assoc, UInt8.xor_self, UInt8.zero_xor] at this
  exact (pow8 r h0 h).2 this
theorem flip_map {xs : List UInt8} {j : Nat} {V : Int} {y : UInt8} (hV : V = y.toNat) : (xs.map encB).set j (.int .u8 V) = (xs.set j y).map encB := by
  rw [List.map_set, hV]; rfl
theorem sums_ne (xs : List UInt8) (j : Nat) (x y : UInt8) (hx : xs[j]? = some x) (hne : y ≠ x) :
    (((CrcM.sum xs).toNat : Int) != ((CrcM.sum (xs.set j y)).toNat : Int)) = true := by
  rw [bne_iff_ne]
  intro e
  obtain ⟨hj, hx⟩ := List.getElem?_eq_some_iff.1 hx
  have e2 : CrcM.sum (xs.set j y) = CrcM.sum xs := BitVec.eq_of_toNat_eq (by omega)
  exact hne ((CrcM.more_set _ xs j hj y e2).trans hx)
theorem w_CrcBits (a : Option Addr) (n cap : Nat) (xs : List UInt8) (i : Int) (w : World) (ha : Bs w a n xs) :
    Calls Try.prog 5 #[.slice a n cap, .int .i64 i] w fun e w' => e = .returned (.bool true) ∧ Below w.heap.size w w' := by
  have hm := ha.1
  by_cases hn : 500 < n
  · go_enter Try.func5, Try.ntmps5
    go_wp2_with (go_at_call 10; refine (crc_awake _).mono ?_; rintro e w1 ⟨rfl, hb1⟩)
    go_ret
    exact ⟨rfl, hb1⟩
  · by_cases hi : i < 0
    · go_enter Try.func5, Try.ntmps5
      go_wp2_with (go_at_call 10; refine (crc_awake _).mono ?_; rintro e w1 ⟨rfl, hb1⟩)
      go_ret
      exact ⟨rfl, hb1⟩
    · by_cases hi2 : 8 * (n : Int) ≤ i
      · go_enter Try.func5, Try.ntmps5
        go_wp2_with (go_at_call 10; refine (crc_awake _).mono ?_; rintro e w1 ⟨rfl, hb1⟩)
        go_ret
        exact ⟨rfl, hb1⟩
      · have h0 : 0 ≤ i / 8 := by omega
        have h1 : i / 8 < n := by omega
        have h2 : 0 ≤ i % 8 := by omega
        have h3 : i % 8 < 8 := by omega
        have hlen := ha.len
        obtain ⟨x, hx⟩ : ∃ x, xs[(i / 8).toNat]? = some x := ⟨xs[(i / 8).toNat]'(by omega), List.getElem?_eq_getElem (by omega)⟩
        have HX := Lib.hid hx
        have HLEN := Lib.hid hlen
        clear hx hlen
        go_enter Try.func5, Try.ntmps5
        go_wp2_with (first
          | (go_at_call 10; refine (crc_awake _).mono ?_; rintro e w1 ⟨rfl, hb1⟩; have ha2 := ha.below hb1)
          | (at_builtin; refine wp_app (base := w1.heap.size) rfl (.const (.slice none 0 0)) (.tmp 22) rfl (own_nil _ _ _ _) ha2.2 (Below.refl w1.heap.size w1) Try.underlying23 infoB rfl rfl rfl (one_bs _) (by omega) (by omega) (Nat.le_refl _) ?_; intro v2 w2 ho2 hq2 _ _; rw [List.nil_append, Nat.zero_add] at ho2; have hz2 := hq2.size; have hb3 := ha2.below hq2; obtain ⟨g, cap2, hv2, hg, _⟩ := ho2.form (by omega); subst hv2; have hcell := own_byte ho2 HX.out; have hfree := own_free ho2 (i / 8).toNat))
        go_region
        have HV := Lib.hid (flip_val x (i % 8) h2 h3)
        have hs := ho2.stored (i / 8).toNat (.int .u8 (bits .xor .u8 (x.toNat : Int) (2 ^ (i % 8).toNat % 256)))
        rw [flip_map HV.out] at hs
        obtain ⟨A3, c3, hv3, _, hb4⟩ := own_bs hs.1.drew
        injection hv3 with hv3 _ _
        subst hv3
        have hq3 := (hq2.grown hs.2 (by omega) (fun k hk => by injection hk with hk; omega)).drew
        have hb5 := ha2.below hq3
        have HE := Lib.hid (sums_ne xs (i / 8).toNat x (flip x (i % 8)) HX.out (flip_ne x (i % 8) h2 h3))
        generalize (w2.setCell ⟨g, (i / 8).toNat, none⟩ (.int .u8 (bits .xor .u8 (x.toNat : Int) (2 ^ (i % 8).toNat % 256)))).drew = w3 at *
        clear hcell hfree hs ho2
        go_wp2_with fail
        refine (sum_any _ _ _ _ _ hb5).mono ?_
        rintro e w' ⟨rfl, rfl⟩
        go_wp2_with fail
        refine (sum_any _ _ _ _ _ hb4).mono ?_
        rintro e w' ⟨rfl, rfl⟩
        go_wp2_with fail
        go_ret
        exact ⟨ret_bool HE.out, hb1.trans (hq3.mono hb1.size)⟩
end Go.Proofs.Ytkfgfcgfpcocaaa
