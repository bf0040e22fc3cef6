import Derived.Test.YtnolhnlhohpkpaaRcdW
namespace Go.Proofs.Ytnolhnlhohpkpaa
open Go.RowKit Cdc
set_option linter.unusedVariables false
set_option linter.unusedSimpArgs false
/-- Bytes of one's own. -/
def OB (w : World) (B : Nat) (v : Value) (xs : List UInt8) : Prop := w.ownsRow B 5 1 v xs.length (xs.map encB)
set_option maxRecDepth 20000 in
theorem ob_of {w : World} {B n : Nat} {v : Value} {xs : List UInt8} (h : w.ownsRow B 5 1 v n (xs.map encB)) : OB w B v xs := own_len h (by have := h.1; simp at this; omega)
def OBPost (w : World) (B : Nat) (xs : List UInt8) (e : Ending) (w' : World) : Prop := ∃ v', e = .returned v' ∧ OB w' B v' xs ∧ Below B w w'
set_option maxRecDepth 20000 in
theorem rwN_any (B : Nat) (w : World) (v : Value) (xs : List UInt8) (m : Nat) (h : OB w B v xs) (hB : B ≤ w.heap.size) (hm : m < 18446744073709551616) (hx : xs.length ≤ 60000000000) :
    Calls Try.prog 60 #[v, .int .u64 m] w (OBPost w B (xs ++ encN m)) := by
  by_cases h128 : m < 128
  · have h128' : (m : Int) < 128 := by omega
    have hw8 : IntKind.u8.wrap (m : Int) = (m : Int) := IntWalk.u8_in _ (by omega)
    have HE := Lib.hid (show encN m = [UInt8.ofNat m] by unfold encN; rw [if_pos h128])
    have HQ := Lib.hid (show Value.int .u8 (m : Int) = encB (UInt8.ofNat m) from enc_of (by omega))
    have HO := Lib.hid h
    clear h h128
    go_enter Try.func60, Try.ntmps60
    go_wp2_with (at_builtin; refine wp_app (base := B) (w0 := w) rfl (.tmp 8) (.tmp 11) rfl (HO.out.alloc _) (lit_rc w 5 (0, 0) _ 1 rfl) ((Below.refl B w).alloc hB _) Try.underlying23 info_byte rfl rfl rfl (one_lit1 _) (by omega) (by omega) (by simp; omega) ?_; intro v3 w3 ho3 hq3 _ _; rw [show (#[Value.int .u8 (m : Int)] : Array Value).toList = [UInt8.ofNat m].map encB from congrArg (· :: []) HQ.out, ← List.map_append] at ho3)
    go_ret
    rw [HE.out]
    exact ⟨_, rfl, ob_of ho3, hq3⟩
  · have h128' : ¬ (m : Int) < 128 := by omega
    obtain ⟨k, hk⟩ : ∃ k, wide m = k := ⟨_, rfl⟩
    have hk8 := wide_pos m
    rw [hk] at hk8
    have HK := Lib.hid hk
    have HE := Lib.hid (show encN m = [UInt8.ofNat (128 + k)] ++ be k m by unfold encN; rw [if_neg h128, hk]; rfl)
    have hw8 : IntKind.u8.wrap (128 + (k : Int)) = 128 + (k : Int) := IntWalk.u8_in _ (by omega)
    have HQ := Lib.hid (show Value.int .u8 (128 + (k : Int)) = encB (UInt8.ofNat (128 + k)) from enc_of (by omega))
    have HO := Lib.hid h
    clear h h128 hk
    go_enter Try.func60, Try.ntmps60
    go_wp2_with (first
      | (go_at_call 74; refine (rwide_any m _ hm).mono ?_; rintro e w2 ⟨rfl, rfl⟩; rw [HK.out])
      | (at_builtin; refine wp_app (base := B) (w0 := w) rfl (.tmp 15) (.tmp 19) rfl (HO.out.alloc _) (lit_rc w 5 (0, 0) _ 1 rfl) ((Below.refl B w).alloc hB _) Try.underlying23 info_byte rfl rfl rfl (one_lit1 _) (by omega) (by omega) (by simp; omega) ?_; intro v3 w3 ho3 hq3 _ _; rw [show (#[Value.int .u8 (128 + (k : Int))] : Array Value).toList = [UInt8.ofNat (128 + k)].map encB from congrArg (· :: []) HQ.out, ← List.map_append] at ho3; have HO3 := Lib.hid ho3; have HB3 := Lib.hid hq3; clear ho3 hq3)
      | (go_at_call 99; refine (rfix_any B w3 v3 (xs.length + 1) (xs ++ [UInt8.ofNat (128 + k)]) m k w3 HO3.out (Below.refl _ _) (Nat.le_trans hB HB3.out.size) hk8.2 (by omega)).mono ?_; rintro e w4 ⟨v4, rfl, ho4, hb4⟩))
    go_ret
    rw [HE.out, ← List.append_assoc]
    exact ⟨_, rfl, ob_of ho4, HB3.out.trans hb4⟩
set_option maxRecDepth 20000 in
theorem rwF_any (B : Nat) (w : World) (v : Value) (xs : List UInt8) (f : Nat) (hf : f < 18446744073709551616) (h : OB w B v xs) (hB : B ≤ w.heap.size) (hx : xs.length ≤ 60000000000) :
    Calls Try.prog 62 #[v, .float .f64 f] w (OBPost w B (xs ++ be 8 (keyN f))) := by
  have hk := keyV_range f hf
  rw [← keyF_eq hf] at hk
  obtain ⟨K, hK⟩ : ∃ K : Nat, keyF f = (K : Int) := ⟨(keyF f).toNat, by omega⟩
  have HN := Lib.hid (show keyN f = K by unfold keyN; rw [hK]; rfl)
  rw [key_same hf] at hK
  have HK := Lib.hid hK
  have HO := Lib.hid h
  have hK64 : K < 18446744073709551616 := by have := HN.out; unfold keyN at this; omega
  clear hK hk h
  go_enter Try.func62, Try.ntmps62
  go_wp2_with (first
    | (go_at_call 100; refine (rkey_any _ _).mono ?_; rintro e w' ⟨rfl, rfl⟩; rw [HK.out])
    | (go_at_call 99; refine (rfix_any B w v xs.length xs K 8 w HO.out (Below.refl _ _) hB (by omega) (by omega)).mono ?_; rintro e w4 ⟨v4, rfl, ho4, hb4⟩))
  go_ret
  rw [HN.out]
  exact ⟨_, rfl, ob_of ho4, hb4⟩
set_option maxRecDepth 20000 in
theorem rwFlag_any (B : Nat) (w : World) (v : Value) (xs : List UInt8) (q : Bool) (h : OB w B v xs) (hB : B ≤ w.heap.size) (hx : xs.length ≤ 60000000000) :
    Calls Try.prog 64 #[v, .bool q] w (OBPost w B (xs ++ encN (if q = true then 1 else 0))) := by
  have HO := Lib.hid h
  clear h
  cases q with
  | true =>
    go_enter Try.func64, Try.ntmps64
    go_wp2_with (at_builtin; refine wp_app (base := B) (w0 := w) rfl (.tmp 6) (.tmp 7) rfl (HO.out.alloc _) (lit_rc w 5 (0, 0) _ 1 rfl) ((Below.refl B w).alloc hB _) Try.underlying23 info_byte rfl rfl rfl (one_lit1 _) (by omega) (by omega) (by simp; omega) ?_; intro v3 w3 ho3 hq3 _ _; rw [show (#[Value.int .u8 1] : Array Value).toList = [(1 : UInt8)].map encB from rfl, ← List.map_append] at ho3)
    go_ret
    exact ⟨_, rfl, ob_of ho3, hq3⟩
  | false =>
    go_enter Try.func64, Try.ntmps64
    go_wp2_with (at_builtin; refine wp_app (base := B) (w0 := w) rfl (.tmp 9) (.tmp 10) rfl (HO.out.alloc _) (lit_rc w 5 (0, 0) _ 1 rfl) ((Below.refl B w).alloc hB _) Try.underlying23 info_byte rfl rfl rfl (one_lit1 _) (by omega) (by omega) (by simp; omega) ?_; intro v3 w3 ho3 hq3 _ _; rw [show (#[Value.int .u8 0] : Array Value).toList = [(0 : UInt8)].map encB from rfl, ← List.map_append] at ho3)
    go_ret
    exact ⟨_, rfl, ob_of ho3, hq3⟩
set_option maxRecDepth 20000 in
theorem rwI_any (B : Nat) (w : World) (v : Value) (xs : List UInt8) (n : Int) (h : OB w B v xs) (hB : B ≤ w.heap.size) (hn0 : -9223372036854775808 ≤ n) (hn1 : n < 9223372036854775808) (hx : xs.length ≤ 60000000000) :
    Calls Try.prog 61 #[v, .int .i64 n] w (OBPost w B (xs ++ encN (zig n))) := by
  have HN := Lib.hid (rwN_any B w v xs (zig n) h hB (zig_lt hn0 hn1) hx)
  by_cases h0 : 0 ≤ n
  · have HZ := Lib.hid (show (zig n : Int) = n * 2 by unfold zig; rw [if_pos h0]; omega)
    have hw : IntKind.u64.wrap n = n := by rw [IntKind.wrap_u64]; omega
    have hw2 : IntKind.u64.wrap (n * 2) = n * 2 := by rw [IntKind.wrap_u64]; omega
    rw [HZ.out] at HN
    clear h
    go_enter Try.func61, Try.ntmps61
    go_wp2_with (go_at_call 60; refine HN.out.mono ?_; rintro e w4 ⟨v4, rfl, ho4, hb4⟩)
    go_ret
    exact ⟨_, rfl, ho4, hb4⟩
  · have HZ := Lib.hid (show (zig n : Int) = -(n + 1) * 2 + 1 by unfold zig; rw [if_neg h0]; omega)
    have hw0 : IntKind.i64.wrap (n + 1) = n + 1 := IntWalk.i64_in _ (by omega)
    have hw1 : IntKind.i64.wrap (-(n + 1)) = -(n + 1) := IntWalk.i64_in _ (by omega)
    have hw : IntKind.u64.wrap (-(n + 1)) = -(n + 1) := by rw [IntKind.wrap_u64]; omega
    have hw2 : IntKind.u64.wrap (-(n + 1) * 2) = -(n + 1) * 2 := by rw [IntKind.wrap_u64]; omega
    have hw3 : IntKind.u64.wrap (-(n + 1) * 2 + 1) = -(n + 1) * 2 + 1 := by rw [IntKind.wrap_u64]; omega
    rw [HZ.out] at HN
    clear h
    go_enter Try.func61, Try.ntmps61
    go_wp2_with (go_at_call 60; refine HN.out.mono ?_; rintro e w4 ⟨v4, rfl, ho4, hb4⟩)
    go_ret
    exact ⟨_, rfl, ho4, hb4⟩
set_option maxRecDepth 20000 in
theorem rwB_any (B : Nat) (w : World) (v : Value) (xs : List UInt8) (A : Option Addr) (n c : Nat) (bs : List UInt8) (h : OB w B v xs) (hB : B ≤ w.heap.size) (hb : Bs w A n bs) (hA : ∀ ad, A = some ad → bs ≠ [] → ad.block < B) (hn : n ≤ 60000000000) (hx : xs.length ≤ 60000000000) (hxn : xs.length + n ≤ 60000000000) :
    Calls Try.prog 63 #[v, .slice A n c] w (OBPost w B (xs ++ (encN n ++ bs))) := by
  have hw64 : IntKind.u64.wrap (n : Int) = (n : Int) := by rw [IntKind.wrap_u64]; omega
  have HN := Lib.hid (rwN_any B w v xs n h hB (by omega) hx)
  have HB := Lib.hid hb
  have hbl := hb.len
  clear h hb
  go_enter Try.func63, Try.ntmps63
  go_wp2_with (first
    | (go_at_call 60
       refine HN.out.mono ?_
       rintro e w2 ⟨v2, rfl, ho2, hb2⟩
       have HO2 := Lib.hid ho2
       have hR : Rc w2 A n (bs.map encB) := ⟨by simpa using hbl, HB.out.2.2.1, fun ad e j u hu => by
         have hne' : bs ≠ [] := by intro e; subst e; simp at hu
         have hc := HB.out.2.2.2 ad e j u hu
         have := hb2.block (ad.add j).block (by rw [add_block]; exact hA ad e hne')
         simpa [World.cell?, this] using hc⟩
       have HR := Lib.hid hR
       have HB2 := Lib.hid hb2
       have hl2 : (xs ++ encN n).length ≤ xs.length + 9 := by rw [List.length_append]; have := encN_le n; omega
       have HL2 := Lib.hid hl2
       clear ho2 hR hb2 hl2)
    | (at_builtin; refine wp_app (base := B) (w0 := w2) rfl (.tmp 9) (.tmp 10) rfl HO2.out HR.out (Below.refl B w2) Try.underlying23 info_byte rfl rfl rfl (one_bs _) (by have := HL2.out; omega) (by have := HL2.out; omega) (Nat.le_trans hB HB2.out.size) ?_; intro v3 w3 ho3 hq3 _ _; rw [← List.map_append] at ho3))
  go_ret
  rw [← List.append_assoc]
  exact ⟨_, rfl, ob_of ho3, HB2.out.trans hq3⟩
end Go.Proofs.Ytnolhnlhohpkpaa
