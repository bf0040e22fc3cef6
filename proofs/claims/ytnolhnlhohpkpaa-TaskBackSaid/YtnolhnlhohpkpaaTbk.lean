import Derived.Test.YtnolhnlhohpkpaaCdcV
import Derived.Test.YtnolhnlhohpkpaaTskI
import Derived.Test.YtnolhnlhohpkpaaTskA
import Derived.Test.YtnolhnlhohpkpaaGd
namespace Go.Proofs.Ytnolhnlhohpkpaa
open Go.RowKit Cdc
set_option linter.unusedVariables false
set_option linter.unusedSimpArgs false
set_option maxHeartbeats 4000000 in
set_option maxRecDepth 20000 in
theorem rwide_any (n : Nat) (w : World) (hn : n < 18446744073709551616) :
    Calls Try.prog 74 #[.int .u64 n] w fun e w' => e = .returned (.int .i64 (wide n)) ∧ w = w' := by
  go_enter Try.func74, Try.ntmps74
  go_wp2_with fail
  go_loop [3] (fun s3 => ∃ k : Nat, 1 ≤ k ∧ k ≤ wide n ∧ s3 = .int .i64 k) (fun s3 => 9 - (intOf s3).toNat)
  case atStart => exact ⟨1, by omega, (wide_pos n).1, rfl⟩
  case round =>
    obtain ⟨k, h1, h2, rfl⟩ := hrel
    have h8 : k = 1 ∨ k = 2 ∨ k = 3 ∨ k = 4 ∨ k = 5 ∨ k = 6 ∨ k = 7 ∨ k = 8 := by have := (wide_pos n).2; omega
    have n0 : (0 : Int) ≤ (n : Int) := by omega
    have H2 := Lib.hid h2
    clear h2
    rcases h8 with rfl | rfl | rfl | rfl | rfl | rfl | rfl | rfl
    · by_cases hlt : n < 256
      · have hb : (n : Int) < 256 := by omega
        have HW := Lib.hid (show wide n = 1 by have h3 : 1 ≤ wide n := H2.out; revert h3; unfold wide; (repeat' split) <;> omega)
        clear hlt
        go_wp2_with fail
        go_ret
        exact ⟨by rw [HW.out]; rfl, rfl⟩
      · have hb : ¬ (n : Int) < 256 := by omega
        have HW := Lib.hid (show 2 ≤ wide n by unfold wide; (repeat' split) <;> omega)
        clear hlt
        go_wp2_with fail
        go_round
        case rel => exact ⟨2, by omega, HW.out, rfl⟩
        case measure => simp [intOf]
    · by_cases hlt : n < 65536
      · have hb : (n : Int) < 65536 := by omega
        have HW := Lib.hid (show wide n = 2 by have h3 : 2 ≤ wide n := H2.out; revert h3; unfold wide; (repeat' split) <;> omega)
        clear hlt
        go_wp2_with fail
        go_ret
        exact ⟨by rw [HW.out]; rfl, rfl⟩
      · have hb : ¬ (n : Int) < 65536 := by omega
        have HW := Lib.hid (show 3 ≤ wide n by unfold wide; (repeat' split) <;> omega)
        clear hlt
        go_wp2_with fail
        go_round
        case rel => exact ⟨3, by omega, HW.out, rfl⟩
        case measure => simp [intOf]
    · by_cases hlt : n < 16777216
      · have hb : (n : Int) < 16777216 := by omega
        have HW := Lib.hid (show wide n = 3 by have h3 : 3 ≤ wide n := H2.out; revert h3; unfold wide; (repeat' split) <;> omega)
        clear hlt
        go_wp2_with fail
        go_ret
        exact ⟨by rw [HW.out]; rfl, rfl⟩
      · have hb : ¬ (n : Int) < 16777216 := by omega
        have HW := Lib.hid (show 4 ≤ wide n by unfold wide; (repeat' split) <;> omega)
        clear hlt
        go_wp2_with fail
        go_round
        case rel => exact ⟨4, by omega, HW.out, rfl⟩
        case measure => simp [intOf]
    · by_cases hlt : n < 4294967296
      · have hb : (n : Int) < 4294967296 := by omega
        have HW := Lib.hid (show wide n = 4 by have h3 : 4 ≤ wide n := H2.out; revert h3; unfold wide; (repeat' split) <;> omega)
        clear hlt
        go_wp2_with fail
        go_ret
        exact ⟨by rw [HW.out]; rfl, rfl⟩
      · have hb : ¬ (n : Int) < 4294967296 := by omega
        have HW := Lib.hid (show 5 ≤ wide n by unfold wide; (repeat' split) <;> omega)
        clear hlt
        go_wp2_with fail
        go_round
        case rel => exact ⟨5, by omega, HW.out, rfl⟩
        case measure => simp [intOf]
    · by_cases hlt : n < 1099511627776
      · have hb : (n : Int) < 1099511627776 := by omega
        have HW := Lib.hid (show wide n = 5 by have h3 : 5 ≤ wide n := H2.out; revert h3; unfold wide; (repeat' split) <;> omega)
        clear hlt
        go_wp2_with fail
        go_ret
        exact ⟨by rw [HW.out]; rfl, rfl⟩
      · have hb : ¬ (n : Int) < 1099511627776 := by omega
        have HW := Lib.hid (show 6 ≤ wide n by unfold wide; (repeat' split) <;> omega)
        clear hlt
        go_wp2_with fail
        go_round
        case rel => exact ⟨6, by omega, HW.out, rfl⟩
        case measure => simp [intOf]
    · by_cases hlt : n < 281474976710656
      · have hb : (n : Int) < 281474976710656 := by omega
        have HW := Lib.hid (show wide n = 6 by have h3 : 6 ≤ wide n := H2.out; revert h3; unfold wide; (repeat' split) <;> omega)
        clear hlt
        go_wp2_with fail
        go_ret
        exact ⟨by rw [HW.out]; rfl, rfl⟩
      · have hb : ¬ (n : Int) < 281474976710656 := by omega
        have HW := Lib.hid (show 7 ≤ wide n by unfold wide; (repeat' split) <;> omega)
        clear hlt
        go_wp2_with fail
        go_round
        case rel => exact ⟨7, by omega, HW.out, rfl⟩
        case measure => simp [intOf]
    · by_cases hlt : n < 72057594037927936
      · have hb : (n : Int) < 72057594037927936 := by omega
        have HW := Lib.hid (show wide n = 7 by have h3 : 7 ≤ wide n := H2.out; revert h3; unfold wide; (repeat' split) <;> omega)
        clear hlt
        go_wp2_with fail
        go_ret
        exact ⟨by rw [HW.out]; rfl, rfl⟩
      · have hb : ¬ (n : Int) < 72057594037927936 := by omega
        have HW := Lib.hid (show 8 ≤ wide n by unfold wide; (repeat' split) <;> omega)
        clear hlt
        go_wp2_with fail
        go_round
        case rel => exact ⟨8, by omega, HW.out, rfl⟩
        case measure => simp [intOf]
    · go_wp2_with fail
      go_ret
      exact ⟨by rw [show wide n = 8 by have := (wide_pos n).2; have := H2.out; omega]; rfl, rfl⟩
set_option maxHeartbeats 4000000 in
set_option maxRecDepth 20000 in
theorem rfix_any (base : Nat) (w0 : World) (v : Value) (n : Nat) (xs : List UInt8) (M sz : Nat) (w : World) (hown0 : w.ownsRow base 5 1 v n (xs.map encB)) (hb : Below base w0 w) (hbase : base ≤ w0.heap.size) (hsz : sz ≤ 8) (hn : n ≤ 70000000000) :
    Calls Try.prog 99 #[v, .int .u64 M, .int .i64 sz] w fun e w' => ∃ v', e = .returned v' ∧ w'.ownsRow base 5 1 v' (n + sz) ((xs ++ be sz M).map encB) ∧ Below base w0 w' := by
  have hlen : xs.length = n := by have := hown0.1; simpa using this
  go_enter Try.func99, Try.ntmps99
  go_wp2
  go_loopw [0, 7] (fun u i wr => ∃ r : Nat, r ≤ sz ∧ i = .int .i64 ((r : Int) - 1) ∧ ∃ pre : List UInt8, Hid (be sz M = pre ++ be r M) ∧ wr.ownsRow base 5 1 u (n + pre.length) ((xs ++ pre).map encB) ∧ Below base w0 wr) (fun _ i _ => (intOf i + 1).toNat)
  case atStart => exact ⟨sz, Nat.le_refl _, rfl, [], Lib.hid rfl, own_cast hown0 (by simp), hb⟩
  case round =>
    obtain ⟨r, hr, rfl, pre, HP, hown, hbel⟩ := hrel
    have hz := Nat.le_trans hbase hbel.size
    have hpl : pre.length ≤ 8 := by
      have := congrArg List.length HP.out
      rw [be_len, List.length_append] at this; omega
    have hr8 : r = 0 ∨ r = 1 ∨ r = 2 ∨ r = 3 ∨ r = 4 ∨ r = 5 ∨ r = 6 ∨ r = 7 ∨ r = 8 := by omega
    rcases hr8 with rfl | rfl | rfl | rfl | rfl | rfl | rfl | rfl | rfl
    · go_wp2
      go_ret
      exact ⟨_, rfl, own_len (own_cast hown (by rw [HP.out]; simp [be])) (by have := congrArg List.length HP.out; rw [be_len] at this; simp [be] at this; omega), hbel⟩
    · go_wp2_with (at_builtin; refine wp_app (base := base) rfl (.tmp 14) (.tmp 20) rfl (hown.alloc _) (lit_rc wr 5 (0, 0) _ 1 rfl) (hbel.alloc (by omega) _) Try.underlying23 info_byte rfl rfl rfl (one_lit1 _) (by omega) (by omega) (by simp; omega) ?_; intro v3 w3 ho3 hq3 _ _; replace ho3 := own_cast ho3 ((congrArg (List.map encB (xs ++ pre) ++ [·]) (enc_of (n := (M : Int) % 256) (m := M / 256 ^ 0) (by omega))).trans (List.map_append (l₂ := [UInt8.ofNat (M / 256 ^ 0)])).symm); rw [List.append_assoc] at ho3)
      go_roundw
      case rel => exact ⟨0, by omega, by go_num, pre ++ [UInt8.ofNat (M / 256 ^ 0)], Lib.hid (by rw [HP.out]; simp [be]), own_len ho3 (by simp; omega), hq3⟩
      case measure => simp [intOf]
    · go_wp2_with (at_builtin; refine wp_app (base := base) rfl (.tmp 14) (.tmp 20) rfl (hown.alloc _) (lit_rc wr 5 (0, 0) _ 1 rfl) (hbel.alloc (by omega) _) Try.underlying23 info_byte rfl rfl rfl (one_lit1 _) (by omega) (by omega) (by simp; omega) ?_; intro v3 w3 ho3 hq3 _ _; replace ho3 := own_cast ho3 ((congrArg (List.map encB (xs ++ pre) ++ [·]) (enc_of (n := (M : Int) / 256 % 256) (m := M / 256 ^ 1) (by omega))).trans (List.map_append (l₂ := [UInt8.ofNat (M / 256 ^ 1)])).symm); rw [List.append_assoc] at ho3)
      go_roundw
      case rel => exact ⟨1, by omega, by go_num, pre ++ [UInt8.ofNat (M / 256 ^ 1)], Lib.hid (by rw [HP.out]; simp [be]), own_len ho3 (by simp; omega), hq3⟩
      case measure => simp [intOf]
    · go_wp2_with (at_builtin; refine wp_app (base := base) rfl (.tmp 14) (.tmp 20) rfl (hown.alloc _) (lit_rc wr 5 (0, 0) _ 1 rfl) (hbel.alloc (by omega) _) Try.underlying23 info_byte rfl rfl rfl (one_lit1 _) (by omega) (by omega) (by simp; omega) ?_; intro v3 w3 ho3 hq3 _ _; replace ho3 := own_cast ho3 ((congrArg (List.map encB (xs ++ pre) ++ [·]) (enc_of (n := (M : Int) / 65536 % 256) (m := M / 256 ^ 2) (by omega))).trans (List.map_append (l₂ := [UInt8.ofNat (M / 256 ^ 2)])).symm); rw [List.append_assoc] at ho3)
      go_roundw
      case rel => exact ⟨2, by omega, by go_num, pre ++ [UInt8.ofNat (M / 256 ^ 2)], Lib.hid (by rw [HP.out]; simp [be]), own_len ho3 (by simp; omega), hq3⟩
      case measure => simp [intOf]
    · go_wp2_with (at_builtin; refine wp_app (base := base) rfl (.tmp 14) (.tmp 20) rfl (hown.alloc _) (lit_rc wr 5 (0, 0) _ 1 rfl) (hbel.alloc (by omega) _) Try.underlying23 info_byte rfl rfl rfl (one_lit1 _) (by omega) (by omega) (by simp; omega) ?_; intro v3 w3 ho3 hq3 _ _; replace ho3 := own_cast ho3 ((congrArg (List.map encB (xs ++ pre) ++ [·]) (enc_of (n := (M : Int) / 16777216 % 256) (m := M / 256 ^ 3) (by omega))).trans (List.map_append (l₂ := [UInt8.ofNat (M / 256 ^ 3)])).symm); rw [List.append_assoc] at ho3)
      go_roundw
      case rel => exact ⟨3, by omega, by go_num, pre ++ [UInt8.ofNat (M / 256 ^ 3)], Lib.hid (by rw [HP.out]; simp [be]), own_len ho3 (by simp; omega), hq3⟩
      case measure => simp [intOf]
    · go_wp2_with (at_builtin; refine wp_app (base := base) rfl (.tmp 14) (.tmp 20) rfl (hown.alloc _) (lit_rc wr 5 (0, 0) _ 1 rfl) (hbel.alloc (by omega) _) Try.underlying23 info_byte rfl rfl rfl (one_lit1 _) (by omega) (by omega) (by simp; omega) ?_; intro v3 w3 ho3 hq3 _ _; replace ho3 := own_cast ho3 ((congrArg (List.map encB (xs ++ pre) ++ [·]) (enc_of (n := (M : Int) / 4294967296 % 256) (m := M / 256 ^ 4) (by omega))).trans (List.map_append (l₂ := [UInt8.ofNat (M / 256 ^ 4)])).symm); rw [List.append_assoc] at ho3)
      go_roundw
      case rel => exact ⟨4, by omega, by go_num, pre ++ [UInt8.ofNat (M / 256 ^ 4)], Lib.hid (by rw [HP.out]; simp [be]), own_len ho3 (by simp; omega), hq3⟩
      case measure => simp [intOf]
    · go_wp2_with (at_builtin; refine wp_app (base := base) rfl (.tmp 14) (.tmp 20) rfl (hown.alloc _) (lit_rc wr 5 (0, 0) _ 1 rfl) (hbel.alloc (by omega) _) Try.underlying23 info_byte rfl rfl rfl (one_lit1 _) (by omega) (by omega) (by simp; omega) ?_; intro v3 w3 ho3 hq3 _ _; replace ho3 := own_cast ho3 ((congrArg (List.map encB (xs ++ pre) ++ [·]) (enc_of (n := (M : Int) / 1099511627776 % 256) (m := M / 256 ^ 5) (by omega))).trans (List.map_append (l₂ := [UInt8.ofNat (M / 256 ^ 5)])).symm); rw [List.append_assoc] at ho3)
      go_roundw
      case rel => exact ⟨5, by omega, by go_num, pre ++ [UInt8.ofNat (M / 256 ^ 5)], Lib.hid (by rw [HP.out]; simp [be]), own_len ho3 (by simp; omega), hq3⟩
      case measure => simp [intOf]
    · go_wp2_with (at_builtin; refine wp_app (base := base) rfl (.tmp 14) (.tmp 20) rfl (hown.alloc _) (lit_rc wr 5 (0, 0) _ 1 rfl) (hbel.alloc (by omega) _) Try.underlying23 info_byte rfl rfl rfl (one_lit1 _) (by omega) (by omega) (by simp; omega) ?_; intro v3 w3 ho3 hq3 _ _; replace ho3 := own_cast ho3 ((congrArg (List.map encB (xs ++ pre) ++ [·]) (enc_of (n := (M : Int) / 281474976710656 % 256) (m := M / 256 ^ 6) (by omega))).trans (List.map_append (l₂ := [UInt8.ofNat (M / 256 ^ 6)])).symm); rw [List.append_assoc] at ho3)
      go_roundw
      case rel => exact ⟨6, by omega, by go_num, pre ++ [UInt8.ofNat (M / 256 ^ 6)], Lib.hid (by rw [HP.out]; simp [be]), own_len ho3 (by simp; omega), hq3⟩
      case measure => simp [intOf]
    · go_wp2_with (at_builtin; refine wp_app (base := base) rfl (.tmp 14) (.tmp 20) rfl (hown.alloc _) (lit_rc wr 5 (0, 0) _ 1 rfl) (hbel.alloc (by omega) _) Try.underlying23 info_byte rfl rfl rfl (one_lit1 _) (by omega) (by omega) (by simp; omega) ?_; intro v3 w3 ho3 hq3 _ _; replace ho3 := own_cast ho3 ((congrArg (List.map encB (xs ++ pre) ++ [·]) (enc_of (n := (M : Int) / 72057594037927936 % 256) (m := M / 256 ^ 7) (by omega))).trans (List.map_append (l₂ := [UInt8.ofNat (M / 256 ^ 7)])).symm); rw [List.append_assoc] at ho3)
      go_roundw
      case rel => exact ⟨7, by omega, by go_num, pre ++ [UInt8.ofNat (M / 256 ^ 7)], Lib.hid (by rw [HP.out]; simp [be]), own_len ho3 (by simp; omega), hq3⟩
      case measure => simp [intOf]
end Go.Proofs.Ytnolhnlhohpkpaa
namespace Go.Proofs.Ytnolhnlhohpkpaa
open Go.RowKit Cdc
set_option linter.unusedVariables false
set_option linter.unusedSimpArgs false
/-- Bytes of one's own. -/
def OB (w : World) (B : Nat) (v : Value) (xs : List UInt8) : Prop := w.ownsRow B 5 1 v xs.length (xs.map encB)
set_option maxRecDepth 20000 in
theorem ob_of {w : World} {B n : Nat} {v : Value} {xs : List UInt8} (h : w.ownsRow B 5 1 v n (xs.map encB)) : OB w B v xs := own_len h (by have := h.1; simp at this; omega)
def OBPost (w : World) (B : Nat) (xs : List UInt8) (e : Ending) (w' : World) : Prop := ∃ v', e = .returned v' ∧ OB w' B v' xs ∧ Below B w w'
set_option maxRecDepth 20000 in
theorem rwN_any (B : Nat) (w : World) (v : Value) (xs : List UInt8) (m : Nat) (h : OB w B v xs) (hB : B ≤ w.heap.size) (hm : m < 18446744073709551616) (hx : xs.length ≤ 60000000000) :
    Calls Try.prog 60 #[v, .int .u64 m] w (OBPost w B (xs ++ encN m)) := by
  by_cases h128 : m < 128
  · have h128' : (m : Int) < 128 := by omega
    have hw8 : IntKind.u8.wrap (m : Int) = (m : Int) := IntWalk.u8_in _ (by omega)
    have HE := Lib.hid (show encN m = [UInt8.ofNat m] by unfold encN; rw [if_pos h128])
    have HQ := Lib.hid (show Value.int .u8 (m : Int) = encB (UInt8.ofNat m) from enc_of (by omega))
    have HO := Lib.hid h
    clear h h128
    go_enter Try.func60, Try.ntmps60
    go_wp2_with (at_builtin; refine wp_app (base := B) (w0 := w) rfl (.tmp 8) (.tmp 11) rfl (HO.out.alloc _) (lit_rc w 5 (0, 0) _ 1 rfl) ((Below.refl B w).alloc hB _) Try.underlying23 info_byte rfl rfl rfl (one_lit1 _) (by omega) (by omega) (by simp; omega) ?_; intro v3 w3 ho3 hq3 _ _; rw [show (#[Value.int .u8 (m : Int)] : Array Value).toList = [UInt8.ofNat m].map encB from congrArg (· :: []) HQ.out, ← List.map_append] at ho3)
    go_ret
    rw [HE.out]
    exact ⟨_, rfl, ob_of ho3, hq3⟩
  · have h128' : ¬ (m : Int) < 128 := by omega
    obtain ⟨k, hk⟩ : ∃ k, wide m = k := ⟨_, rfl⟩
    have hk8 := wide_pos m
    rw [hk] at hk8
    have HK := Lib.hid hk
    have HE := Lib.hid (show encN m = [UInt8.ofNat (128 + k)] ++ be k m by unfold encN; rw [if_neg h128, hk]; rfl)
    have hw8 : IntKind.u8.wrap (128 + (k : Int)) = 128 + (k : Int) := IntWalk.u8_in _ (by omega)
    have HQ := Lib.hid (show Value.int .u8 (128 + (k : Int)) = encB (UInt8.ofNat (128 + k)) from enc_of (by omega))
    have HO := Lib.hid h
    clear h h128 hk
    go_enter Try.func60, Try.ntmps60
    go_wp2_with (first
      | (go_at_call 74; refine (rwide_any m _ hm).mono ?_; rintro e w2 ⟨rfl, rfl⟩; rw [HK.out])
      | (at_builtin; refine wp_app (base := B) (w0 := w) rfl (.tmp 15) (.tmp 19) rfl (HO.out.alloc _) (lit_rc w 5 (0, 0) _ 1 rfl) ((Below.refl B w).alloc hB _) Try.underlying23 info_byte rfl rfl rfl (one_lit1 _) (by omega) (by omega) (by simp; omega) ?_; intro v3 w3 ho3 hq3 _ _; rw [show (#[Value.int .u8 (128 + (k : Int))] : Array Value).toList = [UInt8.ofNat (128 + k)].map encB from congrArg (· :: []) HQ.out, ← List.map_append] at ho3; have HO3 := Lib.hid ho3; have HB3 := Lib.hid hq3; clear ho3 hq3)
      | (go_at_call 99; refine (rfix_any B w3 v3 (xs.length + 1) (xs ++ [UInt8.ofNat (128 + k)]) m k w3 HO3.out (Below.refl _ _) (Nat.le_trans hB HB3.out.size) hk8.2 (by omega)).mono ?_; rintro e w4 ⟨v4, rfl, ho4, hb4⟩))
    go_ret
    rw [HE.out, ← List.append_assoc]
    exact ⟨_, rfl, ob_of ho4, HB3.out.trans hb4⟩
set_option maxRecDepth 20000 in
theorem rwF_any (B : Nat) (w : World) (v : Value) (xs : List UInt8) (f : Nat) (hf : f < 18446744073709551616) (h : OB w B v xs) (hB : B ≤ w.heap.size) (hx : xs.length ≤ 60000000000) :
    Calls Try.prog 62 #[v, .float .f64 f] w (OBPost w B (xs ++ be 8 (keyN f))) := by
  have hk := keyV_range f hf
  rw [← keyF_eq hf] at hk
  obtain ⟨K, hK⟩ : ∃ K : Nat, keyF f = (K : Int) := ⟨(keyF f).toNat, by omega⟩
  have HN := Lib.hid (show keyN f = K by unfold keyN; rw [hK]; rfl)
  rw [key_same hf] at hK
  have HK := Lib.hid hK
  have HO := Lib.hid h
  have hK64 : K < 18446744073709551616 := by have := HN.out; unfold keyN at this; omega
  clear hK hk h
  go_enter Try.func62, Try.ntmps62
  go_wp2_with (first
    | (go_at_call 100; refine (rkey_any _ _).mono ?_; rintro e w' ⟨rfl, rfl⟩; rw [HK.out])
    | (go_at_call 99; refine (rfix_any B w v xs.length xs K 8 w HO.out (Below.refl _ _) hB (by omega) (by omega)).mono ?_; rintro e w4 ⟨v4, rfl, ho4, hb4⟩))
  go_ret
  rw [HN.out]
  exact ⟨_, rfl, ob_of ho4, hb4⟩
set_option maxRecDepth 20000 in
theorem rwFlag_any (B : Nat) (w : World) (v : Value) (xs : List UInt8) (q : Bool) (h : OB w B v xs) (hB : B ≤ w.heap.size) (hx : xs.length ≤ 60000000000) :
    Calls Try.prog 64 #[v, .bool q] w (OBPost w B (xs ++ encN (if q = true then 1 else 0))) := by
  have HO := Lib.hid h
  clear h
  cases q with
  | true =>
    go_enter Try.func64, Try.ntmps64
    go_wp2_with (at_builtin; refine wp_app (base := B) (w0 := w) rfl (.tmp 6) (.tmp 7) rfl (HO.out.alloc _) (lit_rc w 5 (0, 0) _ 1 rfl) ((Below.refl B w).alloc hB _) Try.underlying23 info_byte rfl rfl rfl (one_lit1 _) (by omega) (by omega) (by simp; omega) ?_; intro v3 w3 ho3 hq3 _ _; rw [show (#[Value.int .u8 1] : Array Value).toList = [(1 : UInt8)].map encB from rfl, ← List.map_append] at ho3)
    go_ret
    exact ⟨_, rfl, ob_of ho3, hq3⟩
  | false =>
    go_enter Try.func64, Try.ntmps64
    go_wp2_with (at_builtin; refine wp_app (base := B) (w0 := w) rfl (.tmp 9) (.tmp 10) rfl (HO.out.alloc _) (lit_rc w 5 (0, 0) _ 1 rfl) ((Below.refl B w).alloc hB _) Try.underlying23 info_byte rfl rfl rfl (one_lit1 _) (by omega) (by omega) (by simp; omega) ?_; intro v3 w3 ho3 hq3 _ _; rw [show (#[Value.int .u8 0] : Array Value).toList = [(0 : UInt8)].map encB from rfl, ← List.map_append] at ho3)
    go_ret
    exact ⟨_, rfl, ob_of ho3, hq3⟩
set_option maxRecDepth 20000 in
theorem rwI_any (B : Nat) (w : World) (v : Value) (xs : List UInt8) (n : Int) (h : OB w B v xs) (hB : B ≤ w.heap.size) (hn0 : -9223372036854775808 ≤ n) (hn1 : n < 9223372036854775808) (hx : xs.length ≤ 60000000000) :
    Calls Try.prog 61 #[v, .int .i64 n] w (OBPost w B (xs ++ encN (zig n))) := by
  have HN := Lib.hid (rwN_any B w v xs (zig n) h hB (zig_lt hn0 hn1) hx)
  by_cases h0 : 0 ≤ n
  · have HZ := Lib.hid (show (zig n : Int) = n * 2 by unfold zig; rw [if_pos h0]; omega)
    have hw : IntKind.u64.wrap n = n := by rw [IntKind.wrap_u64]; omega
    have hw2 : IntKind.u64.wrap (n * 2) = n * 2 := by rw [IntKind.wrap_u64]; omega
    rw [HZ.out] at HN
    clear h
    go_enter Try.func61, Try.ntmps61
    go_wp2_with (go_at_call 60; refine HN.out.mono ?_; rintro e w4 ⟨v4, rfl, ho4, hb4⟩)
    go_ret
    exact ⟨_, rfl, ho4, hb4⟩
  · have HZ := Lib.hid (show (zig n : Int) = -(n + 1) * 2 + 1 by unfold zig; rw [if_neg h0]; omega)
    have hw0 : IntKind.i64.wrap (n + 1) = n + 1 := IntWalk.i64_in _ (by omega)
    have hw1 : IntKind.i64.wrap (-(n + 1)) = -(n + 1) := IntWalk.i64_in _ (by omega)
    have hw : IntKind.u64.wrap (-(n + 1)) = -(n + 1) := by rw [IntKind.wrap_u64]; omega
    have hw2 : IntKind.u64.wrap (-(n + 1) * 2) = -(n + 1) * 2 := by rw [IntKind.wrap_u64]; omega
    have hw3 : IntKind.u64.wrap (-(n + 1) * 2 + 1) = -(n + 1) * 2 + 1 := by rw [IntKind.wrap_u64]; omega
    rw [HZ.out] at HN
    clear h
    go_enter Try.func61, Try.ntmps61
    go_wp2_with (go_at_call 60; refine HN.out.mono ?_; rintro e w4 ⟨v4, rfl, ho4, hb4⟩)
    go_ret
    exact ⟨_, rfl, ho4, hb4⟩
set_option maxRecDepth 20000 in
theorem rwB_any (B : Nat) (w : World) (v : Value) (xs : List UInt8) (A : Option Addr) (n c : Nat) (bs : List UInt8) (h : OB w B v xs) (hB : B ≤ w.heap.size) (hb : Bs w A n bs) (hA : ∀ ad, A = some ad → bs ≠ [] → ad.block < B) (hn : n ≤ 60000000000) (hx : xs.length ≤ 60000000000) (hxn : xs.length + n ≤ 60000000000) :
    Calls Try.prog 63 #[v, .slice A n c] w (OBPost w B (xs ++ (encN n ++ bs))) := by
  have hw64 : IntKind.u64.wrap (n : Int) = (n : Int) := by rw [IntKind.wrap_u64]; omega
  have HN := Lib.hid (rwN_any B w v xs n h hB (by omega) hx)
  have HB := Lib.hid hb
  have hbl := hb.len
  clear h hb
  go_enter Try.func63, Try.ntmps63
  go_wp2_with (first
    | (go_at_call 60
       refine HN.out.mono ?_
       rintro e w2 ⟨v2, rfl, ho2, hb2⟩
       have HO2 := Lib.hid ho2
       have hR : Rc w2 A n (bs.map encB) := ⟨by simpa using hbl, HB.out.2.2.1, fun ad e j u hu => by
         have hne' : bs ≠ [] := by intro e; subst e; simp at hu
         have hc := HB.out.2.2.2 ad e j u hu
         have := hb2.block (ad.add j).block (by rw [add_block]; exact hA ad e hne')
         simpa [World.cell?, this] using hc⟩
       have HR := Lib.hid hR
       have HB2 := Lib.hid hb2
       have hl2 : (xs ++ encN n).length ≤ xs.length + 9 := by rw [List.length_append]; have := encN_le n; omega
       have HL2 := Lib.hid hl2
       clear ho2 hR hb2 hl2)
    | (at_builtin; refine wp_app (base := B) (w0 := w2) rfl (.tmp 9) (.tmp 10) rfl HO2.out HR.out (Below.refl B w2) Try.underlying23 info_byte rfl rfl rfl (one_bs _) (by have := HL2.out; omega) (by have := HL2.out; omega) (Nat.le_trans hB HB2.out.size) ?_; intro v3 w3 ho3 hq3 _ _; rw [← List.map_append] at ho3))
  go_ret
  rw [← List.append_assoc]
  exact ⟨_, rfl, ob_of ho3, HB2.out.trans hq3⟩
end Go.Proofs.Ytnolhnlhohpkpaa
namespace Go.Proofs.Ytnolhnlhohpkpaa
open Go.RowKit Cdc
set_option linter.unusedVariables false
set_option linter.unusedSimpArgs false
set_option maxHeartbeats 4000000 in
set_option maxRecDepth 20000 in
theorem rput_any (w : World) (A : Option Addr) (n c : Nat) (l : List PartT) (hl : Rows w anyB PART A n l) (hn : n ≤ 90) (hb : ∀ x ∈ l, x.2.2.2.2.1.length ≤ 1000) :
    Calls Try.prog 15 #[.slice A n c] w (OBPost w w.heap.size (encParts keyN l)) := by
  replace hl := hl.weak (ok' := fun k => k < w.heap.size) (fun k _ hlt => hlt)
  go_enter Try.func15, Try.ntmps15
  go_wp2_with fail
  go_loopw [3, 8] (fun s3 s8 wr => ∃ (i : Nat) (v : Value), i ≤ n ∧ v = s3 ∧ s8 = .int .i64 i ∧ OB wr w.heap.size v (encParts keyN (l.take i)) ∧ Below w.heap.size w wr) (fun _ s8 _ => n - (intOf s8).toNat)
  case atStart => exact ⟨0, _, by omega, rfl, rfl, ob_of (own_nil _ _ _ _), Below.refl _ _⟩
  case round =>
    obtain ⟨i, v, hi, rfl, rfl, hO, hbel⟩ := hrel
    have hll := hl.1
    have hel := encParts_le (l.take i) (fun x hx => hb x (List.mem_of_mem_take hx))
    rw [List.length_take, Nat.min_eq_left (by omega)] at hel
    by_cases hlt : i < n
    · obtain ⟨x, hx⟩ : ∃ x, l[i]? = some x := ⟨l[i]'(by omega), List.getElem?_eq_getElem (by omega)⟩
      obtain ⟨ad, rfl⟩ : ∃ ad, A = some ad := by cases A with
        | none => exact absurd (hl.2.1 rfl) (by omega)
        | some ad => exact ⟨ad, rfl⟩
      obtain ⟨cs, _, hat, hrd⟩ := hl.2.2 ad rfl i x hx
      have i0 : (0 : Int) ≤ (i : Int) := by omega
      have i1 : (i : Int) < (n : Int) := by omega
      have HAt := Lib.hid (hat.add.below hbel)
      have hbx := hb x (List.mem_of_getElem? hx)
      have HN := Lib.hid (show encParts keyN (l.take (i + 1)) = encParts keyN (l.take i) ++ encPart keyN x by rw [take_at hx, encParts_snoc])
      obtain ⟨k, nn, ii, f, bs, q, bv, rfl, rfl, hk, hok, h5⟩ := rd_part hrd
      have hbi : ∀ ad', bs ≠ [] → (∃ n c, bv = .slice (some ad') n c) → ad'.block < w.heap.size := by
        rintro ad' hne ⟨n', c', rfl⟩
        obtain ⟨A', n2, c2, e, _, _, _, hr⟩ := rd_sl.1 h5
        injection e with e _
        injection e with e1 e2 e3
        subst e1
        cases bs with
        | nil => exact absurd rfl hne
        | cons b0 bs0 =>
          obtain ⟨cs0, g0, _, g2⟩ := hr.2.2 ad' rfl 0 b0 rfl
          refine g0 ?_
          intro e
          have hg2 := g2.len
          rw [e] at hg2
          simp [Sh.size] at hg2
      obtain ⟨Ab, cb, rfl, _, _, _, hbs⟩ := rd_bs h5
      have HBI := Lib.hid (show ∀ ad', Ab = some ad' → bs ≠ [] → ad'.block < w.heap.size from fun ad' e hne => hbi ad' hne ⟨_, _, by rw [e]⟩)
      have HBs := Lib.hid hbs
      have HO := Lib.hid hO
      have hwz := hbel.size
      have hbl : bs.length ≤ 1000 := hbx
      obtain ⟨o1, o2, o3, o4, o5⟩ := hok
      simp only at o1 o2 o3 o4 o5
      obtain ⟨zs, hz⟩ : ∃ zs, encParts keyN (l.take i) = zs := ⟨_, rfl⟩
      rw [hz] at HO HN hel
      have HEL := Lib.hid hel
      clear hat hrd hx hk h5 hbs hO hz hbx hel hbi
      by_cases k1 : k = 1
      · subst k1
        obtain ⟨m, rfl⟩ : ∃ m : Nat, nn = (m : Int) := ⟨nn.toNat, by omega⟩
        have HE := Lib.hid (show encPart keyN (1, (m : Int), ii, f, bs, q, ()) = encN m from rfl)
        go_wp2_with (first
          | (refine wpL_load rfl 39 (.tmp 10) rfl _ rfl _ _ HAt.out Try.underlying39 rfl rfl ?_)
          | (refine wpL_store rfl 39 (.tmp 5) (.tmp 11) rfl wr.heap.size rfl _ _ 39 rfl (heap_alloc_new wr _) rfl rfl (by intro v hv; simp at hv; rcases hv with rfl | rfl | rfl | rfl | rfl | rfl <;> rfl) ?_
             intro w1 hc1 hg1
             have hbw1 : Below wr.heap.size wr w1 := (below_alloc1 wr _).grown hg1 (by simp) (fun k e => by cases e; exact Nat.le_refl _)
             obtain ⟨c0, c1, c2, c3, c4, c5⟩ := blk6 hc1
             have HO1 := Lib.hid (show OB w1 w.heap.size v zs from own_below HO.out hbw1)
             have HB1 := Lib.hid (hbel.trans (hbw1.mono hwz))
             have HBs1 := Lib.hid ((HBs.out.below hbel).below hbw1)
             have hs1 := HB1.out.size
             clear hc1 hg1 hbw1)
          | (go_at_call 60
             refine (rwN_any w.heap.size w1 v zs m HO1.out hs1 (by omega) (by have := HEL.out; omega)).mono ?_
             rintro e w2 ⟨v2, rfl, hO2, hb2⟩
             have HO2 := Lib.hid hO2
             have HB2 := Lib.hid (HB1.out.trans hb2)
             clear hO2 hb2))
        go_roundw
        case measure => simp [intOf]; omega
        case rel => exact ⟨i + 1, _, by omega, rfl, by go_num, by rw [HN.out, HE.out]; exact HO2.out, HB2.out⟩
      by_cases k2 : k = 2
      · subst k2
        have HE := Lib.hid (show encPart keyN (2, nn, ii, f, bs, q, ()) = encN (zig ii) from rfl)
        go_wp2_with (first
          | (refine wpL_load rfl 39 (.tmp 10) rfl _ rfl _ _ HAt.out Try.underlying39 rfl rfl ?_)
          | (refine wpL_store rfl 39 (.tmp 5) (.tmp 11) rfl wr.heap.size rfl _ _ 39 rfl (heap_alloc_new wr _) rfl rfl (by intro v hv; simp at hv; rcases hv with rfl | rfl | rfl | rfl | rfl | rfl <;> rfl) ?_
             intro w1 hc1 hg1
             have hbw1 : Below wr.heap.size wr w1 := (below_alloc1 wr _).grown hg1 (by simp) (fun k e => by cases e; exact Nat.le_refl _)
             obtain ⟨c0, c1, c2, c3, c4, c5⟩ := blk6 hc1
             have HO1 := Lib.hid (show OB w1 w.heap.size v zs from own_below HO.out hbw1)
             have HB1 := Lib.hid (hbel.trans (hbw1.mono hwz))
             have HBs1 := Lib.hid ((HBs.out.below hbel).below hbw1)
             have hs1 := HB1.out.size
             clear hc1 hg1 hbw1)
          | (go_at_call 61
             refine (rwI_any w.heap.size w1 v zs ii HO1.out hs1 o3 o4 (by have := HEL.out; omega)).mono ?_
             rintro e w2 ⟨v2, rfl, hO2, hb2⟩
             have HO2 := Lib.hid hO2
             have HB2 := Lib.hid (HB1.out.trans hb2)
             clear hO2 hb2))
        go_roundw
        case measure => simp [intOf]; omega
        case rel => exact ⟨i + 1, _, by omega, rfl, by go_num, by rw [HN.out, HE.out]; exact HO2.out, HB2.out⟩
      by_cases k3 : k = 3
      · subst k3
        have HE := Lib.hid (show encPart keyN (3, nn, ii, f, bs, q, ()) = be 8 (keyN f) from rfl)
        go_wp2_with (first
          | (refine wpL_load rfl 39 (.tmp 10) rfl _ rfl _ _ HAt.out Try.underlying39 rfl rfl ?_)
          | (refine wpL_store rfl 39 (.tmp 5) (.tmp 11) rfl wr.heap.size rfl _ _ 39 rfl (heap_alloc_new wr _) rfl rfl (by intro v hv; simp at hv; rcases hv with rfl | rfl | rfl | rfl | rfl | rfl <;> rfl) ?_
             intro w1 hc1 hg1
             have hbw1 : Below wr.heap.size wr w1 := (below_alloc1 wr _).grown hg1 (by simp) (fun k e => by cases e; exact Nat.le_refl _)
             obtain ⟨c0, c1, c2, c3, c4, c5⟩ := blk6 hc1
             have HO1 := Lib.hid (show OB w1 w.heap.size v zs from own_below HO.out hbw1)
             have HB1 := Lib.hid (hbel.trans (hbw1.mono hwz))
             have HBs1 := Lib.hid ((HBs.out.below hbel).below hbw1)
             have hs1 := HB1.out.size
             clear hc1 hg1 hbw1)
          | (go_at_call 62
             refine (rwF_any w.heap.size w1 v zs f o5 HO1.out hs1 (by have := HEL.out; omega)).mono ?_
             rintro e w2 ⟨v2, rfl, hO2, hb2⟩
             have HO2 := Lib.hid hO2
             have HB2 := Lib.hid (HB1.out.trans hb2)
             clear hO2 hb2))
        go_roundw
        case measure => simp [intOf]; omega
        case rel => exact ⟨i + 1, _, by omega, rfl, by go_num, by rw [HN.out, HE.out]; exact HO2.out, HB2.out⟩
      by_cases k4 : k = 4
      · subst k4
        have HE := Lib.hid (show encPart keyN (4, nn, ii, f, bs, q, ()) = encN bs.length ++ bs from rfl)
        go_wp2_with (first
          | (refine wpL_load rfl 39 (.tmp 10) rfl _ rfl _ _ HAt.out Try.underlying39 rfl rfl ?_)
          | (refine wpL_store rfl 39 (.tmp 5) (.tmp 11) rfl wr.heap.size rfl _ _ 39 rfl (heap_alloc_new wr _) rfl rfl (by intro v hv; simp at hv; rcases hv with rfl | rfl | rfl | rfl | rfl | rfl <;> rfl) ?_
             intro w1 hc1 hg1
             have hbw1 : Below wr.heap.size wr w1 := (below_alloc1 wr _).grown hg1 (by simp) (fun k e => by cases e; exact Nat.le_refl _)
             obtain ⟨c0, c1, c2, c3, c4, c5⟩ := blk6 hc1
             have HO1 := Lib.hid (show OB w1 w.heap.size v zs from own_below HO.out hbw1)
             have HB1 := Lib.hid (hbel.trans (hbw1.mono hwz))
             have HBs1 := Lib.hid ((HBs.out.below hbel).below hbw1)
             have hs1 := HB1.out.size
             clear hc1 hg1 hbw1)
          | (go_at_call 63
             refine (rwB_any w.heap.size w1 v zs Ab bs.length cb bs HO1.out hs1 HBs1.out HBI.out (by omega) (by have := HEL.out; omega) (by have := HEL.out; omega)).mono ?_
             rintro e w2 ⟨v2, rfl, hO2, hb2⟩
             have HO2 := Lib.hid hO2
             have HB2 := Lib.hid (HB1.out.trans hb2)
             clear hO2 hb2))
        go_roundw
        case measure => simp [intOf]; omega
        case rel => exact ⟨i + 1, _, by omega, rfl, by go_num, by rw [HN.out, HE.out]; exact HO2.out, HB2.out⟩
      by_cases k5 : k = 5
      · subst k5
        have HE := Lib.hid (show encPart keyN (5, nn, ii, f, bs, q, ()) = encN (if q = true then 1 else 0) from rfl)
        go_wp2_with (first
          | (refine wpL_load rfl 39 (.tmp 10) rfl _ rfl _ _ HAt.out Try.underlying39 rfl rfl ?_)
          | (refine wpL_store rfl 39 (.tmp 5) (.tmp 11) rfl wr.heap.size rfl _ _ 39 rfl (heap_alloc_new wr _) rfl rfl (by intro v hv; simp at hv; rcases hv with rfl | rfl | rfl | rfl | rfl | rfl <;> rfl) ?_
             intro w1 hc1 hg1
             have hbw1 : Below wr.heap.size wr w1 := (below_alloc1 wr _).grown hg1 (by simp) (fun k e => by cases e; exact Nat.le_refl _)
             obtain ⟨c0, c1, c2, c3, c4, c5⟩ := blk6 hc1
             have HO1 := Lib.hid (show OB w1 w.heap.size v zs from own_below HO.out hbw1)
             have HB1 := Lib.hid (hbel.trans (hbw1.mono hwz))
             have HBs1 := Lib.hid ((HBs.out.below hbel).below hbw1)
             have hs1 := HB1.out.size
             clear hc1 hg1 hbw1)
          | (go_at_call 64
             refine (rwFlag_any w.heap.size w1 v zs q HO1.out hs1 (by have := HEL.out; omega)).mono ?_
             rintro e w2 ⟨v2, rfl, hO2, hb2⟩
             have HO2 := Lib.hid hO2
             have HB2 := Lib.hid (HB1.out.trans hb2)
             clear hO2 hb2))
        go_roundw
        case measure => simp [intOf]; omega
        case rel => exact ⟨i + 1, _, by omega, rfl, by go_num, by rw [HN.out, HE.out]; exact HO2.out, HB2.out⟩
      have HE := Lib.hid (show encPart keyN (k, nn, ii, f, bs, q, ()) = [] by unfold encPart; rw [if_neg k1, if_neg k2, if_neg k3, if_neg k4, if_neg k5])
      have b1 : (k == 1) = false := beq_eq_false_iff_ne.2 k1
      have b2 : (k == 2) = false := beq_eq_false_iff_ne.2 k2
      have b3 : (k == 3) = false := beq_eq_false_iff_ne.2 k3
      have b4 : (k == 4) = false := beq_eq_false_iff_ne.2 k4
      have b5 : (k == 5) = false := beq_eq_false_iff_ne.2 k5
      go_wp2_with (first
        | (refine wpL_load rfl 39 (.tmp 10) rfl _ rfl _ _ HAt.out Try.underlying39 rfl rfl ?_)
        | (refine wpL_store rfl 39 (.tmp 5) (.tmp 11) rfl wr.heap.size rfl _ _ 39 rfl (heap_alloc_new wr _) rfl rfl (by intro v hv; simp at hv; rcases hv with rfl | rfl | rfl | rfl | rfl | rfl <;> rfl) ?_
           intro w1 hc1 hg1
           have hbw1 : Below wr.heap.size wr w1 := (below_alloc1 wr _).grown hg1 (by simp) (fun k e => by cases e; exact Nat.le_refl _)
           obtain ⟨c0, c1, c2, c3, c4, c5⟩ := blk6 hc1
           have HO1 := Lib.hid (show OB w1 w.heap.size v zs from own_below HO.out hbw1)
           have HB1 := Lib.hid (hbel.trans (hbw1.mono hwz))
           clear hc1 hg1 hbw1))
      go_roundw
      case measure => simp [intOf]; omega
      case rel => exact ⟨i + 1, _, by omega, rfl, by go_num, by rw [HN.out, HE.out, List.append_nil]; exact HO1.out, HB1.out⟩
    · obtain rfl : i = n := by omega
      have HE := Lib.hid (show encParts keyN (l.take i) = encParts keyN l by rw [List.take_of_length_le (by omega)])
      have HO := Lib.hid hO
      clear hO hel
      go_wp2_with fail
      go_ret
      rw [← HE.out]
      exact ⟨_, rfl, HO.out, hbel⟩
end Go.Proofs.Ytnolhnlhohpkpaa
namespace Go.Proofs.Ytnolhnlhohpkpaa
open Go.RowKit Cdc
set_option linter.unusedVariables false
set_option linter.unusedSimpArgs false
/-- The reference's reader, in the block g; its bytes lie below M. -/
def RfAt (w : World) (M g : Nat) (s : St) : Prop :=
  ∃ A c, w.heap[g]? = some (.cells #[.slice A s.1.length c, .bool s.2] 47 (0, 0)) ∧ s.1.length ≤ c ∧ c ≤ 9223372036854775807 ∧ (A = none → c = 0) ∧ Bs w A s.1.length s.1 ∧ (s.1 ≠ [] → ∀ ad, A = some ad → ad.block < M) ∧ M ≤ g ∧ (s.2 = true → s.1 = [])
set_option maxRecDepth 20000 in
theorem RfAt.lt {w : World} {M g : Nat} {s : St} (h : RfAt w M g s) : g < w.heap.size := by
  obtain ⟨A, c, hg, _⟩ := h
  exact blk_lt hg
set_option maxRecDepth 20000 in
theorem RfAt.bad {w : World} {M g : Nat} {s : St} (h : RfAt w M g s) : w.cell? ⟨g, 1, none⟩ = some (.bool s.2) := by
  obtain ⟨A, c, hg, _⟩ := h
  exact blk_at hg 1 _ rfl
set_option maxRecDepth 20000 in
theorem bs_keep {w w' : World} {A : Option Addr} {n : Nat} {xs : List UInt8} (h : Bs w A n xs) (hk : xs ≠ [] → ∀ ad, A = some ad → w'.heap[ad.block]? = w.heap[ad.block]?) : Bs w' A n xs := by
  refine ⟨h.1, h.2.1, h.2.2.1, fun ad e j u hu => ?_⟩
  have hn : xs ≠ [] := by intro e; rw [e] at hu; simp at hu
  have hc := h.2.2.2 ad e j u hu
  have h3 : w'.heap[(ad.add j).block]? = w.heap[(ad.add j).block]? := by rw [add_block]; exact hk hn ad e
  simpa [World.cell?, h3] using hc
set_option maxRecDepth 20000 in
theorem RfAt.keep {w w' : World} {M g : Nat} {s : St} (h : RfAt w M g s) (hk : ∀ b, (b < M ∨ b = g) → b < w.heap.size → w'.heap[b]? = w.heap[b]?) : RfAt w' M g s := by
  obtain ⟨A, c, hg, h1, h2, h3, h4, h5, h6, h7⟩ := h
  exact ⟨A, c, (hk g (.inr rfl) (blk_lt hg)).trans hg, h1, h2, h3, bs_keep h4 (fun hn ad e => hk _ (.inl (h5 hn ad e)) (by have := h5 hn ad e; have := blk_lt hg; omega)), h5, h6, h7⟩
set_option maxRecDepth 20000 in
theorem RfAt.below {w w' : World} {M g : Nat} {s : St} (h : RfAt w M g s) (hb : Below w.heap.size w w') : RfAt w' M g s := h.keep fun b _ hlt => hb.block b hlt
set_option maxRecDepth 20000 in
theorem rf_failed {w : World} {M g : Nat} {A : Option Addr} {n c : Nat} {b : Bool} (hM : M ≤ g) (hg : w.heap[g]? = some (.cells #[.slice A n c, .bool b] 47 (0, 0))) :
    RfAt ((w.setCell ⟨g, 1, none⟩ (.bool true)).setCell ⟨g, 0, none⟩ (.slice none 0 0)) M g failed :=
  ⟨none, 0, blk_set (blk_set hg 1 (Value.bool true)) 0 (Value.slice none 0 0), Nat.le_refl _, by omega, fun _ => rfl, ⟨by simp, rfl, fun _ => rfl, fun ad e => by cases e⟩, by simp, hM, fun _ => rfl⟩
set_option maxRecDepth 20000 in
theorem rfail_any (w : World) (M g : Nat) (s : St) (h : RfAt w M g s) :
    Calls Try.prog 73 #[.pointer (some ⟨g, 0, none⟩)] w fun e w' => e = .returned noResult ∧ RfAt w' M g failed ∧ w.grownBy w' (some g) := by
  obtain ⟨A, c, hg, _, _, _, _, _, h6, _⟩ := h
  have c0 := blk_at hg 0 _ rfl
  have c1 := blk_at hg 1 _ rfl
  have f0 := blk_free hg 0
  have f1 := blk_free hg 1
  have HG := Lib.hid hg
  clear hg
  go_enter Try.func73, Try.ntmps73
  go_wp2_with fail
  refine bodyPost_end (results_none rfl _ _ _) rfl ?_
  exact ⟨rfl, rf_failed h6 HG.out, grown_set (grown_set (grown_refl _ _))⟩
/-- How a number of so many bytes is read. -/
def RxPost (w : World) (M g k : Nat) (s : St) (e : Ending) (w' : World) : Prop :=
  e = .returned (.int .u64 (fx k s).1) ∧ RfAt w' M g (fx k s).2 ∧ w.grownBy w' (some g)
set_option maxRecDepth 20000 in
theorem rf_from {w : World} {M g n c : Nat} {A A2 : Option Addr} {s : St} (hlen : n ≤ s.1.length) (hs : s.2 = false) (hg : w.heap[g]? = some (.cells #[.slice A s.1.length c, .bool s.2] 47 (0, 0)))
    (h1 : s.1.length ≤ c) (h2 : c ≤ 9223372036854775807) (h3 : A = none → c = 0) (h4 : Bs w A s.1.length s.1) (h5 : s.1 ≠ [] → ∀ ad, A = some ad → ad.block < M) (hM : M ≤ g) (h6 : A2 = if c = n then A else A.map (fun x : Addr => x.add n)) {m d : Nat} (hm : m = s.1.length - n) (hd : d = c - n) :
    RfAt (w.setCell ⟨g, 0, none⟩ (.slice A2 m d)) M g (s.1.drop n, false) := by
  obtain ⟨f1, f2⟩ := Bs.from_ h4 h1 n hlen
  rw [← h6] at f1 f2
  subst hm hd
  have q := blk_set hg 0 (Value.slice A2 (s.1.length - n) (c - n))
  rw [hs] at q
  have hblk : s.1.drop n ≠ [] → ∀ ad, A2 = some ad → ad.block < M := by
    intro hn ad e
    have f3 : A.map (·.block) = some ad.block := by rw [← f2, e]; rfl
    rw [Option.map_eq_some_iff] at f3
    obtain ⟨ad', e', f4⟩ := f3
    rw [← f4]
    exact h5 (by intro e; apply hn; rw [e]; simp) ad' e'
  refine ⟨A2, c - n, ?_, ?_, by omega, ?_, ?_, hblk, hM, fun e => by cases e⟩
  · show _ = some (Obj.cells #[.slice A2 (s.1.drop n).length (c - n), .bool false] _ _)
    rw [List.length_drop]; exact q
  · show (s.1.drop n).length ≤ c - n
    rw [List.length_drop]; omega
  · intro e
    rw [h6] at e
    by_cases hc : c = n
    · rw [if_pos hc] at e; have := h3 e; omega
    · rw [if_neg hc] at e
      cases A with
      | none => have := h3 rfl; omega
      | some ad => cases e
  · show Bs _ A2 (s.1.drop n).length (s.1.drop n)
    rw [List.length_drop]
    exact bs_keep f1 (fun hn ad e => by have := hblk hn ad e; exact Below.heap_setCell _ _ _ _ (show ad.block ≠ g by omega))
set_option maxHeartbeats 4000000 in
set_option maxRecDepth 20000 in
theorem rnum_any (w : World) (M g k : Nat) (s : St) (h : RfAt w M g s) (hk : 1 ≤ k ∧ k ≤ 8) :
    Calls Try.prog 72 #[.pointer (some ⟨g, 0, none⟩), .int .i64 k] w (RxPost w M g k s) := by
  obtain ⟨A, c, hg, h1, h2, h3, h4, h5, h6, h7⟩ := id h
  have c0 := blk_at hg 0 _ rfl
  have f0 := blk_free hg 0
  have HG := Lib.hid hg
  have H := Lib.hid h
  by_cases hlt : s.1.length < k
  · have hlt' : (s.1.length : Int) < (k : Int) := by omega
    have HD := Lib.hid (show fx k s = (0, failed) from fx_bad (.inr hlt))
    clear hg h h4 h7 hlt
    go_enter Try.func72, Try.ntmps72
    go_wp2_with (go_at_call 73; refine (rfail_any w M g s H.out).mono ?_; rintro e w2 ⟨rfl, hr, hgr⟩)
    go_ret
    unfold RxPost
    rw [HD.out]
    exact ⟨rfl, hr, hgr⟩
  · have hle : (k : Int) ≤ (s.1.length : Int) := by omega
    have hle2 : (k : Int) ≤ (c : Int) := by omega
    have k0 : (0 : Int) ≤ (k : Int) := by omega
    have hs2 : s.2 = false := by
      cases hs : s.2 with
      | false => rfl
      | true => have := h7 hs; rw [this] at hlt; simp at hlt; omega
    have HD := Lib.hid (show fx k s = (val (s.1.take k), s.1.drop k, false) by unfold fx; rw [if_neg (by rw [hs2]; simp; omega)])
    have HS2 := Lib.hid hs2
    have hkl : k ≤ s.1.length := by omega
    have HKL := Lib.hid hkl
    obtain ⟨ys, hys⟩ : ∃ ys, s.1.take k = ys := ⟨_, rfl⟩
    have hyl : ys.length = k := by rw [← hys, List.length_take]; omega
    have hbs : Bs w A k ys := ⟨by omega, by simp [hyl], fun e => by have := h3 e; omega, fun ad e j u hu => h4.2.2.2 ad e j u (by
      rw [← hys, List.getElem?_map, List.getElem?_take] at hu
      rw [List.getElem?_map]
      by_cases hj : j < k
      · rwa [if_pos hj] at hu
      · rw [if_neg hj] at hu; cases hu)⟩
    have H4 := Lib.hid h4
    rw [hys] at HD
    clear hg h h4 h7 hlt hs2 hkl hys
    go_enter Try.func72, Try.ntmps72
    go_wp2_with fail
    go_loop [5, 24] (fun s5 s24 => ∃ i : Nat, i ≤ k ∧ s24 = .int .i64 i ∧ s5 = .int .u64 (val (ys.take i))) (fun _ s24 => k - (intOf s24).toNat)
    case atStart => exact ⟨0, by omega, rfl, rfl⟩
    case round =>
      obtain ⟨i, hi, rfl, rfl⟩ := hrel
      by_cases hlti : i < k
      · obtain ⟨ad, x, rfl, hx, cx⟩ := hbs.at_ i hlti
        have i0 : (0 : Int) ≤ (i : Int) := by omega
        have i1 : (i : Int) < (k : Int) := by omega
        have hvl := val_lt (ys.take i)
        rw [List.length_take, Nat.min_eq_left (by omega)] at hvl
        have hv7 : val (ys.take i) < 72057594037927936 := Nat.lt_of_lt_of_le hvl (show 256 ^ i ≤ 256 ^ 7 from Nat.pow_le_pow_right (by omega) (by omega))
        have HN := Lib.hid (show val (ys.take (i + 1)) = val (ys.take i) * 256 + x.toNat by rw [take_at hx, val_snoc])
        have hxl := x.toNat_lt
        clear hx hvl
        obtain ⟨V, hV⟩ : ∃ V, val (ys.take i) = V := ⟨_, rfl⟩
        rw [hV] at HN hv7 ⊢
        clear hV
        go_wp2_with fail
        go_round
        case rel => exact ⟨i + 1, by omega, by go_num, by rw [HN.out]; go_num⟩
        case measure => simp [intOf]; omega
      · obtain rfl : i = k := by omega
        have HE := Lib.hid (show val (ys.take i) = val ys by rw [List.take_of_length_le (by omega)])
        clear hbs
        go_wp2_with fail
        · go_ret
          have hcn : c = i := by assumption
          unfold RxPost
          rw [HD.out]
          refine ⟨congrArg (fun n : Nat => Ending.returned (Value.int .u64 n)) HE.out, rf_from (A2 := A) HKL.out HS2.out HG.out h1 h2 h3 H4.out h5 h6 (if_pos hcn).symm rfl (by omega), grown_set (grown_refl _ _)⟩
        · go_ret
          have hcn : ¬ c = i := by assumption
          unfold RxPost
          rw [HD.out]
          refine ⟨congrArg (fun n : Nat => Ending.returned (Value.int .u64 n)) HE.out, rf_from (A2 := A.map (fun x : Addr => x.add i)) HKL.out HS2.out HG.out h1 h2 h3 H4.out h5 h6 (if_neg hcn).symm rfl rfl, grown_set (grown_refl _ _)⟩
end Go.Proofs.Ytnolhnlhohpkpaa
namespace Go.Proofs.Ytnolhnlhohpkpaa
open Go.RowKit Cdc
set_option linter.unusedVariables false
set_option linter.unusedSimpArgs false
def RNPost (w : World) (M g most : Nat) (s : St) (e : Ending) (w' : World) : Prop :=
  e = .returned (.int .u64 (rdN most s).1) ∧ RfAt w' M g (rdN most s).2 ∧ w.grownBy w' (some g)
set_option maxRecDepth 20000 in
theorem rnpost_fail {w w' : World} {M g most : Nat} {s : St} (h : rdN most s = (0, failed)) (hr : RfAt w' M g failed) (hg : w.grownBy w' (some g)) : RNPost w M g most s (.returned (.int .u64 0)) w' := by
  unfold RNPost
  rw [h]
  exact ⟨rfl, hr, hg⟩
set_option maxHeartbeats 4000000 in
set_option maxRecDepth 20000 in
theorem rrN_any (w : World) (M g most : Nat) (s : St) (h : RfAt w M g s) :
    Calls Try.prog 22 #[.pointer (some ⟨g, 0, none⟩), .int .u64 most] w (RNPost w M g most s) := by
  have HX := Lib.hid (rnum_any w M g 1 s h (by omega))
  obtain ⟨a, s1, hp⟩ : ∃ a s1, fx 1 s = (a, s1) := ⟨_, _, rfl⟩
  have ha : a < 256 := by have := fx_lt 1 s; rw [hp] at this; simpa using this
  have HP := Lib.hid hp
  clear h hp
  by_cases h128 : 128 ≤ a
  · have c128 : (128 : Int) ≤ (a : Int) := by omega
    have hwr : IntKind.i64.wrap (a : Int) = (a : Int) := IntWalk.i64_in _ (by omega)
    by_cases hk : a - 128 < 1 ∨ 8 < a - 128
    · have HD := Lib.hid (show rdN most s = (0, failed) by unfold rdN; rw [HP.out]; rw [if_pos h128, if_pos hk])
      have hk2 : (a : Int) - 128 < 1 ∨ (8 : Int) < (a : Int) - 128 := by omega
      rcases hk2 with hk2 | hk2
      · clear hk
        go_enter Try.func22, Try.ntmps22
        go_wp2_with fail
        refine HX.out.mono ?_
        rintro e w2 ⟨rfl, hr, hgr⟩
        rw [HP.out] at hr ⊢
        have HR := Lib.hid hr
        have bR := hr.bad
        clear hr
        go_wp2_with (go_at_call 73; refine (rfail_any _ M g s1 HR.out).mono ?_; rintro e w9 ⟨rfl, hr9, hg9⟩)
        go_ret
        exact rnpost_fail HD.out hr9 (hgr.trans hg9)
      · have hk3 : ¬ (a : Int) - 128 < 1 := by omega
        clear hk
        go_enter Try.func22, Try.ntmps22
        go_wp2_with fail
        refine HX.out.mono ?_
        rintro e w2 ⟨rfl, hr, hgr⟩
        rw [HP.out] at hr ⊢
        have HR := Lib.hid hr
        have bR := hr.bad
        clear hr
        go_wp2_with (go_at_call 73; refine (rfail_any _ M g s1 HR.out).mono ?_; rintro e w9 ⟨rfl, hr9, hg9⟩)
        go_ret
        exact rnpost_fail HD.out hr9 (hgr.trans hg9)
    · obtain ⟨k, hka⟩ : ∃ k, a = 128 + k := ⟨a - 128, by omega⟩
      subst hka
      have hk8 : 1 ≤ k ∧ k ≤ 8 := by omega
      obtain ⟨b, s2, hq⟩ : ∃ b s2, fx k s1 = (b, s2) := ⟨_, _, rfl⟩
      have hb : b < 18446744073709551616 := by
        have := fx_lt k s1
        rw [hq] at this
        exact Nat.lt_of_lt_of_le this (show 256 ^ k ≤ 256 ^ 8 from Nat.pow_le_pow_right (by omega) hk8.2)
      have HQ := Lib.hid hq
      have hkk : 128 + k - 128 = k := by omega
      have HE := Lib.hid (show rdN most s = if b < 128 ∨ wide b ≠ k ∨ most < b ∨ s2.2 = true then (0, failed) else (b, s2) by
        unfold rdN
        rw [HP.out]
        simp only
        rw [if_pos h128, if_neg (by omega), hkk, HQ.out])
      clear hq
      have e1 : IntKind.i64.wrap (((128 + k : Nat) : Int)) = 128 + (k : Int) := by rw [IntWalk.i64_in _ (by omega)]; omega
      have E1 := Lib.hid e1
      have k1 : ¬ (k : Int) < 1 := by omega
      have k2 : ¬ (8 : Int) < (k : Int) := by omega
      clear hk hwr e1 hkk
      by_cases hd1 : b < 128
      · have HD := Lib.hid (show rdN most s = (0, failed) by rw [HE.out, if_pos (.inl hd1)])
        have hd2 : (b : Int) < 128 := by omega
        clear hd1
        by_cases hm : most < b
        · have hm2 : (most : Int) < (b : Int) := by omega
          clear hm
          go_enter Try.func22, Try.ntmps22
          go_wp2_with fail
          refine HX.out.mono ?_
          rintro e w2 ⟨rfl, hr, hgr⟩
          rw [HP.out] at hr ⊢
          have HX2 := Lib.hid (rnum_any w2 M g k s1 hr hk8)
          clear hr
          go_wp2_with fail
          rw [show (128 + (k : Int) - 128) = (k : Int) by omega]
          refine HX2.out.mono ?_
          rintro e w3 ⟨rfl, hr3, hgr3⟩
          rw [HQ.out] at hr3 ⊢
          have HR := Lib.hid hr3
          have bR := hr3.bad
          have hg3 := hgr.trans hgr3
          clear hr3
          go_wp2_with (first
            | (go_at_call 73; refine (rfail_any _ M g failed HR9.out).mono ?_; rintro e w8 ⟨rfl, hr8, hg8⟩; have HR8 := Lib.hid hr8; have b8 : _ = some (Value.bool true) := hr8.bad; clear hr8)
            | (go_at_call 73; refine (rfail_any _ M g s2 HR.out).mono ?_; rintro e w9 ⟨rfl, hr9, hg9⟩; have HR9 := Lib.hid hr9; have b9 : _ = some (Value.bool true) := hr9.bad; clear hr9)
            | (go_at_call 74; refine (rwide_any b _ hb).mono ?_; rintro e w7 ⟨rfl, rfl⟩))
          go_ret
          exact rnpost_fail HD.out HR8.out ((hg3.trans hg9).trans hg8)
        · have hm2 : ¬ (most : Int) < (b : Int) := by omega
          clear hm
          go_enter Try.func22, Try.ntmps22
          go_wp2_with fail
          refine HX.out.mono ?_
          rintro e w2 ⟨rfl, hr, hgr⟩
          rw [HP.out] at hr ⊢
          have HX2 := Lib.hid (rnum_any w2 M g k s1 hr hk8)
          clear hr
          go_wp2_with fail
          rw [show (128 + (k : Int) - 128) = (k : Int) by omega]
          refine HX2.out.mono ?_
          rintro e w3 ⟨rfl, hr3, hgr3⟩
          rw [HQ.out] at hr3 ⊢
          have HR := Lib.hid hr3
          have bR := hr3.bad
          have hg3 := hgr.trans hgr3
          clear hr3
          go_wp2_with (first
            | (go_at_call 73; refine (rfail_any _ M g s2 HR.out).mono ?_; rintro e w9 ⟨rfl, hr9, hg9⟩; have HR9 := Lib.hid hr9; have b9 : _ = some (Value.bool true) := hr9.bad; clear hr9)
            | (go_at_call 74; refine (rwide_any b _ hb).mono ?_; rintro e w7 ⟨rfl, rfl⟩))
          go_ret
          exact rnpost_fail HD.out HR9.out (hg3.trans hg9)
      · have hd2 : ¬ (b : Int) < 128 := by omega
        by_cases hwd : wide b = k
        · have HWD := Lib.hid hwd
          have hwb : ((wide b : Int) == (k : Int)) = true := by rw [hwd]; simp
          by_cases hm : most < b
          · have HD := Lib.hid (show rdN most s = (0, failed) by rw [HE.out, if_pos (.inr (.inr (.inl hm)))])
            have hm2 : (most : Int) < (b : Int) := by omega
            clear hm hd1 hwd
            go_enter Try.func22, Try.ntmps22
            go_wp2_with fail
            refine HX.out.mono ?_
            rintro e w2 ⟨rfl, hr, hgr⟩
            rw [HP.out] at hr ⊢
            have HX2 := Lib.hid (rnum_any w2 M g k s1 hr hk8)
            clear hr
            go_wp2_with fail
            rw [show (128 + (k : Int) - 128) = (k : Int) by omega]
            refine HX2.out.mono ?_
            rintro e w3 ⟨rfl, hr3, hgr3⟩
            rw [HQ.out] at hr3 ⊢
            have HR := Lib.hid hr3
            have bR := hr3.bad
            have hg3 := hgr.trans hgr3
            clear hr3
            go_wp2_with (first
              | (go_at_call 73; refine (rfail_any _ M g s2 HR.out).mono ?_; rintro e w9 ⟨rfl, hr9, hg9⟩; have HR9 := Lib.hid hr9; have b9 : _ = some (Value.bool true) := hr9.bad; clear hr9)
              | (go_at_call 74; refine (rwide_any b _ hb).mono ?_; rintro e w7 ⟨rfl, rfl⟩; rw [HWD.out]))
            go_ret
            exact rnpost_fail HD.out HR9.out (hg3.trans hg9)
          · have hm2 : ¬ (most : Int) < (b : Int) := by omega
            cases hb2 : s2.2 with
            | true =>
              exfalso
              have := fx_bad_eq (k := k) (s := s1) (by rw [HQ.out]; exact hb2)
              rw [HQ.out] at this
              injection this with e1 _
              omega
            | false =>
              have HD := Lib.hid (show rdN most s = (b, s2) by rw [HE.out, if_neg (by rw [hb2]; simp only [not_or]; exact ⟨hd1, fun e => e hwd, hm, by simp⟩)])
              clear hm hd1 hwd
              go_enter Try.func22, Try.ntmps22
              go_wp2_with fail
              refine HX.out.mono ?_
              rintro e w2 ⟨rfl, hr, hgr⟩
              rw [HP.out] at hr ⊢
              have HX2 := Lib.hid (rnum_any w2 M g k s1 hr hk8)
              clear hr
              go_wp2_with fail
              rw [show (128 + (k : Int) - 128) = (k : Int) by omega]
              refine HX2.out.mono ?_
              rintro e w3 ⟨rfl, hr3, hgr3⟩
              rw [HQ.out] at hr3 ⊢
              have HR := Lib.hid hr3
              have bR := hr3.bad
              have hg3 := hgr.trans hgr3
              clear hr3
              go_wp2_with (first
                | (go_at_call 74; refine (rwide_any b _ hb).mono ?_; rintro e w7 ⟨rfl, rfl⟩; rw [HWD.out]))
              go_ret
              unfold RNPost
              rw [HD.out]
              exact ⟨rfl, HR.out, hg3⟩
        · have HD := Lib.hid (show rdN most s = (0, failed) by rw [HE.out, if_pos (.inr (.inl hwd))])
          obtain ⟨wb, hwbd⟩ : ∃ wb, wide b = wb := ⟨_, rfl⟩
          have HWD := Lib.hid hwbd
          have hwn : ¬ (wb : Int) = (k : Int) := by omega
          have hwb : ((wb : Int) == (k : Int)) = false := beq_eq_false_iff_ne.2 hwn
          have hbn : ((wb : Int) != (k : Int)) = true := by unfold bne; rw [hwb]; rfl
          clear hwbd
          clear hwd hd1
          by_cases hm : most < b
          · have hm2 : (most : Int) < (b : Int) := by omega
            clear hm
            go_enter Try.func22, Try.ntmps22
            go_wp2_with fail
            refine HX.out.mono ?_
            rintro e w2 ⟨rfl, hr, hgr⟩
            rw [HP.out] at hr ⊢
            have HX2 := Lib.hid (rnum_any w2 M g k s1 hr hk8)
            clear hr
            go_wp2_with fail
            rw [show (128 + (k : Int) - 128) = (k : Int) by omega]
            refine HX2.out.mono ?_
            rintro e w3 ⟨rfl, hr3, hgr3⟩
            rw [HQ.out] at hr3 ⊢
            have HR := Lib.hid hr3
            have bR := hr3.bad
            have hg3 := hgr.trans hgr3
            clear hr3
            go_wp2_with (first
              | (go_at_call 73; refine (rfail_any _ M g failed HR9.out).mono ?_; rintro e w8 ⟨rfl, hr8, hg8⟩; have HR8 := Lib.hid hr8; have b8 : _ = some (Value.bool true) := hr8.bad; clear hr8)
              | (go_at_call 73; refine (rfail_any _ M g s2 HR.out).mono ?_; rintro e w9 ⟨rfl, hr9, hg9⟩; have HR9 := Lib.hid hr9; have b9 : _ = some (Value.bool true) := hr9.bad; clear hr9)
              | (go_at_call 74; refine (rwide_any b _ hb).mono ?_; rintro e w7 ⟨rfl, rfl⟩; rw [HWD.out]))
            go_ret
            exact rnpost_fail HD.out HR8.out ((hg3.trans hg9).trans hg8)
          · have hm2 : ¬ (most : Int) < (b : Int) := by omega
            clear hm
            go_enter Try.func22, Try.ntmps22
            go_wp2_with fail
            refine HX.out.mono ?_
            rintro e w2 ⟨rfl, hr, hgr⟩
            rw [HP.out] at hr ⊢
            have HX2 := Lib.hid (rnum_any w2 M g k s1 hr hk8)
            clear hr
            go_wp2_with fail
            rw [show (128 + (k : Int) - 128) = (k : Int) by omega]
            refine HX2.out.mono ?_
            rintro e w3 ⟨rfl, hr3, hgr3⟩
            rw [HQ.out] at hr3 ⊢
            have HR := Lib.hid hr3
            have bR := hr3.bad
            have hg3 := hgr.trans hgr3
            clear hr3
            go_wp2_with (first
              | (go_at_call 73; refine (rfail_any _ M g s2 HR.out).mono ?_; rintro e w9 ⟨rfl, hr9, hg9⟩; have HR9 := Lib.hid hr9; have b9 : _ = some (Value.bool true) := hr9.bad; clear hr9)
              | (go_at_call 74; refine (rwide_any b _ hb).mono ?_; rintro e w7 ⟨rfl, rfl⟩; rw [HWD.out]))
            go_ret
            exact rnpost_fail HD.out HR9.out (hg3.trans hg9)
  · have HE := Lib.hid (show rdN most s = if most < a ∨ s1.2 = true then (0, failed) else (a, s1) by
      unfold rdN
      rw [HP.out]
      simp only
      rw [if_neg h128])
    have c128 : ¬ (128 : Int) ≤ (a : Int) := by omega
    by_cases hm : most < a
    · have HD := Lib.hid (show rdN most s = (0, failed) by rw [HE.out, if_pos (.inl hm)])
      have hm2 : (most : Int) < (a : Int) := by omega
      clear hm h128
      go_enter Try.func22, Try.ntmps22
      go_wp2_with fail
      refine HX.out.mono ?_
      rintro e w2 ⟨rfl, hr, hgr⟩
      rw [HP.out] at hr ⊢
      have HR := Lib.hid hr
      have bR := hr.bad
      clear hr
      go_wp2_with (first
        | (go_at_call 73; refine (rfail_any _ M g s1 HR.out).mono ?_; rintro e w9 ⟨rfl, hr9, hg9⟩; have HR9 := Lib.hid hr9; have b9 : _ = some (Value.bool true) := hr9.bad; clear hr9))
      go_ret
      exact rnpost_fail HD.out HR9.out (hgr.trans hg9)
    · have hm2 : ¬ (most : Int) < (a : Int) := by omega
      cases hb : s1.2 with
      | true =>
        have HD := Lib.hid (show rdN most s = (0, failed) by rw [HE.out, if_pos (.inr hb)])
        have HS := Lib.hid (show s1 = failed by have := fx_bad_eq (k := 1) (s := s) (by rw [HP.out]; exact hb); rw [HP.out] at this; injection this)
        clear hm h128
        go_enter Try.func22, Try.ntmps22
        go_wp2_with fail
        refine HX.out.mono ?_
        rintro e w2 ⟨rfl, hr, hgr⟩
        rw [HP.out] at hr ⊢
        have HR := Lib.hid hr
        have bR := hr.bad
        clear hr
        go_wp2_with fail
        go_ret
        exact rnpost_fail HD.out (HS.out ▸ HR.out) hgr
      | false =>
        have HD := Lib.hid (show rdN most s = (a, s1) by rw [HE.out, if_neg (by rw [hb]; simp; omega)])
        clear hm h128
        go_enter Try.func22, Try.ntmps22
        go_wp2_with fail
        refine HX.out.mono ?_
        rintro e w2 ⟨rfl, hr, hgr⟩
        rw [HP.out] at hr ⊢
        have HR := Lib.hid hr
        have bR := hr.bad
        clear hr
        go_wp2_with fail
        go_ret
        unfold RNPost
        rw [HD.out]
        exact ⟨rfl, HR.out, hgr⟩
end Go.Proofs.Ytnolhnlhohpkpaa
namespace Go.Proofs.Ytnolhnlhohpkpaa
open Go.RowKit Cdc
set_option linter.unusedVariables false
set_option linter.unusedSimpArgs false
attribute [local go_sem] run_store_float
set_option maxRecDepth 20000 in
theorem rrFlag_any (w : World) (M g : Nat) (s : St) (h : RfAt w M g s) :
    Calls Try.prog 31 #[.pointer (some ⟨g, 0, none⟩)] w fun e w' => e = .returned (.bool (rdFlag s).1) ∧ RfAt w' M g (rdFlag s).2 ∧ w.grownBy w' (some g) := by
  have HN := Lib.hid (rrN_any w M g 1 s h)
  obtain ⟨n, s1, hn⟩ : ∃ n s1, rdN 1 s = (n, s1) := ⟨_, _, rfl⟩
  have HQ := Lib.hid hn
  clear hn h
  go_enter Try.func31, Try.ntmps31
  go_wp2_with fail
  refine HN.out.mono ?_
  rintro e w2 ⟨rfl, hr, hg⟩
  rw [HQ.out] at hr ⊢
  go_wp2_with fail
  go_ret
  refine ⟨?_, ?_, hg⟩
  · unfold rdFlag
    rw [HQ.out]
    refine ret_bool ?_
    by_cases h1 : n = 1
    · subst h1; rfl
    · rw [show (n == 1) = false from beq_eq_false_iff_ne.2 h1]
      show ((n : Int) == 1) = false
      rw [beq_eq_false_iff_ne]; omega
  · unfold rdFlag; rw [HQ.out]; exact hr
set_option maxRecDepth 20000 in
theorem rrEnd_any (w : World) (M g : Nat) (s : St) (h : RfAt w M g s) :
    Calls Try.prog 34 #[.pointer (some ⟨g, 0, none⟩)] w fun e w' => e = .returned (.int .i64 (if s.2 = true ∨ s.1 ≠ [] then 20 else 0)) ∧ w = w' := by
  obtain ⟨A, c, hg, _⟩ := h
  have c0 := blk_at hg 0 _ rfl
  have c1 := blk_at hg 1 _ rfl
  clear hg
  cases hb : s.2 with
  | true =>
    have hv : (if true = true ∨ s.1 ≠ [] then 20 else 0 : Int) = 20 := if_pos (.inl rfl)
    rw [hb] at c1
    rw [hv]
    clear hb hv
    go_enter Try.func34, Try.ntmps34
    go_wp2_with fail
    go_ret
    exact ⟨rfl, rfl⟩
  | false =>
    rw [hb] at c1
    by_cases hl : s.1 = []
    · have hv : (if false = true ∨ s.1 ≠ [] then 20 else 0 : Int) = 0 := if_neg (by rw [hl]; simp)
      have hl0 : s.1.length = 0 := by rw [hl]; rfl
      rw [hv]
      clear hb hv hl
      go_enter Try.func34, Try.ntmps34
      go_wp2_with fail
      go_ret
      exact ⟨rfl, rfl⟩
    · have hv : (if false = true ∨ s.1 ≠ [] then 20 else 0 : Int) = 20 := if_pos (.inr hl)
      have hl0 : (0 : Int) < (s.1.length : Int) := by have := List.length_pos_iff.2 hl; omega
      rw [hv]
      clear hb hv hl
      go_enter Try.func34, Try.ntmps34
      go_wp2_with fail
      go_ret
      exact ⟨rfl, rfl⟩
set_option maxRecDepth 20000 in
theorem rrI_any (w : World) (M g : Nat) (s : St) (h : RfAt w M g s) :
    Calls Try.prog 24 #[.pointer (some ⟨g, 0, none⟩)] w fun e w' => e = .returned (.int .i64 (rdI s).1) ∧ RfAt w' M g (rdI s).2 ∧ w.grownBy w' (some g) := by
  have HN := Lib.hid (rrN_any w M g 18446744073709551615 s h)
  obtain ⟨n, s1, hn⟩ : ∃ n s1, rdN 18446744073709551615 s = (n, s1) := ⟨_, _, rfl⟩
  have HQ := Lib.hid hn
  have hlt : n < 18446744073709551616 := by have := rdN_lt (most := 18446744073709551615) (s := s) (by omega); rw [hn] at this; exact this
  clear hn h
  have hw : IntKind.i64.wrap ((n : Int) / 2) = (n : Int) / 2 := IntWalk.i64_in _ (by omega)
  have hw2 : IntKind.i64.wrap (-((n : Int) / 2)) = -((n : Int) / 2) := IntWalk.i64_in _ (by omega)
  have hw3 : IntKind.i64.wrap (-((n : Int) / 2) - 1) = -((n : Int) / 2) - 1 := IntWalk.i64_in _ (by omega)
  by_cases h2 : n % 2 = 0
  · have hb : ((n : Int) % 2 == 0) = true := beq_iff_eq.2 (by omega)
    have HU := Lib.hid (show (n : Int) / 2 = unzig n by unfold unzig; rw [if_pos h2]; omega)
    clear h2
    go_enter Try.func24, Try.ntmps24
    go_wp2_with fail
    refine HN.out.mono ?_
    rintro e w2 ⟨rfl, hr, hg⟩
    rw [HQ.out] at hr ⊢
    go_wp2_with fail
    go_ret
    refine ⟨?_, ?_, hg⟩
    · unfold rdI FULL
      rw [HQ.out]
      exact ret_int HU.out
    · unfold rdI FULL; rw [HQ.out]; exact hr
  · have hb : ((n : Int) % 2 == 0) = false := beq_eq_false_iff_ne.2 (by omega)
    have HU := Lib.hid (show -((n : Int) / 2) - 1 = unzig n by unfold unzig; rw [if_neg h2]; omega)
    clear h2
    go_enter Try.func24, Try.ntmps24
    go_wp2_with fail
    refine HN.out.mono ?_
    rintro e w2 ⟨rfl, hr, hg⟩
    rw [HQ.out] at hr ⊢
    go_wp2_with fail
    go_ret
    refine ⟨?_, ?_, hg⟩
    · unfold rdI FULL
      rw [HQ.out]
      exact ret_int HU.out
    · unfold rdI FULL; rw [HQ.out]; exact hr
def RFPost (w : World) (M g : Nat) (p : Nat × St) (e : Ending) (w' : World) : Prop :=
  e = .returned (.float .f64 p.1) ∧ RfAt w' M g p.2 ∧ w.grownBy w' (some g)
set_option maxHeartbeats 4000000 in
set_option maxRecDepth 20000 in
theorem rrF_any (w : World) (M g : Nat) (s : St) (h : RfAt w M g s) :
    Calls Try.prog 27 #[.pointer (some ⟨g, 0, none⟩)] w (RFPost w M g (rdF ofN s)) := by
  have HX := Lib.hid (rnum_any w M g 8 s h (by omega))
  obtain ⟨K, s1, hp⟩ : ∃ K s1, fx 8 s = (K, s1) := ⟨_, _, rfl⟩
  have hK : K < 18446744073709551616 := by have := fx_lt 8 s; rw [hp] at this; exact this
  have HP := Lib.hid hp
  clear h
  have HU := Lib.hid (show rdF ofN s = if s1.2 = true then (0, failed) else if (ofF (K : Int)).2 = true then ((ofF (K : Int)).1, s1) else (0, failed) by unfold rdF; rw [hp])
  cases hb : s1.2 with
  | true =>
    have HS := Lib.hid (show s1 = failed by have := fx_bad_eq (k := 8) (s := s) (by rw [hp]; exact hb); rw [hp] at this; injection this)
    have HD := Lib.hid (show rdF ofN s = (0, failed) by rw [HU.out, if_pos hb])
    have HB := Lib.hid hb
    clear hp hb
    go_enter Try.func27, Try.ntmps27
    go_wp2_with fail
    refine HX.out.mono ?_
    rintro e w2 ⟨rfl, hr, hgr⟩
    rw [HP.out] at hr ⊢
    have HR := Lib.hid hr
    have bR := hr.bad
    rw [show (K, s1).2.2 = true from HB.out] at bR
    clear hr
    go_wp2_with fail
    go_ret
    refine ⟨?_, ?_, hgr⟩
    · rw [HD.out]; rfl
    · rw [HD.out, ← HS.out]; exact HR.out
  | false =>
    have hof : ofF (K : Int) = rofF (K : Int) := by rw [ofF_eq (by omega) (by omega), rofF_eq (by omega) (by omega)]
    obtain ⟨f, b, hf⟩ : ∃ f b, ofF (K : Int) = (f, b) := ⟨_, _, rfl⟩
    have HOF := Lib.hid (hof ▸ hf)
    have HB := Lib.hid hb
    cases b with
    | true =>
      have HD := Lib.hid (show rdF ofN s = (f, s1) by rw [HU.out, if_neg (by rw [hb]; exact Bool.false_ne_true), hf, if_pos rfl])
      clear hp hb hof hf
      go_enter Try.func27, Try.ntmps27
      go_wp2_with fail
      refine HX.out.mono ?_
      rintro e w2 ⟨rfl, hr, hgr⟩
      rw [HP.out] at hr ⊢
      have HR := Lib.hid hr
      have bR := hr.bad
      rw [show (K, s1).2.2 = false from HB.out] at bR
      clear hr
      go_wp2_with (go_at_call 78; refine (rof_any _ _).mono ?_; rintro e w3 ⟨rfl, hb3⟩; rw [HOF.out]; have HB3 := Lib.hid hb3; clear hb3)
      go_ret
      refine ⟨?_, ?_, hgr.trans (grown_below HB3.out)⟩
      · rw [HD.out]; rfl
      · rw [HD.out]; exact HR.out.below HB3.out
    | false =>
      have HD := Lib.hid (show rdF ofN s = (0, failed) by rw [HU.out, if_neg (by rw [hb]; exact Bool.false_ne_true), hf, if_neg Bool.false_ne_true])
      clear hp hb hof hf
      go_enter Try.func27, Try.ntmps27
      go_wp2_with fail
      refine HX.out.mono ?_
      rintro e w2 ⟨rfl, hr, hgr⟩
      rw [HP.out] at hr ⊢
      have HR := Lib.hid hr
      have bR := hr.bad
      rw [show (K, s1).2.2 = false from HB.out] at bR
      clear hr
      go_wp2_with (first
        | (go_at_call 78; refine (rof_any _ _).mono ?_; rintro e w3 ⟨rfl, hb3⟩; rw [HOF.out]; have HR3 := Lib.hid (HR.out.below hb3); have HB3 := Lib.hid hb3; clear hb3)
        | (go_at_call 73; refine (rfail_any _ M g _ HR3.out).mono ?_; rintro e w4 ⟨rfl, hr4, hg4⟩; have HR4 := Lib.hid hr4; clear hr4))
      go_ret
      refine ⟨?_, ?_, hgr.trans ((grown_below HB3.out).trans hg4)⟩
      · rw [HD.out]; rfl
      · rw [HD.out]; exact HR4.out
end Go.Proofs.Ytnolhnlhohpkpaa
namespace Go.Proofs.Ytnolhnlhohpkpaa
open Go.RowKit Cdc
set_option linter.unusedVariables false
set_option linter.unusedSimpArgs false
def RBPost (w : World) (M g : Nat) (p : List UInt8 × St) (e : Ending) (w' : World) : Prop :=
  ∃ v', e = .returned v' ∧ Rd w' (fun k => w.heap.size ≤ k) (.sl .byte) p.1 [v'] ∧ RfAt w' M g p.2 ∧ w.grownBy w' (some g)
set_option maxRecDepth 20000 in
theorem rd_own_bytes {w : World} {B : Nat} {v : Value} {n : Nat} {xs : List UInt8} (h : w.ownsRow B 5 1 v n (xs.map encB)) : Rd w (fun k => B ≤ k) (.sl .byte) xs [v] := by
  have hl : xs.length = n := by have := h.1; simp at this; omega
  rcases h.2 with ⟨rfl, hz⟩ | ⟨g, cap, cur, rfl, hg, hh, hnc, hcm, _⟩
  · have : xs = [] := List.eq_nil_of_length_eq_zero (by omega)
    subst this
    exact rd_nil_bytes _ _
  · obtain ⟨A, c, e, h1, h2, h3⟩ := own_rc h
    injection e with e1 e2 e3
    subst e1
    simp only [maxLen] at hcm
    refine rd_sl.2 ⟨_, _, _, rfl, hnc, by omega, (fun e => by cases e), rows_of_bytes (?_ : Bs w _ n xs) (fun _ ad e => by injection e with e; subst e; exact hg)⟩
    exact ⟨by omega, h3.1, h3.2.1, h3.2.2⟩
set_option maxHeartbeats 4000000 in
set_option maxRecDepth 20000 in
theorem rrB_any (w : World) (M g most : Nat) (s : St) (h : RfAt w M g s) (hm : most ≤ 65536) (hl : s.1.length ≤ 1000000) :
    Calls Try.prog 29 #[.pointer (some ⟨g, 0, none⟩), .int .i64 most] w (RBPost w M g (rdB most s)) := by
  have HN := Lib.hid (rrN_any w M g most s h)
  obtain ⟨n, s1, hn⟩ : ∃ n s1, rdN most s = (n, s1) := ⟨_, _, rfl⟩
  have HQ := Lib.hid hn
  have hm0 : ¬ (most : Int) < 0 := by omega
  have hw : IntKind.u64.wrap (most : Int) = (most : Int) := by rw [IntKind.wrap_u64]; omega
  have hsl : s1.1.length ≤ 1000000 := by
    have := rdN_len most s
    rw [hn] at this
    exact Nat.le_trans this hl
  have hnm : n ≤ 65536 := by
    have := rdN_most most s
    rw [hn] at this
    exact Nat.le_trans this hm
  have HE := Lib.hid (show rdB most s = if s1.2 = true ∨ s1.1.length < n then ([], failed) else (s1.1.take n, s1.1.drop n, false) by unfold rdB; rw [hn])
  clear hn h
  cases hb : s1.2 with
  | true =>
    have HD := Lib.hid (show rdB most s = ([], failed) by rw [HE.out, if_pos (.inl hb)])
    have HB := Lib.hid hb
    clear hb
    go_enter Try.func29, Try.ntmps29
    go_wp2_with fail
    refine HN.out.mono ?_
    rintro e w2 ⟨rfl, hr, hg⟩
    rw [HQ.out] at hr ⊢
    have HR := Lib.hid hr
    have bR := hr.bad
    rw [show (n, s1).2.2 = true from HB.out] at bR
    clear hr
    go_wp2_with (go_at_call 73; refine (rfail_any _ M g s1 HR.out).mono ?_; rintro e w4 ⟨rfl, hr4, hg4⟩; have HR4 := Lib.hid hr4; clear hr4)
    go_ret
    rw [HD.out]
    exact ⟨_, rfl, rd_nil_bytes _ _, HR4.out, hg.trans hg4⟩
  | false =>
    by_cases hlt : s1.1.length < n
    · have HD := Lib.hid (show rdB most s = ([], failed) by rw [HE.out, if_pos (.inr hlt)])
      have HB := Lib.hid hb
      have hlt2 : (s1.1.length : Int) < (n : Int) := by omega
      have hw2 : IntKind.u64.wrap (s1.1.length : Int) = (s1.1.length : Int) := by rw [IntKind.wrap_u64]; omega
      clear hb hlt
      go_enter Try.func29, Try.ntmps29
      go_wp2_with fail
      refine HN.out.mono ?_
      rintro e w2 ⟨rfl, hr, hg⟩
      rw [HQ.out] at hr ⊢
      have HR := Lib.hid hr
      have bR := hr.bad
      rw [show (n, s1).2.2 = false from HB.out] at bR
      obtain ⟨A, c, hgb, _⟩ := hr
      have c0 := blk_at hgb 0 _ rfl
      clear hgb
      go_wp2_with (go_at_call 73; refine (rfail_any _ M g s1 HR.out).mono ?_; rintro e w4 ⟨rfl, hr4, hg4⟩; have HR4 := Lib.hid hr4; clear hr4)
      go_ret
      rw [HD.out]
      exact ⟨_, rfl, rd_nil_bytes _ _, HR4.out, hg.trans hg4⟩
    · have HD := Lib.hid (show rdB most s = (s1.1.take n, s1.1.drop n, false) by rw [HE.out, if_neg (by rw [hb]; simp; omega)])
      have HB := Lib.hid hb
      have hlt2 : ¬ (s1.1.length : Int) < (n : Int) := by omega
      have hle : (n : Int) ≤ (s1.1.length : Int) := by omega
      have hw2 : IntKind.u64.wrap (s1.1.length : Int) = (s1.1.length : Int) := by rw [IntKind.wrap_u64]; omega
      have n0 : (0 : Int) ≤ (n : Int) := by omega
      have hnl : n ≤ s1.1.length := by omega
      have HNL := Lib.hid hnl
      clear hb hlt hnl
      go_enter Try.func29, Try.ntmps29
      go_wp2_with fail
      refine HN.out.mono ?_
      rintro e w2 ⟨rfl, hr, hg⟩
      rw [HQ.out] at hr ⊢
      have HR := Lib.hid hr
      have bR := hr.bad
      rw [show (n, s1).2.2 = false from HB.out] at bR
      obtain ⟨A, c, hgb, h1, h2, h3, h4, h5, h6, h7⟩ := hr
      have c0 := blk_at hgb 0 _ rfl
      have hle2 : (n : Int) ≤ (c : Int) := by have : s1.1.length ≤ c := h1; omega
      have HG := Lib.hid hgb
      have H4 := Lib.hid h4
      have HBs := Lib.hid (show Rc w2 A n ((s1.1.take n).map encB) from ⟨by rw [List.length_map, List.length_take]; exact Nat.min_eq_left HNL.out, fun e => by have := h3 e; have := HNL.out; have : s1.1.length ≤ c := h1; omega, fun ad e j u hu => h4.2.2.2 ad e j u (by
        rw [List.getElem?_map, List.getElem?_take] at hu
        rw [List.getElem?_map]
        by_cases hj : j < n
        · rwa [if_pos hj] at hu
        · rw [if_neg hj] at hu; cases hu)⟩)
      clear hgb h4 h7
      go_wp2_with (at_builtin
                   refine wp_app (base := w2.heap.size) (w0 := w2) (n := 0) (xs := []) rfl (.const (.slice none 0 0)) (.tmp 36) rfl (own_nil _ _ _ _) HBs.out (Below.refl _ w2) Try.underlying23 info_byte rfl rfl rfl (one_bs _) (by omega) (by omega) (Nat.le_refl _) ?_
                   intro v3 w3 ho3 hb3 _ _
                   rw [List.nil_append] at ho3
                   have HO3 := Lib.hid ho3
                   have HB3 := Lib.hid hb3
                   have hg3 := blk_below HG.out hb3 (blk_lt HG.out)
                   have d0 := blk_at hg3 0 _ rfl
                   have f0 := blk_free hg3 0
                   have HG3 := Lib.hid hg3
                   have H43 := Lib.hid (H4.out.below hb3)
                   clear ho3 hb3 hg3)
      · go_ret
        have hcn : c = n := by assumption
        rw [HD.out]
        refine ⟨v3, rfl, ((rd_own_bytes HO3.out).of (fun a u hk hc => ?_) (fun k hk _ => Nat.le_trans hg.size hk)), rf_from (A2 := A) HNL.out HB.out HG3.out h1 h2 h3 H43.out h5 h6 (if_pos hcn).symm rfl (by omega), hg.trans ((grown_below HB3.out).trans (grown_set (grown_refl _ _)))⟩
        rw [World.cell?_setCell_far _ _ _ _ (by have h9 : w2.heap.size ≤ a.block := hk; have := blk_lt HG.out; show g ≠ a.block; omega)]; exact hc
      · go_ret
        have hcn : ¬ c = n := by assumption
        rw [HD.out]
        refine ⟨v3, rfl, ((rd_own_bytes HO3.out).of (fun a u hk hc => ?_) (fun k hk _ => Nat.le_trans hg.size hk)), rf_from (A2 := A.map (fun x : Addr => x.add n)) HNL.out HB.out HG3.out h1 h2 h3 H43.out h5 h6 (if_neg hcn).symm rfl rfl, hg.trans ((grown_below HB3.out).trans (grown_set (grown_refl _ _)))⟩
        rw [World.cell?_setCell_far _ _ _ _ (by have h9 : w2.heap.size ≤ a.block := hk; have := blk_lt HG.out; show g ≠ a.block; omega)]; exact hc
end Go.Proofs.Ytnolhnlhohpkpaa
namespace Go.Proofs.Ytnolhnlhohpkpaa
open Go.RowKit Cdc
set_option linter.unusedVariables false
set_option linter.unusedSimpArgs false
attribute [local go_sem] run_store_float
set_option maxRecDepth 20000 in
theorem Own.keep {w w' : World} {base : Nat} {e : TypeId} {s : Sh} {v : Value} {l : List s.Ty} (h : Own w base e s v l) (hk : ∀ b, base ≤ b → b < w.heap.size → w'.heap[b]? = w.heap[b]?) : Own w' base e s v l := by
  obtain ⟨xs, ho, hr⟩ := h
  have hr2 := hr.of (w' := w) (ok' := fun k => (base ≤ k ∧ v.ownBlock ≠ some k) ∧ k < w.heap.size) (fun _ _ _ hc => hc) (fun k hk hlt => ⟨hk, hlt⟩)
  refine ⟨xs, ?_, hr2.of (fun a u hok hc => ?_) (fun _ h _ => h.1)⟩
  · obtain ⟨h1, h2 | ⟨g', cap, cur, hv, hg, hh, h3⟩⟩ := ho
    · exact ⟨h1, .inl h2⟩
    · exact ⟨h1, .inr ⟨g', cap, cur, hv, hg, (hk g' hg (Array.getElem?_eq_some_iff.1 hh).1).trans hh, h3⟩⟩
  · have := hk a.block hok.1.1 hok.2
    simpa [World.cell?, this] using hc
set_option maxRecDepth 20000 in
theorem rstart {wr w1 : World} {t : TypeId} {c0 : Array Value} (hg1 : (wr.alloc (.cells c0 t)).grownBy w1 (some wr.heap.size)) : Below wr.heap.size wr w1 ∧ wr.heap.size + 1 ≤ w1.heap.size :=
  ⟨(below_alloc1 wr _).grown hg1 (by simp) (fun k e => by injection e with e; omega), by have := hg1.size; simpa using this⟩
set_option maxRecDepth 20000 in
theorem rstep {wr w1 w2 : World} {M base g j : Nat} {t e : TypeId} {v vo : Value} {c : Array Value} {l : List PartT} {s1 : St} (hst : Below wr.heap.size wr w1 ∧ wr.heap.size + 1 ≤ w1.heap.size) (hc : w1.heap[wr.heap.size]? = some (.cells c t (0, 0))) (hgr : w1.grownBy w2 (some g)) (hgb : g < base) (hbw : base ≤ wr.heap.size) (hMg : M ≤ g) (hO : Own wr base e PART vo l) (hr : RfAt w2 M g s1) :
    (w2.setCell ⟨wr.heap.size, j, none⟩ v).heap[wr.heap.size]? = some (.cells (c.setIfInBounds j v) t (0, 0)) ∧ Own (w2.setCell ⟨wr.heap.size, j, none⟩ v) base e PART vo l ∧ RfAt (w2.setCell ⟨wr.heap.size, j, none⟩ v) M g s1 ∧
    (∀ {B w}, Below B w wr → B ≤ g → Below B w (w2.setCell ⟨wr.heap.size, j, none⟩ v)) ∧ wr.heap.size + 1 ≤ (w2.setCell ⟨wr.heap.size, j, none⟩ v).heap.size ∧
    (∀ {s : Sh} {x : s.Ty} {cs : List Value}, Rd w2 (fun b => w1.heap.size ≤ b) s x cs → Rd (w2.setCell ⟨wr.heap.size, j, none⟩ v) (fun b => wr.heap.size + 1 ≤ b) s x cs) := by
  have hsz : (w2.setCell ⟨wr.heap.size, j, none⟩ v).heap.size = w2.heap.size := by simp [World.setCell]
  have hkeep : ∀ b, b < wr.heap.size → b ≠ g → (w2.setCell ⟨wr.heap.size, j, none⟩ v).heap[b]? = wr.heap[b]? := fun b hb hne => by
    rw [Below.heap_setCell _ _ _ _ (show b ≠ wr.heap.size by omega)]
    exact (hgr.block b (by omega) (by intro e; injection e with e; exact hne e)).trans (hst.1.block b hb)
  refine ⟨blk_set (blk_grown hc hgr (by intro e; injection e with e; omega)) j v, hO.keep (fun b h1 h2 => hkeep b h2 (by omega)), hr.keep (fun b hb hlt => Below.heap_setCell _ _ _ _ (show b ≠ wr.heap.size by rcases hb with h | h <;> omega)), fun {B w} hb hB => ?_, by have := hgr.size; rw [hsz]; omega, fun {s x cs} h => ?_⟩
  · have h2 := hst.1.mono (show B ≤ wr.heap.size by omega)
    exact (((hb.trans h2).grown hgr (show B ≤ w1.heap.size by have := hst.2; omega) (fun k e => by injection e with e; omega))).setCell (show B ≤ wr.heap.size by omega) _
  · refine h.of (fun a u hk hc => ?_) (fun k hk _ => by have := hst.2; omega)
    rw [World.cell?_setCell_far _ _ _ _ (by have := hst.2; show wr.heap.size ≠ a.block; omega)]; exact hc
set_option maxHeartbeats 4000000 in
set_option maxRecDepth 20000 in
theorem rparts_any (w : World) (A : Option Addr) (n c : Nat) (xs : List UInt8) (h : Rd w anyB (.sl .byte) xs [.slice A n c]) (hn : xs.length ≤ 100000) (K : Option Addr) (m ck : Nat) (ks : List Int) (hk : Rows w anyB (.int .i64) K m ks) (hm : m ≤ 100) :
    Calls Try.prog 13 #[.slice A n c, .slice K m ck] w (PartsPost w xs ks) := by
  obtain ⟨A', c', e, h1, h2, h3, h4⟩ := rd_bs h
  injection e with e1 e2 e3
  subst e1 e2 e3
  have hR0 : RfAt (w.alloc (.cells #[.slice A xs.length c, .bool false] 47)) w.heap.size w.heap.size (xs, false) :=
    ⟨A, c, heap_alloc_new w _, h1, h2, h3, h4.below (below_alloc1 w _), fun hx ad e => by subst e; exact h4.lt hx, Nat.le_refl _, fun e => by cases e⟩
  have HR0 := Lib.hid hR0
  have HB0 := Lib.hid (below_alloc1 w (.cells #[.slice A xs.length c, .bool false] 47))
  clear h h4 hR0
  go_enter Try.func13, Try.ntmps13
  go_wp2_with fail
  go_loopw [7, 16] (fun s7 s16 wr => ∃ (i : Nat) (v : Value) (l : List PartT) (s : St), i ≤ m ∧ v = s7 ∧ s16 = .int .i64 i ∧ rdParts ofN (ks.take i) (xs, false) = some (l, s) ∧ Own wr (w.heap.size + 1) 39 PART v l ∧ RfAt wr w.heap.size w.heap.size s ∧ w.heap.size + 1 ≤ wr.heap.size ∧ Below w.heap.size w wr) (fun _ s16 _ => m - (intOf s16).toNat)
  case atStart => exact ⟨0, _, [], (xs, false), by omega, rfl, rfl, rfl, Own.nil _ _ _ _, HR0.out, by simp, HB0.out⟩
  case round =>
    obtain ⟨i, v, l, s, hi, rfl, rfl, hrp, hO, hR, hz, hbel⟩ := hrel
    have hkl := hk.1
    obtain ⟨Ao, co, rfl, _⟩ := (OwnG.form hO)
    have HR := Lib.hid hR
    have hll := (rdParts_len _ _ _ _ hrp)
    have hl1 : l.length = i := by rw [hll.1, List.length_take]; omega
    have hl2 : s.1.length ≤ 100000 := Nat.le_trans hll.2 hn
    have HP := Lib.hid hrp
    rw [hl1] at hO ⊢
    have HO := Lib.hid hO
    clear hO hR hrp hll
    by_cases hlti : i < m
    · obtain ⟨k, hx⟩ : ∃ k, ks[i]? = some k := ⟨ks[i]'(by omega), List.getElem?_eq_getElem (by omega)⟩
      obtain ⟨ad, rfl⟩ : ∃ ad, K = some ad := by cases K with
        | none => exact absurd (hk.2.1 rfl) (by omega)
        | some ad => exact ⟨ad, rfl⟩
      obtain ⟨hc, hwf⟩ := int_at (hk.below hbel) hx
      have i0 : (0 : Int) ≤ (i : Int) := by omega
      have i1 : (i : Int) < (m : Int) := by omega
      have HW := Lib.hid hwf
      have hgl := HR.out.lt
      by_cases k1 : k = 1
      · subst k1
        obtain ⟨n, s1, hns⟩ : ∃ n s1, rdN FULL s = (n, s1) := ⟨_, _, rfl⟩
        have HN := Lib.hid hns
        have HV := Lib.hid (show rdParts ofN (ks.take (i + 1)) (xs, false) = some (l ++ [(1, (n : Int), 0, 0, [], false, ())], s1) by rw [take_at hx, rdParts_snoc, HP.out]; simp only; unfold rdPart; simp only [hns]; rfl)
        have hlt := rdN_lt (most := FULL) (s := s) (by unfold FULL; omega)
        rw [hns] at hlt
        have HLT := Lib.hid hlt
        clear hlt
        clear hx hwf hns
        go_wp2_with (first
          | (refine wpL_store rfl 39 (.tmp 10) (.tmp 21) rfl wr.heap.size rfl _ _ 39 rfl (heap_alloc_new wr _) rfl rfl (by intro v hv; simp at hv; rcases hv with rfl | rfl | rfl | rfl | rfl | rfl <;> rfl) ?_
             intro w1 hc1 hg1
             have HC1 := Lib.hid hc1
             have HS := Lib.hid (rstart hg1)
             clear hc1 hg1)
          | (go_at_call 22
             refine (rrN_any w1 w.heap.size w.heap.size 18446744073709551615 s (HR.out.below HS.out.1)).mono ?_
             rintro e w2 ⟨rfl, hr, hgr⟩
             rw [show rdN 18446744073709551615 s = _ from HN.out] at hr ⊢
             have q1 := blk_grown HC1.out hgr (by intro e; injection e with e; omega)
             have c1 := blk_at q1 1 _ rfl
             have f1 := blk_free q1 1
             have HG := Lib.hid hgr
             have HR2 := Lib.hid hr
             clear q1 hr hgr)
          | (have F := Lib.hid (rstep (j := 1) (v := .int .u64 (n : Int)) HS.out HC1.out HG.out (Nat.lt_succ_self _) hz (Nat.le_refl _) HO.out HR2.out)
             have D := Lib.hid (F.out.2.2.2.2.2 (rd_part_nil HW.out (partOk_of (Int.natCast_nonneg _) (by have := HLT.out; omega) (by decide) (by decide) (by decide)) : Rd w2 (fun b => w1.heap.size ≤ b) PART (1, (n : Int), 0, 0, [], false, ()) [.int .i64 1, .int .u64 (n : Int), .int .i64 0, .float .f64 0, .slice none 0 0, .bool false]))
             have G := Lib.hid (F.out.2.2.2.1 hbel (Nat.le_refl _))
             obtain ⟨W, hW⟩ : ∃ W, w2.setCell ⟨wr.heap.size, 1, none⟩ (.int .u64 (n : Int)) = W := ⟨_, rfl⟩
             rw [hW] at F D G ⊢
             refine wpL_load rfl 39 (.tmp 10) rfl ⟨wr.heap.size, 0, none⟩ rfl [.int .i64 1, .int .u64 (n : Int), .int .i64 0, .float .f64 0, .slice none 0 0, .bool false] _ (At.blk F.out.1) Try.underlying39 rfl rfl ?_)
          | (refine wpL_lit1 rfl (cs := [.int .i64 1, .int .u64 (n : Int), .int .i64 0, .float .f64 0, .slice none 0 0, .bool false]) (.tmp 49) rfl rfl Try.underlying22 info_part rfl (by decide) (by decide) rfl ?_)
          | (at_builtin
             refine wp_appO (w0 := W.alloc (.cells ([.int .i64 1, .int .u64 (n : Int), .int .i64 0, .float .f64 0, .slice none 0 0, .bool false] : List Value).toArray 39)) (m := 1) (r := [(1, (n : Int), 0, 0, [], false, ())]) (ys := [.int .i64 1, .int .u64 (n : Int), .int .i64 0, .float .f64 0, .slice none 0 0, .bool false]) rfl (.tmp 48) (.tmp 50) rfl (OwnG.below F.out.2.1 (below_alloc1 W _)) rfl (fun e => by cases e) (fun ad' e => by cases e; exact At.blk (heap_alloc_new W _)) (RdL.single ?_) (Below.refl _ _) Try.underlying22 info_part rfl (by decide) rfl rfl (by rw [bytes_part]; omega) (by omega) ?_ ?_
             · exact HO.out.apart (B := wr.heap.size + 1) (Nat.le_succ _) (by omega) D.out (below_alloc1 W _)
             · have := F.out.2.2.2.2.1; simp; omega
             intro v7 w7 hO7 hb7 _ _
             have HO7 := Lib.hid hO7
             have HB7 := Lib.hid hb7
             obtain ⟨A7, c7, rfl, _⟩ := OwnG.form hO7
             clear hO7 hb7))
        go_roundw
        case measure => simp [intOf]; omega
        case rel =>
          have zW := F.out.2.2.2.2.1
          have z7 := HB7.out.size
          have za : (W.alloc (.cells ([.int .i64 1, .int .u64 (n : Int), .int .i64 0, .float .f64 0, .slice none 0 0, .bool false] : List Value).toArray 39)).heap.size = W.heap.size + 1 := by simp
          rw [za] at z7
          have hO7 := HO7.out
          have hlen : (l ++ [((1, (n : Int), 0, 0, [], false, ()) : PartT)]).length = i + 1 := by simp [hl1]
          rw [hlen] at hO7
          have hB7 := G.out.trans (((below_alloc1 W (.cells ([.int .i64 1, .int .u64 (n : Int), .int .i64 0, .float .f64 0, .slice none 0 0, .bool false] : List Value).toArray 39)).mono (by omega)).trans (HB7.out.mono (by omega)))
          exact ⟨i + 1, _, l ++ [(1, (n : Int), 0, 0, [], false, ())], s1, by omega, rfl, by go_num, HV.out, hO7, (F.out.2.2.1.below (below_alloc1 W _)).keep (fun b hb hlt => HB7.out.block b (by rcases hb with h | h <;> omega)), by omega, hB7⟩
      by_cases k2 : k = 2
      · subst k2
        obtain ⟨n, s1, hns⟩ : ∃ n s1, rdI s = (n, s1) := ⟨_, _, rfl⟩
        have HN := Lib.hid hns
        have HV := Lib.hid (show rdParts ofN (ks.take (i + 1)) (xs, false) = some (l ++ [(2, 0, n, 0, [], false, ())], s1) by rw [take_at hx, rdParts_snoc, HP.out]; simp only; unfold rdPart; simp only [hns]; rfl)
        have hlt := rdI_range s
        rw [hns] at hlt
        have HLT := Lib.hid hlt
        clear hlt
        clear hx hwf hns
        go_wp2_with (first
          | (refine wpL_store rfl 39 (.tmp 10) (.tmp 21) rfl wr.heap.size rfl _ _ 39 rfl (heap_alloc_new wr _) rfl rfl (by intro v hv; simp at hv; rcases hv with rfl | rfl | rfl | rfl | rfl | rfl <;> rfl) ?_
             intro w1 hc1 hg1
             have HC1 := Lib.hid hc1
             have HS := Lib.hid (rstart hg1)
             clear hc1 hg1)
          | (go_at_call 24
             refine (rrI_any w1 w.heap.size w.heap.size s (HR.out.below HS.out.1)).mono ?_
             rintro e w2 ⟨rfl, hr, hgr⟩
             rw [show rdI s = _ from HN.out] at hr ⊢
             have q1 := blk_grown HC1.out hgr (by intro e; injection e with e; omega)
             have c1 := blk_at q1 2 _ rfl
             have f1 := blk_free q1 2
             have HG := Lib.hid hgr
             have HR2 := Lib.hid hr
             clear q1 hr hgr)
          | (have F := Lib.hid (rstep (j := 2) (v := .int .i64 n) HS.out HC1.out HG.out (Nat.lt_succ_self _) hz (Nat.le_refl _) HO.out HR2.out)
             have D := Lib.hid (F.out.2.2.2.2.2 (rd_part_nil HW.out (partOk_of (by decide) (by decide) HLT.out.1 HLT.out.2 (by decide)) : Rd w2 (fun b => w1.heap.size ≤ b) PART (2, 0, n, 0, [], false, ()) [.int .i64 2, .int .u64 0, .int .i64 n, .float .f64 0, .slice none 0 0, .bool false]))
             have G := Lib.hid (F.out.2.2.2.1 hbel (Nat.le_refl _))
             obtain ⟨W, hW⟩ : ∃ W, w2.setCell ⟨wr.heap.size, 2, none⟩ (.int .i64 n) = W := ⟨_, rfl⟩
             rw [hW] at F D G ⊢
             refine wpL_load rfl 39 (.tmp 10) rfl ⟨wr.heap.size, 0, none⟩ rfl [.int .i64 2, .int .u64 0, .int .i64 n, .float .f64 0, .slice none 0 0, .bool false] _ (At.blk F.out.1) Try.underlying39 rfl rfl ?_)
          | (refine wpL_lit1 rfl (cs := [.int .i64 2, .int .u64 0, .int .i64 n, .float .f64 0, .slice none 0 0, .bool false]) (.tmp 49) rfl rfl Try.underlying22 info_part rfl (by decide) (by decide) rfl ?_)
          | (at_builtin
             refine wp_appO (w0 := W.alloc (.cells ([.int .i64 2, .int .u64 0, .int .i64 n, .float .f64 0, .slice none 0 0, .bool false] : List Value).toArray 39)) (m := 1) (r := [(2, 0, n, 0, [], false, ())]) (ys := [.int .i64 2, .int .u64 0, .int .i64 n, .float .f64 0, .slice none 0 0, .bool false]) rfl (.tmp 48) (.tmp 50) rfl (OwnG.below F.out.2.1 (below_alloc1 W _)) rfl (fun e => by cases e) (fun ad' e => by cases e; exact At.blk (heap_alloc_new W _)) (RdL.single ?_) (Below.refl _ _) Try.underlying22 info_part rfl (by decide) rfl rfl (by rw [bytes_part]; omega) (by omega) ?_ ?_
             · exact HO.out.apart (B := wr.heap.size + 1) (Nat.le_succ _) (by omega) D.out (below_alloc1 W _)
             · have := F.out.2.2.2.2.1; simp; omega
             intro v7 w7 hO7 hb7 _ _
             have HO7 := Lib.hid hO7
             have HB7 := Lib.hid hb7
             obtain ⟨A7, c7, rfl, _⟩ := OwnG.form hO7
             clear hO7 hb7))
        go_roundw
        case measure => simp [intOf]; omega
        case rel =>
          have zW := F.out.2.2.2.2.1
          have z7 := HB7.out.size
          have za : (W.alloc (.cells ([.int .i64 2, .int .u64 0, .int .i64 n, .float .f64 0, .slice none 0 0, .bool false] : List Value).toArray 39)).heap.size = W.heap.size + 1 := by simp
          rw [za] at z7
          have hO7 := HO7.out
          have hlen : (l ++ [((2, 0, n, 0, [], false, ()) : PartT)]).length = i + 1 := by simp [hl1]
          rw [hlen] at hO7
          have hB7 := G.out.trans (((below_alloc1 W (.cells ([.int .i64 2, .int .u64 0, .int .i64 n, .float .f64 0, .slice none 0 0, .bool false] : List Value).toArray 39)).mono (by omega)).trans (HB7.out.mono (by omega)))
          exact ⟨i + 1, _, l ++ [(2, 0, n, 0, [], false, ())], s1, by omega, rfl, by go_num, HV.out, hO7, (F.out.2.2.1.below (below_alloc1 W _)).keep (fun b hb hlt => HB7.out.block b (by rcases hb with h | h <;> omega)), by omega, hB7⟩
      by_cases k3 : k = 3
      · subst k3
        obtain ⟨n, s1, hns⟩ : ∃ n s1, rdF ofN s = (n, s1) := ⟨_, _, rfl⟩
        have HN := Lib.hid hns
        have HV := Lib.hid (show rdParts ofN (ks.take (i + 1)) (xs, false) = some (l ++ [(3, 0, 0, n, [], false, ())], s1) by rw [take_at hx, rdParts_snoc, HP.out]; simp only; unfold rdPart; simp only [hns]; rfl)
        have hlt := rdF_range s
        rw [hns] at hlt
        have HLT := Lib.hid hlt
        clear hlt
        clear hx hwf hns
        go_wp2_with (first
          | (refine wpL_store rfl 39 (.tmp 10) (.tmp 21) rfl wr.heap.size rfl _ _ 39 rfl (heap_alloc_new wr _) rfl rfl (by intro v hv; simp at hv; rcases hv with rfl | rfl | rfl | rfl | rfl | rfl <;> rfl) ?_
             intro w1 hc1 hg1
             have HC1 := Lib.hid hc1
             have HS := Lib.hid (rstart hg1)
             clear hc1 hg1)
          | (go_at_call 27
             refine (rrF_any w1 w.heap.size w.heap.size s (HR.out.below HS.out.1)).mono ?_
             rintro e w2 ⟨rfl, hr, hgr⟩
             rw [show rdF ofN s = _ from HN.out] at hr ⊢
             have q1 := blk_grown HC1.out hgr (by intro e; injection e with e; omega)
             have c1 := blk_at q1 3 _ rfl
             have f1 := blk_free q1 3
             have HG := Lib.hid hgr
             have HR2 := Lib.hid hr
             clear q1 hr hgr)
          | (have F := Lib.hid (rstep (j := 3) (v := .float .f64 n) HS.out HC1.out HG.out (Nat.lt_succ_self _) hz (Nat.le_refl _) HO.out HR2.out)
             have D := Lib.hid (F.out.2.2.2.2.2 (rd_part_nil HW.out (partOk_of (by decide) (by decide) (by decide) (by decide) HLT.out) : Rd w2 (fun b => w1.heap.size ≤ b) PART (3, 0, 0, n, [], false, ()) [.int .i64 3, .int .u64 0, .int .i64 0, .float .f64 n, .slice none 0 0, .bool false]))
             have G := Lib.hid (F.out.2.2.2.1 hbel (Nat.le_refl _))
             obtain ⟨W, hW⟩ : ∃ W, w2.setCell ⟨wr.heap.size, 3, none⟩ (.float .f64 n) = W := ⟨_, rfl⟩
             rw [hW] at F D G ⊢
             refine wpL_load rfl 39 (.tmp 10) rfl ⟨wr.heap.size, 0, none⟩ rfl [.int .i64 3, .int .u64 0, .int .i64 0, .float .f64 n, .slice none 0 0, .bool false] _ (At.blk F.out.1) Try.underlying39 rfl rfl ?_)
          | (refine wpL_lit1 rfl (cs := [.int .i64 3, .int .u64 0, .int .i64 0, .float .f64 n, .slice none 0 0, .bool false]) (.tmp 49) rfl rfl Try.underlying22 info_part rfl (by decide) (by decide) rfl ?_)
          | (at_builtin
             refine wp_appO (w0 := W.alloc (.cells ([.int .i64 3, .int .u64 0, .int .i64 0, .float .f64 n, .slice none 0 0, .bool false] : List Value).toArray 39)) (m := 1) (r := [(3, 0, 0, n, [], false, ())]) (ys := [.int .i64 3, .int .u64 0, .int .i64 0, .float .f64 n, .slice none 0 0, .bool false]) rfl (.tmp 48) (.tmp 50) rfl (OwnG.below F.out.2.1 (below_alloc1 W _)) rfl (fun e => by cases e) (fun ad' e => by cases e; exact At.blk (heap_alloc_new W _)) (RdL.single ?_) (Below.refl _ _) Try.underlying22 info_part rfl (by decide) rfl rfl (by rw [bytes_part]; omega) (by omega) ?_ ?_
             · exact HO.out.apart (B := wr.heap.size + 1) (Nat.le_succ _) (by omega) D.out (below_alloc1 W _)
             · have := F.out.2.2.2.2.1; simp; omega
             intro v7 w7 hO7 hb7 _ _
             have HO7 := Lib.hid hO7
             have HB7 := Lib.hid hb7
             obtain ⟨A7, c7, rfl, _⟩ := OwnG.form hO7
             clear hO7 hb7))
        go_roundw
        case measure => simp [intOf]; omega
        case rel =>
          have zW := F.out.2.2.2.2.1
          have z7 := HB7.out.size
          have za : (W.alloc (.cells ([.int .i64 3, .int .u64 0, .int .i64 0, .float .f64 n, .slice none 0 0, .bool false] : List Value).toArray 39)).heap.size = W.heap.size + 1 := by simp
          rw [za] at z7
          have hO7 := HO7.out
          have hlen : (l ++ [((3, 0, 0, n, [], false, ()) : PartT)]).length = i + 1 := by simp [hl1]
          rw [hlen] at hO7
          have hB7 := G.out.trans (((below_alloc1 W (.cells ([.int .i64 3, .int .u64 0, .int .i64 0, .float .f64 n, .slice none 0 0, .bool false] : List Value).toArray 39)).mono (by omega)).trans (HB7.out.mono (by omega)))
          exact ⟨i + 1, _, l ++ [(3, 0, 0, n, [], false, ())], s1, by omega, rfl, by go_num, HV.out, hO7, (F.out.2.2.1.below (below_alloc1 W _)).keep (fun b hb hlt => HB7.out.block b (by rcases hb with h | h <;> omega)), by omega, hB7⟩
      by_cases k4 : k = 4
      · subst k4
        obtain ⟨n, s1, hns⟩ : ∃ n s1, rdB 65536 s = (n, s1) := ⟨_, _, rfl⟩
        have HN := Lib.hid hns
        have HV := Lib.hid (show rdParts ofN (ks.take (i + 1)) (xs, false) = some (l ++ [(4, 0, 0, 0, n, false, ())], s1) by rw [take_at hx, rdParts_snoc, HP.out]; simp only; unfold rdPart; simp only [hns]; rfl)
        clear hx hwf hns
        go_wp2_with (first
          | (refine wpL_store rfl 39 (.tmp 10) (.tmp 21) rfl wr.heap.size rfl _ _ 39 rfl (heap_alloc_new wr _) rfl rfl (by intro v hv; simp at hv; rcases hv with rfl | rfl | rfl | rfl | rfl | rfl <;> rfl) ?_
             intro w1 hc1 hg1
             have HC1 := Lib.hid hc1
             have HS := Lib.hid (rstart hg1)
             clear hc1 hg1)
          | (go_at_call 29
             refine (rrB_any w1 w.heap.size w.heap.size 65536 s (HR.out.below HS.out.1) (by omega) (by omega)).mono ?_
             rintro e w2 ⟨v', rfl, hv, hr, hgr⟩
             rw [show rdB 65536 s = _ from HN.out] at hr hv
             have q1 := blk_grown HC1.out hgr (by intro e; injection e with e; omega)
             have c1 := blk_at q1 4 _ rfl
             have f1 := blk_free q1 4
             have HG := Lib.hid hgr
             have HR2 := Lib.hid hr
             have HVB := Lib.hid hv
             obtain ⟨Ab, cb, rfl⟩ := rd_slice hv
             clear hv
             clear q1 hr hgr)
          | (have F := Lib.hid (rstep (j := 4) (v := .slice Ab n.length cb) HS.out HC1.out HG.out (Nat.lt_succ_self _) hz (Nat.le_refl _) HO.out HR2.out)
             have D := Lib.hid (F.out.2.2.2.2.2 (rd_part_mk HW.out (partOk_of (by decide) (by decide) (by decide) (by decide) (by decide)) HVB.out : Rd w2 (fun b => w1.heap.size ≤ b) PART (4, 0, 0, 0, n, false, ()) [.int .i64 4, .int .u64 0, .int .i64 0, .float .f64 0, .slice Ab n.length cb, .bool false]))
             have G := Lib.hid (F.out.2.2.2.1 hbel (Nat.le_refl _))
             obtain ⟨W, hW⟩ : ∃ W, w2.setCell ⟨wr.heap.size, 4, none⟩ (.slice Ab n.length cb) = W := ⟨_, rfl⟩
             rw [hW] at F D G ⊢
             refine wpL_load rfl 39 (.tmp 10) rfl ⟨wr.heap.size, 0, none⟩ rfl [.int .i64 4, .int .u64 0, .int .i64 0, .float .f64 0, .slice Ab n.length cb, .bool false] _ (At.blk F.out.1) Try.underlying39 rfl rfl ?_)
          | (refine wpL_lit1 rfl (cs := [.int .i64 4, .int .u64 0, .int .i64 0, .float .f64 0, .slice Ab n.length cb, .bool false]) (.tmp 49) rfl rfl Try.underlying22 info_part rfl (by decide) (by decide) rfl ?_)
          | (at_builtin
             refine wp_appO (w0 := W.alloc (.cells ([.int .i64 4, .int .u64 0, .int .i64 0, .float .f64 0, .slice Ab n.length cb, .bool false] : List Value).toArray 39)) (m := 1) (r := [(4, 0, 0, 0, n, false, ())]) (ys := [.int .i64 4, .int .u64 0, .int .i64 0, .float .f64 0, .slice Ab n.length cb, .bool false]) rfl (.tmp 48) (.tmp 50) rfl (OwnG.below F.out.2.1 (below_alloc1 W _)) rfl (fun e => by cases e) (fun ad' e => by cases e; exact At.blk (heap_alloc_new W _)) (RdL.single ?_) (Below.refl _ _) Try.underlying22 info_part rfl (by decide) rfl rfl (by rw [bytes_part]; omega) (by omega) ?_ ?_
             · exact HO.out.apart (B := wr.heap.size + 1) (Nat.le_succ _) (by omega) D.out (below_alloc1 W _)
             · have := F.out.2.2.2.2.1; simp; omega
             intro v7 w7 hO7 hb7 _ _
             have HO7 := Lib.hid hO7
             have HB7 := Lib.hid hb7
             obtain ⟨A7, c7, rfl, _⟩ := OwnG.form hO7
             clear hO7 hb7))
        go_roundw
        case measure => simp [intOf]; omega
        case rel =>
          have zW := F.out.2.2.2.2.1
          have z7 := HB7.out.size
          have za : (W.alloc (.cells ([.int .i64 4, .int .u64 0, .int .i64 0, .float .f64 0, .slice Ab n.length cb, .bool false] : List Value).toArray 39)).heap.size = W.heap.size + 1 := by simp
          rw [za] at z7
          have hO7 := HO7.out
          have hlen : (l ++ [((4, 0, 0, 0, n, false, ()) : PartT)]).length = i + 1 := by simp [hl1]
          rw [hlen] at hO7
          have hB7 := G.out.trans (((below_alloc1 W (.cells ([.int .i64 4, .int .u64 0, .int .i64 0, .float .f64 0, .slice Ab n.length cb, .bool false] : List Value).toArray 39)).mono (by omega)).trans (HB7.out.mono (by omega)))
          exact ⟨i + 1, _, l ++ [(4, 0, 0, 0, n, false, ())], s1, by omega, rfl, by go_num, HV.out, hO7, (F.out.2.2.1.below (below_alloc1 W _)).keep (fun b hb hlt => HB7.out.block b (by rcases hb with h | h <;> omega)), by omega, hB7⟩
      by_cases k5 : k = 5
      · subst k5
        obtain ⟨n, s1, hns⟩ : ∃ n s1, rdFlag s = (n, s1) := ⟨_, _, rfl⟩
        have HN := Lib.hid hns
        have HV := Lib.hid (show rdParts ofN (ks.take (i + 1)) (xs, false) = some (l ++ [(5, 0, 0, 0, [], n, ())], s1) by rw [take_at hx, rdParts_snoc, HP.out]; simp only; unfold rdPart; simp only [hns]; rfl)
        clear hx hwf hns
        go_wp2_with (first
          | (refine wpL_store rfl 39 (.tmp 10) (.tmp 21) rfl wr.heap.size rfl _ _ 39 rfl (heap_alloc_new wr _) rfl rfl (by intro v hv; simp at hv; rcases hv with rfl | rfl | rfl | rfl | rfl | rfl <;> rfl) ?_
             intro w1 hc1 hg1
             have HC1 := Lib.hid hc1
             have HS := Lib.hid (rstart hg1)
             clear hc1 hg1)
          | (go_at_call 31
             refine (rrFlag_any w1 w.heap.size w.heap.size s (HR.out.below HS.out.1)).mono ?_
             rintro e w2 ⟨rfl, hr, hgr⟩
             rw [show rdFlag s = _ from HN.out] at hr ⊢
             have q1 := blk_grown HC1.out hgr (by intro e; injection e with e; omega)
             have c1 := blk_at q1 5 _ rfl
             have f1 := blk_free q1 5
             have HG := Lib.hid hgr
             have HR2 := Lib.hid hr
             clear q1 hr hgr)
          | (have F := Lib.hid (rstep (j := 5) (v := .bool n) HS.out HC1.out HG.out (Nat.lt_succ_self _) hz (Nat.le_refl _) HO.out HR2.out)
             have D := Lib.hid (F.out.2.2.2.2.2 (rd_part_nil HW.out (partOk_of (by decide) (by decide) (by decide) (by decide) (by decide)) : Rd w2 (fun b => w1.heap.size ≤ b) PART (5, 0, 0, 0, [], n, ()) [.int .i64 5, .int .u64 0, .int .i64 0, .float .f64 0, .slice none 0 0, .bool n]))
             have G := Lib.hid (F.out.2.2.2.1 hbel (Nat.le_refl _))
             obtain ⟨W, hW⟩ : ∃ W, w2.setCell ⟨wr.heap.size, 5, none⟩ (.bool n) = W := ⟨_, rfl⟩
             rw [hW] at F D G ⊢
             refine wpL_load rfl 39 (.tmp 10) rfl ⟨wr.heap.size, 0, none⟩ rfl [.int .i64 5, .int .u64 0, .int .i64 0, .float .f64 0, .slice none 0 0, .bool n] _ (At.blk F.out.1) Try.underlying39 rfl rfl ?_)
          | (refine wpL_lit1 rfl (cs := [.int .i64 5, .int .u64 0, .int .i64 0, .float .f64 0, .slice none 0 0, .bool n]) (.tmp 49) rfl rfl Try.underlying22 info_part rfl (by decide) (by decide) rfl ?_)
          | (at_builtin
             refine wp_appO (w0 := W.alloc (.cells ([.int .i64 5, .int .u64 0, .int .i64 0, .float .f64 0, .slice none 0 0, .bool n] : List Value).toArray 39)) (m := 1) (r := [(5, 0, 0, 0, [], n, ())]) (ys := [.int .i64 5, .int .u64 0, .int .i64 0, .float .f64 0, .slice none 0 0, .bool n]) rfl (.tmp 48) (.tmp 50) rfl (OwnG.below F.out.2.1 (below_alloc1 W _)) rfl (fun e => by cases e) (fun ad' e => by cases e; exact At.blk (heap_alloc_new W _)) (RdL.single ?_) (Below.refl _ _) Try.underlying22 info_part rfl (by decide) rfl rfl (by rw [bytes_part]; omega) (by omega) ?_ ?_
             · exact HO.out.apart (B := wr.heap.size + 1) (Nat.le_succ _) (by omega) D.out (below_alloc1 W _)
             · have := F.out.2.2.2.2.1; simp; omega
             intro v7 w7 hO7 hb7 _ _
             have HO7 := Lib.hid hO7
             have HB7 := Lib.hid hb7
             obtain ⟨A7, c7, rfl, _⟩ := OwnG.form hO7
             clear hO7 hb7))
        go_roundw
        case measure => simp [intOf]; omega
        case rel =>
          have zW := F.out.2.2.2.2.1
          have z7 := HB7.out.size
          have za : (W.alloc (.cells ([.int .i64 5, .int .u64 0, .int .i64 0, .float .f64 0, .slice none 0 0, .bool n] : List Value).toArray 39)).heap.size = W.heap.size + 1 := by simp
          rw [za] at z7
          have hO7 := HO7.out
          have hlen : (l ++ [((5, 0, 0, 0, [], n, ()) : PartT)]).length = i + 1 := by simp [hl1]
          rw [hlen] at hO7
          have hB7 := G.out.trans (((below_alloc1 W (.cells ([.int .i64 5, .int .u64 0, .int .i64 0, .float .f64 0, .slice none 0 0, .bool n] : List Value).toArray 39)).mono (by omega)).trans (HB7.out.mono (by omega)))
          exact ⟨i + 1, _, l ++ [(5, 0, 0, 0, [], n, ())], s1, by omega, rfl, by go_num, HV.out, hO7, (F.out.2.2.1.below (below_alloc1 W _)).keep (fun b hb hlt => HB7.out.block b (by rcases hb with h | h <;> omega)), by omega, hB7⟩
      have b1 : (k == 1) = false := beq_eq_false_iff_ne.2 k1
      have b2 : (k == 2) = false := beq_eq_false_iff_ne.2 k2
      have b3 : (k == 3) = false := beq_eq_false_iff_ne.2 k3
      have b4 : (k == 4) = false := beq_eq_false_iff_ne.2 k4
      have b5 : (k == 5) = false := beq_eq_false_iff_ne.2 k5
      have hcut : ks = ks.take (i + 1) ++ ks.drop (i + 1) := (List.take_append_drop _ _).symm
      have HN := Lib.hid (show partsL ofN xs ks = none by
          unfold partsL
          rw [hcut, rdParts_none _ _ _ (show rdParts ofN (ks.take (i + 1)) (xs, false) = none by rw [take_at hx, rdParts_snoc, HP.out]; simp only; unfold rdPart; rw [if_neg k1, if_neg k2, if_neg k3, if_neg k4, if_neg k5])])
      clear hx hwf hcut k1 k2 k3 k4 k5
      go_wp2_with (first
          | (refine wpL_store rfl 39 (.tmp 10) (.tmp 21) rfl wr.heap.size rfl _ _ 39 rfl (heap_alloc_new wr _) rfl rfl (by intro v hv; simp at hv; rcases hv with rfl | rfl | rfl | rfl | rfl | rfl <;> rfl) ?_
             intro w1 hc1 hg1
             have HC1 := Lib.hid hc1
             have HS := Lib.hid (rstart hg1)
             clear hc1 hg1))
      refine bodyPost_ret (results_tmp2 rfl _ _ _) rfl ?_
      exact parts_bad HN.out (hbel.trans (HS.out.1.mono (by omega)))
    · obtain rfl : i = m := by omega
      have hall : ks.take i = ks := List.take_of_length_le (by omega)
      rw [hall] at HP
      have hrd := HO.out
      rw [← hl1] at hrd
      have HRD := Lib.hid (hrd.rd)
      rw [hl1] at HRD
      clear hrd hall
      by_cases hbad : s.2 = true ∨ s.1 ≠ []
      · have HN := Lib.hid (show partsL ofN xs ks = none by unfold partsL; rw [HP.out]; simp only; rw [if_pos hbad])
        have HE := Lib.hid (show (if s.2 = true ∨ s.1 ≠ [] then 20 else 0 : Int) = 20 from if_pos hbad)
        clear hbad
        go_wp2_with (go_at_call 34; refine (rrEnd_any wr _ _ s HR.out).mono ?_; rintro e w10 ⟨rfl, rfl⟩; rw [HE.out])
        refine bodyPost_ret (results_tmp2 rfl _ _ _) rfl ?_
        exact parts_bad HN.out hbel
      · have HN := Lib.hid (show partsL ofN xs ks = some l by unfold partsL; rw [HP.out]; simp only; rw [if_neg hbad])
        have HE := Lib.hid (show (if s.2 = true ∨ s.1 ≠ [] then 20 else 0 : Int) = 0 from if_neg hbad)
        clear hbad
        go_wp2_with (go_at_call 34; refine (rrEnd_any wr _ _ s HR.out).mono ?_; rintro e w10 ⟨rfl, rfl⟩; rw [HE.out])
        refine bodyPost_ret (results_tmp2 rfl _ _ _) rfl ?_
        exact parts_good HN.out (HRD.out.weak (fun b hb _ => by omega)) hbel
end Go.Proofs.Ytnolhnlhohpkpaa
namespace Go.Proofs.Ytnolhnlhohpkpaa
open Go.RowKit Cdc
set_option linter.unusedVariables false
set_option linter.unusedSimpArgs false
attribute [local go_sem] run_store_float
set_option maxRecDepth 20000 in
theorem info_lst : (Try.prog.info? 67).map (fun i => (i.zero, i.size, i.bytes)) = some (some (.agg #[.int .u64 0, .string ⟨#[]⟩]), 2, (Try.prog.bytesOf 67)) := by kernel_rfl
set_option maxRecDepth 20000 in
theorem bytes_lst : Try.prog.bytesOf 67 = 24 := by kernel_rfl
set_option maxRecDepth 20000 in
theorem bytes_task : Try.prog.bytesOf 63 = 80 := by kernel_rfl
/-- A reader at work, the result's box and the state's box. -/
def OS (w W : World) (g b : Nat) (s : St) (c : Array Value) : Prop :=
  RdAt W g s ∧ w.heap.size < g ∧ g < b ∧ W.heap[w.heap.size]? = some (.cells #[Value.slice none 0 0, Value.slice none 0 0] 59 (0, 0)) ∧ W.heap[b]? = some (.cells c 59 (0, 0)) ∧ Below w.heap.size w W ∧ b < W.heap.size
set_option maxRecDepth 20000 in
theorem OS.read {w W W' : World} {g b : Nat} {s s' : St} {c : Array Value} (h : OS w W g b s c) (hg : W.grownBy W' (some g)) (hr : RdAt W' g s') : OS w W' g b s' c := by
  obtain ⟨h1, h2, h3, h4, h5, h6, h7⟩ := h
  exact ⟨hr, h2, h3, blk_grown h4 hg (by intro e; injection e; omega), blk_grown h5 hg (by intro e; injection e; omega), below_grown2 h6 hg h6.size (by omega), Nat.lt_of_lt_of_le h7 hg.size⟩
set_option maxRecDepth 20000 in
theorem OS.set {w W : World} {g b : Nat} {s : St} {c : Array Value} (h : OS w W g b s c) (j : Nat) (v : Value) : OS w (W.setCell ⟨b, j, none⟩ v) g b s (c.setIfInBounds j v) := by
  obtain ⟨h1, h2, h3, h4, h5, h6, h7⟩ := h
  have h0 : W.grownBy (W.setCell ⟨b, j, none⟩ v) (some b) := grown_set (grown_refl _ _)
  exact ⟨h1.grown h0 (by omega), h2, h3, blk_other h4 j v (by omega), blk_set h5 j v, below_grown2 h6 h0 h6.size (by omega), Nat.lt_of_lt_of_le h7 h0.size⟩
set_option maxRecDepth 20000 in
theorem OS.below {w W W' : World} {g b : Nat} {s : St} {c : Array Value} (h : OS w W g b s c) (hb : Below W.heap.size W W') : OS w W' g b s c := by
  obtain ⟨h1, h2, h3, h4, h5, h6, h7⟩ := h
  exact ⟨h1.below hb, h2, h3, blk_below h4 hb (blk_lt h4), blk_below h5 hb h7, h6.trans (hb.mono h6.size), Nat.lt_of_lt_of_le h7 hb.size⟩
set_option maxRecDepth 20000 in
theorem OS.app {w W W' : World} {g b : Nat} {s : St} {c : Array Value} {r : Option Nat} (h : OS w W g b s c) (hg : W.grownBy W' r) (hr : ∀ k, r = some k → b < k) : OS w W' g b s c := by
  obtain ⟨h1, h2, h3, h4, h5, h6, h7⟩ := h
  have ne : ∀ k, k ≤ b → some k ≠ r := fun k hk e => by have := hr k e.symm; omega
  refine ⟨?_, h2, h3, blk_grown h4 hg (ne _ (by omega)), blk_grown h5 hg (ne _ (Nat.le_refl _)), h6.grown hg h6.size (fun k e => by have := hr k e; omega), Nat.lt_of_lt_of_le h7 hg.size⟩
  obtain ⟨A, c, hq, q1, q2, q3, q4, q5⟩ := h1
  refine ⟨A, c, blk_grown hq hg (ne _ (by omega)), q1, q2, q3, q4.grown hg (fun hx e => ?_), q5⟩
  cases A with
  | none => have := q4.2.2.1 rfl; exact hx (List.eq_nil_of_length_eq_zero this)
  | some ad => exact ne ad.block (by have := q5 hx ad rfl; omega) e
set_option maxRecDepth 20000 in
theorem rdl_lst {w w' : World} {ok ok' : Nat → Prop} : ∀ {l : List LIST.Ty} {xs : List Value}, RdL w ok LIST l xs → RdL w' ok' LIST l xs
  | [], _, h => h
  | x :: l, xs, h => by
    obtain ⟨c1, c2, rfl, h1, h2⟩ := h
    obtain ⟨i, t, rfl, rfl, hok⟩ := rd_lst h1
    exact ⟨_, c2, rfl, rd_lst_mk hok, rdl_lst h2⟩
set_option maxRecDepth 20000 in
theorem Own.lst_grown {w w' : World} {base : Nat} {e : TypeId} {v : Value} {l : List LIST.Ty} {r : Option Nat} (h : Own w base e LIST v l) (hg : w.grownBy w' r) (hne : ∀ kb, v.ownBlock = some kb → r ≠ some kb) : Own w' base e LIST v l := by
  obtain ⟨xs, ho, hr⟩ := h
  refine ⟨xs, ?_, rdl_lst hr⟩
  obtain ⟨h1, h2 | ⟨g', cap, cur, hv, hg', hh, h3⟩⟩ := ho
  · exact ⟨h1, .inl h2⟩
  · exact ⟨h1, .inr ⟨g', cap, cur, hv, hg', (hg.block g' (Array.getElem?_eq_some_iff.1 hh).1 (fun e => hne g' (by rw [hv]; rfl) e.symm)).trans hh, h3⟩⟩
def ofState (b : List UInt8) : (List LIST.Ty × List TASK.Ty) × Int :=
  if (rdState b).2.2 = true ∨ (rdState b).2.1 ≠ [] ∨ rightE (rdState b).1.1 (rdState b).1.2 ≠ 0 then (([], []), 90) else ((rdState b).1, 0)
def OfPost (w : World) (xs : List UInt8) (e : Ending) (w' : World) : Prop :=
  ∃ cs : List Value, e = .returned (.tuple #[.agg cs.toArray, .int .i64 (ofState xs).2]) ∧ Rd w' (fun k => w.heap.size ≤ k) STATE ((ofState xs).1.1, (ofState xs).1.2, ()) cs ∧ Below w.heap.size w w'
set_option maxRecDepth 20000 in
theorem of_bad {w w' : World} {xs : List UInt8} (h : (rdState xs).2.2 = true ∨ (rdState xs).2.1 ≠ [] ∨ rightE (rdState xs).1.1 (rdState xs).1.2 ≠ 0) (hb : Below w.heap.size w w') : OfPost w xs (.returned (.tuple #[.agg #[Value.slice none 0 0, Value.slice none 0 0], .int .i64 90])) w' := by
  have e : ofState xs = (([], []), 90) := if_pos h
  unfold OfPost
  rw [e]
  exact ⟨[.slice none 0 0, .slice none 0 0], rfl, rd_state_mk trivial (rd_nil _ _ _) (rd_nil _ _ _), hb⟩
set_option maxRecDepth 20000 in
theorem of_good {w W w' : World} {g b k q : Nat} {Av Bv : Option Addr} {cv dv : Nat} {xs : List UInt8} {s : St} {l : List LIST.Ty} {t : List TASK.Ty} (hv : rdState xs = ((l, t), s)) (h1 : ¬ (s.2 = true ∨ s.1 ≠ [])) (h2 : rightE l t = 0)
    (hO : OS w W g b s #[.slice Av k cv, .slice Bv q dv]) (hl : Own W (b + 1) 67 LIST (.slice Av k cv) l) (ht : Own W (b + 1) 63 TASK (.slice Bv q dv) t) (hg : W.grownBy w' (some w.heap.size)) : OfPost w xs (.returned (.tuple #[.agg #[.slice Av k cv, .slice Bv q dv], .int .i64 0])) w' := by
  have e : ofState xs = ((l, t), 0) := by
    unfold ofState
    rw [hv]
    exact if_neg (fun h => h.elim (fun h => h1 (.inl h)) (fun h => h.elim (fun h => h1 (.inr h)) (fun h => h h2)))
  unfold OfPost
  rw [e]
  have hlt : w.heap.size < b + 1 := by have := hO.2.1; have := hO.2.2.1; omega
  have f1 := (Own.rd hl).of (w' := w') (ok' := fun kb => w.heap.size ≤ kb) (fun a u hk hc => cell_grown hg hc (by intro e; injection e with e; have h1 : b + 1 ≤ a.block := hk; omega)) (fun kb hk _ => by have h1 : b + 1 ≤ kb := hk; omega)
  have f2 := (Own.rd ht).of (w' := w') (ok' := fun kb => w.heap.size ≤ kb) (fun a u hk hc => cell_grown hg hc (by intro e; injection e with e; have h1 : b + 1 ≤ a.block := hk; omega)) (fun kb hk _ => by have h1 : b + 1 ≤ kb := hk; omega)
  exact ⟨[.slice Av k cv, .slice Bv q dv], rfl, rd_state_mk trivial f1 f2, below_grown2 hO.2.2.2.2.2.1 hg hO.2.2.2.2.2.1.size (Nat.le_refl _)⟩
set_option maxHeartbeats 2000000 in
set_option maxRecDepth 20000 in
theorem ofst_any (w : World) (A : Option Addr) (n c : Nat) (xs : List UInt8) (h : Rd w anyB (.sl .byte) xs [.slice A n c]) (hn : xs.length ≤ 100000) :
    Calls Try.prog 48 #[.slice A n c] w (OfPost w xs) := by
  have H := Lib.hid h
  have hb0 := below_alloc1 w (.cells #[Value.slice none 0 0, Value.slice none 0 0] 59)
  have HB0 := Lib.hid hb0
  have HZ0 := Lib.hid (heap_alloc_new w (.cells #[Value.slice none 0 0, Value.slice none 0 0] 59))
  have HR := Lib.hid (read_any (w.alloc (.cells #[Value.slice none 0 0, Value.slice none 0 0] 59)) A n c xs (H.out.of (fun _ _ _ hc => cell_below hb0 hc) (fun _ _ _ => trivial)) hn)
  clear h hb0
  go_enter Try.func48, Try.ntmps48
  go_wp2_with fail
  refine HR.out.mono ?_
  rintro e w1 ⟨g, rfl, hg, hr, hb⟩
  have hwg : w.heap.size < g := by simp at hg; omega
  have HG := Lib.hid hr
  have HB1 := Lib.hid hb
  clear hr hb hg
  go_wp2_with fail
  obtain ⟨v1, hv1⟩ : ∃ v, w1.alloc (.cells #[Value.slice none 0 0, Value.slice none 0 0] 59) = v := ⟨_, rfl⟩
  have O0 := Lib.hid (show OS w v1 g w1.heap.size (xs, false) #[Value.slice none 0 0, Value.slice none 0 0] from by
    rw [← hv1]
    have h1 := HG.out.lt
    exact ⟨HG.out.below (below_alloc1 _ _), hwg, h1, blk_alloc (blk_below HZ0.out HB1.out (by simp)) _, heap_alloc_new w1 _, (HB0.out.trans (HB1.out.mono (by simp))).trans ((below_alloc1 w1 _).mono (by have := HB1.out.size; simp at this; omega)), by simp⟩)
  rw [hv1]
  obtain ⟨b, hb⟩ : ∃ b, w1.heap.size = b := ⟨_, rfl⟩
  rw [hb] at O0 ⊢
  clear hv1 hb
  refine (rN_any v1 g 60 (xs, false) O0.out.1).mono ?_
  rintro e w2 ⟨rfl, hr, hg⟩
  obtain ⟨m, s1, e1⟩ : ∃ n s', rdN 60 (xs, false) = (n, s') := ⟨_, _, rfl⟩
  rw [e1] at hr ⊢
  have hm : m ≤ 60 := by have := rdN_most 60 (xs, false); rw [e1] at this; exact this
  have hs1 : s1.1.length ≤ xs.length := by have := rdN_len 60 (xs, false); rw [e1] at this; exact this
  have E1 := Lib.hid e1
  have O1 := Lib.hid (O0.out.read hg hr)
  clear hr hg e1 O0
  go_wp2_with fail
  go_loopw [6] (fun s6 wr => ∃ (k : Nat) (v : Value) (l : List LIST.Ty) (s' : St), k ≤ m ∧ s6 = .int .u64 ((m - k : Nat) : Int) ∧ rdMany rdList k s1 = (l, s') ∧ OS w wr g b s' #[v, .slice none 0 0] ∧ Own wr (b + 1) 67 LIST v l) (fun s6 _ => (intOf s6).toNat)
  case atStart => exact ⟨0, _, [], s1, by omega, rfl, rfl, O1.out, Own.nil _ _ _ _⟩
  case round =>
    obtain ⟨k, v, l, s', hk, rfl, hrt, hO, hOw⟩ := hrel
    have HO := Lib.hid hO
    have HW := Lib.hid hOw
    have HT := Lib.hid hrt
    have hb1 := hO.2.2.2.2.2.2
    have hl2 : s'.1.length ≤ s1.1.length := by have := rdMany_len rdList_len k s1; rw [hrt] at this; exact this.2
    have hlk : l.length = k := by have := rdMany_len rdList_len k s1; rw [hrt] at this; exact this.1
    clear hO hOw hrt
    by_cases hlt : k < m
    · have j0 : (0 : Int) < ((m - k : Nat) : Int) := by omega
      obtain ⟨i1, s2, e2⟩ : ∃ n t', rdN FULL s' = (n, t') := ⟨_, _, rfl⟩
      obtain ⟨b3, s3, e3⟩ : ∃ n s', rdB 60 s2 = (n, s') := ⟨_, _, rfl⟩
      have hs2 : s2.1.length ≤ s'.1.length := by have := rdN_len FULL s'; rw [e2] at this; exact this
      have hi1 : i1 < 18446744073709551616 := by have := rdN_lt (most := FULL) (s := s') (by unfold FULL; omega); rw [e2] at this; exact this
      have hb3 : (⟨b3.toArray⟩ : ByteArray).size ≤ 9223372036854775807 := by have := rdB_most 60 s2; rw [e3] at this; show b3.toArray.size ≤ _; simp only [List.size_toArray] at this ⊢; omega
      have HN := Lib.hid (show rdMany rdList (k + 1) s1 = (l ++ [((i1 : Int), ⟨b3.toArray⟩, ())], s3) by rw [rdMany_snoc, HT.out]; unfold rdList; simp only [e2, e3])
      have E2 := Lib.hid e2
      have E3 := Lib.hid e3
      obtain ⟨Av, cv, rfl, _⟩ := HW.out.form
      rw [hlk] at HW HO
      have HLK := Lib.hid hlk
      have hvb : ∀ kb, (Value.slice Av k cv).ownBlock = some kb → b + 1 ≤ kb := fun kb e => by obtain ⟨xs, ho, _⟩ := HW.out; exact own_base ho kb e
      clear e2 e3 hlk
      go_wp2_with fail
      refine (rN_any wr g 18446744073709551615 s' HO.out.1).mono ?_
      rintro e w3 ⟨rfl, hr, hg⟩
      rw [show rdN 18446744073709551615 s' = _ from E2.out] at hr ⊢
      have O3 := Lib.hid (HO.out.read hg hr)
      have W3 := Lib.hid (Own.grown HW.out hg (by have := HO.out.2.2.1; omega))
      clear hr hg
      go_wp2_with fail
      obtain ⟨v3, hv3⟩ : ∃ v, w3.alloc (.cells #[.int .u64 i1, .string ⟨#[]⟩] 67) = v := ⟨_, rfl⟩
      have hbw := below_alloc1 w3 (.cells #[.int .u64 i1, .string ⟨#[]⟩] 67)
      have hbn := heap_alloc_new w3 (.cells #[.int .u64 i1, .string ⟨#[]⟩] 67)
      rw [hv3] at hbw hbn ⊢
      have O4 := Lib.hid (O3.out.below hbw)
      have W4 := Lib.hid (W3.out.below hbw)
      have hd : b < w3.heap.size := O3.out.2.2.2.2.2.2
      obtain ⟨d, hdd⟩ : ∃ d, w3.heap.size = d := ⟨_, rfl⟩
      rw [hdd] at hbn hd ⊢
      have HD4 := Lib.hid hbn
      have HA4 := Lib.hid hbw
      have hz4 := hbw.size
      have hd3 : w3.heap.size ≤ d := by omega
      clear hv3 hbw hbn hdd
      refine (rB_any v3 g 60 s2 O4.out.1 (by omega) (by omega)).mono ?_
      rintro e w5 ⟨vD, rfl, hrd, hr, hg⟩
      obtain ⟨Ad, cd, rfl, _, _, _, hbs⟩ := rd_bs hrd
      rw [E3.out] at hr hbs ⊢
      have O5 := Lib.hid (O4.out.read hg hr)
      have W5 := Lib.hid (Own.grown W4.out hg (by have := O4.out.2.2.1; omega))
      have HD5 := Lib.hid (blk_grown HD4.out hg (by intro e; injection e; have := O4.out.2.2.1; omega))
      have HG5 := Lib.hid hg
      have hconv := conv_bs (c := cd) hbs
      have cx := blk_at HD5.out 1 _ rfl
      have fx := blk_free HD5.out 1
      clear hrd hr hg hbs
      have hgs : w5.grownBy (w5.setCell ⟨d, 1, none⟩ (.string ⟨b3.toArray⟩)) (some d) := grown_set (grown_refl _ _)
      have HD6 := Lib.hid (blk_set HD5.out 1 (.string ⟨b3.toArray⟩))
      obtain ⟨v6, hv6⟩ : ∃ v, w5.setCell ⟨d, 1, none⟩ (.string ⟨b3.toArray⟩) = v := ⟨_, rfl⟩
      rw [hv6] at hgs HD6
      have O6 := Lib.hid (O5.out.app hgs (fun k e => by injection e; omega))
      have W6 := Lib.hid (Own.keep W3.out (fun kb h1 h2 => ((hgs.block kb (by have := HG5.out.size; omega) (by intro e; injection e; omega)).trans ((HG5.out.block kb (by omega) (by intro e; injection e; have := O3.out.2.2.1; omega)).trans (HA4.out.block kb h2)))))
      have c6 := blk_at O6.out.2.2.2.2.1 0 _ rfl
      have HG6 := Lib.hid hgs
      have hi2 : ((i1 : Nat) : Int) < 18446744073709551616 := by omega
      have HLO := Lib.hid (show LISTOk ((i1 : Int), (⟨b3.toArray⟩ : ByteArray), ()) from ⟨⟨Int.natCast_nonneg _, hi2⟩, hb3⟩)
      have hkm : (k + 1) * 24 ≤ 140737488355328 := by omega
      have hbs6 : b + 1 ≤ (v6.alloc (.cells [Value.int .u64 (i1 : Int), Value.string ⟨b3.toArray⟩].toArray 67)).heap.size := by rw [show (v6.alloc (.cells [Value.int .u64 (i1 : Int), Value.string ⟨b3.toArray⟩].toArray 67)).heap.size = v6.heap.size + 1 by simp]; have : b < v6.heap.size := O6.out.2.2.2.2.2.2; omega
      have hdv : b < v6.heap.size := O6.out.2.2.2.2.2.2
      clear hgs
      go_wp2_with (first
        | (refine wpL_load rfl 67 (.tmp 7) rfl ⟨d, 0, none⟩ rfl [Value.int .u64 (i1 : Int), Value.string ⟨b3.toArray⟩] _ (At.blk HD6.out) Try.underlying67 rfl rfl ?_)
        | (refine wpL_lit1 rfl (cs := [Value.int .u64 (i1 : Int), Value.string ⟨b3.toArray⟩]) (.tmp 26) rfl rfl Try.underlying56 info_lst rfl (by decide) (by decide) rfl ?_)
        | (at_builtin
           go_loud (refine wp_appO (w0 := v6.alloc (.cells ([Value.int .u64 (i1 : Int), Value.string ⟨b3.toArray⟩]).toArray 67)) (m := 1) (S := LIST) (r := [((i1 : Int), (⟨b3.toArray⟩ : ByteArray), ())]) (ys := [Value.int .u64 (i1 : Int), Value.string ⟨b3.toArray⟩]) rfl (.tmp 25) (.tmp 27) rfl (W6.out.below (below_alloc1 v6 _)) rfl (fun e => by cases e) (fun ad' e => by cases e; exact At.blk (heap_alloc_new v6 _)) (RdL.single (rd_lst_mk HLO.out)) (Below.refl _ _) Try.underlying56 info_lst rfl (by decide) rfl rfl (by rw [bytes_lst, HLK.out]; exact hkm) (by rw [HLK.out]; omega) hbs6 ?_)
           intro v7 w7 hO7 hb7 hg7 _
           obtain ⟨A7, c7, rfl, _⟩ := hO7.form
           have hl7 : (l ++ [((i1 : Int), (⟨b3.toArray⟩ : ByteArray), ())]).length = k + 1 := by rw [List.length_append, HLK.out]; rfl
           rw [hl7] at hO7 ⊢
           clear hl7
           have X7 := Lib.hid ((O6.out.below (below_alloc1 v6 (.cells ([Value.int .u64 (i1 : Int), Value.string ⟨b3.toArray⟩]).toArray 67))).app hg7 (fun kb e => hvb kb e))
           have HO7 := Lib.hid hO7
           clear hO7 hb7 hg7
           have cx7 := blk_at X7.out.2.2.2.2.1 0 _ rfl
           have fx7 := blk_free X7.out.2.2.2.2.1 0))
      have X8 := Lib.hid (X7.out.set 0 (.slice A7 (k + 1) c7))
      have W8 := Lib.hid (Own.grown HO7.out (grown_set (j := 0) (v := .slice A7 (k + 1) c7) (grown_refl w7 (some b))) (Nat.lt_succ_self b))
      have hnk : IntKind.u64.wrap (((m - k : Nat) : Int) - 1) = ((m - (k + 1) : Nat) : Int) := by rw [IntKind.wrap_u64]; omega
      go_wp2_with fail
      go_roundw
      case measure => simp [intOf]; omega
      case rel => exact ⟨k + 1, _, _, s3, by omega, congrArg (Value.int IntKind.u64) (by omega), HN.out, X8.out, W8.out⟩
    · obtain rfl : k = m := by omega
      obtain ⟨m2, s2, e2⟩ : ∃ n t', rdN 60 s' = (n, t') := ⟨_, _, rfl⟩
      have hm2 : m2 ≤ 60 := by have := rdN_most 60 s'; rw [e2] at this; exact this
      have hs2 : s2.1.length ≤ s'.1.length := by have := rdN_len 60 s'; rw [e2] at this; exact this
      have E2 := Lib.hid e2
      obtain ⟨Av, cv, rfl, _⟩ := HW.out.form
      rw [hlk] at HW HO
      have HLK := Lib.hid hlk
      clear e2 hlk
      go_wp2_with fail
      refine (rN_any wr g 60 s' HO.out.1).mono ?_
      rintro e w3 ⟨rfl, hr, hg⟩
      rw [E2.out] at hr ⊢
      have O3 := Lib.hid (HO.out.read hg hr)
      have W3 := Lib.hid (Own.grown HW.out hg (by have := HO.out.2.2.1; omega))
      clear hr hg HO HW
      go_wp2_with fail
      go_loopw [8] (fun s8 wt => ∃ (q : Nat) (v : Value) (t : List TASK.Ty) (s' : St), q ≤ m2 ∧ s8 = .int .u64 ((m2 - q : Nat) : Int) ∧ rdMany rdTask q s2 = (t, s') ∧ OS w wt g b s' #[.slice Av k cv, v] ∧ Own wt (b + 1) 67 LIST (.slice Av k cv) l ∧ Own wt (b + 1) 63 TASK v t ∧ (∀ kb, (Value.slice Av k cv).ownBlock = some kb → v.ownBlock ≠ some kb)) (fun s8 _ => (intOf s8).toNat)
      case atStart => exact ⟨0, _, [], s2, by omega, rfl, rfl, O3.out, W3.out, Own.nil _ _ _ _, fun kb _ e => by cases e⟩
      case round =>
        obtain ⟨q, v, t, s4, hq, rfl, hrt2, hO, hOw, hOt, hne⟩ := hrel
        have HO := Lib.hid hO
        have HL := Lib.hid hOw
        have HK := Lib.hid hOt
        have HT2 := Lib.hid hrt2
        have HNE := Lib.hid hne
        have hb2 := hO.2.2.2.2.2.2
        have hl4 : s4.1.length ≤ s2.1.length := by have := rdMany_len rdTask_len q s2; rw [hrt2] at this; exact this.2
        have hlt4 : t.length = q := by have := rdMany_len rdTask_len q s2; rw [hrt2] at this; exact this.1
        clear hO hOw hOt hrt2 hne
        by_cases hlt : q < m2
        · have j0 : (0 : Int) < ((m2 - q : Nat) : Int) := by omega
          obtain ⟨y5, s5, e5⟩ : ∃ n t', rdTask s4 = (n, t') := ⟨_, _, rfl⟩
          have E5 := Lib.hid e5
          have HN2 := Lib.hid (show rdMany rdTask (q + 1) s2 = (t ++ [y5], s5) by rw [rdMany_snoc, HT2.out]; simp only [e5])
          have hvb : ∀ kb, v.ownBlock = some kb → b + 1 ≤ kb := fun kb e => by obtain ⟨xs, ho, _⟩ := HK.out; exact own_base ho kb e
          obtain ⟨Bv, dv, rfl, _⟩ := HK.out.form
          rw [hlt4] at HK HO HNE hvb
          have HLT := Lib.hid hlt4
          have hqm : (q + 1) * 80 ≤ 140737488355328 := by omega
          clear e5 hlt4
          go_wp2_with fail
          refine region_inU 5 (fun W => W.cell? ⟨b, 1, none⟩ = some (.slice Bv q dv)) (by kernel_rfl) (fun x1 hx1 heq => ?_)
          have X1 := Lib.hid (HO.out.below hx1)
          have L1 := Lib.hid (HL.out.below hx1)
          have K1 := Lib.hid (HK.out.below hx1)
          have hHeld := blk_at X1.out.2.2.2.2.1 1 _ rfl
          clear hx1 heq
          first
            | (refine takeT (i := 0) (v := ?_) rfl (by kernel_rfl) (by kernel_rfl) (by kernel_rfl) (fun _ _ _ h => h) (by kernel_rfl) (Or.inl ⟨by rfl, ?_⟩) (fun _ => hHeld) ?_; rotate_left; (focus (intro W hSw; go_simp; (try rfl); done)); (try simp only [Act.put, List.setIfInBounds_toArray, List.set_cons_zero, List.set_cons_succ]))
            | (fail "UTAKE 0")
          first
            | (refine takeU (i := 1) (v := ?_) rfl (by kernel_rfl) (by kernel_rfl) (by kernel_rfl) (fun _ _ _ h => h) (by kernel_rfl) (by kernel_rfl) (by kernel_rfl) (Or.inl ⟨by rfl, ?_⟩) hHeld ?_; rotate_left; (focus (intro W hSw; (try dsimp only at hSw); go_simp; (try rfl); done)); (try simp only [Act.put, List.setIfInBounds_toArray, List.set_cons_zero, List.set_cons_succ]))
            | (fail "UTAKE 1")
          first
            | (refine takeT (i := 2) (v := ?_) rfl (by kernel_rfl) (by kernel_rfl) (by kernel_rfl) (fun _ _ _ h => h) (by kernel_rfl) (Or.inl ⟨by rfl, ?_⟩) (fun _ => hHeld) ?_; rotate_left; (focus (intro W hSw; go_simp; (try rfl); done)); (try simp only [Act.put, List.setIfInBounds_toArray, List.set_cons_zero, List.set_cons_succ]))
            | (fail "UTAKE 2")
          refine callU (i := 3) rfl (by kernel_rfl) (by kernel_rfl) (fun K hK => ?_)
          (try clear hHeld)
          go_simp
          refine (oftask_any x1 g s4 X1.out.1 (by omega)).mono ?_
          rintro e x2 ⟨cs, rfl, hrd, hr, hg⟩
          rw [E5.out] at hrd hr
          have X2 := Lib.hid (X1.out.read hg hr)
          have L2 := Lib.hid (Own.grown L1.out hg (by have := X1.out.2.2.1; omega))
          have K2 := Lib.hid (Own.grown K1.out hg (by have := X1.out.2.2.1; omega))
          have R2 := Lib.hid hrd
          have hcl : cs.length = 7 := hrd.len
          have C2 := blk_at X2.out.2.2.2.2.1 1 _ rfl
          clear hrd hr hg
          have hHeld := C2
          refine hK.out (fun W => W.cell? ⟨b, 1, none⟩ = some (.slice Bv q dv)) _ _ (fun _ => hHeld) (fun _ h => h) ?_
          (try simp only [Act.put, List.setIfInBounds_toArray, List.set_cons_zero, List.set_cons_succ])
          refine callU (i := 4) rfl (by kernel_rfl) (by kernel_rfl) (fun K hK => ?_)
          clear hHeld
          refine wpo_lit1 (cs := cs) (.tmp 39) rfl rfl Try.underlying57 info_task rfl (by decide) (by decide) hcl ?_
          have hb3 := below_alloc1 x2 (.cells cs.toArray 63)
          have X3 := Lib.hid (X2.out.below hb3)
          have L3 := Lib.hid (L2.out.below hb3)
          have K3 := Lib.hid (K2.out.below hb3)
          have C3 := blk_at X3.out.2.2.2.2.1 1 _ rfl
          have AT3 := Lib.hid (At.blk (heap_alloc_new x2 (.cells cs.toArray 63)))
          have R3 := Lib.hid (Own.apart K1.out (Nat.le_refl _) (Nat.succ_le_of_lt X1.out.2.2.2.2.2.2) R2.out hb3)
          have hsz3 : b + 1 ≤ (x2.alloc (.cells cs.toArray 63)).heap.size := X3.out.2.2.2.2.2.2
          clear hb3
          have hHeld := C3
          refine hK.out (fun W => W.cell? ⟨b, 1, none⟩ = some (.slice Bv q dv)) _ _ (fun _ => hHeld) (fun _ h => h) ?_
          (try simp only [Act.put, List.setIfInBounds_toArray, List.set_cons_zero, List.set_cons_succ])
          refine callU (i := 5) rfl (by kernel_rfl) (by kernel_rfl) (fun K hK => ?_)
          clear hHeld
          refine wpo_appO (w0 := x2.alloc (.cells cs.toArray 63)) (m := 1) (S := TASK) (r := [y5]) (ys := cs) (.tmp 37) (.tmp 40) rfl K3.out rfl (fun e => by cases e) (fun ad' e => by cases e; exact AT3.out) (RdL.single R3.out) (Below.refl _ _) Try.underlying57 info_task rfl (by decide) rfl rfl (by rw [bytes_task, HLT.out]; exact hqm) (by rw [HLT.out]; omega) hsz3 ?_
          intro v7 x4 hO7 hb7 hg7 hfr
          have hne7 : ∀ kb, (Value.slice Av k cv).ownBlock = some kb → v7.ownBlock ≠ some kb := by
            intro kb e1 e2
            rcases hfr with h | h
            · exact HNE.out kb e1 (h ▸ e2)
            · have := OwnG.lt L3.out kb e1
              rw [h] at e2
              injection e2 with e2
              omega
          obtain ⟨A7, c7, rfl, _⟩ := hO7.form
          have hl7 : (t ++ [y5]).length = q + 1 := by rw [List.length_append, HLT.out]; rfl
          rw [hl7] at hO7 hne7 ⊢
          clear hl7
          have X4 := Lib.hid (X3.out.app hg7 (fun kb e => hvb kb e))
          have L4 := Lib.hid (Own.lst_grown L3.out hg7 (fun kb e => HNE.out kb e))
          have K4 := Lib.hid hO7
          have NE7 := Lib.hid hne7
          clear hO7 hb7 hg7 hfr hne7
          refine hK.out _ _ _ (offU (by kernel_rfl)) (fun _ h => h) ?_
          (try simp only [Act.put, List.setIfInBounds_toArray, List.set_cons_zero, List.set_cons_succ])
          first
            | (refine takeT (i := 6) (v := ?_) rfl (by kernel_rfl) (by kernel_rfl) (by kernel_rfl) (fun _ _ _ h => h) (by kernel_rfl) (Or.inl ⟨by rfl, ?_⟩) (offU (by kernel_rfl)) ?_; rotate_left; (focus (intro W hSw; go_simp; (try rfl); done)); (try simp only [Act.put, List.setIfInBounds_toArray, List.set_cons_zero, List.set_cons_succ]))
            | (fail "UTAKE 6")
          have cx := blk_at X4.out.2.2.2.2.1 1 _ rfl
          have fx := blk_free X4.out.2.2.2.2.1 1
          have hHeld := trivial
          refine callU (i := 7) rfl (by kernel_rfl) (by kernel_rfl) (fun K hK => ?_)
          (try clear hHeld)
          go_simp
          have X5 := Lib.hid (X4.out.set 1 (.slice A7 (q + 1) c7))
          have L5 := Lib.hid (Own.grown L4.out (grown_set (j := 1) (v := .slice A7 (q + 1) c7) (grown_refl x4 (some b))) (Nat.lt_succ_self b))
          have K5 := Lib.hid (Own.grown K4.out (grown_set (j := 1) (v := .slice A7 (q + 1) c7) (grown_refl x4 (some b))) (Nat.lt_succ_self b))
          refine hK.out _ _ _ (offU (by kernel_rfl)) (fun _ h => h) ?_
          (try simp only [Act.put, List.setIfInBounds_toArray, List.set_cons_zero, List.set_cons_succ])
          refine doneU (by kernel_rfl) ?_ _
          have hnk : IntKind.u64.wrap (((m2 - q : Nat) : Int) - 1) = ((m2 - (q + 1) : Nat) : Int) := by rw [IntKind.wrap_u64]; omega
          go_wp2_with fail
          go_roundw
          case measure => simp [intOf]; omega
          case rel => exact ⟨q + 1, _, _, s5, by omega, congrArg (Value.int IntKind.u64) (by omega), HN2.out, X5.out, L5.out, K5.out, NE7.out⟩
        · obtain rfl : q = m2 := by omega
          obtain ⟨Bv, dv, rfl, _⟩ := HK.out.form
          rw [hlt4] at HK HO
          have HV := Lib.hid (show rdState xs = ((l, t), s4) by unfold rdState; simp only [E1.out, HT.out, E2.out, HT2.out])
          have hr0 := HO.out.2.2.2.1
          have HRL := Lib.hid (show Rows wr anyB LIST Av k l by
            obtain ⟨A', c', hv, _, _, _, hr⟩ := HL.out.form
            injection hv with e1 e2 e3
            rw [← e1, ← e2] at hr
            exact hr.any)
          have HRK := Lib.hid (show Rows wr anyB TASK Bv q t by
            obtain ⟨A', c', hv, _, _, _, hr⟩ := HK.out.form
            injection hv with e1 e2 e3
            rw [← e1, ← e2] at hr
            exact hr.any)
          have HB := Lib.hid HO.out.2.2.2.2.2.1
          go_wp2_with fail
          refine (rEnd_any wr g s4 HO.out.1).mono ?_
          rintro e w5 ⟨rfl, rfl⟩
          by_cases hE : s4.2 = true ∨ s4.1 ≠ []
          · rw [if_pos hE]
            have HBAD := Lib.hid (show (rdState xs).2.2 = true ∨ (rdState xs).2.1 ≠ [] ∨ rightE (rdState xs).1.1 (rdState xs).1.2 ≠ 0 by
              rw [HV.out]
              exact hE.elim .inl (fun h => .inr (.inl h)))
            clear hE
            go_wp2_with (first
              | (refine wpL_store rfl 59 (.tmp 2) (.tmp 51) rfl w.heap.size rfl #[Value.slice none 0 0, Value.slice none 0 0] _ 59 rfl hr0 rfl rfl (by intro v hv; simp at hv; rcases hv with rfl | rfl <;> rfl) ?_
                 intro w6 hw6 hg6))
            refine bodyPost_ret (result_pair rfl _ _ w.heap.size 59 _ (0, 0) _ rfl hw6 Try.underlying59 rfl rfl) rfl ?_
            exact of_bad HBAD.out (below_grown2 HB.out hg6 HB.out.size (Nat.le_refl _))
          · rw [if_neg hE]
            have HE := Lib.hid hE
            clear hE
            go_wp2_with (refine wpG_load (by rfl) 59 (.tmp 5) rfl ⟨b, 0, none⟩ rfl [Value.slice Av k cv, Value.slice Bv q dv] _ (At.blk HO.out.2.2.2.2.1) Try.underlying59 rfl rfl ?_)
            refine (right_any wr Av Bv k cv q dv l t HRL.out HRK.out (by omega) (by omega)).mono ?_
            rintro e w6 ⟨rfl, hw6⟩
            have O6 := Lib.hid (HO.out.below hw6)
            have L6 := Lib.hid (HL.out.below hw6)
            have K6 := Lib.hid (HK.out.below hw6)
            have hr6 := O6.out.2.2.2.1
            have HB6 := Lib.hid O6.out.2.2.2.2.2.1
            clear hw6 hr0
            by_cases hR : rightE l t = 0
            · rw [hR]
              have HRE := Lib.hid hR
              clear hR
              go_wp2_with (first
                | (refine wpL_load rfl 59 (.tmp 5) rfl ⟨b, 0, none⟩ rfl [Value.slice Av k cv, Value.slice Bv q dv] _ (At.blk O6.out.2.2.2.2.1) Try.underlying59 rfl rfl ?_)
                | (refine wpL_store rfl 59 (.tmp 2) (.tmp 52) rfl w.heap.size rfl #[Value.slice Av k cv, Value.slice Bv q dv] _ 59 rfl hr6 rfl rfl (by intro v hv; simp at hv; rcases hv with rfl | rfl <;> rfl) ?_
                   intro w7 hw7 hg7))
              refine bodyPost_ret (result_pair rfl _ _ w.heap.size 59 _ (0, 0) _ rfl hw7 Try.underlying59 rfl rfl) rfl ?_
              exact of_good HV.out HE.out HRE.out O6.out L6.out K6.out hg7
            · have HBAD := Lib.hid (show (rdState xs).2.2 = true ∨ (rdState xs).2.1 ≠ [] ∨ rightE (rdState xs).1.1 (rdState xs).1.2 ≠ 0 by rw [HV.out]; exact .inr (.inr hR))
              obtain ⟨rr, hrr⟩ : ∃ r, rightE l t = r := ⟨_, rfl⟩
              rw [hrr] at hR ⊢
              clear hrr
              go_wp2_with (first
                | (refine wpL_store rfl 59 (.tmp 2) (.tmp 51) rfl w.heap.size rfl #[Value.slice none 0 0, Value.slice none 0 0] _ 59 rfl hr6 rfl rfl (by intro v hv; simp at hv; rcases hv with rfl | rfl <;> rfl) ?_
                   intro w7 hw7 hg7))
              refine bodyPost_ret (result_pair rfl _ _ w.heap.size 59 _ (0, 0) _ rfl hw7 Try.underlying59 rfl rfl) rfl ?_
              exact of_bad HBAD.out (below_grown2 HB6.out hg7 HB6.out.size (Nat.le_refl _))
end Go.Proofs.Ytnolhnlhohpkpaa
namespace Go.Proofs.Ytnolhnlhohpkpaa
open Go.RowKit Cdc
set_option linter.unusedVariables false
set_option linter.unusedSimpArgs false
/-! What a state that is right is: plain. -/
theorem can_back {f : Nat} (h : f < 18446744073709551616) (hc : canB f = true) : keyN f < 18446744073709551616 ∧ ofN (keyN f) = (f, true) := by
  have hr := keyV_range f h
  have h2 := of_key h
  have e : rcanF f = f := by
    have h1 := can_same h
    unfold canB at hc
    have h3 := eq_of_beq hc
    unfold ubits at h3
    rw [← h1]; omega
  refine ⟨by rw [keyN, keyF_eq h]; omega, ?_⟩
  show ofF (((keyF f).toNat : Nat) : Int) = _
  rw [show (((keyF f).toNat : Nat) : Int) = keyF f by rw [keyF_eq h]; omega, h2, e]
theorem rcan_bits {f : Nat} (h : f < 18446744073709551616) : (ubits f == ubits (rcanF f)) = canB f := by
  unfold canB
  rw [can_same h, Bool.beq_comm]
theorem tgE_ok : ∀ {l : List ByteArray} {p : Option ByteArray}, tgE p l = 0 → ∀ x ∈ l, x.size ≤ 16
  | [], _, _ => fun x hx => by cases hx
  | y :: l, p, h => by
    unfold tgE at h
    split at h
    · cases h
    · rename_i hc
      intro x hx
      rcases List.mem_cons.1 hx with rfl | hx
      · by_cases ht : tagB x = false
        · exact absurd (.inl ht) hc
        · have : tagB x = true := by simpa using ht
          unfold tagB at this
          simp only [Bool.and_eq_true, decide_eq_true_eq] at this
          exact this.1.2
      · exact tgE_ok h x hx
theorem titleB_le {t : ByteArray} (h : ¬ titleB t = false) : t.size ≤ 60 := by
  have : titleB t = true := by simpa using h
  unfold titleB at this
  simp only [Bool.and_eq_true, decide_eq_true_eq] at this
  exact this.1.2
theorem lsE_ok : ∀ {l : List LIST.Ty} {a : Int}, lsE a l = 0 → ∀ x ∈ l, x.2.1.size ≤ 60
  | [], _, _ => fun x hx => by cases hx
  | y :: l, a, h => by
    unfold lsE at h
    split at h
    · cases h
    split at h
    · cases h
    · rename_i _ ht
      intro x hx
      rcases List.mem_cons.1 hx with rfl | hx
      · exact titleB_le ht
      · exact lsE_ok h x hx
theorem oneE_ok {ls : List LIST.Ty} {t : TASK.Ty} (hok : 0 ≤ t.1 ∧ t.1 < 18446744073709551616) (hl : 0 ≤ t.2.1 ∧ t.2.1 < 18446744073709551616) (hr : t.2.2.2.2.1 < 18446744073709551616) (he : t.2.2.2.2.2.1 < 18446744073709551616) (h : oneE ls t = 0) : BackT t := by
  unfold oneE at h
  split at h
  · cases h
  split at h
  · cases h
  rename_i _ ht
  split at h
  · cases h
  rename_i hn
  split at h
  · cases h
  rename_i hc
  unfold tagsE at h
  split at h
  · cases h
  rename_i h4
  have hx := tgE_ok h
  exact ⟨hok, hl, titleB_le ht, can_back hr (by cases hq : canB t.2.2.2.2.1 with | true => rfl | false => exact absurd (.inr hq) hn), can_back he (by simpa using hc), by omega, fun x hx' => by have := hx x hx'; omega⟩
theorem tsE_ok {ls : List LIST.Ty} : ∀ {l : List TASK.Ty} {a : Int}, tsE ls a l = 0 → ∀ t ∈ l, oneE ls t = 0
  | [], _, _ => fun x hx => by cases hx
  | y :: l, a, h => by
    unfold tsE at h
    split at h
    · cases h
    split at h
    · rename_i hne; exact absurd h hne
    · rename_i he
      intro x hx
      rcases List.mem_cons.1 hx with rfl | hx
      · exact Decidable.not_not.1 he
      · exact tsE_ok h x hx
theorem right_le {ls : List LIST.Ty} {ts : List TASK.Ty} (h : rightE ls ts = 0) : ls.length ≤ 20 ∧ ts.length ≤ 60 ∧ lsE 0 ls = 0 ∧ tsE ls 0 ts = 0 := by
  unfold rightE at h
  split at h
  · cases h
  rename_i h1
  split at h
  · rename_i h2; exact absurd h h2
  · rename_i h2
    exact ⟨by omega, by omega, Decidable.not_not.1 h2, h⟩
theorem right_back {ls : List LIST.Ty} {ts : List TASK.Ty} (hl : ∀ x ∈ ls, LISTOk x) (ht : ∀ t ∈ ts, TASKOk t) (h : rightE ls ts = 0) : rdState (encState ls ts) = ((ls, ts), [], false) := by
  obtain ⟨h1, h2, h3, h4⟩ := right_le h
  refine rdState_enc (by omega) h2 (fun x hx => ?_) (fun t ht' => ?_)
  · obtain ⟨i, s, _⟩ := x
    exact ⟨(hl _ hx).1, lsE_ok h3 _ hx⟩
  · have h5 := tsE_ok h4 t ht'
    have h6 := ht t ht'
    obtain ⟨i, l, s, d, f, e, g, _⟩ := t
    obtain ⟨o1, o2, o3, o4, o5⟩ := h6
    exact oneE_ok o1 o2 o4 o5 h5
/-- A state that is right is told again of its bytes. -/
theorem of_enc {ls : List LIST.Ty} {ts : List TASK.Ty} (hl : ∀ x ∈ ls, LISTOk x) (ht : ∀ t ∈ ts, TASKOk t) (h : rightE ls ts = 0) : ofState (encState ls ts) = ((ls, ts), 0) := by
  unfold ofState
  rw [right_back hl ht h, if_neg (by simp [h])]
theorem encTask_same {x y : TASK.Ty} (hx : TASKOk x) (hy : TASKOk y) (h : SameT x y) : encTask x = encTask y := by
  obtain ⟨i, l, s, d, f, e, g, _⟩ := x
  obtain ⟨i2, l2, s2, d2, f2, e2, g2, _⟩ := y
  obtain ⟨rfl, rfl, rfl, rfl, hf, he, rfl⟩ := h
  obtain ⟨_, _, _, o4, o5⟩ := hx
  obtain ⟨_, _, _, p4, p5⟩ := hy
  simp only at hf he
  unfold encTask
  simp only [keyN, keyF_eq o4, keyF_eq o5, keyF_eq p4, keyF_eq p5, hf, he]
theorem encTasks_same : ∀ {l m : List TASK.Ty}, (∀ x ∈ l, TASKOk x) → (∀ x ∈ m, TASKOk x) → SameTs l m → l.flatMap encTask = m.flatMap encTask
  | [], [], _, _, _ => rfl
  | [], y :: m, _, _, h => by have := h.1; simp at this
  | x :: l, [], _, _, h => by have := h.1; simp at this
  | x :: l, y :: m, hl, hm, h => by
    have h0 := h.2 0 x y rfl rfl
    have h1 := encTask_same (hl x List.mem_cons_self) (hm y List.mem_cons_self) h0
    have h2 : SameTs l m := ⟨by have := h.1; simpa using this, fun j a b ha hb => h.2 (j + 1) a b ha hb⟩
    have h3 := encTasks_same (fun z hz => hl z (List.mem_cons_of_mem _ hz)) (fun z hz => hm z (List.mem_cons_of_mem _ hz)) h2
    simp only [List.flatMap_cons, h1, h3]
/-- States that are right have the same bytes when they are alike, and only then. -/
theorem enc_iff {ls lo : List LIST.Ty} {ts tq : List TASK.Ty} (hl : ∀ x ∈ ls, LISTOk x) (ht : ∀ t ∈ ts, TASKOk t) (hlo : ∀ x ∈ lo, LISTOk x) (hto : ∀ t ∈ tq, TASKOk t) (h : rightE ls ts = 0) (h2 : rightE lo tq = 0) :
    encState ls ts = encState lo tq ↔ SameS (ls, ts, ()) (lo, tq, ()) := by
  constructor
  · intro e
    have h3 := right_back hl ht h
    rw [e, right_back hlo hto h2] at h3
    injection h3 with h3 _
    injection h3 with h3 h4
    subst h3 h4
    exact SameS.refl _
  · rintro ⟨h3, h4⟩
    simp only at h3 h4
    subst h3
    unfold encState
    rw [encTasks_same ht hto h4, h4.1]
end Go.Proofs.Ytnolhnlhohpkpaa
namespace Go.Proofs.Ytnolhnlhohpkpaa
open Go.RowKit Cdc
set_option linter.unusedVariables false
set_option linter.unusedSimpArgs false
attribute [local go_sem] run_store_float
attribute [local go_sem high] run_eq_list run_neq_list
set_option maxRecDepth 20000 in
theorem rows_ok {w : World} {ok : Nat → Prop} {s : Sh} {A : Option Addr} {n : Nat} {l : List s.Ty} {P : s.Ty → Prop} (h : Rows w ok s A n l) (hP : ∀ x cs, Rd w ok s x cs → P x) : ∀ x ∈ l, P x := by
  intro x hx
  obtain ⟨i, hi, rfl⟩ := List.mem_iff_getElem.1 hx
  obtain ⟨ad, y, cs, _, hy, _, hrd⟩ := h.get i (by have := h.1; omega)
  rw [List.getElem?_eq_getElem hi] at hy
  injection hy with hy
  subst hy
  exact hP _ _ hrd
set_option maxRecDepth 20000 in
theorem rows_lok {w : World} {ok : Nat → Prop} {A : Option Addr} {n : Nat} {l : List LIST.Ty} (h : Rows w ok LIST A n l) : ∀ x ∈ l, LISTOk x := rows_ok h fun x cs hr => by
  obtain ⟨_, _, rfl, _, hok⟩ := rd_lst hr
  exact hok
set_option maxRecDepth 20000 in
theorem rows_tok {w : World} {ok : Nat → Prop} {A : Option Addr} {n : Nat} {l : List TASK.Ty} (h : Rows w ok TASK A n l) : ∀ x ∈ l, TASKOk x := rows_ok h fun x cs hr => by
  obtain ⟨_, _, _, _, _, _, _, _, _, rfl, _, hok, _⟩ := rd_task hr
  exact hok
set_option maxHeartbeats 4000000 in
set_option maxRecDepth 20000 in
theorem x_TaskBack (ls : List LIST.Ty) (ts : List TASK.Ty) (lo : List LIST.Ty) (tq : List TASK.Ty) (A B C D : Option Addr) (n ca m cb k cc q cd : Nat) (w : World)
    (hs : Rd w anyB STATE (ls, ts, ()) [.slice A n ca, .slice B m cb]) (ho : Rd w anyB STATE (lo, tq, ()) [.slice C k cc, .slice D q cd]) :
    Calls Try.prog 9 #[.agg #[Value.slice A n ca, Value.slice B m cb], .agg #[Value.slice C k cc, Value.slice D q cd]] w fun e w' => e = .returned (.bool true) ∧ Below w.heap.size w w' := by
  obtain ⟨ls', ts', A', ca', B', cb', e1, e2, _, h1, h2⟩ := rd_state hs
  obtain ⟨rfl, rfl⟩ : ls = ls' ∧ ts = ts' := by simpa using e1
  have hn := rd_rowsN h1
  have hm := rd_rowsN h2
  obtain ⟨⟨rfl, rfl, rfl⟩, rfl, rfl, rfl⟩ : (A = A' ∧ n = ls.length ∧ ca = ca') ∧ B = B' ∧ m = ts.length ∧ cb = cb' := by simpa using e2
  obtain ⟨lo', tq', A', ca', B', cb', e1, e2, _, h3, h4⟩ := rd_state ho
  obtain ⟨rfl, rfl⟩ : lo = lo' ∧ tq = tq' := by simpa using e1
  have hk := rd_rowsN h3
  have hq := rd_rowsN h4
  obtain ⟨⟨rfl, rfl, rfl⟩, rfl, rfl, rfl⟩ : (C = A' ∧ k = lo.length ∧ cc = ca') ∧ D = B' ∧ q = tq.length ∧ cd = cb' := by simpa using e2
  obtain ⟨n, hln⟩ : ∃ n, ls.length = n := ⟨_, rfl⟩
  obtain ⟨m, hlm⟩ : ∃ n, ts.length = n := ⟨_, rfl⟩
  obtain ⟨k, hlk⟩ : ∃ n, lo.length = n := ⟨_, rfl⟩
  obtain ⟨q, hlq⟩ : ∃ n, tq.length = n := ⟨_, rfl⟩
  rw [hln] at hn ⊢
  rw [hlm] at hm ⊢
  rw [hlk] at hk ⊢
  rw [hlq] at hq ⊢
  have HA := Lib.hid hn.2.2.2
  have HBr := Lib.hid hm.2.2.2
  have HC := Lib.hid hk.2.2.2
  have HD := Lib.hid hq.2.2.2
  have bn : n ≤ 9223372036854775807 := by omega
  have bm : m ≤ 9223372036854775807 := by omega
  have bk : k ≤ 9223372036854775807 := by omega
  have bq : q ≤ 9223372036854775807 := by omega
  clear hs ho h1 h2 h3 h4 hn hm hk hq e1 e2 hln hlm hlk hlq
  have hp := blk_alloc (heap_alloc_new w (.cells #[Value.slice A n ca, Value.slice B m cb] 59)) (.cells #[Value.slice C k cc, Value.slice D q cd] 59)
  have hq := heap_alloc2_new w (.cells #[Value.slice A n ca, Value.slice B m cb] 59) (.cells #[Value.slice C k cc, Value.slice D q cd] 59)
  have hw := (below_alloc1 w (.cells #[Value.slice A n ca, Value.slice B m cb] 59)).alloc (by simp) (.cells #[Value.slice C k cc, Value.slice D q cd] 59)
  go_enter Try.func9, Try.ntmps9
  obtain ⟨v0, hv0⟩ : ∃ v0, (w.alloc (.cells #[Value.slice A n ca, Value.slice B m cb] 59)).alloc (.cells #[Value.slice C k cc, Value.slice D q cd] 59) = v0 := ⟨_, rfl⟩
  rw [hv0] at hp hq hw
  have HS := Lib.hid (At.blk hp)
  have HO := Lib.hid (At.blk hq)
  have HW := Lib.hid hw
  clear hp hq hw
  go_wp2_with fail
  refine (tsk_awake v0).mono ?_
  rintro e v1 ⟨rfl, hb⟩
  have HB1 := Lib.hid hb
  clear hb
  go_wp2_with (refine wpL_load rfl 59 _ rfl ⟨w.heap.size, 0, none⟩ rfl _ _ (HS.out.below HB1.out) Try.underlying59 rfl rfl ?_)
  refine (light_any v1 A B n ca m cb ls ts (HA.out.below (HW.out.trans (HB1.out.mono HW.out.size))) (HBr.out.below (HW.out.trans (HB1.out.mono HW.out.size))) bn bm).mono ?_
  rintro e v2 ⟨b, rfl, hb, hb2⟩
  have HB2 := Lib.hid (HB1.out.trans (hb2.mono HB1.out.size))
  cases b with
  | false =>
    clear hb hb2
    go_wp2_with fail
    go_ret
    exact ⟨rfl, HW.out.trans (HB2.out.mono HW.out.size)⟩
  | true =>
  have HL1 := Lib.hid (hb rfl)
  clear hb hb2
  go_wp2_with (refine wpG_load (by rfl) 59 _ rfl ⟨w.heap.size + 1, 0, none⟩ rfl _ _ (HO.out.below HB2.out) Try.underlying59 rfl rfl ?_)
  refine (light_any v2 C D k cc q cd lo tq (HC.out.below (HW.out.trans (HB2.out.mono HW.out.size))) (HD.out.below (HW.out.trans (HB2.out.mono HW.out.size))) bk bq).mono ?_
  rintro e v3 ⟨b, rfl, hb, hb2⟩
  have HB3 := Lib.hid (HB2.out.trans (hb2.mono HB2.out.size))
  cases b with
  | false =>
    clear hb hb2
    go_wp2_with fail
    go_ret
    exact ⟨rfl, HW.out.trans (HB3.out.mono HW.out.size)⟩
  | true =>
  have HL2 := Lib.hid (hb rfl)
  clear hb hb2
  have HX3 := Lib.hid (HW.out.trans (HB3.out.mono HW.out.size))
  go_wp2_with (refine wpG_load (by rfl) 59 _ rfl ⟨w.heap.size, 0, none⟩ rfl _ _ (HS.out.below HB3.out) Try.underlying59 rfl rfl ?_)
  refine (right_any v3 A B n ca m cb ls ts (HA.out.below HX3.out) (HBr.out.below HX3.out) bn bm).mono ?_
  rintro e v4 ⟨rfl, hb4⟩
  have HB4 := Lib.hid (HB3.out.trans (hb4.mono HB3.out.size))
  have HX4 := Lib.hid (HW.out.trans (HB4.out.mono HW.out.size))
  clear hb4
  by_cases hr0 : rightE ls ts = 0
  case neg =>
    have hrb : (rightE ls ts != 0) = true := bne_iff_ne.2 hr0
    go_wp2_with fail
    go_ret
    exact ⟨rfl, HX4.out⟩
  have HLO := Lib.hid (And.intro (rows_lok HA.out) (rows_tok HBr.out))
  have HLO2 := Lib.hid (And.intro (rows_lok HC.out) (rows_tok HD.out))
  have HR0 := Lib.hid hr0
  have HOF := Lib.hid (of_enc HLO.out.1 HLO.out.2 hr0)
  rw [hr0]
  clear hr0
  go_wp2_with (refine wpL_load rfl 59 _ rfl ⟨w.heap.size, 0, none⟩ rfl _ _ (HS.out.below HB4.out) Try.underlying59 rfl rfl ?_)
  refine (put_state v4 A B n ca m cb ls ts (HA.out.below HX4.out) (HBr.out.below HX4.out) HL1.out).mono ?_
  rintro e v5 ⟨z5, rfl, hr5, hb5⟩
  obtain ⟨A5, c5, rfl, _⟩ := rd_bs hr5
  have HR5 := Lib.hid hr5
  have HB5 := Lib.hid (HB4.out.trans (hb5.mono HB4.out.size))
  clear hr5 hb5
  go_wp2_with fail
  refine (ofst_any v5 A5 _ c5 (encState ls ts) HR5.out.any (encState_le HL1.out)).mono ?_
  rintro e v6 ⟨cs, rfl, hr6, hb6⟩
  rw [HOF.out] at hr6 ⊢
  obtain ⟨ls2, ts2, A2, ca2, B2, cb2, e1, rfl, _, h1, h2⟩ := rd_state hr6
  obtain ⟨rfl, rfl⟩ : ls = ls2 ∧ ts = ts2 := by simpa using e1
  have HR6 := Lib.hid (And.intro h1 h2)
  have HB6 := Lib.hid (HB5.out.trans (hb6.mono HB5.out.size))
  clear hr6 hb6 h1 h2 e1
  have HT1 := Lib.hid (At.blk (heap_alloc_new v6 (.cells #[Value.slice A2 ls.length ca2, Value.slice B2 ts.length cb2] 59)))
  have hb67 := below_alloc1 v6 (.cells #[Value.slice A2 ls.length ca2, Value.slice B2 ts.length cb2] 59)
  obtain ⟨v7, hv7⟩ : ∃ v7, v6.alloc (.cells #[Value.slice A2 ls.length ca2, Value.slice B2 ts.length cb2] 59) = v7 := ⟨_, rfl⟩
  rw [hv7] at HT1 hb67
  have HB7 := Lib.hid (HB6.out.trans (hb67.mono HB6.out.size))
  have HX7 := Lib.hid (HW.out.trans (HB7.out.mono HW.out.size))
  have HR7 := Lib.hid (And.intro (HR6.out.1.any.below hb67) (HR6.out.2.any.below hb67))
  clear hb67 HR6
  go_wp2_with (first
    | (refine wpG_load (by rfl) 59 _ rfl ⟨v6.heap.size, 0, none⟩ rfl _ _ HT1.out Try.underlying59 rfl rfl ?_)
    | (refine wpG_load (by rfl) 59 _ rfl ⟨w.heap.size, 0, none⟩ rfl _ _ (HS.out.below HB7.out) Try.underlying59 rfl rfl ?_))
  refine (rsame_state v7 A2 A B2 B ls.length n ts.length m ca2 ca cb2 cb ls ls ts ts (rd_rows HR7.out.1) (HA.out.below HX7.out) (rd_rows HR7.out.2) (HBr.out.below HX7.out) (by have := rd_rowsN HR7.out.1; omega) (by have := rd_rowsN HR7.out.2; omega)).mono ?_
  rintro e v8 ⟨b, rfl, hb, h78⟩
  obtain rfl : b = true := hb.2 (SameS.refl _)
  clear hb
  have HB8 := Lib.hid (HB7.out.trans (h78.mono HB7.out.size))
  clear h78
  go_wp2_with fail
  refine region_in (by kernel_rfl) (fun v9 h89 => ?_)
  have HB9 := Lib.hid (HB8.out.trans (h89.mono HB8.out.size))
  have HX9 := Lib.hid (HW.out.trans (HB9.out.mono HW.out.size))
  refine take_in (i := 0) (v := _) rfl (by kernel_rfl) (by kernel_rfl) (by kernel_rfl) (fun _ _ _ h => h) (yields_load (by rfl) _ _ rfl _ rfl _ _ (fun W hW => (HO.out.below HB9.out).below hW) Try.underlying59 rfl rfl) (Below.refl _ _) ?_
  (try simp only [Act.put, List.setIfInBounds_toArray, List.set_cons_zero, List.set_cons_succ])
  refine call_in (i := 1) rfl (by kernel_rfl) (by kernel_rfl) (fun K hK => ?_)
  go_simp
  refine (right_any v9 C D k cc q cd lo tq (HC.out.below HX9.out) (HD.out.below HX9.out) bk bq).mono ?_
  rintro e v10 ⟨rfl, h910⟩
  have HB10 := Lib.hid (HB9.out.trans (h910.mono HB9.out.size))
  have HX10 := Lib.hid (HW.out.trans (HB10.out.mono HW.out.size))
  by_cases hr0 : rightE lo tq = 0
  case neg =>
    have hrb : (rightE lo tq != 0) = true := bne_iff_ne.2 hr0
    refine hK.out _ _ h910 ?_
    (try simp only [Act.put, List.setIfInBounds_toArray, List.set_cons_zero, List.set_cons_succ])
    first
      | (refine take_in (i := 2) (v := ?_) rfl (by kernel_rfl) (by kernel_rfl) (by kernel_rfl) (fun _ _ _ h => h) (Or.inl ⟨by rfl, ?_⟩) (Below.refl _ _) ?_; rotate_left; (focus (intro W hSw; go_simp; (try rfl); done)); (try simp only [Act.put, List.setIfInBounds_toArray, List.set_cons_zero, List.set_cons_succ]))
      | (refine take_in (i := 2) (v := undef) rfl (by kernel_rfl) (by kernel_rfl) (by kernel_rfl) (fun _ _ _ h => h) (Or.inr ⟨by rfl, rfl⟩) (Below.refl _ _) ?_; (try simp only [Act.put, List.setIfInBounds_toArray, List.set_cons_zero, List.set_cons_succ]))
      | (fail "HTAKE 2")
    first
      | (refine take_in (i := 3) (v := ?_) rfl (by kernel_rfl) (by kernel_rfl) (by kernel_rfl) (fun _ _ _ h => h) (Or.inl ⟨by rfl, ?_⟩) (Below.refl _ _) ?_; rotate_left; (focus (intro W hSw; go_simp; (try rfl); done)); (try simp only [Act.put, List.setIfInBounds_toArray, List.set_cons_zero, List.set_cons_succ]))
      | (refine take_in (i := 3) (v := undef) rfl (by kernel_rfl) (by kernel_rfl) (by kernel_rfl) (fun _ _ _ h => h) (Or.inr ⟨by rfl, rfl⟩) (Below.refl _ _) ?_; (try simp only [Act.put, List.setIfInBounds_toArray, List.set_cons_zero, List.set_cons_succ]))
      | (fail "HTAKE 3")
    first
      | (refine take_in (i := 4) (v := ?_) rfl (by kernel_rfl) (by kernel_rfl) (by kernel_rfl) (fun _ _ _ h => h) (Or.inl ⟨by rfl, ?_⟩) (Below.refl _ _) ?_; rotate_left; (focus (intro W hSw; go_simp; (try rfl); done)); (try simp only [Act.put, List.setIfInBounds_toArray, List.set_cons_zero, List.set_cons_succ]))
      | (refine take_in (i := 4) (v := undef) rfl (by kernel_rfl) (by kernel_rfl) (by kernel_rfl) (fun _ _ _ h => h) (Or.inr ⟨by rfl, rfl⟩) (Below.refl _ _) ?_; (try simp only [Act.put, List.setIfInBounds_toArray, List.set_cons_zero, List.set_cons_succ]))
      | (fail "HTAKE 4")
    first
      | (refine take_in (i := 5) (v := ?_) rfl (by kernel_rfl) (by kernel_rfl) (by kernel_rfl) (fun _ _ _ h => h) (Or.inl ⟨by rfl, ?_⟩) (Below.refl _ _) ?_; rotate_left; (focus (intro W hSw; go_simp; (try rfl); done)); (try simp only [Act.put, List.setIfInBounds_toArray, List.set_cons_zero, List.set_cons_succ]))
      | (refine take_in (i := 5) (v := undef) rfl (by kernel_rfl) (by kernel_rfl) (by kernel_rfl) (fun _ _ _ h => h) (Or.inr ⟨by rfl, rfl⟩) (Below.refl _ _) ?_; (try simp only [Act.put, List.setIfInBounds_toArray, List.set_cons_zero, List.set_cons_succ]))
      | (fail "HTAKE 5")
    first
      | (refine take_in (i := 6) (v := ?_) rfl (by kernel_rfl) (by kernel_rfl) (by kernel_rfl) (fun _ _ _ h => h) (Or.inl ⟨by rfl, ?_⟩) (Below.refl _ _) ?_; rotate_left; (focus (intro W hSw; go_simp; (try rfl); done)); (try simp only [Act.put, List.setIfInBounds_toArray, List.set_cons_zero, List.set_cons_succ]))
      | (refine take_in (i := 6) (v := undef) rfl (by kernel_rfl) (by kernel_rfl) (by kernel_rfl) (fun _ _ _ h => h) (Or.inr ⟨by rfl, rfl⟩) (Below.refl _ _) ?_; (try simp only [Act.put, List.setIfInBounds_toArray, List.set_cons_zero, List.set_cons_succ]))
      | (fail "HTAKE 6")
    first
      | (refine take_in (i := 7) (v := ?_) rfl (by kernel_rfl) (by kernel_rfl) (by kernel_rfl) (fun _ _ _ h => h) (Or.inl ⟨by rfl, ?_⟩) (Below.refl _ _) ?_; rotate_left; (focus (intro W hSw; go_simp; (try rfl); done)); (try simp only [Act.put, List.setIfInBounds_toArray, List.set_cons_zero, List.set_cons_succ]))
      | (refine take_in (i := 7) (v := undef) rfl (by kernel_rfl) (by kernel_rfl) (by kernel_rfl) (fun _ _ _ h => h) (Or.inr ⟨by rfl, rfl⟩) (Below.refl _ _) ?_; (try simp only [Act.put, List.setIfInBounds_toArray, List.set_cons_zero, List.set_cons_succ]))
      | (fail "HTAKE 7")
    first
      | (refine take_in (i := 8) (v := ?_) rfl (by kernel_rfl) (by kernel_rfl) (by kernel_rfl) (fun _ _ _ h => h) (Or.inl ⟨by rfl, ?_⟩) (Below.refl _ _) ?_; rotate_left; (focus (intro W hSw; go_simp; (try rfl); done)); (try simp only [Act.put, List.setIfInBounds_toArray, List.set_cons_zero, List.set_cons_succ]))
      | (refine take_in (i := 8) (v := undef) rfl (by kernel_rfl) (by kernel_rfl) (by kernel_rfl) (fun _ _ _ h => h) (Or.inr ⟨by rfl, rfl⟩) (Below.refl _ _) ?_; (try simp only [Act.put, List.setIfInBounds_toArray, List.set_cons_zero, List.set_cons_succ]))
      | (fail "HTAKE 8")
    first
      | (refine take_in (i := 9) (v := ?_) rfl (by kernel_rfl) (by kernel_rfl) (by kernel_rfl) (fun _ _ _ h => h) (Or.inl ⟨by rfl, ?_⟩) (Below.refl _ _) ?_; rotate_left; (focus (intro W hSw; go_simp; (try rfl); done)); (try simp only [Act.put, List.setIfInBounds_toArray, List.set_cons_zero, List.set_cons_succ]))
      | (refine take_in (i := 9) (v := undef) rfl (by kernel_rfl) (by kernel_rfl) (by kernel_rfl) (fun _ _ _ h => h) (Or.inr ⟨by rfl, rfl⟩) (Below.refl _ _) ?_; (try simp only [Act.put, List.setIfInBounds_toArray, List.set_cons_zero, List.set_cons_succ]))
      | (fail "HTAKE 9")
    first
      | (refine take_in (i := 10) (v := ?_) rfl (by kernel_rfl) (by kernel_rfl) (by kernel_rfl) (fun _ _ _ h => h) (Or.inl ⟨by rfl, ?_⟩) (Below.refl _ _) ?_; rotate_left; (focus (intro W hSw; go_simp; (try rfl); done)); (try simp only [Act.put, List.setIfInBounds_toArray, List.set_cons_zero, List.set_cons_succ]))
      | (refine take_in (i := 10) (v := undef) rfl (by kernel_rfl) (by kernel_rfl) (by kernel_rfl) (fun _ _ _ h => h) (Or.inr ⟨by rfl, rfl⟩) (Below.refl _ _) ?_; (try simp only [Act.put, List.setIfInBounds_toArray, List.set_cons_zero, List.set_cons_succ]))
      | (fail "HTAKE 10")
    first
      | (refine take_in (i := 11) (v := ?_) rfl (by kernel_rfl) (by kernel_rfl) (by kernel_rfl) (fun _ _ _ h => h) (Or.inl ⟨by rfl, ?_⟩) (Below.refl _ _) ?_; rotate_left; (focus (intro W hSw; go_simp; (try rfl); done)); (try simp only [Act.put, List.setIfInBounds_toArray, List.set_cons_zero, List.set_cons_succ]))
      | (refine take_in (i := 11) (v := undef) rfl (by kernel_rfl) (by kernel_rfl) (by kernel_rfl) (fun _ _ _ h => h) (Or.inr ⟨by rfl, rfl⟩) (Below.refl _ _) ?_; (try simp only [Act.put, List.setIfInBounds_toArray, List.set_cons_zero, List.set_cons_succ]))
      | (fail "HTAKE 11")
    first
      | (refine take_in (i := 12) (v := ?_) rfl (by kernel_rfl) (by kernel_rfl) (by kernel_rfl) (fun _ _ _ h => h) (Or.inl ⟨by rfl, ?_⟩) (Below.refl _ _) ?_; rotate_left; (focus (intro W hSw; go_simp; (try rfl); done)); (try simp only [Act.put, List.setIfInBounds_toArray, List.set_cons_zero, List.set_cons_succ]))
      | (refine take_in (i := 12) (v := undef) rfl (by kernel_rfl) (by kernel_rfl) (by kernel_rfl) (fun _ _ _ h => h) (Or.inr ⟨by rfl, rfl⟩) (Below.refl _ _) ?_; (try simp only [Act.put, List.setIfInBounds_toArray, List.set_cons_zero, List.set_cons_succ]))
      | (fail "HTAKE 12")
    first
      | (refine take_in (i := 13) (v := ?_) rfl (by kernel_rfl) (by kernel_rfl) (by kernel_rfl) (fun _ _ _ h => h) (Or.inl ⟨by rfl, ?_⟩) (Below.refl _ _) ?_; rotate_left; (focus (intro W hSw; go_simp; (try rfl); done)); (try simp only [Act.put, List.setIfInBounds_toArray, List.set_cons_zero, List.set_cons_succ]))
      | (refine take_in (i := 13) (v := undef) rfl (by kernel_rfl) (by kernel_rfl) (by kernel_rfl) (fun _ _ _ h => h) (Or.inr ⟨by rfl, rfl⟩) (Below.refl _ _) ?_; (try simp only [Act.put, List.setIfInBounds_toArray, List.set_cons_zero, List.set_cons_succ]))
      | (fail "HTAKE 13")
    first
      | (refine take_in (i := 14) (v := ?_) rfl (by kernel_rfl) (by kernel_rfl) (by kernel_rfl) (fun _ _ _ h => h) (Or.inl ⟨by rfl, ?_⟩) (Below.refl _ _) ?_; rotate_left; (focus (intro W hSw; go_simp; (try rfl); done)); (try simp only [Act.put, List.setIfInBounds_toArray, List.set_cons_zero, List.set_cons_succ]))
      | (refine take_in (i := 14) (v := undef) rfl (by kernel_rfl) (by kernel_rfl) (by kernel_rfl) (fun _ _ _ h => h) (Or.inr ⟨by rfl, rfl⟩) (Below.refl _ _) ?_; (try simp only [Act.put, List.setIfInBounds_toArray, List.set_cons_zero, List.set_cons_succ]))
      | (fail "HTAKE 14")
    first
      | (refine take_in (i := 15) (v := ?_) rfl (by kernel_rfl) (by kernel_rfl) (by kernel_rfl) (fun _ _ _ h => h) (Or.inl ⟨by rfl, ?_⟩) (Below.refl _ _) ?_; rotate_left; (focus (intro W hSw; go_simp; (try rfl); done)); (try simp only [Act.put, List.setIfInBounds_toArray, List.set_cons_zero, List.set_cons_succ]))
      | (refine take_in (i := 15) (v := undef) rfl (by kernel_rfl) (by kernel_rfl) (by kernel_rfl) (fun _ _ _ h => h) (Or.inr ⟨by rfl, rfl⟩) (Below.refl _ _) ?_; (try simp only [Act.put, List.setIfInBounds_toArray, List.set_cons_zero, List.set_cons_succ]))
      | (fail "HTAKE 15")
    first
      | (refine take_in (i := 16) (v := ?_) rfl (by kernel_rfl) (by kernel_rfl) (by kernel_rfl) (fun _ _ _ h => h) (Or.inl ⟨by rfl, ?_⟩) (Below.refl _ _) ?_; rotate_left; (focus (intro W hSw; go_simp; (try rfl); done)); (try simp only [Act.put, List.setIfInBounds_toArray, List.set_cons_zero, List.set_cons_succ]))
      | (refine take_in (i := 16) (v := undef) rfl (by kernel_rfl) (by kernel_rfl) (by kernel_rfl) (fun _ _ _ h => h) (Or.inr ⟨by rfl, rfl⟩) (Below.refl _ _) ?_; (try simp only [Act.put, List.setIfInBounds_toArray, List.set_cons_zero, List.set_cons_succ]))
      | (fail "HTAKE 16")
    refine wpAnyH_done (by kernel_rfl) ?_ _
    go_wp2_with fail
    go_ret
    exact ⟨rfl, HX10.out⟩
  have HIFF := Lib.hid (enc_iff HLO.out.1 HLO.out.2 HLO2.out.1 HLO2.out.2 HR0.out hr0)
  rw [hr0]
  clear hr0
  refine hK.out _ _ h910 ?_
  (try simp only [Act.put, List.setIfInBounds_toArray, List.set_cons_zero, List.set_cons_succ])
  first
    | (refine take_in (i := 2) (v := ?_) rfl (by kernel_rfl) (by kernel_rfl) (by kernel_rfl) (fun _ _ _ h => h) (Or.inl ⟨by rfl, ?_⟩) (Below.refl _ _) ?_; rotate_left; (focus (intro W hSw; go_simp; (try rfl); done)); (try simp only [Act.put, List.setIfInBounds_toArray, List.set_cons_zero, List.set_cons_succ]))
    | (refine take_in (i := 2) (v := undef) rfl (by kernel_rfl) (by kernel_rfl) (by kernel_rfl) (fun _ _ _ h => h) (Or.inr ⟨by rfl, rfl⟩) (Below.refl _ _) ?_; (try simp only [Act.put, List.setIfInBounds_toArray, List.set_cons_zero, List.set_cons_succ]))
    | (fail "HTAKE 2")
  first
    | (refine take_in (i := 3) (v := ?_) rfl (by kernel_rfl) (by kernel_rfl) (by kernel_rfl) (fun _ _ _ h => h) (Or.inl ⟨by rfl, ?_⟩) (Below.refl _ _) ?_; rotate_left; (focus (intro W hSw; go_simp; (try rfl); done)); (try simp only [Act.put, List.setIfInBounds_toArray, List.set_cons_zero, List.set_cons_succ]))
    | (refine take_in (i := 3) (v := undef) rfl (by kernel_rfl) (by kernel_rfl) (by kernel_rfl) (fun _ _ _ h => h) (Or.inr ⟨by rfl, rfl⟩) (Below.refl _ _) ?_; (try simp only [Act.put, List.setIfInBounds_toArray, List.set_cons_zero, List.set_cons_succ]))
    | (fail "HTAKE 3")
  refine take_in (i := 4) (v := _) rfl (by kernel_rfl) (by kernel_rfl) (by kernel_rfl) (fun _ _ _ h => h) (yields_load (by rfl) _ _ rfl _ rfl _ _ (fun W hW => (HS.out.below HB10.out).below hW) Try.underlying59 rfl rfl) (Below.refl _ _) ?_
  (try simp only [Act.put, List.setIfInBounds_toArray, List.set_cons_zero, List.set_cons_succ])
  refine take_in (i := 7) (v := _) rfl (by kernel_rfl) (by kernel_rfl) (by kernel_rfl) (fun _ _ _ h => h) (yields_load (by rfl) _ _ rfl _ rfl _ _ (fun W hW => (HO.out.below HB10.out).below hW) Try.underlying59 rfl rfl) (Below.refl _ _) ?_
  (try simp only [Act.put, List.setIfInBounds_toArray, List.set_cons_zero, List.set_cons_succ])
  refine take_in (i := 11) (v := _) rfl (by kernel_rfl) (by kernel_rfl) (by kernel_rfl) (fun _ _ _ h => h) (yields_load (by rfl) _ _ rfl _ rfl _ _ (fun W hW => (HS.out.below HB10.out).below hW) Try.underlying59 rfl rfl) (Below.refl _ _) ?_
  (try simp only [Act.put, List.setIfInBounds_toArray, List.set_cons_zero, List.set_cons_succ])
  refine take_in (i := 12) (v := _) rfl (by kernel_rfl) (by kernel_rfl) (by kernel_rfl) (fun _ _ _ h => h) (yields_load (by rfl) _ _ rfl _ rfl _ _ (fun W hW => (HO.out.below HB10.out).below hW) Try.underlying59 rfl rfl) (Below.refl _ _) ?_
  (try simp only [Act.put, List.setIfInBounds_toArray, List.set_cons_zero, List.set_cons_succ])
  refine call_in (i := 5) rfl (by kernel_rfl) (by kernel_rfl) (fun K hK => ?_)
  go_simp
  refine (put_state v10 A B n ca m cb ls ts (HA.out.below HX10.out) (HBr.out.below HX10.out) HL1.out).mono ?_
  rintro e v11 ⟨z6, rfl, hr6, h1011⟩
  obtain ⟨A6, c6, rfl, _, _, _, hbs6⟩ := rd_bs hr6
  have C6 : ∀ W, Below v11.heap.size v11 W → (convert 23 9 (.slice A6 (encState ls ts).length c6)).run Try.prog W = .ok (.string ⟨(encState ls ts).toArray⟩) W := fun W hW => conv_bs (hbs6.below hW)
  have HX11 := Lib.hid (HX10.out.trans (h1011.mono HX10.out.size))
  clear hr6
  refine hK.out _ _ h1011 ?_
  (try simp only [Act.put, List.setIfInBounds_toArray, List.set_cons_zero, List.set_cons_succ])
  first
    | (refine take_in (i := 6) (v := ?_) rfl (by kernel_rfl) (by kernel_rfl) (by kernel_rfl) (fun _ _ _ h => h) (Or.inl ⟨by rfl, ?_⟩) (Below.refl _ _) ?_; rotate_left; (focus (intro W hSw; have C6 := C6 W hSw; go_simp; (try rfl); done)); (try simp only [Act.put, List.setIfInBounds_toArray, List.set_cons_zero, List.set_cons_succ]))
    | (refine take_in (i := 6) (v := undef) rfl (by kernel_rfl) (by kernel_rfl) (by kernel_rfl) (fun _ _ _ h => h) (Or.inr ⟨by rfl, rfl⟩) (Below.refl _ _) ?_; (try simp only [Act.put, List.setIfInBounds_toArray, List.set_cons_zero, List.set_cons_succ]))
    | (fail "HTAKE 6")
  clear C6 hbs6
  refine call_in (i := 8) rfl (by kernel_rfl) (by kernel_rfl) (fun K hK => ?_)
  go_simp
  refine (put_state v11 C D k cc q cd lo tq (HC.out.below HX11.out) (HD.out.below HX11.out) HL2.out).mono ?_
  rintro e v12 ⟨z7, rfl, hr7, h1112⟩
  obtain ⟨A7, c7, rfl, _, _, _, hbs7⟩ := rd_bs hr7
  have C7 : ∀ W, Below v12.heap.size v12 W → (convert 23 9 (.slice A7 (encState lo tq).length c7)).run Try.prog W = .ok (.string ⟨(encState lo tq).toArray⟩) W := fun W hW => conv_bs (hbs7.below hW)
  have HX12 := Lib.hid (HX11.out.trans (h1112.mono HX11.out.size))
  clear hr7
  refine hK.out _ _ h1112 ?_
  (try simp only [Act.put, List.setIfInBounds_toArray, List.set_cons_zero, List.set_cons_succ])
  first
    | (refine take_in (i := 9) (v := ?_) rfl (by kernel_rfl) (by kernel_rfl) (by kernel_rfl) (fun _ _ _ h => h) (Or.inl ⟨by rfl, ?_⟩) (Below.refl _ _) ?_; rotate_left; (focus (intro W hSw; have C7 := C7 W hSw; go_simp; (try rfl); done)); (try simp only [Act.put, List.setIfInBounds_toArray, List.set_cons_zero, List.set_cons_succ]))
    | (refine take_in (i := 9) (v := undef) rfl (by kernel_rfl) (by kernel_rfl) (by kernel_rfl) (fun _ _ _ h => h) (Or.inr ⟨by rfl, rfl⟩) (Below.refl _ _) ?_; (try simp only [Act.put, List.setIfInBounds_toArray, List.set_cons_zero, List.set_cons_succ]))
    | (fail "HTAKE 9")
  clear C7 hbs7
  obtain ⟨q0, hq0⟩ : ∃ q0, (encState ls ts == encState lo tq) = q0 := ⟨_, rfl⟩
  first
    | (refine take_in (i := 10) (v := ?_) rfl (by kernel_rfl) (by kernel_rfl) (by kernel_rfl) (fun _ _ _ h => h) (Or.inl ⟨by rfl, ?_⟩) (Below.refl _ _) ?_; rotate_left; (focus (intro W hSw; go_simp; (try rfl); done)); (try simp only [Act.put, List.setIfInBounds_toArray, List.set_cons_zero, List.set_cons_succ]))
    | (refine take_in (i := 10) (v := undef) rfl (by kernel_rfl) (by kernel_rfl) (by kernel_rfl) (fun _ _ _ h => h) (Or.inr ⟨by rfl, rfl⟩) (Below.refl _ _) ?_; (try simp only [Act.put, List.setIfInBounds_toArray, List.set_cons_zero, List.set_cons_succ]))
    | (fail "HTAKE 10")
  have HQ0 := Lib.hid hq0
  clear hq0
  refine call_in (i := 13) rfl (by kernel_rfl) (by kernel_rfl) (fun K hK => ?_)
  go_simp
  refine (rsame_state v12 A C B D n k m q ca cc cb cd ls lo ts tq (HA.out.below HX12.out) (HC.out.below HX12.out) (HBr.out.below HX12.out) (HD.out.below HX12.out) bn bm).mono ?_
  rintro e v13 ⟨q1, rfl, hq1, h1213⟩
  obtain rfl : q0 = q1 := Bool.eq_iff_iff.2 (by rw [← HQ0.out, beq_iff_eq]; exact HIFF.out.trans hq1.symm)
  clear hq1
  have HX13 := Lib.hid (HX12.out.trans (h1213.mono HX12.out.size))
  have hqq : (q0 == q0) = true := beq_self_eq_true q0
  refine hK.out _ _ h1213 ?_
  (try simp only [Act.put, List.setIfInBounds_toArray, List.set_cons_zero, List.set_cons_succ])
  first
    | (refine take_in (i := 14) (v := ?_) rfl (by kernel_rfl) (by kernel_rfl) (by kernel_rfl) (fun _ _ _ h => h) (Or.inl ⟨by rfl, ?_⟩) (Below.refl _ _) ?_; rotate_left; (focus (intro W hSw; go_simp; (try rfl); done)); (try simp only [Act.put, List.setIfInBounds_toArray, List.set_cons_zero, List.set_cons_succ]))
    | (refine take_in (i := 14) (v := undef) rfl (by kernel_rfl) (by kernel_rfl) (by kernel_rfl) (fun _ _ _ h => h) (Or.inr ⟨by rfl, rfl⟩) (Below.refl _ _) ?_; (try simp only [Act.put, List.setIfInBounds_toArray, List.set_cons_zero, List.set_cons_succ]))
    | (fail "HTAKE 14")
  first
    | (refine take_in (i := 15) (v := ?_) rfl (by kernel_rfl) (by kernel_rfl) (by kernel_rfl) (fun _ _ _ h => h) (Or.inl ⟨by rfl, ?_⟩) (Below.refl _ _) ?_; rotate_left; (focus (intro W hSw; go_simp; (try rfl); done)); (try simp only [Act.put, List.setIfInBounds_toArray, List.set_cons_zero, List.set_cons_succ]))
    | (refine take_in (i := 15) (v := undef) rfl (by kernel_rfl) (by kernel_rfl) (by kernel_rfl) (fun _ _ _ h => h) (Or.inr ⟨by rfl, rfl⟩) (Below.refl _ _) ?_; (try simp only [Act.put, List.setIfInBounds_toArray, List.set_cons_zero, List.set_cons_succ]))
    | (fail "HTAKE 15")
  first
    | (refine take_in (i := 16) (v := ?_) rfl (by kernel_rfl) (by kernel_rfl) (by kernel_rfl) (fun _ _ _ h => h) (Or.inl ⟨by rfl, ?_⟩) (Below.refl _ _) ?_; rotate_left; (focus (intro W hSw; go_simp; (try rfl); done)); (try simp only [Act.put, List.setIfInBounds_toArray, List.set_cons_zero, List.set_cons_succ]))
    | (refine take_in (i := 16) (v := undef) rfl (by kernel_rfl) (by kernel_rfl) (by kernel_rfl) (fun _ _ _ h => h) (Or.inr ⟨by rfl, rfl⟩) (Below.refl _ _) ?_; (try simp only [Act.put, List.setIfInBounds_toArray, List.set_cons_zero, List.set_cons_succ]))
    | (fail "HTAKE 16")
  refine wpAnyH_done (by kernel_rfl) ?_ _
  go_wp2_with fail
  go_ret
  exact ⟨rfl, HX13.out⟩
set_option maxRecDepth 20000 in
theorem w_TaskBack (s : STATE.Ty) (cs : List Value) (o : STATE.Ty) (cs2 : List Value) (w : World) (hs : Rd w anyB STATE s cs) (ho : Rd w anyB STATE o cs2) :
    Calls Try.prog 9 #[.agg cs.toArray, .agg cs2.toArray] w fun e w' => e = .returned (.bool true) ∧ Below w.heap.size w w' := by
  obtain ⟨ls, ts, A, ca, B, cb, rfl, rfl, _, h1, h2⟩ := rd_state hs
  obtain ⟨lo, tq, C, cc, D, cd, rfl, rfl, _, h3, h4⟩ := rd_state ho
  exact x_TaskBack ls ts lo tq A B C D _ ca _ cb _ cc _ cd w hs ho
end Go.Proofs.Ytnolhnlhohpkpaa
