import Derived.Test.YtnolhnlhohpkpaaCdcV
import Derived.Test.YtnolhnlhohpkpaaTskX
import Derived.Deep.CutBlock
import Derived.Deep.DeepCutAuto
namespace Go.Proofs.Ytnolhnlhohpkpaa
open Go.RowKit Cdc
set_option linter.unusedVariables false
set_option linter.unusedSimpArgs false
set_option maxHeartbeats 4000000 in
set_option maxRecDepth 20000 in
theorem rwide_any (n : Nat) (w : World) (hn : n < 18446744073709551616) :
    Calls Try.prog 74 #[.int .u64 n] w fun e w' => e = .returned (.int .i64 (wide n)) ∧ w = w' := by
  go_enter Try.func74, Try.ntmps74
  go_wp2_with fail
  go_loop [3] (fun s3 => ∃ k : Nat, 1 ≤ k ∧ k ≤ wide n ∧ s3 = .int .i64 k) (fun s3 => 9 - (intOf s3).toNat)
  case atStart => exact ⟨1, by omega, (wide_pos n).1, rfl⟩
  case round =>
    obtain ⟨k, h1, h2, rfl⟩ := hrel
    have h8 : k = 1 ∨ k = 2 ∨ k = 3 ∨ k = 4 ∨ k = 5 ∨ k = 6 ∨ k = 7 ∨ k = 8 := by have := (wide_pos n).2; omega
    have n0 : (0 : Int) ≤ (n : Int) := by omega
    have H2 := Lib.hid h2
    clear h2
    rcases h8 with rfl | rfl | rfl | rfl | rfl | rfl | rfl | rfl
    · by_cases hlt : n < 256
      · have hb : (n : Int) < 256 := by omega
        have HW := Lib.hid (show wide n = 1 by have h3 : 1 ≤ wide n := H2.out; revert h3; unfold wide; (repeat' split) <;> omega)
        clear hlt
        go_wp2_with fail
        go_ret
        exact ⟨by rw [HW.out]; rfl, rfl⟩
      · have hb : ¬ (n : Int) < 256 := by omega
        have HW := Lib.hid (show 2 ≤ wide n by unfold wide; (repeat' split) <;> omega)
        clear hlt
        go_wp2_with fail
        go_round
        case rel => exact ⟨2, by omega, HW.out, rfl⟩
        case measure => simp [intOf]
    · by_cases hlt : n < 65536
      · have hb : (n : Int) < 65536 := by omega
        have HW := Lib.hid (show wide n = 2 by have h3 : 2 ≤ wide n := H2.out; revert h3; unfold wide; (repeat' split) <;> omega)
        clear hlt
        go_wp2_with fail
        go_ret
        exact ⟨by rw [HW.out]; rfl, rfl⟩
      · have hb : ¬ (n : Int) < 65536 := by omega
        have HW := Lib.hid (show 3 ≤ wide n by unfold wide; (repeat' split) <;> omega)
        clear hlt
        go_wp2_with fail
        go_round
        case rel => exact ⟨3, by omega, HW.out, rfl⟩
        case measure => simp [intOf]
    · by_cases hlt : n < 16777216
      · have hb : (n : Int) < 16777216 := by omega
        have HW := Lib.hid (show wide n = 3 by have h3 : 3 ≤ wide n := H2.out; revert h3; unfold wide; (repeat' split) <;> omega)
        clear hlt
        go_wp2_with fail
        go_ret
        exact ⟨by rw [HW.out]; rfl, rfl⟩
      · have hb : ¬ (n : Int) < 16777216 := by omega
        have HW := Lib.hid (show 4 ≤ wide n by unfold wide; (repeat' split) <;> omega)
        clear hlt
        go_wp2_with fail
        go_round
        case rel => exact ⟨4, by omega, HW.out, rfl⟩
        case measure => simp [intOf]
    · by_cases hlt : n < 4294967296
      · have hb : (n : Int) < 4294967296 := by omega
        have HW := Lib.hid (show wide n = 4 by have h3 : 4 ≤ wide n := H2.out; revert h3; unfold wide; (repeat' split) <;> omega)
        clear hlt
        go_wp2_with fail
        go_ret
        exact ⟨by rw [HW.out]; rfl, rfl⟩
      · have hb : ¬ (n : Int) < 4294967296 := by omega
        have HW := Lib.hid (show 5 ≤ wide n by unfold wide; (repeat' split) <;> omega)
        clear hlt
        go_wp2_with fail
        go_round
        case rel => exact ⟨5, by omega, HW.out, rfl⟩
        case measure => simp [intOf]
    · by_cases hlt : n < 1099511627776
      · have hb : (n : Int) < 1099511627776 := by omega
        have HW := Lib.hid (show wide n = 5 by have h3 : 5 ≤ wide n := H2.out; revert h3; unfold wide; (repeat' split) <;> omega)
        clear hlt
        go_wp2_with fail
        go_ret
        exact ⟨by rw [HW.out]; rfl, rfl⟩
      · have hb : ¬ (n : Int) < 1099511627776 := by omega
        have HW := Lib.hid (show 6 ≤ wide n by unfold wide; (repeat' split) <;> omega)
        clear hlt
        go_wp2_with fail
        go_round
        case rel => exact ⟨6, by omega, HW.out, rfl⟩
        case measure => simp [intOf]
    · by_cases hlt : n < 281474976710656
      · have hb : (n : Int) < 281474976710656 := by omega
        have HW := Lib.hid (show wide n = 6 by have h3 : 6 ≤ wide n := H2.out; revert h3; unfold wide; (repeat' split) <;> omega)
        clear hlt
        go_wp2_with fail
        go_ret
        exact ⟨by rw [HW.out]; rfl, rfl⟩
      · have hb : ¬ (n : Int) < 281474976710656 := by omega
        have HW := Lib.hid (show 7 ≤ wide n by unfold wide; (repeat' split) <;> omega)
        clear hlt
        go_wp2_with fail
        go_round
        case rel => exact ⟨7, by omega, HW.out, rfl⟩
        case measure => simp [intOf]
    · by_cases hlt : n < 72057594037927936
      · have hb : (n : Int) < 72057594037927936 := by omega
        have HW := Lib.hid (show wide n = 7 by have h3 : 7 ≤ wide n := H2.out; revert h3; unfold wide; (repeat' split) <;> omega)
        clear hlt
        go_wp2_with fail
        go_ret
        exact ⟨by rw [HW.out]; rfl, rfl⟩
      · have hb : ¬ (n : Int) < 72057594037927936 := by omega
        have HW := Lib.hid (show 8 ≤ wide n by unfold wide; (repeat' split) <;> omega)
        clear hlt
        go_wp2_with fail
        go_round
        case rel => exact ⟨8, by omega, HW.out, rfl⟩
        case measure => simp [intOf]
    · go_wp2_with fail
      go_ret
      exact ⟨by rw [show wide n = 8 by have := (wide_pos n).2; have := H2.out; omega]; rfl, rfl⟩
set_option maxHeartbeats 4000000 in
set_option maxRecDepth 20000 in
theorem rfix_any (base : Nat) (w0 : World) (v : Value) (n : Nat) (xs : List UInt8) (M sz : Nat) (w : World) (hown0 : w.ownsRow base 5 1 v n (xs.map encB)) (hb : Below base w0 w) (hbase : base ≤ w0.heap.size) (hsz : sz ≤ 8) (hn : n ≤ 70000000000) :
    Calls Try.prog 99 #[v, .int .u64 M, .int .i64 sz] w fun e w' => ∃ v', e = .returned v' ∧ w'.ownsRow base 5 1 v' (n + sz) ((xs ++ be sz M).map encB) ∧ Below base w0 w' := by
  have hlen : xs.length = n := by have := hown0.1; simpa using this
  go_enter Try.func99, Try.ntmps99
  go_wp2
  go_loopw [0, 7] (fun u i wr => ∃ r : Nat, r ≤ sz ∧ i = .int .i64 ((r : Int) - 1) ∧ ∃ pre : List UInt8, Hid (be sz M = pre ++ be r M) ∧ wr.ownsRow base 5 1 u (n + pre.length) ((xs ++ pre).map encB) ∧ Below base w0 wr) (fun _ i _ => (intOf i + 1).toNat)
  case atStart => exact ⟨sz, Nat.le_refl _, rfl, [], Lib.hid rfl, own_cast hown0 (by simp), hb⟩
  case round =>
    obtain ⟨r, hr, rfl, pre, HP, hown, hbel⟩ := hrel
    have hz := Nat.le_trans hbase hbel.size
    have hpl : pre.length ≤ 8 := by
      have := congrArg List.length HP.out
      rw [be_len, List.length_append] at this; omega
    have hr8 : r = 0 ∨ r = 1 ∨ r = 2 ∨ r = 3 ∨ r = 4 ∨ r = 5 ∨ r = 6 ∨ r = 7 ∨ r = 8 := by omega
    rcases hr8 with rfl | rfl | rfl | rfl | rfl | rfl | rfl | rfl | rfl
    · go_wp2
      go_ret
      exact ⟨_, rfl, own_len (own_cast hown (by rw [HP.out]; simp [be])) (by have := congrArg List.length HP.out; rw [be_len] at this; simp [be] at this; omega), hbel⟩
    · go_wp2_with (at_builtin; refine wp_app (base := base) rfl (.tmp 14) (.tmp 20) rfl (hown.alloc _) (lit_rc wr 5 (0, 0) _ 1 rfl) (hbel.alloc (by omega) _) Try.underlying23 info_byte rfl rfl rfl (one_lit1 _) (by omega) (by omega) (by simp; omega) ?_; intro v3 w3 ho3 hq3 _ _; replace ho3 := own_cast ho3 ((congrArg (List.map encB (xs ++ pre) ++ [·]) (enc_of (n := (M : Int) % 256) (m := M / 256 ^ 0) (by omega))).trans (List.map_append (l₂ := [UInt8.ofNat (M / 256 ^ 0)])).symm); rw [List.append_assoc] at ho3)
      go_roundw
      case rel => exact ⟨0, by omega, by go_num, pre ++ [UInt8.ofNat (M / 256 ^ 0)], Lib.hid (by rw [HP.out]; simp [be]), own_len ho3 (by simp; omega), hq3⟩
      case measure => simp [intOf]
    · go_wp2_with (at_builtin; refine wp_app (base := base) rfl (.tmp 14) (.tmp 20) rfl (hown.alloc _) (lit_rc wr 5 (0, 0) _ 1 rfl) (hbel.alloc (by omega) _) Try.underlying23 info_byte rfl rfl rfl (one_lit1 _) (by omega) (by omega) (by simp; omega) ?_; intro v3 w3 ho3 hq3 _ _; replace ho3 := own_cast ho3 ((congrArg (List.map encB (xs ++ pre) ++ [·]) (enc_of (n := (M : Int) / 256 % 256) (m := M / 256 ^ 1) (by omega))).trans (List.map_append (l₂ := [UInt8.ofNat (M / 256 ^ 1)])).symm); rw [List.append_assoc] at ho3)
      go_roundw
      case rel => exact ⟨1, by omega, by go_num, pre ++ [UInt8.ofNat (M / 256 ^ 1)], Lib.hid (by rw [HP.out]; simp [be]), own_len ho3 (by simp; omega), hq3⟩
      case measure => simp [intOf]
    · go_wp2_with (at_builtin; refine wp_app (base := base) rfl (.tmp 14) (.tmp 20) rfl (hown.alloc _) (lit_rc wr 5 (0, 0) _ 1 rfl) (hbel.alloc (by omega) _) Try.underlying23 info_byte rfl rfl rfl (one_lit1 _) (by omega) (by omega) (by simp; omega) ?_; intro v3 w3 ho3 hq3 _ _; replace ho3 := own_cast ho3 ((congrArg (List.map encB (xs ++ pre) ++ [·]) (enc_of (n := (M : Int) / 65536 % 256) (m := M / 256 ^ 2) (by omega))).trans (List.map_append (l₂ := [UInt8.ofNat (M / 256 ^ 2)])).symm); rw [List.append_assoc] at ho3)
      go_roundw
      case rel => exact ⟨2, by omega, by go_num, pre ++ [UInt8.ofNat (M / 256 ^ 2)], Lib.hid (by rw [HP.out]; simp [be]), own_len ho3 (by simp; omega), hq3⟩
      case measure => simp [intOf]
    · go_wp2_with (at_builtin; refine wp_app (base := base) rfl (.tmp 14) (.tmp 20) rfl (hown.alloc _) (lit_rc wr 5 (0, 0) _ 1 rfl) (hbel.alloc (by omega) _) Try.underlying23 info_byte rfl rfl rfl (one_lit1 _) (by omega) (by omega) (by simp; omega) ?_; intro v3 w3 ho3 hq3 _ _; replace ho3 := own_cast ho3 ((congrArg (List.map encB (xs ++ pre) ++ [·]) (enc_of (n := (M : Int) / 16777216 % 256) (m := M / 256 ^ 3) (by omega))).trans (List.map_append (l₂ := [UInt8.ofNat (M / 256 ^ 3)])).symm); rw [List.append_assoc] at ho3)
      go_roundw
      case rel => exact ⟨3, by omega, by go_num, pre ++ [UInt8.ofNat (M / 256 ^ 3)], Lib.hid (by rw [HP.out]; simp [be]), own_len ho3 (by simp; omega), hq3⟩
      case measure => simp [intOf]
    · go_wp2_with (at_builtin; refine wp_app (base := base) rfl (.tmp 14) (.tmp 20) rfl (hown.alloc _) (lit_rc wr 5 (0, 0) _ 1 rfl) (hbel.alloc (by omega) _) Try.underlying23 info_byte rfl rfl rfl (one_lit1 _) (by omega) (by omega) (by simp; omega) ?_; intro v3 w3 ho3 hq3 _ _; replace ho3 := own_cast ho3 ((congrArg (List.map encB (xs ++ pre) ++ [·]) (enc_of (n := (M : Int) / 4294967296 % 256) (m := M / 256 ^ 4) (by omega))).trans (List.map_append (l₂ := [UInt8.ofNat (M / 256 ^ 4)])).symm); rw [List.append_assoc] at ho3)
      go_roundw
      case rel => exact ⟨4, by omega, by go_num, pre ++ [UInt8.ofNat (M / 256 ^ 4)], Lib.hid (by rw [HP.out]; simp [be]), own_len ho3 (by simp; omega), hq3⟩
      case measure => simp [intOf]
    · go_wp2_with (at_builtin; refine wp_app (base := base) rfl (.tmp 14) (.tmp 20) rfl (hown.alloc _) (lit_rc wr 5 (0, 0) _ 1 rfl) (hbel.alloc (by omega) _) Try.underlying23 info_byte rfl rfl rfl (one_lit1 _) (by omega) (by omega) (by simp; omega) ?_; intro v3 w3 ho3 hq3 _ _; replace ho3 := own_cast ho3 ((congrArg (List.map encB (xs ++ pre) ++ [·]) (enc_of (n := (M : Int) / 1099511627776 % 256) (m := M / 256 ^ 5) (by omega))).trans (List.map_append (l₂ := [UInt8.ofNat (M / 256 ^ 5)])).symm); rw [List.append_assoc] at ho3)
      go_roundw
      case rel => exact ⟨5, by omega, by go_num, pre ++ [UInt8.ofNat (M / 256 ^ 5)], Lib.hid (by rw [HP.out]; simp [be]), own_len ho3 (by simp; omega), hq3⟩
      case measure => simp [intOf]
    · go_wp2_with (at_builtin; refine wp_app (base := base) rfl (.tmp 14) (.tmp 20) rfl (hown.alloc _) (lit_rc wr 5 (0, 0) _ 1 rfl) (hbel.alloc (by omega) _) Try.underlying23 info_byte rfl rfl rfl (one_lit1 _) (by omega) (by omega) (by simp; omega) ?_; intro v3 w3 ho3 hq3 _ _; replace ho3 := own_cast ho3 ((congrArg (List.map encB (xs ++ pre) ++ [·]) (enc_of (n := (M : Int) / 281474976710656 % 256) (m := M / 256 ^ 6) (by omega))).trans (List.map_append (l₂ := [UInt8.ofNat (M / 256 ^ 6)])).symm); rw [List.append_assoc] at ho3)
      go_roundw
      case rel => exact ⟨6, by omega, by go_num, pre ++ [UInt8.ofNat (M / 256 ^ 6)], Lib.hid (by rw [HP.out]; simp [be]), own_len ho3 (by simp; omega), hq3⟩
      case measure => simp [intOf]
    · go_wp2_with (at_builtin; refine wp_app (base := base) rfl (.tmp 14) (.tmp 20) rfl (hown.alloc _) (lit_rc wr 5 (0, 0) _ 1 rfl) (hbel.alloc (by omega) _) Try.underlying23 info_byte rfl rfl rfl (one_lit1 _) (by omega) (by omega) (by simp; omega) ?_; intro v3 w3 ho3 hq3 _ _; replace ho3 := own_cast ho3 ((congrArg (List.map encB (xs ++ pre) ++ [·]) (enc_of (n := (M : Int) / 72057594037927936 % 256) (m := M / 256 ^ 7) (by omega))).trans (List.map_append (l₂ := [UInt8.ofNat (M / 256 ^ 7)])).symm); rw [List.append_assoc] at ho3)
      go_roundw
      case rel => exact ⟨7, by omega, by go_num, pre ++ [UInt8.ofNat (M / 256 ^ 7)], Lib.hid (by rw [HP.out]; simp [be]), own_len ho3 (by simp; omega), hq3⟩
      case measure => simp [intOf]
end Go.Proofs.Ytnolhnlhohpkpaa
namespace Go.Proofs.Ytnolhnlhohpkpaa
open Go.RowKit Cdc
set_option linter.unusedVariables false
set_option linter.unusedSimpArgs false
/-- Bytes of one's own. -/
def OB (w : World) (B : Nat) (v : Value) (xs : List UInt8) : Prop := w.ownsRow B 5 1 v xs.length (xs.map encB)
set_option maxRecDepth 20000 in
theorem ob_of {w : World} {B n : Nat} {v : Value} {xs : List UInt8} (h : w.ownsRow B 5 1 v n (xs.map encB)) : OB w B v xs := own_len h (by have := h.1; simp at this; omega)
def OBPost (w : World) (B : Nat) (xs : List UInt8) (e : Ending) (w' : World) : Prop := ∃ v', e = .returned v' ∧ OB w' B v' xs ∧ Below B w w'
set_option maxRecDepth 20000 in
theorem rwN_any (B : Nat) (w : World) (v : Value) (xs : List UInt8) (m : Nat) (h : OB w B v xs) (hB : B ≤ w.heap.size) (hm : m < 18446744073709551616) (hx : xs.length ≤ 60000000000) :
    Calls Try.prog 60 #[v, .int .u64 m] w (OBPost w B (xs ++ encN m)) := by
  by_cases h128 : m < 128
  · have h128' : (m : Int) < 128 := by omega
    have hw8 : IntKind.u8.wrap (m : Int) = (m : Int) := IntWalk.u8_in _ (by omega)
    have HE := Lib.hid (show encN m = [UInt8.ofNat m] by unfold encN; rw [if_pos h128])
    have HQ := Lib.hid (show Value.int .u8 (m : Int) = encB (UInt8.ofNat m) from enc_of (by omega))
    have HO := Lib.hid h
    clear h h128
    go_enter Try.func60, Try.ntmps60
    go_wp2_with (at_builtin; refine wp_app (base := B) (w0 := w) rfl (.tmp 8) (.tmp 11) rfl (HO.out.alloc _) (lit_rc w 5 (0, 0) _ 1 rfl) ((Below.refl B w).alloc hB _) Try.underlying23 info_byte rfl rfl rfl (one_lit1 _) (by omega) (by omega) (by simp; omega) ?_; intro v3 w3 ho3 hq3 _ _; rw [show (#[Value.int .u8 (m : Int)] : Array Value).toList = [UInt8.ofNat m].map encB from congrArg (· :: []) HQ.out, ← List.map_append] at ho3)
    go_ret
    rw [HE.out]
    exact ⟨_, rfl, ob_of ho3, hq3⟩
  · have h128' : ¬ (m : Int) < 128 := by omega
    obtain ⟨k, hk⟩ : ∃ k, wide m = k := ⟨_, rfl⟩
    have hk8 := wide_pos m
    rw [hk] at hk8
    have HK := Lib.hid hk
    have HE := Lib.hid (show encN m = [UInt8.ofNat (128 + k)] ++ be k m by unfold encN; rw [if_neg h128, hk]; rfl)
    have hw8 : IntKind.u8.wrap (128 + (k : Int)) = 128 + (k : Int) := IntWalk.u8_in _ (by omega)
    have HQ := Lib.hid (show Value.int .u8 (128 + (k : Int)) = encB (UInt8.ofNat (128 + k)) from enc_of (by omega))
    have HO := Lib.hid h
    clear h h128 hk
    go_enter Try.func60, Try.ntmps60
    go_wp2_with (first
      | (go_at_call 74; refine (rwide_any m _ hm).mono ?_; rintro e w2 ⟨rfl, rfl⟩; rw [HK.out])
      | (at_builtin; refine wp_app (base := B) (w0 := w) rfl (.tmp 15) (.tmp 19) rfl (HO.out.alloc _) (lit_rc w 5 (0, 0) _ 1 rfl) ((Below.refl B w).alloc hB _) Try.underlying23 info_byte rfl rfl rfl (one_lit1 _) (by omega) (by omega) (by simp; omega) ?_; intro v3 w3 ho3 hq3 _ _; rw [show (#[Value.int .u8 (128 + (k : Int))] : Array Value).toList = [UInt8.ofNat (128 + k)].map encB from congrArg (· :: []) HQ.out, ← List.map_append] at ho3; have HO3 := Lib.hid ho3; have HB3 := Lib.hid hq3; clear ho3 hq3)
      | (go_at_call 99; refine (rfix_any B w3 v3 (xs.length + 1) (xs ++ [UInt8.ofNat (128 + k)]) m k w3 HO3.out (Below.refl _ _) (Nat.le_trans hB HB3.out.size) hk8.2 (by omega)).mono ?_; rintro e w4 ⟨v4, rfl, ho4, hb4⟩))
    go_ret
    rw [HE.out, ← List.append_assoc]
    exact ⟨_, rfl, ob_of ho4, HB3.out.trans hb4⟩
set_option maxRecDepth 20000 in
theorem rwF_any (B : Nat) (w : World) (v : Value) (xs : List UInt8) (f : Nat) (hf : f < 18446744073709551616) (h : OB w B v xs) (hB : B ≤ w.heap.size) (hx : xs.length ≤ 60000000000) :
    Calls Try.prog 62 #[v, .float .f64 f] w (OBPost w B (xs ++ be 8 (keyN f))) := by
  have hk := keyV_range f hf
  rw [← keyF_eq hf] at hk
  obtain ⟨K, hK⟩ : ∃ K : Nat, keyF f = (K : Int) := ⟨(keyF f).toNat, by omega⟩
  have HN := Lib.hid (show keyN f = K by unfold keyN; rw [hK]; rfl)
  rw [key_same hf] at hK
  have HK := Lib.hid hK
  have HO := Lib.hid h
  have hK64 : K < 18446744073709551616 := by have := HN.out; unfold keyN at this; omega
  clear hK hk h
  go_enter Try.func62, Try.ntmps62
  go_wp2_with (first
    | (go_at_call 100; refine (rkey_any _ _).mono ?_; rintro e w' ⟨rfl, rfl⟩; rw [HK.out])
    | (go_at_call 99; refine (rfix_any B w v xs.length xs K 8 w HO.out (Below.refl _ _) hB (by omega) (by omega)).mono ?_; rintro e w4 ⟨v4, rfl, ho4, hb4⟩))
  go_ret
  rw [HN.out]
  exact ⟨_, rfl, ob_of ho4, hb4⟩
set_option maxRecDepth 20000 in
theorem rwFlag_any (B : Nat) (w : World) (v : Value) (xs : List UInt8) (q : Bool) (h : OB w B v xs) (hB : B ≤ w.heap.size) (hx : xs.length ≤ 60000000000) :
    Calls Try.prog 64 #[v, .bool q] w (OBPost w B (xs ++ encN (if q = true then 1 else 0))) := by
  have HO := Lib.hid h
  clear h
  cases q with
  | true =>
    go_enter Try.func64, Try.ntmps64
    go_wp2_with (at_builtin; refine wp_app (base := B) (w0 := w) rfl (.tmp 6) (.tmp 7) rfl (HO.out.alloc _) (lit_rc w 5 (0, 0) _ 1 rfl) ((Below.refl B w).alloc hB _) Try.underlying23 info_byte rfl rfl rfl (one_lit1 _) (by omega) (by omega) (by simp; omega) ?_; intro v3 w3 ho3 hq3 _ _; rw [show (#[Value.int .u8 1] : Array Value).toList = [(1 : UInt8)].map encB from rfl, ← List.map_append] at ho3)
    go_ret
    exact ⟨_, rfl, ob_of ho3, hq3⟩
  | false =>
    go_enter Try.func64, Try.ntmps64
    go_wp2_with (at_builtin; refine wp_app (base := B) (w0 := w) rfl (.tmp 9) (.tmp 10) rfl (HO.out.alloc _) (lit_rc w 5 (0, 0) _ 1 rfl) ((Below.refl B w).alloc hB _) Try.underlying23 info_byte rfl rfl rfl (one_lit1 _) (by omega) (by omega) (by simp; omega) ?_; intro v3 w3 ho3 hq3 _ _; rw [show (#[Value.int .u8 0] : Array Value).toList = [(0 : UInt8)].map encB from rfl, ← List.map_append] at ho3)
    go_ret
    exact ⟨_, rfl, ob_of ho3, hq3⟩
set_option maxRecDepth 20000 in
theorem rwI_any (B : Nat) (w : World) (v : Value) (xs : List UInt8) (n : Int) (h : OB w B v xs) (hB : B ≤ w.heap.size) (hn0 : -9223372036854775808 ≤ n) (hn1 : n < 9223372036854775808) (hx : xs.length ≤ 60000000000) :
    Calls Try.prog 61 #[v, .int .i64 n] w (OBPost w B (xs ++ encN (zig n))) := by
  have HN := Lib.hid (rwN_any B w v xs (zig n) h hB (zig_lt hn0 hn1) hx)
  by_cases h0 : 0 ≤ n
  · have HZ := Lib.hid (show (zig n : Int) = n * 2 by unfold zig; rw [if_pos h0]; omega)
    have hw : IntKind.u64.wrap n = n := by rw [IntKind.wrap_u64]; omega
    have hw2 : IntKind.u64.wrap (n * 2) = n * 2 := by rw [IntKind.wrap_u64]; omega
    rw [HZ.out] at HN
    clear h
    go_enter Try.func61, Try.ntmps61
    go_wp2_with (go_at_call 60; refine HN.out.mono ?_; rintro e w4 ⟨v4, rfl, ho4, hb4⟩)
    go_ret
    exact ⟨_, rfl, ho4, hb4⟩
  · have HZ := Lib.hid (show (zig n : Int) = -(n + 1) * 2 + 1 by unfold zig; rw [if_neg h0]; omega)
    have hw0 : IntKind.i64.wrap (n + 1) = n + 1 := IntWalk.i64_in _ (by omega)
    have hw1 : IntKind.i64.wrap (-(n + 1)) = -(n + 1) := IntWalk.i64_in _ (by omega)
    have hw : IntKind.u64.wrap (-(n + 1)) = -(n + 1) := by rw [IntKind.wrap_u64]; omega
    have hw2 : IntKind.u64.wrap (-(n + 1) * 2) = -(n + 1) * 2 := by rw [IntKind.wrap_u64]; omega
    have hw3 : IntKind.u64.wrap (-(n + 1) * 2 + 1) = -(n + 1) * 2 + 1 := by rw [IntKind.wrap_u64]; omega
    rw [HZ.out] at HN
    clear h
    go_enter Try.func61, Try.ntmps61
    go_wp2_with (go_at_call 60; refine HN.out.mono ?_; rintro e w4 ⟨v4, rfl, ho4, hb4⟩)
    go_ret
    exact ⟨_, rfl, ho4, hb4⟩
set_option maxRecDepth 20000 in
theorem rwB_any (B : Nat) (w : World) (v : Value) (xs : List UInt8) (A : Option Addr) (n c : Nat) (bs : List UInt8) (h : OB w B v xs) (hB : B ≤ w.heap.size) (hb : Bs w A n bs) (hA : ∀ ad, A = some ad → bs ≠ [] → ad.block < B) (hn : n ≤ 60000000000) (hx : xs.length ≤ 60000000000) (hxn : xs.length + n ≤ 60000000000) :
    Calls Try.prog 63 #[v, .slice A n c] w (OBPost w B (xs ++ (encN n ++ bs))) := by
  have hw64 : IntKind.u64.wrap (n : Int) = (n : Int) := by rw [IntKind.wrap_u64]; omega
  have HN := Lib.hid (rwN_any B w v xs n h hB (by omega) hx)
  have HB := Lib.hid hb
  have hbl := hb.len
  clear h hb
  go_enter Try.func63, Try.ntmps63
  go_wp2_with (first
    | (go_at_call 60
       refine HN.out.mono ?_
       rintro e w2 ⟨v2, rfl, ho2, hb2⟩
       have HO2 := Lib.hid ho2
       have hR : Rc w2 A n (bs.map encB) := ⟨by simpa using hbl, HB.out.2.2.1, fun ad e j u hu => by
         have hne' : bs ≠ [] := by intro e; subst e; simp at hu
         have hc := HB.out.2.2.2 ad e j u hu
         have := hb2.block (ad.add j).block (by rw [add_block]; exact hA ad e hne')
         simpa [World.cell?, this] using hc⟩
       have HR := Lib.hid hR
       have HB2 := Lib.hid hb2
       have hl2 : (xs ++ encN n).length ≤ xs.length + 9 := by rw [List.length_append]; have := encN_le n; omega
       have HL2 := Lib.hid hl2
       clear ho2 hR hb2 hl2)
    | (at_builtin; refine wp_app (base := B) (w0 := w2) rfl (.tmp 9) (.tmp 10) rfl HO2.out HR.out (Below.refl B w2) Try.underlying23 info_byte rfl rfl rfl (one_bs _) (by have := HL2.out; omega) (by have := HL2.out; omega) (Nat.le_trans hB HB2.out.size) ?_; intro v3 w3 ho3 hq3 _ _; rw [← List.map_append] at ho3))
  go_ret
  rw [← List.append_assoc]
  exact ⟨_, rfl, ob_of ho3, HB2.out.trans hq3⟩
end Go.Proofs.Ytnolhnlhohpkpaa
namespace Go.Proofs.Ytnolhnlhohpkpaa
open Go.RowKit Cdc
set_option linter.unusedVariables false
set_option linter.unusedSimpArgs false
set_option maxHeartbeats 4000000 in
set_option maxRecDepth 20000 in
theorem rput_any (w : World) (A : Option Addr) (n c : Nat) (l : List PartT) (hl : Rows w anyB PART A n l) (hn : n ≤ 90) (hb : ∀ x ∈ l, x.2.2.2.2.1.length ≤ 1000) :
    Calls Try.prog 15 #[.slice A n c] w (OBPost w w.heap.size (encParts keyN l)) := by
  replace hl := hl.weak (ok' := fun k => k < w.heap.size) (fun k _ hlt => hlt)
  go_enter Try.func15, Try.ntmps15
  go_wp2_with fail
  go_loopw [3, 8] (fun s3 s8 wr => ∃ (i : Nat) (v : Value), i ≤ n ∧ v = s3 ∧ s8 = .int .i64 i ∧ OB wr w.heap.size v (encParts keyN (l.take i)) ∧ Below w.heap.size w wr) (fun _ s8 _ => n - (intOf s8).toNat)
  case atStart => exact ⟨0, _, by omega, rfl, rfl, ob_of (own_nil _ _ _ _), Below.refl _ _⟩
  case round =>
    obtain ⟨i, v, hi, rfl, rfl, hO, hbel⟩ := hrel
    have hll := hl.1
    have hel := encParts_le (l.take i) (fun x hx => hb x (List.mem_of_mem_take hx))
    rw [List.length_take, Nat.min_eq_left (by omega)] at hel
    by_cases hlt : i < n
    · obtain ⟨x, hx⟩ : ∃ x, l[i]? = some x := ⟨l[i]'(by omega), List.getElem?_eq_getElem (by omega)⟩
      obtain ⟨ad, rfl⟩ : ∃ ad, A = some ad := by cases A with
        | none => exact absurd (hl.2.1 rfl) (by omega)
        | some ad => exact ⟨ad, rfl⟩
      obtain ⟨cs, _, hat, hrd⟩ := hl.2.2 ad rfl i x hx
      have i0 : (0 : Int) ≤ (i : Int) := by omega
      have i1 : (i : Int) < (n : Int) := by omega
      have HAt := Lib.hid (hat.add.below hbel)
      have hbx := hb x (List.mem_of_getElem? hx)
      have HN := Lib.hid (show encParts keyN (l.take (i + 1)) = encParts keyN (l.take i) ++ encPart keyN x by rw [take_at hx, encParts_snoc])
      obtain ⟨k, nn, ii, f, bs, q, bv, rfl, rfl, hk, hok, h5⟩ := rd_part hrd
      have hbi : ∀ ad', bs ≠ [] → (∃ n c, bv = .slice (some ad') n c) → ad'.block < w.heap.size := by
        rintro ad' hne ⟨n', c', rfl⟩
        obtain ⟨A', n2, c2, e, _, _, _, hr⟩ := rd_sl.1 h5
        injection e with e _
        injection e with e1 e2 e3
        subst e1
        cases bs with
        | nil => exact absurd rfl hne
        | cons b0 bs0 =>
          obtain ⟨cs0, g0, _, g2⟩ := hr.2.2 ad' rfl 0 b0 rfl
          refine g0 ?_
          intro e
          have hg2 := g2.len
          rw [e] at hg2
          simp [Sh.size] at hg2
      obtain ⟨Ab, cb, rfl, _, _, _, hbs⟩ := rd_bs h5
      have HBI := Lib.hid (show ∀ ad', Ab = some ad' → bs ≠ [] → ad'.block < w.heap.size from fun ad' e hne => hbi ad' hne ⟨_, _, by rw [e]⟩)
      have HBs := Lib.hid hbs
      have HO := Lib.hid hO
      have hwz := hbel.size
      have hbl : bs.length ≤ 1000 := hbx
      obtain ⟨o1, o2, o3, o4, o5⟩ := hok
      simp only at o1 o2 o3 o4 o5
      obtain ⟨zs, hz⟩ : ∃ zs, encParts keyN (l.take i) = zs := ⟨_, rfl⟩
      rw [hz] at HO HN hel
      have HEL := Lib.hid hel
      clear hat hrd hx hk h5 hbs hO hz hbx hel hbi
      by_cases k1 : k = 1
      · subst k1
        obtain ⟨m, rfl⟩ : ∃ m : Nat, nn = (m : Int) := ⟨nn.toNat, by omega⟩
        have HE := Lib.hid (show encPart keyN (1, (m : Int), ii, f, bs, q, ()) = encN m from rfl)
        go_wp2_with (first
          | (refine wpL_load rfl 39 (.tmp 10) rfl _ rfl _ _ HAt.out Try.underlying39 rfl rfl ?_)
          | (refine wpL_store rfl 39 (.tmp 5) (.tmp 11) rfl wr.heap.size rfl _ _ 39 rfl (heap_alloc_new wr _) rfl rfl (by intro v hv; simp at hv; rcases hv with rfl | rfl | rfl | rfl | rfl | rfl <;> rfl) ?_
             intro w1 hc1 hg1
             have hbw1 : Below wr.heap.size wr w1 := (below_alloc1 wr _).grown hg1 (by simp) (fun k e => by cases e; exact Nat.le_refl _)
             obtain ⟨c0, c1, c2, c3, c4, c5⟩ := blk6 hc1
             have HO1 := Lib.hid (show OB w1 w.heap.size v zs from own_below HO.out hbw1)
             have HB1 := Lib.hid (hbel.trans (hbw1.mono hwz))
             have HBs1 := Lib.hid ((HBs.out.below hbel).below hbw1)
             have hs1 := HB1.out.size
             clear hc1 hg1 hbw1)
          | (go_at_call 60
             refine (rwN_any w.heap.size w1 v zs m HO1.out hs1 (by omega) (by have := HEL.out; omega)).mono ?_
             rintro e w2 ⟨v2, rfl, hO2, hb2⟩
             have HO2 := Lib.hid hO2
             have HB2 := Lib.hid (HB1.out.trans hb2)
             clear hO2 hb2))
        go_roundw
        case measure => simp [intOf]; omega
        case rel => exact ⟨i + 1, _, by omega, rfl, by go_num, by rw [HN.out, HE.out]; exact HO2.out, HB2.out⟩
      by_cases k2 : k = 2
      · subst k2
        have HE := Lib.hid (show encPart keyN (2, nn, ii, f, bs, q, ()) = encN (zig ii) from rfl)
        go_wp2_with (first
          | (refine wpL_load rfl 39 (.tmp 10) rfl _ rfl _ _ HAt.out Try.underlying39 rfl rfl ?_)
          | (refine wpL_store rfl 39 (.tmp 5) (.tmp 11) rfl wr.heap.size rfl _ _ 39 rfl (heap_alloc_new wr _) rfl rfl (by intro v hv; simp at hv; rcases hv with rfl | rfl | rfl | rfl | rfl | rfl <;> rfl) ?_
             intro w1 hc1 hg1
             have hbw1 : Below wr.heap.size wr w1 := (below_alloc1 wr _).grown hg1 (by simp) (fun k e => by cases e; exact Nat.le_refl _)
             obtain ⟨c0, c1, c2, c3, c4, c5⟩ := blk6 hc1
             have HO1 := Lib.hid (show OB w1 w.heap.size v zs from own_below HO.out hbw1)
             have HB1 := Lib.hid (hbel.trans (hbw1.mono hwz))
             have HBs1 := Lib.hid ((HBs.out.below hbel).below hbw1)
             have hs1 := HB1.out.size
             clear hc1 hg1 hbw1)
          | (go_at_call 61
             refine (rwI_any w.heap.size w1 v zs ii HO1.out hs1 o3 o4 (by have := HEL.out; omega)).mono ?_
             rintro e w2 ⟨v2, rfl, hO2, hb2⟩
             have HO2 := Lib.hid hO2
             have HB2 := Lib.hid (HB1.out.trans hb2)
             clear hO2 hb2))
        go_roundw
        case measure => simp [intOf]; omega
        case rel => exact ⟨i + 1, _, by omega, rfl, by go_num, by rw [HN.out, HE.out]; exact HO2.out, HB2.out⟩
      by_cases k3 : k = 3
      · subst k3
        have HE := Lib.hid (show encPart keyN (3, nn, ii, f, bs, q, ()) = be 8 (keyN f) from rfl)
        go_wp2_with (first
          | (refine wpL_load rfl 39 (.tmp 10) rfl _ rfl _ _ HAt.out Try.underlying39 rfl rfl ?_)
          | (refine wpL_store rfl 39 (.tmp 5) (.tmp 11) rfl wr.heap.size rfl _ _ 39 rfl (heap_alloc_new wr _) rfl rfl (by intro v hv; simp at hv; rcases hv with rfl | rfl | rfl | rfl | rfl | rfl <;> rfl) ?_
             intro w1 hc1 hg1
             have hbw1 : Below wr.heap.size wr w1 := (below_alloc1 wr _).grown hg1 (by simp) (fun k e => by cases e; exact Nat.le_refl _)
             obtain ⟨c0, c1, c2, c3, c4, c5⟩ := blk6 hc1
             have HO1 := Lib.hid (show OB w1 w.heap.size v zs from own_below HO.out hbw1)
             have HB1 := Lib.hid (hbel.trans (hbw1.mono hwz))
             have HBs1 := Lib.hid ((HBs.out.below hbel).below hbw1)
             have hs1 := HB1.out.size
             clear hc1 hg1 hbw1)
          | (go_at_call 62
             refine (rwF_any w.heap.size w1 v zs f o5 HO1.out hs1 (by have := HEL.out; omega)).mono ?_
             rintro e w2 ⟨v2, rfl, hO2, hb2⟩
             have HO2 := Lib.hid hO2
             have HB2 := Lib.hid (HB1.out.trans hb2)
             clear hO2 hb2))
        go_roundw
        case measure => simp [intOf]; omega
        case rel => exact ⟨i + 1, _, by omega, rfl, by go_num, by rw [HN.out, HE.out]; exact HO2.out, HB2.out⟩
      by_cases k4 : k = 4
      · subst k4
        have HE := Lib.hid (show encPart keyN (4, nn, ii, f, bs, q, ()) = encN bs.length ++ bs from rfl)
        go_wp2_with (first
          | (refine wpL_load rfl 39 (.tmp 10) rfl _ rfl _ _ HAt.out Try.underlying39 rfl rfl ?_)
          | (refine wpL_store rfl 39 (.tmp 5) (.tmp 11) rfl wr.heap.size rfl _ _ 39 rfl (heap_alloc_new wr _) rfl rfl (by intro v hv; simp at hv; rcases hv with rfl | rfl | rfl | rfl | rfl | rfl <;> rfl) ?_
             intro w1 hc1 hg1
             have hbw1 : Below wr.heap.size wr w1 := (below_alloc1 wr _).grown hg1 (by simp) (fun k e => by cases e; exact Nat.le_refl _)
             obtain ⟨c0, c1, c2, c3, c4, c5⟩ := blk6 hc1
             have HO1 := Lib.hid (show OB w1 w.heap.size v zs from own_below HO.out hbw1)
             have HB1 := Lib.hid (hbel.trans (hbw1.mono hwz))
             have HBs1 := Lib.hid ((HBs.out.below hbel).below hbw1)
             have hs1 := HB1.out.size
             clear hc1 hg1 hbw1)
          | (go_at_call 63
             refine (rwB_any w.heap.size w1 v zs Ab bs.length cb bs HO1.out hs1 HBs1.out HBI.out (by omega) (by have := HEL.out; omega) (by have := HEL.out; omega)).mono ?_
             rintro e w2 ⟨v2, rfl, hO2, hb2⟩
             have HO2 := Lib.hid hO2
             have HB2 := Lib.hid (HB1.out.trans hb2)
             clear hO2 hb2))
        go_roundw
        case measure => simp [intOf]; omega
        case rel => exact ⟨i + 1, _, by omega, rfl, by go_num, by rw [HN.out, HE.out]; exact HO2.out, HB2.out⟩
      by_cases k5 : k = 5
      · subst k5
        have HE := Lib.hid (show encPart keyN (5, nn, ii, f, bs, q, ()) = encN (if q = true then 1 else 0) from rfl)
        go_wp2_with (first
          | (refine wpL_load rfl 39 (.tmp 10) rfl _ rfl _ _ HAt.out Try.underlying39 rfl rfl ?_)
          | (refine wpL_store rfl 39 (.tmp 5) (.tmp 11) rfl wr.heap.size rfl _ _ 39 rfl (heap_alloc_new wr _) rfl rfl (by intro v hv; simp at hv; rcases hv with rfl | rfl | rfl | rfl | rfl | rfl <;> rfl) ?_
             intro w1 hc1 hg1
             have hbw1 : Below wr.heap.size wr w1 := (below_alloc1 wr _).grown hg1 (by simp) (fun k e => by cases e; exact Nat.le_refl _)
             obtain ⟨c0, c1, c2, c3, c4, c5⟩ := blk6 hc1
             have HO1 := Lib.hid (show OB w1 w.heap.size v zs from own_below HO.out hbw1)
             have HB1 := Lib.hid (hbel.trans (hbw1.mono hwz))
             have HBs1 := Lib.hid ((HBs.out.below hbel).below hbw1)
             have hs1 := HB1.out.size
             clear hc1 hg1 hbw1)
          | (go_at_call 64
             refine (rwFlag_any w.heap.size w1 v zs q HO1.out hs1 (by have := HEL.out; omega)).mono ?_
             rintro e w2 ⟨v2, rfl, hO2, hb2⟩
             have HO2 := Lib.hid hO2
             have HB2 := Lib.hid (HB1.out.trans hb2)
             clear hO2 hb2))
        go_roundw
        case measure => simp [intOf]; omega
        case rel => exact ⟨i + 1, _, by omega, rfl, by go_num, by rw [HN.out, HE.out]; exact HO2.out, HB2.out⟩
      have HE := Lib.hid (show encPart keyN (k, nn, ii, f, bs, q, ()) = [] by unfold encPart; rw [if_neg k1, if_neg k2, if_neg k3, if_neg k4, if_neg k5])
      have b1 : (k == 1) = false := beq_eq_false_iff_ne.2 k1
      have b2 : (k == 2) = false := beq_eq_false_iff_ne.2 k2
      have b3 : (k == 3) = false := beq_eq_false_iff_ne.2 k3
      have b4 : (k == 4) = false := beq_eq_false_iff_ne.2 k4
      have b5 : (k == 5) = false := beq_eq_false_iff_ne.2 k5
      go_wp2_with (first
        | (refine wpL_load rfl 39 (.tmp 10) rfl _ rfl _ _ HAt.out Try.underlying39 rfl rfl ?_)
        | (refine wpL_store rfl 39 (.tmp 5) (.tmp 11) rfl wr.heap.size rfl _ _ 39 rfl (heap_alloc_new wr _) rfl rfl (by intro v hv; simp at hv; rcases hv with rfl | rfl | rfl | rfl | rfl | rfl <;> rfl) ?_
           intro w1 hc1 hg1
           have hbw1 : Below wr.heap.size wr w1 := (below_alloc1 wr _).grown hg1 (by simp) (fun k e => by cases e; exact Nat.le_refl _)
           obtain ⟨c0, c1, c2, c3, c4, c5⟩ := blk6 hc1
           have HO1 := Lib.hid (show OB w1 w.heap.size v zs from own_below HO.out hbw1)
           have HB1 := Lib.hid (hbel.trans (hbw1.mono hwz))
           clear hc1 hg1 hbw1))
      go_roundw
      case measure => simp [intOf]; omega
      case rel => exact ⟨i + 1, _, by omega, rfl, by go_num, by rw [HN.out, HE.out, List.append_nil]; exact HO1.out, HB1.out⟩
    · obtain rfl : i = n := by omega
      have HE := Lib.hid (show encParts keyN (l.take i) = encParts keyN l by rw [List.take_of_length_le (by omega)])
      have HO := Lib.hid hO
      clear hO hel
      go_wp2_with fail
      go_ret
      rw [← HE.out]
      exact ⟨_, rfl, HO.out, hbel⟩
end Go.Proofs.Ytnolhnlhohpkpaa
namespace Go.Proofs.Ytnolhnlhohpkpaa
open Go.RowKit Cdc
set_option linter.unusedVariables false
set_option linter.unusedSimpArgs false
/-- The reference's reader, in the block g; its bytes lie below M. -/
def RfAt (w : World) (M g : Nat) (s : St) : Prop :=
  ∃ A c, w.heap[g]? = some (.cells #[.slice A s.1.length c, .bool s.2] 47 (0, 0)) ∧ s.1.length ≤ c ∧ c ≤ 9223372036854775807 ∧ (A = none → c = 0) ∧ Bs w A s.1.length s.1 ∧ (s.1 ≠ [] → ∀ ad, A = some ad → ad.block < M) ∧ M ≤ g ∧ (s.2 = true → s.1 = [])
set_option maxRecDepth 20000 in
theorem RfAt.lt {w : World} {M g : Nat} {s : St} (h : RfAt w M g s) : g < w.heap.size := by
  obtain ⟨A, c, hg, _⟩ := h
  exact blk_lt hg
set_option maxRecDepth 20000 in
theorem RfAt.bad {w : World} {M g : Nat} {s : St} (h : RfAt w M g s) : w.cell? ⟨g, 1, none⟩ = some (.bool s.2) := by
  obtain ⟨A, c, hg, _⟩ := h
  exact blk_at hg 1 _ rfl
set_option maxRecDepth 20000 in
theorem bs_keep {w w' : World} {A : Option Addr} {n : Nat} {xs : List UInt8} (h : Bs w A n xs) (hk : xs ≠ [] → ∀ ad, A = some ad → w'.heap[ad.block]? = w.heap[ad.block]?) : Bs w' A n xs := by
  refine ⟨h.1, h.2.1, h.2.2.1, fun ad e j u hu => ?_⟩
  have hn : xs ≠ [] := by intro e; rw [e] at hu; simp at hu
  have hc := h.2.2.2 ad e j u hu
  have h3 : w'.heap[(ad.add j).block]? = w.heap[(ad.add j).block]? := by rw [add_block]; exact hk hn ad e
  simpa [World.cell?, h3] using hc
set_option maxRecDepth 20000 in
theorem RfAt.keep {w w' : World} {M g : Nat} {s : St} (h : RfAt w M g s) (hk : ∀ b, (b < M ∨ b = g) → b < w.heap.size → w'.heap[b]? = w.heap[b]?) : RfAt w' M g s := by
  obtain ⟨A, c, hg, h1, h2, h3, h4, h5, h6, h7⟩ := h
  exact ⟨A, c, (hk g (.inr rfl) (blk_lt hg)).trans hg, h1, h2, h3, bs_keep h4 (fun hn ad e => hk _ (.inl (h5 hn ad e)) (by have := h5 hn ad e; have := blk_lt hg; omega)), h5, h6, h7⟩
set_option maxRecDepth 20000 in
theorem RfAt.below {w w' : World} {M g : Nat} {s : St} (h : RfAt w M g s) (hb : Below w.heap.size w w') : RfAt w' M g s := h.keep fun b _ hlt => hb.block b hlt
set_option maxRecDepth 20000 in
theorem rf_failed {w : World} {M g : Nat} {A : Option Addr} {n c : Nat} {b : Bool} (hM : M ≤ g) (hg : w.heap[g]? = some (.cells #[.slice A n c, .bool b] 47 (0, 0))) :
    RfAt ((w.setCell ⟨g, 1, none⟩ (.bool true)).setCell ⟨g, 0, none⟩ (.slice none 0 0)) M g failed :=
  ⟨none, 0, blk_set (blk_set hg 1 (Value.bool true)) 0 (Value.slice none 0 0), Nat.le_refl _, by omega, fun _ => rfl, ⟨by simp, rfl, fun _ => rfl, fun ad e => by cases e⟩, by simp, hM, fun _ => rfl⟩
set_option maxRecDepth 20000 in
theorem rfail_any (w : World) (M g : Nat) (s : St) (h : RfAt w M g s) :
    Calls Try.prog 73 #[.pointer (some ⟨g, 0, none⟩)] w fun e w' => e = .returned noResult ∧ RfAt w' M g failed ∧ w.grownBy w' (some g) := by
  obtain ⟨A, c, hg, _, _, _, _, _, h6, _⟩ := h
  have c0 := blk_at hg 0 _ rfl
  have c1 := blk_at hg 1 _ rfl
  have f0 := blk_free hg 0
  have f1 := blk_free hg 1
  have HG := Lib.hid hg
  clear hg
  go_enter Try.func73, Try.ntmps73
  go_wp2_with fail
  refine bodyPost_end (results_none rfl _ _ _) rfl ?_
  exact ⟨rfl, rf_failed h6 HG.out, grown_set (grown_set (grown_refl _ _))⟩
/-- How a number of so many bytes is read. -/
def RxPost (w : World) (M g k : Nat) (s : St) (e : Ending) (w' : World) : Prop :=
  e = .returned (.int .u64 (fx k s).1) ∧ RfAt w' M g (fx k s).2 ∧ w.grownBy w' (some g)
set_option maxRecDepth 20000 in
theorem rf_from {w : World} {M g n c : Nat} {A A2 : Option Addr} {s : St} (hlen : n ≤ s.1.length) (hs : s.2 = false) (hg : w.heap[g]? = some (.cells #[.slice A s.1.length c, .bool s.2] 47 (0, 0)))
    (h1 : s.1.length ≤ c) (h2 : c ≤ 9223372036854775807) (h3 : A = none → c = 0) (h4 : Bs w A s.1.length s.1) (h5 : s.1 ≠ [] → ∀ ad, A = some ad → ad.block < M) (hM : M ≤ g) (h6 : A2 = if c = n then A else A.map (fun x : Addr => x.add n)) {m d : Nat} (hm : m = s.1.length - n) (hd : d = c - n) :
    RfAt (w.setCell ⟨g, 0, none⟩ (.slice A2 m d)) M g (s.1.drop n, false) := by
  obtain ⟨f1, f2⟩ := Bs.from_ h4 h1 n hlen
  rw [← h6] at f1 f2
  subst hm hd
  have q := blk_set hg 0 (Value.slice A2 (s.1.length - n) (c - n))
  rw [hs] at q
  have hblk : s.1.drop n ≠ [] → ∀ ad, A2 = some ad → ad.block < M := by
    intro hn ad e
    have f3 : A.map (·.block) = some ad.block := by rw [← f2, e]; rfl
    rw [Option.map_eq_some_iff] at f3
    obtain ⟨ad', e', f4⟩ := f3
    rw [← f4]
    exact h5 (by intro e; apply hn; rw [e]; simp) ad' e'
  refine ⟨A2, c - n, ?_, ?_, by omega, ?_, ?_, hblk, hM, fun e => by cases e⟩
  · show _ = some (Obj.cells #[.slice A2 (s.1.drop n).length (c - n), .bool false] _ _)
    rw [List.length_drop]; exact q
  · show (s.1.drop n).length ≤ c - n
    rw [List.length_drop]; omega
  · intro e
    rw [h6] at e
    by_cases hc : c = n
    · rw [if_pos hc] at e; have := h3 e; omega
    · rw [if_neg hc] at e
      cases A with
      | none => have := h3 rfl; omega
      | some ad => cases e
  · show Bs _ A2 (s.1.drop n).length (s.1.drop n)
    rw [List.length_drop]
    exact bs_keep f1 (fun hn ad e => by have := hblk hn ad e; exact Below.heap_setCell _ _ _ _ (show ad.block ≠ g by omega))
set_option maxHeartbeats 4000000 in
set_option maxRecDepth 20000 in
theorem rnum_any (w : World) (M g k : Nat) (s : St) (h : RfAt w M g s) (hk : 1 ≤ k ∧ k ≤ 8) :
    Calls Try.prog 72 #[.pointer (some ⟨g, 0, none⟩), .int .i64 k] w (RxPost w M g k s) := by
  obtain ⟨A, c, hg, h1, h2, h3, h4, h5, h6, h7⟩ := id h
  have c0 := blk_at hg 0 _ rfl
  have f0 := blk_free hg 0
  have HG := Lib.hid hg
  have H := Lib.hid h
  by_cases hlt : s.1.length < k
  · have hlt' : (s.1.length : Int) < (k : Int) := by omega
    have HD := Lib.hid (show fx k s = (0, failed) from fx_bad (.inr hlt))
    clear hg h h4 h7 hlt
    go_enter Try.func72, Try.ntmps72
    go_wp2_with (go_at_call 73; refine (rfail_any w M g s H.out).mono ?_; rintro e w2 ⟨rfl, hr, hgr⟩)
    go_ret
    unfold RxPost
    rw [HD.out]
    exact ⟨rfl, hr, hgr⟩
  · have hle : (k : Int) ≤ (s.1.length : Int) := by omega
    have hle2 : (k : Int) ≤ (c : Int) := by omega
    have k0 : (0 : Int) ≤ (k : Int) := by omega
    have hs2 : s.2 = false := by
      cases hs : s.2 with
      | false => rfl
      | true => have := h7 hs; rw [this] at hlt; simp at hlt; omega
    have HD := Lib.hid (show fx k s = (val (s.1.take k), s.1.drop k, false) by unfold fx; rw [if_neg (by rw [hs2]; simp; omega)])
    have HS2 := Lib.hid hs2
    have hkl : k ≤ s.1.length := by omega
    have HKL := Lib.hid hkl
    obtain ⟨ys, hys⟩ : ∃ ys, s.1.take k = ys := ⟨_, rfl⟩
    have hyl : ys.length = k := by rw [← hys, List.length_take]; omega
    have hbs : Bs w A k ys := ⟨by omega, by simp [hyl], fun e => by have := h3 e; omega, fun ad e j u hu => h4.2.2.2 ad e j u (by
      rw [← hys, List.getElem?_map, List.getElem?_take] at hu
      rw [List.getElem?_map]
      by_cases hj : j < k
      · rwa [if_pos hj] at hu
      · rw [if_neg hj] at hu; cases hu)⟩
    have H4 := Lib.hid h4
    rw [hys] at HD
    clear hg h h4 h7 hlt hs2 hkl hys
    go_enter Try.func72, Try.ntmps72
    go_wp2_with fail
    go_loop [5, 24] (fun s5 s24 => ∃ i : Nat, i ≤ k ∧ s24 = .int .i64 i ∧ s5 = .int .u64 (val (ys.take i))) (fun _ s24 => k - (intOf s24).toNat)
    case atStart => exact ⟨0, by omega, rfl, rfl⟩
    case round =>
      obtain ⟨i, hi, rfl, rfl⟩ := hrel
      by_cases hlti : i < k
      · obtain ⟨ad, x, rfl, hx, cx⟩ := hbs.at_ i hlti
        have i0 : (0 : Int) ≤ (i : Int) := by omega
        have i1 : (i : Int) < (k : Int) := by omega
        have hvl := val_lt (ys.take i)
        rw [List.length_take, Nat.min_eq_left (by omega)] at hvl
        have hv7 : val (ys.take i) < 72057594037927936 := Nat.lt_of_lt_of_le hvl (show 256 ^ i ≤ 256 ^ 7 from Nat.pow_le_pow_right (by omega) (by omega))
        have HN := Lib.hid (show val (ys.take (i + 1)) = val (ys.take i) * 256 + x.toNat by rw [take_at hx, val_snoc])
        have hxl := x.toNat_lt
        clear hx hvl
        obtain ⟨V, hV⟩ : ∃ V, val (ys.take i) = V := ⟨_, rfl⟩
        rw [hV] at HN hv7 ⊢
        clear hV
        go_wp2_with fail
        go_round
        case rel => exact ⟨i + 1, by omega, by go_num, by rw [HN.out]; go_num⟩
        case measure => simp [intOf]; omega
      · obtain rfl : i = k := by omega
        have HE := Lib.hid (show val (ys.take i) = val ys by rw [List.take_of_length_le (by omega)])
        clear hbs
        go_wp2_with fail
        · go_ret
          have hcn : c = i := by assumption
          unfold RxPost
          rw [HD.out]
          refine ⟨congrArg (fun n : Nat => Ending.returned (Value.int .u64 n)) HE.out, rf_from (A2 := A) HKL.out HS2.out HG.out h1 h2 h3 H4.out h5 h6 (if_pos hcn).symm rfl (by omega), grown_set (grown_refl _ _)⟩
        · go_ret
          have hcn : ¬ c = i := by assumption
          unfold RxPost
          rw [HD.out]
          refine ⟨congrArg (fun n : Nat => Ending.returned (Value.int .u64 n)) HE.out, rf_from (A2 := A.map (fun x : Addr => x.add i)) HKL.out HS2.out HG.out h1 h2 h3 H4.out h5 h6 (if_neg hcn).symm rfl rfl, grown_set (grown_refl _ _)⟩
end Go.Proofs.Ytnolhnlhohpkpaa
namespace Go.Proofs.Ytnolhnlhohpkpaa
open Go.RowKit Cdc
set_option linter.unusedVariables false
set_option linter.unusedSimpArgs false
def RNPost (w : World) (M g most : Nat) (s : St) (e : Ending) (w' : World) : Prop :=
  e = .returned (.int .u64 (rdN most s).1) ∧ RfAt w' M g (rdN most s).2 ∧ w.grownBy w' (some g)
set_option maxRecDepth 20000 in
theorem rnpost_fail {w w' : World} {M g most : Nat} {s : St} (h : rdN most s = (0, failed)) (hr : RfAt w' M g failed) (hg : w.grownBy w' (some g)) : RNPost w M g most s (.returned (.int .u64 0)) w' := by
  unfold RNPost
  rw [h]
  exact ⟨rfl, hr, hg⟩
set_option maxHeartbeats 4000000 in
set_option maxRecDepth 20000 in
theorem rrN_any (w : World) (M g most : Nat) (s : St) (h : RfAt w M g s) :
    Calls Try.prog 22 #[.pointer (some ⟨g, 0, none⟩), .int .u64 most] w (RNPost w M g most s) := by
  have HX := Lib.hid (rnum_any w M g 1 s h (by omega))
  obtain ⟨a, s1, hp⟩ : ∃ a s1, fx 1 s = (a, s1) := ⟨_, _, rfl⟩
  have ha : a < 256 := by have := fx_lt 1 s; rw [hp] at this; simpa using this
  have HP := Lib.hid hp
  clear h hp
  by_cases h128 : 128 ≤ a
  · have c128 : (128 : Int) ≤ (a : Int) := by omega
    have hwr : IntKind.i64.wrap (a : Int) = (a : Int) := IntWalk.i64_in _ (by omega)
    by_cases hk : a - 128 < 1 ∨ 8 < a - 128
    · have HD := Lib.hid (show rdN most s = (0, failed) by unfold rdN; rw [HP.out]; rw [if_pos h128, if_pos hk])
      have hk2 : (a : Int) - 128 < 1 ∨ (8 : Int) < (a : Int) - 128 := by omega
      rcases hk2 with hk2 | hk2
      · clear hk
        go_enter Try.func22, Try.ntmps22
        go_wp2_with fail
        refine HX.out.mono ?_
        rintro e w2 ⟨rfl, hr, hgr⟩
        rw [HP.out] at hr ⊢
        have HR := Lib.hid hr
        have bR := hr.bad
        clear hr
        go_wp2_with (go_at_call 73; refine (rfail_any _ M g s1 HR.out).mono ?_; rintro e w9 ⟨rfl, hr9, hg9⟩)
        go_ret
        exact rnpost_fail HD.out hr9 (hgr.trans hg9)
      · have hk3 : ¬ (a : Int) - 128 < 1 := by omega
        clear hk
        go_enter Try.func22, Try.ntmps22
        go_wp2_with fail
        refine HX.out.mono ?_
        rintro e w2 ⟨rfl, hr, hgr⟩
        rw [HP.out] at hr ⊢
        have HR := Lib.hid hr
        have bR := hr.bad
        clear hr
        go_wp2_with (go_at_call 73; refine (rfail_any _ M g s1 HR.out).mono ?_; rintro e w9 ⟨rfl, hr9, hg9⟩)
        go_ret
        exact rnpost_fail HD.out hr9 (hgr.trans hg9)
    · obtain ⟨k, hka⟩ : ∃ k, a = 128 + k := ⟨a - 128, by omega⟩
      subst hka
      have hk8 : 1 ≤ k ∧ k ≤ 8 := by omega
      obtain ⟨b, s2, hq⟩ : ∃ b s2, fx k s1 = (b, s2) := ⟨_, _, rfl⟩
      have hb : b < 18446744073709551616 := by
        have := fx_lt k s1
        rw [hq] at this
        exact Nat.lt_of_lt_of_le this (show 256 ^ k ≤ 256 ^ 8 from Nat.pow_le_pow_right (by omega) hk8.2)
      have HQ := Lib.hid hq
      have hkk : 128 + k - 128 = k := by omega
      have HE := Lib.hid (show rdN most s = if b < 128 ∨ wide b ≠ k ∨ most < b ∨ s2.2 = true then (0, failed) else (b, s2) by
        unfold rdN
        rw [HP.out]
        simp only
        rw [if_pos h128, if_neg (by omega), hkk, HQ.out])
      clear hq
      have e1 : IntKind.i64.wrap (((128 + k : Nat) : Int)) = 128 + (k : Int) := by rw [IntWalk.i64_in _ (by omega)]; omega
      have E1 := Lib.hid e1
      have k1 : ¬ (k : Int) < 1 := by omega
      have k2 : ¬ (8 : Int) < (k : Int) := by omega
      clear hk hwr e1 hkk
      by_cases hd1 : b < 128
      · have HD := Lib.hid (show rdN most s = (0, failed) by rw [HE.out, if_pos (.inl hd1)])
        have hd2 : (b : Int) < 128 := by omega
        clear hd1
        by_cases hm : most < b
        · have hm2 : (most : Int) < (b : Int) := by omega
          clear hm
          go_enter Try.func22, Try.ntmps22
          go_wp2_with fail
          refine HX.out.mono ?_
          rintro e w2 ⟨rfl, hr, hgr⟩
          rw [HP.out] at hr ⊢
          have HX2 := Lib.hid (rnum_any w2 M g k s1 hr hk8)
          clear hr
          go_wp2_with fail
          rw [show (128 + (k : Int) - 128) = (k : Int) by omega]
          refine HX2.out.mono ?_
          rintro e w3 ⟨rfl, hr3, hgr3⟩
          rw [HQ.out] at hr3 ⊢
          have HR := Lib.hid hr3
          have bR := hr3.bad
          have hg3 := hgr.trans hgr3
          clear hr3
          go_wp2_with (first
            | (go_at_call 73; refine (rfail_any _ M g failed HR9.out).mono ?_; rintro e w8 ⟨rfl, hr8, hg8⟩; have HR8 := Lib.hid hr8; have b8 : _ = some (Value.bool true) := hr8.bad; clear hr8)
            | (go_at_call 73; refine (rfail_any _ M g s2 HR.out).mono ?_; rintro e w9 ⟨rfl, hr9, hg9⟩; have HR9 := Lib.hid hr9; have b9 : _ = some (Value.bool true) := hr9.bad; clear hr9)
            | (go_at_call 74; refine (rwide_any b _ hb).mono ?_; rintro e w7 ⟨rfl, rfl⟩))
          go_ret
          exact rnpost_fail HD.out HR8.out ((hg3.trans hg9).trans hg8)
        · have hm2 : ¬ (most : Int) < (b : Int) := by omega
          clear hm
          go_enter Try.func22, Try.ntmps22
          go_wp2_with fail
          refine HX.out.mono ?_
          rintro e w2 ⟨rfl, hr, hgr⟩
          rw [HP.out] at hr ⊢
          have HX2 := Lib.hid (rnum_any w2 M g k s1 hr hk8)
          clear hr
          go_wp2_with fail
          rw [show (128 + (k : Int) - 128) = (k : Int) by omega]
          refine HX2.out.mono ?_
          rintro e w3 ⟨rfl, hr3, hgr3⟩
          rw [HQ.out] at hr3 ⊢
          have HR := Lib.hid hr3
          have bR := hr3.bad
          have hg3 := hgr.trans hgr3
          clear hr3
          go_wp2_with (first
            | (go_at_call 73; refine (rfail_any _ M g s2 HR.out).mono ?_; rintro e w9 ⟨rfl, hr9, hg9⟩; have HR9 := Lib.hid hr9; have b9 : _ = some (Value.bool true) := hr9.bad; clear hr9)
            | (go_at_call 74; refine (rwide_any b _ hb).mono ?_; rintro e w7 ⟨rfl, rfl⟩))
          go_ret
          exact rnpost_fail HD.out HR9.out (hg3.trans hg9)
      · have hd2 : ¬ (b : Int) < 128 := by omega
        by_cases hwd : wide b = k
        · have HWD := Lib.hid hwd
          have hwb : ((wide b : Int) == (k : Int)) = true := by rw [hwd]; simp
          by_cases hm : most < b
          · have HD := Lib.hid (show rdN most s = (0, failed) by rw [HE.out, if_pos (.inr (.inr (.inl hm)))])
            have hm2 : (most : Int) < (b : Int) := by omega
            clear hm hd1 hwd
            go_enter Try.func22, Try.ntmps22
            go_wp2_with fail
            refine HX.out.mono ?_
            rintro e w2 ⟨rfl, hr, hgr⟩
            rw [HP.out] at hr ⊢
            have HX2 := Lib.hid (rnum_any w2 M g k s1 hr hk8)
            clear hr
            go_wp2_with fail
            rw [show (128 + (k : Int) - 128) = (k : Int) by omega]
            refine HX2.out.mono ?_
            rintro e w3 ⟨rfl, hr3, hgr3⟩
            rw [HQ.out] at hr3 ⊢
            have HR := Lib.hid hr3
            have bR := hr3.bad
            have hg3 := hgr.trans hgr3
            clear hr3
            go_wp2_with (first
              | (go_at_call 73; refine (rfail_any _ M g s2 HR.out).mono ?_; rintro e w9 ⟨rfl, hr9, hg9⟩; have HR9 := Lib.hid hr9; have b9 : _ = some (Value.bool true) := hr9.bad; clear hr9)
              | (go_at_call 74; refine (rwide_any b _ hb).mono ?_; rintro e w7 ⟨rfl, rfl⟩; rw [HWD.out]))
            go_ret
            exact rnpost_fail HD.out HR9.out (hg3.trans hg9)
          · have hm2 : ¬ (most : Int) < (b : Int) := by omega
            cases hb2 : s2.2 with
            | true =>
              exfalso
              have := fx_bad_eq (k := k) (s := s1) (by rw [HQ.out]; exact hb2)
              rw [HQ.out] at this
              injection this with e1 _
              omega
            | false =>
              have HD := Lib.hid (show rdN most s = (b, s2) by rw [HE.out, if_neg (by rw [hb2]; simp only [not_or]; exact ⟨hd1, fun e => e hwd, hm, by simp⟩)])
              clear hm hd1 hwd
              go_enter Try.func22, Try.ntmps22
              go_wp2_with fail
              refine HX.out.mono ?_
              rintro e w2 ⟨rfl, hr, hgr⟩
              rw [HP.out] at hr ⊢
              have HX2 := Lib.hid (rnum_any w2 M g k s1 hr hk8)
              clear hr
              go_wp2_with fail
              rw [show (128 + (k : Int) - 128) = (k : Int) by omega]
              refine HX2.out.mono ?_
              rintro e w3 ⟨rfl, hr3, hgr3⟩
              rw [HQ.out] at hr3 ⊢
              have HR := Lib.hid hr3
              have bR := hr3.bad
              have hg3 := hgr.trans hgr3
              clear hr3
              go_wp2_with (first
                | (go_at_call 74; refine (rwide_any b _ hb).mono ?_; rintro e w7 ⟨rfl, rfl⟩; rw [HWD.out]))
              go_ret
              unfold RNPost
              rw [HD.out]
              exact ⟨rfl, HR.out, hg3⟩
        · have HD := Lib.hid (show rdN most s = (0, failed) by rw [HE.out, if_pos (.inr (.inl hwd))])
          obtain ⟨wb, hwbd⟩ : ∃ wb, wide b = wb := ⟨_, rfl⟩
          have HWD := Lib.hid hwbd
          have hwn : ¬ (wb : Int) = (k : Int) := by omega
          have hwb : ((wb : Int) == (k : Int)) = false := beq_eq_false_iff_ne.2 hwn
          have hbn : ((wb : Int) != (k : Int)) = true := by unfold bne; rw [hwb]; rfl
          clear hwbd
          clear hwd hd1
          by_cases hm : most < b
          · have hm2 : (most : Int) < (b : Int) := by omega
            clear hm
            go_enter Try.func22, Try.ntmps22
            go_wp2_with fail
            refine HX.out.mono ?_
            rintro e w2 ⟨rfl, hr, hgr⟩
            rw [HP.out] at hr ⊢
            have HX2 := Lib.hid (rnum_any w2 M g k s1 hr hk8)
            clear hr
            go_wp2_with fail
            rw [show (128 + (k : Int) - 128) = (k : Int) by omega]
            refine HX2.out.mono ?_
            rintro e w3 ⟨rfl, hr3, hgr3⟩
            rw [HQ.out] at hr3 ⊢
            have HR := Lib.hid hr3
            have bR := hr3.bad
            have hg3 := hgr.trans hgr3
            clear hr3
            go_wp2_with (first
              | (go_at_call 73; refine (rfail_any _ M g failed HR9.out).mono ?_; rintro e w8 ⟨rfl, hr8, hg8⟩; have HR8 := Lib.hid hr8; have b8 : _ = some (Value.bool true) := hr8.bad; clear hr8)
              | (go_at_call 73; refine (rfail_any _ M g s2 HR.out).mono ?_; rintro e w9 ⟨rfl, hr9, hg9⟩; have HR9 := Lib.hid hr9; have b9 : _ = some (Value.bool true) := hr9.bad; clear hr9)
              | (go_at_call 74; refine (rwide_any b _ hb).mono ?_; rintro e w7 ⟨rfl, rfl⟩; rw [HWD.out]))
            go_ret
            exact rnpost_fail HD.out HR8.out ((hg3.trans hg9).trans hg8)
          · have hm2 : ¬ (most : Int) < (b : Int) := by omega
            clear hm
            go_enter Try.func22, Try.ntmps22
            go_wp2_with fail
            refine HX.out.mono ?_
            rintro e w2 ⟨rfl, hr, hgr⟩
            rw [HP.out] at hr ⊢
            have HX2 := Lib.hid (rnum_any w2 M g k s1 hr hk8)
            clear hr
            go_wp2_with fail
            rw [show (128 + (k : Int) - 128) = (k : Int) by omega]
            refine HX2.out.mono ?_
            rintro e w3 ⟨rfl, hr3, hgr3⟩
            rw [HQ.out] at hr3 ⊢
            have HR := Lib.hid hr3
            have bR := hr3.bad
            have hg3 := hgr.trans hgr3
            clear hr3
            go_wp2_with (first
              | (go_at_call 73; refine (rfail_any _ M g s2 HR.out).mono ?_; rintro e w9 ⟨rfl, hr9, hg9⟩; have HR9 := Lib.hid hr9; have b9 : _ = some (Value.bool true) := hr9.bad; clear hr9)
              | (go_at_call 74; refine (rwide_any b _ hb).mono ?_; rintro e w7 ⟨rfl, rfl⟩; rw [HWD.out]))
            go_ret
            exact rnpost_fail HD.out HR9.out (hg3.trans hg9)
  · have HE := Lib.hid (show rdN most s = if most < a ∨ s1.2 = true then (0, failed) else (a, s1) by
      unfold rdN
      rw [HP.out]
      simp only
      rw [if_neg h128])
    have c128 : ¬ (128 : Int) ≤ (a : Int) := by omega
    by_cases hm : most < a
    · have HD := Lib.hid (show rdN most s = (0, failed) by rw [HE.out, if_pos (.inl hm)])
      have hm2 : (most : Int) < (a : Int) := by omega
      clear hm h128
      go_enter Try.func22, Try.ntmps22
      go_wp2_with fail
      refine HX.out.mono ?_
      rintro e w2 ⟨rfl, hr, hgr⟩
      rw [HP.out] at hr ⊢
      have HR := Lib.hid hr
      have bR := hr.bad
      clear hr
      go_wp2_with (first
        | (go_at_call 73; refine (rfail_any _ M g s1 HR.out).mono ?_; rintro e w9 ⟨rfl, hr9, hg9⟩; have HR9 := Lib.hid hr9; have b9 : _ = some (Value.bool true) := hr9.bad; clear hr9))
      go_ret
      exact rnpost_fail HD.out HR9.out (hgr.trans hg9)
    · have hm2 : ¬ (most : Int) < (a : Int) := by omega
      cases hb : s1.2 with
      | true =>
        have HD := Lib.hid (show rdN most s = (0, failed) by rw [HE.out, if_pos (.inr hb)])
        have HS := Lib.hid (show s1 = failed by have := fx_bad_eq (k := 1) (s := s) (by rw [HP.out]; exact hb); rw [HP.out] at this; injection this)
        clear hm h128
        go_enter Try.func22, Try.ntmps22
        go_wp2_with fail
        refine HX.out.mono ?_
        rintro e w2 ⟨rfl, hr, hgr⟩
        rw [HP.out] at hr ⊢
        have HR := Lib.hid hr
        have bR := hr.bad
        clear hr
        go_wp2_with fail
        go_ret
        exact rnpost_fail HD.out (HS.out ▸ HR.out) hgr
      | false =>
        have HD := Lib.hid (show rdN most s = (a, s1) by rw [HE.out, if_neg (by rw [hb]; simp; omega)])
        clear hm h128
        go_enter Try.func22, Try.ntmps22
        go_wp2_with fail
        refine HX.out.mono ?_
        rintro e w2 ⟨rfl, hr, hgr⟩
        rw [HP.out] at hr ⊢
        have HR := Lib.hid hr
        have bR := hr.bad
        clear hr
        go_wp2_with fail
        go_ret
        unfold RNPost
        rw [HD.out]
        exact ⟨rfl, HR.out, hgr⟩
end Go.Proofs.Ytnolhnlhohpkpaa
namespace Go.Proofs.Ytnolhnlhohpkpaa
open Go.RowKit Cdc
set_option linter.unusedVariables false
set_option linter.unusedSimpArgs false
attribute [local go_sem] run_store_float
set_option maxRecDepth 20000 in
theorem rrFlag_any (w : World) (M g : Nat) (s : St) (h : RfAt w M g s) :
    Calls Try.prog 31 #[.pointer (some ⟨g, 0, none⟩)] w fun e w' => e = .returned (.bool (rdFlag s).1) ∧ RfAt w' M g (rdFlag s).2 ∧ w.grownBy w' (some g) := by
  have HN := Lib.hid (rrN_any w M g 1 s h)
  obtain ⟨n, s1, hn⟩ : ∃ n s1, rdN 1 s = (n, s1) := ⟨_, _, rfl⟩
  have HQ := Lib.hid hn
  clear hn h
  go_enter Try.func31, Try.ntmps31
  go_wp2_with fail
  refine HN.out.mono ?_
  rintro e w2 ⟨rfl, hr, hg⟩
  rw [HQ.out] at hr ⊢
  go_wp2_with fail
  go_ret
  refine ⟨?_, ?_, hg⟩
  · unfold rdFlag
    rw [HQ.out]
    refine ret_bool ?_
    by_cases h1 : n = 1
    · subst h1; rfl
    · rw [show (n == 1) = false from beq_eq_false_iff_ne.2 h1]
      show ((n : Int) == 1) = false
      rw [beq_eq_false_iff_ne]; omega
  · unfold rdFlag; rw [HQ.out]; exact hr
set_option maxRecDepth 20000 in
theorem rrEnd_any (w : World) (M g : Nat) (s : St) (h : RfAt w M g s) :
    Calls Try.prog 34 #[.pointer (some ⟨g, 0, none⟩)] w fun e w' => e = .returned (.int .i64 (if s.2 = true ∨ s.1 ≠ [] then 20 else 0)) ∧ w = w' := by
  obtain ⟨A, c, hg, _⟩ := h
  have c0 := blk_at hg 0 _ rfl
  have c1 := blk_at hg 1 _ rfl
  clear hg
  cases hb : s.2 with
  | true =>
    have hv : (if true = true ∨ s.1 ≠ [] then 20 else 0 : Int) = 20 := if_pos (.inl rfl)
    rw [hb] at c1
    rw [hv]
    clear hb hv
    go_enter Try.func34, Try.ntmps34
    go_wp2_with fail
    go_ret
    exact ⟨rfl, rfl⟩
  | false =>
    rw [hb] at c1
    by_cases hl : s.1 = []
    · have hv : (if false = true ∨ s.1 ≠ [] then 20 else 0 : Int) = 0 := if_neg (by rw [hl]; simp)
      have hl0 : s.1.length = 0 := by rw [hl]; rfl
      rw [hv]
      clear hb hv hl
      go_enter Try.func34, Try.ntmps34
      go_wp2_with fail
      go_ret
      exact ⟨rfl, rfl⟩
    · have hv : (if false = true ∨ s.1 ≠ [] then 20 else 0 : Int) = 20 := if_pos (.inr hl)
      have hl0 : (0 : Int) < (s.1.length : Int) := by have := List.length_pos_iff.2 hl; omega
      rw [hv]
      clear hb hv hl
      go_enter Try.func34, Try.ntmps34
      go_wp2_with fail
      go_ret
      exact ⟨rfl, rfl⟩
set_option maxRecDepth 20000 in
theorem rrI_any (w : World) (M g : Nat) (s : St) (h : RfAt w M g s) :
    Calls Try.prog 24 #[.pointer (some ⟨g, 0, none⟩)] w fun e w' => e = .returned (.int .i64 (rdI s).1) ∧ RfAt w' M g (rdI s).2 ∧ w.grownBy w' (some g) := by
  have HN := Lib.hid (rrN_any w M g 18446744073709551615 s h)
  obtain ⟨n, s1, hn⟩ : ∃ n s1, rdN 18446744073709551615 s = (n, s1) := ⟨_, _, rfl⟩
  have HQ := Lib.hid hn
  have hlt : n < 18446744073709551616 := by have := rdN_lt (most := 18446744073709551615) (s := s) (by omega); rw [hn] at this; exact this
  clear hn h
  have hw : IntKind.i64.wrap ((n : Int) / 2) = (n : Int) / 2 := IntWalk.i64_in _ (by omega)
  have hw2 : IntKind.i64.wrap (-((n : Int) / 2)) = -((n : Int) / 2) := IntWalk.i64_in _ (by omega)
  have hw3 : IntKind.i64.wrap (-((n : Int) / 2) - 1) = -((n : Int) / 2) - 1 := IntWalk.i64_in _ (by omega)
  by_cases h2 : n % 2 = 0
  · have hb : ((n : Int) % 2 == 0) = true := beq_iff_eq.2 (by omega)
    have HU := Lib.hid (show (n : Int) / 2 = unzig n by unfold unzig; rw [if_pos h2]; omega)
    clear h2
    go_enter Try.func24, Try.ntmps24
    go_wp2_with fail
    refine HN.out.mono ?_
    rintro e w2 ⟨rfl, hr, hg⟩
    rw [HQ.out] at hr ⊢
    go_wp2_with fail
    go_ret
    refine ⟨?_, ?_, hg⟩
    · unfold rdI FULL
      rw [HQ.out]
      exact ret_int HU.out
    · unfold rdI FULL; rw [HQ.out]; exact hr
  · have hb : ((n : Int) % 2 == 0) = false := beq_eq_false_iff_ne.2 (by omega)
    have HU := Lib.hid (show -((n : Int) / 2) - 1 = unzig n by unfold unzig; rw [if_neg h2]; omega)
    clear h2
    go_enter Try.func24, Try.ntmps24
    go_wp2_with fail
    refine HN.out.mono ?_
    rintro e w2 ⟨rfl, hr, hg⟩
    rw [HQ.out] at hr ⊢
    go_wp2_with fail
    go_ret
    refine ⟨?_, ?_, hg⟩
    · unfold rdI FULL
      rw [HQ.out]
      exact ret_int HU.out
    · unfold rdI FULL; rw [HQ.out]; exact hr
def RFPost (w : World) (M g : Nat) (p : Nat × St) (e : Ending) (w' : World) : Prop :=
  e = .returned (.float .f64 p.1) ∧ RfAt w' M g p.2 ∧ w.grownBy w' (some g)
set_option maxHeartbeats 4000000 in
set_option maxRecDepth 20000 in
theorem rrF_any (w : World) (M g : Nat) (s : St) (h : RfAt w M g s) :
    Calls Try.prog 27 #[.pointer (some ⟨g, 0, none⟩)] w (RFPost w M g (rdF ofN s)) := by
  have HX := Lib.hid (rnum_any w M g 8 s h (by omega))
  obtain ⟨K, s1, hp⟩ : ∃ K s1, fx 8 s = (K, s1) := ⟨_, _, rfl⟩
  have hK : K < 18446744073709551616 := by have := fx_lt 8 s; rw [hp] at this; exact this
  have HP := Lib.hid hp
  clear h
  have HU := Lib.hid (show rdF ofN s = if s1.2 = true then (0, failed) else if (ofF (K : Int)).2 = true then ((ofF (K : Int)).1, s1) else (0, failed) by unfold rdF; rw [hp])
  cases hb : s1.2 with
  | true =>
    have HS := Lib.hid (show s1 = failed by have := fx_bad_eq (k := 8) (s := s) (by rw [hp]; exact hb); rw [hp] at this; injection this)
    have HD := Lib.hid (show rdF ofN s = (0, failed) by rw [HU.out, if_pos hb])
    have HB := Lib.hid hb
    clear hp hb
    go_enter Try.func27, Try.ntmps27
    go_wp2_with fail
    refine HX.out.mono ?_
    rintro e w2 ⟨rfl, hr, hgr⟩
    rw [HP.out] at hr ⊢
    have HR := Lib.hid hr
    have bR := hr.bad
    rw [show (K, s1).2.2 = true from HB.out] at bR
    clear hr
    go_wp2_with fail
    go_ret
    refine ⟨?_, ?_, hgr⟩
    · rw [HD.out]; rfl
    · rw [HD.out, ← HS.out]; exact HR.out
  | false =>
    have hof : ofF (K : Int) = rofF (K : Int) := by rw [ofF_eq (by omega) (by omega), rofF_eq (by omega) (by omega)]
    obtain ⟨f, b, hf⟩ : ∃ f b, ofF (K : Int) = (f, b) := ⟨_, _, rfl⟩
    have HOF := Lib.hid (hof ▸ hf)
    have HB := Lib.hid hb
    cases b with
    | true =>
      have HD := Lib.hid (show rdF ofN s = (f, s1) by rw [HU.out, if_neg (by rw [hb]; exact Bool.false_ne_true), hf, if_pos rfl])
      clear hp hb hof hf
      go_enter Try.func27, Try.ntmps27
      go_wp2_with fail
      refine HX.out.mono ?_
      rintro e w2 ⟨rfl, hr, hgr⟩
      rw [HP.out] at hr ⊢
      have HR := Lib.hid hr
      have bR := hr.bad
      rw [show (K, s1).2.2 = false from HB.out] at bR
      clear hr
      go_wp2_with (go_at_call 78; refine (rof_any _ _).mono ?_; rintro e w3 ⟨rfl, hb3⟩; rw [HOF.out]; have HB3 := Lib.hid hb3; clear hb3)
      go_ret
      refine ⟨?_, ?_, hgr.trans (grown_below HB3.out)⟩
      · rw [HD.out]; rfl
      · rw [HD.out]; exact HR.out.below HB3.out
    | false =>
      have HD := Lib.hid (show rdF ofN s = (0, failed) by rw [HU.out, if_neg (by rw [hb]; exact Bool.false_ne_true), hf, if_neg Bool.false_ne_true])
      clear hp hb hof hf
      go_enter Try.func27, Try.ntmps27
      go_wp2_with fail
      refine HX.out.mono ?_
      rintro e w2 ⟨rfl, hr, hgr⟩
      rw [HP.out] at hr ⊢
      have HR := Lib.hid hr
      have bR := hr.bad
      rw [show (K, s1).2.2 = false from HB.out] at bR
      clear hr
      go_wp2_with (first
        | (go_at_call 78; refine (rof_any _ _).mono ?_; rintro e w3 ⟨rfl, hb3⟩; rw [HOF.out]; have HR3 := Lib.hid (HR.out.below hb3); have HB3 := Lib.hid hb3; clear hb3)
        | (go_at_call 73; refine (rfail_any _ M g _ HR3.out).mono ?_; rintro e w4 ⟨rfl, hr4, hg4⟩; have HR4 := Lib.hid hr4; clear hr4))
      go_ret
      refine ⟨?_, ?_, hgr.trans ((grown_below HB3.out).trans hg4)⟩
      · rw [HD.out]; rfl
      · rw [HD.out]; exact HR4.out
end Go.Proofs.Ytnolhnlhohpkpaa
namespace Go.Proofs.Ytnolhnlhohpkpaa
open Go.RowKit Cdc
set_option linter.unusedVariables false
set_option linter.unusedSimpArgs false
def RBPost (w : World) (M g : Nat) (p : List UInt8 × St) (e : Ending) (w' : World) : Prop :=
  ∃ v', e = .returned v' ∧ Rd w' (fun k => w.heap.size ≤ k) (.sl .byte) p.1 [v'] ∧ RfAt w' M g p.2 ∧ w.grownBy w' (some g)
set_option maxRecDepth 20000 in
theorem rd_own_bytes {w : World} {B : Nat} {v : Value} {n : Nat} {xs : List UInt8} (h : w.ownsRow B 5 1 v n (xs.map encB)) : Rd w (fun k => B ≤ k) (.sl .byte) xs [v] := by
  have hl : xs.length = n := by have := h.1; simp at this; omega
  rcases h.2 with ⟨rfl, hz⟩ | ⟨g, cap, cur, rfl, hg, hh, hnc, hcm, _⟩
  · have : xs = [] := List.eq_nil_of_length_eq_zero (by omega)
    subst this
    exact rd_nil_bytes _ _
  · obtain ⟨A, c, e, h1, h2, h3⟩ := own_rc h
    injection e with e1 e2 e3
    subst e1
    simp only [maxLen] at hcm
    refine rd_sl.2 ⟨_, _, _, rfl, hnc, by omega, (fun e => by cases e), rows_of_bytes (?_ : Bs w _ n xs) (fun _ ad e => by injection e with e; subst e; exact hg)⟩
    exact ⟨by omega, h3.1, h3.2.1, h3.2.2⟩
set_option maxHeartbeats 4000000 in
set_option maxRecDepth 20000 in
theorem rrB_any (w : World) (M g most : Nat) (s : St) (h : RfAt w M g s) (hm : most ≤ 65536) (hl : s.1.length ≤ 1000000) :
    Calls Try.prog 29 #[.pointer (some ⟨g, 0, none⟩), .int .i64 most] w (RBPost w M g (rdB most s)) := by
  have HN := Lib.hid (rrN_any w M g most s h)
  obtain ⟨n, s1, hn⟩ : ∃ n s1, rdN most s = (n, s1) := ⟨_, _, rfl⟩
  have HQ := Lib.hid hn
  have hm0 : ¬ (most : Int) < 0 := by omega
  have hw : IntKind.u64.wrap (most : Int) = (most : Int) := by rw [IntKind.wrap_u64]; omega
  have hsl : s1.1.length ≤ 1000000 := by
    have := rdN_len most s
    rw [hn] at this
    exact Nat.le_trans this hl
  have hnm : n ≤ 65536 := by
    have := rdN_most most s
    rw [hn] at this
    exact Nat.le_trans this hm
  have HE := Lib.hid (show rdB most s = if s1.2 = true ∨ s1.1.length < n then ([], failed) else (s1.1.take n, s1.1.drop n, false) by unfold rdB; rw [hn])
  clear hn h
  cases hb : s1.2 with
  | true =>
    have HD := Lib.hid (show rdB most s = ([], failed) by rw [HE.out, if_pos (.inl hb)])
    have HB := Lib.hid hb
    clear hb
    go_enter Try.func29, Try.ntmps29
    go_wp2_with fail
    refine HN.out.mono ?_
    rintro e w2 ⟨rfl, hr, hg⟩
    rw [HQ.out] at hr ⊢
    have HR := Lib.hid hr
    have bR := hr.bad
    rw [show (n, s1).2.2 = true from HB.out] at bR
    clear hr
    go_wp2_with (go_at_call 73; refine (rfail_any _ M g s1 HR.out).mono ?_; rintro e w4 ⟨rfl, hr4, hg4⟩; have HR4 := Lib.hid hr4; clear hr4)
    go_ret
    rw [HD.out]
    exact ⟨_, rfl, rd_nil_bytes _ _, HR4.out, hg.trans hg4⟩
  | false =>
    by_cases hlt : s1.1.length < n
    · have HD := Lib.hid (show rdB most s = ([], failed) by rw [HE.out, if_pos (.inr hlt)])
      have HB := Lib.hid hb
      have hlt2 : (s1.1.length : Int) < (n : Int) := by omega
      have hw2 : IntKind.u64.wrap (s1.1.length : Int) = (s1.1.length : Int) := by rw [IntKind.wrap_u64]; omega
      clear hb hlt
      go_enter Try.func29, Try.ntmps29
      go_wp2_with fail
      refine HN.out.mono ?_
      rintro e w2 ⟨rfl, hr, hg⟩
      rw [HQ.out] at hr ⊢
      have HR := Lib.hid hr
      have bR := hr.bad
      rw [show (n, s1).2.2 = false from HB.out] at bR
      obtain ⟨A, c, hgb, _⟩ := hr
      have c0 := blk_at hgb 0 _ rfl
      clear hgb
      go_wp2_with (go_at_call 73; refine (rfail_any _ M g s1 HR.out).mono ?_; rintro e w4 ⟨rfl, hr4, hg4⟩; have HR4 := Lib.hid hr4; clear hr4)
      go_ret
      rw [HD.out]
      exact ⟨_, rfl, rd_nil_bytes _ _, HR4.out, hg.trans hg4⟩
    · have HD := Lib.hid (show rdB most s = (s1.1.take n, s1.1.drop n, false) by rw [HE.out, if_neg (by rw [hb]; simp; omega)])
      have HB := Lib.hid hb
      have hlt2 : ¬ (s1.1.length : Int) < (n : Int) := by omega
      have hle : (n : Int) ≤ (s1.1.length : Int) := by omega
      have hw2 : IntKind.u64.wrap (s1.1.length : Int) = (s1.1.length : Int) := by rw [IntKind.wrap_u64]; omega
      have n0 : (0 : Int) ≤ (n : Int) := by omega
      have hnl : n ≤ s1.1.length := by omega
      have HNL := Lib.hid hnl
      clear hb hlt hnl
      go_enter Try.func29, Try.ntmps29
      go_wp2_with fail
      refine HN.out.mono ?_
      rintro e w2 ⟨rfl, hr, hg⟩
      rw [HQ.out] at hr ⊢
      have HR := Lib.hid hr
      have bR := hr.bad
      rw [show (n, s1).2.2 = false from HB.out] at bR
      obtain ⟨A, c, hgb, h1, h2, h3, h4, h5, h6, h7⟩ := hr
      have c0 := blk_at hgb 0 _ rfl
      have hle2 : (n : Int) ≤ (c : Int) := by have : s1.1.length ≤ c := h1; omega
      have HG := Lib.hid hgb
      have H4 := Lib.hid h4
      have HBs := Lib.hid (show Rc w2 A n ((s1.1.take n).map encB) from ⟨by rw [List.length_map, List.length_take]; exact Nat.min_eq_left HNL.out, fun e => by have := h3 e; have := HNL.out; have : s1.1.length ≤ c := h1; omega, fun ad e j u hu => h4.2.2.2 ad e j u (by
        rw [List.getElem?_map, List.getElem?_take] at hu
        rw [List.getElem?_map]
        by_cases hj : j < n
        · rwa [if_pos hj] at hu
        · rw [if_neg hj] at hu; cases hu)⟩)
      clear hgb h4 h7
      go_wp2_with (at_builtin
                   refine wp_app (base := w2.heap.size) (w0 := w2) (n := 0) (xs := []) rfl (.const (.slice none 0 0)) (.tmp 36) rfl (own_nil _ _ _ _) HBs.out (Below.refl _ w2) Try.underlying23 info_byte rfl rfl rfl (one_bs _) (by omega) (by omega) (Nat.le_refl _) ?_
                   intro v3 w3 ho3 hb3 _ _
                   rw [List.nil_append] at ho3
                   have HO3 := Lib.hid ho3
                   have HB3 := Lib.hid hb3
                   have hg3 := blk_below HG.out hb3 (blk_lt HG.out)
                   have d0 := blk_at hg3 0 _ rfl
                   have f0 := blk_free hg3 0
                   have HG3 := Lib.hid hg3
                   have H43 := Lib.hid (H4.out.below hb3)
                   clear ho3 hb3 hg3)
      · go_ret
        have hcn : c = n := by assumption
        rw [HD.out]
        refine ⟨v3, rfl, ((rd_own_bytes HO3.out).of (fun a u hk hc => ?_) (fun k hk _ => Nat.le_trans hg.size hk)), rf_from (A2 := A) HNL.out HB.out HG3.out h1 h2 h3 H43.out h5 h6 (if_pos hcn).symm rfl (by omega), hg.trans ((grown_below HB3.out).trans (grown_set (grown_refl _ _)))⟩
        rw [World.cell?_setCell_far _ _ _ _ (by have h9 : w2.heap.size ≤ a.block := hk; have := blk_lt HG.out; show g ≠ a.block; omega)]; exact hc
      · go_ret
        have hcn : ¬ c = n := by assumption
        rw [HD.out]
        refine ⟨v3, rfl, ((rd_own_bytes HO3.out).of (fun a u hk hc => ?_) (fun k hk _ => Nat.le_trans hg.size hk)), rf_from (A2 := A.map (fun x : Addr => x.add n)) HNL.out HB.out HG3.out h1 h2 h3 H43.out h5 h6 (if_neg hcn).symm rfl rfl, hg.trans ((grown_below HB3.out).trans (grown_set (grown_refl _ _)))⟩
        rw [World.cell?_setCell_far _ _ _ _ (by have h9 : w2.heap.size ≤ a.block := hk; have := blk_lt HG.out; show g ≠ a.block; omega)]; exact hc
end Go.Proofs.Ytnolhnlhohpkpaa
namespace Go.Proofs.Ytnolhnlhohpkpaa
open Go.RowKit Cdc
set_option linter.unusedVariables false
set_option linter.unusedSimpArgs false
attribute [local go_sem] run_store_float
set_option maxRecDepth 20000 in
theorem RfAt.Mg {w : World} {M g : Nat} {s : St} (h : RfAt w M g s) : M ≤ g := by
  obtain ⟨A, c, _, _, _, _, _, _, h6, _⟩ := h
  exact h6
set_option maxRecDepth 20000 in
theorem RfAt.grownO {w w' : World} {M g k : Nat} {s : St} (h : RfAt w M g s) (hb : w.grownBy w' (some k)) (h1 : k ≠ g) (h2 : M ≤ k) : RfAt w' M g s :=
  h.keep fun b hbm hlt => hb.block b hlt (fun e => by injection e with e; rcases hbm with h | h <;> omega)
/-- A reader at work, and two boxes of the call's own: the result and the task. -/
def OTr (w W : World) (M g b : Nat) (s : St) (c : Array Value) : Prop :=
  RfAt W M g s ∧ g < w.heap.size ∧ w.heap.size < b ∧ W.heap[w.heap.size]? = some (.cells Z7 63 (0, 0)) ∧ W.heap[b]? = some (.cells c 63 (0, 0)) ∧ w.grownBy W (some g) ∧ b < W.heap.size
set_option maxRecDepth 20000 in
theorem OTr.read {w W W' : World} {M g b : Nat} {s s' : St} {c : Array Value} (h : OTr w W M g b s c) (hg : W.grownBy W' (some g)) (hr : RfAt W' M g s') : OTr w W' M g b s' c := by
  obtain ⟨h1, h2, h3, h4, h5, h6, h7⟩ := h
  exact ⟨hr, h2, h3, blk_grown h4 hg (by intro e; injection e; omega), blk_grown h5 hg (by intro e; injection e; omega), h6.trans hg, Nat.lt_of_lt_of_le h7 hg.size⟩
set_option maxRecDepth 20000 in
theorem OTr.set {w W : World} {M g b : Nat} {s : St} {c : Array Value} (h : OTr w W M g b s c) (j : Nat) (v : Value) : OTr w (W.setCell ⟨b, j, none⟩ v) M g b s (c.setIfInBounds j v) := by
  obtain ⟨h1, h2, h3, h4, h5, h6, h7⟩ := h
  have h0 : W.grownBy (W.setCell ⟨b, j, none⟩ v) (some b) := grown_set (grown_refl _ _)
  exact ⟨h1.grownO h0 (by omega) (by have := h1.Mg; omega), h2, h3, blk_other h4 j v (by omega), blk_set h5 j v, grown_new h6 h0 (by omega), Nat.lt_of_lt_of_le h7 h0.size⟩
set_option maxRecDepth 20000 in
theorem OTr.below {w W W' : World} {M g b : Nat} {s : St} {c : Array Value} (h : OTr w W M g b s c) (hb : Below W.heap.size W W') : OTr w W' M g b s c := by
  obtain ⟨h1, h2, h3, h4, h5, h6, h7⟩ := h
  exact ⟨h1.below hb, h2, h3, blk_below h4 hb (blk_lt h4), blk_below h5 hb h7, h6.trans (grown_below hb), Nat.lt_of_lt_of_le h7 hb.size⟩
set_option maxRecDepth 20000 in
theorem OTr.app {w W W' : World} {M g b : Nat} {s : St} {c : Array Value} {r : Option Nat} (h : OTr w W M g b s c) (hg : W.grownBy W' r) (hr : ∀ k, r = some k → b < k) : OTr w W' M g b s c := by
  obtain ⟨h1, h2, h3, h4, h5, h6, h7⟩ := h
  have ne : ∀ k, k ≤ b → some k ≠ r := fun k hk e => by have := hr k e.symm; omega
  have hm := h1.Mg
  refine ⟨h1.keep fun k hk hlt => hg.block k hlt (ne k (by rcases hk with hk | hk <;> omega)), h2, h3, blk_grown h4 hg (ne _ (by omega)), blk_grown h5 hg (ne _ (Nat.le_refl _)), ?_, Nat.lt_of_lt_of_le h7 hg.size⟩
  exact ⟨hg.os.trans h6.os, hg.tape.trans h6.tape, hg.output.trans h6.output, Nat.le_trans h6.size hg.size, fun k hk hne => (hg.block k (Nat.lt_of_lt_of_le hk h6.size) (ne k (by omega))).trans (h6.block k hk hne)⟩
set_option maxRecDepth 20000 in
theorem OTr.start {w w1 : World} {M g : Nat} {s : St} {c : Array Value} (hg : g < w.heap.size) (h : (w.alloc (.cells Z7 63)).grownBy w1 (some g)) (hr : RfAt w1 M g s) : OTr w (w1.alloc (.cells c 63)) M g w1.heap.size s c := by
  have hz : w.heap.size + 1 ≤ w1.heap.size := by have := h.size; simpa using this
  exact ⟨hr.below (below_alloc1 _ _), hg, hz, blk_alloc (blk_grown (heap_alloc_new w _) h (by intro e; injection e; omega)) _, heap_alloc_new w1 _, (grown_below (below_alloc1 w _)).trans (h.trans (grown_below (below_alloc1 w1 _))), by simp⟩
set_option maxHeartbeats 2000000 in
set_option maxRecDepth 20000 in
theorem taskof_any (w : World) (M g : Nat) (s : St) (h : RfAt w M g s) (hl : s.1.length ≤ 1000000) :
    Calls Try.prog 93 #[.pointer (some ⟨g, 0, none⟩)] w fun e w' => ∃ cs : List Value, e = .returned (.agg cs.toArray) ∧ Rd w' (fun k => w.heap.size ≤ k) TASK (rdTask s).1 cs ∧ RfAt w' M g (rdTask s).2 ∧ w.grownBy w' (some g) := by
  have hgl := h.lt
  obtain ⟨n1, s1, e1⟩ : ∃ n s', rdN FULL s = (n, s') := ⟨_, _, rfl⟩
  obtain ⟨n2, s2, e2⟩ : ∃ n s', rdN FULL s1 = (n, s') := ⟨_, _, rfl⟩
  obtain ⟨b3, s3, e3⟩ : ∃ n s', rdB 60 s2 = (n, s') := ⟨_, _, rfl⟩
  obtain ⟨q4, s4, e4⟩ : ∃ n s', rdFlag s3 = (n, s') := ⟨_, _, rfl⟩
  obtain ⟨f5, s5, e5⟩ : ∃ n s', rdF ofN s4 = (n, s') := ⟨_, _, rfl⟩
  obtain ⟨f6, s6, e6⟩ : ∃ n s', rdF ofN s5 = (n, s') := ⟨_, _, rfl⟩
  obtain ⟨n7, s7, e7⟩ : ∃ n s', rdN 60 s6 = (n, s') := ⟨_, _, rfl⟩
  have HV := Lib.hid (show rdTask s = (((n1 : Int), (n2 : Int), ⟨b3.toArray⟩, q4, f5, f6, (rdTags n7 s7).1, ()), (rdTags n7 s7).2) by unfold rdTask; simp only [e1, e2, e3, e4, e5, e6, e7])
  have hz1 : s1.1.length ≤ s.1.length := by have := rdN_len FULL s; rw [e1] at this; exact this
  have hz2 : s2.1.length ≤ s1.1.length := by have := rdN_len FULL s1; rw [e2] at this; exact this
  have hz3 : s3.1.length ≤ s2.1.length := by have := rdB_len 60 s2; rw [e3] at this; exact this
  have hz4 : s4.1.length ≤ s3.1.length := by have := rdN_len 1 s3; rw [show (rdN 1 s3).2 = (rdFlag s3).2 from rfl, e4] at this; exact this
  have hz5 : s5.1.length ≤ s4.1.length := by have := rdF_len s4; rw [e5] at this; exact this
  have hz6 : s6.1.length ≤ s5.1.length := by have := rdF_len s5; rw [e6] at this; exact this
  have hz7 : s7.1.length ≤ s6.1.length := by have := rdN_len 60 s6; rw [e7] at this; exact this
  have hn1 : n1 < 18446744073709551616 := by have := rdN_lt (most := FULL) (s := s) (by unfold FULL; omega); rw [e1] at this; exact this
  have hn2 : n2 < 18446744073709551616 := by have := rdN_lt (most := FULL) (s := s1) (by unfold FULL; omega); rw [e2] at this; exact this
  have hf5 : f5 < 18446744073709551616 := by have := rdF_range s4; rw [e5] at this; exact this
  have hf6 : f6 < 18446744073709551616 := by have := rdF_range s5; rw [e6] at this; exact this
  have E1 := Lib.hid e1
  have E2 := Lib.hid e2
  have E3 := Lib.hid e3
  have E4 := Lib.hid e4
  have E5 := Lib.hid e5
  have E6 := Lib.hid e6
  have E7 := Lib.hid e7
  clear e1 e2 e3 e4 e5 e6 e7
  have H0 := Lib.hid (h.below (below_alloc1 w (.cells Z7 63)))
  clear h
  go_enter Try.func93, Try.ntmps93
  go_wp2_with fail
  refine (rrN_any _ M g 18446744073709551615 s H0.out).mono ?_
  rintro e w1 ⟨rfl, hr, hg⟩
  rw [show rdN 18446744073709551615 s = _ from E1.out] at hr ⊢
  have O1 := Lib.hid (OTr.start (c := #[.int .u64 n1, .int .u64 0, .string ⟨#[]⟩, .bool false, .float .f64 0, .float .f64 0, .slice none 0 0]) hgl hg hr)
  clear hr hg
  go_wp2_with fail
  obtain ⟨v1, hv1⟩ : ∃ v, w1.alloc (.cells #[.int .u64 n1, .int .u64 0, .string ⟨#[]⟩, .bool false, .float .f64 0, .float .f64 0, .slice none 0 0] 63) = v := ⟨_, rfl⟩
  rw [hv1] at O1 ⊢
  obtain ⟨b, hb⟩ : ∃ b, w1.heap.size = b := ⟨_, rfl⟩
  rw [hb] at O1 ⊢
  clear hv1 hb
  refine (rrN_any v1 M g 18446744073709551615 s1 O1.out.1).mono ?_
  rintro e u2 ⟨rfl, hr, hg⟩
  rw [show rdN 18446744073709551615 s1 = _ from E2.out] at hr ⊢
  have P2 := Lib.hid (O1.out.read hg hr)
  have cx2 := blk_at P2.out.2.2.2.2.1 1 _ rfl
  have fx2 := blk_free P2.out.2.2.2.2.1 1
  have O2 := Lib.hid (P2.out.set 1 (.int .u64 n2))
  obtain ⟨v2, hv2⟩ : ∃ v, u2.setCell ⟨b, 1, none⟩ (.int .u64 n2) = v := ⟨_, rfl⟩
  rw [hv2] at O2
  clear hr hg
  go_wp2_with fail
  clear cx2 fx2
  refine (rrB_any v2 M g 60 s2 O2.out.1 (by omega) (by omega)).mono ?_
  rintro e u3 ⟨w3v, rfl, hd, hr, hg⟩
  obtain ⟨A3v, c3v, rfl, _, _, _, hbs⟩ := rd_bs hd
  rw [show rdB 60 s2 = _ from E3.out] at hr hbs ⊢
  have hconv := conv_bs (c := c3v) hbs
  have P3 := Lib.hid (O2.out.read hg hr)
  have cx3 := blk_at P3.out.2.2.2.2.1 2 _ rfl
  have fx3 := blk_free P3.out.2.2.2.2.1 2
  have O3 := Lib.hid (P3.out.set 2 (.string ⟨b3.toArray⟩))
  obtain ⟨v3, hv3⟩ : ∃ v, u3.setCell ⟨b, 2, none⟩ (.string ⟨b3.toArray⟩) = v := ⟨_, rfl⟩
  rw [hv3] at O3
  clear hr hg hd hbs
  go_wp2_with fail
  clear cx3 fx3 hconv
  refine (rrFlag_any v3 M g s3 O3.out.1).mono ?_
  rintro e u4 ⟨rfl, hr, hg⟩
  rw [show rdFlag s3 = _ from E4.out] at hr ⊢
  have P4 := Lib.hid (O3.out.read hg hr)
  have cx4 := blk_at P4.out.2.2.2.2.1 3 _ rfl
  have fx4 := blk_free P4.out.2.2.2.2.1 3
  have O4 := Lib.hid (P4.out.set 3 (.bool q4))
  obtain ⟨v4, hv4⟩ : ∃ v, u4.setCell ⟨b, 3, none⟩ (.bool q4) = v := ⟨_, rfl⟩
  rw [hv4] at O4
  clear hr hg
  go_wp2_with fail
  clear cx4 fx4
  refine (rrF_any v4 M g s4 O4.out.1).mono ?_
  rintro e u5 ⟨rfl, hr, hg⟩
  rw [show rdF ofN s4 = _ from E5.out] at hr ⊢
  have P5 := Lib.hid (O4.out.read hg hr)
  have cx5 := blk_at P5.out.2.2.2.2.1 4 _ rfl
  have fx5 := blk_free P5.out.2.2.2.2.1 4
  have O5 := Lib.hid (P5.out.set 4 (.float .f64 f5))
  obtain ⟨v5, hv5⟩ : ∃ v, u5.setCell ⟨b, 4, none⟩ (.float .f64 f5) = v := ⟨_, rfl⟩
  rw [hv5] at O5
  clear hr hg
  go_wp2_with fail
  clear cx5 fx5
  refine (rrF_any v5 M g s5 O5.out.1).mono ?_
  rintro e u6 ⟨rfl, hr, hg⟩
  rw [show rdF ofN s5 = _ from E6.out] at hr ⊢
  have P6 := Lib.hid (O5.out.read hg hr)
  have cx6 := blk_at P6.out.2.2.2.2.1 5 _ rfl
  have fx6 := blk_free P6.out.2.2.2.2.1 5
  have O6 := Lib.hid (P6.out.set 5 (.float .f64 f6))
  obtain ⟨v6, hv6⟩ : ∃ v, u6.setCell ⟨b, 5, none⟩ (.float .f64 f6) = v := ⟨_, rfl⟩
  rw [hv6] at O6
  clear hr hg
  go_wp2_with fail
  clear cx6 fx6
  refine (rrN_any v6 M g 60 s6 O6.out.1).mono ?_
  rintro e u7 ⟨rfl, hr, hg⟩
  rw [show rdN 60 s6 = _ from E7.out] at hr ⊢
  have O7 := Lib.hid (O6.out.read hg hr)
  clear hr hg
  go_wp2_with fail
  have hn7 : n7 ≤ 60 := by have := rdN_most 60 s6; rw [E7.out] at this; exact this
  clear O1 O2 O3 O4 O5 O6
  go_loopw [5] (fun s4' wr => ∃ (k : Nat) (v : Value) (l : List ByteArray) (s' : St), k ≤ n7 ∧ s4' = .int .u64 (k : Int) ∧ rdTags k s7 = (l, s') ∧ OTr w wr M g b s' #[Value.int .u64 (n1 : Int), Value.int .u64 (n2 : Int), Value.string ⟨b3.toArray⟩, Value.bool q4, Value.float .f64 f5, Value.float .f64 f6, v] ∧ Own wr (b + 1) 9 .str v l) (fun s4' _ => n7 - (intOf s4').toNat)
  case atStart => exact ⟨0, _, [], s7, by omega, rfl, rfl, O7.out, Own.nil _ _ _ _⟩
  case round =>
    obtain ⟨k, v, l, s', hk, rfl, hrt, hO, hOw⟩ := hrel
    have HO := Lib.hid hO
    have HW := Lib.hid hOw
    have HT := Lib.hid hrt
    have hb1 := hO.2.2.2.2.2.2
    have hl2 : s'.1.length ≤ s7.1.length := by have := rdTags_len k s7; rw [hrt] at this; exact this.2
    have hlk : l.length = k := by have := rdTags_len k s7; rw [hrt] at this; exact this.1
    clear hO hOw hrt
    by_cases hlt : k < n7
    · have j0 : (k : Int) < (n7 : Int) := by omega
      obtain ⟨D, s2', hD⟩ : ∃ D s2', rdB 60 s' = (D, s2') := ⟨_, _, rfl⟩
      have ED := Lib.hid hD
      have hDs : (⟨D.toArray⟩ : ByteArray).size ≤ 9223372036854775807 := by have := rdB_most 60 s'; rw [hD] at this; show D.toArray.size ≤ _; simp only [List.size_toArray] at this ⊢; omega
      have HN := Lib.hid (show rdTags (k + 1) s7 = (l ++ [⟨D.toArray⟩], s2') by rw [rdTags_snoc, HT.out, hD])
      have hvb : ∀ kb, v.ownBlock = some kb → b + 1 ≤ kb := fun kb e => by obtain ⟨xs, ho, _⟩ := HW.out; exact own_base ho kb e
      obtain ⟨Av, cv, rfl, _⟩ := HW.out.form
      rw [hlk] at HW HO hvb
      have HLK := Lib.hid hlk
      clear hD hlk
      go_wp2_with fail
      refine region_inU 6 (fun W => W.cell? ⟨b, 6, none⟩ = some (.slice Av k cv)) (by kernel_rfl) (fun x1 hx1 heq => ?_)
      have X1 := Lib.hid (HO.out.below hx1)
      have W1 := Lib.hid (HW.out.below hx1)
      have hHeld := blk_at X1.out.2.2.2.2.1 6 _ rfl
      clear hx1 heq
      first
        | (refine takeT (i := 0) (v := ?_) rfl (by kernel_rfl) (by kernel_rfl) (by kernel_rfl) (fun _ _ _ h => h) (by kernel_rfl) (Or.inl ⟨by rfl, ?_⟩) (fun _ => hHeld) ?_; rotate_left; (focus (intro W hSw; go_simp; (try rfl); done)); (try simp only [Act.put, List.setIfInBounds_toArray, List.set_cons_zero, List.set_cons_succ]))
        | (fail "UTAKE 0")
      first
        | (refine takeU (i := 1) (v := ?_) rfl (by kernel_rfl) (by kernel_rfl) (by kernel_rfl) (fun _ _ _ h => h) (by kernel_rfl) (by kernel_rfl) (by kernel_rfl) (Or.inl ⟨by rfl, ?_⟩) hHeld ?_; rotate_left; (focus (intro W hSw; (try dsimp only at hSw); go_simp; (try rfl); done)); (try simp only [Act.put, List.setIfInBounds_toArray, List.set_cons_zero, List.set_cons_succ]))
        | (fail "UTAKE 1")
      first
        | (refine takeT (i := 2) (v := ?_) rfl (by kernel_rfl) (by kernel_rfl) (by kernel_rfl) (fun _ _ _ h => h) (by kernel_rfl) (Or.inl ⟨by rfl, ?_⟩) (fun _ => hHeld) ?_; rotate_left; (focus (intro W hSw; go_simp; (try rfl); done)); (try simp only [Act.put, List.setIfInBounds_toArray, List.set_cons_zero, List.set_cons_succ]))
        | (fail "UTAKE 2")
      refine callU (i := 3) rfl (by kernel_rfl) (by kernel_rfl) (fun K hK => ?_)
      (try clear hHeld)
      go_simp
      refine (rrB_any x1 M g 60 s' X1.out.1 (by omega) (by omega)).mono ?_
      rintro e x2 ⟨vD, rfl, hd, hr, hg⟩
      obtain ⟨Ad, cd, rfl, _, _, _, hbs⟩ := rd_bs hd
      rw [show rdB 60 s' = _ from ED.out] at hr hbs ⊢
      have X2 := Lib.hid (X1.out.read hg hr)
      have W2 := Lib.hid (Own.grown W1.out hg (by have := X1.out.2.1; have := X1.out.2.2.1; omega))
      have HBs := Lib.hid hbs
      have C2 := blk_at X2.out.2.2.2.2.1 6 _ rfl
      clear hd hr hg hbs
      have hHeld := C2
      refine hK.out (fun W => W.cell? ⟨b, 6, none⟩ = some (.slice Av k cv)) _ _ (fun _ => hHeld) (fun _ h => h) ?_
      (try simp only [Act.put, List.setIfInBounds_toArray, List.set_cons_zero, List.set_cons_succ])
      have hconv := conv_bs (c := cd) HBs.out
      refine callU (i := 4) rfl (by kernel_rfl) (by kernel_rfl) (fun K hK => ?_)
      (try clear hHeld)
      go_simp
      have hHeld := C2
      refine hK.out (fun W => W.cell? ⟨b, 6, none⟩ = some (.slice Av k cv)) _ _ (fun _ => hHeld) (fun _ h => h) ?_
      (try simp only [Act.put, List.setIfInBounds_toArray, List.set_cons_zero, List.set_cons_succ])
      clear hconv
      refine callU (i := 5) rfl (by kernel_rfl) (by kernel_rfl) (fun K hK => ?_)
      (try clear hHeld)
      go_simp
      have hb2 := below_alloc1 x2 (.cells #[.string ⟨D.toArray⟩] 9)
      have X3 := Lib.hid (X2.out.below hb2)
      have W3 := Lib.hid (W2.out.below hb2)
      have C3 := blk_at X3.out.2.2.2.2.1 6 _ rfl
      have AT3 := Lib.hid (At.blk (heap_alloc_new x2 (.cells #[.string ⟨D.toArray⟩] 9)))
      have hsz3 : b < (x2.alloc (.cells #[.string ⟨D.toArray⟩] 9)).heap.size := X3.out.2.2.2.2.2.2
      have hHeld := C3
      refine hK.out (fun W => W.cell? ⟨b, 6, none⟩ = some (.slice Av k cv)) _ _ (fun _ => hHeld) (fun _ h => h) ?_
      (try simp only [Act.put, List.setIfInBounds_toArray, List.set_cons_zero, List.set_cons_succ])
      refine callU (i := 6) rfl (by kernel_rfl) (by kernel_rfl) (fun K hK => ?_)
      clear hHeld
      refine wpo_appO (w0 := x2.alloc (.cells #[.string ⟨D.toArray⟩] 9)) (m := 1) (S := .str) (r := [(⟨D.toArray⟩ : ByteArray)]) (ys := [.string ⟨D.toArray⟩]) (.tmp 33) (.tmp 37) rfl W3.out rfl (fun e => by cases e) (fun ad' e => by cases e; exact AT3.out) (RdL.single (s := .str) (x := (⟨D.toArray⟩ : ByteArray)) ⟨rfl, hDs⟩) (Below.refl _ _) Try.underlying61 info_str rfl (by decide) rfl rfl (by rw [HLK.out]; omega) (by rw [HLK.out]; omega) (by omega) ?_
      intro v7 x4 hO7 hb7 hg7 _
      obtain ⟨A7, c7, rfl, _⟩ := hO7.form
      have hl7 : (l ++ [(⟨D.toArray⟩ : ByteArray)]).length = k + 1 := by rw [List.length_append, HLK.out]; rfl
      rw [hl7] at hO7 ⊢
      clear hl7
      have X4 := Lib.hid (X3.out.app hg7 (fun kb e => hvb kb e))
      have HO7 := Lib.hid hO7
      clear hO7 hb7 hg7
      refine hK.out _ _ _ (offU (by kernel_rfl)) (fun _ h => h) ?_
      (try simp only [Act.put, List.setIfInBounds_toArray, List.set_cons_zero, List.set_cons_succ])
      first
        | (refine takeT (i := 7) (v := ?_) rfl (by kernel_rfl) (by kernel_rfl) (by kernel_rfl) (fun _ _ _ h => h) (by kernel_rfl) (Or.inl ⟨by rfl, ?_⟩) (offU (by kernel_rfl)) ?_; rotate_left; (focus (intro W hSw; go_simp; (try rfl); done)); (try simp only [Act.put, List.setIfInBounds_toArray, List.set_cons_zero, List.set_cons_succ]))
        | (fail "UTAKE 7")
      have cx := blk_at X4.out.2.2.2.2.1 6 _ rfl
      have fx := blk_free X4.out.2.2.2.2.1 6
      have hHeld := trivial
      refine callU (i := 8) rfl (by kernel_rfl) (by kernel_rfl) (fun K hK => ?_)
      (try clear hHeld)
      go_simp
      have X5 := Lib.hid (X4.out.set 6 (.slice A7 (k + 1) c7))
      have W5 := Lib.hid (Own.grown HO7.out (grown_set (j := 6) (v := .slice A7 (k + 1) c7) (grown_refl x4 (some b))) (Nat.lt_succ_self b))
      refine hK.out _ _ _ (offU (by kernel_rfl)) (fun _ h => h) ?_
      (try simp only [Act.put, List.setIfInBounds_toArray, List.set_cons_zero, List.set_cons_succ])
      refine doneU (by kernel_rfl) ?_ _
      have hnk : IntKind.u64.wrap ((k : Int) + 1) = ((k + 1 : Nat) : Int) := by rw [IntKind.wrap_u64]; omega
      go_wp2_with fail
      go_roundw
      case measure => simp [intOf]; omega
      case rel => exact ⟨k + 1, _, _, s2', by omega, rfl, HN.out, X5.out, W5.out⟩
    · obtain rfl : k = n7 := by omega
      have hq := HO.out
      obtain ⟨Av, cv, rfl, _⟩ := HW.out.form
      rw [hlk] at HW hq
      have HR := Lib.hid hq
      have hr4 := hq.2.2.2.1
      clear hq
      go_wp2_with (first
        | (refine wpL_load rfl 63 (.tmp 3) rfl ⟨b, 0, none⟩ rfl [.int .u64 (n1 : Int), .int .u64 (n2 : Int), .string ⟨b3.toArray⟩, .bool q4, .float .f64 f5, .float .f64 f6, .slice Av k cv] _ (At.blk HR.out.2.2.2.2.1) Try.underlying63 rfl rfl ?_)
        | (refine wpL_store rfl 63 (.tmp 2) (.tmp 40) rfl w.heap.size rfl _ _ 63 rfl hr4 rfl rfl (by intro v hv; simp at hv; rcases hv with rfl | rfl | rfl | rfl | rfl | rfl | rfl <;> rfl) ?_
           intro w4 hw4 hg4))
      refine bodyPost_ret (results_cell_row rfl _ _ w.heap.size 63 _ (0, 0) _ rfl hw4 Try.underlying63 rfl rfl) rfl ?_
      have hbs3 : (⟨b3.toArray⟩ : ByteArray).size ≤ 9223372036854775807 := by have := rdB_most 60 s2; rw [E3.out] at this; show b3.toArray.size ≤ _; simp only [List.size_toArray] at this ⊢; omega
      have hd := Own.rd HW.out
      rw [HV.out]
      rw [show rdTags k s7 = _ from HT.out]
      have hok' : ((0 : Int) ≤ (n1 : Int) ∧ (n1 : Int) < 18446744073709551616) ∧ ((0 : Int) ≤ (n2 : Int) ∧ (n2 : Int) < 18446744073709551616) ∧ (⟨b3.toArray⟩ : ByteArray).size ≤ 9223372036854775807 ∧ f5 < 18446744073709551616 ∧ f6 < 18446744073709551616 := ⟨⟨by omega, by omega⟩, ⟨by omega, by omega⟩, hbs3, hf5, hf6⟩
      have hok : TASKOk ((n1 : Int), (n2 : Int), ⟨b3.toArray⟩, q4, f5, f6, l, ()) := hok'
      have hwb := HR.out.2.2.1
      have hd4 := hd.of (w' := w4) (ok' := fun kb => w.heap.size ≤ kb) (fun a u hk hc => cell_grown hg4 hc (by intro e; injection e with e; have h1 : b + 1 ≤ a.block := hk; omega)) (fun kb hk _ => by have h1 : b + 1 ≤ kb := hk; omega)
      rw [← hlk] at hd4
      exact ⟨_, rfl, by rw [← hlk]; exact rd_task_mk hok hd4, HR.out.1.grownO hg4 (by omega) (by have := HR.out.1.Mg; omega), grown_new HR.out.2.2.2.2.2.1 hg4 (Nat.le_refl _)⟩
end Go.Proofs.Ytnolhnlhohpkpaa
namespace Go.Proofs.Ytnolhnlhohpkpaa
open Go.RowKit Cdc
set_option linter.unusedVariables false
set_option linter.unusedSimpArgs false
/-- All blocks but the row's own are as they were, and the row that is told lies in none of them. -/
def Keeps (w : World) (v : Value) (w' : World) (v' : Value) : Prop := ∀ k o, w.heap[k]? = some o → v.ownBlock ≠ some k → w'.heap[k]? = some o ∧ v'.ownBlock ≠ some k
set_option maxRecDepth 20000 in
theorem Keeps.refl (w : World) (v : Value) : Keeps w v w v := fun _ _ h h2 => ⟨h, h2⟩
set_option maxRecDepth 20000 in
theorem Keeps.trans {a b c : World} {u v x : Value} (h : Keeps a u b v) (h2 : Keeps b v c x) : Keeps a u c x := fun k o hk hn => by
  obtain ⟨h3, h4⟩ := h k o hk hn
  exact h2 k o h3 h4
set_option maxRecDepth 20000 in
theorem Keeps.cell {a b : World} {u v : Value} (h : Keeps a u b v) {p : Addr} {x : Value} (hc : a.cell? p = some x) (hn : u.ownBlock ≠ some p.block) : b.cell? p = some x := by
  cases ho : a.heap[p.block]? with
  | none =>
    have := World.block_lt_of_cell? a p hc
    rw [Array.getElem?_eq_none_iff] at ho
    omega
  | some o =>
    have h2 := (h _ _ ho hn).1
    have : b.heap[p.block]? = a.heap[p.block]? := by rw [h2, ho]
    simpa [World.cell?, this] using hc
set_option maxRecDepth 20000 in
theorem keeps_app {w W w1 : World} {v v1 : Value} (hb : Below w.heap.size w W) (hg : W.grownBy w1 v.ownBlock) (ho : v1.ownBlock = v.ownBlock ∨ v1.ownBlock = some W.heap.size) : Keeps w v w1 v1 := fun k o hk hn => by
  have hlt := blk_lt hk
  have h2 : W.heap[k]? = some o := blk_below hk hb hlt
  refine ⟨blk_grown h2 hg (fun e => hn e.symm), fun e => ?_⟩
  rcases ho with ho | ho
  · rw [ho] at e; exact hn e
  · rw [ho] at e; injection e with e; have := blk_lt h2; omega
def OKPost (w : World) (B : Nat) (v : Value) (xs : List UInt8) (e : Ending) (w' : World) : Prop := ∃ v', e = .returned v' ∧ OB w' B v' xs ∧ Below B w w' ∧ Keeps w v w' v'
set_option maxHeartbeats 4000000 in
set_option maxRecDepth 20000 in
theorem rfixK (base : Nat) (w0 : World) (v : Value) (n : Nat) (xs : List UInt8) (M sz : Nat) (w : World) (hown0 : w.ownsRow base 5 1 v n (xs.map encB)) (hb : Below base w0 w) (hbase : base ≤ w0.heap.size) (hsz : sz ≤ 8) (hn : n ≤ 70000000000) :
    Calls Try.prog 99 #[v, .int .u64 M, .int .i64 sz] w fun e w' => ∃ v', e = .returned v' ∧ w'.ownsRow base 5 1 v' (n + sz) ((xs ++ be sz M).map encB) ∧ Below base w0 w' ∧ Keeps w v w' v' := by
  have hlen : xs.length = n := by have := hown0.1; simpa using this
  go_enter Try.func99, Try.ntmps99
  go_wp2
  go_loopw [0, 7] (fun u i wr => ∃ r : Nat, r ≤ sz ∧ i = .int .i64 ((r : Int) - 1) ∧ ∃ pre : List UInt8, Hid (be sz M = pre ++ be r M) ∧ wr.ownsRow base 5 1 u (n + pre.length) ((xs ++ pre).map encB) ∧ Below base w0 wr ∧ Keeps w v wr u) (fun _ i _ => (intOf i + 1).toNat)
  case atStart => exact ⟨sz, Nat.le_refl _, rfl, [], Lib.hid rfl, own_cast hown0 (by simp), hb, Keeps.refl _ _⟩
  case round =>
    obtain ⟨r, hr, rfl, pre, HP, hown, hbel, hkr⟩ := hrel
    have hz := Nat.le_trans hbase hbel.size
    have hpl : pre.length ≤ 8 := by
      have := congrArg List.length HP.out
      rw [be_len, List.length_append] at this; omega
    have hr8 : r = 0 ∨ r = 1 ∨ r = 2 ∨ r = 3 ∨ r = 4 ∨ r = 5 ∨ r = 6 ∨ r = 7 ∨ r = 8 := by omega
    rcases hr8 with rfl | rfl | rfl | rfl | rfl | rfl | rfl | rfl | rfl
    · go_wp2
      go_ret
      exact ⟨_, rfl, own_len (own_cast hown (by rw [HP.out]; simp [be])) (by have := congrArg List.length HP.out; rw [be_len] at this; simp [be] at this; omega), hbel, hkr⟩
    · go_wp2_with (at_builtin; refine wp_app (base := base) rfl (.tmp 14) (.tmp 20) rfl (hown.alloc _) (lit_rc wr 5 (0, 0) _ 1 rfl) (hbel.alloc (by omega) _) Try.underlying23 info_byte rfl rfl rfl (one_lit1 _) (by omega) (by omega) (by simp; omega) ?_; intro v3 w3 ho3 hq3 hgr hgo; have hk3 := hkr.trans (keeps_app (below_alloc1 wr _) hgr hgo); clear hgr hgo; replace ho3 := own_cast ho3 ((congrArg (List.map encB (xs ++ pre) ++ [·]) (enc_of (n := (M : Int) % 256) (m := M / 256 ^ 0) (by omega))).trans (List.map_append (l₂ := [UInt8.ofNat (M / 256 ^ 0)])).symm); rw [List.append_assoc] at ho3)
      go_roundw
      case rel => exact ⟨0, by omega, by go_num, pre ++ [UInt8.ofNat (M / 256 ^ 0)], Lib.hid (by rw [HP.out]; simp [be]), own_len ho3 (by simp; omega), hq3, hk3⟩
      case measure => simp [intOf]
    · go_wp2_with (at_builtin; refine wp_app (base := base) rfl (.tmp 14) (.tmp 20) rfl (hown.alloc _) (lit_rc wr 5 (0, 0) _ 1 rfl) (hbel.alloc (by omega) _) Try.underlying23 info_byte rfl rfl rfl (one_lit1 _) (by omega) (by omega) (by simp; omega) ?_; intro v3 w3 ho3 hq3 hgr hgo; have hk3 := hkr.trans (keeps_app (below_alloc1 wr _) hgr hgo); clear hgr hgo; replace ho3 := own_cast ho3 ((congrArg (List.map encB (xs ++ pre) ++ [·]) (enc_of (n := (M : Int) / 256 % 256) (m := M / 256 ^ 1) (by omega))).trans (List.map_append (l₂ := [UInt8.ofNat (M / 256 ^ 1)])).symm); rw [List.append_assoc] at ho3)
      go_roundw
      case rel => exact ⟨1, by omega, by go_num, pre ++ [UInt8.ofNat (M / 256 ^ 1)], Lib.hid (by rw [HP.out]; simp [be]), own_len ho3 (by simp; omega), hq3, hk3⟩
      case measure => simp [intOf]
    · go_wp2_with (at_builtin; refine wp_app (base := base) rfl (.tmp 14) (.tmp 20) rfl (hown.alloc _) (lit_rc wr 5 (0, 0) _ 1 rfl) (hbel.alloc (by omega) _) Try.underlying23 info_byte rfl rfl rfl (one_lit1 _) (by omega) (by omega) (by simp; omega) ?_; intro v3 w3 ho3 hq3 hgr hgo; have hk3 := hkr.trans (keeps_app (below_alloc1 wr _) hgr hgo); clear hgr hgo; replace ho3 := own_cast ho3 ((congrArg (List.map encB (xs ++ pre) ++ [·]) (enc_of (n := (M : Int) / 65536 % 256) (m := M / 256 ^ 2) (by omega))).trans (List.map_append (l₂ := [UInt8.ofNat (M / 256 ^ 2)])).symm); rw [List.append_assoc] at ho3)
      go_roundw
      case rel => exact ⟨2, by omega, by go_num, pre ++ [UInt8.ofNat (M / 256 ^ 2)], Lib.hid (by rw [HP.out]; simp [be]), own_len ho3 (by simp; omega), hq3, hk3⟩
      case measure => simp [intOf]
    · go_wp2_with (at_builtin; refine wp_app (base := base) rfl (.tmp 14) (.tmp 20) rfl (hown.alloc _) (lit_rc wr 5 (0, 0) _ 1 rfl) (hbel.alloc (by omega) _) Try.underlying23 info_byte rfl rfl rfl (one_lit1 _) (by omega) (by omega) (by simp; omega) ?_; intro v3 w3 ho3 hq3 hgr hgo; have hk3 := hkr.trans (keeps_app (below_alloc1 wr _) hgr hgo); clear hgr hgo; replace ho3 := own_cast ho3 ((congrArg (List.map encB (xs ++ pre) ++ [·]) (enc_of (n := (M : Int) / 16777216 % 256) (m := M / 256 ^ 3) (by omega))).trans (List.map_append (l₂ := [UInt8.ofNat (M / 256 ^ 3)])).symm); rw [List.append_assoc] at ho3)
      go_roundw
      case rel => exact ⟨3, by omega, by go_num, pre ++ [UInt8.ofNat (M / 256 ^ 3)], Lib.hid (by rw [HP.out]; simp [be]), own_len ho3 (by simp; omega), hq3, hk3⟩
      case measure => simp [intOf]
    · go_wp2_with (at_builtin; refine wp_app (base := base) rfl (.tmp 14) (.tmp 20) rfl (hown.alloc _) (lit_rc wr 5 (0, 0) _ 1 rfl) (hbel.alloc (by omega) _) Try.underlying23 info_byte rfl rfl rfl (one_lit1 _) (by omega) (by omega) (by simp; omega) ?_; intro v3 w3 ho3 hq3 hgr hgo; have hk3 := hkr.trans (keeps_app (below_alloc1 wr _) hgr hgo); clear hgr hgo; replace ho3 := own_cast ho3 ((congrArg (List.map encB (xs ++ pre) ++ [·]) (enc_of (n := (M : Int) / 4294967296 % 256) (m := M / 256 ^ 4) (by omega))).trans (List.map_append (l₂ := [UInt8.ofNat (M / 256 ^ 4)])).symm); rw [List.append_assoc] at ho3)
      go_roundw
      case rel => exact ⟨4, by omega, by go_num, pre ++ [UInt8.ofNat (M / 256 ^ 4)], Lib.hid (by rw [HP.out]; simp [be]), own_len ho3 (by simp; omega), hq3, hk3⟩
      case measure => simp [intOf]
    · go_wp2_with (at_builtin; refine wp_app (base := base) rfl (.tmp 14) (.tmp 20) rfl (hown.alloc _) (lit_rc wr 5 (0, 0) _ 1 rfl) (hbel.alloc (by omega) _) Try.underlying23 info_byte rfl rfl rfl (one_lit1 _) (by omega) (by omega) (by simp; omega) ?_; intro v3 w3 ho3 hq3 hgr hgo; have hk3 := hkr.trans (keeps_app (below_alloc1 wr _) hgr hgo); clear hgr hgo; replace ho3 := own_cast ho3 ((congrArg (List.map encB (xs ++ pre) ++ [·]) (enc_of (n := (M : Int) / 1099511627776 % 256) (m := M / 256 ^ 5) (by omega))).trans (List.map_append (l₂ := [UInt8.ofNat (M / 256 ^ 5)])).symm); rw [List.append_assoc] at ho3)
      go_roundw
      case rel => exact ⟨5, by omega, by go_num, pre ++ [UInt8.ofNat (M / 256 ^ 5)], Lib.hid (by rw [HP.out]; simp [be]), own_len ho3 (by simp; omega), hq3, hk3⟩
      case measure => simp [intOf]
    · go_wp2_with (at_builtin; refine wp_app (base := base) rfl (.tmp 14) (.tmp 20) rfl (hown.alloc _) (lit_rc wr 5 (0, 0) _ 1 rfl) (hbel.alloc (by omega) _) Try.underlying23 info_byte rfl rfl rfl (one_lit1 _) (by omega) (by omega) (by simp; omega) ?_; intro v3 w3 ho3 hq3 hgr hgo; have hk3 := hkr.trans (keeps_app (below_alloc1 wr _) hgr hgo); clear hgr hgo; replace ho3 := own_cast ho3 ((congrArg (List.map encB (xs ++ pre) ++ [·]) (enc_of (n := (M : Int) / 281474976710656 % 256) (m := M / 256 ^ 6) (by omega))).trans (List.map_append (l₂ := [UInt8.ofNat (M / 256 ^ 6)])).symm); rw [List.append_assoc] at ho3)
      go_roundw
      case rel => exact ⟨6, by omega, by go_num, pre ++ [UInt8.ofNat (M / 256 ^ 6)], Lib.hid (by rw [HP.out]; simp [be]), own_len ho3 (by simp; omega), hq3, hk3⟩
      case measure => simp [intOf]
    · go_wp2_with (at_builtin; refine wp_app (base := base) rfl (.tmp 14) (.tmp 20) rfl (hown.alloc _) (lit_rc wr 5 (0, 0) _ 1 rfl) (hbel.alloc (by omega) _) Try.underlying23 info_byte rfl rfl rfl (one_lit1 _) (by omega) (by omega) (by simp; omega) ?_; intro v3 w3 ho3 hq3 hgr hgo; have hk3 := hkr.trans (keeps_app (below_alloc1 wr _) hgr hgo); clear hgr hgo; replace ho3 := own_cast ho3 ((congrArg (List.map encB (xs ++ pre) ++ [·]) (enc_of (n := (M : Int) / 72057594037927936 % 256) (m := M / 256 ^ 7) (by omega))).trans (List.map_append (l₂ := [UInt8.ofNat (M / 256 ^ 7)])).symm); rw [List.append_assoc] at ho3)
      go_roundw
      case rel => exact ⟨7, by omega, by go_num, pre ++ [UInt8.ofNat (M / 256 ^ 7)], Lib.hid (by rw [HP.out]; simp [be]), own_len ho3 (by simp; omega), hq3, hk3⟩
      case measure => simp [intOf]
set_option maxRecDepth 20000 in
theorem rwNK (B : Nat) (w : World) (v : Value) (xs : List UInt8) (m : Nat) (h : OB w B v xs) (hB : B ≤ w.heap.size) (hm : m < 18446744073709551616) (hx : xs.length ≤ 60000000000) :
    Calls Try.prog 60 #[v, .int .u64 m] w (OKPost w B v (xs ++ encN m)) := by
  by_cases h128 : m < 128
  · have h128' : (m : Int) < 128 := by omega
    have hw8 : IntKind.u8.wrap (m : Int) = (m : Int) := IntWalk.u8_in _ (by omega)
    have HE := Lib.hid (show encN m = [UInt8.ofNat m] by unfold encN; rw [if_pos h128])
    have HQ := Lib.hid (show Value.int .u8 (m : Int) = encB (UInt8.ofNat m) from enc_of (by omega))
    have HO := Lib.hid h
    clear h h128
    go_enter Try.func60, Try.ntmps60
    go_wp2_with (at_builtin; refine wp_app (base := B) (w0 := w) rfl (.tmp 8) (.tmp 11) rfl (HO.out.alloc _) (lit_rc w 5 (0, 0) _ 1 rfl) ((Below.refl B w).alloc hB _) Try.underlying23 info_byte rfl rfl rfl (one_lit1 _) (by omega) (by omega) (by simp; omega) ?_; intro v3 w3 ho3 hq3 hgr hgo; have hk3 := keeps_app (below_alloc1 w _) hgr hgo; clear hgr hgo; rw [show (#[Value.int .u8 (m : Int)] : Array Value).toList = [UInt8.ofNat m].map encB from congrArg (· :: []) HQ.out, ← List.map_append] at ho3)
    go_ret
    rw [HE.out]
    exact ⟨_, rfl, ob_of ho3, hq3, hk3⟩
  · have h128' : ¬ (m : Int) < 128 := by omega
    obtain ⟨k, hk⟩ : ∃ k, wide m = k := ⟨_, rfl⟩
    have hk8 := wide_pos m
    rw [hk] at hk8
    have HK := Lib.hid hk
    have HE := Lib.hid (show encN m = [UInt8.ofNat (128 + k)] ++ be k m by unfold encN; rw [if_neg h128, hk]; rfl)
    have hw8 : IntKind.u8.wrap (128 + (k : Int)) = 128 + (k : Int) := IntWalk.u8_in _ (by omega)
    have HQ := Lib.hid (show Value.int .u8 (128 + (k : Int)) = encB (UInt8.ofNat (128 + k)) from enc_of (by omega))
    have HO := Lib.hid h
    clear h h128 hk
    go_enter Try.func60, Try.ntmps60
    go_wp2_with (first
      | (go_at_call 74; refine (rwide_any m _ hm).mono ?_; rintro e w2 ⟨rfl, rfl⟩; rw [HK.out])
      | (at_builtin; refine wp_app (base := B) (w0 := w) rfl (.tmp 15) (.tmp 19) rfl (HO.out.alloc _) (lit_rc w 5 (0, 0) _ 1 rfl) ((Below.refl B w).alloc hB _) Try.underlying23 info_byte rfl rfl rfl (one_lit1 _) (by omega) (by omega) (by simp; omega) ?_; intro v3 w3 ho3 hq3 hgr hgo; have hk3 := keeps_app (below_alloc1 w _) hgr hgo; clear hgr hgo; rw [show (#[Value.int .u8 (128 + (k : Int))] : Array Value).toList = [UInt8.ofNat (128 + k)].map encB from congrArg (· :: []) HQ.out, ← List.map_append] at ho3; have HO3 := Lib.hid ho3; have HB3 := Lib.hid hq3; have HK3 := Lib.hid hk3; clear hk3; clear ho3 hq3)
      | (go_at_call 99; refine (rfixK B w3 v3 (xs.length + 1) (xs ++ [UInt8.ofNat (128 + k)]) m k w3 HO3.out (Below.refl _ _) (Nat.le_trans hB HB3.out.size) hk8.2 (by omega)).mono ?_; rintro e w4 ⟨v4, rfl, ho4, hb4, hk4⟩))
    go_ret
    rw [HE.out, ← List.append_assoc]
    exact ⟨_, rfl, ob_of ho4, HB3.out.trans hb4, HK3.out.trans hk4⟩
set_option maxRecDepth 20000 in
theorem rwFK (B : Nat) (w : World) (v : Value) (xs : List UInt8) (f : Nat) (hf : f < 18446744073709551616) (h : OB w B v xs) (hB : B ≤ w.heap.size) (hx : xs.length ≤ 60000000000) :
    Calls Try.prog 62 #[v, .float .f64 f] w (OKPost w B v (xs ++ be 8 (keyN f))) := by
  have hk := keyV_range f hf
  rw [← keyF_eq hf] at hk
  obtain ⟨K, hK⟩ : ∃ K : Nat, keyF f = (K : Int) := ⟨(keyF f).toNat, by omega⟩
  have HN := Lib.hid (show keyN f = K by unfold keyN; rw [hK]; rfl)
  rw [key_same hf] at hK
  have HK := Lib.hid hK
  have HO := Lib.hid h
  have hK64 : K < 18446744073709551616 := by have := HN.out; unfold keyN at this; omega
  clear hK hk h
  go_enter Try.func62, Try.ntmps62
  go_wp2_with (first
    | (go_at_call 100; refine (rkey_any _ _).mono ?_; rintro e w' ⟨rfl, rfl⟩; rw [HK.out])
    | (go_at_call 99; refine (rfixK B w v xs.length xs K 8 w HO.out (Below.refl _ _) hB (by omega) (by omega)).mono ?_; rintro e w4 ⟨v4, rfl, ho4, hb4, hk4⟩))
  go_ret
  rw [HN.out]
  exact ⟨_, rfl, ob_of ho4, hb4, hk4⟩
set_option maxRecDepth 20000 in
theorem rwFlagK (B : Nat) (w : World) (v : Value) (xs : List UInt8) (q : Bool) (h : OB w B v xs) (hB : B ≤ w.heap.size) (hx : xs.length ≤ 60000000000) :
    Calls Try.prog 64 #[v, .bool q] w (OKPost w B v (xs ++ encN (if q = true then 1 else 0))) := by
  have HO := Lib.hid h
  clear h
  cases q with
  | true =>
    go_enter Try.func64, Try.ntmps64
    go_wp2_with (at_builtin; refine wp_app (base := B) (w0 := w) rfl (.tmp 6) (.tmp 7) rfl (HO.out.alloc _) (lit_rc w 5 (0, 0) _ 1 rfl) ((Below.refl B w).alloc hB _) Try.underlying23 info_byte rfl rfl rfl (one_lit1 _) (by omega) (by omega) (by simp; omega) ?_; intro v3 w3 ho3 hq3 hgr hgo; have hk3 := keeps_app (below_alloc1 w _) hgr hgo; clear hgr hgo; rw [show (#[Value.int .u8 1] : Array Value).toList = [(1 : UInt8)].map encB from rfl, ← List.map_append] at ho3)
    go_ret
    exact ⟨_, rfl, ob_of ho3, hq3, hk3⟩
  | false =>
    go_enter Try.func64, Try.ntmps64
    go_wp2_with (at_builtin; refine wp_app (base := B) (w0 := w) rfl (.tmp 9) (.tmp 10) rfl (HO.out.alloc _) (lit_rc w 5 (0, 0) _ 1 rfl) ((Below.refl B w).alloc hB _) Try.underlying23 info_byte rfl rfl rfl (one_lit1 _) (by omega) (by omega) (by simp; omega) ?_; intro v3 w3 ho3 hq3 hgr hgo; have hk3 := keeps_app (below_alloc1 w _) hgr hgo; clear hgr hgo; rw [show (#[Value.int .u8 0] : Array Value).toList = [(0 : UInt8)].map encB from rfl, ← List.map_append] at ho3)
    go_ret
    exact ⟨_, rfl, ob_of ho3, hq3, hk3⟩
set_option maxRecDepth 20000 in
theorem rwBK (B : Nat) (w : World) (v : Value) (xs : List UInt8) (A : Option Addr) (n c : Nat) (bs : List UInt8) (h : OB w B v xs) (hB : B ≤ w.heap.size) (hb : Bs w A n bs) (hA : ∀ ad, A = some ad → bs ≠ [] → v.ownBlock ≠ some ad.block) (hn : n ≤ 60000000000) (hx : xs.length ≤ 60000000000) (hxn : xs.length + n ≤ 60000000000) :
    Calls Try.prog 63 #[v, .slice A n c] w (OKPost w B v (xs ++ (encN n ++ bs))) := by
  have hw64 : IntKind.u64.wrap (n : Int) = (n : Int) := by rw [IntKind.wrap_u64]; omega
  have HN := Lib.hid (rwNK B w v xs n h hB (by omega) hx)
  have HB := Lib.hid hb
  have hbl := hb.len
  clear h hb
  go_enter Try.func63, Try.ntmps63
  go_wp2_with (first
    | (go_at_call 60
       refine HN.out.mono ?_
       rintro e w2 ⟨v2, rfl, ho2, hb2, hk2⟩
       have HO2 := Lib.hid ho2
       have hR : Rc w2 A n (bs.map encB) := ⟨by simpa using hbl, HB.out.2.2.1, fun ad e j u hu => by
         have hne' : bs ≠ [] := by intro e; subst e; simp at hu
         have hc := HB.out.2.2.2 ad e j u hu
         exact hk2.cell hc (by rw [add_block]; exact hA ad e hne')⟩
       have HR := Lib.hid hR
       have HB2 := Lib.hid hb2
       have HK2 := Lib.hid hk2
       have hl2 : (xs ++ encN n).length ≤ xs.length + 9 := by rw [List.length_append]; have := encN_le n; omega
       have HL2 := Lib.hid hl2
       clear ho2 hR hb2 hl2 hk2)
    | (at_builtin; refine wp_app (base := B) (w0 := w2) rfl (.tmp 9) (.tmp 10) rfl HO2.out HR.out (Below.refl B w2) Try.underlying23 info_byte rfl rfl rfl (one_bs _) (by have := HL2.out; omega) (by have := HL2.out; omega) (Nat.le_trans hB HB2.out.size) ?_; intro v3 w3 ho3 hq3 hgr hgo; have hk3 := keeps_app (Below.refl _ _) hgr hgo; clear hgr hgo; rw [← List.map_append] at ho3))
  go_ret
  rw [← List.append_assoc]
  exact ⟨_, rfl, ob_of ho3, HB2.out.trans hq3, HK2.out.trans hk3⟩
end Go.Proofs.Ytnolhnlhohpkpaa
namespace Go.Proofs.Ytnolhnlhohpkpaa
open Go.RowKit Cdc
set_option linter.unusedVariables false
set_option linter.unusedSimpArgs false
attribute [local go_sem] run_store_float
set_option maxRecDepth 20000 in
theorem keeps_ne {a b : World} {u v : Value} {p : Addr} {x : Value} (h : Keeps a u b v) (hc : a.cell? p = some x) (hn : u.ownBlock ≠ some p.block) : v.ownBlock ≠ some p.block := by
  have hlt := World.block_lt_of_cell? a p hc
  exact (h _ _ (Array.getElem?_eq_getElem hlt) hn).2
/-- Bytes of the call's own, in a block that isn't the row's. -/
def DataP (w : World) (v : Value) (b n : Nat) (l : List UInt8) : Prop := Bs w (some ⟨b, 0, none⟩) n l ∧ (∀ ad, (some ⟨b, 0, none⟩ : Option Addr) = some ad → l ≠ [] → v.ownBlock ≠ some ad.block) ∧ b < w.heap.size ∧ v.ownBlock ≠ some b
set_option maxRecDepth 20000 in
theorem keeps_bs {a b : World} {u v : Value} {k n : Nat} {l : List UInt8} (h : Keeps a u b v) (hd : DataP a u k n l) : DataP b v k n l := by
  obtain ⟨h1, h2, h3, h4⟩ := hd
  obtain ⟨g1, g2⟩ := h _ _ (Array.getElem?_eq_getElem h3) h4
  refine ⟨⟨h1.1, h1.2.1, h1.2.2.1, fun ad e j x hx => ?_⟩, fun ad e _ => ?_, blk_lt g1, g2⟩
  · injection e with e
    subst e
    exact h.cell (h1.2.2.2 _ rfl j x hx) (by rw [add_block]; exact h4)
  · injection e with e
    subst e
    exact g2
set_option maxRecDepth 20000 in
theorem data_new {B : Nat} {w w1 : World} {v : Value} {xs l : List UInt8} {n c : Nat} (ho : OB w B v xs) (hb : Bs w1 (some ⟨w.heap.size, 0, none⟩) n l) (hw : Below w.heap.size w w1) (hlt : w.heap.size < w1.heap.size) : DataP w1 v w.heap.size n l := by
  have hne : v.ownBlock ≠ some w.heap.size := fun e => by have := own_lt ho _ e; omega
  exact ⟨hb, fun ad e _ => by injection e with e; subst e; exact hne, hlt, hne⟩
set_option maxHeartbeats 2000000 in
set_option maxRecDepth 20000 in
theorem rput_state (w : World) (A B0 : Option Addr) (n ca m cb : Nat) (ls : List LIST.Ty) (ts : List TASK.Ty) (ha : Rows w anyB LIST A n ls) (hb : Rows w anyB TASK B0 m ts) (hq : LightP ls ts) :
    Calls Try.prog 51 #[.agg #[Value.slice A n ca, Value.slice B0 m cb]] w (fun e w' => ∃ v', e = .returned v' ∧ OB w' (w.heap.size + 1) v' (encState ls ts) ∧ Below w.heap.size w w') := by
  have hla := ha.1
  have hlb := hb.1
  have HL := Lib.hid hq
  have hn25 : n ≤ 25 := by have := hq.1; omega
  have hm70 : m ≤ 70 := by have := hq.2.1; omega
  have h0 := heap_alloc_new w (.cells #[Value.slice A n ca, Value.slice B0 m cb] 59)
  have hw0 := below_alloc1 w (.cells #[Value.slice A n ca, Value.slice B0 m cb] 59)
  have hw64 : IntKind.u64.wrap (n : Int) = (n : Int) := by rw [IntKind.wrap_u64]; omega
  obtain ⟨B, hBe⟩ : ∃ B, w.heap.size + 1 = B := ⟨_, rfl⟩
  rw [hBe]
  obtain ⟨p0, p1⟩ := blk2 h0
  go_enter Try.func51, Try.ntmps51
  obtain ⟨v0, hv0⟩ : ∃ v0, w.alloc (.cells #[Value.slice A n ca, Value.slice B0 m cb] 59) = v0 := ⟨_, rfl⟩
  have hB1 : B ≤ v0.heap.size := by rw [← hv0, ← hBe]; simp
  rw [hv0] at h0 hw0 p0 p1
  have HW0 := Lib.hid hw0
  clear h0 hw0 hq
  go_wp2_with fail
  refine (rwNK B v0 _ [] n (own_nil _ _ _ _) hB1 (by omega) (by decide)).mono ?_
  rintro e v1 ⟨u1, rfl, ho1, hb1, _⟩
  rw [List.nil_append] at ho1
  have HO1 := Lib.hid ho1
  have HB1 := Lib.hid hb1
  have q0 := ((hb1.cell (p := ⟨w.heap.size, 0, none⟩) (show w.heap.size < B by omega)).trans p0)
  have q1 := ((hb1.cell (p := ⟨w.heap.size, 1, none⟩) (show w.heap.size < B by omega)).trans p1)
  have P1 := Lib.hid p1
  clear ho1 hb1 p0 p1
  go_wp2_with fail
  go_loopw [3, 18] (fun s3 s18 wr => ∃ (i : Nat) (v : Value), i ≤ n ∧ v = s3 ∧ s18 = .int .i64 i ∧ OB wr B v (encN n ++ (ls.take i).flatMap encList) ∧ Below B v0 wr) (fun _ s18 _ => n - (intOf s18).toNat)
  case atStart => exact ⟨0, _, by omega, rfl, rfl, by simpa using HO1.out, HB1.out⟩
  case round =>
    obtain ⟨i, v, hi, rfl, rfl, hO, hbel⟩ := hrel
    have HDr := Lib.hid (HW0.out.trans (hbel.mono (by omega)))
    have hBr : B ≤ wr.heap.size := szB hbel hB1
    by_cases hlt : i < n
    · obtain ⟨ad, x, cs, rfl, hx, hat, hrd⟩ := ha.get i hlt
      have i0 : (0 : Int) ≤ (i : Int) := by omega
      have i1' : (i : Int) < (n : Int) := by omega
      have HAt := Lib.hid (hat.below HDr.out)
      obtain ⟨i1, t1, rfl, rfl, hok⟩ := rd_lst hrd
      obtain ⟨⟨oi0, oi1⟩, ot⟩ : (0 ≤ i1 ∧ i1 < 18446744073709551616) ∧ t1.size ≤ 9223372036854775807 := hok
      have hsz : t1.size ≤ 100 := HL.out.2.2.1 _ (List.mem_of_getElem? hx)
      have hfl := flat_le (f := encList) (l := ls.take i) (fun x hx => encList_le (HL.out.2.2.1 x (List.mem_of_mem_take hx)))
      rw [List.length_take, Nat.min_eq_left (by omega)] at hfl
      obtain ⟨i1, rfl⟩ : ∃ k : Nat, i1 = (k : Int) := ⟨i1.toNat, by omega⟩
      have HN := Lib.hid (show encN n ++ (ls.take (i + 1)).flatMap encList = (encN n ++ (ls.take i).flatMap encList) ++ encN i1 ++ (encN t1.size ++ t1.data.toList) by
        rw [take_at hx, flat_snoc]
        simp only [List.append_assoc, encList, encS, Int.toNat_natCast])
      obtain ⟨z0, hz0⟩ : ∃ z, encN n ++ (ls.take i).flatMap encList = z := ⟨_, rfl⟩
      have HLZ := Lib.hid (show z0.length ≤ 3000 by rw [← hz0, List.length_append]; have := encN_le n; omega)
      rw [hz0] at hO HN
      have hbx := heap_alloc_new wr (.cells #[Value.int .u64 i1, Value.string t1] 67)
      have hbw := below_alloc1 wr (.cells #[Value.int .u64 i1, Value.string t1] 67)
      have HOr := Lib.hid (show OB (wr.alloc (.cells #[Value.int .u64 i1, Value.string t1] 67)) B v z0 from own_below hO hbw)
      have HQr := Lib.hid (show v.ownBlock ≠ some wr.heap.size from fun e => by have := own_lt hO _ e; omega)
      have HBr := Lib.hid (hbel.trans (hbw.mono hBr))
      obtain ⟨d0, d1⟩ := blk2 hbx
      clear hbx hbw hO hx hat hrd ha hb hfl hz0 hbel
      go_wp2_with (first | (refine wpL_load rfl 67 _ rfl _ rfl _ _ HAt.out Try.underlying67 rfl rfl ?_))
      refine region_inS (by kernel_rfl) (fun x1 hx1 heq => ?_)
      refine region_sw (fun W => W.cell? ⟨wr.heap.size, 0, none⟩ = some (.int .u64 (i1 : Int)) ∧ W.cell? ⟨wr.heap.size, 1, none⟩ = some (.string t1)) (fun _ _ => trivial) ?_
      have hHeld : (fun W : World => W.cell? ⟨wr.heap.size, 0, none⟩ = some (.int .u64 (i1 : Int)) ∧ W.cell? ⟨wr.heap.size, 1, none⟩ = some (.string t1)) x1 := ⟨cell_below hx1 d0, cell_below hx1 d1⟩
      have HS := Lib.hid hHeld
      have HO := Lib.hid (show OB x1 B v z0 from own_below HOr.out hx1)
      have HQ := HQr
      have HB := Lib.hid (HBr.out.trans (hx1.mono (by simp; omega)))
      clear d0 d1 hx1 heq
      first
        | (refine take_in (i := 0) (v := ?_) rfl (by kernel_rfl) (by kernel_rfl) (by kernel_rfl) (fun _ _ _ h => h) (Or.inl ⟨by rfl, ?_⟩) hHeld ?_; rotate_left; (focus (intro W hSw; go_simp; (try rfl); done)); (try simp only [Act.put, List.setIfInBounds_toArray, List.set_cons_zero, List.set_cons_succ]))
        | (refine take_in (i := 0) (v := undef) rfl (by kernel_rfl) (by kernel_rfl) (by kernel_rfl) (fun _ _ _ h => h) (Or.inr ⟨by rfl, rfl⟩) hHeld ?_; (try simp only [Act.put, List.setIfInBounds_toArray, List.set_cons_zero, List.set_cons_succ]))
        | (fail "STAKE 0")
      first
        | (refine take_in (i := 1) (v := ?_) rfl (by kernel_rfl) (by kernel_rfl) (by kernel_rfl) (fun _ _ _ h => h) (Or.inl ⟨by rfl, ?_⟩) hHeld ?_; rotate_left; (focus (intro W hSw; go_simp; (try rfl); done)); (try simp only [Act.put, List.setIfInBounds_toArray, List.set_cons_zero, List.set_cons_succ]))
        | (refine take_in (i := 1) (v := undef) rfl (by kernel_rfl) (by kernel_rfl) (by kernel_rfl) (fun _ _ _ h => h) (Or.inr ⟨by rfl, rfl⟩) hHeld ?_; (try simp only [Act.put, List.setIfInBounds_toArray, List.set_cons_zero, List.set_cons_succ]))
        | (fail "STAKE 1")
      first
        | (refine take_in (i := 2) (v := ?_) rfl (by kernel_rfl) (by kernel_rfl) (by kernel_rfl) (fun _ _ _ h => h) (Or.inl ⟨by rfl, ?_⟩) hHeld ?_; rotate_left; (focus (intro W hSw; go_simp; (try rfl); done)); (try simp only [Act.put, List.setIfInBounds_toArray, List.set_cons_zero, List.set_cons_succ]))
        | (refine take_in (i := 2) (v := undef) rfl (by kernel_rfl) (by kernel_rfl) (by kernel_rfl) (fun _ _ _ h => h) (Or.inr ⟨by rfl, rfl⟩) hHeld ?_; (try simp only [Act.put, List.setIfInBounds_toArray, List.set_cons_zero, List.set_cons_succ]))
        | (fail "STAKE 2")
      first
        | (refine take_in (i := 4) (v := ?_) rfl (by kernel_rfl) (by kernel_rfl) (by kernel_rfl) (fun _ _ _ h => h) (Or.inl ⟨by rfl, ?_⟩) hHeld ?_; rotate_left; (focus (intro W hSw; go_simp; (try rfl); done)); (try simp only [Act.put, List.setIfInBounds_toArray, List.set_cons_zero, List.set_cons_succ]))
        | (refine take_in (i := 4) (v := undef) rfl (by kernel_rfl) (by kernel_rfl) (by kernel_rfl) (fun _ _ _ h => h) (Or.inr ⟨by rfl, rfl⟩) hHeld ?_; (try simp only [Act.put, List.setIfInBounds_toArray, List.set_cons_zero, List.set_cons_succ]))
        | (fail "STAKE 4")
      first
        | (refine take_in (i := 5) (v := ?_) rfl (by kernel_rfl) (by kernel_rfl) (by kernel_rfl) (fun _ _ _ h => h) (Or.inl ⟨by rfl, ?_⟩) hHeld ?_; rotate_left; (focus (intro W hSw; go_simp; (try rfl); done)); (try simp only [Act.put, List.setIfInBounds_toArray, List.set_cons_zero, List.set_cons_succ]))
        | (refine take_in (i := 5) (v := undef) rfl (by kernel_rfl) (by kernel_rfl) (by kernel_rfl) (fun _ _ _ h => h) (Or.inr ⟨by rfl, rfl⟩) hHeld ?_; (try simp only [Act.put, List.setIfInBounds_toArray, List.set_cons_zero, List.set_cons_succ]))
        | (fail "STAKE 5")
      refine two_in (i := 3) (j := 6) rfl rfl (by kernel_rfl) (fun K hK => ?_) (fun K hK => ?_)
      · go_simp
        refine (rwNK B x1 v (z0) i1 HO.out (szB HB.out hB1) (by omega) (by have := HLZ.out; (try simp only [List.length_append, be_len]);  omega)).mono ?_
        rintro e y1 ⟨u1, rfl, ho1, hb1, hk1⟩
        have HO1 := Lib.hid ho1
        have HB1 := Lib.hid (HB.out.trans hb1)
        have HK1 := Lib.hid hk1
        obtain ⟨c0, c1⟩ := id HS.out
        have hHeld : (fun W : World => W.cell? ⟨wr.heap.size, 0, none⟩ = some (.int .u64 (i1 : Int)) ∧ W.cell? ⟨wr.heap.size, 1, none⟩ = some (.string t1)) y1 := ⟨hk1.cell c0 HQ.out, hk1.cell c1 HQ.out⟩
        have HS1 := Lib.hid hHeld
        have HQ1 := Lib.hid (keeps_ne hk1 c0 HQ.out)
        clear c0 c1 ho1 hb1 hk1
        refine hK.out _ _ hHeld (fun hHeld => ?_)
        (try simp only [Act.put, List.setIfInBounds_toArray, List.set_cons_zero, List.set_cons_succ])
        refine one_in (i := 6) rfl (by kernel_rfl) (fun K hK => ?_)
        rw [if_pos (by kernel_rfl)]
        refine wpo_bytes _ _ _ _ rfl t1 rfl Try.underlying9 Try.underlying23 Try.underlying5 (by omega) ?_
        intro y2 cap hbs2 hw2 hlt2
        have D2 := Lib.hid (data_new (c := cap) HO1.out hbs2 hw2 hlt2)
        have HO2 := Lib.hid (show OB y2 B u1 (z0 ++ encN i1) from own_below HO1.out hw2)
        have HB2 := Lib.hid (HB1.out.trans (hw2.mono (szB HB1.out hB1)))
        obtain ⟨c0, c1⟩ := id HS1.out
        have hHeld : (fun W : World => W.cell? ⟨wr.heap.size, 0, none⟩ = some (.int .u64 (i1 : Int)) ∧ W.cell? ⟨wr.heap.size, 1, none⟩ = some (.string t1)) y2 := ⟨cell_below hw2 c0, cell_below hw2 c1⟩
        have HS2 := Lib.hid hHeld
        clear c0 c1 hbs2 hw2 hlt2
        refine hK.out _ _ hHeld (fun hHeld => ?_)
        (try simp only [Act.put, List.setIfInBounds_toArray, List.set_cons_zero, List.set_cons_succ])
        refine one_in (i := 7) rfl (by kernel_rfl) (fun K hK => ?_)
        go_simp
        refine (rwBK B y2 u1 (z0 ++ encN i1) _ t1.size _ t1.data.toList HO2.out (szB HB2.out hB1) D2.out.1 D2.out.2.1 (by omega) (by have := HLZ.out; (try simp only [List.length_append, be_len]); have := encN_le i1; omega) (by have := HLZ.out; (try simp only [List.length_append, be_len]); have := encN_le i1; omega)).mono ?_
        rintro e y3 ⟨u3, rfl, ho3, hb3, hk3⟩
        have HO3 := Lib.hid ho3
        have HB3 := Lib.hid (HB2.out.trans hb3)
        obtain ⟨c0, c1⟩ := id HS2.out
        have hHeld : (fun W : World => W.cell? ⟨wr.heap.size, 0, none⟩ = some (.int .u64 (i1 : Int)) ∧ W.cell? ⟨wr.heap.size, 1, none⟩ = some (.string t1)) y3 := ⟨hk3.cell c0 HQ1.out, hk3.cell c1 HQ1.out⟩
        have HS3 := Lib.hid hHeld
        have HQ3 := Lib.hid (keeps_ne hk3 c0 HQ1.out)
        clear c0 c1 ho3 hb3 hk3
        refine hK.out _ _ hHeld (fun hHeld => ?_)
        (try simp only [Act.put, List.setIfInBounds_toArray, List.set_cons_zero, List.set_cons_succ])
        first
          | (refine take_in (i := 8) (v := ?_) rfl (by kernel_rfl) (by kernel_rfl) (by kernel_rfl) (fun _ _ _ h => h) (Or.inl ⟨by rfl, ?_⟩) hHeld ?_; rotate_left; (focus (intro W hSw; go_simp; (try rfl); done)); (try simp only [Act.put, List.setIfInBounds_toArray, List.set_cons_zero, List.set_cons_succ]))
          | (refine take_in (i := 8) (v := undef) rfl (by kernel_rfl) (by kernel_rfl) (by kernel_rfl) (fun _ _ _ h => h) (Or.inr ⟨by rfl, rfl⟩) hHeld ?_; (try simp only [Act.put, List.setIfInBounds_toArray, List.set_cons_zero, List.set_cons_succ]))
          | (fail "STAKE 8")
        refine wpAnyH_done (by kernel_rfl) ?_ _
        go_wp2_with fail
        go_roundw
        case measure => simp [intOf]; omega
        case rel => exact ⟨i + 1, _, by omega, rfl, by go_num, by rw [HN.out]; exact HO3.out, HB3.out⟩
      · rw [if_pos (by kernel_rfl)]
        refine wpo_bytes _ _ _ _ rfl t1 rfl Try.underlying9 Try.underlying23 Try.underlying5 (by omega) ?_
        intro y4 cap hbs4 hw4 hlt4
        have D4 := Lib.hid (data_new (c := cap) HO.out hbs4 hw4 hlt4)
        have HO4 := Lib.hid (show OB y4 B v (z0) from own_below HO.out hw4)
        have HB4 := Lib.hid (HB.out.trans (hw4.mono (szB HB.out hB1)))
        obtain ⟨c0, c1⟩ := id HS.out
        have hHeld : (fun W : World => W.cell? ⟨wr.heap.size, 0, none⟩ = some (.int .u64 (i1 : Int)) ∧ W.cell? ⟨wr.heap.size, 1, none⟩ = some (.string t1)) y4 := ⟨cell_below hw4 c0, cell_below hw4 c1⟩
        have HS4 := Lib.hid hHeld
        clear c0 c1 hbs4 hw4 hlt4
        refine hK.out _ _ hHeld (fun hHeld => ?_)
        (try simp only [Act.put, List.setIfInBounds_toArray, List.set_cons_zero, List.set_cons_succ])
        refine one_in (i := 3) rfl (by kernel_rfl) (fun K hK => ?_)
        go_simp
        refine (rwNK B y4 v (z0) i1 HO4.out (szB HB4.out hB1) (by omega) (by have := HLZ.out; (try simp only [List.length_append, be_len]);  omega)).mono ?_
        rintro e y5 ⟨u5, rfl, ho5, hb5, hk5⟩
        have HO5 := Lib.hid ho5
        have HB5 := Lib.hid (HB4.out.trans hb5)
        have HK5 := Lib.hid hk5
        obtain ⟨c0, c1⟩ := id HS4.out
        have hHeld : (fun W : World => W.cell? ⟨wr.heap.size, 0, none⟩ = some (.int .u64 (i1 : Int)) ∧ W.cell? ⟨wr.heap.size, 1, none⟩ = some (.string t1)) y5 := ⟨hk5.cell c0 HQ.out, hk5.cell c1 HQ.out⟩
        have HS5 := Lib.hid hHeld
        have HQ5 := Lib.hid (keeps_ne hk5 c0 HQ.out)
        have D5 := Lib.hid (keeps_bs hk5 D4.out)
        clear c0 c1 ho5 hb5 hk5
        refine hK.out _ _ hHeld (fun hHeld => ?_)
        (try simp only [Act.put, List.setIfInBounds_toArray, List.set_cons_zero, List.set_cons_succ])
        refine one_in (i := 7) rfl (by kernel_rfl) (fun K hK => ?_)
        go_simp
        refine (rwBK B y5 u5 (z0 ++ encN i1) _ t1.size _ t1.data.toList HO5.out (szB HB5.out hB1) D5.out.1 D5.out.2.1 (by omega) (by have := HLZ.out; (try simp only [List.length_append, be_len]); have := encN_le i1; omega) (by have := HLZ.out; (try simp only [List.length_append, be_len]); have := encN_le i1; omega)).mono ?_
        rintro e y6 ⟨u6, rfl, ho6, hb6, hk6⟩
        have HO6 := Lib.hid ho6
        have HB6 := Lib.hid (HB5.out.trans hb6)
        obtain ⟨c0, c1⟩ := id HS5.out
        have hHeld : (fun W : World => W.cell? ⟨wr.heap.size, 0, none⟩ = some (.int .u64 (i1 : Int)) ∧ W.cell? ⟨wr.heap.size, 1, none⟩ = some (.string t1)) y6 := ⟨hk6.cell c0 HQ5.out, hk6.cell c1 HQ5.out⟩
        have HS6 := Lib.hid hHeld
        have HQ6 := Lib.hid (keeps_ne hk6 c0 HQ5.out)
        clear c0 c1 ho6 hb6 hk6
        refine hK.out _ _ hHeld (fun hHeld => ?_)
        (try simp only [Act.put, List.setIfInBounds_toArray, List.set_cons_zero, List.set_cons_succ])
        first
          | (refine take_in (i := 8) (v := ?_) rfl (by kernel_rfl) (by kernel_rfl) (by kernel_rfl) (fun _ _ _ h => h) (Or.inl ⟨by rfl, ?_⟩) hHeld ?_; rotate_left; (focus (intro W hSw; go_simp; (try rfl); done)); (try simp only [Act.put, List.setIfInBounds_toArray, List.set_cons_zero, List.set_cons_succ]))
          | (refine take_in (i := 8) (v := undef) rfl (by kernel_rfl) (by kernel_rfl) (by kernel_rfl) (fun _ _ _ h => h) (Or.inr ⟨by rfl, rfl⟩) hHeld ?_; (try simp only [Act.put, List.setIfInBounds_toArray, List.set_cons_zero, List.set_cons_succ]))
          | (fail "STAKE 8")
        refine wpAnyH_done (by kernel_rfl) ?_ _
        go_wp2_with fail
        go_roundw
        case measure => simp [intOf]; omega
        case rel => exact ⟨i + 1, _, by omega, rfl, by go_num, by rw [HN.out]; exact HO6.out, HB6.out⟩
    · obtain rfl : i = n := by omega
      have q1b := ((hbel.cell (p := ⟨w.heap.size, 1, none⟩) (show w.heap.size < B by omega)).trans P1.out)
      have hw64b : IntKind.u64.wrap (m : Int) = (m : Int) := by rw [IntKind.wrap_u64]; omega
      have hfl := flat_le (f := encList) (l := ls) (fun x hx => encList_le (HL.out.2.2.1 x hx))
      have HZ3 := Lib.hid (show encN i ++ (ls.take i).flatMap encList = encN i ++ ls.flatMap encList by rw [List.take_of_length_le (by omega)])
      rw [HZ3.out] at hO
      obtain ⟨z0, hz0⟩ : ∃ z, encN i ++ ls.flatMap encList = z := ⟨_, rfl⟩
      have HLZ := Lib.hid (show z0.length ≤ 3000 by rw [← hz0, List.length_append]; have := encN_le i; omega)
      rw [hz0] at hO
      have HZs := Lib.hid hz0
      have HO := Lib.hid hO
      have HBr := Lib.hid hbel
      clear hO hbel hfl hz0
      go_wp2_with fail
      refine (rwNK B wr v z0 m HO.out hBr (by omega) (by have := HLZ.out; omega)).mono ?_
      rintro e w2 ⟨u2, rfl, ho2, hb2, _⟩
      have HO2 := Lib.hid ho2
      have HB2 := Lib.hid (HBr.out.trans hb2)
      have HD2 := Lib.hid (HDr.out.trans (hb2.mono (by omega)))
      have hB2 : B ≤ w2.heap.size := szB hb2 hBr
      have q1c := ((hb2.cell (p := ⟨w.heap.size, 1, none⟩) (show w.heap.size < B by omega)).trans q1b)
      have HZ4 := Lib.hid (show z0 ++ encN m = encN i ++ ls.flatMap encList ++ encN m by rw [HZs.out])
      obtain ⟨z1, hz1⟩ : ∃ z, z0 ++ encN m = z := ⟨_, rfl⟩
      rw [hz1] at HO2 HZ4
      have HLZ1 := Lib.hid (show z1.length ≤ 3009 by rw [← hz1, List.length_append]; have := encN_le m; have := HLZ.out; omega)
      clear ho2 hb2 hz1 q1b
      go_wp2_with fail
      go_loopw [3, 40] (fun s3 s40 wz => ∃ (j : Nat) (v : Value), j ≤ m ∧ v = s3 ∧ s40 = .int .i64 j ∧ OB wz B v (z1 ++ (ts.take j).flatMap encTask) ∧ Below B w2 wz) (fun _ s40 _ => m - (intOf s40).toNat)
      case atStart => exact ⟨0, _, by omega, rfl, rfl, by simpa using HO2.out, Below.refl _ _⟩
      case round =>
        obtain ⟨j, v, hj, rfl, rfl, hO, hbel⟩ := hrel
        have HDr := Lib.hid (HD2.out.trans (hbel.mono (by omega)))
        have hBr : B ≤ wr.heap.size := szB hbel hB2
        by_cases hlt : j < m
        · obtain ⟨ad, x, cs, rfl, hx, hat, hrd⟩ := hb.get j hlt
          have i0 : (0 : Int) ≤ (j : Int) := by omega
          have i1' : (j : Int) < (m : Int) := by omega
          have HAt := Lib.hid (hat.below HDr.out)
          obtain ⟨i1, l1, t1, d1, r1, e1, g1, A1, c1', rfl, rfl, hok, hgt⟩ := rd_task hrd
          obtain ⟨⟨oi0, oi1⟩, ⟨ol0, ol1⟩, ot, or1, oe1⟩ : (0 ≤ i1 ∧ i1 < 18446744073709551616) ∧ (0 ≤ l1 ∧ l1 < 18446744073709551616) ∧ t1.size ≤ 9223372036854775807 ∧ r1 < 18446744073709551616 ∧ e1 < 18446744073709551616 := hok
          have hst : SmallT (i1, l1, t1, d1, r1, e1, g1, ()) := HL.out.2.2.2 _ (List.mem_of_getElem? hx)
          have hsz : t1.size ≤ 100 := hst.1
          have hgl : g1.length ≤ 8 := hst.2.1
          have HST := Lib.hid hst
          have HGT := Lib.hid (rd_rows hgt)
          have hfl := flat_le (f := encTask) (l := ts.take j) (fun x hx => encTask_le (HL.out.2.2.2 x (List.mem_of_mem_take hx)))
          rw [List.length_take, Nat.min_eq_left (by omega)] at hfl
          obtain ⟨i1, rfl⟩ : ∃ k : Nat, i1 = (k : Int) := ⟨i1.toNat, by omega⟩
          obtain ⟨l1, rfl⟩ : ∃ k : Nat, l1 = (k : Int) := ⟨l1.toNat, by omega⟩
          have HN := Lib.hid (show z1 ++ (ts.take (j + 1)).flatMap encTask = (z1 ++ (ts.take j).flatMap encTask) ++ encTask ((i1 : Int), (l1 : Int), t1, d1, r1, e1, g1, ()) by rw [take_at hx, flat_snoc, List.append_assoc])
          obtain ⟨z0, hz0⟩ : ∃ z, z1 ++ (ts.take j).flatMap encTask = z := ⟨_, rfl⟩
          have HLZ := Lib.hid (show z0.length ≤ 100000 by rw [← hz0, List.length_append]; have := HLZ1.out; omega)
          rw [hz0] at hO HN
          have hbx := heap_alloc_new wr (.cells #[Value.int .u64 (i1 : Int), Value.int .u64 (l1 : Int), Value.string t1, Value.bool d1, Value.float .f64 r1, Value.float .f64 e1, Value.slice A1 g1.length c1'] 63)
          have hbw := below_alloc1 wr (.cells #[Value.int .u64 (i1 : Int), Value.int .u64 (l1 : Int), Value.string t1, Value.bool d1, Value.float .f64 r1, Value.float .f64 e1, Value.slice A1 g1.length c1'] 63)
          have HOr := Lib.hid (show OB (wr.alloc (.cells #[Value.int .u64 (i1 : Int), Value.int .u64 (l1 : Int), Value.string t1, Value.bool d1, Value.float .f64 r1, Value.float .f64 e1, Value.slice A1 g1.length c1'] 63)) B v z0 from own_below hO hbw)
          have HQr := Lib.hid (show v.ownBlock ≠ some wr.heap.size from fun e => by have := own_lt hO _ e; omega)
          have HBr := Lib.hid (hbel.trans (hbw.mono hBr))
          have HX := Lib.hid hbx
          obtain ⟨bx, hbxe⟩ : ∃ b, wr.heap.size = b := ⟨_, rfl⟩
          clear hbx hbw hO hx hat hrd ha hb hfl hz0 hbel hgt hst
          go_wp2_with (first | (refine wpL_load rfl 63 _ rfl _ rfl _ _ HAt.out Try.underlying63 rfl rfl ?_))
          rw [hbxe] at HQr HX
          clear hbxe
          have C0 : ∀ W : World, W.heap[bx]? = some (.cells #[Value.int .u64 (i1 : Int), Value.int .u64 (l1 : Int), Value.string t1, Value.bool d1, Value.float .f64 r1, Value.float .f64 e1, Value.slice A1 g1.length c1'] 63 (0, 0)) → W.cell? ⟨bx, 0, none⟩ = some (.int .u64 (i1 : Int)) := fun W h => blk_at h 0 _ rfl
          have C1 : ∀ W : World, W.heap[bx]? = some (.cells #[Value.int .u64 (i1 : Int), Value.int .u64 (l1 : Int), Value.string t1, Value.bool d1, Value.float .f64 r1, Value.float .f64 e1, Value.slice A1 g1.length c1'] 63 (0, 0)) → W.cell? ⟨bx, 1, none⟩ = some (.int .u64 (l1 : Int)) := fun W h => blk_at h 1 _ rfl
          have C2 : ∀ W : World, W.heap[bx]? = some (.cells #[Value.int .u64 (i1 : Int), Value.int .u64 (l1 : Int), Value.string t1, Value.bool d1, Value.float .f64 r1, Value.float .f64 e1, Value.slice A1 g1.length c1'] 63 (0, 0)) → W.cell? ⟨bx, 2, none⟩ = some (.string t1) := fun W h => blk_at h 2 _ rfl
          have C3 : ∀ W : World, W.heap[bx]? = some (.cells #[Value.int .u64 (i1 : Int), Value.int .u64 (l1 : Int), Value.string t1, Value.bool d1, Value.float .f64 r1, Value.float .f64 e1, Value.slice A1 g1.length c1'] 63 (0, 0)) → W.cell? ⟨bx, 3, none⟩ = some (.bool d1) := fun W h => blk_at h 3 _ rfl
          have C4 : ∀ W : World, W.heap[bx]? = some (.cells #[Value.int .u64 (i1 : Int), Value.int .u64 (l1 : Int), Value.string t1, Value.bool d1, Value.float .f64 r1, Value.float .f64 e1, Value.slice A1 g1.length c1'] 63 (0, 0)) → W.cell? ⟨bx, 4, none⟩ = some (.float .f64 r1) := fun W h => blk_at h 4 _ rfl
          have C5 : ∀ W : World, W.heap[bx]? = some (.cells #[Value.int .u64 (i1 : Int), Value.int .u64 (l1 : Int), Value.string t1, Value.bool d1, Value.float .f64 r1, Value.float .f64 e1, Value.slice A1 g1.length c1'] 63 (0, 0)) → W.cell? ⟨bx, 5, none⟩ = some (.float .f64 e1) := fun W h => blk_at h 5 _ rfl
          go_cut [3, 40] from 40 to 83 (fun s3 s40 wx => ∃ u, u = s3 ∧ s40 = .int .i64 j ∧ OB wx B u (z0 ++ encN i1 ++ encN l1 ++ (encN t1.size ++ t1.data.toList)) ∧ wx.heap[bx]? = some (.cells #[Value.int .u64 (i1 : Int), Value.int .u64 (l1 : Int), Value.string t1, Value.bool d1, Value.float .f64 r1, Value.float .f64 e1, Value.slice A1 g1.length c1'] 63 (0, 0)) ∧ u.ownBlock ≠ some bx ∧ Below B w2 wx)
          case first =>
            refine region_inS (by kernel_rfl) (fun x1 hx1 heq => ?_)
            refine region_sw (fun W => W.heap[bx]? = some (.cells #[Value.int .u64 (i1 : Int), Value.int .u64 (l1 : Int), Value.string t1, Value.bool d1, Value.float .f64 r1, Value.float .f64 e1, Value.slice A1 g1.length c1'] 63 (0, 0))) (fun _ _ => trivial) ?_
            have hHeld : (fun W : World => W.heap[bx]? = some (.cells #[Value.int .u64 (i1 : Int), Value.int .u64 (l1 : Int), Value.string t1, Value.bool d1, Value.float .f64 r1, Value.float .f64 e1, Value.slice A1 g1.length c1'] 63 (0, 0))) x1 := blk_below HX.out hx1 (blk_lt HX.out)
            have HS := Lib.hid hHeld
            have HO := Lib.hid (show OB x1 B v z0 from own_below HOr.out hx1)
            have HQ := HQr
            have HB := Lib.hid (HBr.out.trans (hx1.mono (by simp; omega)))
            have hB1 := hB2
            clear hx1 heq
            first
              | (refine take_in (i := 0) (v := ?_) rfl (by kernel_rfl) (by kernel_rfl) (by kernel_rfl) (fun _ _ _ h => h) (Or.inl ⟨by rfl, ?_⟩) hHeld ?_; rotate_left; (focus (intro W hSw; go_simp; (try rfl); done)); (try simp only [Act.put, List.setIfInBounds_toArray, List.set_cons_zero, List.set_cons_succ]))
              | (refine take_in (i := 0) (v := undef) rfl (by kernel_rfl) (by kernel_rfl) (by kernel_rfl) (fun _ _ _ h => h) (Or.inr ⟨by rfl, rfl⟩) hHeld ?_; (try simp only [Act.put, List.setIfInBounds_toArray, List.set_cons_zero, List.set_cons_succ]))
              | (fail "STAKE 0")
            first
              | (refine take_in (i := 1) (v := ?_) rfl (by kernel_rfl) (by kernel_rfl) (by kernel_rfl) (fun _ _ _ h => h) (Or.inl ⟨by rfl, ?_⟩) hHeld ?_; rotate_left; (focus (intro W hSw; go_simp; (try rfl); done)); (try simp only [Act.put, List.setIfInBounds_toArray, List.set_cons_zero, List.set_cons_succ]))
              | (refine take_in (i := 1) (v := undef) rfl (by kernel_rfl) (by kernel_rfl) (by kernel_rfl) (fun _ _ _ h => h) (Or.inr ⟨by rfl, rfl⟩) hHeld ?_; (try simp only [Act.put, List.setIfInBounds_toArray, List.set_cons_zero, List.set_cons_succ]))
              | (fail "STAKE 1")
            first
              | (refine take_in (i := 2) (v := ?_) rfl (by kernel_rfl) (by kernel_rfl) (by kernel_rfl) (fun _ _ _ h => h) (Or.inl ⟨by rfl, ?_⟩) hHeld ?_; rotate_left; (focus (intro W hSw; have C0 := C0 W hSw; go_simp; (try rfl); done)); (try simp only [Act.put, List.setIfInBounds_toArray, List.set_cons_zero, List.set_cons_succ]))
              | (refine take_in (i := 2) (v := undef) rfl (by kernel_rfl) (by kernel_rfl) (by kernel_rfl) (fun _ _ _ h => h) (Or.inr ⟨by rfl, rfl⟩) hHeld ?_; (try simp only [Act.put, List.setIfInBounds_toArray, List.set_cons_zero, List.set_cons_succ]))
              | (fail "STAKE 2")
            first
              | (refine take_in (i := 4) (v := ?_) rfl (by kernel_rfl) (by kernel_rfl) (by kernel_rfl) (fun _ _ _ h => h) (Or.inl ⟨by rfl, ?_⟩) hHeld ?_; rotate_left; (focus (intro W hSw; go_simp; (try rfl); done)); (try simp only [Act.put, List.setIfInBounds_toArray, List.set_cons_zero, List.set_cons_succ]))
              | (refine take_in (i := 4) (v := undef) rfl (by kernel_rfl) (by kernel_rfl) (by kernel_rfl) (fun _ _ _ h => h) (Or.inr ⟨by rfl, rfl⟩) hHeld ?_; (try simp only [Act.put, List.setIfInBounds_toArray, List.set_cons_zero, List.set_cons_succ]))
              | (fail "STAKE 4")
            first
              | (refine take_in (i := 5) (v := ?_) rfl (by kernel_rfl) (by kernel_rfl) (by kernel_rfl) (fun _ _ _ h => h) (Or.inl ⟨by rfl, ?_⟩) hHeld ?_; rotate_left; (focus (intro W hSw; have C1 := C1 W hSw; go_simp; (try rfl); done)); (try simp only [Act.put, List.setIfInBounds_toArray, List.set_cons_zero, List.set_cons_succ]))
              | (refine take_in (i := 5) (v := undef) rfl (by kernel_rfl) (by kernel_rfl) (by kernel_rfl) (fun _ _ _ h => h) (Or.inr ⟨by rfl, rfl⟩) hHeld ?_; (try simp only [Act.put, List.setIfInBounds_toArray, List.set_cons_zero, List.set_cons_succ]))
              | (fail "STAKE 5")
            first
              | (refine take_in (i := 7) (v := ?_) rfl (by kernel_rfl) (by kernel_rfl) (by kernel_rfl) (fun _ _ _ h => h) (Or.inl ⟨by rfl, ?_⟩) hHeld ?_; rotate_left; (focus (intro W hSw; go_simp; (try rfl); done)); (try simp only [Act.put, List.setIfInBounds_toArray, List.set_cons_zero, List.set_cons_succ]))
              | (refine take_in (i := 7) (v := undef) rfl (by kernel_rfl) (by kernel_rfl) (by kernel_rfl) (fun _ _ _ h => h) (Or.inr ⟨by rfl, rfl⟩) hHeld ?_; (try simp only [Act.put, List.setIfInBounds_toArray, List.set_cons_zero, List.set_cons_succ]))
              | (fail "STAKE 7")
            first
              | (refine take_in (i := 8) (v := ?_) rfl (by kernel_rfl) (by kernel_rfl) (by kernel_rfl) (fun _ _ _ h => h) (Or.inl ⟨by rfl, ?_⟩) hHeld ?_; rotate_left; (focus (intro W hSw; have C2 := C2 W hSw; go_simp; (try rfl); done)); (try simp only [Act.put, List.setIfInBounds_toArray, List.set_cons_zero, List.set_cons_succ]))
              | (refine take_in (i := 8) (v := undef) rfl (by kernel_rfl) (by kernel_rfl) (by kernel_rfl) (fun _ _ _ h => h) (Or.inr ⟨by rfl, rfl⟩) hHeld ?_; (try simp only [Act.put, List.setIfInBounds_toArray, List.set_cons_zero, List.set_cons_succ]))
              | (fail "STAKE 8")
            refine two_in (i := 3) (j := 9) rfl rfl (by kernel_rfl) (fun K hK => ?_) (fun K hK => ?_)
            · go_simp
              refine (rwNK B x1 v (z0) i1 HO.out (szB HB.out hB1) (by omega) (by have := HLZ.out; (try simp only [List.length_append, be_len]);  omega)).mono ?_
              rintro e y1 ⟨u1, rfl, ho1, hb1, hk1⟩
              have HO1 := Lib.hid ho1
              have HB1 := Lib.hid (HB.out.trans hb1)
              have HK1 := Lib.hid hk1
              have c0 := HS.out
              have hHeld : (fun W : World => W.heap[bx]? = some (.cells #[Value.int .u64 (i1 : Int), Value.int .u64 (l1 : Int), Value.string t1, Value.bool d1, Value.float .f64 r1, Value.float .f64 e1, Value.slice A1 g1.length c1'] 63 (0, 0))) y1 := (hk1 _ _ c0 HQ.out).1
              have HS1 := Lib.hid hHeld
              have HQ1 := Lib.hid (hk1 _ _ c0 HQ.out).2
              clear c0 ho1 hb1 hk1
              refine hK.out _ _ hHeld (fun hHeld => ?_)
              (try simp only [Act.put, List.setIfInBounds_toArray, List.set_cons_zero, List.set_cons_succ])
              refine two_in (i := 6) (j := 9) rfl rfl (by kernel_rfl) (fun K hK => ?_) (fun K hK => ?_)
              · go_simp
                refine (rwNK B y1 u1 (z0 ++ encN i1) l1 HO1.out (szB HB1.out hB1) (by omega) (by have := HLZ.out; (try simp only [List.length_append, be_len]); have := encN_le i1; omega)).mono ?_
                rintro e y2 ⟨u2, rfl, ho2, hb2, hk2⟩
                have HO2 := Lib.hid ho2
                have HB2 := Lib.hid (HB1.out.trans hb2)
                have HK2 := Lib.hid hk2
                have c0 := HS1.out
                have hHeld : (fun W : World => W.heap[bx]? = some (.cells #[Value.int .u64 (i1 : Int), Value.int .u64 (l1 : Int), Value.string t1, Value.bool d1, Value.float .f64 r1, Value.float .f64 e1, Value.slice A1 g1.length c1'] 63 (0, 0))) y2 := (hk2 _ _ c0 HQ1.out).1
                have HS2 := Lib.hid hHeld
                have HQ2 := Lib.hid (hk2 _ _ c0 HQ1.out).2
                clear c0 ho2 hb2 hk2
                refine hK.out _ _ hHeld (fun hHeld => ?_)
                (try simp only [Act.put, List.setIfInBounds_toArray, List.set_cons_zero, List.set_cons_succ])
                refine one_in (i := 9) rfl (by kernel_rfl) (fun K hK => ?_)
                rw [if_pos (by kernel_rfl)]
                refine wpo_bytes _ _ _ _ rfl t1 rfl Try.underlying9 Try.underlying23 Try.underlying5 (by omega) ?_
                intro y3 cap hbs3 hw3 hlt3
                have D3 := Lib.hid (data_new (c := cap) HO2.out hbs3 hw3 hlt3)
                have HO3 := Lib.hid (show OB y3 B u2 (z0 ++ encN i1 ++ encN l1) from own_below HO2.out hw3)
                have HB3 := Lib.hid (HB2.out.trans (hw3.mono (szB HB2.out hB1)))
                have c0 := HS2.out
                have hHeld : (fun W : World => W.heap[bx]? = some (.cells #[Value.int .u64 (i1 : Int), Value.int .u64 (l1 : Int), Value.string t1, Value.bool d1, Value.float .f64 r1, Value.float .f64 e1, Value.slice A1 g1.length c1'] 63 (0, 0))) y3 := blk_below c0 hw3 (blk_lt c0)
                have HS3 := Lib.hid hHeld
                clear c0 hbs3 hw3 hlt3
                refine hK.out _ _ hHeld (fun hHeld => ?_)
                (try simp only [Act.put, List.setIfInBounds_toArray, List.set_cons_zero, List.set_cons_succ])
                refine one_in (i := 10) rfl (by kernel_rfl) (fun K hK => ?_)
                go_simp
                refine (rwBK B y3 u2 (z0 ++ encN i1 ++ encN l1) _ t1.size _ t1.data.toList HO3.out (szB HB3.out hB1) D3.out.1 D3.out.2.1 (by omega) (by have := HLZ.out; (try simp only [List.length_append, be_len]); have := encN_le i1; have := encN_le l1; omega) (by have := HLZ.out; (try simp only [List.length_append, be_len]); have := encN_le i1; have := encN_le l1; omega)).mono ?_
                rintro e y4 ⟨u4, rfl, ho4, hb4, hk4⟩
                have HO4 := Lib.hid ho4
                have HB4 := Lib.hid (HB3.out.trans hb4)
                have c0 := HS3.out
                have hHeld : (fun W : World => W.heap[bx]? = some (.cells #[Value.int .u64 (i1 : Int), Value.int .u64 (l1 : Int), Value.string t1, Value.bool d1, Value.float .f64 r1, Value.float .f64 e1, Value.slice A1 g1.length c1'] 63 (0, 0))) y4 := (hk4 _ _ c0 HQ2.out).1
                have HS4 := Lib.hid hHeld
                have HQ4 := Lib.hid (hk4 _ _ c0 HQ2.out).2
                clear c0 ho4 hb4 hk4
                refine hK.out _ _ hHeld (fun hHeld => ?_)
                (try simp only [Act.put, List.setIfInBounds_toArray, List.set_cons_zero, List.set_cons_succ])
                first
                  | (refine take_in (i := 11) (v := ?_) rfl (by kernel_rfl) (by kernel_rfl) (by kernel_rfl) (fun _ _ _ h => h) (Or.inl ⟨by rfl, ?_⟩) hHeld ?_; rotate_left; (focus (intro W hSw; go_simp; (try rfl); done)); (try simp only [Act.put, List.setIfInBounds_toArray, List.set_cons_zero, List.set_cons_succ]))
                  | (refine take_in (i := 11) (v := undef) rfl (by kernel_rfl) (by kernel_rfl) (by kernel_rfl) (fun _ _ _ h => h) (Or.inr ⟨by rfl, rfl⟩) hHeld ?_; (try simp only [Act.put, List.setIfInBounds_toArray, List.set_cons_zero, List.set_cons_succ]))
                  | (fail "STAKE 11")
                refine wpAnyH_done (by kernel_rfl) ?_ _
                go_wp2_with fail
                go_meet
                exact ⟨_, rfl, rfl, HO4.out, HS4.out, HQ4.out, HB4.out⟩
              · rw [if_pos (by kernel_rfl)]
                refine wpo_bytes _ _ _ _ rfl t1 rfl Try.underlying9 Try.underlying23 Try.underlying5 (by omega) ?_
                intro y5 cap hbs5 hw5 hlt5
                have D5 := Lib.hid (data_new (c := cap) HO1.out hbs5 hw5 hlt5)
                have HO5 := Lib.hid (show OB y5 B u1 (z0 ++ encN i1) from own_below HO1.out hw5)
                have HB5 := Lib.hid (HB1.out.trans (hw5.mono (szB HB1.out hB1)))
                have c0 := HS1.out
                have hHeld : (fun W : World => W.heap[bx]? = some (.cells #[Value.int .u64 (i1 : Int), Value.int .u64 (l1 : Int), Value.string t1, Value.bool d1, Value.float .f64 r1, Value.float .f64 e1, Value.slice A1 g1.length c1'] 63 (0, 0))) y5 := blk_below c0 hw5 (blk_lt c0)
                have HS5 := Lib.hid hHeld
                clear c0 hbs5 hw5 hlt5
                refine hK.out _ _ hHeld (fun hHeld => ?_)
                (try simp only [Act.put, List.setIfInBounds_toArray, List.set_cons_zero, List.set_cons_succ])
                refine one_in (i := 6) rfl (by kernel_rfl) (fun K hK => ?_)
                go_simp
                refine (rwNK B y5 u1 (z0 ++ encN i1) l1 HO5.out (szB HB5.out hB1) (by omega) (by have := HLZ.out; (try simp only [List.length_append, be_len]); have := encN_le i1; omega)).mono ?_
                rintro e y6 ⟨u6, rfl, ho6, hb6, hk6⟩
                have HO6 := Lib.hid ho6
                have HB6 := Lib.hid (HB5.out.trans hb6)
                have HK6 := Lib.hid hk6
                have c0 := HS5.out
                have hHeld : (fun W : World => W.heap[bx]? = some (.cells #[Value.int .u64 (i1 : Int), Value.int .u64 (l1 : Int), Value.string t1, Value.bool d1, Value.float .f64 r1, Value.float .f64 e1, Value.slice A1 g1.length c1'] 63 (0, 0))) y6 := (hk6 _ _ c0 HQ1.out).1
                have HS6 := Lib.hid hHeld
                have HQ6 := Lib.hid (hk6 _ _ c0 HQ1.out).2
                have D6 := Lib.hid (keeps_bs hk6 D5.out)
                clear c0 ho6 hb6 hk6
                refine hK.out _ _ hHeld (fun hHeld => ?_)
                (try simp only [Act.put, List.setIfInBounds_toArray, List.set_cons_zero, List.set_cons_succ])
                refine one_in (i := 10) rfl (by kernel_rfl) (fun K hK => ?_)
                go_simp
                refine (rwBK B y6 u6 (z0 ++ encN i1 ++ encN l1) _ t1.size _ t1.data.toList HO6.out (szB HB6.out hB1) D6.out.1 D6.out.2.1 (by omega) (by have := HLZ.out; (try simp only [List.length_append, be_len]); have := encN_le i1; have := encN_le l1; omega) (by have := HLZ.out; (try simp only [List.length_append, be_len]); have := encN_le i1; have := encN_le l1; omega)).mono ?_
                rintro e y7 ⟨u7, rfl, ho7, hb7, hk7⟩
                have HO7 := Lib.hid ho7
                have HB7 := Lib.hid (HB6.out.trans hb7)
                have c0 := HS6.out
                have hHeld : (fun W : World => W.heap[bx]? = some (.cells #[Value.int .u64 (i1 : Int), Value.int .u64 (l1 : Int), Value.string t1, Value.bool d1, Value.float .f64 r1, Value.float .f64 e1, Value.slice A1 g1.length c1'] 63 (0, 0))) y7 := (hk7 _ _ c0 HQ6.out).1
                have HS7 := Lib.hid hHeld
                have HQ7 := Lib.hid (hk7 _ _ c0 HQ6.out).2
                clear c0 ho7 hb7 hk7
                refine hK.out _ _ hHeld (fun hHeld => ?_)
                (try simp only [Act.put, List.setIfInBounds_toArray, List.set_cons_zero, List.set_cons_succ])
                first
                  | (refine take_in (i := 11) (v := ?_) rfl (by kernel_rfl) (by kernel_rfl) (by kernel_rfl) (fun _ _ _ h => h) (Or.inl ⟨by rfl, ?_⟩) hHeld ?_; rotate_left; (focus (intro W hSw; go_simp; (try rfl); done)); (try simp only [Act.put, List.setIfInBounds_toArray, List.set_cons_zero, List.set_cons_succ]))
                  | (refine take_in (i := 11) (v := undef) rfl (by kernel_rfl) (by kernel_rfl) (by kernel_rfl) (fun _ _ _ h => h) (Or.inr ⟨by rfl, rfl⟩) hHeld ?_; (try simp only [Act.put, List.setIfInBounds_toArray, List.set_cons_zero, List.set_cons_succ]))
                  | (fail "STAKE 11")
                refine wpAnyH_done (by kernel_rfl) ?_ _
                go_wp2_with fail
                go_meet
                exact ⟨_, rfl, rfl, HO7.out, HS7.out, HQ7.out, HB7.out⟩
            · rw [if_pos (by kernel_rfl)]
              refine wpo_bytes _ _ _ _ rfl t1 rfl Try.underlying9 Try.underlying23 Try.underlying5 (by omega) ?_
              intro y8 cap hbs8 hw8 hlt8
              have D8 := Lib.hid (data_new (c := cap) HO.out hbs8 hw8 hlt8)
              have HO8 := Lib.hid (show OB y8 B v (z0) from own_below HO.out hw8)
              have HB8 := Lib.hid (HB.out.trans (hw8.mono (szB HB.out hB1)))
              have c0 := HS.out
              have hHeld : (fun W : World => W.heap[bx]? = some (.cells #[Value.int .u64 (i1 : Int), Value.int .u64 (l1 : Int), Value.string t1, Value.bool d1, Value.float .f64 r1, Value.float .f64 e1, Value.slice A1 g1.length c1'] 63 (0, 0))) y8 := blk_below c0 hw8 (blk_lt c0)
              have HS8 := Lib.hid hHeld
              clear c0 hbs8 hw8 hlt8
              refine hK.out _ _ hHeld (fun hHeld => ?_)
              (try simp only [Act.put, List.setIfInBounds_toArray, List.set_cons_zero, List.set_cons_succ])
              refine one_in (i := 3) rfl (by kernel_rfl) (fun K hK => ?_)
              go_simp
              refine (rwNK B y8 v (z0) i1 HO8.out (szB HB8.out hB1) (by omega) (by have := HLZ.out; (try simp only [List.length_append, be_len]);  omega)).mono ?_
              rintro e y9 ⟨u9, rfl, ho9, hb9, hk9⟩
              have HO9 := Lib.hid ho9
              have HB9 := Lib.hid (HB8.out.trans hb9)
              have HK9 := Lib.hid hk9
              have c0 := HS8.out
              have hHeld : (fun W : World => W.heap[bx]? = some (.cells #[Value.int .u64 (i1 : Int), Value.int .u64 (l1 : Int), Value.string t1, Value.bool d1, Value.float .f64 r1, Value.float .f64 e1, Value.slice A1 g1.length c1'] 63 (0, 0))) y9 := (hk9 _ _ c0 HQ.out).1
              have HS9 := Lib.hid hHeld
              have HQ9 := Lib.hid (hk9 _ _ c0 HQ.out).2
              have D9 := Lib.hid (keeps_bs hk9 D8.out)
              clear c0 ho9 hb9 hk9
              refine hK.out _ _ hHeld (fun hHeld => ?_)
              (try simp only [Act.put, List.setIfInBounds_toArray, List.set_cons_zero, List.set_cons_succ])
              refine one_in (i := 6) rfl (by kernel_rfl) (fun K hK => ?_)
              go_simp
              refine (rwNK B y9 u9 (z0 ++ encN i1) l1 HO9.out (szB HB9.out hB1) (by omega) (by have := HLZ.out; (try simp only [List.length_append, be_len]); have := encN_le i1; omega)).mono ?_
              rintro e y10 ⟨u10, rfl, ho10, hb10, hk10⟩
              have HO10 := Lib.hid ho10
              have HB10 := Lib.hid (HB9.out.trans hb10)
              have HK10 := Lib.hid hk10
              have c0 := HS9.out
              have hHeld : (fun W : World => W.heap[bx]? = some (.cells #[Value.int .u64 (i1 : Int), Value.int .u64 (l1 : Int), Value.string t1, Value.bool d1, Value.float .f64 r1, Value.float .f64 e1, Value.slice A1 g1.length c1'] 63 (0, 0))) y10 := (hk10 _ _ c0 HQ9.out).1
              have HS10 := Lib.hid hHeld
              have HQ10 := Lib.hid (hk10 _ _ c0 HQ9.out).2
              have D10 := Lib.hid (keeps_bs hk10 D9.out)
              clear c0 ho10 hb10 hk10
              refine hK.out _ _ hHeld (fun hHeld => ?_)
              (try simp only [Act.put, List.setIfInBounds_toArray, List.set_cons_zero, List.set_cons_succ])
              refine one_in (i := 10) rfl (by kernel_rfl) (fun K hK => ?_)
              go_simp
              refine (rwBK B y10 u10 (z0 ++ encN i1 ++ encN l1) _ t1.size _ t1.data.toList HO10.out (szB HB10.out hB1) D10.out.1 D10.out.2.1 (by omega) (by have := HLZ.out; (try simp only [List.length_append, be_len]); have := encN_le i1; have := encN_le l1; omega) (by have := HLZ.out; (try simp only [List.length_append, be_len]); have := encN_le i1; have := encN_le l1; omega)).mono ?_
              rintro e y11 ⟨u11, rfl, ho11, hb11, hk11⟩
              have HO11 := Lib.hid ho11
              have HB11 := Lib.hid (HB10.out.trans hb11)
              have c0 := HS10.out
              have hHeld : (fun W : World => W.heap[bx]? = some (.cells #[Value.int .u64 (i1 : Int), Value.int .u64 (l1 : Int), Value.string t1, Value.bool d1, Value.float .f64 r1, Value.float .f64 e1, Value.slice A1 g1.length c1'] 63 (0, 0))) y11 := (hk11 _ _ c0 HQ10.out).1
              have HS11 := Lib.hid hHeld
              have HQ11 := Lib.hid (hk11 _ _ c0 HQ10.out).2
              clear c0 ho11 hb11 hk11
              refine hK.out _ _ hHeld (fun hHeld => ?_)
              (try simp only [Act.put, List.setIfInBounds_toArray, List.set_cons_zero, List.set_cons_succ])
              first
                | (refine take_in (i := 11) (v := ?_) rfl (by kernel_rfl) (by kernel_rfl) (by kernel_rfl) (fun _ _ _ h => h) (Or.inl ⟨by rfl, ?_⟩) hHeld ?_; rotate_left; (focus (intro W hSw; go_simp; (try rfl); done)); (try simp only [Act.put, List.setIfInBounds_toArray, List.set_cons_zero, List.set_cons_succ]))
                | (refine take_in (i := 11) (v := undef) rfl (by kernel_rfl) (by kernel_rfl) (by kernel_rfl) (fun _ _ _ h => h) (Or.inr ⟨by rfl, rfl⟩) hHeld ?_; (try simp only [Act.put, List.setIfInBounds_toArray, List.set_cons_zero, List.set_cons_succ]))
                | (fail "STAKE 11")
              refine wpAnyH_done (by kernel_rfl) ?_ _
              go_wp2_with fail
              go_meet
              exact ⟨_, rfl, rfl, HO11.out, HS11.out, HQ11.out, HB11.out⟩
          case rest =>
            obtain ⟨u, rfl, rfl, hO3, hX3, hQ3, hB3⟩ := hcut
            obtain ⟨z2, hz2⟩ : ∃ z, z0 ++ encN i1 ++ encN l1 ++ (encN t1.size ++ t1.data.toList) = z := ⟨_, rfl⟩
            have HLZ := Lib.hid (show z2.length ≤ 100200 by
              rw [← hz2]
              simp only [List.length_append]
              have htl : t1.data.toList.length = t1.size := rfl
              have := HLZ.out; have := encN_le i1; have := encN_le l1; have := encN_le t1.size; omega)
            have HZ2 := Lib.hid hz2
            rw [hz2] at hO3
            have HO3 := Lib.hid hO3
            have HX3 := Lib.hid hX3
            have HQ := Lib.hid hQ3
            have HB3 := Lib.hid hB3
            have hB1 := hB2
            have C6 : ∀ W : World, W.heap[bx]? = some (.cells #[Value.int .u64 (i1 : Int), Value.int .u64 (l1 : Int), Value.string t1, Value.bool d1, Value.float .f64 r1, Value.float .f64 e1, Value.slice A1 g1.length c1'] 63 (0, 0)) → W.cell? ⟨bx, 6, none⟩ = some (.slice A1 g1.length c1') := fun W h => blk_at h 6 _ rfl
            clear hO3 hX3 hQ3 hB3 hz2
            go_wp2_with fail
            refine region_inS (by kernel_rfl) (fun x1 hx1 heq => ?_)
            refine region_sw (fun W : World => W.heap[bx]? = some (.cells #[Value.int .u64 (i1 : Int), Value.int .u64 (l1 : Int), Value.string t1, Value.bool d1, Value.float .f64 r1, Value.float .f64 e1, Value.slice A1 g1.length c1'] 63 (0, 0))) (fun _ _ => trivial) ?_
            have hHeld : (fun W : World => W.heap[bx]? = some (.cells #[Value.int .u64 (i1 : Int), Value.int .u64 (l1 : Int), Value.string t1, Value.bool d1, Value.float .f64 r1, Value.float .f64 e1, Value.slice A1 g1.length c1'] 63 (0, 0))) x1 := blk_below HX3.out hx1 (blk_lt HX3.out)
            have HS := Lib.hid hHeld
            have HO := Lib.hid (show OB x1 B u z2 from own_below HO3.out hx1)
            have HB := Lib.hid (HB3.out.trans (hx1.mono (szB HB3.out hB2)))
            clear hx1 heq
            first
              | (refine take_in (i := 0) (v := ?_) rfl (by kernel_rfl) (by kernel_rfl) (by kernel_rfl) (fun _ _ _ h => h) (Or.inl ⟨by rfl, ?_⟩) hHeld ?_; rotate_left; (focus (intro W hSw; go_simp; (try rfl); done)); (try simp only [Act.put, List.setIfInBounds_toArray, List.set_cons_zero, List.set_cons_succ]))
              | (refine take_in (i := 0) (v := undef) rfl (by kernel_rfl) (by kernel_rfl) (by kernel_rfl) (fun _ _ _ h => h) (Or.inr ⟨by rfl, rfl⟩) hHeld ?_; (try simp only [Act.put, List.setIfInBounds_toArray, List.set_cons_zero, List.set_cons_succ]))
              | (fail "STAKE 0")
            first
              | (refine take_in (i := 1) (v := ?_) rfl (by kernel_rfl) (by kernel_rfl) (by kernel_rfl) (fun _ _ _ h => h) (Or.inl ⟨by rfl, ?_⟩) hHeld ?_; rotate_left; (focus (intro W hSw; go_simp; (try rfl); done)); (try simp only [Act.put, List.setIfInBounds_toArray, List.set_cons_zero, List.set_cons_succ]))
              | (refine take_in (i := 1) (v := undef) rfl (by kernel_rfl) (by kernel_rfl) (by kernel_rfl) (fun _ _ _ h => h) (Or.inr ⟨by rfl, rfl⟩) hHeld ?_; (try simp only [Act.put, List.setIfInBounds_toArray, List.set_cons_zero, List.set_cons_succ]))
              | (fail "STAKE 1")
            first
              | (refine take_in (i := 2) (v := ?_) rfl (by kernel_rfl) (by kernel_rfl) (by kernel_rfl) (fun _ _ _ h => h) (Or.inl ⟨by rfl, ?_⟩) hHeld ?_; rotate_left; (focus (intro W hSw; have C3 := C3 W hSw; go_simp; (try rfl); done)); (try simp only [Act.put, List.setIfInBounds_toArray, List.set_cons_zero, List.set_cons_succ]))
              | (refine take_in (i := 2) (v := undef) rfl (by kernel_rfl) (by kernel_rfl) (by kernel_rfl) (fun _ _ _ h => h) (Or.inr ⟨by rfl, rfl⟩) hHeld ?_; (try simp only [Act.put, List.setIfInBounds_toArray, List.set_cons_zero, List.set_cons_succ]))
              | (fail "STAKE 2")
            first
              | (refine take_in (i := 4) (v := ?_) rfl (by kernel_rfl) (by kernel_rfl) (by kernel_rfl) (fun _ _ _ h => h) (Or.inl ⟨by rfl, ?_⟩) hHeld ?_; rotate_left; (focus (intro W hSw; go_simp; (try rfl); done)); (try simp only [Act.put, List.setIfInBounds_toArray, List.set_cons_zero, List.set_cons_succ]))
              | (refine take_in (i := 4) (v := undef) rfl (by kernel_rfl) (by kernel_rfl) (by kernel_rfl) (fun _ _ _ h => h) (Or.inr ⟨by rfl, rfl⟩) hHeld ?_; (try simp only [Act.put, List.setIfInBounds_toArray, List.set_cons_zero, List.set_cons_succ]))
              | (fail "STAKE 4")
            first
              | (refine take_in (i := 5) (v := ?_) rfl (by kernel_rfl) (by kernel_rfl) (by kernel_rfl) (fun _ _ _ h => h) (Or.inl ⟨by rfl, ?_⟩) hHeld ?_; rotate_left; (focus (intro W hSw; have C4 := C4 W hSw; go_simp; (try rfl); done)); (try simp only [Act.put, List.setIfInBounds_toArray, List.set_cons_zero, List.set_cons_succ]))
              | (refine take_in (i := 5) (v := undef) rfl (by kernel_rfl) (by kernel_rfl) (by kernel_rfl) (fun _ _ _ h => h) (Or.inr ⟨by rfl, rfl⟩) hHeld ?_; (try simp only [Act.put, List.setIfInBounds_toArray, List.set_cons_zero, List.set_cons_succ]))
              | (fail "STAKE 5")
            first
              | (refine take_in (i := 7) (v := ?_) rfl (by kernel_rfl) (by kernel_rfl) (by kernel_rfl) (fun _ _ _ h => h) (Or.inl ⟨by rfl, ?_⟩) hHeld ?_; rotate_left; (focus (intro W hSw; go_simp; (try rfl); done)); (try simp only [Act.put, List.setIfInBounds_toArray, List.set_cons_zero, List.set_cons_succ]))
              | (refine take_in (i := 7) (v := undef) rfl (by kernel_rfl) (by kernel_rfl) (by kernel_rfl) (fun _ _ _ h => h) (Or.inr ⟨by rfl, rfl⟩) hHeld ?_; (try simp only [Act.put, List.setIfInBounds_toArray, List.set_cons_zero, List.set_cons_succ]))
              | (fail "STAKE 7")
            first
              | (refine take_in (i := 8) (v := ?_) rfl (by kernel_rfl) (by kernel_rfl) (by kernel_rfl) (fun _ _ _ h => h) (Or.inl ⟨by rfl, ?_⟩) hHeld ?_; rotate_left; (focus (intro W hSw; have C5 := C5 W hSw; go_simp; (try rfl); done)); (try simp only [Act.put, List.setIfInBounds_toArray, List.set_cons_zero, List.set_cons_succ]))
              | (refine take_in (i := 8) (v := undef) rfl (by kernel_rfl) (by kernel_rfl) (by kernel_rfl) (fun _ _ _ h => h) (Or.inr ⟨by rfl, rfl⟩) hHeld ?_; (try simp only [Act.put, List.setIfInBounds_toArray, List.set_cons_zero, List.set_cons_succ]))
              | (fail "STAKE 8")
            refine one_in (i := 3) rfl (by kernel_rfl) (fun K hK => ?_)
            go_simp
            refine (rwFlagK B x1 u (z2) d1 HO.out (szB HB.out hB1) (by have := HLZ.out; (try simp only [List.length_append, be_len]);  omega)).mono ?_
            rintro e y1 ⟨u1, rfl, ho1, hb1, hk1⟩
            have HO1 := Lib.hid ho1
            have HB1 := Lib.hid (HB.out.trans hb1)
            have HK1 := Lib.hid hk1
            have c0 := HS.out
            have hHeld : (fun W : World => W.heap[bx]? = some (.cells #[Value.int .u64 (i1 : Int), Value.int .u64 (l1 : Int), Value.string t1, Value.bool d1, Value.float .f64 r1, Value.float .f64 e1, Value.slice A1 g1.length c1'] 63 (0, 0))) y1 := (hk1 _ _ c0 HQ.out).1
            have HS1 := Lib.hid hHeld
            have HQ1 := Lib.hid (hk1 _ _ c0 HQ.out).2
            clear c0 ho1 hb1 hk1
            refine hK.out _ _ hHeld (fun hHeld => ?_)
            (try simp only [Act.put, List.setIfInBounds_toArray, List.set_cons_zero, List.set_cons_succ])
            refine one_in (i := 6) rfl (by kernel_rfl) (fun K hK => ?_)
            go_simp
            refine (rwFK B y1 u1 (z2 ++ encN (if d1 = true then 1 else 0)) r1 (by assumption) HO1.out (szB HB1.out hB1) (by have := HLZ.out; (try simp only [List.length_append, be_len]); have := encN_le (if d1 = true then 1 else 0); omega)).mono ?_
            rintro e y2 ⟨u2, rfl, ho2, hb2, hk2⟩
            have HO2 := Lib.hid ho2
            have HB2 := Lib.hid (HB1.out.trans hb2)
            have HK2 := Lib.hid hk2
            have c0 := HS1.out
            have hHeld : (fun W : World => W.heap[bx]? = some (.cells #[Value.int .u64 (i1 : Int), Value.int .u64 (l1 : Int), Value.string t1, Value.bool d1, Value.float .f64 r1, Value.float .f64 e1, Value.slice A1 g1.length c1'] 63 (0, 0))) y2 := (hk2 _ _ c0 HQ1.out).1
            have HS2 := Lib.hid hHeld
            have HQ2 := Lib.hid (hk2 _ _ c0 HQ1.out).2
            clear c0 ho2 hb2 hk2
            refine hK.out _ _ hHeld (fun hHeld => ?_)
            (try simp only [Act.put, List.setIfInBounds_toArray, List.set_cons_zero, List.set_cons_succ])
            refine one_in (i := 9) rfl (by kernel_rfl) (fun K hK => ?_)
            go_simp
            refine (rwFK B y2 u2 (z2 ++ encN (if d1 = true then 1 else 0) ++ be 8 (keyN r1)) e1 (by assumption) HO2.out (szB HB2.out hB1) (by have := HLZ.out; (try simp only [List.length_append, be_len]); have := encN_le (if d1 = true then 1 else 0); omega)).mono ?_
            rintro e y3 ⟨u3, rfl, ho3, hb3, hk3⟩
            have HO3 := Lib.hid ho3
            have HB3 := Lib.hid (HB2.out.trans hb3)
            have HK3 := Lib.hid hk3
            have c0 := HS2.out
            have hHeld : (fun W : World => W.heap[bx]? = some (.cells #[Value.int .u64 (i1 : Int), Value.int .u64 (l1 : Int), Value.string t1, Value.bool d1, Value.float .f64 r1, Value.float .f64 e1, Value.slice A1 g1.length c1'] 63 (0, 0))) y3 := (hk3 _ _ c0 HQ2.out).1
            have HS3 := Lib.hid hHeld
            have HQ3 := Lib.hid (hk3 _ _ c0 HQ2.out).2
            clear c0 ho3 hb3 hk3
            refine hK.out _ _ hHeld (fun hHeld => ?_)
            (try simp only [Act.put, List.setIfInBounds_toArray, List.set_cons_zero, List.set_cons_succ])
            first
              | (refine take_in (i := 10) (v := ?_) rfl (by kernel_rfl) (by kernel_rfl) (by kernel_rfl) (fun _ _ _ h => h) (Or.inl ⟨by rfl, ?_⟩) hHeld ?_; rotate_left; (focus (intro W hSw; go_simp; (try rfl); done)); (try simp only [Act.put, List.setIfInBounds_toArray, List.set_cons_zero, List.set_cons_succ]))
              | (refine take_in (i := 10) (v := undef) rfl (by kernel_rfl) (by kernel_rfl) (by kernel_rfl) (fun _ _ _ h => h) (Or.inr ⟨by rfl, rfl⟩) hHeld ?_; (try simp only [Act.put, List.setIfInBounds_toArray, List.set_cons_zero, List.set_cons_succ]))
              | (fail "STAKE 10")
            refine wpAnyH_done (by kernel_rfl) ?_ _
            have k6 := C6 _ HS3.out
            have hg64 : IntKind.u64.wrap (g1.length : Int) = (g1.length : Int) := by rw [IntKind.wrap_u64]; omega
            obtain ⟨z3, hz3⟩ : ∃ z, z2 ++ encN (if d1 = true then 1 else 0) ++ be 8 (keyN r1) ++ be 8 (keyN e1) = z := ⟨_, rfl⟩
            have HO3 := Lib.hid (hz3 ▸ HO3.out)
            have HLZ3 := Lib.hid (show z3.length ≤ 100300 by
              rw [← hz3]
              simp only [List.length_append, be_len]
              have := HLZ.out; have := encN_le (if d1 = true then 1 else 0); omega)
            have HZ3 := Lib.hid hz3
            clear hz3
            go_wp2_with fail
            refine (rwNK B y3 u3 z3 g1.length HO3.out (szB HB3.out hB2) (by omega) (by have := HLZ3.out; omega)).mono ?_
            rintro e y4 ⟨u4, rfl, ho4, hb4, hk4⟩
            have HX4 := Lib.hid (hk4 _ _ HS3.out HQ3.out)
            have HB4 := Lib.hid (HB3.out.trans hb4)
            obtain ⟨z4, hz4⟩ : ∃ z, z3 ++ encN g1.length = z := ⟨_, rfl⟩
            rw [hz4] at ho4
            have HO4 := Lib.hid ho4
            have HLZ4 := Lib.hid (show z4.length ≤ 100400 by rw [← hz4, List.length_append]; have := HLZ3.out; have := encN_le g1.length; omega)
            have HZ4b := Lib.hid hz4
            have k6b := C6 _ HX4.out.1
            clear k6 ho4 hb4 hk4 hz4
            go_wp2_with fail
            go_loopw [3, 74] (fun s3 s74 wt => ∃ (q : Nat) (v : Value), q ≤ g1.length ∧ v = s3 ∧ s74 = .int .i64 q ∧ OB wt B v (z4 ++ encTags (g1.take q)) ∧ Below B w2 wt) (fun _ s74 _ => g1.length - (intOf s74).toNat)
            case atStart => exact ⟨0, _, by omega, rfl, rfl, by simpa [encTags] using HO4.out, HB4.out⟩
            case round =>
              obtain ⟨q, v, hq, rfl, rfl, hO, hbel⟩ := hrel
              have HDt := Lib.hid (HD2.out.trans (hbel.mono (by omega)))
              have hBt : B ≤ wr.heap.size := szB hbel hB2
              have HBt := Lib.hid hbel
              have HOt := Lib.hid hO
              clear hbel hO k6b
              by_cases hlt : q < g1.length
              · have i0 : (0 : Int) ≤ (q : Int) := by omega
                have i1' : (q : Int) < (g1.length : Int) := by omega
                have hgr := HGT.out.below HDt.out
                obtain ⟨ad, x, had, hx⟩ := hgr.some_at hlt
                subst had
                obtain ⟨hc, hsz⟩ := str_at hgr hx
                have hx1 := HST.out.2.2 x (List.mem_of_getElem? hx)
                have hte := encTags_le (l := g1.take q) (fun y hy => by have := HST.out.2.2 y (List.mem_of_mem_take hy); omega)
                rw [List.length_take, Nat.min_eq_left (by omega)] at hte
                have HLz := Lib.hid (show (z4 ++ encTags (g1.take q)).length ≤ 200000 by rw [List.length_append]; have := HLZ4.out; omega)
                have HNt := Lib.hid (show z4 ++ encTags (g1.take (q + 1)) = (z4 ++ encTags (g1.take q)) ++ (encN x.size ++ x.data.toList) by rw [take_at hx, encTags_snoc, List.append_assoc]; rfl)
                clear hgr hx hte
                go_wp2_with (refine wpL_bytes rfl _ _ _ _ rfl x rfl Try.underlying9 Try.underlying23 Try.underlying5 (by omega) ?_
                             intro v1 cap1 hb1 hu1 hl1
                             have HV1 := Lib.hid (data_new (c := cap1) HOt.out hb1 hu1 hl1)
                             have HO1 := Lib.hid (show OB v1 B v (z4 ++ encTags (g1.take q)) from own_below HOt.out hu1)
                             have HB1 := Lib.hid (HBt.out.trans (hu1.mono hBt))
                             clear hb1 hu1 hl1)
                refine (rwBK B v1 v _ _ x.size _ x.data.toList HO1.out (szB HB1.out hB2) HV1.out.1 HV1.out.2.1 (by omega) (by have := HLz.out; omega) (by have := HLz.out; omega)).mono ?_
                rintro e v2 ⟨u5, rfl, ho5, hb5, _⟩
                have HO5 := Lib.hid ho5
                have HB5 := Lib.hid (HB1.out.trans hb5)
                clear ho5 hb5
                go_wp2_with fail
                go_roundw
                case measure => simp [intOf]; omega
                case rel => exact ⟨q + 1, _, by omega, rfl, by go_num, by rw [HNt.out]; exact HO5.out, HB5.out⟩
              · have hqe := Lib.hid (show q = g1.length by omega)
                have HE := Lib.hid (show z4 ++ encTags (g1.take q) = z1 ++ (ts.take (j + 1)).flatMap encTask by
                  rw [HN.out, ← HZ4b.out, ← HZ3.out, ← HZ2.out, List.take_of_length_le (by omega)]
                  unfold encTask
                  simp only [List.append_assoc, encS, Int.toNat_natCast])
                have HO6 := Lib.hid (show OB wr B v (z1 ++ (ts.take (j + 1)).flatMap encTask) from HE.out ▸ HOt.out)
                go_wp2_with fail
                go_roundw
                case measure => simp [intOf]; omega
                case rel => exact ⟨j + 1, _, by omega, rfl, by go_num, HO6.out, HBt.out⟩
        · have HE := Lib.hid (show z1 ++ (ts.take j).flatMap encTask = encState ls ts by
            rw [HZ4.out, List.take_of_length_le (by omega)]
            unfold encState
            rw [hla, hlb])
          have HO := Lib.hid (show OB wr B v (encState ls ts) from HE.out ▸ hO)
          have HBf := Lib.hid (HW0.out.trans ((HB2.out.trans hbel).mono (by omega)))
          clear hO hbel
          go_wp2_with fail
          go_ret
          exact ⟨_, rfl, HO.out, HBf.out⟩
end Go.Proofs.Ytnolhnlhohpkpaa
