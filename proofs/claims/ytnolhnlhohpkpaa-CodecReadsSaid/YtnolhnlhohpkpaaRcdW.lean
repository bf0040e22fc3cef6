import Derived.Test.YtnolhnlhohpkpaaCdcV
namespace Go.Proofs.Ytnolhnlhohpkpaa
open Go.RowKit Cdc
set_option linter.unusedVariables false
set_option linter.unusedSimpArgs false
set_option maxHeartbeats 4000000 in
set_option maxRecDepth 20000 in
theorem rwide_any (n : Nat) (w : World) (hn : n < 18446744073709551616) :
    Calls Try.prog 74 #[.int .u64 n] w fun e w' => e = .returned (.int .i64 (wide n)) ∧ w = w' := by
  go_enter Try.func74, Try.ntmps74
  go_wp2_with fail
  go_loop [3] (fun s3 => ∃ k : Nat, 1 ≤ k ∧ k ≤ wide n ∧ s3 = .int .i64 k) (fun s3 => 9 - (intOf s3).toNat)
  case atStart => exact ⟨1, by omega, (wide_pos n).1, rfl⟩
  case round =>
    obtain ⟨k, h1, h2, rfl⟩ := hrel
    have h8 : k = 1 ∨ k = 2 ∨ k = 3 ∨ k = 4 ∨ k = 5 ∨ k = 6 ∨ k = 7 ∨ k = 8 := by have := (wide_pos n).2; omega
    have n0 : (0 : Int) ≤ (n : Int) := by omega
    have H2 := Lib.hid h2
    clear h2
    rcases h8 with rfl | rfl | rfl | rfl | rfl | rfl | rfl | rfl
    · by_cases hlt : n < 256
      · have hb : (n : Int) < 256 := by omega
        have HW := Lib.hid (show wide n = 1 by have h3 : 1 ≤ wide n := H2.out; revert h3; unfold wide; (repeat' split) <;> omega)
        clear hlt
        go_wp2_with fail
        go_ret
        exact ⟨by rw [HW.out]; rfl, rfl⟩
      · have hb : ¬ (n : Int) < 256 := by omega
        have HW := Lib.hid (show 2 ≤ wide n by unfold wide; (repeat' split) <;> omega)
        clear hlt
        go_wp2_with fail
        go_round
        case rel => exact ⟨2, by omega, HW.out, rfl⟩
        case measure => simp [intOf]
    · by_cases hlt : n < 65536
      · have hb : (n : Int) < 65536 := by omega
        have HW := Lib.hid (show wide n = 2 by have h3 : 2 ≤ wide n := H2.out; revert h3; unfold wide; (repeat' split) <;> omega)
        clear hlt
        go_wp2_with fail
        go_ret
        exact ⟨by rw [HW.out]; rfl, rfl⟩
      · have hb : ¬ (n : Int) < 65536 := by omega
        have HW := Lib.hid (show 3 ≤ wide n by unfold wide; (repeat' split) <;> omega)
        clear hlt
        go_wp2_with fail
        go_round
        case rel => exact ⟨3, by omega, HW.out, rfl⟩
        case measure => simp [intOf]
    · by_cases hlt : n < 16777216
      · have hb : (n : Int) < 16777216 := by omega
        have HW := Lib.hid (show wide n = 3 by have h3 : 3 ≤ wide n := H2.out; revert h3; unfold wide; (repeat' split) <;> omega)
        clear hlt
        go_wp2_with fail
        go_ret
        exact ⟨by rw [HW.out]; rfl, rfl⟩
      · have hb : ¬ (n : Int) < 16777216 := by omega
        have HW := Lib.hid (show 4 ≤ wide n by unfold wide; (repeat' split) <;> omega)
        clear hlt
        go_wp2_with fail
        go_round
        case rel => exact ⟨4, by omega, HW.out, rfl⟩
        case measure => simp [intOf]
    · by_cases hlt : n < 4294967296
      · have hb : (n : Int) < 4294967296 := by omega
        have HW := Lib.hid (show wide n = 4 by have h3 : 4 ≤ wide n := H2.out; revert h3; unfold wide; (repeat' split) <;> omega)
        clear hlt
        go_wp2_with fail
        go_ret
        exact ⟨by rw [HW.out]; rfl, rfl⟩
      · have hb : ¬ (n : Int) < 4294967296 := by omega
        have HW := Lib.hid (show 5 ≤ wide n by unfold wide; (repeat' split) <;> omega)
        clear hlt
        go_wp2_with fail
        go_round
        case rel => exact ⟨5, by omega, HW.out, rfl⟩
        case measure => simp [intOf]
    · by_cases hlt : n < 1099511627776
      · have hb : (n : Int) < 1099511627776 := by omega
        have HW := Lib.hid (show wide n = 5 by have h3 : 5 ≤ wide n := H2.out; revert h3; unfold wide; (repeat' split) <;> omega)
        clear hlt
        go_wp2_with fail
        go_ret
        exact ⟨by rw [HW.out]; rfl, rfl⟩
      · have hb : ¬ (n : Int) < 1099511627776 := by omega
        have HW := Lib.hid (show 6 ≤ wide n by unfold wide; (repeat' split) <;> omega)
        clear hlt
        go_wp2_with fail
        go_round
        case rel => exact ⟨6, by omega, HW.out, rfl⟩
        case measure => simp [intOf]
    · by_cases hlt : n < 281474976710656
      · have hb : (n : Int) < 281474976710656 := by omega
        have HW := Lib.hid (show wide n = 6 by have h3 : 6 ≤ wide n := H2.out; revert h3; unfold wide; (repeat' split) <;> omega)
        clear hlt
        go_wp2_with fail
        go_ret
        exact ⟨by rw [HW.out]; rfl, rfl⟩
      · have hb : ¬ (n : Int) < 281474976710656 := by omega
        have HW := Lib.hid (show 7 ≤ wide n by unfold wide; (repeat' split) <;> omega)
        clear hlt
        go_wp2_with fail
        go_round
        case rel => exact ⟨7, by omega, HW.out, rfl⟩
        case measure => simp [intOf]
    · by_cases hlt : n < 72057594037927936
      · have hb : (n : Int) < 72057594037927936 := by omega
        have HW := Lib.hid (show wide n = 7 by have h3 : 7 ≤ wide n := H2.out; revert h3; unfold wide; (repeat' split) <;> omega)
        clear hlt
        go_wp2_with fail
        go_ret
        exact ⟨by rw [HW.out]; rfl, rfl⟩
      · have hb : ¬ (n : Int) < 72057594037927936 := by omega
        have HW := Lib.hid (show 8 ≤ wide n by unfold wide; (repeat' split) <;> omega)
        clear hlt
        go_wp2_with fail
        go_round
        case rel => exact ⟨8, by omega, HW.out, rfl⟩
        case measure => simp [intOf]
    · go_wp2_with fail
      go_ret
      exact ⟨by rw [show wide n = 8 by have := (wide_pos n).2; have := H2.out; omega]; rfl, rfl⟩
set_option maxHeartbeats 4000000 in
set_option maxRecDepth 20000 in
theorem rfix_any (base : Nat) (w0 : World) (v : Value) (n : Nat) (xs : List UInt8) (M sz : Nat) (w : World) (hown0 : w.ownsRow base 5 1 v n (xs.map encB)) (hb : Below base w0 w) (hbase : base ≤ w0.heap.size) (hsz : sz ≤ 8) (hn : n ≤ 70000000000) :
    Calls Try.prog 99 #[v, .int .u64 M, .int .i64 sz] w fun e w' => ∃ v', e = .returned v' ∧ w'.ownsRow base 5 1 v' (n + sz) ((xs ++ be sz M).map encB) ∧ Below base w0 w' := by
  have hlen : xs.length = n := by have := hown0.1; simpa using this
  go_enter Try.func99, Try.ntmps99
  go_wp2
  go_loopw [0, 7] (fun u i wr => ∃ r : Nat, r ≤ sz ∧ i = .int .i64 ((r : Int) - 1) ∧ ∃ pre : List UInt8, Hid (be sz M = pre ++ be r M) ∧ wr.ownsRow base 5 1 u (n + pre.length) ((xs ++ pre).map encB) ∧ Below base w0 wr) (fun _ i _ => (intOf i + 1).toNat)
  case atStart => exact ⟨sz, Nat.le_refl _, rfl, [], Lib.hid rfl, own_cast hown0 (by simp), hb⟩
  case round =>
    obtain ⟨r, hr, rfl, pre, HP, hown, hbel⟩ := hrel
    have hz := Nat.le_trans hbase hbel.size
    have hpl : pre.length ≤ 8 := by
      have := congrArg List.length HP.out
      rw [be_len, List.length_append] at this; omega
    have hr8 : r = 0 ∨ r = 1 ∨ r = 2 ∨ r = 3 ∨ r = 4 ∨ r = 5 ∨ r = 6 ∨ r = 7 ∨ r = 8 := by omega
    rcases hr8 with rfl | rfl | rfl | rfl | rfl | rfl | rfl | rfl | rfl
    · go_wp2
      go_ret
      exact ⟨_, rfl, own_len (own_cast hown (by rw [HP.out]; simp [be])) (by have := congrArg List.length HP.out; rw [be_len] at this; simp [be] at this; omega), hbel⟩
    · go_wp2_with (at_builtin; refine wp_app (base := base) rfl (.tmp 14) (.tmp 20) rfl (hown.alloc _) (lit_rc wr 5 (0, 0) _ 1 rfl) (hbel.alloc (by omega) _) Try.underlying23 info_byte rfl rfl rfl (one_lit1 _) (by omega) (by omega) (by simp; omega) ?_; intro v3 w3 ho3 hq3 _ _; replace ho3 := own_cast ho3 ((congrArg (List.map encB (xs ++ pre) ++ [·]) (enc_of (n := (M : Int) % 256) (m := M / 256 ^ 0) (by omega))).trans (List.map_append (l₂ := [UInt8.ofNat (M / 256 ^ 0)])).symm); rw [List.append_assoc] at ho3)
      go_roundw
      case rel => exact ⟨0, by omega, by go_num, pre ++ [UInt8.ofNat (M / 256 ^ 0)], Lib.hid (by rw [HP.out]; simp [be]), own_len ho3 (by simp; omega), hq3⟩
      case measure => simp [intOf]
    · go_wp2_with (at_builtin; refine wp_app (base := base) rfl (.tmp 14) (.tmp 20) rfl (hown.alloc _) (lit_rc wr 5 (0, 0) _ 1 rfl) (hbel.alloc (by omega) _) Try.underlying23 info_byte rfl rfl rfl (one_lit1 _) (by omega) (by omega) (by simp; omega) ?_; intro v3 w3 ho3 hq3 _ _; replace ho3 := own_cast ho3 ((congrArg (List.map encB (xs ++ pre) ++ [·]) (enc_of (n := (M : Int) / 256 % 256) (m := M / 256 ^ 1) (by omega))).trans (List.map_append (l₂ := [UInt8.ofNat (M / 256 ^ 1)])).symm); rw [List.append_assoc] at ho3)
      go_roundw
      case rel => exact ⟨1, by omega, by go_num, pre ++ [UInt8.ofNat (M / 256 ^ 1)], Lib.hid (by rw [HP.out]; simp [be]), own_len ho3 (by simp; omega), hq3⟩
      case measure => simp [intOf]
    · go_wp2_with (at_builtin; refine wp_app (base := base) rfl (.tmp 14) (.tmp 20) rfl (hown.alloc _) (lit_rc wr 5 (0, 0) _ 1 rfl) (hbel.alloc (by omega) _) Try.underlying23 info_byte rfl rfl rfl (one_lit1 _) (by omega) (by omega) (by simp; omega) ?_; intro v3 w3 ho3 hq3 _ _; replace ho3 := own_cast ho3 ((congrArg (List.map encB (xs ++ pre) ++ [·]) (enc_of (n := (M : Int) / 65536 % 256) (m := M / 256 ^ 2) (by omega))).trans (List.map_append (l₂ := [UInt8.ofNat (M / 256 ^ 2)])).symm); rw [List.append_assoc] at ho3)
      go_roundw
      case rel => exact ⟨2, by omega, by go_num, pre ++ [UInt8.ofNat (M / 256 ^ 2)], Lib.hid (by rw [HP.out]; simp [be]), own_len ho3 (by simp; omega), hq3⟩
      case measure => simp [intOf]
    · go_wp2_with (at_builtin; refine wp_app (base := base) rfl (.tmp 14) (.tmp 20) rfl (hown.alloc _) (lit_rc wr 5 (0, 0) _ 1 rfl) (hbel.alloc (by omega) _) Try.underlying23 info_byte rfl rfl rfl (one_lit1 _) (by omega) (by omega) (by simp; omega) ?_; intro v3 w3 ho3 hq3 _ _; replace ho3 := own_cast ho3 ((congrArg (List.map encB (xs ++ pre) ++ [·]) (enc_of (n := (M : Int) / 16777216 % 256) (m := M / 256 ^ 3) (by omega))).trans (List.map_append (l₂ := [UInt8.ofNat (M / 256 ^ 3)])).symm); rw [List.append_assoc] at ho3)
      go_roundw
      case rel => exact ⟨3, by omega, by go_num, pre ++ [UInt8.ofNat (M / 256 ^ 3)], Lib.hid (by rw [HP.out]; simp [be]), own_len ho3 (by simp; omega), hq3⟩
      case measure => simp [intOf]
    · go_wp2_with (at_builtin; refine wp_app (base := base) rfl (.tmp 14) (.tmp 20) rfl (hown.alloc _) (lit_rc wr 5 (0, 0) _ 1 rfl) (hbel.alloc (by omega) _) Try.underlying23 info_byte rfl rfl rfl (one_lit1 _) (by omega) (by omega) (by simp; omega) ?_; intro v3 w3 ho3 hq3 _ _; replace ho3 := own_cast ho3 ((congrArg (List.map encB (xs ++ pre) ++ [·]) (enc_of (n := (M : Int) / 4294967296 % 256) (m := M / 256 ^ 4) (by omega))).trans (List.map_append (l₂ := [UInt8.ofNat (M / 256 ^ 4)])).symm); rw [List.append_assoc] at ho3)
      go_roundw
      case rel => exact ⟨4, by omega, by go_num, pre ++ [UInt8.ofNat (M / 256 ^ 4)], Lib.hid (by rw [HP.out]; simp [be]), own_len ho3 (by simp; omega), hq3⟩
      case measure => simp [intOf]
    · go_wp2_with (at_builtin; refine wp_app (base := base) rfl (.tmp 14) (.tmp 20) rfl (hown.alloc _) (lit_rc wr 5 (0, 0) _ 1 rfl) (hbel.alloc (by omega) _) Try.underlying23 info_byte rfl rfl rfl (one_lit1 _) (by omega) (by omega) (by simp; omega) ?_; intro v3 w3 ho3 hq3 _ _; replace ho3 := own_cast ho3 ((congrArg (List.map encB (xs ++ pre) ++ [·]) (enc_of (n := (M : Int) / 1099511627776 % 256) (m := M / 256 ^ 5) (by omega))).trans (List.map_append (l₂ := [UInt8.ofNat (M / 256 ^ 5)])).symm); rw [List.append_assoc] at ho3)
      go_roundw
      case rel => exact ⟨5, by omega, by go_num, pre ++ [UInt8.ofNat (M / 256 ^ 5)], Lib.hid (by rw [HP.out]; simp [be]), own_len ho3 (by simp; omega), hq3⟩
      case measure => simp [intOf]
    · go_wp2_with (at_builtin; refine wp_app (base := base) rfl (.tmp 14) (.tmp 20) rfl (hown.alloc _) (lit_rc wr 5 (0, 0) _ 1 rfl) (hbel.alloc (by omega) _) Try.underlying23 info_byte rfl rfl rfl (one_lit1 _) (by omega) (by omega) (by simp; omega) ?_; intro v3 w3 ho3 hq3 _ _; replace ho3 := own_cast ho3 ((congrArg (List.map encB (xs ++ pre) ++ [·]) (enc_of (n := (M : Int) / 281474976710656 % 256) (m := M / 256 ^ 6) (by omega))).trans (List.map_append (l₂ := [UInt8.ofNat (M / 256 ^ 6)])).symm); rw [List.append_assoc] at ho3)
      go_roundw
      case rel => exact ⟨6, by omega, by go_num, pre ++ [UInt8.ofNat (M / 256 ^ 6)], Lib.hid (by rw [HP.out]; simp [be]), own_len ho3 (by simp; omega), hq3⟩
      case measure => simp [intOf]
    · go_wp2_with (at_builtin; refine wp_app (base := base) rfl (.tmp 14) (.tmp 20) rfl (hown.alloc _) (lit_rc wr 5 (0, 0) _ 1 rfl) (hbel.alloc (by omega) _) Try.underlying23 info_byte rfl rfl rfl (one_lit1 _) (by omega) (by omega) (by simp; omega) ?_; intro v3 w3 ho3 hq3 _ _; replace ho3 := own_cast ho3 ((congrArg (List.map encB (xs ++ pre) ++ [·]) (enc_of (n := (M : Int) / 72057594037927936 % 256) (m := M / 256 ^ 7) (by omega))).trans (List.map_append (l₂ := [UInt8.ofNat (M / 256 ^ 7)])).symm); rw [List.append_assoc] at ho3)
      go_roundw
      case rel => exact ⟨7, by omega, by go_num, pre ++ [UInt8.ofNat (M / 256 ^ 7)], Lib.hid (by rw [HP.out]; simp [be]), own_len ho3 (by simp; omega), hq3⟩
      case measure => simp [intOf]
end Go.Proofs.Ytnolhnlhohpkpaa
