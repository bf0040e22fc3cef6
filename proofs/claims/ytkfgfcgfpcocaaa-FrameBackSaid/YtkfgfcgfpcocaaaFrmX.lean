import Derived.Test.YtkfgfcgfpcocaaaFrmW
namespace Go.Proofs.Ytkfgfcgfpcocaaa
open Go.RowKit
theorem one_lit1 (a : Int) : ∀ u ∈ (#[.int .u8 a] : Array Value).toList, u.oneCell' = true := by
  intro u hu
  simp at hu
  subst hu
  rfl
theorem fixed_any (base : Nat) (w0 : World) (v : Value) (n : Nat) (xs : List UInt8) (M sz : Nat) (w : World) (hown0 : w.ownsRow base 5 1 v n (xs.map encB)) (hb : Below base w0 w) (hbase : base ≤ w0.heap.size) (hsz : sz ≤ 8) (hn : n ≤ 70000000000) :
    Calls Try.prog 26 #[v, .int .u64 M, .int .i64 sz] w fun e w' => ∃ v', e = .returned v' ∧ w'.ownsRow base 5 1 v' (n + sz) ((xs ++ CrcM.be sz M).map encB) ∧ Below base w0 w' := by
  have hlen : xs.length = n := by have := hown0.1; simpa using this
  go_enter Try.func26, Try.ntmps26
  go_wp2
  go_loopw [0, 7] (fun u i wr => ∃ r : Nat, r ≤ sz ∧ i = .int .i64 ((r : Int) - 1) ∧ ∃ pre : List UInt8, Hid (CrcM.be sz M = pre ++ CrcM.be r M) ∧ wr.ownsRow base 5 1 u (n + pre.length) ((xs ++ pre).map encB) ∧ Below base w0 wr) (fun _ i _ => (intOf i + 1).toNat)
  case atStart => exact ⟨sz, Nat.le_refl _, rfl, [], Lib.hid rfl, own_cast hown0 (by simp), hb⟩
  case round =>
    obtain ⟨r, hr, rfl, pre, HP, hown, hbel⟩ := hrel
    have hz := Nat.le_trans hbase hbel.size
    have hpl : pre.length ≤ 8 := by
      have := congrArg List.length HP.out
      rw [CrcM.be_len, List.length_append] at this; omega
    have hr8 : r = 0 ∨ r = 1 ∨ r = 2 ∨ r = 3 ∨ r = 4 ∨ r = 5 ∨ r = 6 ∨ r = 7 ∨ r = 8 := by omega
    rcases hr8 with rfl | rfl | rfl | rfl | rfl | rfl | rfl | rfl | rfl
    · go_wp2
      go_ret
      exact ⟨_, rfl, own_len (own_cast hown (by rw [HP.out]; simp [CrcM.be])) (by have := congrArg List.length HP.out; rw [CrcM.be_len] at this; simp [CrcM.be] at this; omega), hbel⟩
    · go_wp2_with (at_builtin; refine wp_app (base := base) rfl (.tmp 14) (.tmp 20) rfl (hown.alloc _) (lit_rc wr 5 (0, 0) _ 1 rfl) (hbel.alloc (by omega) _) Try.underlying23 infoB rfl rfl rfl (one_lit1 _) (by omega) (by omega) (by simp; omega) ?_; intro v3 w3 ho3 hq3 _ _; replace ho3 := own_cast ho3 ((congrArg (List.map encB (xs ++ pre) ++ [·]) (enc_of (n := (M : Int) % 256) (m := M / 256 ^ 0) (by omega))).trans (List.map_append (l₂ := [UInt8.ofNat (M / 256 ^ 0)])).symm); rw [List.append_assoc] at ho3)
      go_roundw
      case rel => exact ⟨0, by omega, by go_num, pre ++ [UInt8.ofNat (M / 256 ^ 0)], Lib.hid (by rw [HP.out]; simp [CrcM.be]), own_len ho3 (by simp; omega), hq3⟩
      case measure => simp [intOf]
    · go_wp2_with (at_builtin; refine wp_app (base := base) rfl (.tmp 14) (.tmp 20) rfl (hown.alloc _) (lit_rc wr 5 (0, 0) _ 1 rfl) (hbel.alloc (by omega) _) Try.underlying23 infoB rfl rfl rfl (one_lit1 _) (by omega) (by omega) (by simp; omega) ?_; intro v3 w3 ho3 hq3 _ _; replace ho3 := own_cast ho3 ((congrArg (List.map encB (xs ++ pre) ++ [·]) (enc_of (n := (M : Int) / 256 % 256) (m := M / 256 ^ 1) (by omega))).trans (List.map_append (l₂ := [UInt8.ofNat (M / 256 ^ 1)])).symm); rw [List.append_assoc] at ho3)
      go_roundw
      case rel => exact ⟨1, by omega, by go_num, pre ++ [UInt8.ofNat (M / 256 ^ 1)], Lib.hid (by rw [HP.out]; simp [CrcM.be]), own_len ho3 (by simp; omega), hq3⟩
      case measure => simp [intOf]
    · go_wp2_with (at_builtin; refine wp_app (base := base) rfl (.tmp 14) (.tmp 20) rfl (hown.alloc _) (lit_rc wr 5 (0, 0) _ 1 rfl) (hbel.alloc (by omega) _) Try.underlying23 infoB rfl rfl rfl (one_lit1 _) (by omega) (by omega) (by simp; omega) ?_; intro v3 w3 ho3 hq3 _ _; replace ho3 := own_cast ho3 ((congrArg (List.map encB (xs ++ pre) ++ [·]) (enc_of (n := (M : Int) / 65536 % 256) (m := M / 256 ^ 2) (by omega))).trans (List.map_append (l₂ := [UInt8.ofNat (M / 256 ^ 2)])).symm); rw [List.append_assoc] at ho3)
      go_roundw
      case rel => exact ⟨2, by omega, by go_num, pre ++ [UInt8.ofNat (M / 256 ^ 2)], Lib.hid (by rw [HP.out]; simp [CrcM.be]), own_len ho3 (by simp; omega), hq3⟩
      case measure => simp [intOf]
    · go_wp2_with (at_builtin; refine wp_app (base := base) rfl (.tmp 14) (.tmp 20) rfl (hown.alloc _) (lit_rc wr 5 (0, 0) _ 1 rfl) (hbel.alloc (by omega) _) Try.underlying23 infoB rfl rfl rfl (one_lit1 _) (by omega) (by omega) (by simp; omega) ?_; intro v3 w3 ho3 hq3 _ _; replace ho3 := own_cast ho3 ((congrArg (List.map encB (xs ++ pre) ++ [·]) (enc_of (n := (M : Int) / 16777216 % 256) (m := M / 256 ^ 3) (by omega))).trans (List.map_append (l₂ := [UInt8.ofNat (M / 256 ^ 3)])).symm); rw [List.append_assoc] at ho3)
      go_roundw
      case rel => exact ⟨3, by omega, by go_num, pre ++ [UInt8.ofNat (M / 256 ^ 3)], Lib.hid (by rw [HP.out]; simp [CrcM.be]), own_len ho3 (by simp; omega), hq3⟩
      case measure => simp [intOf]
    · go_wp2_with (at_builtin; refine wp_app (base := base) rfl (.tmp 14) (.tmp 20) rfl (hown.alloc _) (lit_rc wr 5 (0, 0) _ 1 rfl) (hbel.alloc (by omega) _) Try.underlying23 infoB rfl rfl rfl (one_lit1 _) (by omega) (by omega) (by simp; omega) ?_; intro v3 w3 ho3 hq3 _ _; replace ho3 := own_cast ho3 ((congrArg (List.map encB (xs ++ pre) ++ [·]) (enc_of (n := (M : Int) / 4294967296 % 256) (m := M / 256 ^ 4) (by omega))).trans (List.map_append (l₂ := [UInt8.ofNat (M / 256 ^ 4)])).symm); rw [List.append_assoc] at ho3)
      go_roundw
      case rel => exact ⟨4, by omega, by go_num, pre ++ [UInt8.ofNat (M / 256 ^ 4)], Lib.hid (by rw [HP.out]; simp [CrcM.be]), own_len ho3 (by simp; omega), hq3⟩
      case measure => simp [intOf]
    · go_wp2_with (at_builtin; refine wp_app (base := base) rfl (.tmp 14) (.tmp 20) rfl (hown.alloc _) (lit_rc wr 5 (0, 0) _ 1 rfl) (hbel.alloc (by omega) _) Try.underlying23 infoB rfl rfl rfl (one_lit1 _) (by omega) (by omega) (by simp; omega) ?_; intro v3 w3 ho3 hq3 _ _; replace ho3 := own_cast ho3 ((congrArg (List.map encB (xs ++ pre) ++ [·]) (enc_of (n := (M : Int) / 1099511627776 % 256) (m := M / 256 ^ 5) (by omega))).trans (List.map_append (l₂ := [UInt8.ofNat (M / 256 ^ 5)])).symm); rw [List.append_assoc] at ho3)
      go_roundw
      case rel => exact ⟨5, by omega, by go_num, pre ++ [UInt8.ofNat (M / 256 ^ 5)], Lib.hid (by rw [HP.out]; simp [CrcM.be]), own_len ho3 (by simp; omega), hq3⟩
      case measure => simp [intOf]
    · go_wp2_with (at_builtin; refine wp_app (base := base) rfl (.tmp 14) (.tmp 20) rfl (hown.alloc _) (lit_rc wr 5 (0, 0) _ 1 rfl) (hbel.alloc (by omega) _) Try.underlying23 infoB rfl rfl rfl (one_lit1 _) (by omega) (by omega) (by simp; omega) ?_; intro v3 w3 ho3 hq3 _ _; replace ho3 := own_cast ho3 ((congrArg (List.map encB (xs ++ pre) ++ [·]) (enc_of (n := (M : Int) / 281474976710656 % 256) (m := M / 256 ^ 6) (by omega))).trans (List.map_append (l₂ := [UInt8.ofNat (M / 256 ^ 6)])).symm); rw [List.append_assoc] at ho3)
      go_roundw
      case rel => exact ⟨6, by omega, by go_num, pre ++ [UInt8.ofNat (M / 256 ^ 6)], Lib.hid (by rw [HP.out]; simp [CrcM.be]), own_len ho3 (by simp; omega), hq3⟩
      case measure => simp [intOf]
    · go_wp2_with (at_builtin; refine wp_app (base := base) rfl (.tmp 14) (.tmp 20) rfl (hown.alloc _) (lit_rc wr 5 (0, 0) _ 1 rfl) (hbel.alloc (by omega) _) Try.underlying23 infoB rfl rfl rfl (one_lit1 _) (by omega) (by omega) (by simp; omega) ?_; intro v3 w3 ho3 hq3 _ _; replace ho3 := own_cast ho3 ((congrArg (List.map encB (xs ++ pre) ++ [·]) (enc_of (n := (M : Int) / 72057594037927936 % 256) (m := M / 256 ^ 7) (by omega))).trans (List.map_append (l₂ := [UInt8.ofNat (M / 256 ^ 7)])).symm); rw [List.append_assoc] at ho3)
      go_roundw
      case rel => exact ⟨7, by omega, by go_num, pre ++ [UInt8.ofNat (M / 256 ^ 7)], Lib.hid (by rw [HP.out]; simp [CrcM.be]), own_len ho3 (by simp; omega), hq3⟩
      case measure => simp [intOf]
end Go.Proofs.Ytkfgfcgfpcocaaa
