import Derived.Test.YtfkcgmhnledbmaaMrgA
namespace Go.Proofs.Ytfkcgmhnledbmaa
open Go.RowKit
set_option linter.unusedVariables false
set_option linter.unusedSimpArgs false
set_option maxRecDepth 20000 in
theorem hasB_step {l : List ByteArray} {i : Nat} {x t : ByteArray} (hx : l[i]? = some x) : hasB (l.take (i + 1)) t = (hasB (l.take i) t || (x.toList == t.toList)) := by
  unfold hasB
  rw [take_at hx, List.any_append]
  simp
set_option maxRecDepth 20000 in
theorem hasB_hit {l : List ByteArray} {i : Nat} {x t : ByteArray} (hx : l[i]? = some x) (h : (x.toList == t.toList) = true) : hasB l t = true := by
  rw [hasB_iff, ← ba_ext (beq_iff_eq.1 h)]
  exact List.mem_of_getElem? hx
set_option maxRecDepth 20000 in
theorem has_any (w : World) (A : Option Addr) (n c : Nat) (l : List ByteArray) (t : ByteArray) (h : Rows w anyB .str A n l) (hn : n ≤ 9223372036854775807) :
    Calls Try.prog 28 #[.slice A n c, .string t] w fun e w' => e = .returned (.bool (hasB l t)) ∧ w = w' := by
  have hln := h.1
  go_enter Try.func28, Try.ntmps28
  go_wp2_with fail
  go_loopw [9] (fun s9 wr => ∃ i : Nat, i ≤ n ∧ s9 = .int .i64 i ∧ hasB (l.take i) t = false ∧ w = wr) (fun s9 _ => n - (intOf s9).toNat)
  case atStart => exact ⟨0, by omega, rfl, rfl, rfl⟩
  case round =>
    obtain ⟨i, hi, rfl, hP, rfl⟩ := hrel
    by_cases hlt : i < n
    · obtain ⟨ad, x, rfl, hx⟩ := h.some_at hlt
      have hc := (str_rows h hx).1
      have i0 : (0 : Int) ≤ (i : Int) := by omega
      have i1 : (i : Int) < (n : Int) := by omega
      cases hxt : (x.toList == t.toList) with
      | true =>
        have HF := Lib.hid (hasB_hit hx hxt)
        clear hP hx h
        go_wp2_with fail
        go_ret
        exact ⟨by rw [HF.out]; rfl, rfl⟩
      | false =>
        have HN := Lib.hid (show hasB (l.take (i + 1)) t = false by rw [hasB_step hx, hP, hxt]; rfl)
        clear hP hx
        go_wp2_with fail
        go_roundw
        case measure => simp [intOf]; omega
        case rel => exact ⟨i + 1, by omega, by go_num, HN.out, trivial⟩
    · obtain rfl : i = n := by omega
      have HE := Lib.hid (show hasB l t = false by rw [← hP, List.take_of_length_le (by omega)])
      clear hP
      go_wp2_with fail
      go_ret
      exact ⟨by rw [HE.out]; rfl, rfl⟩
set_option maxRecDepth 20000 in
theorem among_any (w : World) (A : Option Addr) (n c : Nat) (l : List ByteArray) (t : ByteArray) (h : Rows w anyB .str A n l) (hn : n ≤ 9223372036854775807) :
    Calls Try.prog 13 #[.slice A n c, .string t] w fun e w' => e = .returned (.bool (hasB l t)) ∧ w = w' := by
  have hln := h.1
  go_enter Try.func13, Try.ntmps13
  go_wp2_with fail
  go_loopw [9] (fun s9 wr => ∃ i : Nat, i ≤ n ∧ s9 = .int .i64 i ∧ hasB (l.take i) t = false ∧ w = wr) (fun s9 _ => n - (intOf s9).toNat)
  case atStart => exact ⟨0, by omega, rfl, rfl, rfl⟩
  case round =>
    obtain ⟨i, hi, rfl, hP, rfl⟩ := hrel
    by_cases hlt : i < n
    · obtain ⟨ad, x, rfl, hx⟩ := h.some_at hlt
      have hc := (str_rows h hx).1
      have i0 : (0 : Int) ≤ (i : Int) := by omega
      have i1 : (i : Int) < (n : Int) := by omega
      cases hxt : (x.toList == t.toList) with
      | true =>
        have HF := Lib.hid (hasB_hit hx hxt)
        clear hP hx h
        go_wp2_with fail
        go_ret
        exact ⟨by rw [HF.out]; rfl, rfl⟩
      | false =>
        have HN := Lib.hid (show hasB (l.take (i + 1)) t = false by rw [hasB_step hx, hP, hxt]; rfl)
        clear hP hx
        go_wp2_with fail
        go_roundw
        case measure => simp [intOf]; omega
        case rel => exact ⟨i + 1, by omega, by go_num, HN.out, trivial⟩
    · obtain rfl : i = n := by omega
      have HE := Lib.hid (show hasB l t = false by rw [← hP, List.take_of_length_le (by omega)])
      clear hP
      go_wp2_with fail
      go_ret
      exact ⟨by rw [HE.out]; rfl, rfl⟩
set_option maxRecDepth 20000 in
theorem index_any (w : World) (A : Option Addr) (n c : Nat) (l : List ByteArray) (t : ByteArray) (h : Rows w anyB .str A n l) (hn : n ≤ 9223372036854775807) :
    Calls Try.prog 32 #[.slice A n c, .string t] w fun e w' => (∃ j : Int, e = .returned (.int .i64 j) ∧ (hasB l t = decide (0 ≤ j))) ∧ w = w' := by
  have hln := h.1
  go_enter Try.func32, Try.ntmps32
  go_wp2_with fail
  go_loopw [8] (fun s8 wr => ∃ i : Nat, i ≤ n ∧ s8 = .int .i64 i ∧ hasB (l.take i) t = false ∧ w = wr) (fun s8 _ => n - (intOf s8).toNat)
  case atStart => exact ⟨0, by omega, rfl, rfl, rfl⟩
  case round =>
    obtain ⟨i, hi, rfl, hP, rfl⟩ := hrel
    by_cases hlt : i < n
    · obtain ⟨ad, x, rfl, hx⟩ := h.some_at hlt
      have hc := (str_rows h hx).1
      have i0 : (0 : Int) ≤ (i : Int) := by omega
      have i1 : (i : Int) < (n : Int) := by omega
      cases hxt : (x.toList == t.toList) with
      | true =>
        have HF := Lib.hid (hasB_hit hx hxt)
        have hxt2 : (t.toList == x.toList) = true := by rw [Bool.beq_comm]; exact hxt
        clear hP hx hxt h
        go_wp2_with fail
        go_ret
        exact ⟨⟨(i : Int), rfl, by rw [HF.out]; exact (decide_eq_true i0).symm⟩, rfl⟩
      | false =>
        have HN := Lib.hid (show hasB (l.take (i + 1)) t = false by rw [hasB_step hx, hP, hxt]; rfl)
        have hxt2 : (t.toList == x.toList) = false := by rw [Bool.beq_comm]; exact hxt
        clear hP hx hxt
        go_wp2_with fail
        go_roundw
        case measure => simp [intOf]; omega
        case rel => exact ⟨i + 1, by omega, by go_num, HN.out, trivial⟩
    · obtain rfl : i = n := by omega
      have HE := Lib.hid (show hasB l t = false by rw [← hP, List.take_of_length_le (by omega)])
      clear hP
      go_wp2_with fail
      go_ret
      exact ⟨⟨-1, rfl, by rw [HE.out]; rfl⟩, rfl⟩
set_option maxRecDepth 20000 in
theorem contains_any (w : World) (A : Option Addr) (n c : Nat) (l : List ByteArray) (t : ByteArray) (h : Rows w anyB .str A n l) (hn : n ≤ 9223372036854775807) :
    Calls Try.prog 25 #[.slice A n c, .string t] w fun e w' => e = .returned (.bool (hasB l t)) ∧ w = w' := by
  go_enter Try.func25, Try.ntmps25
  go_wp2_with (go_at_call 32; refine (index_any _ A n c l t h hn).mono ?_; rintro e w' ⟨⟨j, rfl, hj⟩, rfl⟩; have HJ := Lib.hid hj; clear hj)
  go_ret
  exact ⟨by rw [HJ.out]; rfl, rfl⟩
end Go.Proofs.Ytfkcgmhnledbmaa
