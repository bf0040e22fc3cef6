import Derived.Test.YtpacapodbbnnkaaFltA
import Derived.Test.YtpacapodbbnnkaaFltP2
import Derived.Below
namespace Go.Proofs.Ytpacapodbbnnkaa
open Go.RowKit FP
theorem beq_t {α : Type} [BEq α] [LawfulBEq α] {a b : α} (h : a = b) : (a == b) = true := beq_iff_eq.2 h
theorem w_FltCanon (a : Nat) (ha : a < 18446744073709551616) (w : World) :
    Calls Try.prog 3 #[.float .f64 a] w fun e w' => e = .returned (.bool true) ∧ Below w.heap.size w w' := by
  have h1 : (clsF a == rclsF a) = true := beq_t (cls_same ha)
  have h2 : (ubits (canF a) == ubits (rcanF a)) = true := beq_t (by rw [can_same ha])
  clear ha
  go_enter Try.func3, Try.ntmps3
  go_wp2_with (first | (go_at_call 11; refine (awake_any _).mono ?_; rintro e w' ⟨rfl, rfl⟩) | (go_at_call 12; refine (class_any _ _).mono ?_; rintro e w' ⟨rfl, rfl⟩) | (go_at_call 13; refine (rclass_any _ _).mono ?_; rintro e w' ⟨rfl, rfl⟩) | (go_at_call 15; refine (canon_any _ _).mono ?_; rintro e w' ⟨rfl, rfl⟩) | (go_at_call 16; refine (rcanon_any _ _).mono ?_; rintro e w' ⟨rfl, rfl⟩) | (go_at_call 14; refine (bits_any _ _ _).mono ?_; rintro e w' ⟨rfl, rfl⟩))
  go_ret
  exact ⟨rfl, Below.refl _ _⟩
theorem w_FltKeys (a : Nat) (ha : a < 18446744073709551616) (k : Int) (h0 : 0 ≤ k) (hk : k < 18446744073709551616) (w : World) :
    Calls Try.prog 4 #[.float .f64 a, .int .u64 k] w fun e w' => e = .returned (.bool true) ∧ Below w.heap.size w w' := by
  have hof : ofF k = rofF k := by rw [ofF_eq h0 hk, rofF_eq h0 hk]
  have h1 : (keyF a == rkeyF a) = true := beq_t (key_same ha)
  have h2 : (ubits (ofF k).1 == ubits (rofF k).1) = true := beq_t (by rw [hof])
  have h3 : ((ofF k).2 == (rofF k).2) = true := beq_t (by rw [hof])
  have H0 := Lib.hid hof
  clear hof ha h0 hk
  go_enter Try.func4, Try.ntmps4
  go_wp2_with (first | (go_at_call 11; refine (awake_any _).mono ?_; rintro e w' ⟨rfl, rfl⟩) | (go_at_call 17; refine (of_any _ _).mono ?_; rintro e w' ⟨rfl, rfl⟩))
  refine (rof_any _ _).mono ?_
  rintro e w' ⟨rfl, hb⟩
  go_wp2_with (first | (go_at_call 19; refine (key_any _ _).mono ?_; rintro e w' ⟨rfl, rfl⟩) | (go_at_call 20; refine (rkey_any _ _).mono ?_; rintro e w' ⟨rfl, rfl⟩) | (go_at_call 14; refine (bits_any _ _ _).mono ?_; rintro e w' ⟨rfl, rfl⟩))
  go_ret
  exact ⟨rfl, hb⟩
theorem of_key {a : Nat} (ha : a < 18446744073709551616) : ofF (keyF a) = (rcanF a, true) := by
  have hr := keyV_range a ha
  rw [keyF_eq ha, ofF_eq (by omega) (by omega), rcanF_eq ha]
  rcases keyV_cases a ha with ⟨hn, hk⟩ | ⟨hn, hk, hk2, hk3⟩
  · rw [hk, hn, if_pos rfl]; rfl
  · rw [hn, if_neg Bool.false_ne_true]
    have hni : ¬ 9218868437227405312 < a % 9223372036854775808 := fun g => by have := (nan_iff a).2 g; rw [hn] at this; cases this
    rcases Nat.lt_trichotomy a 9223372036854775808 with g | g | g
    · have hkl := keyV_lo g
      rw [if_neg (by omega)] at hkl
      rw [hkl, val_of_lt g]
      unfold ofV
      rw [if_neg (by omega), if_pos (by omega), if_neg (by omega)]
      by_cases hz : (a : Int) = 0
      · rw [if_pos hz]; exact Prod.ext (by show (9223372036854775808 + (a : Int) - 9223372036854775808).toNat = 0; omega) rfl
      · rw [if_neg hz]; exact Prod.ext (by show (9223372036854775808 + (a : Int) - 9223372036854775808).toNat = a; omega) rfl
    · subst g
      have e : keyV 9223372036854775808 = 9223372036854775808 := by decide
      rw [e, val_of_ge (by omega), if_pos (by omega)]
      rfl
    · have hkl := keyV_hi g ha
      rw [if_neg (by omega)] at hkl
      rw [hkl, val_of_ge (by omega), if_neg (by omega)]
      unfold ofV
      rw [if_neg (by omega), if_neg (by omega), if_neg (by omega), if_neg (by omega)]
      exact Prod.ext (by show (18446744073709551615 - (18446744073709551615 - (a : Int))).toNat = a; omega) rfl
theorem key_of {k : Int} (h0 : 0 ≤ k) (hk : k < 18446744073709551616) (h : (ofF k).2 = true) : keyF (ofF k).1 = k := by
  rw [ofF_eq h0 hk] at h ⊢
  by_cases hz : k = 0
  · subst hz
    have e : ofV 0 = (9221120237041090561, true) := rfl
    rw [e]
    rw [keyF_eq (by decide)]; decide
  · have hr : 4503599627370495 ≤ k ∧ k ≤ 9223372036854775808 + 9218868437227405312 ∧ k ≠ 9223372036854775807 := by
      revert h
      unfold ofV
      rw [if_neg hz]
      repeat' split
      all_goals (intro h; first | (cases h; done) | omega)
    have hm := of_mid hr.1 hr.2.1 hr.2.2
    rw [keyF_eq hm.2.2.1]
    exact hm.2.1
theorem w_FltBack (a : Nat) (ha : a < 18446744073709551616) (k : Int) (h0 : 0 ≤ k) (hk : k < 18446744073709551616) (w : World) :
    Calls Try.prog 5 #[.float .f64 a, .int .u64 k] w fun e w' => e = .returned (.bool true) ∧ Below w.heap.size w w' := by
  have e := of_key ha
  have h1 : (ofF (keyF a)).2 = true := by rw [e]
  have h2 : (ubits (ofF (keyF a)).1 == ubits (rcanF a)) = true := beq_t (by rw [e])
  clear e
  cases h3 : (ofF k).2
  · clear ha h0 hk
    go_enter Try.func5, Try.ntmps5
    go_wp2_with (first | (go_at_call 11; refine (awake_any _).mono ?_; rintro e w' ⟨rfl, rfl⟩) | (go_at_call 19; refine (key_any _ _).mono ?_; rintro e w' ⟨rfl, rfl⟩) | (go_at_call 17; refine (of_any _ _).mono ?_; rintro e w' ⟨rfl, rfl⟩) | (go_at_call 16; refine (rcanon_any _ _).mono ?_; rintro e w' ⟨rfl, rfl⟩) | (go_at_call 14; refine (bits_any _ _ _).mono ?_; rintro e w' ⟨rfl, rfl⟩))
    go_ret
    exact ⟨rfl, Below.refl _ _⟩
  · have h4 : (keyF (ofF k).1 == k) = true := beq_t (key_of h0 hk h3)
    clear ha h0 hk
    go_enter Try.func5, Try.ntmps5
    go_wp2_with (first | (go_at_call 11; refine (awake_any _).mono ?_; rintro e w' ⟨rfl, rfl⟩) | (go_at_call 19; refine (key_any _ _).mono ?_; rintro e w' ⟨rfl, rfl⟩) | (go_at_call 17; refine (of_any _ _).mono ?_; rintro e w' ⟨rfl, rfl⟩) | (go_at_call 16; refine (rcanon_any _ _).mono ?_; rintro e w' ⟨rfl, rfl⟩) | (go_at_call 14; refine (bits_any _ _ _).mono ?_; rintro e w' ⟨rfl, rfl⟩))
    go_ret
    exact ⟨rfl, Below.refl _ _⟩
theorem w_FltMids (a : Nat) (ha : a < 18446744073709551616) (b : Nat) (hb : b < 18446744073709551616) (w : World) :
    Calls Try.prog 7 #[.float .f64 a, .float .f64 b] w fun e w' => e = .returned (.bool true) ∧ Below w.heap.size w w' := by
  have hm := mid_same ha hb
  have h1 : (decide (keyF a < keyF b) == decide (rkeyF a < rkeyF b)) = true := beq_t (by rw [key_same ha, key_same hb])
  have h2 : ((keyF a == keyF b) == (rkeyF a == rkeyF b)) = true := beq_t (by rw [key_same ha, key_same hb])
  have h3 : (stF a b == rstF a b) = true := beq_t (st_same ha hb)
  have h4 : (ubits (midF a b).1 == ubits (rmidF a b).1) = true := beq_t (by rw [hm])
  have h5 : ((midF a b).2 == (rmidF a b).2) = true := beq_t (by rw [hm])
  clear hm ha hb
  go_enter Try.func7, Try.ntmps7
  go_wp2_with (first | (go_at_call 11; refine (awake_any _).mono ?_; rintro e w' ⟨rfl, rfl⟩) | (go_at_call 23; refine (mid_any _ _ _).mono ?_; rintro e w' ⟨rfl, rfl⟩))
  refine (rmid_any _ _ _).mono ?_
  rintro e w' ⟨rfl, hb⟩
  go_wp2_with (first | (go_at_call 21; refine (less_any _ _ _).mono ?_; rintro e w' ⟨rfl, rfl⟩) | (go_at_call 25; refine (rless_any _ _ _).mono ?_; rintro e w' ⟨rfl, rfl⟩) | (go_at_call 26; refine (same_any _ _ _).mono ?_; rintro e w' ⟨rfl, rfl⟩) | (go_at_call 27; refine (rsame_any _ _ _).mono ?_; rintro e w' ⟨rfl, rfl⟩) | (go_at_call 22; refine (steps_any _ _ _).mono ?_; rintro e w' ⟨rfl, rfl⟩) | (go_at_call 28; refine (rsteps_any _ _ _).mono ?_; rintro e w' ⟨rfl, rfl⟩) | (go_at_call 14; refine (bits_any _ _ _).mono ?_; rintro e w' ⟨rfl, rfl⟩))
  go_ret
  exact ⟨rfl, hb⟩
theorem w_FltOrder (a : Nat) (ha : a < 18446744073709551616) (b : Nat) (hb : b < 18446744073709551616) (w : World) :
    Calls Try.prog 9 #[.float .f64 a, .float .f64 b] w fun e w' => e = .returned (.bool true) ∧ Below w.heap.size w w' := by
  have ea := ne_self a ha
  have eb := ne_self b hb
  have ca := keyV_cases a ha
  have cb := keyV_cases b hb
  have ka := keyF_eq ha
  have kb := keyF_eq hb
  have lt : fnan a = false → fnan b = false → (decide (keyF a < keyF b) == (FloatKind.f64.format.order a b == some .lt)) = true := fun na nb => by
    rw [fmt, lt_val a b ha hb na nb, ka, kb]
    unfold keyV
    rw [na, nb, if_neg Bool.false_ne_true, if_neg Bool.false_ne_true]
    refine beq_t (decide_eq_decide.2 ?_)
    repeat' split
    all_goals omega
  have sm : fnan a = false → fnan b = false → ((keyF a == keyF b) == (FloatKind.f64.format.order a b == some .eq)) = true := fun na nb => by
    rw [fmt, eq_val a b ha hb na nb, ka, kb]
    unfold keyV
    rw [na, nb, if_neg Bool.false_ne_true, if_neg Bool.false_ne_true]
    refine beq_t ?_
    rw [Bool.eq_iff_iff, beq_iff_eq, decide_eq_true_iff]
    repeat' split
    all_goals omega
  have lessn : fnan a = true → decide (keyF a < keyF b) = !fnan b := fun na => by
    rw [ka, kb]
    rcases ca with ⟨_, ca⟩ | ⟨ca, _⟩
    · rcases cb with ⟨nb, cb⟩ | ⟨nb, cb⟩
      · rw [ca, cb, nb]; rfl
      · rw [ca, nb, decide_eq_true (by omega)]; rfl
    · rw [na] at ca; cases ca
  have lessn2 : fnan b = true → decide (keyF a < keyF b) = false := fun nb => by
    rw [ka, kb]
    rcases cb with ⟨_, cb⟩ | ⟨cb, _⟩
    · have := (keyV_range a ha).1
      exact decide_eq_false (by omega)
    · rw [nb] at cb; cases cb
  rw [← fmt] at ea eb
  clear ca cb ka kb
  have eqb : (FloatKind.f64.format.order b b == some .eq) = !fnan b := by rw [← eb]; simp [bne]
  cases na : fnan a
  · cases nb : fnan b
    · have h1 := lt na nb
      have h2 := sm na nb
      rw [na] at ea
      rw [nb] at eb
      clear lt sm lessn lessn2 ha hb eqb
      go_enter Try.func9, Try.ntmps9
      go_wp2_with (first | (go_at_call 11; refine (awake_any _).mono ?_; rintro e w' ⟨rfl, rfl⟩) | (go_at_call 21; refine (less_any _ _ _).mono ?_; rintro e w' ⟨rfl, rfl⟩) | (go_at_call 26; refine (same_any _ _ _).mono ?_; rintro e w' ⟨rfl, rfl⟩))
      go_ret
      exact ⟨rfl, Below.refl _ _⟩
    · have h1 := lessn2 nb
      rw [na] at ea
      rw [nb] at eb eqb
      clear lt sm lessn lessn2 ha hb
      go_enter Try.func9, Try.ntmps9
      go_wp2_with (first | (go_at_call 11; refine (awake_any _).mono ?_; rintro e w' ⟨rfl, rfl⟩) | (go_at_call 21; refine (less_any _ _ _).mono ?_; rintro e w' ⟨rfl, rfl⟩) | (go_at_call 26; refine (same_any _ _ _).mono ?_; rintro e w' ⟨rfl, rfl⟩))
      go_ret
      exact ⟨rfl, Below.refl _ _⟩
  · have h1 := lessn na
    rw [na] at ea
    cases nb : fnan b
    all_goals
      rw [nb] at eb eqb h1
      clear lt sm lessn lessn2 ha hb
      go_enter Try.func9, Try.ntmps9
      go_wp2_with (first | (go_at_call 11; refine (awake_any _).mono ?_; rintro e w' ⟨rfl, rfl⟩) | (go_at_call 21; refine (less_any _ _ _).mono ?_; rintro e w' ⟨rfl, rfl⟩) | (go_at_call 26; refine (same_any _ _ _).mono ?_; rintro e w' ⟨rfl, rfl⟩))
      go_ret
      exact ⟨rfl, Below.refl _ _⟩
end Go.Proofs.Ytpacapodbbnnkaa
