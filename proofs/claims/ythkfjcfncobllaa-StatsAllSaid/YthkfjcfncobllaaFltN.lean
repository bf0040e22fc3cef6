import Derived.Test.YthkfjcfncobllaaStaX
namespace Go.Proofs.Ythkfjcfncobllaa
open Go.RowKit FP
set_option linter.unusedVariables false
/-! What is read is written as it was: nought and a number, a number by one. -/
theorem mg_pos {r : Nat} (h : 0 < r) : 0 < mg r := by unfold mg; split <;> omega
theorem mg_log {r : Nat} (h : 4503599627370496 ≤ r) : (mg r).log2 = 52 := by
  unfold mg
  rw [if_neg (by omega)]
  have := Nat.mod_lt r (show 0 < 4503599627370496 by omega)
  exact (Nat.log2_eq_iff (by omega)).2 ⟨by omega, by omega⟩
theorem log_shift (m k : Nat) (h : 0 < m) : (m * 2 ^ k).log2 = m.log2 + k := by
  have hp : 0 < m * 2 ^ k := Nat.mul_pos h (Nat.two_pow_pos _)
  have h1 := (Nat.log2_eq_iff (n := m) (k := m.log2) (by omega)).1 rfl
  refine (Nat.log2_eq_iff (by omega)).2 ⟨?_, ?_⟩
  · rw [Nat.pow_add]; exact Nat.mul_le_mul_right _ h1.1
  · rw [show m.log2 + k + 1 = (m.log2 + 1) + k by omega, Nat.pow_add]; exact Nat.mul_lt_mul_of_pos_right h1.2 (Nat.two_pow_pos _)
theorem cut_exact (s : Bool) (m k : Nat) (h : 0 < m) : Ieee.Toward.even.cut s (m * 2 ^ k) k = m := by
  unfold Ieee.Toward.cut
  have hl := log_shift m k h
  simp only []
  rw [hl, Nat.min_eq_left (by omega), Nat.one_shiftLeft, Nat.mul_div_cancel _ (Nat.two_pow_pos k), Nat.mul_mod_left]
  have : (decide (2 ^ k < 2 * 0) || (2 ^ k == 2 * 0 && m % 2 == 1)) = false := by simp
  rw [this]
  rfl
theorem nearest_exact (s : Bool) (r k : Nat) (h0 : 0 < r) (h : r < 9218868437227405312) : Ieee.double.nearest s (mg r * 2 ^ k) (-1074 + (ex r : Int) - k) = Ieee.double.word s r := by
  have e2 : Ieee.double.binade = 4503599627370496 := rfl
  have e3 : Ieee.double.infRung = 9218868437227405312 := by decide
  have e4 : Ieee.double.leastPlace = -1074 := by decide
  have e5 : Ieee.double.fractionBits = 52 := rfl
  have hm := mg_pos h0
  have hp : 0 < mg r * 2 ^ k := Nat.mul_pos hm (Nat.two_pow_pos _)
  have hl := log_shift (mg r) k hm
  unfold Ieee.Format.nearest
  rw [if_neg (by omega)]
  simp only [e2, e3, e4, e5, hl]
  have hlast : max (-1074 + (ex r : Int) - k + ((mg r).log2 + k : Nat) - (52 : Nat)) (-1074) = -1074 + (ex r : Int) := by
    by_cases hr : 4503599627370496 ≤ r
    · rw [mg_log hr]; omega
    · have e : ex r = 0 := by unfold ex; rw [if_pos (by omega)]
      have g : mg r = r := by unfold mg; rw [if_pos (by omega)]
      have : (mg r).log2 ≤ 51 := by
        rw [g]
        have := (Nat.log2_lt (n := r) (k := 52) (by omega)).2 (by omega)
        omega
      rw [e]; omega
  rw [hlast, show (-1074 + (ex r : Int) - k - (-1074 + (ex r : Int))).toNat = 0 by omega, show (-1074 + (ex r : Int) - (-1074 + (ex r : Int) - k)).toNat = k by omega, Nat.shiftLeft_zero, cut_exact _ _ _ hm, show (-1074 + (ex r : Int) - -1074).toNat = ex r by omega]
  have hr : ex r * 4503599627370496 + mg r = r := by
    unfold ex mg
    by_cases hr : r < 4503599627370496
    · rw [if_pos hr, if_pos hr]; omega
    · rw [if_neg hr, if_neg hr]
      have h1 : 1 ≤ r / 4503599627370496 := by omega
      omega
  rw [hr, Nat.min_eq_left (by omega)]
theorem word_back {x : Nat} (hx : x < B64) : Ieee.double.word (decide (9223372036854775808 ≤ x)) (x % 9223372036854775808) = x := by
  have e1 : Ieee.double.signWeight = 9223372036854775808 := rfl
  have hx : x < 18446744073709551616 := hx
  unfold Ieee.Format.word
  rw [e1]
  split
  · rename_i h; simp at h; omega
  · rename_i h; simp at h; omega
/-- Nought and a number. -/
theorem add_zero_left {a : Nat} (ha : a < B64) (hn : fnan a = false) : ∃ r, FloatKind.f64.format.add 0 a = some r ∧ r < B64 ∧ rcanF r = rcanF a := by
  have hz : Ieee.double.read 0 = .number false 0 (-1074) := by decide
  have hnn : ¬ 9218868437227405312 < a % 9223372036854775808 := by
    intro h; unfold fnan at hn; rw [decide_eq_true h] at hn; cases hn
  show ∃ r, ((Ieee.double.read 0).sum (Ieee.double.read a)).map Ieee.double.write = some r ∧ _
  rw [hz]
  rcases Nat.lt_or_ge (a % 9223372036854775808) 9218868437227405312 with h | h
  · rw [read_fin a ha h]
    generalize hs : decide (9223372036854775808 ≤ a) = s
    generalize hr : a % 9223372036854775808 = r at h
    unfold Ieee.Datum.sum
    simp only [Option.map_some, Option.some.injEq, exists_eq_left']
    have hb : min (-1074 : Int) (-1074 + (ex r : Int)) = -1074 := by omega
    rw [hb, signed_eq, signed_eq, show (-1074 + (ex r : Int) - -1074).toNat = ex r by omega]
    by_cases h0 : r = 0
    · subst h0
      have hva : val a = 0 := by
        have ha : a < 18446744073709551616 := ha
        unfold val; split <;> omega
      have e : mg 0 = 0 := rfl
      rw [e]
      simp only [Int.natCast_zero, Int.zero_mul, Int.mul_zero, Int.add_zero, Bool.false_and, if_true, Int.natAbs_zero]
      show Ieee.double.nearest false 0 (-1074) < B64 ∧ rcanF (Ieee.double.nearest false 0 (-1074)) = rcanF a
      have : Ieee.double.nearest false 0 (-1074) = 0 := by decide
      rw [this, rcanF_eq ha, if_neg (by rw [hn]; decide), if_pos hva]
      exact ⟨by decide, by rw [rcanF_eq (by decide), if_neg (by decide), if_pos (by decide)]⟩
    · have hm := mg_pos (r := r) (by omega)
      have hp : 0 < mg r * 2 ^ ex r := Nat.mul_pos hm (Nat.two_pow_pos _)
      have ep : ((mg r : Int) * 2 ^ ex r) = ((mg r * 2 ^ ex r : Nat) : Int) := by simp
      have hne := nearest_exact s r (ex r) (by omega) h
      rw [show -1074 + (ex r : Int) - (ex r : Int) = -1074 by omega] at hne
      have hw := word_back ha
      rw [hs, hr] at hw
      rw [ep]
      generalize mg r * 2 ^ ex r = q at hp hne
      have hq : (if s = true then (-1 : Int) else 1) * (q : Int) = if s = true then -(q : Int) else (q : Int) := by cases s <;> simp
      simp only [Int.natCast_zero, Int.zero_mul, Int.mul_zero, Int.zero_add, hq]
      have ht : (if s = true then -(q : Int) else (q : Int)) ≠ 0 := by cases s <;> simp <;> omega
      have ha2 : (if s = true then -(q : Int) else (q : Int)).natAbs = q := by cases s <;> simp
      have hlt : decide ((if s = true then -(q : Int) else (q : Int)) < 0) = s := by cases s <;> simp <;> omega
      rw [if_neg ht, ha2, hlt]
      show Ieee.double.nearest s q (-1074) < B64 ∧ rcanF (Ieee.double.nearest s q (-1074)) = rcanF a
      rw [hne, hw]
      exact ⟨ha, rfl⟩
  · have h2 : a % 9223372036854775808 = 9218868437227405312 := by omega
    rw [read_inf a ha h2]
    refine ⟨_, rfl, ?_⟩
    show Ieee.double.word _ Ieee.double.infRung < B64 ∧ rcanF (Ieee.double.word _ Ieee.double.infRung) = rcanF a
    have e3 : Ieee.double.infRung = 9218868437227405312 := by decide
    have hw := word_back ha
    rw [h2] at hw
    rw [e3, hw]
    exact ⟨ha, rfl⟩
/-- A number by one. -/
theorem div_one {a : Nat} (ha : a < B64) (hn : fnan a = false) : floatBits .quo .f64 a 4607182418800017408 = some a := by
  have hz : Ieee.double.read 4607182418800017408 = .number false 4503599627370496 (-52) := by decide
  have hnn : ¬ 9218868437227405312 < a % 9223372036854775808 := by
    intro h; unfold fnan at hn; rw [decide_eq_true h] at hn; cases hn
  show ((Ieee.double.read a).quotient (52 + 2) (Ieee.double.read 4607182418800017408)).map Ieee.double.write = some a
  rw [hz]
  have hw := word_back ha
  rcases Nat.lt_or_ge (a % 9223372036854775808) 9218868437227405312 with h | h
  · rw [read_fin a ha h]
    generalize hs : decide (9223372036854775808 ≤ a) = s at hw
    generalize hr : a % 9223372036854775808 = r at h hw
    unfold Ieee.Datum.quotient
    dsimp only
    rw [if_neg (by decide)]
    have hlg : Nat.log2 4503599627370496 = 52 := by decide +kernel
    simp only [Option.map_some, Option.some.injEq, hlg, Bool.xor_false]
    show Ieee.double.nearest s _ _ = a
    by_cases h0 : r = 0
    · subst h0
      have e : mg 0 = 0 := rfl
      rw [e, Nat.zero_shiftLeft]
      rw [← hw]
      rfl
    · have hm := mg_pos (r := r) (by omega)
      have hlog : (mg r).log2 ≤ 52 := by
        have : mg r < 2 ^ 53 := by
          unfold mg
          have := Nat.mod_lt r (show 0 < 4503599627370496 by omega)
          split <;> omega
        have := (Nat.log2_lt (n := mg r) (k := 53) (by omega)).2 this
        omega
      obtain ⟨j, hj⟩ : ∃ j, 52 + 2 + 52 - (mg r).log2 = j + 52 := ⟨52 + 2 - (mg r).log2, by omega⟩
      have e1 : mg r <<< (j + 52) = (mg r * 2 ^ j) * 4503599627370496 := by rw [Nat.shiftLeft_eq, Nat.pow_add, Nat.mul_assoc]
      rw [hj, e1, Nat.mul_div_cancel _ (by decide), Nat.mul_mod_left]
      have e2 : 2 * (mg r * 2 ^ j) + ((0 : Nat) != 0).toNat = mg r * 2 ^ (j + 1) := by
        rw [Nat.pow_succ]; simp only [bne_self_eq_false, Bool.toNat_false]; rw [Nat.add_zero, Nat.mul_comm 2, Nat.mul_assoc]
      rw [e2, show (-1074 + (ex r : Int) - -52 - ((j + 52 : Nat) : Int) - 1) = -1074 + (ex r : Int) - ((j + 1 : Nat) : Int) by omega, nearest_exact s r (j + 1) (by omega) h, hw]
  · have h2 : a % 9223372036854775808 = 9218868437227405312 := by omega
    rw [read_inf a ha h2]
    rw [h2] at hw
    have e3 : Ieee.double.infRung = 9218868437227405312 := by decide
    show some (Ieee.double.word (decide (9223372036854775808 ≤ a) ^^ false) Ieee.double.infRung) = some a
    rw [e3, Bool.xor_false, hw]
end Go.Proofs.Ythkfjcfncobllaa
