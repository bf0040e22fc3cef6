import Derived.Test.YthkfjcfncobllaaFltM
import Derived.Test.YthkfjcfncobllaaMem
import Derived.Laws.FloatArith
namespace Go.Proofs.Ythkfjcfncobllaa
open Go.RowKit FP
theorem add_nan (x y : Nat) (h : fnan x = true) : FloatKind.f64.format.add x y = none := by
  obtain ⟨s, t, hr⟩ := read_nan x (by unfold fnan at h; exact of_decide_eq_true h)
  show ((Ieee.double.read x).sum (Ieee.double.read y)).map Ieee.double.write = none
  rw [hr]; rfl
theorem run_add_none (P : Program) (t : TypeId) (x y : Nat) (w : World) (h : FloatKind.f64.format.add x y = none) :
    ∃ r, (binOp .add t (.float .f64 x) (.float .f64 y)).run P w = .ok (.float .f64 r) w.drew ∧ r < 18446744073709551616 ∧ fnan r = true := by
  refine ⟨Question.cut (.nanBits .f64 x y) (w.tape w.drawn (.nanBits .f64 x y)), ?_, ?_, ?_⟩
  · show Sem.run P (Op.floatArith .add .f64 x y) w = _
    unfold Op.floatArith
    simp only [h]
    rfl
  · generalize w.tape w.drawn (.nanBits .f64 x y) = t
    show (t % 2) * 2 ^ 63 + 0x7ff0000000000000 + 1 + (t / 2) % (2 ^ 52 - 1) < 18446744073709551616
    omega
  · generalize w.tape w.drawn (.nanBits .f64 x y) = t
    unfold fnan
    refine decide_eq_true ?_
    show 9218868437227405312 < ((t % 2) * 2 ^ 63 + 0x7ff0000000000000 + 1 + (t / 2) % (2 ^ 52 - 1)) % 9223372036854775808
    rcases Nat.mod_two_eq_zero_or_one t with h2 | h2
    · rw [h2]; omega
    · rw [h2]; omega
def encF (b : Nat) : Value := .float .f64 b
def Fs (w : World) (A : Option Addr) (n : Nat) (l : List Nat) : Prop := Rc w A n (l.map encF) ∧ ∀ x ∈ l, x < 18446744073709551616
/-- A sum: none where a NaN came of it. -/
def sumS (o : Option Nat) (f : Nat) : Option Nat := if fnan f = true then o else o.bind fun t => FloatKind.f64.format.add t f
def sumL (l : List Nat) : Option Nat := l.foldl sumS (some 0)
def sumV (l : List Nat) : Nat := match sumL l with | some t => rcanF t | none => 9221120237041090561
/-- What a slot holds of it. -/
def Is (o : Option Nat) (b : Nat) : Prop := b < 18446744073709551616 ∧ (match o with | some t => b = t | none => fnan b = true)
theorem sum_step {l : List Nat} {k f : Nat} (h : l[k]? = some f) : sumL (l.take (k + 1)) = sumS (sumL (l.take k)) f := by
  unfold sumL; rw [take_at h, List.foldl_append]; rfl
theorem sum_can {l : List Nat} {b : Nat} (h : Is (sumL l) b) : canF b = sumV l := by
  unfold sumV
  rw [can_same h.1]
  have h2 := h.2
  cases ho : sumL l with
  | none => rw [ho] at h2; rw [rcanF_eq h.1, if_pos h2]
  | some t => rw [ho] at h2; rw [show b = t from h2]
theorem sum_any (a : Option Addr) (n cap : Nat) (l : List Nat) (w : World) (ha : Fs w a n l) (hn : n ≤ 9223372036854775807) :
    Calls Try.prog 32 #[.slice a n cap] w fun e w' => e = .returned (.float .f64 (sumV l)) ∧ Below w.heap.size w w' := by
  go_enter Try.func32, Try.ntmps32
  go_wp2_with fail
  go_loopw [3, 8] (fun t i wr => ∃ k b : Nat, k ≤ n ∧ i = .int .i64 k ∧ t = .float .f64 b ∧ Is (sumL (l.take k)) b ∧ Below w.heap.size w wr) (fun _ i _ => n - (intOf i).toNat)
  case atStart => exact ⟨0, 0, by omega, rfl, rfl, ⟨by decide, rfl⟩, Below.refl _ _⟩
  case round =>
    obtain ⟨k, b, hk, rfl, rfl, hI, hbel⟩ := hrel
    have hll : l.length = n := by have := ha.1.1; simpa using this
    by_cases hlt : k < n
    · obtain ⟨f, hx⟩ : ∃ f, l[k]? = some f := ⟨l[k]'(by omega), List.getElem?_eq_getElem (by omega)⟩
      obtain ⟨ad, rfl⟩ : ∃ ad, a = some ad := by cases a with
        | none => exact absurd (ha.1.2.1 rfl) (by omega)
        | some ad => exact ⟨ad, rfl⟩
      have c0 := cell_below hbel (ha.1.2.2 ad rfl k (encF f) (by rw [List.getElem?_map, hx]; rfl))
      have hf := ha.2 f (List.mem_of_getElem? hx)
      have HS := Lib.hid (sum_step hx)
      have i0 : (0 : Int) ≤ (k : Int) := by omega
      have i1 : (k : Int) < (n : Int) := by omega
      have hne : (FloatKind.f64.format.order f f != some .eq) = fnan f := ne_self f hf
      unfold encF at c0
      clear ha hx
      cases hfn : fnan f with
      | true =>
        have heq : (FloatKind.f64.format.order f f == some .eq) = false := by
          rw [hfn] at hne
          unfold bne at hne
          cases h5 : (FloatKind.f64.format.order f f == some .eq) with
          | false => rfl
          | true => rw [h5] at hne; cases hne
        go_wp2_with fail
        go_roundw
        case rel => exact ⟨k + 1, b, by omega, by go_num, rfl, by rw [HS.out, sumS, hfn]; exact hI, hbel⟩
        case measure => simp [intOf]; omega
      | false =>
        have heq : (FloatKind.f64.format.order f f == some .eq) = true := by
          rw [hfn] at hne
          unfold bne at hne
          cases h5 : (FloatKind.f64.format.order f f == some .eq) with
          | true => rfl
          | false => rw [h5] at hne; cases hne
        cases hadd : FloatKind.f64.format.add b f with
        | some r =>
          have hr : r < 18446744073709551616 := FloatKind.f64.format.add_lt hadd
          have hfb : floatBits .add .f64 b f = some r := hadd
          have hrun := fun t => run_float_arith (P := Try.prog) wr .add t .f64 b f r hfb
          have HI : Is (sumL (l.take (k + 1))) r := by
            rw [HS.out, sumS, hfn]
            refine ⟨hr, ?_⟩
            cases ho : sumL (l.take k) with
            | none => rw [ho] at hI; rw [add_nan b f hI.2] at hadd; cases hadd
            | some t =>
              rw [ho] at hI
              obtain rfl : b = t := hI.2
              show match (some b).bind (fun t => FloatKind.f64.format.add t f) with | some t => r = t | none => fnan r = true
              rw [Option.bind_some, hadd]
          have HH := Lib.hid HI
          clear HI hadd hfb hI
          go_wp2_with fail
          go_roundw
          case rel => exact ⟨k + 1, r, by omega, by go_num, rfl, HH.out, hbel⟩
          case measure => simp [intOf]; omega
        | none =>
          obtain ⟨r, hrun, hr, hrn⟩ := run_add_none Try.prog 27 b f wr hadd
          have HI : Is (sumL (l.take (k + 1))) r := by
            rw [HS.out, sumS, hfn]
            refine ⟨hr, ?_⟩
            cases ho : sumL (l.take k) with
            | none => exact hrn
            | some t =>
              rw [ho] at hI
              obtain rfl : b = t := hI.2
              show match (some b).bind (fun t => FloatKind.f64.format.add t f) with | some t => r = t | none => fnan r = true
              rw [Option.bind_some, hadd]
              exact hrn
          have HH := Lib.hid HI
          clear HI hadd hI
          go_wp2_with fail
          go_roundw
          case rel => exact ⟨k + 1, r, by omega, by go_num, rfl, HH.out, hbel.trans ⟨rfl, rfl, rfl, Nat.le_refl _, fun _ _ => rfl⟩⟩
          case measure => simp [intOf]; omega
    · obtain rfl : k = l.length := by omega
      rw [List.take_of_length_le (Nat.le_refl _)] at hI
      have HV := Lib.hid (sum_can hI)
      clear hI ha
      go_wp2_with (go_at_call 22; refine (canon_any _ _).mono ?_; rintro e w' ⟨rfl, rfl⟩)
      go_ret
      exact ⟨ret_flt HV.out, hbel⟩
theorem rsum_any (a : Option Addr) (n cap : Nat) (l : List Nat) (w : World) (ha : Fs w a n l) (hn : n ≤ 9223372036854775807) :
    Calls Try.prog 36 #[.slice a n cap] w fun e w' => e = .returned (.float .f64 (sumV l)) ∧ Below w.heap.size w w' := by
  go_enter Try.func36, Try.ntmps36
  go_wp2_with fail
  go_loopw [3, 8] (fun t i wr => ∃ k b : Nat, k ≤ n ∧ i = .int .i64 k ∧ t = .float .f64 b ∧ Is (sumL (l.take k)) b ∧ Below w.heap.size w wr) (fun _ i _ => n - (intOf i).toNat)
  case atStart => exact ⟨0, 0, by omega, rfl, rfl, ⟨by decide, rfl⟩, Below.refl _ _⟩
  case round =>
    obtain ⟨k, b, hk, rfl, rfl, hI, hbel⟩ := hrel
    have hll : l.length = n := by have := ha.1.1; simpa using this
    by_cases hlt : k < n
    · obtain ⟨f, hx⟩ : ∃ f, l[k]? = some f := ⟨l[k]'(by omega), List.getElem?_eq_getElem (by omega)⟩
      obtain ⟨ad, rfl⟩ : ∃ ad, a = some ad := by cases a with
        | none => exact absurd (ha.1.2.1 rfl) (by omega)
        | some ad => exact ⟨ad, rfl⟩
      have c0 := cell_below hbel (ha.1.2.2 ad rfl k (encF f) (by rw [List.getElem?_map, hx]; rfl))
      have hf := ha.2 f (List.mem_of_getElem? hx)
      have HS := Lib.hid (sum_step hx)
      have i0 : (0 : Int) ≤ (k : Int) := by omega
      have i1 : (k : Int) < (n : Int) := by omega
      have hne : (FloatKind.f64.format.order f f != some .eq) = fnan f := ne_self f hf
      unfold encF at c0
      clear ha hx
      cases hfn : fnan f with
      | true =>
        have heq : (FloatKind.f64.format.order f f == some .eq) = false := by
          rw [hfn] at hne
          unfold bne at hne
          cases h5 : (FloatKind.f64.format.order f f == some .eq) with
          | false => rfl
          | true => rw [h5] at hne; cases hne
        go_wp2_with fail
        go_roundw
        case rel => exact ⟨k + 1, b, by omega, by go_num, rfl, by rw [HS.out, sumS, hfn]; exact hI, hbel⟩
        case measure => simp [intOf]; omega
      | false =>
        have heq : (FloatKind.f64.format.order f f == some .eq) = true := by
          rw [hfn] at hne
          unfold bne at hne
          cases h5 : (FloatKind.f64.format.order f f == some .eq) with
          | true => rfl
          | false => rw [h5] at hne; cases hne
        cases hadd : FloatKind.f64.format.add b f with
        | some r =>
          have hr : r < 18446744073709551616 := FloatKind.f64.format.add_lt hadd
          have hfb : floatBits .add .f64 b f = some r := hadd
          have hrun := fun t => run_float_arith (P := Try.prog) wr .add t .f64 b f r hfb
          have HI : Is (sumL (l.take (k + 1))) r := by
            rw [HS.out, sumS, hfn]
            refine ⟨hr, ?_⟩
            cases ho : sumL (l.take k) with
            | none => rw [ho] at hI; rw [add_nan b f hI.2] at hadd; cases hadd
            | some t =>
              rw [ho] at hI
              obtain rfl : b = t := hI.2
              show match (some b).bind (fun t => FloatKind.f64.format.add t f) with | some t => r = t | none => fnan r = true
              rw [Option.bind_some, hadd]
          have HH := Lib.hid HI
          clear HI hadd hfb hI
          go_wp2_with fail
          go_roundw
          case rel => exact ⟨k + 1, r, by omega, by go_num, rfl, HH.out, hbel⟩
          case measure => simp [intOf]; omega
        | none =>
          obtain ⟨r, hrun, hr, hrn⟩ := run_add_none Try.prog 27 b f wr hadd
          have HI : Is (sumL (l.take (k + 1))) r := by
            rw [HS.out, sumS, hfn]
            refine ⟨hr, ?_⟩
            cases ho : sumL (l.take k) with
            | none => exact hrn
            | some t =>
              rw [ho] at hI
              obtain rfl : b = t := hI.2
              show match (some b).bind (fun t => FloatKind.f64.format.add t f) with | some t => r = t | none => fnan r = true
              rw [Option.bind_some, hadd]
              exact hrn
          have HH := Lib.hid HI
          clear HI hadd hI
          go_wp2_with fail
          go_roundw
          case rel => exact ⟨k + 1, r, by omega, by go_num, rfl, HH.out, hbel.trans ⟨rfl, rfl, rfl, Nat.le_refl _, fun _ _ => rfl⟩⟩
          case measure => simp [intOf]; omega
    · obtain rfl : k = l.length := by omega
      rw [List.take_of_length_le (Nat.le_refl _)] at hI
      have HV := Lib.hid ((can_same hI.1).symm.trans (sum_can hI))
      clear hI ha
      go_wp2_with (go_at_call 27; refine (rcanon_any _ _).mono ?_; rintro e w' ⟨rfl, rfl⟩)
      go_ret
      exact ⟨ret_flt HV.out, hbel⟩
/-! ### Ends -/
theorem lt_key {a b : Nat} (ha : a < 18446744073709551616) (hb : b < 18446744073709551616) (na : fnan a = false) (nb : fnan b = false) : decide (keyF a < keyF b) = (FloatKind.f64.format.order a b == some .lt) := by
  rw [keyF_eq ha, keyF_eq hb, fmt, lt_val a b ha hb na nb]
  unfold keyV
  rw [na, nb, if_neg Bool.false_ne_true, if_neg Bool.false_ne_true]
  refine decide_eq_decide.2 ?_
  repeat' split
  all_goals omega
theorem gt_key {a b : Nat} (ha : a < 18446744073709551616) (hb : b < 18446744073709551616) (na : fnan a = false) (nb : fnan b = false) : decide (keyF b < keyF a) = (FloatKind.f64.format.order a b == some .gt) := by
  rw [keyF_eq ha, keyF_eq hb, fmt, gt_val a b ha hb na nb]
  unfold keyV
  rw [na, nb, if_neg Bool.false_ne_true, if_neg Bool.false_ne_true]
  refine decide_eq_decide.2 ?_
  repeat' split
  all_goals omega
def endS (o : Ordering) (t f : Nat) : Nat := if fnan f = true then t else if fnan t = true then f else if (FloatKind.f64.format.order f t == some o) = true then f else t
def endL (o : Ordering) (l : List Nat) : Nat := l.foldl (endS o) 9221120237041090561
theorem end_step {o : Ordering} {l : List Nat} {k f : Nat} (h : l[k]? = some f) : endL o (l.take (k + 1)) = endS o (endL o (l.take k)) f := by
  unfold endL; rw [take_at h, List.foldl_append]; rfl
theorem eq_self (f : Nat) (hf : f < 18446744073709551616) : (FloatKind.f64.format.order f f == some .eq) = !fnan f := by
  have hne : (FloatKind.f64.format.order f f != some .eq) = fnan f := ne_self f hf
  unfold bne at hne
  rw [← hne, Bool.not_not]
theorem mathnan (w : World) :
    Calls Try.prog 54 #[] w fun e w' => e = .returned (.float .f64 9221120237041090561) ∧ w = w' := by
  have hf := run_frombits
  go_enter Try.func54, Try.ntmps54
  go_wp2
  go_ret
  exact ⟨rfl, rfl⟩
theorem most1_any (a b : Nat) (w : World) :
    Calls Try.prog 53 #[.float .f64 a, .float .f64 b] w fun e w' => e = .returned (.bool (decide (keyF b < keyF a))) ∧ w = w' := by
  go_enter Try.func53, Try.ntmps53
  go_wp2_with (go_at_call 41; refine (less_any _ _ _).mono ?_; rintro e w' ⟨rfl, rfl⟩)
  go_ret
  exact ⟨rfl, rfl⟩
theorem endLess (a : Option Addr) (n cap : Nat) (l : List Nat) (w : World) (ha : Fs w a n l) (hn : n ≤ 9223372036854775807) :
    Calls Try.prog 52 #[.slice a n cap, .func (.func 41) #[] #[]] w fun e w' => e = .returned (.float .f64 (rcanF (endL .lt l))) ∧ Below w.heap.size w w' := by
  go_enter Try.func52, Try.ntmps52
  go_wp2_with (go_at_call 54; refine (mathnan _).mono ?_; rintro e w' ⟨rfl, rfl⟩)
  go_loopw [5, 11] (fun t i wr => ∃ k b : Nat, k ≤ n ∧ i = .int .i64 k ∧ t = .float .f64 b ∧ b < 18446744073709551616 ∧ Hid (b = endL .lt (l.take k)) ∧ wr = w) (fun _ i _ => n - (intOf i).toNat)
  case atStart => exact ⟨0, 9221120237041090561, by omega, rfl, rfl, by decide, Lib.hid rfl, rfl⟩
  case round =>
    obtain ⟨k, b, hk, rfl, rfl, hb, HB, rfl⟩ := hrel
    have hll : l.length = n := by have := ha.1.1; simpa using this
    by_cases hlt : k < n
    · obtain ⟨f, hx⟩ : ∃ f, l[k]? = some f := ⟨l[k]'(by omega), List.getElem?_eq_getElem (by omega)⟩
      obtain ⟨ad, rfl⟩ : ∃ ad, a = some ad := by cases a with
        | none => exact absurd (ha.1.2.1 rfl) (by omega)
        | some ad => exact ⟨ad, rfl⟩
      have c0 := ha.1.2.2 ad rfl k (encF f) (by rw [List.getElem?_map, hx]; rfl)
      have hf := ha.2 f (List.mem_of_getElem? hx)
      have HS := Lib.hid (end_step (o := .lt) hx)
      have i0 : (0 : Int) ≤ (k : Int) := by omega
      have i1 : (k : Int) < (n : Int) := by omega
      have hef := eq_self f hf
      have heb : (FloatKind.f64.format.order b b != some .eq) = fnan b := ne_self b hb
      unfold encF at c0
      clear hx
      cases hfn : fnan f with
      | true =>
        rw [hfn] at hef
        have HN := Lib.hid (show b = endL .lt (l.take (k + 1)) by rw [HS.out, ← HB.out, endS, hfn, if_pos rfl])
        go_wp2_with fail
        go_roundw
        case rel => exact ⟨k + 1, b, by omega, by go_num, rfl, hb, HN, trivial⟩
        case measure => simp [intOf]; omega
      | false =>
        rw [hfn] at hef
        cases hbn : fnan b with
        | true =>
          rw [hbn] at heb
          have HN := Lib.hid (show f = endL .lt (l.take (k + 1)) by rw [HS.out, ← HB.out, endS, hfn, hbn, if_neg Bool.false_ne_true, if_pos rfl])
          go_wp2_with fail
          go_roundw
          case rel => exact ⟨k + 1, f, by omega, by go_num, rfl, hf, HN, trivial⟩
          case measure => simp [intOf]; omega
        | false =>
          rw [hbn] at heb
          cases hlt2 : (FloatKind.f64.format.order f b == some .lt) with
          | true =>
            have hkk : decide (keyF f < keyF b) = (FloatKind.f64.format.order f b == some .lt) := lt_key hf hb hfn hbn
            rw [hlt2] at hkk
            have HN := Lib.hid (show f = endL .lt (l.take (k + 1)) by rw [HS.out, ← HB.out, endS, hfn, hbn, if_neg Bool.false_ne_true, if_neg Bool.false_ne_true, if_pos hlt2])
            go_wp2_with ((go_at_call 41; refine (less_any _ _ _).mono ?_; rintro e w' ⟨rfl, rfl⟩))
            go_roundw
            case rel => exact ⟨k + 1, f, by omega, by go_num, rfl, hf, HN, trivial⟩
            case measure => simp [intOf]; omega
          | false =>
            have hkk : decide (keyF f < keyF b) = (FloatKind.f64.format.order f b == some .lt) := lt_key hf hb hfn hbn
            rw [hlt2] at hkk
            have HN := Lib.hid (show b = endL .lt (l.take (k + 1)) by rw [HS.out, ← HB.out, endS, hfn, hbn, if_neg Bool.false_ne_true, if_neg Bool.false_ne_true, if_neg (by rw [hlt2]; exact Bool.false_ne_true)])
            go_wp2_with ((go_at_call 41; refine (less_any _ _ _).mono ?_; rintro e w' ⟨rfl, rfl⟩))
            go_roundw
            case rel => exact ⟨k + 1, b, by omega, by go_num, rfl, hb, HN, trivial⟩
            case measure => simp [intOf]; omega
    · obtain rfl : k = l.length := by omega
      have HV := Lib.hid (show canF b = rcanF (endL .lt l) by rw [can_same hb,  HB.out, List.take_of_length_le (Nat.le_refl _)])
      clear ha HB
      go_wp2_with (go_at_call 22; refine (canon_any _ _).mono ?_; rintro e w' ⟨rfl, rfl⟩)
      go_ret
      exact ⟨ret_flt HV.out, Below.refl _ _⟩
theorem endMost (a : Option Addr) (n cap : Nat) (l : List Nat) (w : World) (ha : Fs w a n l) (hn : n ≤ 9223372036854775807) :
    Calls Try.prog 52 #[.slice a n cap, .func (.func 53) #[] #[]] w fun e w' => e = .returned (.float .f64 (rcanF (endL .gt l))) ∧ Below w.heap.size w w' := by
  go_enter Try.func52, Try.ntmps52
  go_wp2_with (go_at_call 54; refine (mathnan _).mono ?_; rintro e w' ⟨rfl, rfl⟩)
  go_loopw [5, 11] (fun t i wr => ∃ k b : Nat, k ≤ n ∧ i = .int .i64 k ∧ t = .float .f64 b ∧ b < 18446744073709551616 ∧ Hid (b = endL .gt (l.take k)) ∧ wr = w) (fun _ i _ => n - (intOf i).toNat)
  case atStart => exact ⟨0, 9221120237041090561, by omega, rfl, rfl, by decide, Lib.hid rfl, rfl⟩
  case round =>
    obtain ⟨k, b, hk, rfl, rfl, hb, HB, rfl⟩ := hrel
    have hll : l.length = n := by have := ha.1.1; simpa using this
    by_cases hlt : k < n
    · obtain ⟨f, hx⟩ : ∃ f, l[k]? = some f := ⟨l[k]'(by omega), List.getElem?_eq_getElem (by omega)⟩
      obtain ⟨ad, rfl⟩ : ∃ ad, a = some ad := by cases a with
        | none => exact absurd (ha.1.2.1 rfl) (by omega)
        | some ad => exact ⟨ad, rfl⟩
      have c0 := ha.1.2.2 ad rfl k (encF f) (by rw [List.getElem?_map, hx]; rfl)
      have hf := ha.2 f (List.mem_of_getElem? hx)
      have HS := Lib.hid (end_step (o := .gt) hx)
      have i0 : (0 : Int) ≤ (k : Int) := by omega
      have i1 : (k : Int) < (n : Int) := by omega
      have hef := eq_self f hf
      have heb : (FloatKind.f64.format.order b b != some .eq) = fnan b := ne_self b hb
      unfold encF at c0
      clear hx
      cases hfn : fnan f with
      | true =>
        rw [hfn] at hef
        have HN := Lib.hid (show b = endL .gt (l.take (k + 1)) by rw [HS.out, ← HB.out, endS, hfn, if_pos rfl])
        go_wp2_with fail
        go_roundw
        case rel => exact ⟨k + 1, b, by omega, by go_num, rfl, hb, HN, trivial⟩
        case measure => simp [intOf]; omega
      | false =>
        rw [hfn] at hef
        cases hbn : fnan b with
        | true =>
          rw [hbn] at heb
          have HN := Lib.hid (show f = endL .gt (l.take (k + 1)) by rw [HS.out, ← HB.out, endS, hfn, hbn, if_neg Bool.false_ne_true, if_pos rfl])
          go_wp2_with fail
          go_roundw
          case rel => exact ⟨k + 1, f, by omega, by go_num, rfl, hf, HN, trivial⟩
          case measure => simp [intOf]; omega
        | false =>
          rw [hbn] at heb
          cases hlt2 : (FloatKind.f64.format.order f b == some .gt) with
          | true =>
            have hkk : decide (keyF b < keyF f) = (FloatKind.f64.format.order f b == some .gt) := gt_key hf hb hfn hbn
            rw [hlt2] at hkk
            have HN := Lib.hid (show f = endL .gt (l.take (k + 1)) by rw [HS.out, ← HB.out, endS, hfn, hbn, if_neg Bool.false_ne_true, if_neg Bool.false_ne_true, if_pos hlt2])
            go_wp2_with ((go_at_call 53; refine (most1_any _ _ _).mono ?_; rintro e w' ⟨rfl, rfl⟩))
            go_roundw
            case rel => exact ⟨k + 1, f, by omega, by go_num, rfl, hf, HN, trivial⟩
            case measure => simp [intOf]; omega
          | false =>
            have hkk : decide (keyF b < keyF f) = (FloatKind.f64.format.order f b == some .gt) := gt_key hf hb hfn hbn
            rw [hlt2] at hkk
            have HN := Lib.hid (show b = endL .gt (l.take (k + 1)) by rw [HS.out, ← HB.out, endS, hfn, hbn, if_neg Bool.false_ne_true, if_neg Bool.false_ne_true, if_neg (by rw [hlt2]; exact Bool.false_ne_true)])
            go_wp2_with ((go_at_call 53; refine (most1_any _ _ _).mono ?_; rintro e w' ⟨rfl, rfl⟩))
            go_roundw
            case rel => exact ⟨k + 1, b, by omega, by go_num, rfl, hb, HN, trivial⟩
            case measure => simp [intOf]; omega
    · obtain rfl : k = l.length := by omega
      have HV := Lib.hid (show canF b = rcanF (endL .gt l) by rw [can_same hb,  HB.out, List.take_of_length_le (Nat.le_refl _)])
      clear ha HB
      go_wp2_with (go_at_call 22; refine (canon_any _ _).mono ?_; rintro e w' ⟨rfl, rfl⟩)
      go_ret
      exact ⟨ret_flt HV.out, Below.refl _ _⟩
theorem rleast (a : Option Addr) (n cap : Nat) (l : List Nat) (w : World) (ha : Fs w a n l) (hn : n ≤ 9223372036854775807) :
    Calls Try.prog 34 #[.slice a n cap] w fun e w' => e = .returned (.float .f64 (rcanF (endL .lt l))) ∧ Below w.heap.size w w' := by
  go_enter Try.func34, Try.ntmps34
  go_wp2_with (go_at_call 54; refine (mathnan _).mono ?_; rintro e w' ⟨rfl, rfl⟩)
  go_loopw [3, 9] (fun t i wr => ∃ k b : Nat, k ≤ n ∧ i = .int .i64 k ∧ t = .float .f64 b ∧ b < 18446744073709551616 ∧ Hid (b = endL .lt (l.take k)) ∧ wr = w) (fun _ i _ => n - (intOf i).toNat)
  case atStart => exact ⟨0, 9221120237041090561, by omega, rfl, rfl, by decide, Lib.hid rfl, rfl⟩
  case round =>
    obtain ⟨k, b, hk, rfl, rfl, hb, HB, rfl⟩ := hrel
    have hll : l.length = n := by have := ha.1.1; simpa using this
    by_cases hlt : k < n
    · obtain ⟨f, hx⟩ : ∃ f, l[k]? = some f := ⟨l[k]'(by omega), List.getElem?_eq_getElem (by omega)⟩
      obtain ⟨ad, rfl⟩ : ∃ ad, a = some ad := by cases a with
        | none => exact absurd (ha.1.2.1 rfl) (by omega)
        | some ad => exact ⟨ad, rfl⟩
      have c0 := ha.1.2.2 ad rfl k (encF f) (by rw [List.getElem?_map, hx]; rfl)
      have hf := ha.2 f (List.mem_of_getElem? hx)
      have HS := Lib.hid (end_step (o := .lt) hx)
      have i0 : (0 : Int) ≤ (k : Int) := by omega
      have i1 : (k : Int) < (n : Int) := by omega
      have hef := eq_self f hf
      have heb : (FloatKind.f64.format.order b b != some .eq) = fnan b := ne_self b hb
      unfold encF at c0
      clear hx
      cases hfn : fnan f with
      | true =>
        rw [hfn] at hef
        have HN := Lib.hid (show b = endL .lt (l.take (k + 1)) by rw [HS.out, ← HB.out, endS, hfn, if_pos rfl])
        go_wp2_with fail
        go_roundw
        case rel => exact ⟨k + 1, b, by omega, by go_num, rfl, hb, HN, trivial⟩
        case measure => simp [intOf]; omega
      | false =>
        rw [hfn] at hef
        cases hbn : fnan b with
        | true =>
          rw [hbn] at heb
          have HN := Lib.hid (show f = endL .lt (l.take (k + 1)) by rw [HS.out, ← HB.out, endS, hfn, hbn, if_neg Bool.false_ne_true, if_pos rfl])
          go_wp2_with fail
          go_roundw
          case rel => exact ⟨k + 1, f, by omega, by go_num, rfl, hf, HN, trivial⟩
          case measure => simp [intOf]; omega
        | false =>
          rw [hbn] at heb
          cases hlt2 : (FloatKind.f64.format.order f b == some .lt) with
          | true =>
            have HN := Lib.hid (show f = endL .lt (l.take (k + 1)) by rw [HS.out, ← HB.out, endS, hfn, hbn, if_neg Bool.false_ne_true, if_neg Bool.false_ne_true, if_pos hlt2])
            go_wp2_with (fail)
            go_roundw
            case rel => exact ⟨k + 1, f, by omega, by go_num, rfl, hf, HN, trivial⟩
            case measure => simp [intOf]; omega
          | false =>
            have HN := Lib.hid (show b = endL .lt (l.take (k + 1)) by rw [HS.out, ← HB.out, endS, hfn, hbn, if_neg Bool.false_ne_true, if_neg Bool.false_ne_true, if_neg (by rw [hlt2]; exact Bool.false_ne_true)])
            go_wp2_with (fail)
            go_roundw
            case rel => exact ⟨k + 1, b, by omega, by go_num, rfl, hb, HN, trivial⟩
            case measure => simp [intOf]; omega
    · obtain rfl : k = l.length := by omega
      have HV := Lib.hid (show rcanF b = rcanF (endL .lt l) by rw [ HB.out, List.take_of_length_le (Nat.le_refl _)])
      clear ha HB
      go_wp2_with (go_at_call 27; refine (rcanon_any _ _).mono ?_; rintro e w' ⟨rfl, rfl⟩)
      go_ret
      exact ⟨ret_flt HV.out, Below.refl _ _⟩
theorem rmost (a : Option Addr) (n cap : Nat) (l : List Nat) (w : World) (ha : Fs w a n l) (hn : n ≤ 9223372036854775807) :
    Calls Try.prog 35 #[.slice a n cap] w fun e w' => e = .returned (.float .f64 (rcanF (endL .gt l))) ∧ Below w.heap.size w w' := by
  go_enter Try.func35, Try.ntmps35
  go_wp2_with (go_at_call 54; refine (mathnan _).mono ?_; rintro e w' ⟨rfl, rfl⟩)
  go_loopw [3, 9] (fun t i wr => ∃ k b : Nat, k ≤ n ∧ i = .int .i64 k ∧ t = .float .f64 b ∧ b < 18446744073709551616 ∧ Hid (b = endL .gt (l.take k)) ∧ wr = w) (fun _ i _ => n - (intOf i).toNat)
  case atStart => exact ⟨0, 9221120237041090561, by omega, rfl, rfl, by decide, Lib.hid rfl, rfl⟩
  case round =>
    obtain ⟨k, b, hk, rfl, rfl, hb, HB, rfl⟩ := hrel
    have hll : l.length = n := by have := ha.1.1; simpa using this
    by_cases hlt : k < n
    · obtain ⟨f, hx⟩ : ∃ f, l[k]? = some f := ⟨l[k]'(by omega), List.getElem?_eq_getElem (by omega)⟩
      obtain ⟨ad, rfl⟩ : ∃ ad, a = some ad := by cases a with
        | none => exact absurd (ha.1.2.1 rfl) (by omega)
        | some ad => exact ⟨ad, rfl⟩
      have c0 := ha.1.2.2 ad rfl k (encF f) (by rw [List.getElem?_map, hx]; rfl)
      have hf := ha.2 f (List.mem_of_getElem? hx)
      have HS := Lib.hid (end_step (o := .gt) hx)
      have i0 : (0 : Int) ≤ (k : Int) := by omega
      have i1 : (k : Int) < (n : Int) := by omega
      have hef := eq_self f hf
      have heb : (FloatKind.f64.format.order b b != some .eq) = fnan b := ne_self b hb
      unfold encF at c0
      clear hx
      cases hfn : fnan f with
      | true =>
        rw [hfn] at hef
        have HN := Lib.hid (show b = endL .gt (l.take (k + 1)) by rw [HS.out, ← HB.out, endS, hfn, if_pos rfl])
        go_wp2_with fail
        go_roundw
        case rel => exact ⟨k + 1, b, by omega, by go_num, rfl, hb, HN, trivial⟩
        case measure => simp [intOf]; omega
      | false =>
        rw [hfn] at hef
        cases hbn : fnan b with
        | true =>
          rw [hbn] at heb
          have HN := Lib.hid (show f = endL .gt (l.take (k + 1)) by rw [HS.out, ← HB.out, endS, hfn, hbn, if_neg Bool.false_ne_true, if_pos rfl])
          go_wp2_with fail
          go_roundw
          case rel => exact ⟨k + 1, f, by omega, by go_num, rfl, hf, HN, trivial⟩
          case measure => simp [intOf]; omega
        | false =>
          rw [hbn] at heb
          cases hlt2 : (FloatKind.f64.format.order f b == some .gt) with
          | true =>
            have HN := Lib.hid (show f = endL .gt (l.take (k + 1)) by rw [HS.out, ← HB.out, endS, hfn, hbn, if_neg Bool.false_ne_true, if_neg Bool.false_ne_true, if_pos hlt2])
            go_wp2_with (fail)
            go_roundw
            case rel => exact ⟨k + 1, f, by omega, by go_num, rfl, hf, HN, trivial⟩
            case measure => simp [intOf]; omega
          | false =>
            have HN := Lib.hid (show b = endL .gt (l.take (k + 1)) by rw [HS.out, ← HB.out, endS, hfn, hbn, if_neg Bool.false_ne_true, if_neg Bool.false_ne_true, if_neg (by rw [hlt2]; exact Bool.false_ne_true)])
            go_wp2_with (fail)
            go_roundw
            case rel => exact ⟨k + 1, b, by omega, by go_num, rfl, hb, HN, trivial⟩
            case measure => simp [intOf]; omega
    · obtain rfl : k = l.length := by omega
      have HV := Lib.hid (show rcanF b = rcanF (endL .gt l) by rw [ HB.out, List.take_of_length_le (Nat.le_refl _)])
      clear ha HB
      go_wp2_with (go_at_call 27; refine (rcanon_any _ _).mono ?_; rintro e w' ⟨rfl, rfl⟩)
      go_ret
      exact ⟨ret_flt HV.out, Below.refl _ _⟩
end Go.Proofs.Ythkfjcfncobllaa
