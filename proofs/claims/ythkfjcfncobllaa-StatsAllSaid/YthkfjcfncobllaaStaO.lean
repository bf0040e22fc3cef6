import Derived.Test.YthkfjcfncobllaaStaF
namespace Go.Proofs.Ythkfjcfncobllaa
open Go.RowKit FP
set_option linter.unusedVariables false
set_option linter.unusedSimpArgs false
/-! What numbers come to: plain. A value of which nothing but NaN is known is 'none'. -/
theorem bits_sub_nan (x y : Nat) (h : fnan y = true) : floatBits .sub .f64 x y = none := by
  obtain ⟨s, t, hr⟩ := read_nan y (by unfold fnan at h; exact of_decide_eq_true h)
  show ((Ieee.double.read x).sum (Ieee.double.read y).opposite).map Ieee.double.write = none
  rw [hr]
  cases Ieee.double.read x <;> rfl
theorem bits_mul_nan (x : Nat) (h : fnan x = true) : floatBits .mul .f64 x x = none := by
  obtain ⟨s, t, hr⟩ := read_nan x (by unfold fnan at h; exact of_decide_eq_true h)
  show ((Ieee.double.read x).product (Ieee.double.read x)).map Ieee.double.write = none
  rw [hr]
  rfl
/-- An operation on floats: what it comes to, and the world. -/
theorem run_ar (P : Program) (op : BinOp) (hop : op = .add ∨ op = .sub ∨ op = .mul ∨ op = .quo) (t : TypeId) (x y : Nat) (w : World) :
    ∃ r w', (binOp op t (.float .f64 x) (.float .f64 y)).run P w = .ok (.float .f64 r) w' ∧ Is (floatBits op .f64 x y) r ∧ Below w.heap.size w w' := by
  cases ho : floatBits op .f64 x y with
  | some r =>
    refine ⟨r, w, run_float_arith (P := P) w op t .f64 x y r ho, ⟨?_, rfl⟩, Below.refl _ _⟩
    have := floatBits_wf ho
    have h2 : r < 2 ^ 64 := by simpa [Lit.wf] using this
    omega
  | none =>
    refine ⟨Question.cut (.nanBits .f64 x y) (w.tape w.drawn (.nanBits .f64 x y)), w.drew, ?_, ⟨?_, ?_⟩, since_drew w⟩
    · rcases hop with rfl | rfl | rfl | rfl
      all_goals
        first
          | show Sem.run P (Op.floatArith .add .f64 x y) w = _
          | show Sem.run P (Op.floatArith .sub .f64 x y) w = _
          | show Sem.run P (Op.floatArith .mul .f64 x y) w = _
          | show Sem.run P (Op.floatArith .quo .f64 x y) w = _
        unfold Op.floatArith
        unfold floatBits at ho
        simp only at ho
        simp only [ho]
        rfl
    · generalize w.tape w.drawn (.nanBits .f64 x y) = t
      show (t % 2) * 2 ^ 63 + 0x7ff0000000000000 + 1 + (t / 2) % (2 ^ 52 - 1) < 18446744073709551616
      omega
    · show fnan _ = true
      generalize w.tape w.drawn (.nanBits .f64 x y) = t
      unfold fnan
      refine decide_eq_true ?_
      show 9218868437227405312 < ((t % 2) * 2 ^ 63 + 0x7ff0000000000000 + 1 + (t / 2) % (2 ^ 52 - 1)) % 9223372036854775808
      rcases Nat.mod_two_eq_zero_or_one t with h2 | h2
      · rw [h2]; omega
      · rw [h2]; omega
def vO (o : Option Nat) : Nat := match o with | some t => rcanF t | none => 9221120237041090561
theorem is_can {o : Option Nat} {b : Nat} (h : Is o b) : canF b = vO o := by
  unfold vO
  rw [can_same h.1]
  have h2 := h.2
  cases o with
  | none => rw [rcanF_eq h.1, if_pos h2]
  | some t => rw [show b = t from h2]
theorem is_rcan {o : Option Nat} {b : Nat} (h : Is o b) : rcanF b = vO o := by rw [← can_same h.1]; exact is_can h
/-- How far a number is from the mean, squared. -/
def offO (m : Option Nat) (f : Nat) : Option Nat := m.bind fun m => floatBits .sub .f64 f m
def sqO (m : Option Nat) (f : Nat) : Option Nat := (offO m f).bind fun o => floatBits .mul .f64 o o
theorem is_off {m : Option Nat} {b f r : Nat} (h : Is m b) (hr : Is (floatBits .sub .f64 f b) r) : Is (offO m f) r := by
  cases m with
  | none => rw [bits_sub_nan f b h.2] at hr; exact hr
  | some t => obtain rfl : b = t := h.2; exact hr
theorem is_sq {m : Option Nat} {f o r : Nat} (h : Is (offO m f) o) (hr : Is (floatBits .mul .f64 o o) r) : Is (sqO m f) r := by
  unfold sqO
  cases ho : offO m f with
  | none => rw [ho] at h; rw [bits_mul_nan o h.2] at hr; exact hr
  | some t => rw [ho] at h; obtain rfl : o = t := h.2; exact hr
/-- A sum of what is told so. -/
def sumO (l : List (Option Nat)) : Option Nat := l.foldl (fun o x => match x with | none => o | some f => sumS o f) (some 0)
def AllIs : List (Option Nat) → List Nat → Prop
  | [], [] => True
  | o :: l, b :: m => Is o b ∧ AllIs l m
  | _, _ => False
theorem allIs_fold : ∀ {l : List (Option Nat)} {m : List Nat} (s : Option Nat), AllIs l m → m.foldl sumS s = l.foldl (fun o x => match x with | none => o | some f => sumS o f) s
  | [], [], _, _ => rfl
  | o :: l, b :: m, s, h => by
    obtain ⟨h1, h2⟩ := h
    simp only [List.foldl_cons]
    rw [allIs_fold _ h2]
    congr 1
    cases o with
    | none =>
      have : fnan b = true := h1.2
      unfold sumS
      rw [this]
      rfl
    | some t => obtain rfl : b = t := h1.2; rfl
  | [], _ :: _, _, h => h.elim
  | _ :: _, [], _, h => h.elim
theorem allIs_sum {l : List (Option Nat)} {m : List Nat} (h : AllIs l m) : sumV m = vO (sumO l) := by
  unfold sumV vO sumL sumO
  rw [allIs_fold _ h]
  generalize List.foldl _ _ l = o
  cases o <;> rfl
theorem allIs_snoc : ∀ {l : List (Option Nat)} {m : List Nat} {o : Option Nat} {b : Nat}, AllIs l m → Is o b → AllIs (l ++ [o]) (m ++ [b])
  | [], [], _, _, _, h => ⟨h, trivial⟩
  | _ :: _, _ :: _, _, _, ⟨h1, h2⟩, h => ⟨h1, allIs_snoc h2 h⟩
  | [], _ :: _, _, _, h1, _ => h1.elim
  | _ :: _, [], _, _, h1, _ => h1.elim
theorem allIs_len : ∀ {l : List (Option Nat)} {m : List Nat}, AllIs l m → l.length = m.length
  | [], [], _ => rfl
  | _ :: _, _ :: _, ⟨_, h2⟩ => by simp [allIs_len h2]
  | [], _ :: _, h => h.elim
  | _ :: _, [], h => h.elim
theorem allIs_lt : ∀ {l : List (Option Nat)} {m : List Nat}, AllIs l m → ∀ x ∈ m, x < B64
  | [], [], _ => fun x hx => by cases hx
  | _ :: _, _ :: _, ⟨h1, h2⟩ => fun x hx => by
    rcases List.mem_cons.1 hx with rfl | hx
    · exact h1.1
    · exact allIs_lt h2 x hx
  | [], _ :: _, h => h.elim
  | _ :: _, [], h => h.elim
def nF (k : List Nat) : Nat := floatOfInt .f64 (k.length : Int)
/-- The mean, before it is canonical; the spread likewise. -/
def meanO (k : List Nat) : Option Nat := floatBits .quo .f64 (sumV k) (nF k)
def spreadO (k : List Nat) : Option Nat := floatBits .quo .f64 (vO (sumO (k.map (sqO (meanO k))))) (nF k)
/-- Numbers summed up. -/
def digL (l : List Nat) : Int × Int × Nat × Nat × Nat × Nat :=
  if (knownL l).length = 0 then (l.length, l.length, (rcanF (endL .lt [])), (rcanF (endL .lt [])), (rcanF (endL .lt [])), (rcanF (endL .lt []))) else (l.length, (l.length : Int) - ((knownL l).length : Int), rcanF (endL .lt (knownL l)), rcanF (endL .gt (knownL l)), vO (meanO (knownL l)), vO (spreadO (knownL l)))
end Go.Proofs.Ythkfjcfncobllaa
