import Derived.Test.YtkfgfcgfpcocaaaCrcM
/-! Frames: plain lists of bytes. -/
namespace CrcM
def b16 (n : Nat) : List UInt8 := [UInt8.ofNat (n / 256), UInt8.ofNat n]
def b32 (c : B) : List UInt8 := [UInt8.ofNat (c.toNat / 16777216), UInt8.ofNat (c.toNat / 65536), UInt8.ofNat (c.toNat / 256), UInt8.ofNat c.toNat]
def body (b : List UInt8) : List UInt8 := b16 b.length ++ b
def frm (b : List UInt8) : List UInt8 := 165 :: body b ++ b32 (sum (body b))
theorem body_len (b : List UInt8) : (body b).length = 2 + b.length := by simp [body, b16]; omega
theorem frm_len (b : List UInt8) : (frm b).length = 7 + b.length := by simp [frm, body_len, b32]; omega
theorem drop1 (b : List UInt8) : ((165 :: body b : List UInt8).take (3 + b.length)).drop 1 = body b := by
  rw [List.take_of_length_le (by simp [body_len]; omega)]; rfl
/-- A number's k lowest bytes, the highest first. -/
def be : Nat → Nat → List UInt8
  | 0, _ => []
  | k + 1, n => UInt8.ofNat (n / 256 ^ k) :: be k n
theorem be_len (k n : Nat) : (be k n).length = k := by
  induction k with
  | zero => rfl
  | succ k ih => simp [be, ih]
theorem be_2 (n : Nat) : be 2 n = b16 n := by simp [be, b16]
theorem be_4 (c : B) : be 4 c.toNat = b32 c := by simp [be, b32]
/-- The frame with which bytes begin: its body, and the body's length. -/
def ofL (xs : List UInt8) : Option (List UInt8 × Nat) :=
  match xs with
  | x0 :: x1 :: x2 :: r =>
    if 7 ≤ (x0 :: x1 :: x2 :: r).length ∧ x0 = 165 ∧ x1.toNat * 256 + x2.toNat ≤ 60000 ∧ x1.toNat * 256 + x2.toNat + 7 ≤ (x0 :: x1 :: x2 :: r).length ∧
        ((x0 :: x1 :: x2 :: r).take (7 + (x1.toNat * 256 + x2.toNat))).drop (3 + (x1.toNat * 256 + x2.toNat)) = b32 (sum (((x0 :: x1 :: x2 :: r).take (3 + (x1.toNat * 256 + x2.toNat))).drop 1))
    then some (((x0 :: x1 :: x2 :: r).take (3 + (x1.toNat * 256 + x2.toNat))).drop 3, x1.toNat * 256 + x2.toNat) else none
  | _ => none
theorem ofL_short {xs : List UInt8} (h : xs.length < 7) : ofL xs = none := by
  match xs with
  | [] => rfl
  | [_] => rfl
  | [_, _] => rfl
  | x0 :: x1 :: x2 :: r => exact if_neg (fun g => by have := g.1; omega)
theorem three {xs : List UInt8} (h : 3 ≤ xs.length) : ∃ x0 x1 x2 r, xs = x0 :: x1 :: x2 :: r := by
  match xs, h with
  | x0 :: x1 :: x2 :: r, _ => exact ⟨x0, x1, x2, r, rfl⟩
theorem ofL_of {xs : List UInt8} {x1 x2 : UInt8} {m : Nat} (h7 : 7 ≤ xs.length) (h0 : xs[0]? = some 165) (h1 : xs[1]? = some x1) (h2 : xs[2]? = some x2) (hm : x1.toNat * 256 + x2.toNat = m) (h6 : m ≤ 60000) (hl : m + 7 ≤ xs.length)
    (hc : (xs.take (7 + m)).drop (3 + m) = b32 (sum ((xs.take (3 + m)).drop 1))) : ofL xs = some ((xs.take (3 + m)).drop 3, m) := by
  obtain ⟨y0, y1, y2, r, rfl⟩ := three (xs := xs) (by omega)
  simp only [List.getElem?_cons_zero, List.getElem?_cons_succ, Option.some.injEq] at h0 h1 h2
  subst h0 h1 h2 hm
  exact if_pos ⟨h7, rfl, h6, hl, hc⟩
theorem ofL_not {xs : List UInt8} {x0 x1 x2 : UInt8} {m : Nat} (h0 : xs[0]? = some x0) (h1 : xs[1]? = some x1) (h2 : xs[2]? = some x2) (hm : x1.toNat * 256 + x2.toNat = m)
    (hc : ¬ (x0 = 165 ∧ m ≤ 60000 ∧ m + 7 ≤ xs.length ∧ (xs.take (7 + m)).drop (3 + m) = b32 (sum ((xs.take (3 + m)).drop 1)))) : ofL xs = none := by
  have hl : 3 ≤ xs.length := by
    have := (List.getElem?_eq_some_iff.1 h2).1; omega
  obtain ⟨y0, y1, y2, r, rfl⟩ := three hl
  simp only [List.getElem?_cons_zero, List.getElem?_cons_succ, Option.some.injEq] at h0 h1 h2
  subst h0 h1 h2 hm
  exact if_neg (fun g => hc ⟨g.2.1, g.2.2.1, g.2.2.2.1, g.2.2.2.2⟩)
theorem ofL_len {xs y : List UInt8} {m : Nat} (h : ofL xs = some (y, m)) : y.length = m ∧ m ≤ 60000 ∧ m + 7 ≤ xs.length := by
  unfold ofL at h
  split at h
  · split at h
    · rename_i x0 x1 x2 r g
      injection h with h
      injection h with ha hb
      subst ha hb
      refine ⟨?_, g.2.2.1, g.2.2.2.1⟩
      have := g.2.2.2.1
      rw [List.length_drop, List.length_take]
      omega
    · cases h
  · cases h
/-- A frame is one by the document's way, too: framed anew it is the same bytes. -/
theorem frm_iff {xs : List UInt8} {x0 x1 x2 : UInt8} {m : Nat} (h0 : xs[0]? = some x0) (h1 : xs[1]? = some x1) (h2 : xs[2]? = some x2) (hm : x1.toNat * 256 + x2.toNat = m) (hl : m + 7 ≤ xs.length) :
    frm ((xs.take (3 + m)).drop 3) = xs.take (7 + m) ↔ x0 = 165 ∧ (xs.take (7 + m)).drop (3 + m) = b32 (sum ((xs.take (3 + m)).drop 1)) := by
  obtain ⟨y0, y1, y2, r, rfl⟩ := three (xs := xs) (by omega)
  simp only [List.getElem?_cons_zero, List.getElem?_cons_succ, Option.some.injEq] at h0 h1 h2
  subst h0 h1 h2
  have hr : m + 4 ≤ r.length := by simp only [List.length_cons] at hl; omega
  have e1 : (y0 :: y1 :: y2 :: r).take (3 + m) = y0 :: y1 :: y2 :: r.take m := by rw [Nat.add_comm]; rfl
  have e2 : (y0 :: y1 :: y2 :: r).take (7 + m) = y0 :: y1 :: y2 :: r.take (m + 4) := by rw [Nat.add_comm]; rfl
  have e3 : (y0 :: y1 :: y2 :: r.take (m + 4)).drop (3 + m) = (r.take (m + 4)).drop m := by rw [Nat.add_comm]; rfl
  rw [e1, e2, e3]
  have e4 : (y0 :: y1 :: y2 :: r.take m).drop 3 = r.take m := rfl
  have e5 : (y0 :: y1 :: y2 :: r.take m).drop 1 = y1 :: y2 :: r.take m := rfl
  rw [e4, e5]
  have hlt : (r.take m).length = m := by rw [List.length_take]; omega
  have hb : b16 m = [y1, y2] := by
    subst hm
    have := y1.toNat_lt
    have := y2.toNat_lt
    unfold b16
    have a1 : UInt8.ofNat ((y1.toNat * 256 + y2.toNat) / 256) = y1 := by apply UInt8.toNat_inj.1; rw [UInt8.toNat_ofNat']; omega
    have a2 : UInt8.ofNat (y1.toNat * 256 + y2.toNat) = y2 := by apply UInt8.toNat_inj.1; rw [UInt8.toNat_ofNat']; omega
    rw [a1, a2]
  have hbody : body (r.take m) = y1 :: y2 :: r.take m := by unfold body; rw [hlt, hb]; rfl
  unfold frm
  rw [hbody]
  have hsplit : r.take (m + 4) = r.take m ++ (r.take (m + 4)).drop m := by
    have := List.take_append_drop m (r.take (m + 4))
    rw [List.take_take, Nat.min_eq_left (by omega)] at this
    exact this.symm
  constructor
  · intro e
    injection e with ea e
    injection e with eb e
    injection e with ec e
    refine ⟨ea.symm, ?_⟩
    have e := e.trans hsplit
    exact (List.append_cancel_left e).symm
  · rintro ⟨rfl, e⟩
    rw [hsplit, e]; rfl
end CrcM
