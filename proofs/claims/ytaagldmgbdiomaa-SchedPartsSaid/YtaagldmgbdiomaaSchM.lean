import Derived.KernelRfl
namespace Mixed
variable {α : Type}
/-- Two lists in one: f tells which comes first; where it says nothing the first one. -/
def mixN (f : List Bool) : Nat → Nat → List α → List α → List α
  | 0, _, _, _ => []
  | _ + 1, _, [], [] => []
  | n + 1, i, x :: a, [] => x :: mixN f n (i + 1) a []
  | n + 1, i, [], y :: b => y :: mixN f n (i + 1) [] b
  | n + 1, i, x :: a, y :: b => if f.getD i true = true then x :: mixN f n (i + 1) a (y :: b) else y :: mixN f n (i + 1) (x :: a) b
def mixL (f : List Bool) (i : Nat) (a b : List α) : List α := mixN f (a.length + b.length) i a b
theorem mixL_nil (f : List Bool) (i : Nat) : mixL f i ([] : List α) [] = [] := rfl
theorem mixL_left (f : List Bool) (i : Nat) (x : α) (a : List α) : mixL f i (x :: a) [] = x :: mixL f (i + 1) a [] := rfl
theorem mixL_right (f : List Bool) (i : Nat) (y : α) (b : List α) : mixL f i [] (y :: b) = y :: mixL f (i + 1) [] b := by
  unfold mixL
  rw [show ([] : List α).length + (y :: b).length = (([] : List α).length + b.length) + 1 by simp]
  rfl
theorem mixL_first {f : List Bool} {i : Nat} (x : α) (a : List α) (y : α) (b : List α) (h : f.getD i true = true) : mixL f i (x :: a) (y :: b) = x :: mixL f (i + 1) a (y :: b) := by
  unfold mixL
  rw [show (x :: a).length + (y :: b).length = (a.length + (y :: b).length) + 1 by simp; omega]
  simp only [mixN, h, if_true]
theorem mixL_second {f : List Bool} {i : Nat} (x : α) (a : List α) (y : α) (b : List α) (h : f.getD i true = false) : mixL f i (x :: a) (y :: b) = y :: mixL f (i + 1) (x :: a) b := by
  unfold mixL
  rw [show (x :: a).length + (y :: b).length = ((x :: a).length + b.length) + 1 by simp; omega]
  simp only [mixN, h, Bool.false_eq_true, if_false]
theorem mixL_all_left (f : List Bool) : ∀ (a : List α) (i : Nat), mixL f i a [] = a
  | [], i => rfl
  | x :: a, i => by rw [mixL_left, mixL_all_left f a]
theorem mixL_all_right (f : List Bool) : ∀ (b : List α) (i : Nat), mixL f i [] b = b
  | [], i => rfl
  | x :: b, i => by rw [mixL_right, mixL_all_right f b]
theorem mixL_past (f : List Bool) : ∀ (a b : List α) (i : Nat), f.length ≤ i → mixL f i a b = a ++ b
  | [], b, i, _ => mixL_all_right f b i
  | x :: a, [], i, _ => by rw [mixL_all_left, List.append_nil]
  | x :: a, y :: b, i, h => by
    have hd : f.getD i true = true := by simp [List.getD_eq_getElem?_getD, List.getElem?_eq_none h]
    rw [mixL_first x a y b hd, mixL_past f a (y :: b) (i + 1) (by omega)]; rfl
theorem mixL_len (f : List Bool) : ∀ (n i : Nat) (a b : List α), a.length + b.length = n → (mixN f n i a b).length = n
  | 0, _, _, _, _ => rfl
  | n + 1, i, [], [], h => by simp at h
  | n + 1, i, x :: a, [], h => by simp only [mixN, List.length_cons]; rw [mixL_len f n (i + 1) a [] (by simp at h ⊢; omega)]
  | n + 1, i, [], y :: b, h => by simp only [mixN, List.length_cons]; rw [mixL_len f n (i + 1) [] b (by simp at h ⊢; omega)]
  | n + 1, i, x :: a, y :: b, h => by
    simp only [mixN]
    split
    · rw [List.length_cons, mixL_len f n (i + 1) a (y :: b) (by simp at h ⊢; omega)]
    · rw [List.length_cons, mixL_len f n (i + 1) (x :: a) b (by simp at h ⊢; omega)]
/-- What holds of all of a and of none of b parts any mix of the two. -/
theorem mixN_filter (p : α → Bool) (f : List Bool) : ∀ (n i : Nat) (a b : List α), a.length + b.length = n → (∀ x ∈ a, p x = true) → (∀ y ∈ b, p y = false) → (mixN f n i a b).filter p = a ∧ (mixN f n i a b).filter (fun x => !p x) = b
  | 0, _, a, b, h, _, _ => by
    have ha : a = [] := List.eq_nil_of_length_eq_zero (by omega)
    have hb : b = [] := List.eq_nil_of_length_eq_zero (by omega)
    subst ha hb; exact ⟨rfl, rfl⟩
  | n + 1, i, [], [], h, _, _ => by simp at h
  | n + 1, i, x :: a, [], h, hp, hq => by
    obtain ⟨h1, h2⟩ := mixN_filter p f n (i + 1) a [] (by simp at h ⊢; omega) (fun y hy => hp y (List.mem_cons_of_mem _ hy)) hq
    have hx := hp x List.mem_cons_self
    simp only [mixN, List.filter_cons, hx, if_true, h1, h2, Bool.not_true, Bool.false_eq_true, if_false, and_self]
  | n + 1, i, [], y :: b, h, hp, hq => by
    obtain ⟨h1, h2⟩ := mixN_filter p f n (i + 1) [] b (by simp at h ⊢; omega) hp (fun z hz => hq z (List.mem_cons_of_mem _ hz))
    have hx := hq y List.mem_cons_self
    simp only [mixN, List.filter_cons, hx, if_true, h1, h2, Bool.not_false, Bool.false_eq_true, if_false, and_self]
  | n + 1, i, x :: a, y :: b, h, hp, hq => by
    simp only [mixN]
    split
    · obtain ⟨h1, h2⟩ := mixN_filter p f n (i + 1) a (y :: b) (by simp at h ⊢; omega) (fun z hz => hp z (List.mem_cons_of_mem _ hz)) hq
      have hx := hp x List.mem_cons_self
      exact ⟨by rw [List.filter_cons_of_pos hx, h1], by rw [List.filter_cons_of_neg (by simp [hx]), h2]⟩
    · obtain ⟨h1, h2⟩ := mixN_filter p f n (i + 1) (x :: a) b (by simp at h ⊢; omega) hp (fun z hz => hq z (List.mem_cons_of_mem _ hz))
      have hx := hq y List.mem_cons_self
      exact ⟨by rw [List.filter_cons_of_neg (by simp [hx]), h1], by rw [List.filter_cons_of_pos (by simp [hx]), h2]⟩
/-- Mixed again in the order in which they were. -/
theorem mixL_back (p : α → Bool) (f : List Bool) : ∀ (l : List α) (i : Nat), (∀ k x, l[k]? = some x → f.getD (i + k) true = p x) → mixL f i (l.filter p) (l.filter fun x => !p x) = l
  | [], i, _ => rfl
  | x :: l, i, h => by
    have h0 := h 0 x rfl
    have ih := mixL_back p f l (i + 1) (fun k y hy => by have := h (k + 1) y (by simpa using hy); rwa [show i + (k + 1) = i + 1 + k by omega] at this)
    cases hp : p x with
    | true =>
      rw [hp] at h0
      rw [List.filter_cons_of_pos (by simpa using hp), List.filter_cons_of_neg (by simp [hp])]
      cases hb : l.filter (fun x => !p x) with
      | nil => rw [mixL_left, ← hb, ih]
      | cons y b => rw [mixL_first _ _ _ _ (by simpa using h0), ← hb, ih]
    | false =>
      rw [hp] at h0
      rw [List.filter_cons_of_neg (by simp [hp]), List.filter_cons_of_pos (by simp [hp])]
      cases ha : l.filter p with
      | nil => rw [mixL_right, ← ha, ih]
      | cons y b => rw [mixL_second _ _ _ _ (by simpa using h0), ← ha, ih]
end Mixed
