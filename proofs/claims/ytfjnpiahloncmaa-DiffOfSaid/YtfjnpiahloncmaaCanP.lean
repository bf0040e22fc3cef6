import Derived.Test.YtfjnpiahloncmaaSrt
namespace Go.Proofs.Ytfjnpiahloncmaa
open Go.RowKit
set_option linter.unusedVariables false
/-! The first one of each key, in the order of the keys: plain. -/
section
variable {α : Type} {key : α → Int} {X e : List α}
def Firsts (key : α → Int) (X e : List α) : Prop := ∀ x, x ∈ e ↔ X.find? (fun y => key y == key x) = some x
def Rises (key : α → Int) (e : List α) : Prop := e.Pairwise (fun x y => key x < key y)
theorem firsts_nil : Firsts key [] [] := fun x => by simp
theorem Firsts.mem (h : Firsts key X e) {x : α} (hx : x ∈ e) : x ∈ X := List.mem_of_find?_eq_some ((h x).1 hx)
theorem Firsts.has (h : Firsts key X e) {k : Int} : (∃ y ∈ e, key y = k) ↔ ∃ y ∈ X, key y = k := by
  constructor
  · rintro ⟨y, hy, hk⟩
    exact ⟨y, h.mem hy, hk⟩
  · rintro ⟨y, hy, hk⟩
    cases hf : X.find? (fun z => key z == key y) with
    | none => have := List.find?_eq_none.1 hf y hy; simp at this
    | some z =>
      have hz : key z = key y := by simpa using List.find?_some hf
      refine ⟨z, (h z).2 ?_, hz.trans hk⟩
      rw [hz]; exact hf
theorem Firsts.new (h : Firsts key X e) {x : α} (hn : ¬ ∃ y ∈ e, key y = key x) {e' : List α} (he : ∀ z, z ∈ e' ↔ z ∈ e ∨ z = x) : Firsts key (X ++ [x]) e' := fun z => by
  rw [he, List.find?_append]
  have hx : X.find? (fun y => key y == key x) = none := List.find?_eq_none.2 fun y hy hk => hn (h.has.2 ⟨y, hy, by simpa using hk⟩)
  constructor
  · rintro (hz | rfl)
    · rw [(h z).1 hz]; rfl
    · rw [hx]; simp
  · intro hz
    cases hf : X.find? (fun y => key y == key z) with
    | some u =>
      rw [hf] at hz
      simp at hz
      subst hz
      exact .inl ((h u).2 hf)
    | none =>
      rw [hf] at hz
      simp at hz
      exact .inr hz.2.symm
theorem Firsts.old (h : Firsts key X e) {x : α} (ho : ∃ y ∈ e, key y = key x) : Firsts key (X ++ [x]) e := fun z => by
  rw [h z, List.find?_append]
  cases hf : X.find? (fun y => key y == key z) with
  | some u => simp
  | none =>
    constructor
    · intro e; cases e
    · intro hz
      simp at hz
      obtain ⟨y, hy, hk⟩ := h.has.1 ho
      have := List.find?_eq_none.1 hf y hy
      simp [hk, hz.1] at this
theorem Firsts.perm (h : Firsts key X e) {e' : List α} (hp : e'.Perm e) : Firsts key X e' := fun x => (hp.mem_iff).trans (h x)
theorem rises_uniq : ∀ {a b : List α}, Rises key a → Rises key b → (∀ x, x ∈ a ↔ x ∈ b) → a = b
  | [], [], _, _, _ => rfl
  | [], y :: b, _, _, h => by have := (h y).2 List.mem_cons_self; cases this
  | x :: a, [], _, _, h => by have := (h x).1 List.mem_cons_self; cases this
  | x :: a, y :: b, ha, hb, h => by
    have a1 := List.pairwise_cons.1 ha
    have b1 := List.pairwise_cons.1 hb
    have hxy : x = y := by
      rcases List.mem_cons.1 ((h x).1 List.mem_cons_self) with e | hx
      · exact e
      · rcases List.mem_cons.1 ((h y).2 List.mem_cons_self) with e | hy
        · exact e.symm
        · have := a1.1 y hy
          have := b1.1 x hx
          omega
    subst hxy
    rw [rises_uniq a1.2 b1.2 (fun z => ?_)]
    constructor
    · intro hz
      rcases List.mem_cons.1 ((h z).1 (List.mem_cons_of_mem _ hz)) with e | hz2
      · subst e; have := a1.1 z hz; omega
      · exact hz2
    · intro hz
      rcases List.mem_cons.1 ((h z).2 (List.mem_cons_of_mem _ hz)) with e | hz2
      · subst e; have := b1.1 z hz; omega
      · exact hz2
theorem can_uniq {a b : List α} (ha : Firsts key X a) (ra : Rises key a) (hb : Firsts key X b) (rb : Rises key b) : a = b := rises_uniq ra rb fun x => (ha x).trans (hb x).symm
theorem rises_of_sort {e' : List α} (hd : e.Pairwise (fun x y => key x ≠ key y)) (hp : e'.Perm e) (hs : e'.Pairwise (fun x y => key x ≤ key y)) : Rises key e' := by
  have hd' : e'.Pairwise (fun x y => key x ≠ key y) := (hp.pairwise_iff (fun h => Ne.symm h)).2 hd
  exact (hd'.and hs).imp (fun h => by omega)
theorem rises_ins (h : Rises key e) {x : α} {i : Nat} (h1 : ∀ y ∈ e.take i, key y < key x) (h2 : ∀ y ∈ e.drop i, key x < key y) : Rises key (e.take i ++ x :: e.drop i) := by
  unfold Rises at *
  rw [← List.take_append_drop i e] at h
  obtain ⟨a, b, c⟩ := List.pairwise_append.1 h
  refine List.pairwise_append.2 ⟨a, List.pairwise_cons.2 ⟨h2, b⟩, fun y hy z hz => ?_⟩
  rcases List.mem_cons.1 hz with rfl | hz
  · exact h1 y hy
  · exact c y hy z hz
theorem mem_ins {x z : α} {i : Nat} : z ∈ e.take i ++ x :: e.drop i ↔ z ∈ e ∨ z = x := by
  have : z ∈ e ↔ z ∈ e.take i ∨ z ∈ e.drop i := by rw [← List.mem_append, List.take_append_drop]
  rw [this]
  simp only [List.mem_append, List.mem_cons]
  constructor
  · rintro (h | h | h)
    · exact .inl (.inl h)
    · exact .inr h
    · exact .inl (.inr h)
  · rintro ((h | h) | h)
    · exact .inl h
    · exact .inr (.inr h)
    · exact .inr (.inl h)
theorem rises_drop (h : Rises key e) {x y : α} {i : Nat} (hy : e[i]? = some y) (hlt : key x < key y) : ∀ z ∈ e.drop i, key x < key z := by
  intro z hz
  obtain ⟨hi, he⟩ := List.getElem?_eq_some_iff.1 hy
  rw [List.drop_eq_getElem_cons hi, he] at hz
  rcases List.mem_cons.1 hz with rfl | hz
  · exact hlt
  · obtain ⟨j, hj, rfl⟩ := List.mem_iff_getElem.1 hz
    rw [List.length_drop] at hj
    rw [List.getElem_drop]
    have := (List.pairwise_iff_getElem.1 h) i (i + 1 + j) hi (by omega) (by omega)
    rw [he] at this
    omega
theorem take_keys {x y : α} {i : Nat} (h : ∀ z ∈ e.take i, key z < key x) (hy : e[i]? = some y) (hlt : key y < key x) : ∀ z ∈ e.take (i + 1), key z < key x := by
  rw [take_at hy]
  intro z hz
  rcases List.mem_append.1 hz with hz | hz
  · exact h z hz
  · rw [List.mem_singleton.1 hz]; exact hlt
/-- What has not been met: behind all that are less and ahead of all that are greater. -/
theorem not_met (h : Rises key e) {x : α} {i : Nat} (h1 : ∀ y ∈ e.take i, key y < key x) (h2 : ∀ y ∈ e.drop i, key x < key y) : ¬ ∃ y ∈ e, key y = key x := by
  rintro ⟨y, hy, hk⟩
  rw [← List.take_append_drop i e] at hy
  rcases List.mem_append.1 hy with hy | hy
  · have := h1 y hy; omega
  · have := h2 y hy; omega
end
end Go.Proofs.Ytfjnpiahloncmaa
