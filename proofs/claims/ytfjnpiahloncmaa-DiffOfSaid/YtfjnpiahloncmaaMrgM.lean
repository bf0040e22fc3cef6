import Derived.Test.YtfjnpiahloncmaaRdG
import Derived.Sort.Walk0
namespace Go.Proofs.Ytfjnpiahloncmaa
open Go.RowKit
set_option linter.unusedVariables false
set_option linter.unusedSimpArgs false
/-! Texts in order, each once: plain. -/
def ltS (x y : ByteArray) : Prop := Op.bytesLess x.toList y.toList = true
theorem bl_irrefl : ∀ x : List UInt8, Op.bytesLess x x = false
  | [] => rfl
  | a :: x => by
    have h2 : ¬ a < a := fun e => by have := UInt8.lt_iff_toNat_lt.1 e; omega
    simp [Op.bytesLess, h2, bl_irrefl x]
theorem bl_trans : ∀ {x y z : List UInt8}, Op.bytesLess x y = true → Op.bytesLess y z = true → Op.bytesLess x z = true
  | _, _, [], _, h => by cases ‹List UInt8› <;> simp [Op.bytesLess] at h
  | [], _, c :: z, _, _ => rfl
  | a :: x, [], c :: z, h, _ => by simp [Op.bytesLess] at h
  | a :: x, b :: y, c :: z, h1, h2 => by
    simp only [Op.bytesLess, Bool.or_eq_true, decide_eq_true_eq, Bool.and_eq_true, beq_iff_eq] at h1 h2 ⊢
    rcases h1 with h1 | ⟨rfl, h1⟩
    · rcases h2 with h2 | ⟨rfl, h2⟩
      · left; have := UInt8.lt_iff_toNat_lt.1 h1; have := UInt8.lt_iff_toNat_lt.1 h2; exact UInt8.lt_iff_toNat_lt.2 (by omega)
      · left; exact h1
    · rcases h2 with h2 | ⟨rfl, h2⟩
      · left; exact h2
      · right; exact ⟨rfl, bl_trans h1 h2⟩
theorem bl_total : ∀ (x y : List UInt8), Op.bytesLess x y = false → x ≠ y → Op.bytesLess y x = true
  | [], [], _, h => absurd rfl h
  | [], b :: y, h, _ => by simp [Op.bytesLess] at h
  | a :: x, [], _, _ => rfl
  | a :: x, b :: y, h, hne => by
    simp only [Op.bytesLess, Bool.or_eq_false_iff, decide_eq_false_iff_not, Bool.and_eq_false_iff] at h
    obtain ⟨h1, h2⟩ := h
    rcases Nat.lt_trichotomy a.toNat b.toNat with h | h | h
    · exact absurd (UInt8.lt_iff_toNat_lt.2 h) h1
    · obtain rfl := UInt8.toNat_inj.1 h
      have hx : Op.bytesLess x y = false := by
        rcases h2 with h2 | h2
        · simp at h2
        · exact h2
      have := bl_total x y hx (fun e => hne (by rw [e]))
      simp [Op.bytesLess, this]
    · have h3 : b < a := UInt8.lt_iff_toNat_lt.2 h
      simp [Op.bytesLess, h3]
theorem ltS_irrefl (x : ByteArray) : ¬ ltS x x := fun h => by unfold ltS at h; rw [bl_irrefl] at h; cases h
theorem ltS_trans {x y z : ByteArray} (h1 : ltS x y) (h2 : ltS y z) : ltS x z := bl_trans h1 h2
theorem ba_ext {x y : ByteArray} (h : x.toList = y.toList) : x = y := by
  rw [ByteArray.toList_eq, ByteArray.toList_eq] at h
  obtain ⟨⟨a⟩⟩ := x
  obtain ⟨⟨b⟩⟩ := y
  simpa using h
theorem ltS_total {x y : ByteArray} (h : ¬ ltS x y) (hne : x ≠ y) : ltS y x := bl_total _ _ (by unfold ltS at h; simpa using h) (fun e => hne (ba_ext e))
/-- In order, each once, of these. -/
def Ris (X r : List ByteArray) : Prop := r.Pairwise ltS ∧ ∀ x, x ∈ r ↔ x ∈ X
theorem strict_uniq : ∀ {a b : List ByteArray}, a.Pairwise ltS → b.Pairwise ltS → (∀ x, x ∈ a ↔ x ∈ b) → a = b
  | [], [], _, _, _ => rfl
  | [], y :: b, _, _, h => by have := (h y).2 List.mem_cons_self; cases this
  | x :: a, [], _, _, h => by have := (h x).1 List.mem_cons_self; cases this
  | x :: a, y :: b, ha, hb, h => by
    obtain ⟨ha1, ha2⟩ := List.pairwise_cons.1 ha
    obtain ⟨hb1, hb2⟩ := List.pairwise_cons.1 hb
    have hxy : x = y := by
      rcases List.mem_cons.1 ((h x).1 List.mem_cons_self) with e | hx
      · exact e
      rcases List.mem_cons.1 ((h y).2 List.mem_cons_self) with e | hy
      · exact e.symm
      exact absurd (ltS_trans (hb1 x hx) (ha1 y hy)) (ltS_irrefl y)
    subst hxy
    rw [strict_uniq ha2 hb2 (fun z => ?_)]
    constructor
    · intro hz
      rcases List.mem_cons.1 ((h z).1 (List.mem_cons_of_mem _ hz)) with e | hz'
      · subst e; exact absurd (ha1 z hz) (ltS_irrefl z)
      · exact hz'
    · intro hz
      rcases List.mem_cons.1 ((h z).2 (List.mem_cons_of_mem _ hz)) with e | hz'
      · subst e; exact absurd (hb1 z hz) (ltS_irrefl z)
      · exact hz'
theorem Ris.uniq {X Y a b : List ByteArray} (ha : Ris X a) (hb : Ris Y b) (h : ∀ x, x ∈ X ↔ x ∈ Y) : a = b := strict_uniq ha.1 hb.1 fun x => (ha.2 x).trans ((h x).trans (hb.2 x).symm)
theorem Ris.nil : Ris [] [] := ⟨List.Pairwise.nil, fun x => Iff.rfl⟩
/-- One more among those in order. -/
theorem ris_ins {X o : List ByteArray} {s : ByteArray} {i : Nat} (h : Ris X o) (h1 : ∀ y ∈ o.take i, ltS y s) (h2 : ∀ y ∈ o.drop i, ltS s y) : Ris (X ++ [s]) (o.take i ++ s :: o.drop i) := by
  have hp := h.1
  rw [← List.take_append_drop i o] at hp
  obtain ⟨a, b, c⟩ := List.pairwise_append.1 hp
  refine ⟨List.pairwise_append.2 ⟨a, List.pairwise_cons.2 ⟨h2, b⟩, fun x hx y hy => ?_⟩, fun x => ?_⟩
  · rcases List.mem_cons.1 hy with rfl | hy
    · exact h1 x hx
    · exact c x hx y hy
  · have hm : x ∈ o ↔ x ∈ o.take i ∨ x ∈ o.drop i := by rw [← List.mem_append, List.take_append_drop]
    rw [List.mem_append, List.mem_cons, List.mem_append, List.mem_singleton, ← h.2 x, hm]
    constructor
    · rintro (h | h | h)
      · exact .inl (.inl h)
      · exact .inr h
      · exact .inl (.inr h)
    · rintro ((h | h) | h)
      · exact .inl h
      · exact .inr (.inr h)
      · exact .inr (.inl h)
theorem ris_same {X o : List ByteArray} {s : ByteArray} (h : Ris X o) (hs : s ∈ o) : Ris (X ++ [s]) o :=
  ⟨h.1, fun x => by
    rw [List.mem_append, List.mem_singleton, ← h.2 x]
    exact ⟨fun hx => .inl hx, fun hx => hx.elim id (fun e => by rw [e]; exact hs)⟩⟩
/-- What stands at and behind a place at which a greater one stands is greater. -/
theorem gt_drop {o : List ByteArray} {s y : ByteArray} {i : Nat} (hp : o.Pairwise ltS) (hy : o[i]? = some y) (h : ltS s y) : ∀ z ∈ o.drop i, ltS s z := by
  obtain ⟨hi, he⟩ := List.getElem?_eq_some_iff.1 hy
  intro z hz
  rw [List.drop_eq_getElem_cons hi, he] at hz
  rcases List.mem_cons.1 hz with rfl | hz
  · exact h
  · have hp2 := hp.drop (i := i)
    rw [List.drop_eq_getElem_cons hi, he] at hp2
    exact ltS_trans h ((List.pairwise_cons.1 hp2).1 z hz)
/-- Whether a text is among texts. -/
def hasB (l : List ByteArray) (t : ByteArray) : Bool := l.any fun x => x.toList == t.toList
theorem hasB_iff {l : List ByteArray} {t : ByteArray} : hasB l t = true ↔ t ∈ l := by
  unfold hasB
  rw [List.any_eq_true]
  constructor
  · rintro ⟨x, hx, he⟩
    rw [← ba_ext (beq_iff_eq.1 he)]; exact hx
  · intro h
    exact ⟨t, h, beq_self_eq_true _⟩
theorem hasB_no {l : List ByteArray} {t : ByteArray} : hasB l t = false ↔ ¬ t ∈ l := by rw [← hasB_iff]; simp
/-- The tags that come of three lists: what is put in order. -/
def tagX (base a b : List ByteArray) : List ByteArray := a.filter (fun t => hasB b t || !hasB base t) ++ b.filter (fun t => !hasB base t)
def rtagX (base a b : List ByteArray) : List ByteArray := (a ++ b).filter (fun t => (hasB a t && hasB b t) || !hasB base t)
theorem tagX_same (base a b : List ByteArray) (x : ByteArray) : x ∈ tagX base a b ↔ x ∈ rtagX base a b := by
  unfold tagX rtagX
  simp only [List.mem_append, List.mem_filter, Bool.or_eq_true, Bool.and_eq_true, Bool.not_eq_true', hasB_iff, hasB_no]
  constructor
  · rintro (⟨h1, h2 | h2⟩ | ⟨h1, h2⟩)
    · exact ⟨.inl h1, .inl ⟨h1, h2⟩⟩
    · exact ⟨.inl h1, .inr h2⟩
    · exact ⟨.inr h1, .inr h2⟩
  · rintro ⟨h1 | h1, ⟨h2, h3⟩ | h2⟩
    · exact .inl ⟨h1, .inl h3⟩
    · exact .inl ⟨h1, .inr h2⟩
    · exact .inl ⟨h2, .inl h3⟩
    · exact .inr ⟨h1, h2⟩
theorem tagX_turn (base a b : List ByteArray) (x : ByteArray) : x ∈ tagX base b a ↔ x ∈ tagX base a b := by
  unfold tagX
  simp only [List.mem_append, List.mem_filter, Bool.or_eq_true, Bool.not_eq_true', hasB_iff, hasB_no]
  constructor
  · rintro (⟨h1, h2 | h2⟩ | ⟨h1, h2⟩)
    · exact .inl ⟨h2, .inl h1⟩
    · exact .inr ⟨h1, h2⟩
    · exact .inl ⟨h1, .inr h2⟩
  · rintro (⟨h1, h2 | h2⟩ | ⟨h1, h2⟩)
    · exact .inl ⟨h2, .inl h1⟩
    · exact .inr ⟨h1, h2⟩
    · exact .inl ⟨h1, .inr h2⟩
end Go.Proofs.Ytfjnpiahloncmaa
