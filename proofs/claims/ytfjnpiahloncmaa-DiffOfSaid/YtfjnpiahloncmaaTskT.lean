import Derived.Test.YtfjnpiahloncmaaTskL
import Derived.Test.YtfjnpiahloncmaaCdcM
namespace Go.Proofs.Ytfjnpiahloncmaa
open Go.RowKit Cdc
set_option linter.unusedVariables false
set_option linter.unusedSimpArgs false
def prnB (c : UInt8) : Bool := decide (32 ≤ c.toNat) && decide (c.toNat ≤ 126)
def titleB (s : ByteArray) : Bool := decide (1 ≤ s.size) && decide (s.size ≤ 60) && s.data.toList.all prnB
def tagcB (c : UInt8) : Bool := (decide (97 ≤ c.toNat) && decide (c.toNat ≤ 122)) || (decide (48 ≤ c.toNat) && decide (c.toNat ≤ 57)) || decide (c.toNat = 45)
def tagB (s : ByteArray) : Bool := decide (1 ≤ s.size) && decide (s.size ≤ 16) && s.data.toList.all tagcB
set_option maxRecDepth 20000 in
theorem ba_at {s : ByteArray} {i : Nat} (h : i < s.size) : ∃ c, s[i] = c ∧ s.data.toList[i]? = some c :=
  ⟨_, rfl, by rw [Array.getElem?_toList]; exact Array.getElem?_eq_getElem _⟩
set_option maxRecDepth 20000 in
theorem all_bad {α : Type} {p : α → Bool} {l : List α} {i : Nat} {x : α} (hx : l[i]? = some x) (hp : p x = false) : l.all p = false := by
  rw [List.all_eq_false]
  exact ⟨x, List.mem_of_getElem? hx, by rw [hp]; exact Bool.false_ne_true⟩
set_option maxRecDepth 20000 in
theorem all_good {α : Type} {p : α → Bool} {l : List α} (h : ∀ x ∈ l, p x = true) : l.all p = true := List.all_eq_true.2 h
set_option maxRecDepth 20000 in
theorem prn_cases (c : UInt8) : (prnB c = true ∧ ¬ (c.toNat : Int) < 32 ∧ ¬ (126 : Int) < c.toNat) ∨ (prnB c = false ∧ (c.toNat : Int) < 32) ∨ (prnB c = false ∧ ¬ (c.toNat : Int) < 32 ∧ (126 : Int) < c.toNat) := by
  unfold prnB
  by_cases h1 : 32 ≤ c.toNat <;> by_cases h2 : c.toNat ≤ 126 <;> simp [h1, h2] <;> omega
set_option maxRecDepth 20000 in
theorem tagc_cases (c : UInt8) : (tagcB c = true ∧ ((97 : Int) ≤ c.toNat ∧ (c.toNat : Int) ≤ 122)) ∨ (tagcB c = true ∧ ¬ ((97 : Int) ≤ c.toNat) ∧ ((48 : Int) ≤ c.toNat ∧ (c.toNat : Int) ≤ 57)) ∨ (tagcB c = true ∧ ¬ ((97 : Int) ≤ c.toNat) ∧ ¬ ((48 : Int) ≤ c.toNat) ∧ (c.toNat : Int) = 45) ∨
    (tagcB c = false ∧ (¬ ((97 : Int) ≤ c.toNat) ∨ ¬ ((c.toNat : Int) ≤ 122)) ∧ (¬ ((48 : Int) ≤ c.toNat) ∨ ¬ ((c.toNat : Int) ≤ 57)) ∧ ¬ (c.toNat : Int) = 45) := by
  unfold tagcB
  by_cases h1 : 97 ≤ c.toNat <;> by_cases h2 : c.toNat ≤ 122 <;> by_cases h3 : 48 ≤ c.toNat <;> by_cases h4 : c.toNat ≤ 57 <;> by_cases h5 : c.toNat = 45 <;> simp [h1, h2, h3, h4, h5] <;> omega
end Go.Proofs.Ytfjnpiahloncmaa
