import Derived.Test.YtfjnpiahloncmaaCanF
namespace Go.Proofs.Ytfjnpiahloncmaa
open Go.RowKit
set_option linter.unusedVariables false
theorem rises_len {α : Type} {key : α → Int} : ∀ {e X : List α}, Rises key e → (∀ x ∈ e, x ∈ X) → e.length ≤ X.length
  | [], _, _, _ => Nat.zero_le _
  | y :: e, X, h, hs => by
    obtain ⟨s, t, rfl⟩ := List.append_of_mem (hs y List.mem_cons_self)
    have h1 := List.pairwise_cons.1 h
    have := rises_len (X := s ++ t) h1.2 (fun x hx => by
      have hm := hs x (List.mem_cons_of_mem _ hx)
      have hne : x ≠ y := fun e => by subst e; have := h1.1 x hx; omega
      simp only [List.mem_append, List.mem_cons] at hm ⊢
      rcases hm with h | h | h
      · exact .inl h
      · exact absurd h hne
      · exact .inr h)
    simp at this ⊢; omega
end Go.Proofs.Ytfjnpiahloncmaa
