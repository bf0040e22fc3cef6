import Derived.Test.YtapoechkbbklfaaBox
namespace Go.Proofs.Ytapoechkbbklfaa
open Go.RowKit
set_option linter.unusedVariables false
/-! What is read, element by element. -/
theorem rd_slv {w : World} {ok : Nat → Prop} {e : Sh} {l : List e.Ty} {cs : List Value} (h : Rd w ok (.sl e) l cs) : ∃ A c, cs = [.slice A l.length c] := by
  obtain ⟨A, n, c, h1, _, _, _, h5, _⟩ := h
  exact ⟨A, c, by rw [h1, ← h5]⟩
theorem rd_rowsN {w : World} {ok : Nat → Prop} {e : Sh} {A : Option Addr} {n c : Nat} {l : List e.Ty} (h : Rd w ok (.sl e) l [.slice A n c]) : n ≤ c ∧ c ≤ 9223372036854775807 ∧ (A = none → c = 0) ∧ Rows w ok e A n l := by
  obtain ⟨A', n', c', e, h1, h2, h3, h4⟩ := rd_sl.1 h
  injection e with e _
  injection e with e1 e2 e3
  subst e1 e2 e3
  exact ⟨h1, h2, h3, h4⟩
theorem rd_rows {w : World} {ok : Nat → Prop} {e : Sh} {A : Option Addr} {n c : Nat} {l : List e.Ty} (h : Rd w ok (.sl e) l [.slice A n c]) : Rows w ok e A n l := (rd_rowsN h).2.2.2
theorem Rows.get {w : World} {ok : Nat → Prop} {s : Sh} {A : Option Addr} {n : Nat} {l : List s.Ty} (h : Rows w ok s A n l) (i : Nat) (hi : i < n) : ∃ ad x cs, A = some ad ∧ l[i]? = some x ∧ At w (ad.add (i * s.size)) 0 cs ∧ Rd w ok s x cs := by
  have hl := h.1
  cases A with
  | none => have := h.2.1 rfl; omega
  | some ad =>
    obtain ⟨cs, _, hat, hrd⟩ := h.2.2 ad rfl i (l[i]'(by omega)) (List.getElem?_eq_getElem (by omega))
    exact ⟨ad, _, cs, rfl, List.getElem?_eq_getElem (by omega), hat.add, hrd⟩
theorem Rows.some_at {w : World} {ok : Nat → Prop} {s : Sh} {A : Option Addr} {n i : Nat} {l : List s.Ty} (h : Rows w ok s A n l) (hi : i < n) : ∃ ad x, A = some ad ∧ l[i]? = some x := by
  obtain ⟨ad, x, cs, h1, h2, _⟩ := h.get i hi
  exact ⟨ad, x, h1, h2⟩
end Go.Proofs.Ytapoechkbbklfaa
