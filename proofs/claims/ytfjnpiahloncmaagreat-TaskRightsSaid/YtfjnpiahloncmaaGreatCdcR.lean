import Derived.Test.YtfjnpiahloncmaaGreatCdcI
import Derived.Laws.Bits64b
namespace Go.Proofs.YtfjnpiahloncmaaGreat
open Go.RowKit Cdc
set_option linter.unusedVariables false
set_option linter.unusedSimpArgs false
set_option maxRecDepth 20000 in
/-- Blocks below g are not g. -/
theorem lt_ne {A : Option Addr} {g : Nat} {p : Prop} (h : p → ∀ ad, A = some ad → ad.block < g) : p → A.map (·.block) ≠ some g := by
  intro hp e
  cases A with
  | none => cases e
  | some ad =>
    injection e with e
    have := h hp ad rfl
    exact absurd e (Nat.ne_of_lt this)
set_option maxRecDepth 20000 in
theorem Bs.set {w : World} {A : Option Addr} {n : Nat} {xs : List UInt8} (h : Bs w A n xs) {g j : Nat} {v : Value} (hne : xs ≠ [] → A.map (·.block) ≠ some g) : Bs (w.setCell ⟨g, j, none⟩ v) A n xs := by
  refine ⟨h.1, h.2.1, h.2.2.1, fun ad e k u hu => ?_⟩
  subst e
  rw [World.cell?_setCell_far _ _ _ _ (by rw [add_block]; intro e; exact hne (by intro e; subst e; simp at hu) (congrArg some e.symm))]
  exact h.2.2.2 ad rfl k u hu
set_option maxRecDepth 20000 in
theorem grown_set {w w' : World} {g j : Nat} {v : Value} (h : w.grownBy w' (some g)) : w.grownBy (w'.setCell ⟨g, j, none⟩ v) (some g) :=
  ⟨h.os, h.tape, h.output, by simpa [World.setCell] using h.size, fun k hk hne => by rw [Below.heap_setCell _ _ _ _ (fun e => hne (by rw [e]))]; exact h.block k hk hne⟩
set_option maxRecDepth 20000 in
theorem grown_refl (w : World) (r : Option Nat) : w.grownBy w r := ⟨rfl, rfl, rfl, Nat.le_refl _, fun _ _ _ => rfl⟩
set_option maxRecDepth 20000 in
theorem grown_below {w w' : World} {r : Option Nat} (h : Below w.heap.size w w') : w.grownBy w' r := ⟨h.os, h.tape, h.output, h.size, fun k hk _ => h.block k hk⟩
set_option maxRecDepth 20000 in
theorem or_step {V : Nat} (hV : V < 72057594037927936) (x : UInt8) : bits .or .u64 ((V : Int) * 256) (IntKind.u64.wrap (x.toNat : Int)) = ((V * 256 + x.toNat : Nat) : Int) := by
  have hx := x.toNat_lt
  rw [IntKind.wrap_u64, show (x.toNat : Int) % 18446744073709551616 = (x.toNat : Int) by omega, show (V : Int) * 256 = ((V * 256 : Nat) : Int) by omega, bits_or_u64_nat _ _ (by omega) (by omega)]
  have := Nat.shiftLeft_add_eq_or_of_lt (i := 8) (b := x.toNat) (by omega) V
  rw [Nat.shiftLeft_eq] at this
  rw [← this]
end Go.Proofs.YtfjnpiahloncmaaGreat
