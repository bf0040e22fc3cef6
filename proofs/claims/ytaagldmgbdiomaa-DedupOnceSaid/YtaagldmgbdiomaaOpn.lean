import Derived.Test.YtaagldmgbdiomaaLst
import Derived.ChangeSlices
import Derived.ChangeShapes
import Derived.LaidMore
namespace Go.Proofs.Ytaagldmgbdiomaa
open Go.RowKit
/-! What a row's arguments are, read. -/
theorem ex_list {α : Type} {Pr : Nat → α → Prop} : ∀ {n : Nat}, (∀ i, i < n → ∃ x, Pr i x) → ∃ l : List α, l.length = n ∧ ∀ i x, l[i]? = some x → Pr i x
  | 0, _ => ⟨[], rfl, fun i x h => by simp at h⟩
  | n + 1, h => by
    obtain ⟨l, hl, hp⟩ := ex_list (n := n) (fun i hi => h i (by omega))
    obtain ⟨x, hx⟩ := h n (by omega)
    refine ⟨l ++ [x], by simp [hl], fun i y hy => ?_⟩
    by_cases hi : i < l.length
    · rw [List.getElem?_append_left hi] at hy; exact hp i y hy
    · rw [List.getElem?_append_right (by omega)] at hy
      by_cases h0 : i - l.length = 0
      · rw [h0] at hy
        simp at hy
        subst hy
        rwa [show i = n from by omega]
      · rw [List.getElem?_eq_none (by simp; omega)] at hy; cases hy
section
variable {H : Type} {enc : TypeId × Value → H} {P : Program} {w : World} {base : Nat} {spare : Nat → Bool} {held : Bool}
theorem u8_of_wf {n : Int} (h : (Lit.int .u8 n).wf = true) : ∃ c : UInt8, n = (c.toNat : Int) := by
  have : 0 ≤ n ∧ n ≤ 2 ^ 8 - 1 := by simpa [Lit.wf, IntKind.min, IntKind.max, IntKind.bits, IntKind.signed] using h
  exact ⟨UInt8.ofNat n.toNat, by rw [UInt8.toNat_ofNat']; omega⟩
/-- A slice of bytes that came in. -/
theorem open_bytes {t e : TypeId} {fuel : Nat} {cs : List Value} {x : DataW H × List MemPlace} (ht : P.underlying t = some (.slice e)) (he : P.underlying e = some (.int .u8)) (hc : P.cellsOf e = 1)
    (h : DataW.trod enc P w base spare held fuel t cs = some x) :
    ∃ (A : Option Addr) (n c : Nat) (xs : List UInt8), cs = [.slice A n c] ∧ n ≤ c ∧ c ≤ 9223372036854775807 ∧ (A = none → c = 0) ∧ Bs w A n xs := by
  rcases ChangeShapes.open_ints ht he hc h with ⟨hcs, _⟩ | ⟨a, len, cap, zs, hcs, _, hl, hm, hz, _, hcell, hwz⟩
  · exact ⟨none, 0, 0, [], hcs, by omega, by omega, fun _ => rfl, by omega, rfl, (fun _ => rfl), fun ad e => by cases e⟩
  · have hzl : len ≤ zs.length := by rw [hz]; split <;> omega
    simp only [maxLen] at hm
    refine ⟨some a, len, cap, (zs.take len).map fun n => UInt8.ofNat n.toNat, hcs, hl, by omega, (fun e => by cases e), by omega, by simp; omega, (fun e => by cases e), ?_⟩
    intro ad e j u hu
    injection e with e
    subst e
    rw [List.getElem?_map, List.getElem?_map, List.getElem?_take] at hu
    by_cases hj : j < len
    · rw [if_pos hj, List.getElem?_eq_getElem (by omega)] at hu
      simp only [Option.map_some] at hu
      injection hu with hu
      subst hu
      rw [hcell j (by omega), List.getD_eq_getElem?_getD, List.getElem?_eq_getElem (by omega)]
      obtain ⟨y, hy⟩ := u8_of_wf (hwz zs[j] (List.getElem_mem _))
      show some (Value.int .u8 zs[j]) = some (encB (UInt8.ofNat zs[j].toNat))
      rw [hy]
      have := y.toNat_lt
      simp [encB]
    · rw [if_neg hj] at hu
      cases hu
/-- A slice of slices of bytes that came in. -/
theorem open_texts {t e b : TypeId} {fuel : Nat} {cs : List Value} {x : DataW H × List MemPlace} (ht : P.underlying t = some (.slice e)) (he : P.underlying e = some (.slice b)) (hb : P.underlying b = some (.int .u8)) (hc : P.cellsOf e = 1) (hcb : P.cellsOf b = 1)
    (h : DataW.trod enc P w base spare held fuel t cs = some x) :
    ∃ (A : Option Addr) (n c : Nat) (vs : List Value) (l : List (List UInt8)), cs = [.slice A n c] ∧ n ≤ c ∧ c ≤ 9223372036854775807 ∧ (A = none → c = 0) ∧ Rc w A n vs ∧ Txs w vs l := by
  rcases DataW.trod_slice ht h with ⟨hcs, _⟩ | ⟨a, len, cap, elems, rest, n, _, hcs, _, _, hl, hm, hlen, hel, _, _⟩
  · exact ⟨none, 0, 0, [], [], hcs, by omega, by omega, fun _ => rfl, ⟨rfl, fun _ => rfl, fun ad e => by cases e⟩, Txs.nil w⟩
  · simp only [maxLen] at hm
    have each : ∀ i, i < len → ∃ p : Value × List UInt8, w.cell? (a.add i) = some p.1 ∧ Tx w p.1 p.2 := by
      intro i hi
      have h1 := hel i hi
      have : ∃ y, elems[i]? = some y := ⟨elems[i]'(by omega), List.getElem?_eq_getElem (by omega)⟩
      obtain ⟨y, hy⟩ := this
      rw [hy, hc, Nat.mul_one, Option.bind_eq_some_iff] at h1
      obtain ⟨c1, hc1, hy1⟩ := h1
      obtain ⟨A, m, c, xs, rfl, hmc, hcm, _, hbs⟩ := open_bytes he hb hcb hy1
      exact ⟨(.slice A m c, xs), ChangeShapes.cell_of_cells?_one hc1, A, m, c, rfl, hmc, hcm, hbs⟩
    obtain ⟨ps, hpl, hp⟩ := ex_list each
    refine ⟨some a, len, cap, ps.map (·.1), ps.map (·.2), hcs, hl, by omega, (fun e => by cases e), ⟨by simpa using hpl, (fun e => by cases e), ?_⟩, by simp, ?_⟩
    · intro ad e j u hu
      injection e with e
      subst e
      rw [List.getElem?_map, Option.map_eq_some_iff] at hu
      obtain ⟨p, hp1, rfl⟩ := hu
      exact (hp j p hp1).1
    · intro i v x hv hx
      rw [List.getElem?_map, Option.map_eq_some_iff] at hv hx
      obtain ⟨p, hp1, rfl⟩ := hv
      obtain ⟨q, hq1, rfl⟩ := hx
      rw [hp1] at hq1
      injection hq1 with hq1
      subst hq1
      exact (hp i p hp1).2
end
end Go.Proofs.Ytaagldmgbdiomaa
