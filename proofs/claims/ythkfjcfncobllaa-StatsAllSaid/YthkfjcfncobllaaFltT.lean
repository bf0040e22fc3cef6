import Derived.Test.YthkfjcfncobllaaFltS
import Derived.ChangeShapes
import Derived.ChangeSlices
import Derived.LaidMore
namespace Go.Proofs.Ythkfjcfncobllaa
open Go.RowKit FP
theorem least_any (a : Option Addr) (n cap : Nat) (l : List Nat) (w : World) (ha : Fs w a n l) (hn : n ≤ 9223372036854775807) :
    Calls Try.prog 30 #[.slice a n cap] w fun e w' => e = .returned (.float .f64 (rcanF (endL .lt l))) ∧ Below w.heap.size w w' := by
  go_enter Try.func30, Try.ntmps30
  go_wp2_with (go_at_call 52; refine (endLess a n cap l _ ha hn).mono ?_; rintro e w' ⟨rfl, hb⟩)
  go_ret
  exact ⟨rfl, hb⟩
theorem most_any (a : Option Addr) (n cap : Nat) (l : List Nat) (w : World) (ha : Fs w a n l) (hn : n ≤ 9223372036854775807) :
    Calls Try.prog 31 #[.slice a n cap] w fun e w' => e = .returned (.float .f64 (rcanF (endL .gt l))) ∧ Below w.heap.size w w' := by
  go_enter Try.func31, Try.ntmps31
  go_wp2_with (go_at_call 52; refine (endMost a n cap l _ ha hn).mono ?_; rintro e w' ⟨rfl, hb⟩)
  go_ret
  exact ⟨rfl, hb⟩
theorem Fs.below {w w' : World} {a : Option Addr} {n : Nat} {l : List Nat} (h : Fs w a n l) (hb : Below w.heap.size w w') : Fs w' a n l := ⟨h.1.of_cells fun _ _ hc => cell_below hb hc, h.2⟩
theorem ex_list {α : Type} {Pr : Nat → α → Prop} : ∀ {n : Nat}, (∀ i, i < n → ∃ x, Pr i x) → ∃ l : List α, l.length = n ∧ ∀ i x, l[i]? = some x → Pr i x
  | 0, _ => ⟨[], rfl, fun i x h => by simp at h⟩
  | n + 1, h => by
    obtain ⟨l, hl, hp⟩ := ex_list (n := n) (fun i hi => h i (by omega))
    obtain ⟨x, hx⟩ := h n (by omega)
    refine ⟨l ++ [x], by simp [hl], fun i y hy => ?_⟩
    by_cases hi : i < l.length
    · rw [List.getElem?_append_left hi] at hy; exact hp i y hy
    · rw [List.getElem?_append_right (by omega)] at hy
      by_cases h0 : i - l.length = 0
      · rw [h0] at hy
        simp at hy
        subst hy
        rwa [show i = n from by omega]
      · rw [List.getElem?_eq_none (by simp; omega)] at hy; cases hy
section
variable {H : Type} {enc : TypeId × Value → H} {w : World} {base : Nat} {spare : Nat → Bool} {held : Bool}
theorem f64_of_wf {n : Nat} (h : (Lit.float .f64 n).wf = true) : n < 18446744073709551616 := by
  have : n < 2 ^ 64 := by simpa [Lit.wf] using h
  exact this
theorem trod_f64 {P : Program} {t : TypeId} {fuel : Nat} {cs : List Value} {x : DataW H × List MemPlace} (ht : P.underlying t = some (.float .f64)) (h : DataW.trod enc P w base spare held fuel t cs = some x) : ∃ n, cs = [.float .f64 n] ∧ x = (.lit (.float .f64 n), []) ∧ (Lit.float .f64 n).wf = true := by
  cases fuel with
  | zero => simp [DataW.trod] at h
  | succ n =>
    unfold DataW.trod at h
    rw [ht] at h
    split at h <;> simp_all
theorem open_floats {fuel : Nat} {cs : List Value} {x : DataW H × List MemPlace} (h : DataW.trod enc Try.prog w base spare held fuel 22 cs = some x) :
    ∃ (A : Option Addr) (n c : Nat) (l : List Nat), cs = [.slice A n c] ∧ n ≤ c ∧ c ≤ 9223372036854775807 ∧ Fs w A n l := by
  have hc : Try.prog.cellsOf 27 = 1 := by kernel_rfl
  rcases DataW.trod_slice Try.underlying22 h with ⟨hcs, _⟩ | ⟨a, len, cap, elems, rest, n, _, hcs, _, _, hl, hm, hlen, hel, _, _⟩
  · exact ⟨none, 0, 0, [], hcs, by omega, by omega, ⟨rfl, fun _ => rfl, fun ad e => by cases e⟩, fun x hx => by cases hx⟩
  · simp only [maxLen] at hm
    have each : ∀ i, i < len → ∃ b : Nat, w.cell? (a.add i) = some (.float .f64 b) ∧ b < 18446744073709551616 := by
      intro i hi
      have h1 := hel i hi
      obtain ⟨y, hy⟩ : ∃ y, elems[i]? = some y := ⟨elems[i]'(by omega), List.getElem?_eq_getElem (by omega)⟩
      rw [hy, hc, Nat.mul_one, Option.bind_eq_some_iff] at h1
      obtain ⟨c1, hc1, hy1⟩ := h1
      obtain ⟨z, q, _, wz⟩ := trod_f64 Try.underlying27 hy1
      subst q
      exact ⟨z, ChangeShapes.cell_of_cells?_one hc1, f64_of_wf wz⟩
    obtain ⟨ps, hpl, hp⟩ := ex_list each
    refine ⟨some a, len, cap, ps, hcs, hl, by omega, ⟨by simpa using hpl, (fun e => by cases e), ?_⟩, ?_⟩
    · intro ad e j u hj
      injection e with e
      subst e
      rw [List.getElem?_map, Option.map_eq_some_iff] at hj
      obtain ⟨b, hb, rfl⟩ := hj
      exact (hp j b hb).1
    · intro x hx
      obtain ⟨j, hj⟩ := List.mem_iff_getElem?.1 hx
      exact (hp j x hj).2
end
end Go.Proofs.Ythkfjcfncobllaa
