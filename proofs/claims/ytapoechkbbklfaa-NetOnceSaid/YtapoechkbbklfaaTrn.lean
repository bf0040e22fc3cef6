import Derived.Test.YtapoechkbbklfaaPut
import Derived.Test.YtapoechkbbklfaaTwo
import Derived.Test.YtapoechkbbklfaaGd
namespace Go.Proofs.Ytapoechkbbklfaa
open Go.RowKit
set_option linter.unusedVariables false
/-! What a call may turn: the old blocks of which p is said, and no others. -/
structure Turn (p : Nat → Prop) (w w' : World) : Prop where
  os : w'.os = w.os
  tape : w'.tape = w.tape
  output : w'.output = w.output
  size : w.heap.size ≤ w'.heap.size
  block : ∀ k, k < w.heap.size → ¬ p k → w'.heap[k]? = w.heap[k]?
section
variable {p q : Nat → Prop} {w w1 w' : World}
theorem Turn.refl (p : Nat → Prop) (w : World) : Turn p w w := ⟨rfl, rfl, rfl, Nat.le_refl _, fun _ _ _ => rfl⟩
theorem Turn.of_below (h : Below w.heap.size w w') : Turn p w w' := ⟨h.os, h.tape, h.output, h.size, fun k hk _ => h.block k hk⟩
theorem Turn.mono (h : Turn p w w') (hq : ∀ k, k < w.heap.size → p k → q k) : Turn q w w' := ⟨h.os, h.tape, h.output, h.size, fun k hk hn => h.block k hk (fun e => hn (hq k hk e))⟩
theorem Turn.trans (h : Turn p w w1) (k : Turn q w1 w') (hq : ∀ k, k < w.heap.size → q k → p k) : Turn p w w' :=
  ⟨k.os.trans h.os, k.tape.trans h.tape, k.output.trans h.output, Nat.le_trans h.size k.size, fun i hi hn => (k.block i (Nat.lt_of_lt_of_le hi h.size) (fun e => hn (hq i hi e))).trans (h.block i hi hn)⟩
theorem Turn.and_below (h : Turn p w w1) (k : Below w1.heap.size w1 w') : Turn p w w' := h.trans (Turn.of_below (p := p) k) (fun _ _ h => h)
theorem Turn.of_grown {row : Option Nat} (h : w.grownBy w' row) (hr : ∀ k, row = some k → p k) : Turn p w w' := ⟨h.os, h.tape, h.output, h.size, fun k hk hn => h.block k hk (fun e => hn (hr k e.symm))⟩
theorem Turn.below {B : Nat} (h : Turn p w w') (hB : B ≤ w.heap.size) (hp : ∀ k, k < w.heap.size → p k → B ≤ k) : Below B w w' := ⟨h.os, h.tape, h.output, h.size, fun k hk => h.block k (by omega) (fun e => by have := hp k (by omega) e; omega)⟩
theorem Turn.cell (h : Turn p w w') {a : Addr} {v : Value} (hc : w.cell? a = some v) (hn : ¬ p a.block) : w'.cell? a = some v := by
  have := h.block a.block (World.block_lt_of_cell? w a hc) hn
  simpa [World.cell?, this] using hc
theorem Turn.blk (h : Turn p w w') {b : Nat} {o : Obj} (hb : w.heap[b]? = some o) (hn : ¬ p b) : w'.heap[b]? = some o := (h.block b (blk_lt hb) hn).trans hb
theorem Turn.set {j : Nat} {v : Value} {b : Nat} (h : Turn p w w') (hb : b < w.heap.size → p b) : Turn p w (w'.setCell ⟨b, j, none⟩ v) :=
  ⟨h.os, h.tape, h.output, by simpa [World.setCell] using h.size, fun k hk hn => (Below.heap_setCell _ _ _ _ (fun e => hn (by subst e; exact hb hk))).trans (h.block k hk hn)⟩
variable {ok ok' : Nat → Prop} {s : Sh}
theorem Rd.turn {x : s.Ty} {cs : List Value} (hr : Rd w ok s x cs) (h : Turn p w w') (hok : ∀ k, k < w.heap.size → ok k → ¬ p k ∧ ok' k) : Rd w' ok' s x cs :=
  hr.of (fun a v hk hc => h.cell hc (hok _ (World.block_lt_of_cell? w a hc) hk).1) (fun k hk hlt => (hok k hlt hk).2)
theorem Rows.turn {A : Option Addr} {n : Nat} {l : List s.Ty} (hr : Rows w ok s A n l) (h : Turn p w w') (hok : ∀ k, k < w.heap.size → ok k → ¬ p k ∧ ok' k) : Rows w' ok' s A n l :=
  hr.of (fun a v hk hc => h.cell hc (hok _ (World.block_lt_of_cell? w a hc) hk).1) (fun k hk hlt => (hok k hlt hk).2)
theorem RdL.turn {l : List s.Ty} {cs : List Value} (hr : RdL w ok s l cs) (h : Turn p w w') (hok : ∀ k, k < w.heap.size → ok k → ¬ p k ∧ ok' k) : RdL w' ok' s l cs :=
  hr.of (fun a v hk hc => h.cell hc (hok _ (World.block_lt_of_cell? w a hc) hk).1) (fun k hk hlt => (hok k hlt hk).2)
/-- An own row where its own block, and those of what it holds, are not turned. -/
theorem OwnG.turn {base : Nat} {e : TypeId} {v : Value} {l : List s.Ty} (ho : OwnG w base ok e s v l) (h : Turn p w w') (hv : ∀ k, v.ownBlock = some k → ¬ p k) (hok : ∀ k, k < w.heap.size → ok k → ¬ p k) : OwnG w' base ok e s v l := by
  obtain ⟨xs, ⟨h1, h2⟩, hr⟩ := ho
  refine ⟨xs, ⟨h1, ?_⟩, hr.turn h (fun k hk hx => ⟨hok k hk hx.1, hx⟩)⟩
  rcases h2 with h2 | ⟨g, cap, cur, hv', hb, hg, hrest⟩
  · exact .inl h2
  · exact .inr ⟨g, cap, cur, hv', hb, h.blk hg (hv g (by rw [hv']; rfl)), hrest⟩
/-- What an own row holds, in its cells: nothing of it lies in the row's own block. -/
theorem OwnG.rows {base : Nat} {e : TypeId} {v : Value} {l : List s.Ty} (h : OwnG w base ok e s v l) : ∃ A c, v = .slice A l.length c ∧ l.length ≤ c ∧ c ≤ 9223372036854775807 ∧ (A = none → c = 0) ∧ (∀ ad, A = some ad → ∃ g, ad = ⟨g, 0, none⟩ ∧ v.ownBlock = some g ∧ base ≤ g ∧ g < w.heap.size) ∧ ∃ xs, RdL w (fun k => ok k ∧ v.ownBlock ≠ some k) s l xs ∧ ∀ ad, A = some ad → At w ad 0 xs := by
  obtain ⟨xs, ho, hr⟩ := h
  rcases ho.2 with ⟨rfl, h0⟩ | ⟨g, cap, cur, rfl, hb, hg, hnc, hcm, _⟩
  · exact ⟨none, 0, by rw [h0], by omega, by omega, fun _ => rfl, (fun ad e => by cases e), xs, hr, (fun ad e => by cases e)⟩
  · simp only [maxLen] at hcm
    refine ⟨_, cap, rfl, hnc, by omega, (fun e => by cases e), (fun ad e => by injection e with e; exact ⟨g, e.symm, rfl, hb, blk_lt hg⟩), xs, hr, fun ad e j u hu => ?_⟩
    injection e with e
    subst e
    rw [Nat.zero_add]
    exact ho.cells (g := g) rfl j u hu
theorem RdL.get : ∀ {l : List s.Ty} {xs : List Value} {i : Nat} {x : s.Ty}, RdL w ok s l xs → l[i]? = some x → ∃ cs, (∀ j v, cs[j]? = some v → xs[i * s.size + j]? = some v) ∧ Rd w ok s x cs
  | l, xs, i, x, h, hx => by
    obtain ⟨cs, h1, h2, _⟩ := h.put hx
    exact ⟨cs, h1, h2⟩
theorem RdL.take_drop : ∀ {l : List s.Ty} {xs : List Value} (i : Nat), i ≤ l.length → RdL w ok s l xs → RdL w ok s (l.take i) (xs.take (i * s.size)) ∧ RdL w ok s (l.drop i) (xs.drop (i * s.size))
  | [], xs, i, hi, h => by
    rw [show xs = [] from h]
    simp
    exact rfl
  | x :: l, xs, 0, hi, h => by simp; exact ⟨rfl, h⟩
  | x :: l, xs, i + 1, hi, h => by
    obtain ⟨c1, c2, rfl, h2, h3⟩ := h
    have hl := h2.len
    obtain ⟨k1, k2⟩ := h3.take_drop i (by simpa using hi)
    have e : (i + 1) * s.size = c1.length + i * s.size := by rw [hl, Nat.add_mul]; omega
    rw [e, List.take_length_add_append, List.drop_length_add_append]
    exact ⟨⟨c1, _, rfl, h2, k1⟩, k2⟩
theorem At.sub {ad : Addr} {xs : List Value} (h : At w ad 0 xs) (i : Nat) : At w (ad.add i) 0 (xs.drop i) := fun j v hv => by
  rw [List.getElem?_drop] at hv
  have := h (i + j) v hv
  rw [Nat.zero_add] at this ⊢
  rw [add_add]
  exact this
theorem At.take {ad : Addr} {xs : List Value} (h : At w ad 0 xs) (i : Nat) : At w ad 0 (xs.take i) := fun j v hv => by
  rw [List.getElem?_take] at hv
  split at hv
  · exact h j v hv
  · cases hv
theorem At.turn {ad : Addr} {o : Nat} {xs : List Value} (ha : At w ad o xs) (h : Turn p w w') (hn : ¬ p ad.block) : At w' ad o xs := fun j v hv => h.cell (ha j v hv) (by rw [add_block]; exact hn)
end
end Go.Proofs.Ytapoechkbbklfaa
