import Derived.WalkKit
import Derived.Maps.AppendAt
import Derived.Laws.OwnMore
import Derived.Below
import Derived.Laws.MakeOwn
import Derived.Laws.BytesArg
import Derived.Deep.AppendLies
import Derived.RegionTactic
import Derived.Deep.Draws
import Derived.Deep.QuietTactic
import Derived.BigQuiet
import Derived.Laws.IdiomStrings
import Derived.ChangeAlike
namespace Go.Proofs.Ytapoechkbbklfaa
open Go.RowKit
/-- Cells that lie one behind the other, read from an address on; of none nothing is asked. -/
def Rc (w : World) (A : Option Addr) (m : Nat) (cs : List Value) : Prop :=
  cs.length = m ∧ (A = none → m = 0) ∧ ∀ ad, A = some ad → ∀ j u, cs[j]? = some u → w.cell? (ad.add j) = some u
theorem Rc.of_cells {w w' : World} {A : Option Addr} {m : Nat} {cs : List Value} (h : Rc w A m cs) (hw : ∀ a v, w.cell? a = some v → w'.cell? a = some v) : Rc w' A m cs :=
  ⟨h.1, h.2.1, fun ad e j u hu => hw _ _ (h.2.2 ad e j u hu)⟩
theorem cell_below {w w' : World} (hb : Below w.heap.size w w') {a : Addr} {v : Value} (hc : w.cell? a = some v) : w'.cell? a = some v := (hb.cell (World.block_lt_of_cell? w a hc)).trans hc
/-- A cell of a block that isn't the row that is written. -/
theorem cell_grown {w w' : World} {row : Option Nat} (hg : w.grownBy w' row) {a : Addr} {v : Value} (hc : w.cell? a = some v) (hne : some a.block ≠ row) : w'.cell? a = some v := by
  have := hg.block a.block (World.block_lt_of_cell? w a hc) hne
  simpa [World.cell?, this] using hc
theorem own_rc {w : World} {base n : Nat} {e : TypeId} {v : Value} {xs : List Value} (h : w.ownsRow base e 1 v n xs) : ∃ A c, v = .slice A n c ∧ n ≤ c ∧ n ≤ 9223372036854775807 ∧ Rc w A n xs := by
  have hl : xs.length = n := by have := h.1; omega
  rcases h.2 with ⟨rfl, h0⟩ | ⟨g, cap, cur, rfl, _, _, hnc, hcm, _⟩
  · subst h0
    exact ⟨none, 0, rfl, Nat.le_refl _, by omega, hl, (fun _ => rfl), (fun ad e => by cases e)⟩
  · simp only [maxLen] at hcm
    refine ⟨_, cap, rfl, hnc, by omega, hl, (fun e => by cases e), ?_⟩
    intro ad e j u hu
    injection e with e
    subst e
    exact h.cells (g := g) rfl j u hu
theorem own_base {w : World} {base : Nat} {e : TypeId} {size n : Nat} {v : Value} {xs : List Value} (h : w.ownsRow base e size v n xs) (k : Nat) (hk : v.ownBlock = some k) : base ≤ k := by
  rcases h.2 with ⟨rfl, _⟩ | ⟨g, cap, cur, rfl, hb, _⟩
  · simp [Value.ownBlock] at hk
  · have : g = k := by simpa [Value.ownBlock] using hk
    omega
section
variable {P : Program} {ops : Array Oper} {rest : List Oper} {o : Oper} {a : Act} {Q : Exit → Act → World → Prop}
/-- 'append(v, ys...)': v a row of the call's own, ys cells that are read, none let in. -/
theorem wp_app {w0 W : World} {base n m c bytes : Nat} {e t : TypeId} {z v : Value} {xs ys : List Value} {A : Option Addr} (hgd : o.guard = none) (s x : Operand)
    (ho : o.op = .call { callee := .builtin .append, args := #[s, x], argTypes := #[t, t] })
    (HO : W.ownsRow base e 1 v n xs) (HR : Rc W A m ys) (HB : Below base w0 W) (ht : P.underlying t = some (.slice e)) (hinfo : (P.info? e).map (fun i => (i.zero, i.size, i.bytes)) = some (some z, 1, bytes)) (hzs : z.cells.size = 1)
    (hs : a.eval s = v) (hx : a.eval x = .slice A m c) (h1 : ∀ u ∈ ys, u.oneCell' = true)
    (hl : (n + m) * bytes ≤ 140737488355328) (h63 : n + m ≤ 9223372036854775807) (hbase : base ≤ W.heap.size)
    (h : ∀ v1 w1, w1.ownsRow base e 1 v1 (n + m) (xs ++ ys) → Below base w0 w1 → W.grownBy w1 v.ownBlock → (v1.ownBlock = v.ownBlock ∨ v1.ownBlock = some W.heap.size) → wpList P ops Q rest (a.put o.dst v1) w1) :
    wpList P ops Q (o :: rest) a W := by
  obtain ⟨i0, hi, hzz⟩ := Option.map_eq_some_iff.1 hinfo
  simp only [Prod.mk.injEq] at hzz
  obtain ⟨hz0, hz1, hz2⟩ := hzz
  have hrun : ∃ v1 w1, (Builtin.append_ #[t, t] o.type #[v, .slice A m c]).run P W = .ok v1 w1 ∧ w1.ownsRow base e 1 v1 (n + m) (xs ++ ys) ∧ W.grownBy w1 v.ownBlock ∧ (v1.ownBlock = v.ownBlock ∨ v1.ownBlock = some W.heap.size) := by
    cases A with
    | none =>
      obtain rfl : m = 0 := HR.2.1 rfl
      obtain rfl : ys = [] := List.eq_nil_of_length_eq_zero HR.1
      refine ⟨v, W, ?_, by simpa using HO, ⟨rfl, rfl, rfl, Nat.le_refl _, fun _ _ _ => rfl⟩, .inl rfl⟩
      rcases HO.2 with ⟨rfl, hn⟩ | ⟨g, cap, cur, rfl, _, _, hnc, _⟩
      · subst hn
        simp [Builtin.append_, run_underlying ht, sizeOf, typeInfo, hi, Builtin.lenOf, Builtin.firstCells]
      · simp [Builtin.append_, run_underlying ht, sizeOf, typeInfo, hi, Builtin.lenOf, Builtin.firstCells, hnc, storeCells]
    | some ad =>
      obtain ⟨v1, w1, hr, h2, h3, _, h5⟩ := run_append_own_at (P := P) W base t o.type e i0 z 1 bytes ht hi hz0 hz1 hz2 hzs (by omega) v n xs HO ad m c ys (by rw [HR.1]; omega) (HR.2.2 ad rfl) h1 (by simp only [maxLen]; exact h63) hl hbase
      exact ⟨v1, w1, hr, h2, h3, h5⟩
  obtain ⟨v1, w1, hr, hown, hg, hat⟩ := hrun
  refine wpList_plain hgd fun K hK => ?_
  unfold Oper.wp execOp
  simp only [ho, resolve, invoke, builtin, Sem.run_bind, Sem.run_pure, Result.andThen_ok, List.map_toArray, List.map_cons, List.map_nil, hs, hx, hr]
  exact hK _ _ (h v1 w1 hown (HB.grown hg hbase (fun k hk => own_base HO k hk)) hg hat)
end
/-! ### Bytes -/
def encB (x : UInt8) : Value := .int .u8 x.toNat
/-- A slice of bytes that is read. -/
def Bs (w : World) (a : Option Addr) (n : Nat) (xs : List UInt8) : Prop := n ≤ 9223372036854775807 ∧ Rc w a n (xs.map encB)
theorem Bs.len {w : World} {a : Option Addr} {n : Nat} {xs : List UInt8} (h : Bs w a n xs) : xs.length = n := by simpa using h.2.1
theorem Bs.at_ {w : World} {a : Option Addr} {n : Nat} {xs : List UInt8} (h : Bs w a n xs) (k : Nat) (hk : k < n) :
    ∃ ad x, a = some ad ∧ xs[k]? = some x ∧ w.cell? (ad.add k) = some (.int .u8 x.toNat) := by
  have hl := h.len
  obtain ⟨_, _, hz, hc⟩ := h
  cases a with
  | none => have := hz rfl; omega
  | some ad =>
    refine ⟨ad, xs[k], rfl, List.getElem?_eq_getElem (by omega), hc ad rfl k _ ?_⟩
    rw [List.getElem?_map, List.getElem?_eq_getElem (by omega)]; rfl
theorem Bs.below {w w' : World} {a : Option Addr} {n : Nat} {xs : List UInt8} (h : Bs w a n xs) (hb : Below w.heap.size w w') : Bs w' a n xs :=
  ⟨h.1, h.2.of_cells fun _ _ hc => cell_below hb hc⟩
theorem own_bs {w : World} {base n : Nat} {e : TypeId} {v : Value} {xs : List UInt8} (h : w.ownsRow base e 1 v n (xs.map encB)) : ∃ A c, v = .slice A n c ∧ n ≤ c ∧ Bs w A n xs := by
  obtain ⟨A, c, e1, e2, e3, hr⟩ := own_rc h
  exact ⟨A, c, e1, e2, e3, hr⟩
theorem one_bs (xs : List UInt8) : ∀ u ∈ xs.map encB, u.oneCell' = true := by
  intro u hu
  obtain ⟨x, _, rfl⟩ := List.mem_map.1 hu
  rfl
/-- A literal: a row of the call's own, and cells that are read. -/
theorem lit_own (W : World) (e : TypeId) (cells : Array Value) (n : Nat) (hc : cells.size = n) (hl : n ≤ 9223372036854775807) :
    (W.alloc (.cells cells e)).ownsRow W.heap.size e 1 (.slice (some ⟨W.heap.size, 0, none⟩) n n) n cells.toList :=
  World.ownsRow_lit (base := W.heap.size) (e := e) (size := 1) W cells n (Nat.le_refl _) (by simpa [maxLen] using hl) (by omega)
theorem lit_rc (W : World) (e : TypeId) (f : Nat × Nat) (cells : Array Value) (n : Nat) (hc : cells.size = n) : Rc (W.alloc (.cells cells e f)) (some ⟨W.heap.size, 0, none⟩) n cells.toList := by
  refine ⟨by simpa using hc, (fun e => by cases e), ?_⟩
  intro ad e j u hu
  injection e with e
  subst e
  have ha : (⟨W.heap.size, 0, none⟩ : Addr).add j = ⟨W.heap.size, j, none⟩ := by unfold Addr.add; split <;> simp_all
  rw [ha, World.cell?_alloc_mark]
  simpa using hu
theorem below_alloc1 (w : World) (o : Obj) : Below w.heap.size w (w.alloc o) := (Below.refl _ _).alloc (Nat.le_refl _) _
/-- A literal of bytes. -/
theorem lit_bs (W : World) (e : TypeId) (xs : List UInt8) (cells : Array Value) (hc : cells = (xs.map encB).toArray) (hl : xs.length ≤ 9223372036854775807) :
    (W.alloc (.cells cells e)).ownsRow W.heap.size e 1 (.slice (some ⟨W.heap.size, 0, none⟩) xs.length xs.length) xs.length (xs.map encB) ∧ Bs (W.alloc (.cells cells e)) (some ⟨W.heap.size, 0, none⟩) xs.length xs := by
  subst hc
  have h := World.ownsRow_lit (base := W.heap.size) (e := e) (size := 1) W (xs.map encB).toArray xs.length (Nat.le_refl _) (by simpa [maxLen] using hl) (by simp)
  refine ⟨h, hl, by simp, (fun e => by cases e), ?_⟩
  intro ad e j u hu
  injection e with e
  subst e
  exact h.cells (g := W.heap.size) rfl j u hu
theorem take_at {α : Type} {xs : List α} {k : Nat} {x : α} (h : xs[k]? = some x) : xs.take (k + 1) = xs.take k ++ [x] := by
  rw [List.take_add_one, h]; rfl
theorem own_nil (W : World) (base : Nat) (e : TypeId) (size : Nat) : W.ownsRow base e size (.slice none 0 0) 0 [] := ⟨by simp, .inl ⟨rfl, rfl⟩⟩
theorem ret_bool {a b : Bool} (h : a = b) : Ending.returned (.bool a) = .returned (.bool b) := by rw [h]
theorem add_plain (g j : Nat) : (⟨g, 0, none⟩ : Addr).add j = ⟨g, j, none⟩ := by unfold Addr.add; split <;> simp_all
theorem own_cell {w : World} {base g n cap : Nat} {e : TypeId} {cs : List Value} (h : w.ownsRow base e 1 (.slice (some ⟨g, 0, none⟩) n cap) n cs) {k : Nat} {u : Value} (hu : cs[k]? = some u) : w.cell? ⟨g, k, none⟩ = some u := by
  have hc := h.cells (g := g) rfl k u hu
  rwa [add_plain] at hc
theorem own_byte {w : World} {base g n cap : Nat} {e : TypeId} {xs : List UInt8} (h : w.ownsRow base e 1 (.slice (some ⟨g, 0, none⟩) n cap) n (xs.map encB)) {k : Nat} {x : UInt8} (hx : xs[k]? = some x) : w.cell? ⟨g, k, none⟩ = some (.int .u8 x.toNat) :=
  own_cell h (by rw [List.getElem?_map, hx]; rfl)
theorem own_free {w : World} {base g n cap : Nat} {e : TypeId} {cs : List Value} (h : w.ownsRow base e 1 (.slice (some ⟨g, 0, none⟩) n cap) n cs) (k : Nat) : w.frozen? ⟨g, k, none⟩ = false := by
  rcases h.2 with ⟨h', _⟩ | ⟨g', cap', cur', h', _, hh, _⟩
  · cases h'
  · have : g = g' := by injection h' with h'; injection h' with h'; injection h' with h'
    subst this
    simp [World.frozen?, hh]
theorem own_cast {w : World} {base : Nat} {e : TypeId} {size n : Nat} {v : Value} {xs ys : List Value} (h : w.ownsRow base e size v n xs) (hx : xs = ys) : w.ownsRow base e size v n ys := hx ▸ h
theorem own_form {w : World} {base : Nat} {e : TypeId} {size n : Nat} {v : Value} {xs : List Value} (h : w.ownsRow base e size v n xs) (hn : 0 < n) :
    ∃ g cap, v = .slice (some ⟨g, 0, none⟩) n cap ∧ base ≤ g ∧ g < w.heap.size ∧ n ≤ cap ∧ cap ≤ 9223372036854775807 := by
  rcases h.2 with ⟨_, h0⟩ | ⟨g, cap, cur, hv, hb, hg, hnc, hcm, _⟩
  · omega
  · simp only [maxLen] at hcm
    exact ⟨g, cap, hv, hb, (Array.getElem?_eq_some_iff.1 hg).1, hnc, by omega⟩
theorem add_add (a : Addr) (i j : Nat) : (a.add i).add j = a.add (i + j) := by
  unfold Addr.add
  by_cases hi : i = 0 <;> by_cases hj : j = 0 <;> simp [hi, hj]
  omega
/-- A part of what is read. -/
theorem Bs.sub {w : World} {ad : Addr} {n : Nat} {xs : List UInt8} (h : Bs w (some ad) n xs) (lo hi : Nat) (h1 : lo ≤ hi) (h2 : hi ≤ n) : Bs w (some (ad.add lo)) (hi - lo) ((xs.take hi).drop lo) := by
  have hl := h.len
  refine ⟨by have := h.1; omega, by simp; omega, (fun e => by cases e), ?_⟩
  intro ad' e j u hu
  injection e with e
  subst e
  rw [add_add]
  refine h.2.2.2 ad rfl (lo + j) u ?_
  rw [List.getElem?_map, List.getElem?_drop, List.getElem?_take] at hu
  rw [List.getElem?_map]
  by_cases hj : lo + j < hi
  · rwa [if_pos hj] at hu
  · rw [if_neg hj] at hu; cases hu
theorem own_len {w : World} {base : Nat} {e : TypeId} {size n m : Nat} {v : Value} {xs : List Value} (h : w.ownsRow base e size v n xs) (hx : n = m) : w.ownsRow base e size v m xs := hx ▸ h
theorem below_drewN {B : Nat} {w W : World} (h : Below B w W) (n : Nat) : Below B w (W.drewN n) := ⟨h.os, h.tape, h.output, h.size, h.block⟩
theorem below_grown {B : Nat} {w w1 w2 : World} {row : Option Nat} (h : Below B w w1) (hB : B ≤ w1.heap.size) (hg : w1.grownBy w2 row) (hr : ∀ k, row = some k → B ≤ k) : Below B w w2 := h.grown hg hB hr
end Go.Proofs.Ytapoechkbbklfaa
