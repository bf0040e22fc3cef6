import Derived.Test.YtapoechkbbklfaaHel
import Derived.ArgAppend
import Derived.Deep.Upon
namespace Go.Proofs.Ytapoechkbbklfaa
open Go.RowKit
set_option linter.unusedVariables false
/-! 'append(s[:i:i], ..)': an append that must grow; slices of a slice. -/
theorem own_keep {w w' : World} {ok : Nat → Prop} {S : Sh} {l : List S.Ty} {xs : List Value} (h : RdL w ok S l xs) (hg : w.grownBy w' none) : RdL w' (fun k => ok k ∧ k < w.heap.size) S l xs :=
  h.of (fun b u _ hu => cell_grown hg hu (by simp)) (fun k hk hlt => ⟨hk, hlt⟩)
section
variable {P : Program} {o : Oper} {a : Act} {Q : Exit → Act → World → Prop} {K : Act → World → Prop}
theorem run_appG {W : World} {ok : Nat → Prop} {S : Sh} {A B : Option Addr} {n c m c2 bytes : Nat} {t e ty : TypeId} {z : Value} {l r : List S.Ty} {xs ys : List Value}
    (hA : A = none → n = 0 ∧ c = 0) (HA : ∀ ad, A = some ad → At W ad 0 xs) (HX : RdL W ok S l xs) (hn : n = l.length)
    (HB : ∀ ad, B = some ad → At W ad 0 ys) (hB : B = none → m = 0) (HY : RdL W ok S r ys) (hm : m = r.length) (hnc : n ≤ c) (hg : c < n + m)
    (ht : P.underlying t = some (.slice e)) (hinfo : (P.info? e).map (fun i => (i.zero, i.size, i.bytes)) = some (some z, S.size, bytes)) (hzs : z.cells.size = S.size) (hsz : 0 < S.size)
    (hl : (n + m) * bytes ≤ 140737488355328) (h63 : n + m ≤ 9223372036854775807) :
    ∃ v1 w1, (Builtin.append_ #[t, t] ty #[.slice A n c, .slice B m c2]).run P W = .ok v1 w1 ∧ OwnG w1 W.heap.size ok e S v1 (l ++ r) ∧ W.grownBy w1 none := by
  obtain ⟨i0, hi, hzz⟩ := Option.map_eq_some_iff.1 hinfo
  simp only [Prod.mk.injEq] at hzz
  obtain ⟨hz0, hz1, hz2⟩ := hzz
  have hxl := HX.len
  have hyl := HY.len
  obtain ⟨bd, rfl⟩ : ∃ bd, B = some bd := by
    cases B with
    | none => have := hB rfl; omega
    | some bd => exact ⟨bd, rfl⟩
  have fin : ∀ v1 w1, w1.ownsRow W.heap.size e S.size v1 (n + m) (xs ++ ys) → W.grownBy w1 none → OwnG w1 W.heap.size ok e S v1 (l ++ r) := by
    intro v1 w1 h1 h2
    have hb := own_base h1
    have hk : ∀ k, ok k → k < W.heap.size → (ok k ∧ v1.ownBlock ≠ some k) := fun k hk hlt => ⟨hk, fun e => by have := hb k e; omega⟩
    have hc : ∀ (b : Addr) (u : Value), ok b.block → W.cell? b = some u → w1.cell? b = some u := fun b u _ hu => cell_grown h2 hu (by simp)
    exact ⟨xs ++ ys, by rw [List.length_append, ← hn, ← hm]; exact h1, (HX.of hc hk).append (HY.of hc hk)⟩
  cases A with
  | none =>
    obtain ⟨rfl, rfl⟩ := hA rfl
    obtain rfl : xs = [] := List.eq_nil_of_length_eq_zero (by rw [hxl, ← hn, Nat.zero_mul])
    obtain ⟨v1, w1, hr, h2, h3, _⟩ := run_append_own_at (P := P) W W.heap.size t ty e i0 z S.size bytes ht hi hz0 hz1 hz2 hzs hsz (.slice none 0 0) 0 [] (own_nil W _ e S.size) bd m c2 ys (by rw [hyl, ← hm]) (fun j u hu => by have := HB bd rfl j u hu; rwa [Nat.zero_add] at this) HY.one (by simp only [maxLen]; exact h63) hl (Nat.le_refl _)
    exact ⟨v1, w1, hr, fin v1 w1 h2 h3, h3⟩
  | some ad =>
    obtain ⟨v1, w1, hr, h2, h3⟩ := run_append_arg_grows (P := P) W t ty e i0 z S.size bytes ht hi hz0 hz1 hz2 hzs hsz ad n c xs (by rw [hxl, ← hn]) (fun j u hu => by have := HA ad rfl j u hu; rwa [Nat.zero_add] at this) bd m c2 ys (by rw [hyl, ← hm]) (fun j u hu => by have := HB bd rfl j u hu; rwa [Nat.zero_add] at this) hg (by simp only [maxLen]; exact h63) hl
    exact ⟨v1, w1, hr, fin v1 w1 h2 h3, h3⟩
theorem wpo_appG {W : World} {ok : Nat → Prop} {S : Sh} {A B : Option Addr} {n c m c2 bytes : Nat} {t e : TypeId} {z : Value} {l r : List S.Ty} {xs ys : List Value} (s x : Operand)
    (ho : o.op = .call { callee := .builtin .append, args := #[s, x], argTypes := #[t, t] }) (hs : a.eval s = .slice A n c) (hx : a.eval x = .slice B m c2)
    (hA : A = none → n = 0 ∧ c = 0) (HA : ∀ ad, A = some ad → At W ad 0 xs) (HX : RdL W ok S l xs) (hn : n = l.length)
    (HB : ∀ ad, B = some ad → At W ad 0 ys) (hB : B = none → m = 0) (HY : RdL W ok S r ys) (hm : m = r.length) (hnc : n ≤ c) (hg : c < n + m)
    (ht : P.underlying t = some (.slice e)) (hinfo : (P.info? e).map (fun i => (i.zero, i.size, i.bytes)) = some (some z, S.size, bytes)) (hzs : z.cells.size = S.size) (hsz : 0 < S.size)
    (hl : (n + m) * bytes ≤ 140737488355328) (h63 : n + m ≤ 9223372036854775807)
    (h : ∀ v1 w1, OwnG w1 W.heap.size ok e S v1 (l ++ r) → W.grownBy w1 none → K (a.put o.dst v1) w1) : Oper.wp P o a W K Q := by
  obtain ⟨v1, w1, hr, h1, h2⟩ := run_appG (P := P) (ty := o.type) (c2 := c2) hA HA HX hn HB hB HY hm hnc hg ht hinfo hzs hsz hl h63
  unfold Oper.wp execOp
  simp only [ho, resolve, invoke, builtin, Sem.run_bind, Sem.run_pure, Result.andThen_ok, List.map_toArray, List.map_cons, List.map_nil, hs, hx, hr]
  exact h v1 w1 h1 h2
/-- 'append(v, ys...)', v one's own and full: nothing of what lies there is turned. -/
theorem wpo_appC {W : World} {ok : Nat → Prop} {S : Sh} {base n m c2 bytes : Nat} {A B : Option Addr} {t e : TypeId} {z : Value} {l r : List S.Ty} {ys : List Value} (s x : Operand)
    (ho : o.op = .call { callee := .builtin .append, args := #[s, x], argTypes := #[t, t] }) (hs : a.eval s = .slice A n n) (hx : a.eval x = .slice B m c2)
    (HO : OwnG W base ok e S (.slice A n n) l) (hn : n = l.length)
    (HB : ∀ ad, B = some ad → At W ad 0 ys) (hB : B = none → m = 0) (HY : RdL W ok S r ys) (hm : m = r.length)
    (ht : P.underlying t = some (.slice e)) (hinfo : (P.info? e).map (fun i => (i.zero, i.size, i.bytes)) = some (some z, S.size, bytes)) (hzs : z.cells.size = S.size) (hsz : 0 < S.size)
    (hl : (n + m) * bytes ≤ 140737488355328) (h63 : n + m ≤ 9223372036854775807) (hbase : base ≤ W.heap.size)
    (h : ∀ v1 w1, OwnG w1 base ok e S v1 (l ++ r) → Below W.heap.size W w1 → K (a.put o.dst v1) w1) : Oper.wp P o a W K Q := by
  by_cases h0 : m = 0
  · subst h0
    obtain rfl : r = [] := List.eq_nil_of_length_eq_zero hm.symm
    obtain ⟨i0, hi, hzz⟩ := Option.map_eq_some_iff.1 hinfo
    simp only [Prod.mk.injEq] at hzz
    have hr : (Builtin.append_ #[t, t] o.type #[.slice A n n, .slice B 0 c2]).run P W = .ok (.slice A n n) W := by
      refine run_append_nothing (P := P) W t t o.type e i0 ht hi A n n (Nat.le_refl _) _ ?_
      cases B with
      | none => exact Src.ofNil _ ht c2
      | some ad => exact Src.ofSlice _ ht ad 0 c2 [] (by simp) (fun j u hu => by simp at hu) (fun u hu => by cases hu)
    unfold Oper.wp execOp
    simp only [ho, resolve, invoke, builtin, Sem.run_bind, Sem.run_pure, Result.andThen_ok, List.map_toArray, List.map_cons, List.map_nil, hs, hx, hr]
    exact h _ _ (by rw [List.append_nil]; exact HO) (Below.refl _ _)
  · obtain ⟨xs, ho', hr⟩ := HO
    have hA : A = none → n = 0 ∧ n = 0 := fun e => by
      subst e
      rcases ho'.2 with ⟨e, h0⟩ | ⟨g, cap, cur, e, _⟩
      · injection e with _ e1; exact ⟨e1, e1⟩
      · cases e
    have hcell : ∀ ad, A = some ad → At W ad 0 xs := fun ad e j u hu => by
      subst e
      rcases ho'.2 with ⟨e, h0⟩ | ⟨g, cap, cur, e, _⟩
      · cases e
      · injection e with e
        injection e with e
        subst e
        rw [Nat.zero_add]
        exact ho'.cells (g := g) rfl j u hu
    have HO : OwnG W base ok e S (.slice A n n) l := ⟨xs, ho', hr⟩
    have hb := own_base ho'
    refine wpo_appG s x ho hs hx hA hcell (hr.of (ok' := ok) (fun _ _ _ hc => hc) (fun k hk _ => hk.1)) hn HB hB HY hm (Nat.le_refl _) (by omega) ht hinfo hzs hsz hl h63 ?_
    intro v1 w1 h1 h2
    refine h v1 w1 ?_ ((Below.refl _ _).grown h2 (Nat.le_refl _) (fun k e => by cases e))
    obtain ⟨xs', ⟨q1, q2⟩, q3⟩ := h1
    refine ⟨xs', ⟨q1, ?_⟩, q3⟩
    rcases q2 with q2 | ⟨g, cap, cur, e, hg, hr⟩
    · exact .inl q2
    · exact .inr ⟨g, cap, cur, e, Nat.le_trans hbase hg, hr⟩
/-- 's[:i:i]'. -/
theorem run_slice_to (w : World) {t e : TypeId} {A : Option Addr} {n c i size : Nat} {k k' : IntKind} (hu : P.underlying t = some (.slice e)) (hs : (P.info? e).map (·.size) = some size) (h : i ≤ c) :
    (Instr.slice t (.slice A n c) none (some (.int k i)) (some (.int k' i))).run P w = .ok (.slice A i i) w := by
  obtain ⟨ie, hi, hzz⟩ := Option.map_eq_some_iff.1 hs
  subst hzz
  simp [Instr.slice, run_underlying hu, Instr.sliceBounds, Instr.sliceBound, asIntOf, sizeOf, typeInfo, hi, h]
  intro _
  cases A with
  | none => rfl
  | some x =>
    obtain ⟨b, o, p⟩ := x
    cases p <;> simp [Addr.add]
theorem yields_to {ops : Array Oper} {S : World → Prop} (hw : Region.wanted o (yielded ops a.tmps) = true) {t e : TypeId} {A : Option Addr} {n c size : Nat} {k k' : IntKind} (i : Nat) (x y z : Operand) (ho : o.op = .slice t x none (some y) (some z))
    (hx : a.eval x = .slice A n c) (hy : a.eval y = .int k i) (hz : a.eval z = .int k' i) (hu : P.underlying t = some (.slice e)) (hs : (P.info? e).map (·.size) = some size) (h : i ≤ c) : YieldsIf P ops S o (.slice A i i) a :=
  .inl ⟨hw, fun w _ => by
    unfold execOp
    have hr := run_slice_to (P := P) w (A := A) (n := n) (k := k) (k' := k') hu hs h
    simp only [ho, hx, hy, hz, Option.map_some, Option.map_none, Instr.sliceAt, run_underlying hu, hr, Sem.run_bind, Sem.run_pure, Result.andThen_ok]⟩
/-- 's[i:]'. -/
theorem yields_from {ops : Array Oper} {S : World → Prop} (hw : Region.wanted o (yielded ops a.tmps) = true) {t e : TypeId} {A : Option Addr} {n c size : Nat} {k : IntKind} (lo : Nat) (x y : Operand) (ho : o.op = .slice t x (some y) none none)
    (hx : a.eval x = .slice A n c) (hy : a.eval y = .int k lo) (hu : P.underlying t = some (.slice e)) (hs : (P.info? e).map (·.size) = some size) (h : lo ≤ n) : YieldsIf P ops S o (.slice (if c = lo then A else A.map (fun x : Addr => x.add (lo * size))) (n - lo) (c - lo)) a :=
  .inl ⟨hw, fun w _ => by
    unfold execOp
    have hr := run_slice_from (P := P) w (A := A) (c := c) (k := k) hu hs h
    simp only [ho, hx, hy, Option.map_some, Option.map_none, Instr.sliceAt, run_underlying hu, hr, Sem.run_bind, Sem.run_pure, Result.andThen_ok]⟩
theorem yields_fromB {ops : Array Oper} {S : World → Prop} (hw : Region.wanted o (yielded ops a.tmps) = true) {t e : TypeId} {A B : Option Addr} {n c size : Nat} {k : IntKind} (lo : Nat) (x y : Operand) (ho : o.op = .slice t x (some y) none none)
    (hx : a.eval x = .slice A n c) (hy : a.eval y = .int k lo) (hu : P.underlying t = some (.slice e)) (hs : (P.info? e).map (·.size) = some size) (h : lo ≤ n) (hB : (if c = lo then A else A.map (fun x : Addr => x.add (lo * size))) = B) : YieldsIf P ops S o (.slice B (n - lo) (c - lo)) a := by
  rw [← hB]
  exact yields_from hw lo x y ho hx hy hu hs h
end
/-- The rest of a row, where 's[i:]' begins. -/
theorem rows_from {w : World} {ok : Nat → Prop} {S : Sh} {A : Option Addr} {n c : Nat} {l : List S.Ty} (h : Rows w ok S A n l) (hnc : n ≤ c) (i : Nat) (hi : i ≤ n) : Rows w ok S (if c = i then A else A.map (fun x : Addr => x.add (i * S.size))) (n - i) (l.drop i) := by
  refine ⟨by rw [List.length_drop, h.1], fun e => ?_, fun ad e j x hx => ?_⟩
  · split at e
    · omega
    · cases A with
      | none => have := h.2.1 rfl; omega
      | some _ => cases e
  · have hj := (List.getElem?_eq_some_iff.1 hx).1
    rw [List.length_drop, h.1] at hj
    rw [if_neg (by omega)] at e
    cases A with
    | none => cases e
    | some a0 =>
      injection e with e
      subst e
      rw [List.getElem?_drop] at hx
      obtain ⟨cs, h1, h2, h3⟩ := h.2.2 a0 rfl (i + j) x hx
      refine ⟨cs, fun hn => by rw [add_block]; exact h1 hn, fun k v hv => ?_, h3⟩
      have := h2 k v hv
      rw [add_add]
      rwa [show i * S.size + (j * S.size + k) = (i + j) * S.size + k by rw [Nat.add_mul]; omega]
/-- The first ones of a row. -/
theorem rows_to {w : World} {ok : Nat → Prop} {S : Sh} {A : Option Addr} {n : Nat} {l : List S.Ty} (h : Rows w ok S A n l) (i : Nat) (hi : i ≤ n) : Rows w ok S A i (l.take i) := by
  refine ⟨by rw [List.length_take, h.1]; omega, fun e => by have := h.2.1 e; omega, fun ad e j x hx => ?_⟩
  have hj := (List.getElem?_eq_some_iff.1 hx).1
  rw [List.length_take] at hj
  rw [List.getElem?_take, if_pos (by omega)] at hx
  exact h.2.2 ad e j x hx
end Go.Proofs.Ytapoechkbbklfaa
