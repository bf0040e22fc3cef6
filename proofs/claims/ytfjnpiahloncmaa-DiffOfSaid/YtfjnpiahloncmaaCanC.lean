import Derived.Test.YtfjnpiahloncmaaCanB
import Derived.Test.YtfjnpiahloncmaaTskG
import Derived.Maps.Own
import Derived.Maps.OwnOps
import Derived.Maps.Views
namespace Go.Proofs.Ytfjnpiahloncmaa
open Go.RowKit Go.Maps FP
set_option linter.unusedVariables false
set_option linter.unusedSimpArgs false
/-! ### What is kept beside one block -/
set_option maxRecDepth 20000 in
theorem gb_below {W w w' : World} {b : Nat} (h : W.grownBy w (some b)) (hb : Below w.heap.size w w') : W.grownBy w' (some b) :=
  ⟨hb.os.trans h.os, hb.tape.trans h.tape, hb.output.trans h.output, Nat.le_trans h.size hb.size, fun k hk hne => (hb.block k (Nat.lt_of_lt_of_le hk h.size)).trans (h.block k hk hne)⟩
set_option maxRecDepth 20000 in
theorem gb_grown {W w w' : World} {b : Nat} {r : Option Nat} (h : W.grownBy w (some b)) (hg : w.grownBy w' r) (hr : ∀ g, r = some g → W.heap.size ≤ g) : W.grownBy w' (some b) :=
  ⟨hg.os.trans h.os, hg.tape.trans h.tape, hg.output.trans h.output, Nat.le_trans h.size hg.size, fun k hk hne => (hg.block k (Nat.lt_of_lt_of_le hk h.size) (fun e => by have := hr k e.symm; omega)).trans (h.block k hk hne)⟩
set_option maxRecDepth 20000 in
theorem gb_trans {W w w' : World} {b : Nat} (h : W.grownBy w (some b)) (hg : w.grownBy w' (some b)) : W.grownBy w' (some b) :=
  ⟨hg.os.trans h.os, hg.tape.trans h.tape, hg.output.trans h.output, Nat.le_trans h.size hg.size, fun k hk hne => (hg.block k (Nat.lt_of_lt_of_le hk h.size) hne).trans (h.block k hk hne)⟩
set_option maxRecDepth 20000 in
theorem gb_set {W w : World} {b : Nat} (h : W.grownBy w (some b)) (j : Nat) (v : Value) : W.grownBy (w.setCell ⟨b, j, none⟩ v) (some b) := grown_one h
set_option maxRecDepth 20000 in
theorem blk_app {w w' : World} {b base : Nat} {o : Obj} {v : Value} (h : w.heap[b]? = some o) (hg : w.grownBy w' v.ownBlock) (hv : ∀ k, v.ownBlock = some k → base ≤ k) (hb : b < base) : w'.heap[b]? = some o :=
  (hg.block b (blk_lt h) (fun e => by have := hv b e.symm; omega)).trans h
set_option maxRecDepth 20000 in
theorem own_baseb {w : World} {base : Nat} {e : TypeId} {s : Sh} {v : Value} {l : List s.Ty} (h : Own w base e s v l) (k : Nat) (hk : v.ownBlock = some k) : base ≤ k := by
  obtain ⟨xs, ho, _⟩ := h
  exact own_base ho k hk
set_option maxRecDepth 20000 in
theorem info_lst2 : (Try.prog.info? 37).map (fun i => (i.zero, i.size, i.bytes)) = some (some (.agg #[.int .u64 0, .string ⟨#[]⟩]), 2, (Try.prog.bytesOf 37)) := by kernel_rfl
set_option maxRecDepth 20000 in
theorem info_task2 : (Try.prog.info? 41).map (fun i => (i.zero, i.size, i.bytes)) = some (some (.agg #[.int .u64 0, .int .u64 0, .string ⟨#[]⟩, .bool false, .float .f64 0, .float .f64 0, .slice none 0 0]), 7, (Try.prog.bytesOf 41)) := by kernel_rfl
set_option maxRecDepth 20000 in
theorem bytes_lst2 : Try.prog.bytesOf 37 = 24 := by kernel_rfl
set_option maxRecDepth 20000 in
theorem bytes_task2 : Try.prog.bytesOf 41 = 80 := by kernel_rfl
set_option maxRecDepth 20000 in
theorem findL_has {e : List LIST.Ty} {k : Int} : (findL e k).2 = true ↔ ∃ y ∈ e, y.1 = k := by
  unfold findL
  cases h : e.find? (fun t => t.1 == k) with
  | none =>
    constructor
    · intro h; cases h
    · rintro ⟨y, hy, hk⟩
      have := List.find?_eq_none.1 h y hy
      simp [hk] at this
  | some z =>
    have h1 := List.mem_of_find?_eq_some h
    have h2 := List.find?_some h
    exact ⟨fun _ => ⟨z, h1, by simpa using h2⟩, fun _ => rfl⟩
set_option maxRecDepth 20000 in
theorem below_gb {w w' : World} (h : Below w.heap.size w w') (r : Option Nat) : w.grownBy w' r := ⟨h.os, h.tape, h.output, h.size, fun k hk _ => h.block k hk⟩
set_option maxRecDepth 20000 in
theorem own_grownO {w w' : World} {base : Nat} {r : Option Nat} {e : TypeId} {s : Sh} {v : Value} {l : List s.Ty} (h : Own w base e s v l) (hb : w.grownBy w' r) (hr : ∀ g, r = some g → g < base) : Own w' base e s v l := by
  obtain ⟨xs, ⟨h1, h2⟩, h3⟩ := h
  refine ⟨xs, ⟨h1, ?_⟩, h3.of (fun a u ha hu => cell_grown hb hu (fun e => by have := hr _ e.symm; have := ha.1; omega)) (fun k hk _ => hk)⟩
  rcases h2 with h2 | ⟨b, cap, cur, e, hb2, hh, hr2⟩
  · exact .inl h2
  · exact .inr ⟨b, cap, cur, e, hb2, blk_grown hh hb (fun e => by have := hr _ e.symm; omega), hr2⟩
set_option maxRecDepth 20000 in
theorem rdl_lst_any {w w' : World} {ok ok' : Nat → Prop} : ∀ {l : List LIST.Ty} {cs : List Value}, RdL w ok LIST l cs → RdL w' ok' LIST l cs
  | [], _, h => h
  | x :: l, cs, h => by
    obtain ⟨c1, c2, h1, h2, h3⟩ := h
    obtain ⟨a, b, rfl, rfl, hok⟩ := rd_lst h2
    exact ⟨_, c2, h1, rd_lst_mk hok, rdl_lst_any h3⟩
set_option maxRecDepth 20000 in
theorem own_lst_other {w w' : World} {base : Nat} {r : Option Nat} {e : TypeId} {v : Value} {l : List LIST.Ty} (h : Own w base e LIST v l) (hg : w.grownBy w' r) (hne : ∀ kb, v.ownBlock = some kb → r ≠ some kb) : Own w' base e LIST v l := by
  obtain ⟨xs, ⟨h1, h2⟩, h3⟩ := h
  refine ⟨xs, ⟨h1, ?_⟩, rdl_lst_any h3⟩
  rcases h2 with h2 | ⟨b, cap, cur, rfl, hb2, hh, hr2⟩
  · exact .inl h2
  · exact .inr ⟨b, cap, cur, rfl, hb2, blk_grown hh hg (fun e => hne b rfl e.symm), hr2⟩
/-! ### A map of what was met -/
set_option maxRecDepth 20000 in
theorem keyedB : Keyed Try.prog 35 := int_keyed Try.underlying35
set_option maxRecDepth 20000 in
theorem zeroB (w : World) : (zeroValue 4).run Try.prog w = .ok (.bool false) w := by kernel_rfl
set_option maxRecDepth 20000 in
theorem plainElem_bool_inv {P : Program} {e : TypeId} (he : P.underlying e = some .bool) {v : Value} {z : DataW Unit × List MemPlace} (h : plainElem P e v = some z) : ∃ c, v = .bool c ∧ z = (.lit (.bool c), []) := by
  unfold plainElem at h
  rw [he] at h
  cases v <;> simp at h
  exact ⟨_, rfl, h.symm⟩
def MetD (D : DataW Unit) (e : List TASK.Ty) : Prop := ∀ x, D.atKey (.int .u64 x) (.lit (.bool false)) = .lit (.bool (e.any fun y => y.1 == x))
set_option maxRecDepth 20000 in
theorem met_run {w : World} {M n : Nat} {D : DataW Unit} {e : List TASK.Ty} (h : w.ownsMap Try.prog 35 (plainElem Try.prog 4) M n D) (hD : MetD D e) {k : Int} (hk : 0 ≤ k) (hk2 : k < 18446744073709551616) :
    (Instr.lookup 51 (.map (some M)) (.int .u64 k) false).run Try.prog w = .ok (.bool (e.any fun y => y.1 == k)) w := by
  have hkey : keyOf Try.prog 35 (.int .u64 k) = some (.int .u64 k) := keyOf_int_mk Try.underlying35 (by simp [Lit.wf, IntKind.min, IntKind.max, IntKind.bits, IntKind.signed]; omega)
  obtain ⟨v, ps, hrun, hv⟩ := h.lookup keyedB Try.underlying51 (zeroB w) (plainElem_bool Try.underlying4 false) hkey
  obtain ⟨c, rfl, hc⟩ := plainElem_bool_inv Try.underlying4 hv
  simp only [Prod.mk.injEq] at hc
  have := (hD k).symm.trans hc.1
  injection this with this
  injection this with this
  rw [this]
  exact hrun
set_option maxRecDepth 20000 in
theorem MetD.put {D : DataW Unit} {e : List TASK.Ty} (h : MetD D e) (hD : IsMap D) {t : TASK.Ty} (hk : WideAt.IsKeyLit (.int .u64 t.1)) : MetD (D.put (.int .u64 t.1) (.lit (.bool true))) (e ++ [t]) := by
  intro x
  rw [List.any_append]
  by_cases hx : t.1 = x
  · subst hx
    rw [atKey_put_same hD hk]
    simp
  · rw [atKey_put_other (by intro e; injection e with _ e; exact hx e.symm), h x]
    simp [hx]
set_option maxRecDepth 20000 in
theorem met_nil : MetD (.map []) [] := fun x => rfl
end Go.Proofs.Ytfjnpiahloncmaa
