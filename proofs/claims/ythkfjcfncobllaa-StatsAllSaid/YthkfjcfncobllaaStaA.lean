import Derived.Test.YthkfjcfncobllaaStaM
import Derived.Test.YthkfjcfncobllaaRdG
import Derived.Test.YthkfjcfncobllaaCln
import Derived.Test.YthkfjcfncobllaaHel
import Derived.Test.YthkfjcfncobllaaGd
import Derived.Shelf.SlSortCmp.NoneTotal
import Derived.Shelf.SlicesE.DeleteFunc
namespace Go.Proofs.Ythkfjcfncobllaa
open Go.RowKit FP Go.Sort Go.Shelf
set_option linter.unusedVariables false
set_option linter.unusedSimpArgs false
/-! Rows of numbers of one's own, and what the library's sort makes of them. -/
set_option maxRecDepth 20000 in
theorem info_f64 : (Try.prog.info? 27).map (fun i => (i.zero, i.size, i.bytes)) = some (some (.float .f64 0), 1, 8) := by kernel_rfl
set_option maxRecDepth 20000 in
theorem rdl_f64 {w : World} {ok : Nat → Prop} : ∀ {l : List Nat} {cs : List Value}, RdL w ok .f64 l cs ↔ cs = l.map encF ∧ ∀ x ∈ l, x < B64
  | [], cs => ⟨fun h => ⟨h, fun x hx => by cases hx⟩, fun h => h.1⟩
  | x :: l, cs => by
    constructor
    · rintro ⟨c1, c2, rfl, ⟨rfl, h1⟩, h2⟩
      obtain ⟨rfl, h3⟩ := rdl_f64.1 h2
      exact ⟨rfl, fun y hy => by rcases List.mem_cons.1 hy with rfl | hy; exact h1; exact h3 y hy⟩
    · rintro ⟨rfl, h⟩
      exact ⟨[encF x], l.map encF, rfl, ⟨rfl, h x List.mem_cons_self⟩, rdl_f64.2 ⟨rfl, fun y hy => h y (List.mem_cons_of_mem _ hy)⟩⟩
set_option maxRecDepth 20000 in
theorem rows_fs {w : World} {ok : Nat → Prop} {A : Option Addr} {n : Nat} {l : List Nat} (h : Rows w ok .f64 A n l) : Fs w A n l :=
  ⟨Rows.rc (e := .f64) (enc := encF) (fun _ _ _ _ h => h.1) rfl h, fun x hx => by
    obtain ⟨i, hi, rfl⟩ := List.mem_iff_getElem.1 hx
    have hn := h.1
    cases A with
    | none => have := h.2.1 rfl; omega
    | some ad =>
      obtain ⟨cs, _, _, _, hb⟩ := h.2.2 ad rfl i _ (List.getElem?_eq_getElem hi)
      exact hb⟩
set_option maxRecDepth 20000 in
/-- A row of one's own, as the sort wants it. -/
theorem own_holds {w : World} {base : Nat} {v : Value} {l : List Nat} (h : Own w base 27 .f64 v l) : (v = .slice none 0 0 ∧ l = []) ∨
    ∃ g cap cur, v = .slice (some ⟨g, 0, none⟩) l.length cap ∧ base ≤ g ∧ w.heap[g]? = some (.cells cur 27 (0, 0)) ∧ l.length ≤ cap ∧ cap ≤ maxLen ∧ cur.size = cap ∧ cur.toList.take l.length = l.map encF ∧ (∀ x ∈ l, x < B64) ∧ Holds encF w g 0 l.toArray := by
  obtain ⟨xs, ⟨h1, h2⟩, h3⟩ := h
  obtain ⟨rfl, hb⟩ := rdl_f64.1 h3
  rcases h2 with ⟨rfl, h0⟩ | ⟨g, cap, cur, rfl, h4, h5, h6, h7, h8, h9⟩
  · exact .inl ⟨rfl, List.eq_nil_of_length_eq_zero h0⟩
  · simp only [Sh.size, Nat.mul_one] at h8 h9
    refine .inr ⟨g, cap, cur, rfl, h4, h5, h6, h7, h8, h9, hb, fun j hj => ?_⟩
    have hj' : j < l.length := by simpa using hj
    have e : cur[j]? = some (encF l[j]) := by
      have := congrArg (fun l => l[j]?) h9
      simp only [List.getElem?_take, if_pos hj', Array.getElem?_toList] at this
      rw [this, List.getElem?_map, List.getElem?_eq_getElem hj']
      rfl
    have e2 : (l.toArray[j]! : Nat) = l[j] := by simp [hj']
    rw [Nat.zero_add]
    constructor
    · simp [World.cell?, h5, e, e2]
    · simp [World.frozen?, h5]
set_option maxRecDepth 20000 in
theorem put_take {cur : Array Value} {X : Array Nat} (h : X.size ≤ cur.size) : (putCells encF 0 X cur).toList.take X.size = X.toList.map encF := by
  apply List.ext_getElem?
  intro k
  unfold putCells
  rw [List.getElem?_take, List.getElem?_map, Array.getElem?_toList]
  by_cases hk : k < X.size
  · rw [if_pos hk, Array.getElem?_toList, Array.getElem?_mapIdx, Array.getElem?_eq_getElem (by omega), Array.getElem?_eq_getElem hk]
    simp [hk]
  · rw [if_neg hk, List.getElem?_eq_none (by simpa using hk)]
    rfl
set_option maxRecDepth 20000 in
theorem put_size {cur : Array Value} {X : Array Nat} : (putCells encF 0 X cur).size = cur.size := by simp [putCells]
set_option maxRecDepth 20000 in
theorem sorted_heap {w : World} {g n : Nat} {X : Array Nat} {os : Array Obj} {cur : Array Value} {e : TypeId} {fr : Nat × Nat} (h : w.heap[g]? = some (.cells cur e fr)) :
    (sortWorld encF w g 0 n X os).heap[g]? = some (.cells (putCells encF 0 X cur) e fr) := by
  have hlt := blk_lt h
  unfold sortWorld
  rw [heap_grow_old _ _ (by rw [size_putRow]; exact hlt)]
  show (w.heap.modify g _)[g]? = _
  rw [Array.getElem?_modify, if_pos rfl, h]
  rfl
set_option maxRecDepth 20000 in
theorem sorted_grown {w : World} {g n : Nat} {X : Array Nat} {os : Array Obj} : w.grownBy (sortWorld encF w g 0 n X os) (some g) := by
  refine ⟨rfl, rfl, rfl, ?_, fun k hk hne => ?_⟩
  · unfold sortWorld; rw [size_grow, size_putRow]; exact Nat.le_add_right _ _
  · unfold sortWorld
    rw [heap_grow_old _ _ (by rw [size_putRow]; exact hk)]
    show (w.heap.modify g _)[k]? = _
    rw [Array.getElem?_modify, if_neg (fun e => hne (by rw [e]))]
set_option maxRecDepth 20000 in
/-- What is in a row of one's own, put anew, and cut. -/
theorem own_put {w w' : World} {base g cap n : Nat} {cur : Array Value} {X : Array Nat} {os : Array Obj} {l : List Nat} (hb : base ≤ g) (h : w.heap[g]? = some (.cells cur 27 (0, 0))) (hc : cur.size = cap) (hX : X.size ≤ cap) (hcap : cap ≤ maxLen) (hl : l.length ≤ X.size) (hx : X.toList.take l.length = l) (hlt : ∀ x ∈ l, x < B64) (hw : w' = sortWorld encF w g 0 n X os) :
    Own w' base 27 .f64 (.slice (some ⟨g, 0, none⟩) l.length cap) l := by
  subst hw
  refine ⟨l.map encF, ⟨by simp [Sh.size], .inr ⟨g, cap, _, rfl, hb, sorted_heap h, Nat.le_trans hl hX, hcap, by rw [put_size, hc]; simp [Sh.size], ?_⟩⟩, rdl_f64.2 ⟨rfl, hlt⟩⟩
  simp only [Sh.size, Nat.mul_one]
  have h1 := put_take (cur := cur) (X := X) (by omega)
  have h2 := congrArg (List.take l.length) h1
  rw [List.take_take, Nat.min_eq_left hl] at h2
  rw [h2, ← List.map_take, hx]
set_option maxRecDepth 20000 in
theorem below_grow2 {w0 w w' : World} {base g : Nat} (h0 : Below base w0 w) (h : w.grownBy w' (some g)) (hB : base ≤ w.heap.size) (hb : base ≤ g) : Below base w0 w' := h0.grown h hB (fun k e => by injection e with e; omega)
end Go.Proofs.Ythkfjcfncobllaa
