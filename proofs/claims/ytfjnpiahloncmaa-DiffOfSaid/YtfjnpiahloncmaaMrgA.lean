import Derived.Test.YtfjnpiahloncmaaMrgM
import Derived.Test.YtfjnpiahloncmaaHel
import Derived.Test.YtfjnpiahloncmaaIns
import Derived.Sort.EncStr
import Derived.Sort.Grow
import Derived.Shelf.SlicesE.Compact
namespace Go.Proofs.Ytfjnpiahloncmaa
open Go.RowKit Go.Sort Go.Shelf
set_option linter.unusedVariables false
set_option linter.unusedSimpArgs false
/-! Rows of texts of one's own, and what the library makes of them. -/
set_option maxRecDepth 20000 in
theorem info_str : (Try.prog.info? 9).map (fun i => (i.zero, i.size, i.bytes)) = some (some (.string ⟨#[]⟩), 1, 16) := by kernel_rfl
set_option maxRecDepth 20000 in
theorem size_str : (Try.prog.info? 9).map (·.size) = some 1 := by kernel_rfl
def bsF (x : ByteArray) : List UInt8 := x.data.toList
set_option maxRecDepth 20000 in
theorem enc_bsF (x : ByteArray) : encStr (bsF x) = .string x := rfl
set_option maxRecDepth 20000 in
theorem bsF_eq (x : ByteArray) : bsF x = x.toList := by rw [ByteArray.toList_eq]; rfl
set_option maxRecDepth 20000 in
theorem bsF_inj {x y : ByteArray} (h : bsF x = bsF y) : x = y := ba_ext (by rw [← bsF_eq, ← bsF_eq]; exact h)
def unF (l : List UInt8) : ByteArray := ⟨l.toArray⟩
set_option maxRecDepth 20000 in
theorem bs_un (l : List UInt8) : bsF (unF l) = l := rfl
set_option maxRecDepth 20000 in
theorem un_bs (x : ByteArray) : unF (bsF x) = x := rfl
set_option maxRecDepth 20000 in
theorem map_un (l : List (List UInt8)) : (l.map unF).map bsF = l := by rw [List.map_map]; exact List.map_id' l
set_option maxRecDepth 20000 in
theorem rdl_str {w : World} {ok : Nat → Prop} : ∀ {l : List ByteArray} {cs : List Value}, RdL w ok .str l cs ↔ cs = l.map Value.string ∧ ∀ x ∈ l, x.size ≤ 9223372036854775807
  | [], cs => ⟨fun h => ⟨h, fun x hx => by cases hx⟩, fun h => h.1⟩
  | x :: l, cs => by
    constructor
    · rintro ⟨c1, c2, rfl, ⟨rfl, h1⟩, h2⟩
      obtain ⟨rfl, h3⟩ := rdl_str.1 h2
      exact ⟨rfl, fun y hy => by rcases List.mem_cons.1 hy with rfl | hy; exact h1; exact h3 y hy⟩
    · rintro ⟨rfl, h⟩
      exact ⟨[Value.string x], l.map Value.string, rfl, ⟨rfl, h x List.mem_cons_self⟩, rdl_str.2 ⟨rfl, fun y hy => h y (List.mem_cons_of_mem _ hy)⟩⟩
set_option maxRecDepth 20000 in
theorem rd_strv {w : World} {ok : Nat → Prop} {x : ByteArray} (h : x.size ≤ 9223372036854775807) : Rd w ok .str x [.string x] := ⟨rfl, h⟩
set_option maxRecDepth 20000 in
theorem rdl_anyS {w w' : World} {ok ok' : Nat → Prop} {l : List ByteArray} {xs : List Value} (h : RdL w ok .str l xs) : RdL w' ok' .str l xs := rdl_str.2 (rdl_str.1 h)
set_option maxRecDepth 20000 in
theorem str_rows {w : World} {ok : Nat → Prop} {ad : Addr} {n i : Nat} {l : List ByteArray} {x : ByteArray} (h : Rows w ok .str (some ad) n l) (hx : l[i]? = some x) : w.cell? (ad.add i) = some (.string x) ∧ x.size ≤ 9223372036854775807 := by
  obtain ⟨cs, _, hat, hrd⟩ := h.2.2 ad rfl i x hx
  obtain ⟨rfl, hb⟩ := hrd
  have hc := hat 0 _ rfl
  have e : ad.add (i * Sh.size .str + 0) = ad.add i := by simp [Sh.size]
  rw [e] at hc
  exact ⟨hc, hb⟩
set_option maxRecDepth 20000 in
/-- A row of one's own, as the library wants it. -/
theorem own_holdsS {w : World} {base : Nat} {v : Value} {l : List ByteArray} (h : Own w base 9 .str v l) : (v = .slice none 0 0 ∧ l = []) ∨
    ∃ g cap cur, v = .slice (some ⟨g, 0, none⟩) l.length cap ∧ base ≤ g ∧ w.heap[g]? = some (.cells cur 9 (0, 0)) ∧ l.length ≤ cap ∧ cap ≤ maxLen ∧ cur.size = cap ∧ (∀ x ∈ l, x.size ≤ 9223372036854775807) ∧ Holds encStr w g 0 (l.map bsF).toArray := by
  obtain ⟨xs, ⟨h1, h2⟩, h3⟩ := h
  obtain ⟨rfl, hb⟩ := rdl_str.1 h3
  rcases h2 with ⟨rfl, h0⟩ | ⟨g, cap, cur, rfl, h4, h5, h6, h7, h8, h9⟩
  · exact .inl ⟨rfl, List.eq_nil_of_length_eq_zero h0⟩
  · simp only [Sh.size, Nat.mul_one] at h8 h9
    refine .inr ⟨g, cap, cur, rfl, h4, h5, h6, h7, h8, hb, fun j hj => ?_⟩
    have hj' : j < l.length := by simpa using hj
    have e : cur[j]? = some (.string l[j]) := by
      have := congrArg (fun l => l[j]?) h9
      simp only [List.getElem?_take, if_pos hj', Array.getElem?_toList] at this
      rw [this, List.getElem?_map, List.getElem?_eq_getElem hj']
      rfl
    have e2 : ((l.map bsF).toArray[j]! : List UInt8) = bsF l[j] := by simp [hj']
    rw [Nat.zero_add, e2, enc_bsF]
    constructor
    · simp [World.cell?, h5, e]
    · simp [World.frozen?, h5]
set_option maxRecDepth 20000 in
theorem put_takeS {cur : Array Value} {X : Array (List UInt8)} (h : X.size ≤ cur.size) : (putCells encStr 0 X cur).toList.take X.size = X.toList.map encStr := by
  apply List.ext_getElem?
  intro k
  unfold putCells
  rw [List.getElem?_take, List.getElem?_map, Array.getElem?_toList]
  by_cases hk : k < X.size
  · rw [if_pos hk, Array.getElem?_toList, Array.getElem?_mapIdx, Array.getElem?_eq_getElem (by omega), Array.getElem?_eq_getElem hk]
    simp [hk]
  · rw [if_neg hk, List.getElem?_eq_none (by simpa using hk)]
    rfl
set_option maxRecDepth 20000 in
theorem put_sizeS {cur : Array Value} {X : Array (List UInt8)} : (putCells encStr 0 X cur).size = cur.size := by simp [putCells]
set_option maxRecDepth 20000 in
theorem sorted_heapS {w : World} {g n : Nat} {X : Array (List UInt8)} {os : Array Obj} {cur : Array Value} {e : TypeId} {fr : Nat × Nat} (h : w.heap[g]? = some (.cells cur e fr)) :
    (grow (putRow encStr (Sort.ahead w n) g 0 X) os).heap[g]? = some (.cells (putCells encStr 0 X cur) e fr) := by
  have hlt := blk_lt h
  rw [heap_grow_old _ _ (by show g < (w.heap.modify g _).size; simpa using hlt)]
  show (w.heap.modify g _)[g]? = _
  rw [Array.getElem?_modify, if_pos rfl, h]
  rfl
set_option maxRecDepth 20000 in
theorem sorted_grownS {w : World} {g n : Nat} {X : Array (List UInt8)} {os : Array Obj} : w.grownBy (grow (putRow encStr (Sort.ahead w n) g 0 X) os) (some g) := by
  refine ⟨rfl, rfl, rfl, ?_, fun k hk hne => ?_⟩
  · rw [size_grow]; show w.heap.size ≤ (w.heap.modify g _).size + _; simp
  · rw [heap_grow_old _ _ (by show k < (w.heap.modify g _).size; simpa using hk)]
    show (w.heap.modify g _)[k]? = _
    rw [Array.getElem?_modify, if_neg (fun e => hne (by rw [e]))]
set_option maxRecDepth 20000 in
/-- What is in a row of one's own, put anew, and cut. -/
theorem own_putS {w w' : World} {base g cap n : Nat} {cur : Array Value} {X : Array (List UInt8)} {os : Array Obj} {l : List ByteArray} (hb : base ≤ g) (h : w.heap[g]? = some (.cells cur 9 (0, 0))) (hc : cur.size = cap) (hX : X.size ≤ cap) (hcap : cap ≤ maxLen) (hl : l.length ≤ X.size) (hx : X.toList.take l.length = l.map bsF) (hlt : ∀ x ∈ l, x.size ≤ 9223372036854775807) (hw : w' = grow (putRow encStr (Sort.ahead w n) g 0 X) os) :
    Own w' base 9 .str (.slice (some ⟨g, 0, none⟩) l.length cap) l := by
  subst hw
  refine ⟨l.map Value.string, ⟨by simp [Sh.size], .inr ⟨g, cap, _, rfl, hb, sorted_heapS h, Nat.le_trans hl hX, hcap, by rw [put_sizeS, hc]; simp [Sh.size], ?_⟩⟩, rdl_str.2 ⟨rfl, hlt⟩⟩
  simp only [Sh.size, Nat.mul_one]
  have h1 := put_takeS (cur := cur) (X := X) (by omega)
  have h2 := congrArg (List.take l.length) h1
  rw [List.take_take, Nat.min_eq_left hl] at h2
  rw [h2, ← List.map_take, hx, List.map_map]
  rfl
end Go.Proofs.Ytfjnpiahloncmaa
