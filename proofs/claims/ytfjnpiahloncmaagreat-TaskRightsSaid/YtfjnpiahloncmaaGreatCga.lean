import Derived.Test.YtfjnpiahloncmaaGreatSrt
import Derived.Test.YtfjnpiahloncmaaGreatMrgC
import Derived.Test.YtfjnpiahloncmaaGreatTskL
import Derived.Test.YtfjnpiahloncmaaGreatFltL
import Derived.Test.YtfjnpiahloncmaaGreatLayC
import Derived.Test.YtfjnpiahloncmaaGreatTskG
import Derived.Maps.Own
import Derived.Maps.OwnOps
import Derived.Maps.Views
import Derived.Test.YtfjnpiahloncmaaGreatHul
namespace Go.Proofs.YtfjnpiahloncmaaGreat
open Go.RowKit
set_option linter.unusedVariables false
/-! The first one of each key, in the order of the keys: plain. -/
section
variable {α : Type} {key : α → Int} {X e : List α}
def Firsts (key : α → Int) (X e : List α) : Prop := ∀ x, x ∈ e ↔ X.find? (fun y => key y == key x) = some x
def Rises (key : α → Int) (e : List α) : Prop := e.Pairwise (fun x y => key x < key y)
theorem firsts_nil : Firsts key [] [] := fun x => by simp
theorem Firsts.mem (h : Firsts key X e) {x : α} (hx : x ∈ e) : x ∈ X := List.mem_of_find?_eq_some ((h x).1 hx)
theorem Firsts.has (h : Firsts key X e) {k : Int} : (∃ y ∈ e, key y = k) ↔ ∃ y ∈ X, key y = k := by
  constructor
  · rintro ⟨y, hy, hk⟩
    exact ⟨y, h.mem hy, hk⟩
  · rintro ⟨y, hy, hk⟩
    cases hf : X.find? (fun z => key z == key y) with
    | none => have := List.find?_eq_none.1 hf y hy; simp at this
    | some z =>
      have hz : key z = key y := by simpa using List.find?_some hf
      refine ⟨z, (h z).2 ?_, hz.trans hk⟩
      rw [hz]; exact hf
theorem Firsts.new (h : Firsts key X e) {x : α} (hn : ¬ ∃ y ∈ e, key y = key x) {e' : List α} (he : ∀ z, z ∈ e' ↔ z ∈ e ∨ z = x) : Firsts key (X ++ [x]) e' := fun z => by
  rw [he, List.find?_append]
  have hx : X.find? (fun y => key y == key x) = none := List.find?_eq_none.2 fun y hy hk => hn (h.has.2 ⟨y, hy, by simpa using hk⟩)
  constructor
  · rintro (hz | rfl)
    · rw [(h z).1 hz]; rfl
    · rw [hx]; simp
  · intro hz
    cases hf : X.find? (fun y => key y == key z) with
    | some u =>
      rw [hf] at hz
      simp at hz
      subst hz
      exact .inl ((h u).2 hf)
    | none =>
      rw [hf] at hz
      simp at hz
      exact .inr hz.2.symm
theorem Firsts.old (h : Firsts key X e) {x : α} (ho : ∃ y ∈ e, key y = key x) : Firsts key (X ++ [x]) e := fun z => by
  rw [h z, List.find?_append]
  cases hf : X.find? (fun y => key y == key z) with
  | some u => simp
  | none =>
    constructor
    · intro e; cases e
    · intro hz
      simp at hz
      obtain ⟨y, hy, hk⟩ := h.has.1 ho
      have := List.find?_eq_none.1 hf y hy
      simp [hk, hz.1] at this
theorem Firsts.perm (h : Firsts key X e) {e' : List α} (hp : e'.Perm e) : Firsts key X e' := fun x => (hp.mem_iff).trans (h x)
theorem rises_uniq : ∀ {a b : List α}, Rises key a → Rises key b → (∀ x, x ∈ a ↔ x ∈ b) → a = b
  | [], [], _, _, _ => rfl
  | [], y :: b, _, _, h => by have := (h y).2 List.mem_cons_self; cases this
  | x :: a, [], _, _, h => by have := (h x).1 List.mem_cons_self; cases this
  | x :: a, y :: b, ha, hb, h => by
    have a1 := List.pairwise_cons.1 ha
    have b1 := List.pairwise_cons.1 hb
    have hxy : x = y := by
      rcases List.mem_cons.1 ((h x).1 List.mem_cons_self) with e | hx
      · exact e
      · rcases List.mem_cons.1 ((h y).2 List.mem_cons_self) with e | hy
        · exact e.symm
        · have := a1.1 y hy
          have := b1.1 x hx
          omega
    subst hxy
    rw [rises_uniq a1.2 b1.2 (fun z => ?_)]
    constructor
    · intro hz
      rcases List.mem_cons.1 ((h z).1 (List.mem_cons_of_mem _ hz)) with e | hz2
      · subst e; have := a1.1 z hz; omega
      · exact hz2
    · intro hz
      rcases List.mem_cons.1 ((h z).2 (List.mem_cons_of_mem _ hz)) with e | hz2
      · subst e; have := b1.1 z hz; omega
      · exact hz2
theorem can_uniq {a b : List α} (ha : Firsts key X a) (ra : Rises key a) (hb : Firsts key X b) (rb : Rises key b) : a = b := rises_uniq ra rb fun x => (ha x).trans (hb x).symm
theorem rises_of_sort {e' : List α} (hd : e.Pairwise (fun x y => key x ≠ key y)) (hp : e'.Perm e) (hs : e'.Pairwise (fun x y => key x ≤ key y)) : Rises key e' := by
  have hd' : e'.Pairwise (fun x y => key x ≠ key y) := (hp.pairwise_iff (fun h => Ne.symm h)).2 hd
  exact (hd'.and hs).imp (fun h => by omega)
theorem rises_ins (h : Rises key e) {x : α} {i : Nat} (h1 : ∀ y ∈ e.take i, key y < key x) (h2 : ∀ y ∈ e.drop i, key x < key y) : Rises key (e.take i ++ x :: e.drop i) := by
  unfold Rises at *
  rw [← List.take_append_drop i e] at h
  obtain ⟨a, b, c⟩ := List.pairwise_append.1 h
  refine List.pairwise_append.2 ⟨a, List.pairwise_cons.2 ⟨h2, b⟩, fun y hy z hz => ?_⟩
  rcases List.mem_cons.1 hz with rfl | hz
  · exact h1 y hy
  · exact c y hy z hz
theorem mem_ins {x z : α} {i : Nat} : z ∈ e.take i ++ x :: e.drop i ↔ z ∈ e ∨ z = x := by
  have : z ∈ e ↔ z ∈ e.take i ∨ z ∈ e.drop i := by rw [← List.mem_append, List.take_append_drop]
  rw [this]
  simp only [List.mem_append, List.mem_cons]
  constructor
  · rintro (h | h | h)
    · exact .inl (.inl h)
    · exact .inr h
    · exact .inl (.inr h)
  · rintro ((h | h) | h)
    · exact .inl h
    · exact .inr (.inr h)
    · exact .inr (.inl h)
theorem rises_drop (h : Rises key e) {x y : α} {i : Nat} (hy : e[i]? = some y) (hlt : key x < key y) : ∀ z ∈ e.drop i, key x < key z := by
  intro z hz
  obtain ⟨hi, he⟩ := List.getElem?_eq_some_iff.1 hy
  rw [List.drop_eq_getElem_cons hi, he] at hz
  rcases List.mem_cons.1 hz with rfl | hz
  · exact hlt
  · obtain ⟨j, hj, rfl⟩ := List.mem_iff_getElem.1 hz
    rw [List.length_drop] at hj
    rw [List.getElem_drop]
    have := (List.pairwise_iff_getElem.1 h) i (i + 1 + j) hi (by omega) (by omega)
    rw [he] at this
    omega
theorem take_keys {x y : α} {i : Nat} (h : ∀ z ∈ e.take i, key z < key x) (hy : e[i]? = some y) (hlt : key y < key x) : ∀ z ∈ e.take (i + 1), key z < key x := by
  rw [take_at hy]
  intro z hz
  rcases List.mem_append.1 hz with hz | hz
  · exact h z hz
  · rw [List.mem_singleton.1 hz]; exact hlt
/-- What has not been met: behind all that are less and ahead of all that are greater. -/
theorem not_met (h : Rises key e) {x : α} {i : Nat} (h1 : ∀ y ∈ e.take i, key y < key x) (h2 : ∀ y ∈ e.drop i, key x < key y) : ¬ ∃ y ∈ e, key y = key x := by
  rintro ⟨y, hy, hk⟩
  rw [← List.take_append_drop i e] at hy
  rcases List.mem_append.1 hy with hy | hy
  · have := h1 y hy; omega
  · have := h2 y hy; omega
end
end Go.Proofs.YtfjnpiahloncmaaGreat
namespace Go.Proofs.YtfjnpiahloncmaaGreat
open Go.RowKit FP
set_option linter.unusedVariables false
set_option linter.unusedSimpArgs false
attribute [local go_sem] run_store_float
set_option maxRecDepth 20000 in
theorem one_cells_s {w w' : World} {ok ok' : Nat → Prop} : ∀ {l : List ByteArray} {cs : List Value}, RdL w ok .str l cs → RdL w' ok' .str l cs
  | [], _, h => h
  | x :: l, cs, h => by
    obtain ⟨c1, c2, h1, h2, h3⟩ := h
    exact ⟨c1, c2, h1, h2, one_cells_s h3⟩
set_option maxRecDepth 20000 in
theorem eqn_s (a : Option Addr) (n c : Nat) (w : World) : (binOp .eql 35 (.slice a n c) (.slice none 0 0)).run Tryz.prog w = .ok (.bool a.isNone) w := Lib.run_eql_slice_nil w _ _ a n c 0 0 Tryz.underlying35
attribute [local go_sem] eqn_s
set_option maxRecDepth 20000 in
theorem grown_one {w w' : World} {g j : Nat} {v : Value} (h : w.grownBy w' (some g)) : w.grownBy (w'.setCell ⟨g, j, none⟩ v) (some g) :=
  ⟨h.os, h.tape, h.output, by simpa [World.setCell] using h.size, fun k hk hne => by rw [Below.heap_setCell _ _ _ _ (fun e => hne (by rw [e]))]; exact h.block k hk hne⟩
set_option maxRecDepth 20000 in
theorem grown_none (w : World) (r : Option Nat) : w.grownBy w r := ⟨rfl, rfl, rfl, Nat.le_refl _, fun _ _ _ => rfl⟩
set_option maxRecDepth 20000 in
theorem own_grown {w w' : World} {base g : Nat} {e : TypeId} {s : Sh} {v : Value} {l : List s.Ty} (h : Own w base e s v l) (hb : w.grownBy w' (some g)) (hlt : g < base) : Own w' base e s v l := by
  obtain ⟨xs, ⟨h1, h2⟩, h3⟩ := h
  refine ⟨xs, ⟨h1, ?_⟩, h3.of (fun a u ha hu => cell_grown hb hu (fun e => by injection e with e; have := ha.1; omega)) (fun k hk _ => hk)⟩
  rcases h2 with h2 | ⟨b, cap, cur, e, hb2, hh, hr⟩
  · exact .inl h2
  · exact .inr ⟨b, cap, cur, e, hb2, blk_grown hh hb (fun e => by injection e with e; omega), hr⟩
set_option maxRecDepth 20000 in
/-- slices.Clone of texts: one's own. -/
theorem clone_own (w : World) (ok : Nat → Prop) (A : Option Addr) (n c : Nat) (l : List ByteArray) (h : Rd w ok (.sl .str) l [.slice A n c]) (hl : n ≤ 100000) :
    Calls Tryz.prog 42 #[.slice A n c] w fun e w' => ∃ v, e = .returned v ∧ Own w' w.heap.size 9 .str v l ∧ Below w.heap.size w w' := by
  obtain ⟨h1, h2, h3, h4⟩ := rd_rowsN h
  have hn := h4.1
  cases A with
  | none =>
    have hc := h3 rfl
    subst hc
    obtain rfl : n = 0 := by omega
    obtain rfl : l = [] := List.eq_nil_of_length_eq_zero hn
    go_enter Tryz.func42, Tryz.ntmps42
    go_wp2_with fail
    go_ret
    exact ⟨_, rfl, Own.nil _ _ _ _, Below.refl _ _⟩
  | some ad =>
    obtain ⟨ys, hy, hat⟩ := h4.cells
    have ha := (hat ad rfl).2
    have hyl := hy.len
    have hs1 : Sh.size .str = 1 := rfl
    have hz := lit_own w 9 #[] 0 rfl (by omega)
    have hbz := below_alloc1 w (.cells #[] 9)
    have ha' := ha.of (ok := anyB) (fun _ => trivial) (fun a v _ hc => cell_below hbz hc)
    go_enter Tryz.func42, Tryz.ntmps42
    go_wp2_with (at_builtin; refine wp_appS (A := some ad) (m := n) (n := 0) (xs := []) (ys := ys) rfl (.tmp 5) (.tmp 6) rfl hz (by rw [hyl, hs1, hn]) (fun e => by cases e) (fun ad' e => by cases e; exact ha') hbz Tryz.underlying35 info_str rfl (by decide) rfl rfl hy.one (by omega) (by omega) (by simp) ?_; intro v1 w1 h5 h6 _ _; rw [Nat.zero_add, List.nil_append] at h5; have hO : Own w1 w.heap.size 9 .str v1 l := ⟨ys, (by rw [hs1, hn]; exact h5), one_cells_s hy⟩; obtain ⟨A', c', rfl, _⟩ := own_rc h5)
    go_ret
    exact ⟨_, rfl, hO, h6⟩
/-- A task whose floats and tags are canonical. -/
def ownT (t : TASK.Ty) : TASK.Ty := (t.1, t.2.1, t.2.2.1, t.2.2.2.1, rcanF t.2.2.2.2.1, rcanF t.2.2.2.2.2.1, tidy t.2.2.2.2.2.2.1, ())
set_option maxRecDepth 20000 in
theorem rcan_lt {a : Nat} (h : a < 18446744073709551616) : rcanF a < 18446744073709551616 := by rw [← can_same h]; exact canF_lt h
set_option maxRecDepth 20000 in
theorem tidy_of {l r : List ByteArray} (h : Ris l r) : tidy l = r := (tidy_ris l).uniq h (fun _ => Iff.rfl)
set_option maxHeartbeats 4000000 in
set_option maxRecDepth 20000 in
theorem town_any (w : World) (i1 l1 : Int) (t1 : ByteArray) (d1 : Bool) (r1 e1 : Nat) (A1 : Option Addr) (n1 c1 : Nat) (g1 : List ByteArray) (hr : r1 < 18446744073709551616) (he : e1 < 18446744073709551616) (h : Rd w anyB (.sl .str) g1 [.slice A1 n1 c1]) (hn : n1 ≤ 100000) :
    Calls Tryz.prog 15 #[.agg #[Value.int .u64 i1, Value.int .u64 l1, Value.string t1, Value.bool d1, Value.float .f64 r1, Value.float .f64 e1, Value.slice A1 n1 c1]] w fun e w' => ∃ v, e = .returned (.agg #[.int .u64 i1, .int .u64 l1, .string t1, .bool d1, .float .f64 (rcanF r1), .float .f64 (rcanF e1), v]) ∧ Own w' w.heap.size 9 .str v (tidy g1) ∧ Below w.heap.size w w' := by
  rw [← can_same hr, ← can_same he]
  have hgl : g1.length = n1 := (rd_rows h).1
  obtain ⟨W0, hW0⟩ : ∃ W0, (w.alloc (.cells #[Value.int .u64 i1, Value.int .u64 l1, Value.string t1, Value.bool d1, Value.float .f64 r1, Value.float .f64 e1, Value.slice A1 n1 c1] 37)).alloc (.cells #[Value.int .u64 0, Value.int .u64 0, Value.string ⟨#[]⟩, Value.bool false, Value.float .f64 0, Value.float .f64 0, Value.slice none 0 0] 37) = W0 := ⟨_, rfl⟩
  have hb0 : Below w.heap.size w W0 := by subst hW0; exact ((Below.refl _ _).alloc (Nat.le_refl _) _).alloc (by simp) _
  have hs0 : W0.heap.size = w.heap.size + 2 := by subst hW0; simp
  have hc0 : W0.heap[w.heap.size]? = some (.cells #[Value.int .u64 i1, Value.int .u64 l1, Value.string t1, Value.bool d1, Value.float .f64 r1, Value.float .f64 e1, Value.slice A1 n1 c1] 37 (0, 0)) := by subst hW0; exact (Below.heap_alloc _ _ _ (by simp)).trans (heap_alloc_new w _)
  have hc1 : W0.heap[w.heap.size + 1]? = some (.cells #[Value.int .u64 0, Value.int .u64 0, Value.string ⟨#[]⟩, Value.bool false, Value.float .f64 0, Value.float .f64 0, Value.slice none 0 0] 37 (0, 0)) := by subst hW0; have := heap_alloc_new (w.alloc (.cells #[Value.int .u64 i1, Value.int .u64 l1, Value.string t1, Value.bool d1, Value.float .f64 r1, Value.float .f64 e1, Value.slice A1 n1 c1] 37)) (.cells #[Value.int .u64 0, Value.int .u64 0, Value.string ⟨#[]⟩, Value.bool false, Value.float .f64 0, Value.float .f64 0, Value.slice none 0 0] 37); simpa using this
  have HH := Lib.hid h
  have HB := Lib.hid hb0
  have HS := Lib.hid hs0
  have H0 := Lib.hid hc0
  have H1 := Lib.hid hc1
  have HW := Lib.hid hW0
  clear h hb0 hs0 hc0 hc1 hW0
  go_enter Tryz.func15, Tryz.ntmps15
  go_wp2_with fail
  rw [HW.out]
  obtain ⟨-, -, -, -, a4, a5, -⟩ := blk7 H0.out
  have f4 := blk_free H0.out 4
  have f5 := blk_free H0.out 5
  obtain ⟨w1, hw1⟩ : ∃ w1, (W0.setCell ⟨w.heap.size, 4, none⟩ (.float .f64 (canF r1))).setCell ⟨w.heap.size, 5, none⟩ (.float .f64 (canF e1)) = w1 := ⟨_, rfl⟩
  obtain ⟨u1, hu1⟩ : ∃ u1, w1.drew = u1 := ⟨_, rfl⟩
  have X1 := Lib.hid (show u1.heap[w.heap.size]? = some (.cells #[.int .u64 i1, .int .u64 l1, .string t1, .bool d1, .float .f64 (canF r1), .float .f64 (canF e1), .slice A1 n1 c1] 37 (0, 0)) by rw [← hu1, ← hw1]; exact blk_set (blk_set H0.out 4 _) 5 _)
  have Y1 := Lib.hid (show u1.heap[w.heap.size + 1]? = some (.cells #[Value.int .u64 0, Value.int .u64 0, Value.string ⟨#[]⟩, Value.bool false, Value.float .f64 0, Value.float .f64 0, Value.slice none 0 0] 37 (0, 0)) by rw [← hu1, ← hw1]; exact blk_other (k := w.heap.size) (blk_other (k := w.heap.size) H1.out 4 _ (by omega)) 5 _ (by omega))
  have B1 := Lib.hid (show Below w.heap.size w u1 by rw [← hu1, ← hw1]; exact ((HB.out.setCell (p := ⟨w.heap.size, 4, none⟩) (Nat.le_refl _) _).setCell (p := ⟨w.heap.size, 5, none⟩) (Nat.le_refl _) _).drew)
  have S1 : u1.heap.size = w.heap.size + 2 := by rw [← hu1, ← hw1]; simpa using HS.out
  have HS1 := Lib.hid S1
  clear S1
  go_region_with (go_at_call 41; refine (canon_any _ _).mono ?_; rintro e w' ⟨rfl, rfl⟩)
  all_goals
    clear a4 a5 f4 f5
    have x6 := blk_at X1.out 6 _ rfl
    go_wp2_with fail
    refine (clone_own u1 anyB A1 n1 c1 g1 (HH.out.below B1.out) hn).mono ?_
    rintro e w2 ⟨v2, rfl, hO2, hb2⟩
    have S1 := HS1.out
    have X2 := Lib.hid (blk_below X1.out hb2 (by omega))
    have Y2 := Lib.hid (blk_below Y1.out hb2 (by omega))
    have B2 := Lib.hid (B1.out.trans (hb2.mono B1.out.size))
    have Z2 := Lib.hid hb2.size
    obtain ⟨A2, c2, rfl, _⟩ := Own.form hO2
    rw [hgl] at hO2 ⊢
    clear hb2 x6
    go_wp2_with fail
    refine (sorts_any w2 u1.heap.size _ g1 hO2 (by omega) Z2.out).mono ?_
    rintro e w3 ⟨l', rfl, hO3, hl3, hb3⟩
    have X3 := Lib.hid (blk_below X2.out hb3 (by omega))
    have Y3 := Lib.hid (blk_below Y2.out hb3 (by omega))
    have B3 := Lib.hid (B2.out.trans (hb3.mono (by omega)))
    have Z3 := Lib.hid (Nat.le_trans Z2.out hb3.size)
    have hll : l'.length = n1 := by
      have := congrArg List.length hl3
      rw [List.length_map, List.length_mergeSort, List.length_map, hgl] at this
      exact this
    clear hb3 hO2
    go_wp2_with fail
    refine (comps_any w3 u1.heap.size _ l' hO3 (by omega) Z3.out).mono ?_
    rintro e w4 ⟨v4, rfl, hO4, hb4⟩
    have X4 := Lib.hid (blk_below X3.out hb4 (by omega))
    have Y4 := Lib.hid (blk_below Y3.out hb4 (by omega))
    have B4 := Lib.hid (B3.out.trans (hb4.mono (by omega)))
    have Z4 := Lib.hid (Nat.le_trans Z3.out hb4.size)
    rw [show ((Lib.compactUpTo (l'.map bsF).toArray (l'.map bsF).toArray.size).map unF) = tidy g1 by unfold tidy; rw [hl3]] at hO4
    obtain ⟨A4, c4, rfl, _⟩ := Own.form hO4
    obtain ⟨n4, hn4⟩ : ∃ n4, (tidy g1).length = n4 := ⟨_, rfl⟩
    rw [hn4] at hO4 ⊢
    have HO4 := Lib.hid hO4
    have x6 := blk_at X4.out 6 _ rfl
    have g6 := blk_free X4.out 6
    have X5 := Lib.hid (blk_set X4.out 6 (.slice A4 n4 c4))
    have Y5 := Lib.hid (blk_other (k := w.heap.size) Y4.out 6 (.slice A4 n4 c4) (by omega))
    have B5 := Lib.hid (B4.out.setCell (p := ⟨w.heap.size, 6, none⟩) (Nat.le_refl _) (.slice A4 n4 c4))
    have O5 := Lib.hid (own_grown HO4.out (grown_one (j := 6) (v := .slice A4 n4 c4) (grown_none w4 (some w.heap.size))) (by omega))
    clear hO4 hb4 hO3 hl3 hll
    go_loud (go_wp2_with (first
      | (refine wpL_load rfl 37 (.tmp 1) rfl ⟨w.heap.size, 0, none⟩ rfl _ _ (At.blk X5.out) Tryz.underlying37 rfl rfl ?_)
      | (refine wpL_store rfl 37 (.tmp 2) (.tmp 20) rfl (w.heap.size + 1) rfl _ _ 37 rfl Y5.out rfl rfl (by intro v hv; simp at hv; rcases hv with rfl | rfl | rfl | rfl | rfl | rfl | rfl <;> rfl) ?_; intro w6 hw6 hg6)))
    refine bodyPost_ret (results_cell_row rfl _ _ (w.heap.size + 1) 37 _ (0, 0) _ rfl hw6 Tryz.underlying37 rfl rfl) rfl ?_
    refine ⟨_, rfl, ?_, B5.out.grown hg6 B5.out.size (fun k e => by injection e; omega)⟩
    have h6 := own_grown O5.out hg6 (by omega)
    exact Own.base h6 (by omega)
end Go.Proofs.YtfjnpiahloncmaaGreat
namespace Go.Proofs.YtfjnpiahloncmaaGreat
open Go.RowKit Go.Sort Go.Shelf
set_option linter.unusedVariables false
set_option linter.unusedSimpArgs false
set_option maxRecDepth 20000 in
theorem nan_u64 (a : Int) (w : World) : Calls Tryz.prog 47 #[.int .u64 a] w fun e w' => e = .returned (.bool false) ∧ w = w' := by
  have h : (a != a) = false := by simp
  go_enter Tryz.func47, Tryz.ntmps47
  go_wp2
  go_ret
  exact ⟨rfl, rfl⟩
set_option maxRecDepth 20000 in
theorem comp_u64 (a b : Int) (w : World) : Calls Tryz.prog 18 #[.int .u64 a, .int .u64 b] w fun e w' => e = .returned (.int .i64 (Lib.compareInt a b)) ∧ w = w' := by
  unfold Lib.compareInt
  go_enter Tryz.func18, Tryz.ntmps18
  by_cases h1 : a < b
  · rw [if_pos h1]
    go_wp2_with (go_at_call 47; refine (nan_u64 _ _).mono ?_; rintro e w' ⟨rfl, rfl⟩)
    go_ret
    exact ⟨rfl, rfl⟩
  · rw [if_neg h1]
    by_cases h2 : b < a
    · rw [if_pos h2]
      go_wp2_with (go_at_call 47; refine (nan_u64 _ _).mono ?_; rintro e w' ⟨rfl, rfl⟩)
      go_ret
      exact ⟨rfl, rfl⟩
    · rw [if_neg h2]
      go_wp2_with (go_at_call 47; refine (nan_u64 _ _).mono ?_; rintro e w' ⟨rfl, rfl⟩)
      go_ret
      exact ⟨rfl, rfl⟩
set_option maxRecDepth 20000 in
theorem lt_cmp {α : Type} (f : α → Int) (x y : α) : ltOf (fun x y => Lib.compareInt (f x) (f y)) x y = decide (f x < f y) := by
  unfold ltOf Lib.compareInt
  by_cases h1 : f x < f y
  · simp [h1]
  · by_cases h2 : f y < f x <;> simp [h1, h2]
set_option maxRecDepth 20000 in
theorem swo_cmp {α : Type} (f : α → Int) : SWO (ltOf fun x y : α => Lib.compareInt (f x) (f y)) where
  irrefl x := by rw [lt_cmp]; simp
  trans x y z h1 h2 := by rw [lt_cmp] at *; simp at *; omega
  ntrans x y z h1 h2 := by rw [lt_cmp] at *; simp at *; omega
def encL (x : LIST.Ty) : List Value := [.int .u64 x.1, .string x.2.1]
set_option maxRecDepth 20000 in
theorem closeL (x y : LIST.Ty) (W : World) : Calls Tryz.prog 17 #[.agg (encL x).toArray, .agg (encL y).toArray] W fun e w' => e = .returned (.int .i64 (Lib.compareInt x.1 y.1)) ∧ ∃ q os', w' = grow (W.drewN q) os' := by
  show Calls Tryz.prog 17 #[.agg #[.int .u64 x.1, .string x.2.1], .agg #[.int .u64 y.1, .string y.2.1]] W _
  have hcon := fun W' => comp_u64 x.1 y.1 W'
  generalize Lib.compareInt x.1 y.1 = r at hcon ⊢
  go_enter Tryz.func17, Tryz.ntmps17
  go_wp2_with (go_at_call 18; refine (hcon _).mono ?_; rintro e w' ⟨rfl, rfl⟩)
  go_ret
  exact ⟨rfl, 0, _, by rw [alloc_eq_grow, alloc_eq_grow, grow_grow]; rfl⟩
set_option maxRecDepth 20000 in
theorem sortL_own (w : World) (base : Nat) (v : Value) (l : List LIST.Ty) (h : Own w base 42 LIST v l) (hl : l.length ≤ 100000) (hB : base ≤ w.heap.size) :
    Calls Tryz.prog 16 #[v, .func (.func 17) #[] #[]] w fun e' w' => e' = .returned (.tuple #[]) ∧ ∃ l', Own w' base 42 LIST v l' ∧ l'.Perm l ∧ l'.Pairwise (fun x y => x.1 ≤ y.1) ∧ Below base w w' ∧ w.grownBy w' v.ownBlock := by
  have eg : ∀ args w, (callFunc 17 args).run Tryz.prog w = .ok (.enter 17 args) w := enters_of Tryz.func17 (by kernel_rfl) rfl
  refine sortOwn (P := Tryz.prog) (S := LIST) (α := LIST.Ty) (enc := encL) (dat := fun x => x) (key := fun x => x.1) (cf := fun x y => Lib.compareInt x.1 y.1) ?_ (fun _ => rfl) (fun _ _ => rfl) ?_ ?_ h hl hB
  · intro w ok x cs hr
    obtain ⟨a, b, rfl, rfl, _⟩ := rd_lst hr
    exact ⟨_, rfl, rfl⟩
  · have hcon := AnyF.slices_SortFunc_none (P := Tryz.prog) (ρ := Tryz.sortL_ren) { Tryz.sortL with } none 0 (.func (.func 17) #[] #[]) w
    change Calls Tryz.prog 16 _ _ _ at hcon
    refine hcon.mono ?_
    rintro e w' ⟨rfl, rfl⟩
    exact ⟨rfl, rfl⟩
  · intro blk cap d hH hb hs
    have hc : CmpLays Tryz.prog 17 #[] encL 2 (fun x y : LIST.Ty => Lib.compareInt x.1 y.1) blk 0 d.size w := fun _ _ _ _ x y => closeL x y _
    have hcon := AnyQ.slices_SortFunc (P := Tryz.prog) (ρ := Tryz.sortL_ren) Tryz.sortL 2 Tryz.isAgg42 Tryz.sizeOf42 encL (fun _ => rfl) (fun x v hv => by simp [encL] at hv; rcases hv with rfl | rfl <;> rfl) (fun x y : LIST.Ty => Lib.compareInt x.1 y.1) (swo_cmp fun x : LIST.Ty => x.1) 17 #[] blk 0 cap d w eg hc hH hb hs
    change Calls Tryz.prog 16 _ _ _ at hcon
    exact hcon
abbrev TKS : Type := Int × Int × ByteArray × Bool × Nat × Nat × List ByteArray × Option Addr × Nat × Nat
def encK (x : TKS) : List Value := [.int .u64 x.1, .int .u64 x.2.1, .string x.2.2.1, .bool x.2.2.2.1, .float .f64 x.2.2.2.2.1, .float .f64 x.2.2.2.2.2.1, .slice x.2.2.2.2.2.2.2.1 x.2.2.2.2.2.2.2.2.1 x.2.2.2.2.2.2.2.2.2]
def datK (x : TKS) : TASK.Ty := (x.1, x.2.1, x.2.2.1, x.2.2.2.1, x.2.2.2.2.1, x.2.2.2.2.2.1, x.2.2.2.2.2.2.1, ())
set_option maxRecDepth 20000 in
theorem closeT (x y : TKS) (W : World) : Calls Tryz.prog 20 #[.agg (encK x).toArray, .agg (encK y).toArray] W fun e w' => e = .returned (.int .i64 (Lib.compareInt x.1 y.1)) ∧ ∃ q os', w' = grow (W.drewN q) os' := by
  show Calls Tryz.prog 20 #[.agg #[.int .u64 x.1, .int .u64 x.2.1, .string x.2.2.1, .bool x.2.2.2.1, .float .f64 x.2.2.2.2.1, .float .f64 x.2.2.2.2.2.1, .slice x.2.2.2.2.2.2.2.1 x.2.2.2.2.2.2.2.2.1 x.2.2.2.2.2.2.2.2.2], .agg #[.int .u64 y.1, .int .u64 y.2.1, .string y.2.2.1, .bool y.2.2.2.1, .float .f64 y.2.2.2.2.1, .float .f64 y.2.2.2.2.2.1, .slice y.2.2.2.2.2.2.2.1 y.2.2.2.2.2.2.2.2.1 y.2.2.2.2.2.2.2.2.2]] W _
  have hcon := fun W' => comp_u64 x.1 y.1 W'
  generalize Lib.compareInt x.1 y.1 = r at hcon ⊢
  go_enter Tryz.func20, Tryz.ntmps20
  go_wp2_with (go_at_call 18; refine (hcon _).mono ?_; rintro e w' ⟨rfl, rfl⟩)
  go_ret
  exact ⟨rfl, 0, _, by rw [alloc_eq_grow, alloc_eq_grow, grow_grow]; rfl⟩
set_option maxRecDepth 20000 in
theorem sortT_own (w : World) (base : Nat) (v : Value) (l : List TASK.Ty) (h : Own w base 37 TASK v l) (hl : l.length ≤ 100000) (hB : base ≤ w.heap.size) :
    Calls Tryz.prog 19 #[v, .func (.func 20) #[] #[]] w fun e' w' => e' = .returned (.tuple #[]) ∧ ∃ l', Own w' base 37 TASK v l' ∧ l'.Perm l ∧ l'.Pairwise (fun x y => x.1 ≤ y.1) ∧ Below base w w' ∧ w.grownBy w' v.ownBlock := by
  have eg : ∀ args w, (callFunc 20 args).run Tryz.prog w = .ok (.enter 20 args) w := enters_of Tryz.func20 (by kernel_rfl) rfl
  refine sortOwn (P := Tryz.prog) (S := TASK) (α := TKS) (enc := encK) (dat := datK) (key := fun x => x.1) (cf := fun x y => Lib.compareInt x.1 y.1) ?_ (fun _ => rfl) (fun _ _ => rfl) ?_ ?_ h hl hB
  · intro w ok x cs hr
    obtain ⟨a0, a1, a2, a3, a4, a5, a6, A6, c6, rfl, rfl, _⟩ := rd_task hr
    exact ⟨(a0, a1, a2, a3, a4, a5, a6, A6, a6.length, c6), rfl, rfl⟩
  · have hcon := AnyF.slices_SortFunc_none (P := Tryz.prog) (ρ := Tryz.sortT_ren) { Tryz.sortT with } none 0 (.func (.func 20) #[] #[]) w
    change Calls Tryz.prog 19 _ _ _ at hcon
    refine hcon.mono ?_
    rintro e w' ⟨rfl, rfl⟩
    exact ⟨rfl, rfl⟩
  · intro blk cap d hH hb hs
    have hc : CmpLays Tryz.prog 20 #[] encK 7 (fun x y : TKS => Lib.compareInt x.1 y.1) blk 0 d.size w := fun _ _ _ _ x y => closeT x y _
    have hcon := AnyQ.slices_SortFunc (P := Tryz.prog) (ρ := Tryz.sortT_ren) Tryz.sortT 7 Tryz.isAgg37 Tryz.sizeOf37 encK (fun _ => rfl) (fun x v hv => by simp [encK] at hv; rcases hv with rfl | rfl | rfl | rfl | rfl | rfl | rfl <;> rfl) (fun x y : TKS => Lib.compareInt x.1 y.1) (swo_cmp fun x : TKS => x.1) 20 #[] blk 0 cap d w eg hc hH hb hs
    change Calls Tryz.prog 19 _ _ _ at hcon
    exact hcon
end Go.Proofs.YtfjnpiahloncmaaGreat
namespace Go.Proofs.YtfjnpiahloncmaaGreat
open Go.RowKit Go.Maps FP
set_option linter.unusedVariables false
set_option linter.unusedSimpArgs false
/-! ### What is kept beside one block -/
set_option maxRecDepth 20000 in
theorem gb_below {W w w' : World} {b : Nat} (h : W.grownBy w (some b)) (hb : Below w.heap.size w w') : W.grownBy w' (some b) :=
  ⟨hb.os.trans h.os, hb.tape.trans h.tape, hb.output.trans h.output, Nat.le_trans h.size hb.size, fun k hk hne => (hb.block k (Nat.lt_of_lt_of_le hk h.size)).trans (h.block k hk hne)⟩
set_option maxRecDepth 20000 in
theorem gb_grown {W w w' : World} {b : Nat} {r : Option Nat} (h : W.grownBy w (some b)) (hg : w.grownBy w' r) (hr : ∀ g, r = some g → W.heap.size ≤ g) : W.grownBy w' (some b) :=
  ⟨hg.os.trans h.os, hg.tape.trans h.tape, hg.output.trans h.output, Nat.le_trans h.size hg.size, fun k hk hne => (hg.block k (Nat.lt_of_lt_of_le hk h.size) (fun e => by have := hr k e.symm; omega)).trans (h.block k hk hne)⟩
set_option maxRecDepth 20000 in
theorem gb_trans {W w w' : World} {b : Nat} (h : W.grownBy w (some b)) (hg : w.grownBy w' (some b)) : W.grownBy w' (some b) :=
  ⟨hg.os.trans h.os, hg.tape.trans h.tape, hg.output.trans h.output, Nat.le_trans h.size hg.size, fun k hk hne => (hg.block k (Nat.lt_of_lt_of_le hk h.size) hne).trans (h.block k hk hne)⟩
set_option maxRecDepth 20000 in
theorem gb_set {W w : World} {b : Nat} (h : W.grownBy w (some b)) (j : Nat) (v : Value) : W.grownBy (w.setCell ⟨b, j, none⟩ v) (some b) := grown_one h
set_option maxRecDepth 20000 in
theorem blk_app {w w' : World} {b base : Nat} {o : Obj} {v : Value} (h : w.heap[b]? = some o) (hg : w.grownBy w' v.ownBlock) (hv : ∀ k, v.ownBlock = some k → base ≤ k) (hb : b < base) : w'.heap[b]? = some o :=
  (hg.block b (blk_lt h) (fun e => by have := hv b e.symm; omega)).trans h
set_option maxRecDepth 20000 in
theorem own_baseb {w : World} {base : Nat} {e : TypeId} {s : Sh} {v : Value} {l : List s.Ty} (h : Own w base e s v l) (k : Nat) (hk : v.ownBlock = some k) : base ≤ k := by
  obtain ⟨xs, ho, _⟩ := h
  exact own_base ho k hk
set_option maxRecDepth 20000 in
theorem info_lst2 : (Tryz.prog.info? 42).map (fun i => (i.zero, i.size, i.bytes)) = some (some (.agg #[.int .u64 0, .string ⟨#[]⟩]), 2, (Tryz.prog.bytesOf 42)) := by kernel_rfl
set_option maxRecDepth 20000 in
theorem info_task2 : (Tryz.prog.info? 37).map (fun i => (i.zero, i.size, i.bytes)) = some (some (.agg #[.int .u64 0, .int .u64 0, .string ⟨#[]⟩, .bool false, .float .f64 0, .float .f64 0, .slice none 0 0]), 7, (Tryz.prog.bytesOf 37)) := by kernel_rfl
set_option maxRecDepth 20000 in
theorem bytes_lst2 : Tryz.prog.bytesOf 42 = 24 := by kernel_rfl
set_option maxRecDepth 20000 in
theorem bytes_task2 : Tryz.prog.bytesOf 37 = 80 := by kernel_rfl
set_option maxRecDepth 20000 in
theorem findL_has {e : List LIST.Ty} {k : Int} : (findL e k).2 = true ↔ ∃ y ∈ e, y.1 = k := by
  unfold findL
  cases h : e.find? (fun t => t.1 == k) with
  | none =>
    constructor
    · intro h; cases h
    · rintro ⟨y, hy, hk⟩
      have := List.find?_eq_none.1 h y hy
      simp [hk] at this
  | some z =>
    have h1 := List.mem_of_find?_eq_some h
    have h2 := List.find?_some h
    exact ⟨fun _ => ⟨z, h1, by simpa using h2⟩, fun _ => rfl⟩
set_option maxRecDepth 20000 in
theorem below_gb {w w' : World} (h : Below w.heap.size w w') (r : Option Nat) : w.grownBy w' r := ⟨h.os, h.tape, h.output, h.size, fun k hk _ => h.block k hk⟩
set_option maxRecDepth 20000 in
theorem own_grownO {w w' : World} {base : Nat} {r : Option Nat} {e : TypeId} {s : Sh} {v : Value} {l : List s.Ty} (h : Own w base e s v l) (hb : w.grownBy w' r) (hr : ∀ g, r = some g → g < base) : Own w' base e s v l := by
  obtain ⟨xs, ⟨h1, h2⟩, h3⟩ := h
  refine ⟨xs, ⟨h1, ?_⟩, h3.of (fun a u ha hu => cell_grown hb hu (fun e => by have := hr _ e.symm; have := ha.1; omega)) (fun k hk _ => hk)⟩
  rcases h2 with h2 | ⟨b, cap, cur, e, hb2, hh, hr2⟩
  · exact .inl h2
  · exact .inr ⟨b, cap, cur, e, hb2, blk_grown hh hb (fun e => by have := hr _ e.symm; omega), hr2⟩
set_option maxRecDepth 20000 in
theorem rdl_lst_any {w w' : World} {ok ok' : Nat → Prop} : ∀ {l : List LIST.Ty} {cs : List Value}, RdL w ok LIST l cs → RdL w' ok' LIST l cs
  | [], _, h => h
  | x :: l, cs, h => by
    obtain ⟨c1, c2, h1, h2, h3⟩ := h
    obtain ⟨a, b, rfl, rfl, hok⟩ := rd_lst h2
    exact ⟨_, c2, h1, rd_lst_mk hok, rdl_lst_any h3⟩
set_option maxRecDepth 20000 in
theorem own_lst_other {w w' : World} {base : Nat} {r : Option Nat} {e : TypeId} {v : Value} {l : List LIST.Ty} (h : Own w base e LIST v l) (hg : w.grownBy w' r) (hne : ∀ kb, v.ownBlock = some kb → r ≠ some kb) : Own w' base e LIST v l := by
  obtain ⟨xs, ⟨h1, h2⟩, h3⟩ := h
  refine ⟨xs, ⟨h1, ?_⟩, rdl_lst_any h3⟩
  rcases h2 with h2 | ⟨b, cap, cur, rfl, hb2, hh, hr2⟩
  · exact .inl h2
  · exact .inr ⟨b, cap, cur, rfl, hb2, blk_grown hh hg (fun e => hne b rfl e.symm), hr2⟩
/-! ### A map of what was met -/
set_option maxRecDepth 20000 in
theorem keyedB : Keyed Tryz.prog 33 := int_keyed Tryz.underlying33
set_option maxRecDepth 20000 in
theorem zeroB (w : World) : (zeroValue 4).run Tryz.prog w = .ok (.bool false) w := by kernel_rfl
set_option maxRecDepth 20000 in
theorem plainElem_bool_inv {P : Program} {e : TypeId} (he : P.underlying e = some .bool) {v : Value} {z : DataW Unit × List MemPlace} (h : plainElem P e v = some z) : ∃ c, v = .bool c ∧ z = (.lit (.bool c), []) := by
  unfold plainElem at h
  rw [he] at h
  cases v <;> simp at h
  exact ⟨_, rfl, h.symm⟩
def MetD (D : DataW Unit) (e : List TASK.Ty) : Prop := ∀ x, D.atKey (.int .u64 x) (.lit (.bool false)) = .lit (.bool (e.any fun y => y.1 == x))
set_option maxRecDepth 20000 in
theorem met_run {w : World} {M n : Nat} {D : DataW Unit} {e : List TASK.Ty} (h : w.ownsMap Tryz.prog 33 (plainElem Tryz.prog 4) M n D) (hD : MetD D e) {k : Int} (hk : 0 ≤ k) (hk2 : k < 18446744073709551616) :
    (Instr.lookup 46 (.map (some M)) (.int .u64 k) false).run Tryz.prog w = .ok (.bool (e.any fun y => y.1 == k)) w := by
  have hkey : keyOf Tryz.prog 33 (.int .u64 k) = some (.int .u64 k) := keyOf_int_mk Tryz.underlying33 (by simp [Lit.wf, IntKind.min, IntKind.max, IntKind.bits, IntKind.signed]; omega)
  obtain ⟨v, ps, hrun, hv⟩ := h.lookup keyedB Tryz.underlying46 (zeroB w) (plainElem_bool Tryz.underlying4 false) hkey
  obtain ⟨c, rfl, hc⟩ := plainElem_bool_inv Tryz.underlying4 hv
  simp only [Prod.mk.injEq] at hc
  have := (hD k).symm.trans hc.1
  injection this with this
  injection this with this
  rw [this]
  exact hrun
set_option maxRecDepth 20000 in
theorem MetD.put {D : DataW Unit} {e : List TASK.Ty} (h : MetD D e) (hD : IsMap D) {t : TASK.Ty} (hk : WideAt.IsKeyLit (.int .u64 t.1)) : MetD (D.put (.int .u64 t.1) (.lit (.bool true))) (e ++ [t]) := by
  intro x
  rw [List.any_append]
  by_cases hx : t.1 = x
  · subst hx
    rw [atKey_put_same hD hk]
    simp
  · rw [atKey_put_other (by intro e; injection e with _ e; exact hx e.symm), h x]
    simp [hx]
set_option maxRecDepth 20000 in
theorem met_nil : MetD (.map []) [] := fun x => rfl
end Go.Proofs.YtfjnpiahloncmaaGreat
namespace Go.Proofs.YtfjnpiahloncmaaGreat
open Go.RowKit Go.Maps FP
set_option linter.unusedVariables false
set_option linter.unusedSimpArgs false
set_option maxHeartbeats 8000000 in
set_option maxRecDepth 20000 in
theorem tcanon_any (w : World) (A B : Option Addr) (n ca m cb : Nat) (ls : List LIST.Ty) (ts : List TASK.Ty) (ha : Rows w anyB LIST A n ls) (hb : Rows w anyB TASK B m ts) (hn : n ≤ 1000) (hm : m ≤ 1000) (hsm : ∀ t ∈ ts, t.2.2.2.2.2.2.1.length ≤ 100000) :
    Calls Tryz.prog 6 #[.agg #[Value.slice A n ca, Value.slice B m cb]] w fun e w' => ∃ vL vT eL eT, e = .returned (.agg #[vL, vT]) ∧ Own w' w.heap.size 42 LIST vL eL ∧ Own w' w.heap.size 37 TASK vT eT ∧
      Firsts (fun x : LIST.Ty => x.1) ls eL ∧ Rises (fun x : LIST.Ty => x.1) eL ∧ eL.length ≤ n ∧ Firsts (fun x : TASK.Ty => x.1) (ts.map ownT) eT ∧ Rises (fun x : TASK.Ty => x.1) eT ∧ eT.length ≤ m ∧ Below w.heap.size w w' := by
  have hal := ha.1
  have hbl := hb.1
  obtain ⟨W, hW⟩ : ∃ W, ((w.alloc (.cells #[Value.slice A n ca, Value.slice B m cb] 25)).alloc (.cells #[Value.slice none 0 0, Value.slice none 0 0] 25)).alloc (.cells #[Value.slice none 0 0, Value.slice none 0 0] 25) = W := ⟨_, rfl⟩
  have hs0 : W.heap.size = w.heap.size + 3 := by rw [← hW]; simp
  have h0 : W.heap[w.heap.size]? = some (.cells #[Value.slice A n ca, Value.slice B m cb] 25 (0, 0)) := by rw [← hW]; exact blk_alloc (blk_alloc (heap_alloc_new w _) _) _
  have h1 : W.heap[w.heap.size + 1]? = some (.cells #[Value.slice none 0 0, Value.slice none 0 0] 25 (0, 0)) := by rw [← hW]; exact blk_alloc (heap_alloc2_new w _ _) _
  have h2 : W.heap[w.heap.size + 2]? = some (.cells #[Value.slice none 0 0, Value.slice none 0 0] 25 (0, 0)) := by
    rw [← hW]
    have := heap_alloc_new ((w.alloc (.cells #[Value.slice A n ca, Value.slice B m cb] 25)).alloc (.cells #[Value.slice none 0 0, Value.slice none 0 0] 25)) (.cells #[Value.slice none 0 0, Value.slice none 0 0] 25)
    simpa using this
  have hb0 : Below w.heap.size w W := by rw [← hW]; exact (((Below.refl _ _).alloc (Nat.le_refl _) _).alloc (by simp) _).alloc (by simp; omega) _
  have HA := Lib.hid ha
  have HBt := Lib.hid hb
  have HS := Lib.hid hs0
  have H0 := Lib.hid h0
  have H1 := Lib.hid h1
  have H2 := Lib.hid h2
  have HW := Lib.hid hb0
  have HN := Lib.hid hW
  clear ha hb hs0 h0 h1 h2 hb0 hW
  go_enter Tryz.func6, Tryz.ntmps6
  have hW := HN.out
  have x0 := blk_at H0.out 0 _ rfl
  go_wp2_with fail
  go_step3
  go_wp2_with fail
  go_step3
  go_wp2_with fail
  clear hW x0
  go_loopw [14] (fun s14 wr => ∃ (i : Nat) (vL : Value) (e : List LIST.Ty), i ≤ n ∧ s14 = .int .i64 i ∧ wr.heap[w.heap.size + 2]? = some (.cells #[vL, .slice none 0 0] 25 (0, 0)) ∧ Own wr W.heap.size 42 LIST vL e ∧ Firsts (fun x : LIST.Ty => x.1) (ls.take i) e ∧ e.Pairwise (fun x y => x.1 ≠ y.1) ∧ e.length ≤ i ∧ W.grownBy wr (some (w.heap.size + 2))) (fun s14 _ => n - (intOf s14).toNat)
  case atStart => exact ⟨0, _, [], by omega, rfl, H2.out, Own.nil _ _ _ _, firsts_nil, List.Pairwise.nil, by simp, grown_none _ _⟩
  case round =>
    obtain ⟨i, vL, e, hi, rfl, hx2, hO, hF, hP, hel, hG⟩ := hrel
    have hbw : Below w.heap.size w wr := HW.out.trans ((Below.refl _ _).grown hG (by have := HS.out; omega) (fun k e => by injection e; omega))
    have S0 := HS.out
    have HG := Lib.hid hG
    have HX := Lib.hid hx2
    have HO := Lib.hid hO
    have HF := Lib.hid hF
    have HP := Lib.hid hP
    have HB := Lib.hid hbw
    have hgs := hG.size
    by_cases hlt : i < n
    · obtain ⟨ad, x, cs, rfl, hx, hat, hrd⟩ := (HA.out.below hbw).get i hlt
      obtain ⟨k1, t1, rfl, rfl, ok1⟩ := rd_lst hrd
      have HAt := Lib.hid hat
      have HFx := Lib.hid hx
      have i0 : (0 : Int) ≤ (i : Int) := by omega
      have i1 : (i : Int) < (n : Int) := by omega
      obtain ⟨AL, cL, rfl, _, hcL, _, hRL⟩ := Own.form hO
      obtain ⟨q, hq⟩ : ∃ q, e.length = q := ⟨_, rfl⟩
      rw [hq] at hel hRL HX HO
      have HR := Lib.hid hRL.any
      clear hG hx2 hO hF hP hbw hx hat hrd hRL
      go_loud (go_wp2_with (first
        | (refine wpL_load rfl 42 _ rfl _ rfl _ _ HAt.out Tryz.underlying42 rfl rfl ?_)
        | (refine wpL_store rfl 42 (.tmp 5) _ rfl wr.heap.size rfl _ _ 42 rfl (heap_alloc_new wr _) rfl rfl (by intro v hv; simp at hv; rcases hv with rfl | rfl <;> rfl) ?_; intro w3 hx3 hg3; have HB3 := Lib.hid ((below_alloc1 wr _).grown hg3 (by simp) (fun k e => by cases e; exact Nat.le_refl _) : Below wr.heap.size wr w3); have HX3 := Lib.hid hx3; have HY3 := Lib.hid (blk_below HX.out HB3.out (blk_lt HX.out)); have z0 := blk_at HX3.out 0 _ rfl; clear hx3 hg3)
        | (refine wpL_load rfl 25 _ rfl _ rfl _ _ (At.blk HY3.out) Tryz.underlying25 rfl rfl ?_)))
      refine (lists_any w3 AL none q cL 0 0 e k1 (HR.out.below HB3.out) (by omega)).mono ?_
      rintro e' w4 ⟨cs, rfl, hrd4, hb4⟩
      obtain ⟨k4, t4, _, rfl, _⟩ := rd_lst hrd4
      have HB4 := Lib.hid (HB3.out.trans (hb4.mono HB3.out.size))
      have HX4 := Lib.hid (blk_below HX3.out hb4 (blk_lt HX3.out))
      have HY4 := Lib.hid (blk_below HY3.out hb4 (blk_lt HY3.out))
      have HT := Lib.hid (findL_has (e := e) (k := k1))
      obtain ⟨th, hth⟩ : ∃ th, (findL e k1).2 = th := ⟨_, rfl⟩
      rw [hth] at HT ⊢
      clear hrd4 hb4 z0 hth
      cases th with
      | true =>
        go_wp2_with (refine wpL_store rfl 42 (.tmp 6) _ rfl w4.heap.size rfl _ _ 42 rfl (heap_alloc_new w4 _) rfl rfl (by intro v hv; simp at hv; rcases hv with rfl | rfl <;> rfl) ?_; intro w5 hx5 hg5; have HB5 := Lib.hid (HB4.out.trans (((below_alloc1 w4 _).grown hg5 (by simp) (fun k e => by cases e; exact Nat.le_refl _) : Below w4.heap.size w4 w5).mono HB4.out.size)); clear hx5 hg5)
        go_roundw
        case measure => simp [intOf]; omega
        case rel => exact ⟨i + 1, _, e, by omega, by go_num, blk_below HX.out HB5.out (blk_lt HX.out), HO.out.below HB5.out, by rw [take_at HFx.out]; exact HF.out.old (HT.out.1 trivial), HP.out, by omega, gb_below HG.out HB5.out⟩
      | false =>
        have HNo := Lib.hid (show ¬ ∃ y ∈ e, y.1 = k1 from fun h => by have := HT.out.2 h; cases this)
        have HV := Lib.hid (fun (W : World) (ok : Nat → Prop) => (rd_lst_mk ok1 : Rd W ok LIST (k1, t1, ()) [.int .u64 k1, .string t1]))
        clear HT ok1
        go_wp2_with (first
          | (refine wpL_store rfl 42 (.tmp 6) _ rfl w4.heap.size rfl _ _ 42 rfl (heap_alloc_new w4 _) rfl rfl (by intro v hv; simp at hv; rcases hv with rfl | rfl <;> rfl) ?_; intro w5 hx5 hg5; have HB5 := Lib.hid (HB4.out.trans (((below_alloc1 w4 _).grown hg5 (by simp) (fun k e => by cases e; exact Nat.le_refl _) : Below w4.heap.size w4 w5).mono HB4.out.size)); have hb5 : Below w4.heap.size w4 w5 := ((below_alloc1 w4 _).grown hg5 (by simp) (fun k e => by cases e; exact Nat.le_refl _)); have HX5 := Lib.hid (blk_below HX4.out hb5 (blk_lt HX4.out)); have HY5 := Lib.hid (blk_below HY4.out hb5 (blk_lt HY4.out)); have y0 := blk_at HY5.out 0 _ rfl; have HA5 := Lib.hid (show Below wr.heap.size wr (w5.alloc (.cells ([Value.int .u64 k1, Value.string t1]).toArray 42)) from HB5.out.alloc HB5.out.size _); have HY6 := Lib.hid (blk_alloc HY5.out (.cells ([Value.int .u64 k1, Value.string t1]).toArray 42)); clear hx5 hg5 hb5)
          | (refine wpL_load rfl 42 _ rfl _ rfl _ _ (At.blk HX5.out) Tryz.underlying42 rfl rfl ?_)
          | (refine wpL_lit1 rfl (cs := [.int .u64 k1, .string t1]) (.tmp 28) rfl rfl Tryz.underlying22 info_lst2 rfl (by decide) (by decide) rfl ?_)
          | (at_builtin; go_loud (refine wp_appO (w0 := w5.alloc (.cells ([Value.int .u64 k1, Value.string t1]).toArray 42)) (m := 1) (S := LIST) (r := [((k1 : Int), t1, ())]) (ys := [.int .u64 k1, .string t1]) rfl (.tmp 27) (.tmp 29) rfl (HO.out.below HA5.out) rfl (fun e => by cases e) (fun ad' e => by cases e; exact At.blk (heap_alloc_new w5 _)) (RdL.single (HV.out _ _)) (Below.refl _ _) Tryz.underlying22 info_lst2 rfl (by decide) rfl rfl (by rw [hq, bytes_lst2]; omega) (by rw [hq]; omega) (Nat.le_trans hgs HA5.out.size) ?_; intro v6 w6 hO6 _ hg6 _; have HG6 := Lib.hid (gb_grown (gb_below HG.out HA5.out) hg6 (fun g e => own_baseb HO.out g e)); have HY7 := Lib.hid (blk_app HY6.out hg6 (fun g e => own_baseb HO.out g e) (by omega)); obtain ⟨A6, c6, rfl, _⟩ := Own.form hO6; have hl6 : (e ++ [((k1 : Int), t1, ())]).length = q + 1 := (by rw [List.length_append, hq]; rfl); rw [hl6] at hO6 ⊢; have HO6 := Lib.hid hO6; have y6 := blk_at HY7.out 0 _ rfl; have f6 := blk_free HY7.out 0; clear hl6 hO6 hg6)))
        go_roundw
        case measure => simp [intOf]; omega
        case rel =>
          exact ⟨i + 1, _, e ++ [(k1, t1, ())], by omega, by go_num, blk_set HY7.out 0 _, own_grown HO6.out (grown_one (grown_none w6 _)) (by omega), by rw [take_at HFx.out]; exact HF.out.new HNo.out (fun z => by simp), List.pairwise_append.2 ⟨HP.out, List.pairwise_singleton _ _, fun y hy z hz => by rw [List.mem_singleton.1 hz]; exact fun e => HNo.out ⟨y, hy, e⟩⟩, by rw [List.length_append, hq]; simp; omega, gb_set HG6.out 0 _⟩
    · obtain rfl : i = n := by omega
      rw [List.take_of_length_le (by omega)] at HF
      obtain ⟨M, hM⟩ : ∃ M, wr.heap.size = M := ⟨_, rfl⟩
      have hmm := @run_makeMap Tryz.prog
      have hown0 := World.ownsMap_made (H := Unit) wr Tryz.prog 33 (plainElem Tryz.prog 4)
      obtain ⟨AL, cL, rfl, _⟩ := Own.form hO
      obtain ⟨q, hq⟩ : ∃ q, e.length = q := ⟨_, rfl⟩
      rw [hq] at hel HX HO
      have hvl : ∀ kb, (Value.slice AL q cL).ownBlock = some kb → kb < M := fun kb e => by rw [← hM]; exact OwnG.lt HO.out kb e
      have HVL := Lib.hid hvl
      have HX0 := Lib.hid (blk_alloc HX.out (.map #[] 0))
      have HM0 := Lib.hid hown0
      have x1 := blk_at HX0.out 0 _ rfl
      have p1 := blk_at (blk_alloc (hG.block w.heap.size (by omega) (by intro e; injection e; omega) |>.trans H0.out) (.map #[] 0)) 1 _ rfl
      clear hG hx2 hO hF hP hbw hown0 hvl
      go_wp2_with fail
      clear hmm x1 p1
      go_loopw [37] (fun s37 wx => ∃ (i : Nat) (vT : Value) (e2 : List TASK.Ty) (D : DataW Unit), i ≤ m ∧ s37 = .int .i64 i ∧ wx.heap[w.heap.size + 2]? = some (.cells #[.slice AL q cL, vT] 25 (0, 0)) ∧ Own wx (M + 1) 37 TASK vT e2 ∧ wx.ownsMap Tryz.prog 33 (plainElem Tryz.prog 4) M i D ∧ MetD D e2 ∧ Firsts (fun x : TASK.Ty => x.1) ((ts.take i).map ownT) e2 ∧ e2.Pairwise (fun x y => x.1 ≠ y.1) ∧ e2.length ≤ i ∧ wr.grownBy wx (some (w.heap.size + 2)) ∧ M + 1 ≤ wx.heap.size) (fun s37 _ => m - (intOf s37).toNat)
      case atStart => exact ⟨0, _, [], _, by omega, rfl, HX0.out, Own.nil _ _ _ _, by rw [← hM]; exact HM0.out, met_nil, firsts_nil, List.Pairwise.nil, by simp, gb_below (grown_none _ _) (below_alloc1 _ _), by simp; omega⟩
      case round =>
        obtain ⟨j, vT, e2, D, hj, rfl, hx2, hO2, hmap, hmet, hF2, hP2, hel2, hG, hsz⟩ := hrel
        have HG0 := Lib.hid (gb_trans HG.out hG)
        have hbw : Below w.heap.size w _ := HW.out.trans ((Below.refl _ _).grown HG0.out (by omega) (fun k e => by injection e; omega))
        have HG2 := Lib.hid hG
        have HX2 := Lib.hid hx2
        have HT := Lib.hid hO2
        have HMp := Lib.hid hmap
        have HMt := Lib.hid hmet
        have HF2 := Lib.hid hF2
        have HP2 := Lib.hid hP2
        have HB := Lib.hid hbw
        by_cases hjm : j < m
        · obtain ⟨ad, x, cs, rfl, hx, hat, hrd⟩ := HBt.out.get j hjm
          obtain ⟨i1, l1, t1, d1, r1, e1, g1, A1, c1, rfl, rfl, ok1, hrg⟩ := rd_task hrd
          have HAt := Lib.hid (hat.below hbw)
          have HFx := Lib.hid hx
          have HRg := Lib.hid hrg
          have hgl : g1.length ≤ 100000 := hsm _ (List.mem_of_getElem? hx)
          obtain ⟨⟨ok1a, ok1b⟩, ok2, ok3, ok4, ok5⟩ := ok1
          have j0 : (0 : Int) ≤ (j : Int) := by omega
          have j1 : (j : Int) < (m : Int) := by omega
          have HKey := Lib.hid (keyOf_int_mk Tryz.underlying33 (of_u64 ⟨ok1a, ok1b⟩) : keyOf Tryz.prog 33 (.int .u64 i1) = some (.int .u64 i1))
          obtain ⟨AT, cT, rfl, _⟩ := Own.form hO2
          obtain ⟨q2, hq2⟩ : ∃ q2, e2.length = q2 := ⟨_, rfl⟩
          rw [hq2] at hel2 HX2 HT
          obtain ⟨mt, hmt⟩ : ∃ mt, (e2.any fun y => y.1 == i1) = mt := ⟨_, rfl⟩
          have HMT := Lib.hid (show mt = true ↔ ∃ y ∈ e2, y.1 = i1 by rw [← hmt]; simp)
          clear hG hx2 hO2 hmap hmet hF2 hP2 hbw hx hat hrd hrg
          cases mt with
          | true =>
            go_wp2_with (first
              | (refine wpL_load rfl 37 _ rfl _ rfl _ _ HAt.out Tryz.underlying37 rfl rfl ?_)
              | (refine wpL_store rfl 37 (.tmp 10) _ rfl wr.heap.size rfl _ _ 37 rfl (heap_alloc_new wr _) rfl rfl (by intro v hv; simp at hv; rcases hv with rfl | rfl | rfl | rfl | rfl | rfl | rfl <;> rfl) ?_; intro w3 hx3 hg3; have HB3 := Lib.hid ((below_alloc1 wr _).grown hg3 (by simp) (fun k e => by cases e; exact Nat.le_refl _) : Below wr.heap.size wr w3); have z0 := blk_at hx3 0 _ rfl; have hrun := met_run (HMp.out.kept (below_gb HB3.out none) (by simp)) HMt.out ok1a ok1b; rw [hmt] at hrun; clear hx3 hg3))
            go_roundw
            case measure => simp [intOf]; omega
            case rel => exact ⟨j + 1, _, e2, D, by omega, by go_num, blk_below HX2.out HB3.out (blk_lt HX2.out), HT.out.below HB3.out, (HMp.out.kept (below_gb HB3.out none) (by simp)).mono (by omega), HMt.out, by rw [take_at HFx.out, List.map_append]; exact HF2.out.old (HMT.out.1 rfl), HP2.out, by omega, gb_below HG2.out HB3.out, Nat.le_trans hsz HB3.out.size⟩
          | false =>
            have HNo := Lib.hid (show ¬ ∃ y ∈ e2, y.1 = i1 from fun h => by have := HMT.out.2 h; cases this)
            clear HMT
            go_upto_region 15 with (first
              | (refine wpL_load rfl 37 _ rfl _ rfl _ _ HAt.out Tryz.underlying37 rfl rfl ?_)
              | (refine wpL_store rfl 37 (.tmp 10) _ rfl wr.heap.size rfl _ _ 37 rfl (heap_alloc_new wr _) rfl rfl (by intro v hv; simp at hv; rcases hv with rfl | rfl | rfl | rfl | rfl | rfl | rfl <;> rfl) ?_; intro w3 hx3 hg3; have HB3 := Lib.hid ((below_alloc1 wr _).grown hg3 (by simp) (fun k e => by cases e; exact Nat.le_refl _) : Below wr.heap.size wr w3); have HX3 := Lib.hid hx3; have z0 := blk_at hx3 0 _ rfl; have HM3 := Lib.hid (HMp.out.kept (below_gb HB3.out none) (by simp)); have hrun := met_run HM3.out HMt.out ok1a ok1b; rw [hmt] at hrun; have hsz3 := HB3.out.size; clear hx3 hg3)
              | (at_mapUpdate; go_loud (refine wpList_mapUpdate_own _ rfl _ _ _ 46 rfl 33 4 keyedB Tryz.underlying46 _ M j D rfl HM3.out (by unfold maxLen; omega) _ _ _ rfl rfl HKey.out _ [] (plainElem_bool Tryz.underlying4 true) ?_; intro w4 hown4 hg4; have HM4 := Lib.hid hown4; have HG4 := Lib.hid (gb_grown (gb_below HG2.out HB3.out) hg4 (fun g e => by injection e with e; omega)); have HX4 := Lib.hid (blk_grown HX3.out hg4 (by intro e; injection e with e; omega)); have HY4 := Lib.hid (blk_grown (blk_below HX2.out HB3.out (blk_lt HX2.out)) hg4 (by intro e; injection e with e; omega)); have HT4 := Lib.hid (own_grownO (HT.out.below HB3.out) hg4 (fun g e => by injection e with e; omega)); have hsz4 := hg4.size; clear hown4 hg4 hrun z0)))
            refine region_inU 6 (fun W : World => W.cell? ⟨w.heap.size + 2, 1, none⟩ = some (.slice AT q2 cT) ∧ W.heap[wr.heap.size]? = some (.cells #[.int .u64 i1, .int .u64 l1, .string t1, .bool d1, .float .f64 r1, .float .f64 e1, .slice A1 g1.length c1] 37 (0, 0))) (by kernel_rfl) (fun x1 hx1 heq => ?_)
            have HX5 := Lib.hid (blk_below HX4.out hx1 (blk_lt HX4.out))
            have HY5 := Lib.hid (blk_below HY4.out hx1 (blk_lt HY4.out))
            have HM5 := Lib.hid (HM4.out.kept (below_gb hx1 none) (by simp))
            have HT5 := Lib.hid (HT4.out.below hx1)
            have HG5 := Lib.hid (gb_below HG4.out hx1)
            have hsz5 := hx1.size
            have hHeld : x1.cell? ⟨w.heap.size + 2, 1, none⟩ = some (.slice AT q2 cT) ∧ x1.heap[wr.heap.size]? = some (.cells #[.int .u64 i1, .int .u64 l1, .string t1, .bool d1, .float .f64 r1, .float .f64 e1, .slice A1 g1.length c1] 37 (0, 0)) := ⟨blk_at HY5.out 1 _ rfl, HX5.out⟩
            have c1F : ∀ W : World, (W.cell? ⟨w.heap.size + 2, 1, none⟩ = some (.slice AT q2 cT) ∧ W.heap[wr.heap.size]? = some (.cells #[.int .u64 i1, .int .u64 l1, .string t1, .bool d1, .float .f64 r1, .float .f64 e1, .slice A1 g1.length c1] 37 (0, 0))) → W.cell? ⟨w.heap.size + 2, 1, none⟩ = some (.slice AT q2 cT) := fun W h => h.1
            clear hx1 heq
            first
              | (refine takeT (i := 0) (v := ?_) rfl (by kernel_rfl) (by kernel_rfl) (by kernel_rfl) (fun _ _ _ h => h) (by kernel_rfl) (Or.inl ⟨by rfl, ?_⟩) (fun _ => hHeld) ?_; rotate_left; (focus (intro W hSw; go_simp; (try rfl); done)); (try simp only [Act.put, List.setIfInBounds_toArray, List.set_cons_zero, List.set_cons_succ]))
              | (fail "UTAKE 0")
            first
              | (refine takeU (i := 1) (v := ?_) rfl (by kernel_rfl) (by kernel_rfl) (by kernel_rfl) (fun _ _ _ h => h) (by kernel_rfl) (by kernel_rfl) (by kernel_rfl) (Or.inl ⟨by rfl, ?_⟩) hHeld ?_; rotate_left; (focus (intro W hSw; have c1F := c1F W hSw; (try dsimp only at hSw); go_simp; (try rfl); done)); (try simp only [Act.put, List.setIfInBounds_toArray, List.set_cons_zero, List.set_cons_succ]))
              | (fail "UTAKE 1")
            refine takeU (i := 2) (v := _) rfl (by kernel_rfl) (by kernel_rfl) (by kernel_rfl) (fun _ _ _ h => h) (by kernel_rfl) (by kernel_rfl) (by kernel_rfl) (yields_load (by rfl) _ _ rfl _ rfl _ _ (fun W hW => At.blk hW.2) Tryz.underlying37 rfl rfl) hHeld ?_
            (try simp only [Act.put, List.setIfInBounds_toArray, List.set_cons_zero, List.set_cons_succ])
            refine callU (i := 3) rfl (by kernel_rfl) (by kernel_rfl) (fun K hK => ?_)
            (try clear hHeld)
            go_simp
            have hbx : Below w.heap.size w x1 := HW.out.trans ((Below.refl _ _).grown (gb_trans HG.out HG5.out) (by omega) (fun k e => by injection e; omega))
            refine (town_any x1 i1 l1 t1 d1 r1 e1 A1 g1.length c1 g1 ok4 ok5 (HRg.out.below hbx) hgl).mono ?_
            rintro e' x2 ⟨v5, rfl, hO5, hb5⟩
            obtain ⟨A5, c5, rfl, _⟩ := Own.form hO5
            obtain ⟨n5, hn5⟩ : ∃ n5, (tidy g1).length = n5 := ⟨_, rfl⟩
            rw [hn5] at hO5 ⊢
            have HX6 := Lib.hid (blk_below HX5.out hb5 (blk_lt HX5.out))
            have HY6 := Lib.hid (blk_below HY5.out hb5 (blk_lt HY5.out))
            have HM6 := Lib.hid (HM5.out.kept (below_gb hb5 none) (by simp))
            have HT6 := Lib.hid (HT5.out.below hb5)
            have HG6 := Lib.hid (gb_below HG5.out hb5)
            have hsz6 := hb5.size
            have hR6 : Rd x2 (fun k => x1.heap.size ≤ k) TASK ((i1 : Int), (l1 : Int), t1, d1, rcanF r1, rcanF e1, tidy g1, ()) [.int .u64 i1, .int .u64 l1, .string t1, .bool d1, .float .f64 (rcanF r1), .float .f64 (rcanF e1), .slice A5 n5 c5] := rd_task_mk ⟨⟨ok1a, ok1b⟩, ok2, ok3, rcan_lt ok4, rcan_lt ok5⟩ (by have := Own.rd hO5; rw [← hn5]; rwa [← hn5] at this)
            have HR6 := Lib.hid hR6
            have C6 : x2.cell? ⟨w.heap.size + 2, 1, none⟩ = some (.slice AT q2 cT) ∧ x2.heap[wr.heap.size]? = some (.cells #[.int .u64 i1, .int .u64 l1, .string t1, .bool d1, .float .f64 r1, .float .f64 e1, .slice A1 g1.length c1] 37 (0, 0)) := ⟨blk_at HY6.out 1 _ rfl, HX6.out⟩
            clear hbx hO5 hb5 hR6 c1F
            have hHeld := C6
            refine hK.out (fun W : World => W.cell? ⟨w.heap.size + 2, 1, none⟩ = some (.slice AT q2 cT) ∧ W.heap[wr.heap.size]? = some (.cells #[.int .u64 i1, .int .u64 l1, .string t1, .bool d1, .float .f64 r1, .float .f64 e1, .slice A1 g1.length c1] 37 (0, 0))) _ _ (fun _ => hHeld) (fun _ h => h) ?_
            (try simp only [Act.put, List.setIfInBounds_toArray, List.set_cons_zero, List.set_cons_succ])
            refine callU (i := 4) rfl (by kernel_rfl) (by kernel_rfl) (fun K hK => ?_)
            clear hHeld
            refine wpo_lit1 (cs := [.int .u64 i1, .int .u64 l1, .string t1, .bool d1, .float .f64 (rcanF r1), .float .f64 (rcanF e1), .slice A5 n5 c5]) (.tmp 52) rfl rfl Tryz.underlying23 info_task2 rfl (by decide) (by decide) rfl ?_
            have hb7 := below_alloc1 x2 (.cells ([.int .u64 i1, .int .u64 l1, .string t1, .bool d1, .float .f64 (rcanF r1), .float .f64 (rcanF e1), .slice A5 n5 c5]).toArray 37)
            have HX7 := Lib.hid (blk_below HX6.out hb7 (blk_lt HX6.out))
            have HY7 := Lib.hid (blk_below HY6.out hb7 (blk_lt HY6.out))
            have HM7 := Lib.hid (HM6.out.kept (below_gb hb7 none) (by simp))
            have HT7 := Lib.hid (HT6.out.below hb7)
            have HG7 := Lib.hid (gb_below HG6.out hb7)
            have AT7 := Lib.hid (At.blk (heap_alloc_new x2 (.cells ([.int .u64 i1, .int .u64 l1, .string t1, .bool d1, .float .f64 (rcanF r1), .float .f64 (rcanF e1), .slice A5 n5 c5]).toArray 37)))
            have HR7 := Lib.hid (Own.apart HT5.out (Nat.le_refl _) (by omega) HR6.out hb7)
            have hsz7 : M + 1 ≤ (x2.alloc (.cells ([.int .u64 i1, .int .u64 l1, .string t1, .bool d1, .float .f64 (rcanF r1), .float .f64 (rcanF e1), .slice A5 n5 c5]).toArray 37)).heap.size := by simp; omega
            have C7 : (x2.alloc (.cells ([.int .u64 i1, .int .u64 l1, .string t1, .bool d1, .float .f64 (rcanF r1), .float .f64 (rcanF e1), .slice A5 n5 c5]).toArray 37)).cell? ⟨w.heap.size + 2, 1, none⟩ = some (.slice AT q2 cT) ∧ (x2.alloc (.cells ([.int .u64 i1, .int .u64 l1, .string t1, .bool d1, .float .f64 (rcanF r1), .float .f64 (rcanF e1), .slice A5 n5 c5]).toArray 37)).heap[wr.heap.size]? = some (.cells #[.int .u64 i1, .int .u64 l1, .string t1, .bool d1, .float .f64 r1, .float .f64 e1, .slice A1 g1.length c1] 37 (0, 0)) := ⟨blk_at HY7.out 1 _ rfl, HX7.out⟩
            clear hb7 C6
            have hHeld := C7
            refine hK.out (fun W : World => W.cell? ⟨w.heap.size + 2, 1, none⟩ = some (.slice AT q2 cT) ∧ W.heap[wr.heap.size]? = some (.cells #[.int .u64 i1, .int .u64 l1, .string t1, .bool d1, .float .f64 r1, .float .f64 e1, .slice A1 g1.length c1] 37 (0, 0))) _ _ (fun _ => hHeld) (fun _ h => h) ?_
            (try simp only [Act.put, List.setIfInBounds_toArray, List.set_cons_zero, List.set_cons_succ])
            refine callU (i := 5) rfl (by kernel_rfl) (by kernel_rfl) (fun K hK => ?_)
            clear hHeld
            refine wpo_appO (w0 := x2.alloc (.cells ([.int .u64 i1, .int .u64 l1, .string t1, .bool d1, .float .f64 (rcanF r1), .float .f64 (rcanF e1), .slice A5 n5 c5]).toArray 37)) (m := 1) (S := TASK) (r := [((i1 : Int), (l1 : Int), t1, d1, rcanF r1, rcanF e1, tidy g1, ())]) (ys := [.int .u64 i1, .int .u64 l1, .string t1, .bool d1, .float .f64 (rcanF r1), .float .f64 (rcanF e1), .slice A5 n5 c5]) (.tmp 50) (.tmp 53) rfl HT7.out rfl (fun e => by cases e) (fun ad' e => by cases e; exact AT7.out) (RdL.single HR7.out) (Below.refl _ _) Tryz.underlying23 info_task2 rfl (by decide) rfl rfl (by rw [bytes_task2, hq2]; omega) (by rw [hq2]; omega) hsz7 ?_
            intro v8 x4 hO8 _ hg8 _
            have HX8 := Lib.hid ((hg8.block wr.heap.size (blk_lt HX7.out) (fun e => by have := OwnG.lt HT.out _ e.symm; omega)).trans HX7.out)
            have HY8 := Lib.hid (blk_app HY7.out hg8 (fun g e => own_baseb HT7.out g e) (by omega))
            have HM8 := Lib.hid (HM7.out.kept hg8 (fun e => by have := own_baseb HT7.out _ e.symm; omega))
            have HG8 := Lib.hid (gb_grown HG7.out hg8 (fun g e => by have := own_baseb HT7.out g e; omega))
            have hsz8 := hg8.size
            obtain ⟨A8, c8, rfl, _⟩ := Own.form hO8
            have hl8 : (e2 ++ [((i1 : Int), (l1 : Int), t1, d1, rcanF r1, rcanF e1, tidy g1, ())]).length = q2 + 1 := by rw [List.length_append, hq2]; rfl
            rw [hl8] at hO8 ⊢
            have HT8 := Lib.hid hO8
            have C8 : x4.cell? ⟨w.heap.size + 2, 1, none⟩ = some (.slice AT q2 cT) ∧ x4.heap[wr.heap.size]? = some (.cells #[.int .u64 i1, .int .u64 l1, .string t1, .bool d1, .float .f64 r1, .float .f64 e1, .slice A1 g1.length c1] 37 (0, 0)) := ⟨blk_at HY8.out 1 _ rfl, HX8.out⟩
            clear hl8 hO8 hg8 C7
            have hHeld := C8
            refine hK.out (fun W : World => W.cell? ⟨w.heap.size + 2, 1, none⟩ = some (.slice AT q2 cT) ∧ W.heap[wr.heap.size]? = some (.cells #[.int .u64 i1, .int .u64 l1, .string t1, .bool d1, .float .f64 r1, .float .f64 e1, .slice A1 g1.length c1] 37 (0, 0))) _ _ (fun _ => hHeld) (fun _ h => h) ?_
            (try simp only [Act.put, List.setIfInBounds_toArray, List.set_cons_zero, List.set_cons_succ])
            refine callU (i := 6) rfl (by kernel_rfl) (by kernel_rfl) (fun K hK => ?_)
            (try clear hHeld)
            go_simp
            refine hK.out _ _ _ (offU (by kernel_rfl)) (fun _ h => h) ?_
            (try simp only [Act.put, List.setIfInBounds_toArray, List.set_cons_zero, List.set_cons_succ])
            have y1 := blk_at HY8.out 1 _ rfl
            have f1 := blk_free HY8.out 1
            have hHeld := trivial
            refine callU (i := 7) rfl (by kernel_rfl) (by kernel_rfl) (fun K hK => ?_)
            (try clear hHeld)
            go_simp
            have HY9 := Lib.hid (blk_set HY8.out 1 (.slice A8 (q2 + 1) c8))
            have HT9 := Lib.hid (own_grownO HT8.out (grown_one (j := 1) (v := .slice A8 (q2 + 1) c8) (grown_none x4 (some (w.heap.size + 2)))) (fun g e => by injection e; omega))
            have HM9 := Lib.hid (HM8.out.kept (grown_one (j := 1) (v := .slice A8 (q2 + 1) c8) (grown_none x4 (some (w.heap.size + 2)))) (fun e => by injection e; omega))
            have HG9 := Lib.hid (gb_set HG8.out 1 (.slice A8 (q2 + 1) c8))
            refine hK.out _ _ _ (offU (by kernel_rfl)) (fun _ h => h) ?_
            (try simp only [Act.put, List.setIfInBounds_toArray, List.set_cons_zero, List.set_cons_succ])
            refine doneU (by kernel_rfl) ?_ _
            go_wp2_with fail
            go_roundw
            case measure => simp [intOf]; omega
            case rel => exact ⟨j + 1, _, e2 ++ [((i1 : Int), (l1 : Int), t1, d1, rcanF r1, rcanF e1, tidy g1, ())], _, by omega, by go_num, HY9.out, HT9.out, HM9.out, MetD.put (t := ((i1 : Int), (l1 : Int), t1, d1, rcanF r1, rcanF e1, tidy g1, ())) HMt.out HMp.out.isMap trivial, by rw [take_at HFx.out, List.map_append]; exact HF2.out.new HNo.out (fun z => by simp [ownT]), List.pairwise_append.2 ⟨HP2.out, List.pairwise_singleton _ _, fun y hy z hz => by rw [List.mem_singleton.1 hz]; exact fun e => HNo.out ⟨y, hy, e⟩⟩, by rw [List.length_append, hq2]; simp; omega, HG9.out, by simp; omega⟩
        · obtain rfl : j = m := by omega
          rw [List.take_of_length_le (by omega)] at HF2
          have HLo := Lib.hid (own_grown HO.out hG (by omega))
          have y0 := blk_at HX2.out 0 _ rfl
          have y1 := blk_at HX2.out 1 _ rfl
          have hr1 := (gb_trans HG.out hG).block (w.heap.size + 1) (by omega) (by intro e; injection e; omega) |>.trans H1.out
          have HR1 := Lib.hid hr1
          have HWx := Lib.hid (show W.heap.size ≤ wr.heap.size by omega)
          obtain ⟨AT, cT, rfl, _⟩ := Own.form hO2
          obtain ⟨q2, hq2⟩ : ∃ q2, e2.length = q2 := ⟨_, rfl⟩
          rw [hq2] at hel2 HX2 HT
          clear hG hx2 hO2 hmap hmet hF2 hP2 hr1 y1
          go_wp2_with fail
          refine (sortL_own wr W.heap.size _ e HLo.out (by omega) HWx.out).mono ?_
          rintro e' w6 ⟨rfl, eL, hOL, hpL, hsL, hbL, hgL⟩
          have HX6 := Lib.hid (blk_below HX2.out hbL (by omega))
          have HR6 := Lib.hid (blk_below HR1.out hbL (by omega))
          have HT6 := Lib.hid (own_grownO HT.out hgL (fun g e => by have := HVL.out g e; omega))
          have HB6 := Lib.hid (HB.out.trans (hbL.mono (by omega)))
          have HL6 := Lib.hid hOL
          have RL := Lib.hid (rises_of_sort HP.out hpL hsL)
          have FL := Lib.hid (HF.out.perm hpL)
          have hlL : eL.length ≤ i := by rw [hpL.length_eq]; omega
          have y1 := blk_at HX6.out 1 _ rfl
          have hsz6 := hbL.size
          clear hOL hpL hsL hbL hgL y0
          go_wp2_with fail
          refine (sortT_own w6 (M + 1) _ e2 HT6.out (by omega) (by omega)).mono ?_
          rintro e' w7 ⟨rfl, eT, hOT, hpT, hsT, hbT, hgT⟩
          have HX7 := Lib.hid (blk_below HX6.out hbT (by omega))
          have HR7 := Lib.hid (blk_below HR6.out hbT (by omega))
          have HB7 := Lib.hid (HB6.out.trans (hbT.mono (by omega)))
          have HL7 := Lib.hid (own_lst_other HL6.out hgT (fun kb e1 e2 => by have := HVL.out kb e1; have := own_baseb HT6.out kb e2; omega))
          have HT7 := Lib.hid hOT
          have RT := Lib.hid (rises_of_sort HP2.out hpT hsT)
          have FT := Lib.hid (HF2.out.perm hpT)
          have hlT : eT.length ≤ j := by rw [hpT.length_eq]; omega
          clear hOT hpT hsT hbT hgT y1
          go_wp2_with (first
            | (refine wpL_load rfl 25 _ rfl _ rfl _ _ (At.blk HX7.out) Tryz.underlying25 rfl rfl ?_)
            | (refine wpL_store rfl 25 (.tmp 2) _ rfl (w.heap.size + 1) rfl _ _ 25 rfl HR7.out rfl rfl (by intro v hv; simp at hv; rcases hv with rfl | rfl <;> rfl) ?_; intro w8 hw8 hg8))
          (try rw [Exit.noGoto_ret])
          refine bodyPost_ret (results_cell_row rfl _ _ (w.heap.size + 1) 25 _ (0, 0) _ rfl hw8 Tryz.underlying25 rfl rfl) rfl ?_
          exact ⟨_, _, eL, eT, rfl, Own.base (own_grown HL7.out hg8 (by omega)) (by omega), Own.base (own_grown HT7.out hg8 (by omega)) (by omega), FL.out, RL.out, hlL, FT.out, RT.out, hlT, HB7.out.grown hg8 HB7.out.size (fun k e => by injection e; omega)⟩
end Go.Proofs.YtfjnpiahloncmaaGreat
