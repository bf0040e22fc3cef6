import Derived.Test.YtfjnpiahloncmaaMrgC
import Derived.Test.YtfjnpiahloncmaaTskL
import Derived.Test.YtfjnpiahloncmaaCanP
import Derived.Test.YtfjnpiahloncmaaFltL
namespace Go.Proofs.Ytfjnpiahloncmaa
open Go.RowKit FP
set_option linter.unusedVariables false
set_option linter.unusedSimpArgs false
attribute [local go_sem] run_store_float
set_option maxRecDepth 20000 in
theorem one_cells_s {w w' : World} {ok ok' : Nat → Prop} : ∀ {l : List ByteArray} {cs : List Value}, RdL w ok .str l cs → RdL w' ok' .str l cs
  | [], _, h => h
  | x :: l, cs, h => by
    obtain ⟨c1, c2, h1, h2, h3⟩ := h
    exact ⟨c1, c2, h1, h2, one_cells_s h3⟩
set_option maxRecDepth 20000 in
theorem eqn_s (a : Option Addr) (n c : Nat) (w : World) : (binOp .eql 39 (.slice a n c) (.slice none 0 0)).run Try.prog w = .ok (.bool a.isNone) w := Lib.run_eql_slice_nil w _ _ a n c 0 0 Try.underlying39
attribute [local go_sem] eqn_s
set_option maxRecDepth 20000 in
theorem grown_one {w w' : World} {g j : Nat} {v : Value} (h : w.grownBy w' (some g)) : w.grownBy (w'.setCell ⟨g, j, none⟩ v) (some g) :=
  ⟨h.os, h.tape, h.output, by simpa [World.setCell] using h.size, fun k hk hne => by rw [Below.heap_setCell _ _ _ _ (fun e => hne (by rw [e]))]; exact h.block k hk hne⟩
set_option maxRecDepth 20000 in
theorem grown_none (w : World) (r : Option Nat) : w.grownBy w r := ⟨rfl, rfl, rfl, Nat.le_refl _, fun _ _ _ => rfl⟩
set_option maxRecDepth 20000 in
theorem own_grown {w w' : World} {base g : Nat} {e : TypeId} {s : Sh} {v : Value} {l : List s.Ty} (h : Own w base e s v l) (hb : w.grownBy w' (some g)) (hlt : g < base) : Own w' base e s v l := by
  obtain ⟨xs, ⟨h1, h2⟩, h3⟩ := h
  refine ⟨xs, ⟨h1, ?_⟩, h3.of (fun a u ha hu => cell_grown hb hu (fun e => by injection e with e; have := ha.1; omega)) (fun k hk _ => hk)⟩
  rcases h2 with h2 | ⟨b, cap, cur, e, hb2, hh, hr⟩
  · exact .inl h2
  · exact .inr ⟨b, cap, cur, e, hb2, blk_grown hh hb (fun e => by injection e with e; omega), hr⟩
set_option maxRecDepth 20000 in
/-- slices.Clone of texts: one's own. -/
theorem clone_own (w : World) (ok : Nat → Prop) (A : Option Addr) (n c : Nat) (l : List ByteArray) (h : Rd w ok (.sl .str) l [.slice A n c]) (hl : n ≤ 100000) :
    Calls Try.prog 29 #[.slice A n c] w fun e w' => ∃ v, e = .returned v ∧ Own w' w.heap.size 9 .str v l ∧ Below w.heap.size w w' := by
  obtain ⟨h1, h2, h3, h4⟩ := rd_rowsN h
  have hn := h4.1
  cases A with
  | none =>
    have hc := h3 rfl
    subst hc
    obtain rfl : n = 0 := by omega
    obtain rfl : l = [] := List.eq_nil_of_length_eq_zero hn
    go_enter Try.func29, Try.ntmps29
    go_wp2_with fail
    go_ret
    exact ⟨_, rfl, Own.nil _ _ _ _, Below.refl _ _⟩
  | some ad =>
    obtain ⟨ys, hy, hat⟩ := h4.cells
    have ha := (hat ad rfl).2
    have hyl := hy.len
    have hs1 : Sh.size .str = 1 := rfl
    have hz := lit_own w 9 #[] 0 rfl (by omega)
    have hbz := below_alloc1 w (.cells #[] 9)
    have ha' := ha.of (ok := anyB) (fun _ => trivial) (fun a v _ hc => cell_below hbz hc)
    go_enter Try.func29, Try.ntmps29
    go_wp2_with (at_builtin; refine wp_appS (A := some ad) (m := n) (n := 0) (xs := []) (ys := ys) rfl (.tmp 5) (.tmp 6) rfl hz (by rw [hyl, hs1, hn]) (fun e => by cases e) (fun ad' e => by cases e; exact ha') hbz Try.underlying39 info_str rfl (by decide) rfl rfl hy.one (by omega) (by omega) (by simp) ?_; intro v1 w1 h5 h6 _ _; rw [Nat.zero_add, List.nil_append] at h5; have hO : Own w1 w.heap.size 9 .str v1 l := ⟨ys, (by rw [hs1, hn]; exact h5), one_cells_s hy⟩; obtain ⟨A', c', rfl, _⟩ := own_rc h5)
    go_ret
    exact ⟨_, rfl, hO, h6⟩
/-- A task whose floats and tags are canonical. -/
def ownT (t : TASK.Ty) : TASK.Ty := (t.1, t.2.1, t.2.2.1, t.2.2.2.1, rcanF t.2.2.2.2.1, rcanF t.2.2.2.2.2.1, tidy t.2.2.2.2.2.2.1, ())
set_option maxRecDepth 20000 in
theorem rcan_lt {a : Nat} (h : a < 18446744073709551616) : rcanF a < 18446744073709551616 := by rw [← can_same h]; exact canF_lt h
set_option maxRecDepth 20000 in
theorem tidy_of {l r : List ByteArray} (h : Ris l r) : tidy l = r := (tidy_ris l).uniq h (fun _ => Iff.rfl)
set_option maxHeartbeats 4000000 in
set_option maxRecDepth 20000 in
theorem town_any (w : World) (i1 l1 : Int) (t1 : ByteArray) (d1 : Bool) (r1 e1 : Nat) (A1 : Option Addr) (n1 c1 : Nat) (g1 : List ByteArray) (hr : r1 < 18446744073709551616) (he : e1 < 18446744073709551616) (h : Rd w anyB (.sl .str) g1 [.slice A1 n1 c1]) (hn : n1 ≤ 100000) :
    Calls Try.prog 21 #[.agg #[Value.int .u64 i1, Value.int .u64 l1, Value.string t1, Value.bool d1, Value.float .f64 r1, Value.float .f64 e1, Value.slice A1 n1 c1]] w fun e w' => ∃ v, e = .returned (.agg #[.int .u64 i1, .int .u64 l1, .string t1, .bool d1, .float .f64 (rcanF r1), .float .f64 (rcanF e1), v]) ∧ Own w' w.heap.size 9 .str v (tidy g1) ∧ Below w.heap.size w w' := by
  rw [← can_same hr, ← can_same he]
  have hgl : g1.length = n1 := (rd_rows h).1
  obtain ⟨W0, hW0⟩ : ∃ W0, (w.alloc (.cells #[Value.int .u64 i1, Value.int .u64 l1, Value.string t1, Value.bool d1, Value.float .f64 r1, Value.float .f64 e1, Value.slice A1 n1 c1] 41)).alloc (.cells #[Value.int .u64 0, Value.int .u64 0, Value.string ⟨#[]⟩, Value.bool false, Value.float .f64 0, Value.float .f64 0, Value.slice none 0 0] 41) = W0 := ⟨_, rfl⟩
  have hb0 : Below w.heap.size w W0 := by subst hW0; exact ((Below.refl _ _).alloc (Nat.le_refl _) _).alloc (by simp) _
  have hs0 : W0.heap.size = w.heap.size + 2 := by subst hW0; simp
  have hc0 : W0.heap[w.heap.size]? = some (.cells #[Value.int .u64 i1, Value.int .u64 l1, Value.string t1, Value.bool d1, Value.float .f64 r1, Value.float .f64 e1, Value.slice A1 n1 c1] 41 (0, 0)) := by subst hW0; exact (Below.heap_alloc _ _ _ (by simp)).trans (heap_alloc_new w _)
  have hc1 : W0.heap[w.heap.size + 1]? = some (.cells #[Value.int .u64 0, Value.int .u64 0, Value.string ⟨#[]⟩, Value.bool false, Value.float .f64 0, Value.float .f64 0, Value.slice none 0 0] 41 (0, 0)) := by subst hW0; have := heap_alloc_new (w.alloc (.cells #[Value.int .u64 i1, Value.int .u64 l1, Value.string t1, Value.bool d1, Value.float .f64 r1, Value.float .f64 e1, Value.slice A1 n1 c1] 41)) (.cells #[Value.int .u64 0, Value.int .u64 0, Value.string ⟨#[]⟩, Value.bool false, Value.float .f64 0, Value.float .f64 0, Value.slice none 0 0] 41); simpa using this
  have HH := Lib.hid h
  have HB := Lib.hid hb0
  have HS := Lib.hid hs0
  have H0 := Lib.hid hc0
  have H1 := Lib.hid hc1
  have HW := Lib.hid hW0
  clear h hb0 hs0 hc0 hc1 hW0
  go_enter Try.func21, Try.ntmps21
  go_wp2_with fail
  rw [HW.out]
  obtain ⟨-, -, -, -, a4, a5, -⟩ := blk7 H0.out
  have f4 := blk_free H0.out 4
  have f5 := blk_free H0.out 5
  obtain ⟨w1, hw1⟩ : ∃ w1, (W0.setCell ⟨w.heap.size, 4, none⟩ (.float .f64 (canF r1))).setCell ⟨w.heap.size, 5, none⟩ (.float .f64 (canF e1)) = w1 := ⟨_, rfl⟩
  obtain ⟨u1, hu1⟩ : ∃ u1, w1.drew = u1 := ⟨_, rfl⟩
  have X1 := Lib.hid (show u1.heap[w.heap.size]? = some (.cells #[.int .u64 i1, .int .u64 l1, .string t1, .bool d1, .float .f64 (canF r1), .float .f64 (canF e1), .slice A1 n1 c1] 41 (0, 0)) by rw [← hu1, ← hw1]; exact blk_set (blk_set H0.out 4 _) 5 _)
  have Y1 := Lib.hid (show u1.heap[w.heap.size + 1]? = some (.cells #[Value.int .u64 0, Value.int .u64 0, Value.string ⟨#[]⟩, Value.bool false, Value.float .f64 0, Value.float .f64 0, Value.slice none 0 0] 41 (0, 0)) by rw [← hu1, ← hw1]; exact blk_other (k := w.heap.size) (blk_other (k := w.heap.size) H1.out 4 _ (by omega)) 5 _ (by omega))
  have B1 := Lib.hid (show Below w.heap.size w u1 by rw [← hu1, ← hw1]; exact ((HB.out.setCell (p := ⟨w.heap.size, 4, none⟩) (Nat.le_refl _) _).setCell (p := ⟨w.heap.size, 5, none⟩) (Nat.le_refl _) _).drew)
  have S1 : u1.heap.size = w.heap.size + 2 := by rw [← hu1, ← hw1]; simpa using HS.out
  have HS1 := Lib.hid S1
  clear S1
  go_region_with (go_at_call 38; refine (canon_any _ _).mono ?_; rintro e w' ⟨rfl, rfl⟩)
  all_goals
    clear a4 a5 f4 f5
    have x6 := blk_at X1.out 6 _ rfl
    go_wp2_with fail
    refine (clone_own u1 anyB A1 n1 c1 g1 (HH.out.below B1.out) hn).mono ?_
    rintro e w2 ⟨v2, rfl, hO2, hb2⟩
    have S1 := HS1.out
    have X2 := Lib.hid (blk_below X1.out hb2 (by omega))
    have Y2 := Lib.hid (blk_below Y1.out hb2 (by omega))
    have B2 := Lib.hid (B1.out.trans (hb2.mono B1.out.size))
    have Z2 := Lib.hid hb2.size
    obtain ⟨A2, c2, rfl, _⟩ := Own.form hO2
    rw [hgl] at hO2 ⊢
    clear hb2 x6
    go_wp2_with fail
    refine (sorts_any w2 u1.heap.size _ g1 hO2 (by omega) Z2.out).mono ?_
    rintro e w3 ⟨l', rfl, hO3, hl3, hb3⟩
    have X3 := Lib.hid (blk_below X2.out hb3 (by omega))
    have Y3 := Lib.hid (blk_below Y2.out hb3 (by omega))
    have B3 := Lib.hid (B2.out.trans (hb3.mono (by omega)))
    have Z3 := Lib.hid (Nat.le_trans Z2.out hb3.size)
    have hll : l'.length = n1 := by
      have := congrArg List.length hl3
      rw [List.length_map, List.length_mergeSort, List.length_map, hgl] at this
      exact this
    clear hb3 hO2
    go_wp2_with fail
    refine (comps_any w3 u1.heap.size _ l' hO3 (by omega) Z3.out).mono ?_
    rintro e w4 ⟨v4, rfl, hO4, hb4⟩
    have X4 := Lib.hid (blk_below X3.out hb4 (by omega))
    have Y4 := Lib.hid (blk_below Y3.out hb4 (by omega))
    have B4 := Lib.hid (B3.out.trans (hb4.mono (by omega)))
    have Z4 := Lib.hid (Nat.le_trans Z3.out hb4.size)
    rw [show ((Lib.compactUpTo (l'.map bsF).toArray (l'.map bsF).toArray.size).map unF) = tidy g1 by unfold tidy; rw [hl3]] at hO4
    obtain ⟨A4, c4, rfl, _⟩ := Own.form hO4
    obtain ⟨n4, hn4⟩ : ∃ n4, (tidy g1).length = n4 := ⟨_, rfl⟩
    rw [hn4] at hO4 ⊢
    have HO4 := Lib.hid hO4
    have x6 := blk_at X4.out 6 _ rfl
    have g6 := blk_free X4.out 6
    have X5 := Lib.hid (blk_set X4.out 6 (.slice A4 n4 c4))
    have Y5 := Lib.hid (blk_other (k := w.heap.size) Y4.out 6 (.slice A4 n4 c4) (by omega))
    have B5 := Lib.hid (B4.out.setCell (p := ⟨w.heap.size, 6, none⟩) (Nat.le_refl _) (.slice A4 n4 c4))
    have O5 := Lib.hid (own_grown HO4.out (grown_one (j := 6) (v := .slice A4 n4 c4) (grown_none w4 (some w.heap.size))) (by omega))
    clear hO4 hb4 hO3 hl3 hll
    go_loud (go_wp2_with (first
      | (refine wpL_load rfl 41 (.tmp 1) rfl ⟨w.heap.size, 0, none⟩ rfl _ _ (At.blk X5.out) Try.underlying41 rfl rfl ?_)
      | (refine wpL_store rfl 41 (.tmp 2) (.tmp 20) rfl (w.heap.size + 1) rfl _ _ 41 rfl Y5.out rfl rfl (by intro v hv; simp at hv; rcases hv with rfl | rfl | rfl | rfl | rfl | rfl | rfl <;> rfl) ?_; intro w6 hw6 hg6)))
    refine bodyPost_ret (results_cell_row rfl _ _ (w.heap.size + 1) 41 _ (0, 0) _ rfl hw6 Try.underlying41 rfl rfl) rfl ?_
    refine ⟨_, rfl, ?_, B5.out.grown hg6 B5.out.size (fun k e => by injection e; omega)⟩
    have h6 := own_grown O5.out hg6 (by omega)
    exact Own.base h6 (by omega)
end Go.Proofs.Ytfjnpiahloncmaa
