import Derived.Test.YtapoechkbbklfaaNetF
import Derived.Test.YtapoechkbbklfaaRgV
namespace Go.Proofs.Ytapoechkbbklfaa
open Go.RowKit Go.Shelf
set_option linter.unusedVariables false
set_option linter.unusedSimpArgs false
attribute [local go_sem] eqn_byte
set_option maxRecDepth 20000 in
/-- slices.Clone of bytes: a row of its own. -/
theorem clone_own (w : World) (ok : Nat → Prop) (A : Option Addr) (n c : Nat) (l : List UInt8) (h : Rd w ok (.sl .byte) l [.slice A n c]) (hl : n ≤ 100000) :
    Calls Try.prog 46 #[.slice A n c] w fun e w' => ∃ A' c', e = .returned (.slice A' n c') ∧ OwnG w' w.heap.size (fun _ => False) 5 .byte (.slice A' n c') l ∧ Below w.heap.size w w' := by
  obtain ⟨h1, h2, h3, h4⟩ := rd_rowsN h
  have hn := h4.1
  cases A with
  | none =>
    have hc := h3 rfl
    subst hc
    obtain rfl : n = 0 := by omega
    obtain rfl : l = [] := List.eq_nil_of_length_eq_zero hn
    go_enter Try.func46, Try.ntmps46
    go_wp2_with fail
    go_ret
    exact ⟨_, _, rfl, ⟨[], own_nil _ _ _ _, rfl⟩, Below.refl _ _⟩
  | some ad =>
    obtain ⟨ys, hy, hat⟩ := h4.cells
    have ha := (hat ad rfl).2
    have hyl := hy.len
    have hs1 : Sh.size .byte = 1 := rfl
    have hz := lit_own w 5 #[] 0 rfl (by omega)
    have hbz := below_alloc1 w (.cells #[] 5)
    have ha' := ha.of (ok := anyB) (fun _ => trivial) (fun a v _ hc => cell_below hbz hc)
    go_enter Try.func46, Try.ntmps46
    go_wp2_with (at_builtin; refine wp_appS (A := some ad) (m := n) (n := 0) (xs := []) (ys := ys) rfl (.tmp 5) (.tmp 6) rfl hz (by rw [hyl, hs1, hn]) (fun e => by cases e) (fun ad' e => by cases e; exact ha') hbz Try.underlying35 info_byte rfl (by decide) rfl rfl hy.one (by omega) (by omega) (by simp) ?_; intro v1 w1 h5 h6 _ _; rw [Nat.zero_add, List.nil_append] at h5; have hR : OwnG w1 w.heap.size (fun _ => False) 5 .byte v1 l := ⟨ys, (by rw [hs1, hn]; exact h5), one_cells_byte hy⟩; obtain ⟨A', c', rfl, _⟩ := own_rc h5)
    go_ret
    exact ⟨_, _, rfl, hR, h6⟩
set_option maxRecDepth 20000 in
/-- copied: its data are a row of their own. -/
theorem copied_own (w : World) (ok : Nat → Prop) (t f : Int) (A : Option Addr) (c : Nat) (d : List UInt8) (h : Rd w ok (.sl .byte) d [.slice A d.length c]) (hd : d.length ≤ 100000) :
    Calls Try.prog 37 #[.agg #[.int .i64 t, .int .i64 f, .slice A d.length c]] w fun e w' => ∃ A' c', e = .returned (.agg #[.int .i64 t, .int .i64 f, .slice A' d.length c']) ∧ OwnG w' (w.heap.size + 2) (fun _ => False) 5 .byte (.slice A' d.length c') d ∧ Below w.heap.size w w' ∧ w.heap.size + 2 ≤ w'.heap.size := by
  obtain ⟨W, hW⟩ : ∃ W, (w.alloc (.cells #[.int .i64 t, .int .i64 f, .slice A d.length c] 37)).alloc (.cells #[.int .i64 0, .int .i64 0, .slice none 0 0] 37) = W := ⟨_, rfl⟩
  have h1 : W.heap[w.heap.size]? = some (.cells #[.int .i64 t, .int .i64 f, .slice A d.length c] 37 (0, 0)) := by rw [← hW]; exact blk_alloc (heap_alloc_new w _) _
  have h2 : W.heap[w.heap.size + 1]? = some (.cells #[.int .i64 0, .int .i64 0, .slice none 0 0] 37 (0, 0)) := by rw [← hW]; exact heap_alloc2_new w _ _
  have hb : Below w.heap.size w W := by rw [← hW]; exact (below_alloc1 w _).alloc (by simp) _
  have hz : W.heap.size = w.heap.size + 2 := by rw [← hW]; simp
  have HR := Lib.hid (h.below hb)
  have H1 := Lib.hid h1
  have H2 := Lib.hid h2
  have HB := Lib.hid hb
  obtain ⟨p0, p1, p2⟩ := blk3 h1
  clear h h1 h2 hb p0 p1
  go_enter Try.func37, Try.ntmps37
  go_wp2_with fail
  clear hW
  refine (clone_own W ok _ _ _ d HR.out hd).mono ?_
  rintro e w1 ⟨A1, c1, rfl, hr1, hb1⟩
  have X1 := Lib.hid (blk_below H1.out hb1 (by omega))
  have Y1 := Lib.hid (blk_below H2.out hb1 (by omega))
  have B1 := Lib.hid (HB.out.trans (hb1.mono (by omega)))
  have Z1 := Lib.hid hb1.size
  have x2 := blk_at X1.out 2 _ rfl
  have g2 := blk_free X1.out 2
  have X2 := Lib.hid (blk_set X1.out 2 (.slice A1 d.length c1))
  have Y2 := Lib.hid (blk_other (k := w.heap.size) Y1.out 2 (.slice A1 d.length c1) (by omega))
  have B2 := Lib.hid (B1.out.setCell (p := ⟨w.heap.size, 2, none⟩) (Nat.le_refl _) (.slice A1 d.length c1))
  have hge : ∀ k, (Value.slice A1 d.length c1).ownBlock = some k → w.heap.size + 2 ≤ k := fun k e => by obtain ⟨xs, ho, _⟩ := hr1; have := own_base ho k e; omega
  have HGE := Lib.hid hge
  have R2 := Lib.hid ((hr1.turn (w' := w1.setCell ⟨w.heap.size, 2, none⟩ (.slice A1 d.length c1)) (p := fun k => k = w.heap.size) ((Turn.refl _ _).set (fun _ => rfl)) (fun k e h => by have := hge k e; omega) (fun k _ hk => hk.elim)).weak (base' := w.heap.size + 2) (ok' := fun _ => False) (by omega) (fun _ _ h => h))
  clear hr1 hb1 hge
  go_wp2_with (first
    | (refine wpL_load rfl 37 (.tmp 1) rfl ⟨w.heap.size, 0, none⟩ rfl _ _ (At.blk X2.out) Try.underlying37 rfl rfl ?_)
    | (refine wpL_store rfl 37 (.tmp 2) (.tmp 7) rfl (w.heap.size + 1) rfl _ _ 37 rfl Y2.out rfl rfl (by intro v hv; simp at hv; rcases hv with rfl | rfl | rfl <;> rfl) ?_; intro w6 hw6 hg6))
  refine bodyPost_ret (results_cell_row rfl _ _ (w.heap.size + 1) 37 _ (0, 0) _ rfl hw6 Try.underlying37 rfl rfl) rfl ?_
  refine ⟨A1, c1, rfl, ?_, B2.out.grown hg6 B2.out.size (fun k e => by injection e; omega), ?_⟩
  · exact R2.out.turn (Turn.of_grown (p := fun k => k = w.heap.size + 1) hg6 (fun k e => by injection e with e; exact e.symm)) (fun k e h => by have := HGE.out k e; omega) (fun k _ hk => hk.elim)
  · have h1 := hg6.size
    have h2 := Z1.out
    simp [World.setCell] at h1
    omega
set_option maxRecDepth 20000 in
/-- n.All() -/
theorem all_it (w : World) (v : Value) (hv : v = .pointer none ∨ ∃ b1, v = .pointer (some ⟨b1, 0, none⟩)) :
    Calls Try.prog 24 #[v] w fun e w' => e = .returned (.func (.func 41) #[] #[.pointer (some ⟨w.heap.size, 0, none⟩)]) ∧ w' = w.alloc (.cells #[v] 24) := by
  rcases hv with rfl | ⟨b1, rfl⟩
  · go_enter Try.func24, Try.ntmps24
    go_wp2_with fail
    go_ret
    exact ⟨rfl, rfl⟩
  · go_enter Try.func24, Try.ntmps24
    go_wp2_with fail
    go_ret
    exact ⟨rfl, rfl⟩
end Go.Proofs.Ytapoechkbbklfaa
