import Derived.Test.YtapoechkbbklfaaTrn
import Derived.Test.YtapoechkbbklfaaRdG
import Derived.Test.YtapoechkbbklfaaCln
namespace Go.Proofs.Ytapoechkbbklfaa
open Go.RowKit
set_option linter.unusedVariables false
set_option linter.unusedSimpArgs false
set_option maxRecDepth 20000 in
theorem i64_of {n : Int} (h : (Lit.int .i64 n).wf = true) : -9223372036854775808 ≤ n ∧ n < 9223372036854775808 := by
  have : -(2 ^ 63) ≤ n ∧ n ≤ 2 ^ 63 - 1 := by simpa [Lit.wf, IntKind.min, IntKind.max, IntKind.bits, IntKind.signed] using h
  omega
set_option maxRecDepth 20000 in
theorem of_i64 {n : Int} (h : -9223372036854775808 ≤ n ∧ n < 9223372036854775808) : (Lit.int .i64 n).wf = true := by
  simp [Lit.wf, IntKind.min, IntKind.max, IntKind.bits, IntKind.signed]; omega
abbrev PKT : Sh := .cons (.int .i64) (.cons (.int .i64) (.cons (.sl (.byte)) (.nil)))
def PKTOk : PKT.Ty → Prop := fun (a0, a1, a2, _) => (-9223372036854775808 ≤ a0 ∧ a0 < 9223372036854775808) ∧ (-9223372036854775808 ≤ a1 ∧ a1 < 9223372036854775808)
set_option maxRecDepth 20000 in
theorem rd_pkt {w : World} {ok : Nat → Prop} {x : PKT.Ty} {cs : List Value} (h : Rd w ok PKT x cs) :
    ∃ (a0 : Int) (a1 : Int) (a2 : List (Sh.Ty (.byte))) (A2 : Option Addr) (c2 : Nat), x = (a0, a1, a2, ()) ∧ cs = [.int .i64 a0, .int .i64 a1, .slice A2 a2.length c2] ∧ PKTOk (a0, a1, a2, ()) ∧ Rd w ok (.sl (.byte)) a2 [.slice A2 a2.length c2] := by
  obtain ⟨a0, a1, a2, ⟨⟩⟩ := x
  obtain ⟨_, _, rfl, ⟨rfl, w0⟩, _, _, rfl, ⟨rfl, w1⟩, _, _, rfl, h2, rfl⟩ := h
  obtain ⟨A2, c2, rfl⟩ := rd_slv h2
  exact ⟨a0, a1, a2, A2, c2, rfl, rfl, ⟨i64_of w0, i64_of w1⟩, h2⟩
set_option maxRecDepth 20000 in
theorem rd_pkt_mk {w : World} {ok : Nat → Prop} {a0 : Int} {a1 : Int} {a2 : List (Sh.Ty (.byte))} {A2 : Option Addr} {n2 c2 : Nat} (hx : PKTOk (a0, a1, a2, ())) (h2 : Rd w ok (.sl (.byte)) a2 [.slice A2 n2 c2]) :
    Rd w ok PKT (a0, a1, a2, ()) [.int .i64 a0, .int .i64 a1, .slice A2 n2 c2] := by
  obtain ⟨g0, g1⟩ := hx
  exact ⟨[_], _, rfl, ⟨rfl, of_i64 g0⟩, [_], _, rfl, ⟨rfl, of_i64 g1⟩, [_], [], rfl, h2, rfl⟩
theorem blk2 {w : World} {b : Nat} {v0 v1 : Value} {t : TypeId} {f : Nat × Nat} (h : w.heap[b]? = some (.cells #[v0, v1] t f)) : w.cell? ⟨b, 0, none⟩ = some v0 ∧ w.cell? ⟨b, 1, none⟩ = some v1 := by
  refine ⟨?_, ?_⟩ <;> simp [World.cell?, h]
theorem blk3 {w : World} {b : Nat} {v0 v1 v2 : Value} {t : TypeId} {f : Nat × Nat} (h : w.heap[b]? = some (.cells #[v0, v1, v2] t f)) : w.cell? ⟨b, 0, none⟩ = some v0 ∧ w.cell? ⟨b, 1, none⟩ = some v1 ∧ w.cell? ⟨b, 2, none⟩ = some v2 := by
  refine ⟨?_, ?_, ?_⟩ <;> simp [World.cell?, h]
def dataP (p : PKT.Ty) : List UInt8 := p.2.2.1
set_option maxRecDepth 20000 in
theorem info_pkt : (Try.prog.info? 37).map (fun i => (i.zero, i.size, i.bytes)) = some (some (.agg #[.int .i64 0, .int .i64 0, .slice none 0 0]), 3, 40) := by kernel_rfl
set_option maxRecDepth 20000 in
/-- copied: the same packet, its data in a block of their own. -/
theorem copied_any (w : World) (ok : Nat → Prop) (t f : Int) (A : Option Addr) (c : Nat) (d : List UInt8) (h : Rd w ok (.sl .byte) d [.slice A d.length c]) (hd : d.length ≤ 100000) :
    Calls Try.prog 37 #[.agg #[.int .i64 t, .int .i64 f, .slice A d.length c]] w fun e w' => ∃ A' c', e = .returned (.agg #[.int .i64 t, .int .i64 f, .slice A' d.length c']) ∧ Rd w' (fun k => w.heap.size + 2 ≤ k) (.sl .byte) d [.slice A' d.length c'] ∧ Below w.heap.size w w' := by
  obtain ⟨W, hW⟩ : ∃ W, (w.alloc (.cells #[.int .i64 t, .int .i64 f, .slice A d.length c] 37)).alloc (.cells #[.int .i64 0, .int .i64 0, .slice none 0 0] 37) = W := ⟨_, rfl⟩
  have h1 : W.heap[w.heap.size]? = some (.cells #[.int .i64 t, .int .i64 f, .slice A d.length c] 37 (0, 0)) := by rw [← hW]; exact blk_alloc (heap_alloc_new w _) _
  have h2 : W.heap[w.heap.size + 1]? = some (.cells #[.int .i64 0, .int .i64 0, .slice none 0 0] 37 (0, 0)) := by rw [← hW]; exact heap_alloc2_new w _ _
  have hb : Below w.heap.size w W := by rw [← hW]; exact (below_alloc1 w _).alloc (by simp) _
  have hz : W.heap.size = w.heap.size + 2 := by rw [← hW]; simp
  have HR := Lib.hid (h.below hb)
  have H1 := Lib.hid h1
  have H2 := Lib.hid h2
  have HB := Lib.hid hb
  obtain ⟨p0, p1, p2⟩ := blk3 h1
  clear h h1 h2 hb p0 p1
  go_enter Try.func37, Try.ntmps37
  go_wp2_with fail
  clear hW
  refine (clone_byte W ok _ d HR.out hd).mono ?_
  rintro e w1 ⟨v1, rfl, hr1, hb1⟩
  obtain ⟨A1, c1, rfl⟩ := rd_slice hr1
  have X1 := Lib.hid (blk_below H1.out hb1 (by omega))
  have Y1 := Lib.hid (blk_below H2.out hb1 (by omega))
  have B1 := Lib.hid (HB.out.trans (hb1.mono (by omega)))
  have x2 := blk_at X1.out 2 _ rfl
  have g2 := blk_free X1.out 2
  have X2 := Lib.hid (blk_set X1.out 2 (.slice A1 d.length c1))
  have Y2 := Lib.hid (blk_other (k := w.heap.size) Y1.out 2 (.slice A1 d.length c1) (by omega))
  have B2 := Lib.hid (B1.out.setCell (p := ⟨w.heap.size, 2, none⟩) (Nat.le_refl _) (.slice A1 d.length c1))
  have R2 := Lib.hid (hr1.turn (w' := w1.setCell ⟨w.heap.size, 2, none⟩ (.slice A1 d.length c1)) (p := fun k => k = w.heap.size) (ok' := fun k => w.heap.size + 2 ≤ k) ((Turn.refl _ _).set (fun _ => rfl)) (fun k _ hk => ⟨by omega, by omega⟩))
  clear hr1 hb1
  go_wp2_with (first
    | (refine wpL_load rfl 37 (.tmp 1) rfl ⟨w.heap.size, 0, none⟩ rfl _ _ (At.blk X2.out) Try.underlying37 rfl rfl ?_)
    | (refine wpL_store rfl 37 (.tmp 2) (.tmp 7) rfl (w.heap.size + 1) rfl _ _ 37 rfl Y2.out rfl rfl (by intro v hv; simp at hv; rcases hv with rfl | rfl | rfl <;> rfl) ?_; intro w6 hw6 hg6))
  refine bodyPost_ret (results_cell_row rfl _ _ (w.heap.size + 1) 37 _ (0, 0) _ rfl hw6 Try.underlying37 rfl rfl) rfl ?_
  refine ⟨A1, c1, rfl, ?_, B2.out.grown hg6 B2.out.size (fun k e => by injection e; omega)⟩
  exact R2.out.turn (Turn.of_grown (p := fun k => k = w.heap.size + 1) hg6 (fun k e => by injection e with e; exact e.symm)) (fun k _ hk => ⟨by omega, hk⟩)
end Go.Proofs.Ytapoechkbbklfaa
