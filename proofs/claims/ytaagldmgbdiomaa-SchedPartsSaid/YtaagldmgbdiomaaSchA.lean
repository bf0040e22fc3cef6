import Derived.Test.YtaagldmgbdiomaaBox
namespace Go.Proofs.Ytaagldmgbdiomaa
open Go.RowKit
abbrev MUT : Sh := .cons (.int .i64) (.cons (.int .u64) (.cons (.int .u64) (.cons .str (.cons .f64 (.cons .bool .nil)))))
abbrev QRY : Sh := .cons (.int .u64) (.cons (.int .i64) (.cons .str (.cons (.int .i64) (.cons .bool (.cons (.int .i64) .nil)))))
abbrev STEP : Sh := .cons (.int .i64) (.cons (.int .i64) (.cons (.int .i64) (.cons (.int .i64) (.cons MUT (.cons QRY (.cons (.sl .bool) (.cons (.sl .byte) .nil)))))))
theorem rd_sl_one {w : World} {ok : Nat → Prop} {e : Sh} {l : List e.Ty} {cs : List Value} (h : Rd w ok (.sl e) l cs) : ∃ v, cs = [v] := by
  obtain ⟨A, n, c, h, _⟩ := h
  exact ⟨_, h⟩
/-- A step, in cells. -/
def stepC (kind node other n mk mi ml : Int) (mt : ByteArray) (mf : Nat) (mb : Bool) (ql qd : Int) (qt : ByteArray) (qs : Int) (qw : Bool) (qm : Int) (kv dv : Value) : List Value :=
  [.int .i64 kind, .int .i64 node, .int .i64 other, .int .i64 n, .int .i64 mk, .int .u64 mi, .int .u64 ml, .string mt, .float .f64 mf, .bool mb, .int .u64 ql, .int .i64 qd, .string qt, .int .i64 qs, .bool qw, .int .i64 qm, kv, dv]
def I64 (n : Int) : Prop := (Lit.int .i64 n).wf = true
def U64 (n : Int) : Prop := (Lit.int .u64 n).wf = true
def StepWf (kind node other n mk mi ml : Int) (mt : ByteArray) (mf : Nat) (ql qd : Int) (qt : ByteArray) (qs qm : Int) : Prop :=
  I64 kind ∧ I64 node ∧ I64 other ∧ I64 n ∧ I64 mk ∧ U64 mi ∧ U64 ml ∧ mt.size ≤ 9223372036854775807 ∧ mf < 18446744073709551616 ∧ U64 ql ∧ I64 qd ∧ qt.size ≤ 9223372036854775807 ∧ I64 qs ∧ I64 qm
theorem rd_step {w : World} {ok : Nat → Prop} {x : STEP.Ty} {cs : List Value} (h : Rd w ok STEP x cs) :
    ∃ kind node other n mk mi ml mt mf mb ql qd qt qs qw qm kv dv, cs = stepC kind node other n mk mi ml mt mf mb ql qd qt qs qw qm kv dv ∧
      x = (kind, node, other, n, (mk, mi, ml, mt, mf, mb, ()), (ql, qd, qt, qs, qw, qm, ()), x.2.2.2.2.2.2.1, x.2.2.2.2.2.2.2.1, ()) ∧
      StepWf kind node other n mk mi ml mt mf ql qd qt qs qm ∧ Rd w ok (.sl .bool) x.2.2.2.2.2.2.1 [kv] ∧ Rd w ok (.sl .byte) x.2.2.2.2.2.2.2.1 [dv] := by
  obtain ⟨kind, node, other, n, ⟨mk, mi, ml, mt, mf, mb, ⟨⟩⟩, ⟨ql, qd, qt, qs, qw, qm, ⟨⟩⟩, kl, dl, ⟨⟩⟩ := x
  obtain ⟨_, _, rfl, ⟨rfl, w1⟩, _, _, rfl, ⟨rfl, w2⟩, _, _, rfl, ⟨rfl, w3⟩, _, _, rfl, ⟨rfl, w4⟩, _, _, rfl, hm, _, _, rfl, hq, c7, _, rfl, h7, c8, _, rfl, h8, rfl⟩ := h
  obtain ⟨_, _, rfl, ⟨rfl, m1⟩, _, _, rfl, ⟨rfl, m2⟩, _, _, rfl, ⟨rfl, m3⟩, _, _, rfl, ⟨rfl, m4⟩, _, _, rfl, ⟨rfl, m5⟩, _, _, rfl, rfl, rfl⟩ := hm
  obtain ⟨_, _, rfl, ⟨rfl, q1⟩, _, _, rfl, ⟨rfl, q2⟩, _, _, rfl, ⟨rfl, q3⟩, _, _, rfl, ⟨rfl, q4⟩, _, _, rfl, rfl, _, _, rfl, ⟨rfl, q6⟩, rfl⟩ := hq
  obtain ⟨kv, rfl⟩ := rd_sl_one h7
  obtain ⟨dv, rfl⟩ := rd_sl_one h8
  exact ⟨kind, node, other, n, mk, mi, ml, mt, mf, mb, ql, qd, qt, qs, qw, qm, kv, dv, rfl, rfl, ⟨w1, w2, w3, w4, m1, m2, m3, m4, m5, q1, q2, q3, q4, q6⟩, h7, h8⟩
theorem rd_step_mk {w : World} {ok : Nat → Prop} {kind node other n mk mi ml : Int} {mt : ByteArray} {mf : Nat} {mb : Bool} {ql qd : Int} {qt : ByteArray} {qs : Int} {qw : Bool} {qm : Int} {kl : List Bool} {dl : List UInt8} {kv dv : Value}
    (h : StepWf kind node other n mk mi ml mt mf ql qd qt qs qm) (h7 : Rd w ok (.sl .bool) kl [kv]) (h8 : Rd w ok (.sl .byte) dl [dv]) :
    Rd w ok STEP (kind, node, other, n, (mk, mi, ml, mt, mf, mb, ()), (ql, qd, qt, qs, qw, qm, ()), kl, dl, ()) (stepC kind node other n mk mi ml mt mf mb ql qd qt qs qw qm kv dv) := by
  obtain ⟨w1, w2, w3, w4, m1, m2, m3, m4, m5, q1, q2, q3, q4, q6⟩ := h
  exact ⟨[_], _, rfl, ⟨rfl, w1⟩, [_], _, rfl, ⟨rfl, w2⟩, [_], _, rfl, ⟨rfl, w3⟩, [_], _, rfl, ⟨rfl, w4⟩, [_, _, _, _, _, _], _, rfl, ⟨[_], _, rfl, ⟨rfl, m1⟩, [_], _, rfl, ⟨rfl, m2⟩, [_], _, rfl, ⟨rfl, m3⟩, [_], _, rfl, ⟨rfl, m4⟩, [_], _, rfl, ⟨rfl, m5⟩, [_], [], rfl, rfl, rfl⟩,
    [_, _, _, _, _, _], _, rfl, ⟨[_], _, rfl, ⟨rfl, q1⟩, [_], _, rfl, ⟨rfl, q2⟩, [_], _, rfl, ⟨rfl, q3⟩, [_], _, rfl, ⟨rfl, q4⟩, [_], _, rfl, rfl, [_], [], rfl, ⟨rfl, q6⟩, rfl⟩, [_], _, rfl, h7, [_], [], rfl, h8, rfl⟩
theorem blk18 {w : World} {b : Nat} {v0 v1 v2 v3 v4 v5 v6 v7 v8 v9 v10 v11 v12 v13 v14 v15 v16 v17 : Value} {t : TypeId} {f : Nat × Nat} (h : w.heap[b]? = some (.cells #[v0, v1, v2, v3, v4, v5, v6, v7, v8, v9, v10, v11, v12, v13, v14, v15, v16, v17] t f)) : w.cell? ⟨b, 0, none⟩ = some v0 ∧ w.cell? ⟨b, 1, none⟩ = some v1 ∧ w.cell? ⟨b, 2, none⟩ = some v2 ∧ w.cell? ⟨b, 3, none⟩ = some v3 ∧ w.cell? ⟨b, 4, none⟩ = some v4 ∧ w.cell? ⟨b, 5, none⟩ = some v5 ∧ w.cell? ⟨b, 6, none⟩ = some v6 ∧ w.cell? ⟨b, 7, none⟩ = some v7 ∧ w.cell? ⟨b, 8, none⟩ = some v8 ∧ w.cell? ⟨b, 9, none⟩ = some v9 ∧ w.cell? ⟨b, 10, none⟩ = some v10 ∧ w.cell? ⟨b, 11, none⟩ = some v11 ∧ w.cell? ⟨b, 12, none⟩ = some v12 ∧ w.cell? ⟨b, 13, none⟩ = some v13 ∧ w.cell? ⟨b, 14, none⟩ = some v14 ∧ w.cell? ⟨b, 15, none⟩ = some v15 ∧ w.cell? ⟨b, 16, none⟩ = some v16 ∧ w.cell? ⟨b, 17, none⟩ = some v17 := by
  refine ⟨?_, ?_, ?_, ?_, ?_, ?_, ?_, ?_, ?_, ?_, ?_, ?_, ?_, ?_, ?_, ?_, ?_, ?_⟩ <;> simp [World.cell?, h]
set_option maxHeartbeats 4000000 in
set_option maxRecDepth 20000 in
theorem own_any (w : World) (ok : Nat → Prop) (x : STEP.Ty) (cs : List Value) (h : Rd w ok STEP x cs) (hk : x.2.2.2.2.2.2.1.length ≤ 100000) (hd : x.2.2.2.2.2.2.2.1.length ≤ 100000) :
    Calls Try.prog 62 #[.agg cs.toArray] w fun e w' => ∃ cs', e = .returned (.agg cs'.toArray) ∧ Rd w' (fun k => w.heap.size ≤ k) STEP x cs' ∧ Below w.heap.size w w' := by
  obtain ⟨kind, node, other, n, mk, mi, ml, mt, mf, mb, ql, qd, qt, qs, qw, qm, kv, dv, rfl, hx, hwf, h7, h8⟩ := rd_step h
  generalize x.2.2.2.2.2.2.1 = kl at *
  generalize x.2.2.2.2.2.2.2.1 = dl at *
  subst hx
  unfold stepC
  clear h
  have hp := Lib.hid hwf
  clear hwf
  obtain ⟨W0, hW0⟩ : ∃ W0, (w.alloc (.cells #[Value.int IntKind.i64 kind, Value.int IntKind.i64 node, Value.int IntKind.i64 other, Value.int IntKind.i64 n, Value.int IntKind.i64 mk, Value.int IntKind.u64 mi, Value.int IntKind.u64 ml, Value.string mt, Value.float FloatKind.f64 mf, Value.bool mb, Value.int IntKind.u64 ql, Value.int IntKind.i64 qd, Value.string qt, Value.int IntKind.i64 qs, Value.bool qw, Value.int IntKind.i64 qm, kv, dv] 45)).alloc (.cells #[Value.int IntKind.i64 0, Value.int IntKind.i64 0, Value.int IntKind.i64 0, Value.int IntKind.i64 0, Value.int IntKind.i64 0, Value.int IntKind.u64 0, Value.int IntKind.u64 0, Value.string { data := #[] }, Value.float FloatKind.f64 0, Value.bool false, Value.int IntKind.u64 0, Value.int IntKind.i64 0, Value.string { data := #[] }, Value.int IntKind.i64 0, Value.bool false, Value.int IntKind.i64 0, Value.slice none 0 0, Value.slice none 0 0] 45) = W0 := ⟨_, rfl⟩
  have hb0 : Below w.heap.size w W0 := by subst hW0; exact ((Below.refl _ _).alloc (Nat.le_refl _) _).alloc (by simp) _
  have hs0 : W0.heap.size = w.heap.size + 2 := by subst hW0; simp
  have hc0 : W0.heap[w.heap.size]? = some (.cells #[Value.int IntKind.i64 kind, Value.int IntKind.i64 node, Value.int IntKind.i64 other, Value.int IntKind.i64 n, Value.int IntKind.i64 mk, Value.int IntKind.u64 mi, Value.int IntKind.u64 ml, Value.string mt, Value.float FloatKind.f64 mf, Value.bool mb, Value.int IntKind.u64 ql, Value.int IntKind.i64 qd, Value.string qt, Value.int IntKind.i64 qs, Value.bool qw, Value.int IntKind.i64 qm, kv, dv] 45 (0, 0)) := by subst hW0; exact (Below.heap_alloc _ _ _ (by simp)).trans (heap_alloc_new w _)
  have hc1 : W0.heap[w.heap.size + 1]? = some (.cells #[Value.int IntKind.i64 0, Value.int IntKind.i64 0, Value.int IntKind.i64 0, Value.int IntKind.i64 0, Value.int IntKind.i64 0, Value.int IntKind.u64 0, Value.int IntKind.u64 0, Value.string { data := #[] }, Value.float FloatKind.f64 0, Value.bool false, Value.int IntKind.u64 0, Value.int IntKind.i64 0, Value.string { data := #[] }, Value.int IntKind.i64 0, Value.bool false, Value.int IntKind.i64 0, Value.slice none 0 0, Value.slice none 0 0] 45 (0, 0)) := by subst hW0; have := heap_alloc_new (w.alloc (.cells #[Value.int IntKind.i64 kind, Value.int IntKind.i64 node, Value.int IntKind.i64 other, Value.int IntKind.i64 n, Value.int IntKind.i64 mk, Value.int IntKind.u64 mi, Value.int IntKind.u64 ml, Value.string mt, Value.float FloatKind.f64 mf, Value.bool mb, Value.int IntKind.u64 ql, Value.int IntKind.i64 qd, Value.string qt, Value.int IntKind.i64 qs, Value.bool qw, Value.int IntKind.i64 qm, kv, dv] 45)) (.cells #[Value.int IntKind.i64 0, Value.int IntKind.i64 0, Value.int IntKind.i64 0, Value.int IntKind.i64 0, Value.int IntKind.i64 0, Value.int IntKind.u64 0, Value.int IntKind.u64 0, Value.string { data := #[] }, Value.float FloatKind.f64 0, Value.bool false, Value.int IntKind.u64 0, Value.int IntKind.i64 0, Value.string { data := #[] }, Value.int IntKind.i64 0, Value.bool false, Value.int IntKind.i64 0, Value.slice none 0 0, Value.slice none 0 0] 45); simpa using this
  have k7 := (h7.below hb0).drew
  have k8 := (h8.below hb0).drew
  have HW := Lib.hid hW0
  clear h7 h8 hW0
  have HB := Lib.hid hb0
  have HS := Lib.hid hs0
  have H0 := Lib.hid hc0
  have H1 := Lib.hid hc1
  have K7 := Lib.hid k7
  have K8 := Lib.hid k8
  clear hb0 hs0 hc0 hc1 k7 k8
  go_enter Try.func62, Try.ntmps62
  go_wp2_with fail
  rw [HW.out]
  obtain ⟨-, -, -, -, -, -, -, -, -, -, -, -, -, -, -, -, a16, a17⟩ := blk18 H0.out
  go_region_with (first
    | (go_at_call 79; refine (clone_bool _ ok kv kl K7.out hk).mono ?_; rintro e w1 ⟨kv1, rfl, R7, hb1⟩; obtain ⟨A7, c7, rfl⟩ := rd_slice R7; have g0 := (hb1.block w.heap.size (by rw [show W0.drew.heap.size = _ from HS.out]; omega)).trans H0.out; have g1 := (hb1.block (w.heap.size + 1) (by rw [show W0.drew.heap.size = _ from HS.out]; omega)).trans H1.out; obtain ⟨-, -, -, -, -, -, -, -, -, -, -, -, -, -, -, -, -, d17⟩ := blk18 g0; have HB1 := Lib.hid hb1; have G0 := Lib.hid g0; have G1 := Lib.hid g1; have K7' := Lib.hid R7; have K8' := Lib.hid (K8.out.below hb1); clear hb1 g0 g1 R7)
    | (go_at_call 80; refine (clone_byte _ ok dv dl K8'.out hd).mono ?_; rintro e w2 ⟨dv1, rfl, R8, hb2⟩; obtain ⟨A8, c8, rfl⟩ := rd_slice R8; have g0 := (hb2.block w.heap.size (Nat.lt_of_lt_of_le (by rw [show W0.drew.heap.size = _ from HS.out]; omega) HB1.out.size)).trans G0.out; have g1 := (hb2.block (w.heap.size + 1) (Nat.lt_of_lt_of_le (by rw [show W0.drew.heap.size = _ from HS.out]; omega) HB1.out.size)).trans G1.out; have R7 := K7'.out.below hb2; have f16 := blk_free g0 16; have f17 := blk_free g0 17; obtain ⟨b0, b1, b2, b3, b4, b5, b6, b7, b8, b9, b10, b11, b12, b13, b14, b15, b16, b17⟩ := blk18 g0; have G0' := Lib.hid g0; have G1' := Lib.hid g1; have HB2 := Lib.hid hb2; clear g0 g1 hb2))
  all_goals
    have B1 := HB1.out.size
    rw [show W0.drew.heap.size = _ from HS.out] at B1
    have q0 := blk_set (blk_set G0'.out 16 (Value.slice A7 kl.length c7)) 17 (Value.slice A8 dl.length c8)
    have q1 := blk_other (k := w.heap.size) (blk_other (k := w.heap.size) G1'.out 16 (Value.slice A7 kl.length c7) (by omega)) 17 (Value.slice A8 dl.length c8) (by omega)
    have qb : Below w.heap.size w ((w2.setCell ⟨w.heap.size, 16, none⟩ (Value.slice A7 kl.length c7)).setCell ⟨w.heap.size, 17, none⟩ (Value.slice A8 dl.length c8)) :=
      ((((HB.out.drew).trans (HB1.out.mono (by rw [show W0.drew.heap.size = _ from HS.out]; omega))).trans (HB2.out.mono (by omega))).setCell (Nat.le_refl _) _).setCell (Nat.le_refl _) _
    have p7 : Rd ((w2.setCell ⟨w.heap.size, 16, none⟩ (Value.slice A7 kl.length c7)).setCell ⟨w.heap.size, 17, none⟩ (Value.slice A8 dl.length c8)) (fun k => w.heap.size + 2 ≤ k) (.sl .bool) kl [Value.slice A7 kl.length c7] :=
      R7.of (fun a v hk hc => by rw [World.cell?_setCell_far _ _ _ _ (by have h := show W0.drew.heap.size ≤ a.block from hk; rw [show W0.drew.heap.size = _ from HS.out] at h; show w.heap.size ≠ a.block; omega), World.cell?_setCell_far _ _ _ _ (by have h := show W0.drew.heap.size ≤ a.block from hk; rw [show W0.drew.heap.size = _ from HS.out] at h; show w.heap.size ≠ a.block; omega)]; exact hc) (fun k hk _ => by have h := show W0.drew.heap.size ≤ k from hk; rw [show W0.drew.heap.size = _ from HS.out] at h; exact h)
    have p8 : Rd ((w2.setCell ⟨w.heap.size, 16, none⟩ (Value.slice A7 kl.length c7)).setCell ⟨w.heap.size, 17, none⟩ (Value.slice A8 dl.length c8)) (fun k => w.heap.size + 2 ≤ k) (.sl .byte) dl [Value.slice A8 dl.length c8] :=
      R8.of (fun a v hk hc => by rw [World.cell?_setCell_far _ _ _ _ (by have h := show w1.heap.size ≤ a.block from hk; show w.heap.size ≠ a.block; omega), World.cell?_setCell_far _ _ _ _ (by have h := show w1.heap.size ≤ a.block from hk; show w.heap.size ≠ a.block; omega)]; exact hc) (fun k hk _ => by have h := show w1.heap.size ≤ k from hk; show w.heap.size + 2 ≤ k; omega)
    have Q0 := Lib.hid q0
    have Q1 := Lib.hid q1
    have QB := Lib.hid qb
    have P7 := Lib.hid p7
    have P8 := Lib.hid p8
    generalize ((w2.setCell ⟨w.heap.size, 16, none⟩ (Value.slice A7 kl.length c7)).setCell ⟨w.heap.size, 17, none⟩ (Value.slice A8 dl.length c8)) = W3 at *
    clear q0 q1 qb p7 p8 R7 R8 K7 K8 K7' K8' HB1 HB2 G0 G1 G0' G1' H0 H1 HW HB HS f16 f17
    go_wp2_with (first
      | (refine wpL_load rfl 45 (.tmp 1) rfl ⟨w.heap.size, 0, none⟩ rfl _ _ (At.blk Q0.out) Try.underlying45 rfl rfl ?_)
      | (refine wpL_store rfl 45 (.tmp 2) (.tmp 11) rfl (w.heap.size + 1) rfl _ _ 45 rfl Q1.out rfl rfl (by intro v hv; simp at hv; rcases hv with rfl | rfl | rfl | rfl | rfl | rfl | rfl | rfl | rfl | rfl | rfl | rfl | rfl | rfl | rfl | rfl | rfl | rfl <;> rfl) ?_; intro w4 hw4 hg4))
    refine bodyPost_ret (results_cell_row rfl _ _ (w.heap.size + 1) 45 _ (0, 0) _ rfl hw4 Try.underlying45 rfl rfl) rfl ?_
    have hne : ∀ k, w.heap.size + 2 ≤ k → some k ≠ some (w.heap.size + 1) := fun k hk e => by injection e; omega
    refine ⟨stepC kind node other n mk mi ml mt mf mb ql qd qt qs qw qm (Value.slice A7 kl.length c7) (Value.slice A8 dl.length c8), rfl, rd_step_mk hp.out (P7.out.of (fun a v hk hc => cell_grown hg4 hc (hne _ hk)) (fun k hk _ => by show w.heap.size ≤ k; have h := show w.heap.size + 2 ≤ k from hk; omega)) (P8.out.of (fun a v hk hc => cell_grown hg4 hc (hne _ hk)) (fun k hk _ => by show w.heap.size ≤ k; have h := show w.heap.size + 2 ≤ k from hk; omega)),
      QB.out.grown hg4 QB.out.size (fun k e => by injection e; omega)⟩
end Go.Proofs.Ytaagldmgbdiomaa
