import Derived.Test.YtapoechkbbklfaaNetD
namespace Go.Proofs.Ytapoechkbbklfaa
open Go.RowKit
set_option linter.unusedVariables false
set_option linter.unusedSimpArgs false
set_option maxRecDepth 20000 in
theorem result_pair {P : Program} {fn : Func} {p u : Tmp} {ty : TypeId} (h : fn.results = #[.cell p ty, .tmp u]) (tmps : Array Value) (w : World) (g : Nat) (t : TypeId) (cs : Array Value) (fr : Nat × Nat) (d : TypeDesc)
    (hp : tmps.getD p undef = .pointer (some ⟨g, 0, none⟩)) (hg : w.heap[g]? = some (.cells cs t fr))
    (hu : P.underlying ty = some d) (hd : (match d with | .struct _ | .array _ _ => true | _ => false) = true) (hi : (P.info? ty).map (·.size) = some cs.size) :
    (results fn tmps).run P w = .ok (.tuple #[.agg cs, tmps.getD u undef]) w := by
  rw [results_cell_tmp h, hp]
  simp [asAddr, run_loadVar_row w g t ty cs fr d hg hu hd hi, Result.andThen]
section
variable {P : Program} {o : Oper} {a : Act}
set_option maxRecDepth 20000 in
theorem run_slice_hi (w : World) {t e : TypeId} {A : Option Addr} {n c i size : Nat} {k : IntKind} (hu : P.underlying t = some (.slice e)) (hs : (P.info? e).map (·.size) = some size) (h : i ≤ c) :
    (Instr.slice t (.slice A n c) none (some (.int k i)) none).run P w = .ok (.slice A i c) w := by
  obtain ⟨ie, hi, hzz⟩ := Option.map_eq_some_iff.1 hs
  subst hzz
  simp [Instr.slice, run_underlying hu, Instr.sliceBounds, Instr.sliceBound, asIntOf, sizeOf, typeInfo, hi, h]
  intro _
  cases A with
  | none => rfl
  | some x =>
    obtain ⟨b, o, p⟩ := x
    cases p <;> simp [Addr.add]
set_option maxRecDepth 20000 in
theorem yields_hi {ops : Array Oper} {S : World → Prop} (hw : Region.wanted o (yielded ops a.tmps) = true) {t e : TypeId} {A : Option Addr} {n c size : Nat} {k : IntKind} (i : Nat) (x y : Operand) (ho : o.op = .slice t x none (some y) none)
    (hx : a.eval x = .slice A n c) (hy : a.eval y = .int k i) (hu : P.underlying t = some (.slice e)) (hs : (P.info? e).map (·.size) = some size) (h : i ≤ c) : YieldsIf P ops S o (.slice A i c) a :=
  .inl ⟨hw, fun w _ => by
    unfold execOp
    have hr := run_slice_hi (P := P) w (A := A) (n := n) (k := k) hu hs h
    simp only [ho, hx, hy, Option.map_some, Option.map_none, Instr.sliceAt, run_underlying hu, hr, Sem.run_bind, Sem.run_pure, Result.andThen_ok]⟩
end
set_option maxRecDepth 20000 in
theorem OwnG.weak {w : World} {base base' : Nat} {ok ok' : Nat → Prop} {e : TypeId} {s : Sh} {v : Value} {l : List s.Ty} (h : OwnG w base ok e s v l) (hB : base' ≤ base) (hok : ∀ k, k < w.heap.size → ok k → ok' k) : OwnG w base' ok' e s v l := by
  obtain ⟨xs, ⟨h1, h2⟩, h3⟩ := h
  refine ⟨xs, ⟨h1, ?_⟩, h3.of (fun _ _ _ hc => hc) (fun k hk hlt => ⟨hok k hlt hk.1, hk.2⟩)⟩
  rcases h2 with h2 | ⟨g, cap, cur, e, hg, hr⟩
  · exact .inl h2
  · exact .inr ⟨g, cap, cur, e, Nat.le_trans hB hg, hr⟩
set_option maxRecDepth 20000 in
/-- The net behind a store of a new row, and of the result. -/
theorem net_end {w y z : World} {b1 B B' : Nat} {room : Int} {sv v1 : Value} {l l' : List PKT.Ty} {ok : Nat → Prop} (hN : NetR w b1 B room sv l) (hb : Below w.heap.size w y) (ho : OwnG y B' ok 37 PKT v1 l') (hB' : w.heap.size < B') (hok : ∀ k, ok k → B ≤ k ∧ k < w.heap.size)
    (hz : Turn (fun k => k = w.heap.size) (y.setCell ⟨b1, 1, none⟩ v1) z) (hl : l'.length ≤ 10000) : NetTo w b1 B room sv l' z := by
  have hlt := blk_lt hN.1
  have h1 := blk_set (blk_below hN.1 hb hlt) 1 v1
  have hb1 := hN.2.2.1
  have hBs := hN.2.2.2.1
  have hT : Turn (fun k => k = b1 ∨ k = w.heap.size) y z := Turn.trans ((Turn.refl _ y).set (j := 1) (v := v1) (b := b1) (fun _ => .inl rfl)) hz (fun k _ e => .inr e)
  refine ⟨v1, ⟨hz.blk h1 (by omega), ?_, hb1, ?_, hl⟩, ?_, fun k e => .inr ?_⟩
  · refine (OwnG.turn ho hT (fun k e => ?_) (fun k _ hk => ?_)).weak (by omega) (fun k _ hk => (hok k hk).1)
    · obtain ⟨xs, h2, _⟩ := ho
      have := own_base h2 k e
      omega
    · have := hok k hk
      omega
  · have h2 := hT.size
    have h3 := hb.size
    omega
  · exact (Turn.of_below (p := pN b1 sv) hb).trans hT (fun k hk e => by rcases e with e | e; exact .inl e; omega)
  · obtain ⟨xs, h2, _⟩ := ho
    have := own_base h2 k e
    omega
set_option maxRecDepth 20000 in
/-- The cells of the rest of a row, where 's[lo:]' begins. -/
theorem at_from {w : World} {ok : Nat → Prop} {s : Sh} {l : List s.Ty} {xs : List Value} {ad : Addr} {cap lo : Nat} (h : At w ad 0 xs) (hx : RdL w ok s l xs) (hc : l.length ≤ cap) :
    ∀ ad', (if cap = lo then some ad else Option.map (fun x : Addr => x.add (lo * s.size)) (some ad)) = some ad' → At w ad' 0 (xs.drop (lo * s.size)) := by
  intro ad' e
  by_cases hq : cap = lo
  · rw [List.drop_eq_nil_of_le (by rw [hx.len]; exact Nat.mul_le_mul_right _ (by omega))]
    intro j v hv
    simp at hv
  · rw [if_neg hq] at e
    injection e with e
    subst e
    exact h.sub _
/-- What is taken, and what is left. -/
def takeL (l : List PKT.Ty) (i : Int) : Option (PKT.Ty × List PKT.Ty) := match l[(placeZ l.length i).toNat]? with
  | none => none
  | some p => some (p, l.eraseIdx (placeZ l.length i).toNat)
set_option maxRecDepth 20000 in
theorem takeL_nil (i : Int) : takeL [] i = none := rfl
set_option maxRecDepth 20000 in
theorem place_lt {n : Nat} (i : Int) (h : n ≠ 0) : ∃ k : Nat, k < n ∧ placeZ n i = k := by
  have h1 := Int.emod_nonneg i (show (n : Int) ≠ 0 by omega)
  have h2 := Int.emod_lt_of_pos i (show (0 : Int) < n by omega)
  refine ⟨(i % (n : Int)).toNat, by omega, ?_⟩
  unfold placeZ
  rw [if_neg h]
  omega
set_option maxRecDepth 20000 in
theorem takeL_at {l : List PKT.Ty} {i : Int} {k : Nat} (hk : placeZ l.length i = k) (hlt : k < l.length) : takeL l i = some (l[k], l.take k ++ l.drop (k + 1)) := by
  unfold takeL
  rw [hk]
  simp [hlt, List.eraseIdx_eq_take_drop_succ]
def TakePost (w : World) (b1 B : Nat) (room : Int) (sv : Value) (l : List PKT.Ty) : Option (PKT.Ty × List PKT.Ty) → Ending → World → Prop
  | none, e, w' => e = .returned (.tuple #[.agg #[Value.int .i64 0, Value.int .i64 0, Value.slice none 0 0], .bool false]) ∧ NetTo w b1 B room sv l w'
  | some (p, l'), e, w' => ∃ cs : List Value, e = .returned (.tuple #[.agg cs.toArray, .bool true]) ∧ Rd w' (fun k => B ≤ k) PKT p cs ∧ NetTo w b1 B room sv l' w'
set_option maxHeartbeats 4000000 in
set_option maxRecDepth 20000 in
theorem take_any (w : World) (b1 B : Nat) (room : Int) (sv : Value) (l : List PKT.Ty) (i : Int) (hN : NetR w b1 B room sv l) (hi : -9223372036854775808 ≤ i ∧ i < 9223372036854775808) :
    Calls Try.prog 14 #[.pointer (some ⟨b1, 0, none⟩), .int .i64 i] w (TakePost w b1 B room sv l (takeL l i)) := by
  have hb := below_alloc1 w (.cells #[Value.int .i64 0, Value.int .i64 0, Value.slice none 0 0] 37)
  have HB := Lib.hid hb
  have HP := Lib.hid (place_any (w.alloc (.cells #[Value.int .i64 0, Value.int .i64 0, Value.slice none 0 0] 37)) b1 B room sv l i (hN.below hb) hi)
  have HN := Lib.hid hN
  have HX := Lib.hid (heap_alloc_new w (.cells #[Value.int .i64 0, Value.int .i64 0, Value.slice none 0 0] 37))
  by_cases h0 : l.length = 0
  · obtain rfl : l = [] := List.eq_nil_of_length_eq_zero h0
    have HP := Lib.hid (show Calls Try.prog 38 #[.pointer (some ⟨b1, 0, none⟩), .int .i64 i] (w.alloc (.cells #[Value.int .i64 0, Value.int .i64 0, Value.slice none 0 0] 37)) fun e w' => e = .returned (.int .i64 (-1)) ∧ w.alloc (.cells #[Value.int .i64 0, Value.int .i64 0, Value.slice none 0 0] 37) = w' from HP.out)
    rw [takeL_nil]
    clear hN h0
    go_enter Try.func14, Try.ntmps14
    go_wp2_with (first
      | (go_at_call 38; refine HP.out.mono ?_; rintro e w1 ⟨rfl, rfl⟩)
      | (refine wpL_store rfl 37 (.tmp 4) (.tmp 13) rfl w.heap.size rfl _ _ 37 rfl HX.out rfl rfl (by intro v hv; simp at hv; rcases hv with rfl | rfl | rfl <;> rfl) ?_; intro w6 hw6 hg6))
    refine bodyPost_ret (result_pair rfl _ _ w.heap.size 37 _ (0, 0) _ rfl hw6 Try.underlying37 rfl rfl) rfl ?_
    exact ⟨rfl, NetTo.below (HB.out.grown hg6 (by simp) (fun k e => by injection e with e; omega)) (NetTo.refl (HN.out.below (HB.out.grown hg6 (by simp) (fun k e => by injection e with e; omega))))⟩
  · obtain ⟨k, hk, hpk⟩ := place_lt i h0
    rw [takeL_at hpk hk]
    rw [hpk] at HP
    obtain ⟨A2, cap2, rfl⟩ := hN.form
    obtain ⟨x0, hx0⟩ : ∃ x0, w.alloc (.cells #[Value.int .i64 0, Value.int .i64 0, Value.slice none 0 0] 37) = x0 := ⟨_, rfl⟩
    rw [hx0] at HB HP HX
    have hz0 : x0.heap.size = w.heap.size + 1 := by rw [← hx0]; simp
    have HN0 := Lib.hid (hN.below HB.out)
    obtain ⟨A', c', e1, hnc, hcm, hA0, hA, xs, hr, hat⟩ := OwnG.rows hN.2.1
    injection e1 with e1 _ e3
    subst e1 e3
    obtain ⟨ad, rfl⟩ : ∃ ad, A2 = some ad := by
      cases A2 with
      | none => have := hA0 rfl; omega
      | some ad => exact ⟨ad, rfl⟩
    obtain ⟨cs, hcs, hrd⟩ := hr.get (List.getElem?_eq_getElem hk)
    have hrd0 := hrd
    obtain ⟨pt, pf, pd, pA, pc, hpe, rfl, okp, hpd⟩ := rd_pkt hrd
    rw [hpe] at hrd0 ⊢
    have HAt := Lib.hid (show At x0 (ad.add (k * 3)) 0 [.int .i64 pt, .int .i64 pf, .slice pA pd.length pc] from fun j v hv => by
      rw [Nat.zero_add, add_add]
      have := (hat ad rfl).below HB.out (k * 3 + j) v (hcs j v hv)
      rwa [Nat.zero_add] at this)
    have HRD := Lib.hid (hrd0.turn (ok' := fun k => B ≤ k ∧ k < w.heap.size) (Turn.of_below (p := fun _ => False) HB.out) (fun k hlt h => ⟨id, h.1, hlt⟩))
    have HR := Lib.hid (And.intro (hr.turn (ok' := fun k => B ≤ k ∧ k < w.heap.size) (Turn.of_below (p := fun _ => False) HB.out) (fun k hlt h => ⟨id, h.1, hlt⟩)) ((hat ad rfl).below HB.out))
    have HK := Lib.hid hk
    have h1 := HN0.out.1
    obtain ⟨q0, q1⟩ := blk2 h1
    have i0 : (0 : Int) ≤ (k : Int) := by omega
    have i1 : (k : Int) < (l.length : Int) := by omega
    have hlm : l.length ≤ 10000 := HN0.out.2.2.2.2
    clear hN hb hi hpk hA0 hA hr hat hcs hrd hrd0 okp hpd h1 q0 h0
    go_enter Try.func14, Try.ntmps14
    go_wp2_with (first
      | (go_at_call 38; refine HP.out.mono ?_; rintro e w1 ⟨rfl, rfl⟩; clear hx0)
      | (refine wpL_load rfl 37 _ rfl _ rfl _ _ HAt.out Try.underlying37 rfl rfl ?_))
    have Hc := Lib.hid (show (x0.alloc (.cells #[Value.int .i64 pt, Value.int .i64 pf, Value.slice pA pd.length pc] 37)).heap[w.heap.size + 1]? = some (.cells #[Value.int .i64 pt, Value.int .i64 pf, Value.slice pA pd.length pc] 37 (0, 0)) by rw [← hz0]; exact heap_alloc_new x0 _)
    have HBw1 := Lib.hid (below_alloc1 x0 (.cells #[Value.int .i64 pt, Value.int .i64 pf, Value.slice pA pd.length pc] 37))
    refine region_inU 18 (fun W : World => W.cell? ⟨b1, 1, none⟩ = some (.slice (some ad) l.length cap2)) (by kernel_rfl) (fun y1 hy1 heq => ?_)
    have HBY := Lib.hid (HBw1.out.trans (hy1.mono HBw1.out.size))
    have HC1 := Lib.hid (blk_below Hc.out hy1 (blk_lt Hc.out))
    have hHeld := cell_below HBY.out q1
    clear hy1 heq q1
    first
      | (refine takeT (i := 0) (v := ?_) rfl (by kernel_rfl) (by kernel_rfl) (by kernel_rfl) (fun _ _ _ h => h) (by kernel_rfl) (Or.inl ⟨by rfl, ?_⟩) (fun _ => hHeld) ?_; rotate_left; (focus (intro W hSw; go_simp; (try rfl); done)); (try simp only [Act.put, List.setIfInBounds_toArray, List.set_cons_zero, List.set_cons_succ]))
      | (fail "UTAKE 0")
    first
      | (refine takeT (i := 1) (v := ?_) rfl (by kernel_rfl) (by kernel_rfl) (by kernel_rfl) (fun _ _ _ h => h) (by kernel_rfl) (Or.inl ⟨by rfl, ?_⟩) (fun _ => hHeld) ?_; rotate_left; (focus (intro W hSw; go_simp; (try rfl); done)); (try simp only [Act.put, List.setIfInBounds_toArray, List.set_cons_zero, List.set_cons_succ]))
      | (fail "UTAKE 1")
    first
      | (refine takeT (i := 2) (v := ?_) rfl (by kernel_rfl) (by kernel_rfl) (by kernel_rfl) (fun _ _ _ h => h) (by kernel_rfl) (Or.inl ⟨by rfl, ?_⟩) (fun _ => hHeld) ?_; rotate_left; (focus (intro W hSw; go_simp; (try rfl); done)); (try simp only [Act.put, List.setIfInBounds_toArray, List.set_cons_zero, List.set_cons_succ]))
      | (fail "UTAKE 2")
    first
      | (refine takeT (i := 3) (v := ?_) rfl (by kernel_rfl) (by kernel_rfl) (by kernel_rfl) (fun _ _ _ h => h) (by kernel_rfl) (Or.inl ⟨by rfl, ?_⟩) (fun _ => hHeld) ?_; rotate_left; (focus (intro W hSw; go_simp; (try rfl); done)); (try simp only [Act.put, List.setIfInBounds_toArray, List.set_cons_zero, List.set_cons_succ]))
      | (fail "UTAKE 3")
    first
      | (refine takeU (i := 4) (v := ?_) rfl (by kernel_rfl) (by kernel_rfl) (by kernel_rfl) (fun _ _ _ h => h) (by kernel_rfl) (by kernel_rfl) (by kernel_rfl) (Or.inl ⟨by rfl, ?_⟩) hHeld ?_; rotate_left; (focus (intro W hSw; (try dsimp only at hSw); go_simp; (try rfl); done)); (try simp only [Act.put, List.setIfInBounds_toArray, List.set_cons_zero, List.set_cons_succ]))
      | (fail "UTAKE 4")
    first
      | (refine takeT (i := 5) (v := ?_) rfl (by kernel_rfl) (by kernel_rfl) (by kernel_rfl) (fun _ _ _ h => h) (by kernel_rfl) (Or.inl ⟨by rfl, ?_⟩) (fun _ => hHeld) ?_; rotate_left; (focus (intro W hSw; go_simp; (try rfl); done)); (try simp only [Act.put, List.setIfInBounds_toArray, List.set_cons_zero, List.set_cons_succ]))
      | (fail "UTAKE 5")
    refine takeT (i := 6) (v := _) rfl (by kernel_rfl) (by kernel_rfl) (by kernel_rfl) (fun _ _ _ h => h) (by kernel_rfl) (yields_hi (by rfl) k (.tmp 25) (.tmp 26) rfl rfl rfl Try.underlying27 (by kernel_rfl : (Try.prog.info? 37).map (·.size) = some 3) (by omega)) (fun _ => hHeld) ?_
    (try simp only [Act.put, List.setIfInBounds_toArray, List.set_cons_zero, List.set_cons_succ])
    first
      | (refine takeT (i := 7) (v := ?_) rfl (by kernel_rfl) (by kernel_rfl) (by kernel_rfl) (fun _ _ _ h => h) (by kernel_rfl) (Or.inl ⟨by rfl, ?_⟩) (fun _ => hHeld) ?_; rotate_left; (focus (intro W hSw; go_simp; (try rfl); done)); (try simp only [Act.put, List.setIfInBounds_toArray, List.set_cons_zero, List.set_cons_succ]))
      | (fail "UTAKE 7")
    first
      | (refine takeT (i := 8) (v := ?_) rfl (by kernel_rfl) (by kernel_rfl) (by kernel_rfl) (fun _ _ _ h => h) (by kernel_rfl) (Or.inl ⟨by rfl, ?_⟩) (fun _ => hHeld) ?_; rotate_left; (focus (intro W hSw; go_simp; (try rfl); done)); (try simp only [Act.put, List.setIfInBounds_toArray, List.set_cons_zero, List.set_cons_succ]))
      | (fail "UTAKE 8")
    first
      | (refine takeT (i := 9) (v := ?_) rfl (by kernel_rfl) (by kernel_rfl) (by kernel_rfl) (fun _ _ _ h => h) (by kernel_rfl) (Or.inl ⟨by rfl, ?_⟩) (fun _ => hHeld) ?_; rotate_left; (focus (intro W hSw; go_simp; (try rfl); done)); (try simp only [Act.put, List.setIfInBounds_toArray, List.set_cons_zero, List.set_cons_succ]))
      | (fail "UTAKE 9")
    first
      | (refine takeU (i := 10) (v := ?_) rfl (by kernel_rfl) (by kernel_rfl) (by kernel_rfl) (fun _ _ _ h => h) (by kernel_rfl) (by kernel_rfl) (by kernel_rfl) (Or.inl ⟨by rfl, ?_⟩) hHeld ?_; rotate_left; (focus (intro W hSw; (try dsimp only at hSw); go_simp; (try rfl); done)); (try simp only [Act.put, List.setIfInBounds_toArray, List.set_cons_zero, List.set_cons_succ]))
      | (fail "UTAKE 10")
    first
      | (refine takeT (i := 11) (v := ?_) rfl (by kernel_rfl) (by kernel_rfl) (by kernel_rfl) (fun _ _ _ h => h) (by kernel_rfl) (Or.inl ⟨by rfl, ?_⟩) (fun _ => hHeld) ?_; rotate_left; (focus (intro W hSw; go_simp; (try rfl); done)); (try simp only [Act.put, List.setIfInBounds_toArray, List.set_cons_zero, List.set_cons_succ]))
      | (fail "UTAKE 11")
    first
      | (refine takeT (i := 12) (v := ?_) rfl (by kernel_rfl) (by kernel_rfl) (by kernel_rfl) (fun _ _ _ h => h) (by kernel_rfl) (Or.inl ⟨by rfl, ?_⟩) (fun _ => hHeld) ?_; rotate_left; (focus (intro W hSw; go_simp; (try rfl); done)); (try simp only [Act.put, List.setIfInBounds_toArray, List.set_cons_zero, List.set_cons_succ]))
      | (fail "UTAKE 12")
    have hk1 : IntKind.i64.wrap ((k : Int) + 1) = ((k + 1 : Nat) : Int) := by rw [IntKind.wrap_i64]; omega
    rw [hk1]
    clear hk1
    obtain ⟨B2, hB2⟩ : ∃ B2, (if cap2 = k + 1 then some ad else Option.map (fun x : Addr => x.add ((k + 1) * 3)) (some ad)) = B2 := ⟨_, rfl⟩
    refine takeT (i := 13) (v := _) rfl (by kernel_rfl) (by kernel_rfl) (by kernel_rfl) (fun _ _ _ h => h) (by kernel_rfl) (yields_fromB (by rfl) (k + 1) (.tmp 31) (.tmp 33) rfl rfl rfl Try.underlying27 (by kernel_rfl : (Try.prog.info? 37).map (·.size) = some 3) (by omega) hB2) (fun _ => hHeld) ?_
    (try simp only [Act.put, List.setIfInBounds_toArray, List.set_cons_zero, List.set_cons_succ])
    have HB2 := Lib.hid hB2
    clear hB2
    refine callU (i := 14) rfl (by kernel_rfl) (by kernel_rfl) (fun K hK => ?_)
    (try clear hHeld)
    go_simp
    obtain ⟨y2, hy2⟩ : ∃ y2, y1.alloc (.cells #[.slice (some ad) k cap2, .slice B2 (l.length - (k + 1)) (cap2 - (k + 1))] 27) = y2 := ⟨_, rfl⟩
    have hb12 : Below y1.heap.size y1 y2 := by rw [← hy2]; exact below_alloc1 y1 _
    have HG2 := Lib.hid (show y2.heap[y1.heap.size]? = some (.cells #[.slice (some ad) k cap2, .slice B2 (l.length - (k + 1)) (cap2 - (k + 1))] 27 (0, 0)) by rw [← hy2]; exact heap_alloc_new y1 _)
    rw [hy2]
    have HBY2 := Lib.hid (HBY.out.trans (hb12.mono HBY.out.size))
    have HF2 := Lib.hid (show (fun W : World => W.cell? ⟨b1, 1, none⟩ = some (.slice (some ad) l.length cap2)) y2 from (blk_at (HN0.out.below HBY2.out).1 1 _ rfl))
    have HC2 := Lib.hid (blk_below HC1.out hb12 (blk_lt HC1.out))
    clear hb12 hy2
    have hHeld := HF2.out
    refine hK.out (fun W : World => W.cell? ⟨b1, 1, none⟩ = some (.slice (some ad) l.length cap2)) _ _ (fun _ => hHeld) (fun _ h => h) ?_
    (try simp only [Act.put, List.setIfInBounds_toArray, List.set_cons_zero, List.set_cons_succ])
    refine callU (i := 15) rfl (by kernel_rfl) (by kernel_rfl) (fun K hK => ?_)
    (try clear hHeld)
    go_simp
    have hrd := HR.out.1.take_drop k (by omega)
    have hrd2 := HR.out.1.take_drop (k + 1) (by omega)
    refine (concat_any y2 (fun k => B ≤ k ∧ k < w.heap.size) y1.heap.size (some ad) B2 k (l.length - (k + 1)) cap2 (cap2 - (k + 1)) (l.take k) (l.drop (k + 1)) (xs.take (k * 3)) (xs.drop ((k + 1) * 3)) HG2.out (by rw [List.length_take]; omega) (fun e => by cases e) (fun ad' e => by cases e; exact (HR.out.2.take _).below HBY2.out) (hrd.1.turn (Turn.of_below (p := fun _ => False) HBY2.out) (fun _ _ h => ⟨id, h⟩))
      (by rw [List.length_drop]) (fun e => by rw [← HB2.out] at e; split at e; cases e; cases e) (fun ad' e => (at_from HR.out.2 HR.out.1 hnc ad' (HB2.out.trans e)).below HBY2.out) (hrd2.2.turn (Turn.of_below (p := fun _ => False) HBY2.out) (fun _ _ h => ⟨id, h⟩)) (by omega)).mono ?_
    rintro e y3 ⟨v3, rfl, ho3, hb23⟩
    have HBY3 := Lib.hid (HBY2.out.trans (hb23.mono HBY2.out.size))
    have HF3 := Lib.hid (show (fun W : World => W.cell? ⟨b1, 1, none⟩ = some (.slice (some ad) l.length cap2)) y3 from (blk_at (HN0.out.below HBY3.out).1 1 _ rfl))
    have HC3 := Lib.hid (blk_below HC2.out hb23 (blk_lt HC2.out))
    have HX3 := Lib.hid (blk_below (blk_below HX.out HBY2.out (blk_lt HX.out)) hb23 (by have := HBY2.out.size; omega))
    have HO3 := Lib.hid ho3
    obtain ⟨A3, c3, rfl, _⟩ := OwnG.rows ho3
    obtain ⟨m, hm⟩ : ∃ m, (l.take k ++ l.drop (k + 1)).length = m := ⟨_, rfl⟩
    rw [hm] at HO3 ⊢
    clear hm
    have k1 := HF3.out
    have f1 := blk_free (HN0.out.below HBY3.out).1 1
    have HV3 := Lib.hid (HRD.out.turn (ok' := fun k => B ≤ k ∧ k < w.heap.size) (Turn.of_below (p := fun _ => False) HBY3.out) (fun _ _ h => ⟨id, h⟩))
    clear ho3 hb23 hrd hrd2
    have hHeld := HF3.out
    refine hK.out (fun W : World => W.cell? ⟨b1, 1, none⟩ = some (.slice (some ad) l.length cap2)) _ _ (fun _ => hHeld) (fun _ h => h) ?_
    (try simp only [Act.put, List.setIfInBounds_toArray, List.set_cons_zero, List.set_cons_succ])
    first
      | (refine takeT (i := 16) (v := ?_) rfl (by kernel_rfl) (by kernel_rfl) (by kernel_rfl) (fun _ _ _ h => h) (by kernel_rfl) (Or.inl ⟨by rfl, ?_⟩) (fun _ => hHeld) ?_; rotate_left; (focus (intro W hSw; go_simp; (try rfl); done)); (try simp only [Act.put, List.setIfInBounds_toArray, List.set_cons_zero, List.set_cons_succ]))
      | (fail "UTAKE 16")
    first
      | (refine takeT (i := 17) (v := ?_) rfl (by kernel_rfl) (by kernel_rfl) (by kernel_rfl) (fun _ _ _ h => h) (by kernel_rfl) (Or.inl ⟨by rfl, ?_⟩) (fun _ => hHeld) ?_; rotate_left; (focus (intro W hSw; go_simp; (try rfl); done)); (try simp only [Act.put, List.setIfInBounds_toArray, List.set_cons_zero, List.set_cons_succ]))
      | (fail "UTAKE 17")
    refine callU (i := 18) rfl (by kernel_rfl) (by kernel_rfl) (fun K hK => ?_)
    (try clear hHeld)
    go_simp
    refine hK.out _ _ _ (offU (by kernel_rfl)) (fun _ h => h) ?_
    (try simp only [Act.put, List.setIfInBounds_toArray, List.set_cons_zero, List.set_cons_succ])
    refine doneU (by kernel_rfl) ?_ _
    have hb1 : b1 < w.heap.size := blk_lt HN.out.1
    obtain ⟨y4, hy4⟩ : ∃ y4, y3.setCell ⟨b1, 1, none⟩ (.slice A3 m c3) = y4 := ⟨_, rfl⟩
    have HC4 := Lib.hid (show y4.heap[w.heap.size + 1]? = some (.cells #[Value.int .i64 pt, Value.int .i64 pf, Value.slice pA pd.length pc] 37 (0, 0)) by rw [← hy4]; exact blk_other HC3.out 1 _ (by omega))
    have HX4 := Lib.hid (show y4.heap[w.heap.size]? = some (.cells #[Value.int .i64 0, Value.int .i64 0, Value.slice none 0 0] 37 (0, 0)) by rw [← hy4]; exact blk_other HX3.out 1 _ (by omega))
    have HV4 := Lib.hid (show Rd y4 (fun k => B ≤ k ∧ k < w.heap.size) PKT (pt, pf, pd, ()) [.int .i64 pt, .int .i64 pf, .slice pA pd.length pc] by rw [← hy4]; exact HV3.out.turn (p := fun k => k = b1) ((Turn.refl _ _).set (fun _ => rfl)) (fun k _ h => ⟨by have := HN.out.2.2.1; have := h.1; omega, h⟩))
    rw [hy4]
    have HY4 := Lib.hid hy4
    clear k1 f1 hy4
    go_wp2_with (first
      | (refine wpL_load rfl 37 (.tmp 7) rfl ⟨w.heap.size + 1, 0, none⟩ rfl _ _ (At.blk HC4.out) Try.underlying37 rfl rfl ?_)
      | (refine wpL_store rfl 37 (.tmp 4) (.tmp 39) rfl w.heap.size rfl _ _ 37 rfl HX4.out rfl rfl (by intro v hv; simp at hv; rcases hv with rfl | rfl | rfl <;> rfl) ?_; intro w6 hw6 hg6))
    refine bodyPost_ret (result_pair rfl _ _ w.heap.size 37 _ (0, 0) _ rfl hw6 Try.underlying37 rfl rfl) rfl ?_
    refine ⟨[.int .i64 pt, .int .i64 pf, .slice pA pd.length pc], rfl, HV4.out.turn (Turn.of_grown (p := fun k => k = w.heap.size) hg6 (fun k e => by injection e with e; exact e.symm)) (fun k _ h => ⟨by have := h.2; omega, h.1⟩), ?_⟩
    refine net_end HN.out (HB.out.trans (HBY3.out.mono (by omega))) HO3.out (by have := HBY2.out.size; omega) (fun k h => h.1) ?_ (by simp; omega)
    rw [HY4.out]
    exact Turn.of_grown hg6 (fun k e => by injection e with e; exact e.symm)
end Go.Proofs.Ytapoechkbbklfaa
