import Derived.Test.YtfjnpiahloncmaaTskU
namespace Go.Proofs.Ytfjnpiahloncmaa
open Go.RowKit Cdc
set_option linter.unusedVariables false
set_option linter.unusedSimpArgs false
attribute [local go_sem] run_store_float
set_option maxRecDepth 20000 in
theorem grown_set {w w' : World} {g j : Nat} {v : Value} (h : w.grownBy w' (some g)) : w.grownBy (w'.setCell ⟨g, j, none⟩ v) (some g) :=
  ⟨h.os, h.tape, h.output, by simpa [World.setCell] using h.size, fun k hk hne => by rw [Below.heap_setCell _ _ _ _ (fun e => hne (by rw [e]))]; exact h.block k hk hne⟩
set_option maxRecDepth 20000 in
theorem grown_refl (w : World) (r : Option Nat) : w.grownBy w r := ⟨rfl, rfl, rfl, Nat.le_refl _, fun _ _ _ => rfl⟩
set_option maxRecDepth 20000 in
theorem Own.grown {w w' : World} {base g : Nat} {e : TypeId} {s : Sh} {v : Value} {l : List s.Ty} (h : Own w base e s v l) (hb : w.grownBy w' (some g)) (hlt : g < base) : Own w' base e s v l := by
  obtain ⟨xs, ho, hr⟩ := h
  refine ⟨xs, ?_, hr.of (fun a u hk hc => cell_grown hb hc (by intro e; injection e with e; have := hk.1; omega)) (fun _ h _ => h)⟩
  obtain ⟨h1, h2 | ⟨g', cap, cur, hv, hg, hh, h3⟩⟩ := ho
  · exact ⟨h1, .inl h2⟩
  · exact ⟨h1, .inr ⟨g', cap, cur, hv, hg, (hb.block g' (Array.getElem?_eq_some_iff.1 hh).1 (by intro e; injection e; omega)).trans hh, h3⟩⟩
set_option maxRecDepth 20000 in
theorem result_pair {P : Program} {fn : Func} {p u : Tmp} {ty : TypeId} (h : fn.results = #[.cell p ty, .tmp u]) (tmps : Array Value) (w : World) (g : Nat) (t : TypeId) (cs : Array Value) (fr : Nat × Nat) (d : TypeDesc)
    (hp : tmps.getD p undef = .pointer (some ⟨g, 0, none⟩)) (hg : w.heap[g]? = some (.cells cs t fr))
    (hu : P.underlying ty = some d) (hd : (match d with | .struct _ | .array _ _ => true | _ => false) = true) (hi : (P.info? ty).map (·.size) = some cs.size) :
    (results fn tmps).run P w = .ok (.tuple #[.agg cs, tmps.getD u undef]) w := by
  rw [results_cell_tmp h, hp]
  simp [asAddr, run_loadVar_row w g t ty cs fr d hg hu hd hi, Result.andThen]
abbrev Z7 : Array Value := #[.int .u64 0, .int .u64 0, .string ⟨#[]⟩, .bool false, .float .f64 0, .float .f64 0, .slice none 0 0]
abbrev Z2 : Array Value := #[.int .u64 0, .string ⟨#[]⟩]
def zeroT : TASK.Ty := (0, 0, ⟨#[]⟩, false, 0, 0, [], ())
def zeroL : LIST.Ty := (0, ⟨#[]⟩, ())
def findT (ts : List TASK.Ty) (id : Int) : TASK.Ty × Bool := match ts.find? (fun t => t.1 == id) with | some t => (t, true) | none => (zeroT, false)
def findL (ls : List LIST.Ty) (id : Int) : LIST.Ty × Bool := match ls.find? (fun t => t.1 == id) with | some t => (t, true) | none => (zeroL, false)
set_option maxRecDepth 20000 in
theorem find_at {α : Type} {p : α → Bool} {l : List α} {i : Nat} {x : α} (h : ∀ y ∈ l.take i, p y = false) (hx : l[i]? = some x) (hp : p x = true) : l.find? p = some x := by
  have hl := (List.getElem?_eq_some_iff.1 hx).1
  have hg := (List.getElem?_eq_some_iff.1 hx).2
  have h0 : l = l.take i ++ x :: l.drop (i + 1) := by rw [← hg, ← List.drop_eq_getElem_cons hl, List.take_append_drop]
  rw [h0]
  rw [List.find?_append, List.find?_eq_none.2 (fun y hy => by rw [h y hy]; exact Bool.false_ne_true), List.find?_cons_of_pos hp]
  rfl
set_option maxRecDepth 20000 in
theorem find_no {α : Type} {p : α → Bool} {l : List α} (h : ∀ y ∈ l, p y = false) : l.find? p = none := List.find?_eq_none.2 (fun y hy => by rw [h y hy]; exact Bool.false_ne_true)
set_option maxRecDepth 20000 in
theorem rd_zeroT (w : World) (ok : Nat → Prop) : Rd w ok TASK zeroT Z7.toList :=
  rd_task_mk ⟨⟨by decide, by decide⟩, ⟨by decide, by decide⟩, by decide, by decide, by decide⟩ (rd_sl.2 ⟨none, 0, 0, rfl, by omega, by omega, fun _ => rfl, rfl, fun _ => rfl, fun ad e => by cases e⟩)
set_option maxRecDepth 20000 in
theorem rd_zeroL (w : World) (ok : Nat → Prop) : Rd w ok LIST zeroL Z2.toList := rd_lst_mk ⟨⟨by decide, by decide⟩, by decide⟩
set_option maxRecDepth 20000 in
theorem one_cells_str {w w' : World} {ok ok' : Nat → Prop} : ∀ {l : List ByteArray} {cs : List Value}, RdL w ok .str l cs → RdL w' ok' .str l cs
  | [], _, h => h
  | x :: l, cs, h => by
    obtain ⟨c1, c2, h1, h2, h3⟩ := h
    exact ⟨c1, c2, h1, h2, one_cells_str h3⟩
set_option maxRecDepth 20000 in
theorem info_str : (Try.prog.info? 9).map (fun i => (i.zero, i.size, i.bytes)) = some (some (.string ⟨#[]⟩), 1, 16) := by kernel_rfl
set_option maxRecDepth 20000 in
theorem eqn_str (a : Option Addr) (n c : Nat) (w : World) : (binOp .eql 39 (.slice a n c) (.slice none 0 0)).run Try.prog w = .ok (.bool a.isNone) w := Lib.run_eql_slice_nil w _ _ a n c 0 0 Try.underlying39
attribute [local go_sem] eqn_str
set_option maxRecDepth 20000 in
/-- slices.Clone of texts. -/
theorem clone_str (w : World) (ok : Nat → Prop) (A : Option Addr) (n c : Nat) (l : List ByteArray) (h : Rd w ok (.sl .str) l [.slice A n c]) (hl : n ≤ 100000) :
    Calls Try.prog 29 #[.slice A n c] w fun e w' => ∃ A' c', e = .returned (.slice A' n c') ∧ Rd w' (fun k => w.heap.size ≤ k) (.sl .str) l [.slice A' n c'] ∧ Below w.heap.size w w' := by
  obtain ⟨h1, h2, h3, h4⟩ := rd_rowsN h
  have hn := h4.1
  cases A with
  | none =>
    have hc := h3 rfl
    subst hc
    obtain rfl : n = 0 := by omega
    go_enter Try.func29, Try.ntmps29
    go_wp2_with fail
    go_ret
    refine ⟨_, _, rfl, rd_sl.2 ⟨none, 0, 0, rfl, by omega, by omega, fun _ => rfl, hn, fun _ => rfl, fun ad e => by cases e⟩, Below.refl _ _⟩
  | some ad =>
    obtain ⟨ys, hy, hat⟩ := h4.cells
    have ha := (hat ad rfl).2
    have hyl := hy.len
    have hs1 : Sh.size .str = 1 := rfl
    have hz := lit_own w 9 #[] 0 rfl (by omega)
    have hbz := below_alloc1 w (.cells #[] 9)
    have ha' := ha.of (ok := anyB) (fun _ => trivial) (fun a v _ hc => cell_below hbz hc)
    go_enter Try.func29, Try.ntmps29
    go_wp2_with (at_builtin; refine wp_appS (A := some ad) (m := n) (n := 0) (xs := []) (ys := ys) rfl (.tmp 5) (.tmp 6) rfl hz (by rw [hyl, hs1, hn]) (fun e => by cases e) (fun ad' e => by cases e; exact ha') hbz Try.underlying39 info_str rfl (by decide) rfl rfl hy.one (by omega) (by omega) (by simp) ?_; intro v1 w1 h5 h6 _ _; rw [Nat.zero_add, List.nil_append] at h5; have hR : Rd w1 (fun k => w.heap.size ≤ k) (.sl .str) l [v1] := Own.rd (e := 9) ⟨ys, (by rw [hs1, hn]; exact h5), one_cells_str hy⟩; obtain ⟨A', c', rfl, _⟩ := own_rc h5)
    go_ret
    exact ⟨_, _, rfl, hR, h6⟩
def FindPost (w : World) (x : TASK.Ty × Bool) (e : Ending) (w' : World) : Prop := ∃ cs : List Value, e = .returned (.tuple #[.agg cs.toArray, .bool x.2]) ∧ Rd w' anyB TASK x.1 cs ∧ Below w.heap.size w w'
def FindLPost (w : World) (x : LIST.Ty × Bool) (e : Ending) (w' : World) : Prop := ∃ cs : List Value, e = .returned (.tuple #[.agg cs.toArray, .bool x.2]) ∧ Rd w' anyB LIST x.1 cs ∧ Below w.heap.size w w'
set_option maxHeartbeats 2000000 in
set_option maxRecDepth 20000 in
theorem rtask_any (w : World) (A B : Option Addr) (n ca m cb : Nat) (ts : List TASK.Ty) (id : Int) (hb : Rows w anyB TASK B m ts) (hm : m ≤ 9223372036854775807) :
    Calls Try.prog 19 #[.agg #[Value.slice A n ca, Value.slice B m cb], .int .u64 id] w (FindPost w (findT ts id)) := by
  have h1 := blk_alloc (heap_alloc_new w (.cells #[Value.slice A n ca, Value.slice B m cb] 25)) (.cells Z7 41)
  have h2 := heap_alloc2_new w (.cells #[Value.slice A n ca, Value.slice B m cb] 25) (.cells Z7 41)
  obtain ⟨p0, p1⟩ := blk2 h1
  have HW := Lib.hid ((below_alloc1 w (.cells #[Value.slice A n ca, Value.slice B m cb] 25)).alloc (by simp) (.cells Z7 41))
  have hbl := hb.1
  go_enter Try.func19, Try.ntmps19
  obtain ⟨W, hW⟩ : ∃ W, (w.alloc (.cells #[Value.slice A n ca, Value.slice B m cb] 25)).alloc (.cells Z7 41) = W := ⟨_, rfl⟩
  have hsz : w.heap.size + 1 < W.heap.size := by rw [← hW]; simp
  rw [hW] at p0 p1 h1 h2 HW
  have H2 := Lib.hid h2
  clear h1 h2
  go_wp2_with fail
  go_loopw [11] (fun s11 wr => ∃ i : Nat, i ≤ m ∧ s11 = .int .i64 i ∧ (∀ y ∈ ts.take i, (y.1 == id) = false) ∧ Below W.heap.size W wr) (fun s11 _ => m - (intOf s11).toNat)
  case atStart => exact ⟨0, by omega, rfl, (fun x hx => by simp at hx), Below.refl _ _⟩
  case round =>
    obtain ⟨i, hi, rfl, hP, hbel⟩ := hrel
    have HB := Lib.hid hbel
    have HP := Lib.hid hP
    have HWr := Lib.hid (HW.out.trans (hbel.mono HW.out.size))
    have H2r := Lib.hid (blk_below H2.out hbel hsz)
    have hszr : w.heap.size + 1 < wr.heap.size := Nat.lt_of_lt_of_le hsz hbel.size
    clear hP
    by_cases hlt : i < m
    · have i0 : (0 : Int) ≤ (i : Int) := by omega
      have i1 : (i : Int) < (m : Int) := by omega
      obtain ⟨ad, x, cs, rfl, hx, hat, hrd⟩ := hb.get i hlt
      have HAt := Lib.hid (hat.below HWr.out)
      have HR := Lib.hid hrd
      obtain ⟨i1, l1, t1, d1, r1, e1, g1, A1, c1, rfl, rfl, ok1, hg1⟩ := rd_task hrd
      by_cases hid : i1 = id
      · have hb2 : (i1 == id) = true := beq_iff_eq.2 hid
        have HV := Lib.hid (show findT ts id = ((i1, l1, t1, d1, r1, e1, g1, ()), true) by unfold findT; rw [find_at HP.out hx hb2])
        clear hx hb hbel hat hrd hg1 ok1 hid
        go_wp2_with (first
          | (refine wpL_load rfl 41 _ rfl _ rfl _ _ HAt.out Try.underlying41 rfl rfl ?_)
          | (refine wpL_load rfl 41 (.tmp 7) rfl ⟨wr.heap.size, 0, none⟩ rfl _ _ (At.blk (heap_alloc_new wr _)) Try.underlying41 rfl rfl ?_)
          | (refine wpL_store rfl 41 (.tmp 4) (.tmp 19) rfl (w.heap.size + 1) rfl _ _ 41 rfl (blk_alloc H2r.out _) rfl rfl (by intro v hv; simp at hv; rcases hv with rfl | rfl | rfl | rfl | rfl | rfl | rfl <;> rfl) ?_
             intro w4 hw4 hg4))
        refine bodyPost_ret (result_pair rfl _ _ (w.heap.size + 1) 41 _ (0, 0) _ rfl hw4 Try.underlying41 rfl rfl) rfl ?_
        have hb4 := (HWr.out.trans ((below_alloc1 wr (.cells #[Value.int .u64 i1, Value.int .u64 l1, Value.string t1, Value.bool d1, Value.float .f64 r1, Value.float .f64 e1, Value.slice A1 g1.length c1] 41)).mono HWr.out.size)).grown hg4 (by simp; omega) (fun k e => by injection e; omega)
        rw [HV.out]
        exact ⟨_, rfl, HR.out.below hb4, hb4⟩
      · have hb2 : (i1 == id) = false := beq_eq_false_iff_ne.2 hid
        have HN := Lib.hid (take_allG (P := fun y : TASK.Ty => (y.1 == id) = false) HP.out hx hb2)
        clear hx hb hbel hat hrd hg1 ok1 hid
        go_wp2_with (first
          | (refine wpL_load rfl 41 _ rfl _ rfl _ _ HAt.out Try.underlying41 rfl rfl ?_))
        go_roundw
        case measure => simp [intOf]; omega
        case rel => exact ⟨i + 1, by omega, by go_num, HN.out, HB.out.trans ((below_alloc1 wr _).mono HB.out.size)⟩
    · obtain rfl : i = m := by omega
      have HV := Lib.hid (show findT ts id = (zeroT, false) by unfold findT; rw [find_no (take_full HP.out hbl)])
      go_wp2_with (first
        | (refine wpL_store rfl 41 (.tmp 4) (.tmp 21) rfl (w.heap.size + 1) rfl _ _ 41 rfl H2r.out rfl rfl (by intro v hv; simp at hv; rcases hv with rfl | rfl | rfl | rfl | rfl | rfl | rfl <;> rfl) ?_
           intro w4 hw4 hg4))
      refine bodyPost_ret (result_pair rfl _ _ (w.heap.size + 1) 41 _ (0, 0) _ rfl hw4 Try.underlying41 rfl rfl) rfl ?_
      have hb4 := HWr.out.grown hg4 HWr.out.size (fun k e => by injection e; omega)
      rw [HV.out]
      exact ⟨Z7.toList, rfl, rd_zeroT _ _, hb4⟩
set_option maxHeartbeats 2000000 in
set_option maxRecDepth 20000 in
theorem rlist_any (w : World) (A B : Option Addr) (n ca m cb : Nat) (ts : List LIST.Ty) (id : Int) (hb : Rows w anyB LIST A n ts) (hm : n ≤ 9223372036854775807) :
    Calls Try.prog 18 #[.agg #[Value.slice A n ca, Value.slice B m cb], .int .u64 id] w (FindLPost w (findL ts id)) := by
  have h1 := blk_alloc (heap_alloc_new w (.cells #[Value.slice A n ca, Value.slice B m cb] 25)) (.cells Z2 37)
  have h2 := heap_alloc2_new w (.cells #[Value.slice A n ca, Value.slice B m cb] 25) (.cells Z2 37)
  obtain ⟨p0, p1⟩ := blk2 h1
  have HW := Lib.hid ((below_alloc1 w (.cells #[Value.slice A n ca, Value.slice B m cb] 25)).alloc (by simp) (.cells Z2 37))
  have hbl := hb.1
  go_enter Try.func18, Try.ntmps18
  obtain ⟨W, hW⟩ : ∃ W, (w.alloc (.cells #[Value.slice A n ca, Value.slice B m cb] 25)).alloc (.cells Z2 37) = W := ⟨_, rfl⟩
  have hsz : w.heap.size + 1 < W.heap.size := by rw [← hW]; simp
  rw [hW] at p0 p1 h1 h2 HW
  have H2 := Lib.hid h2
  clear h1 h2
  go_wp2_with fail
  go_loopw [11] (fun s11 wr => ∃ i : Nat, i ≤ n ∧ s11 = .int .i64 i ∧ (∀ y ∈ ts.take i, (y.1 == id) = false) ∧ Below W.heap.size W wr) (fun s11 _ => n - (intOf s11).toNat)
  case atStart => exact ⟨0, by omega, rfl, (fun x hx => by simp at hx), Below.refl _ _⟩
  case round =>
    obtain ⟨i, hi, rfl, hP, hbel⟩ := hrel
    have HB := Lib.hid hbel
    have HP := Lib.hid hP
    have HWr := Lib.hid (HW.out.trans (hbel.mono HW.out.size))
    have H2r := Lib.hid (blk_below H2.out hbel hsz)
    have hszr : w.heap.size + 1 < wr.heap.size := Nat.lt_of_lt_of_le hsz hbel.size
    clear hP
    by_cases hlt : i < n
    · have i0 : (0 : Int) ≤ (i : Int) := by omega
      have i1 : (i : Int) < (n : Int) := by omega
      obtain ⟨ad, x, cs, rfl, hx, hat, hrd⟩ := hb.get i hlt
      have HAt := Lib.hid (hat.below HWr.out)
      have HR := Lib.hid hrd
      obtain ⟨i1, t1, rfl, rfl, ok1⟩ := rd_lst hrd
      by_cases hid : i1 = id
      · have hb2 : (i1 == id) = true := beq_iff_eq.2 hid
        have HV := Lib.hid (show findL ts id = ((i1, t1, ()), true) by unfold findL; rw [find_at HP.out hx hb2])
        clear hx hb hbel hat hrd ok1 hid
        go_wp2_with (first
          | (refine wpL_load rfl 37 _ rfl _ rfl _ _ HAt.out Try.underlying37 rfl rfl ?_)
          | (refine wpL_load rfl 37 (.tmp 7) rfl ⟨wr.heap.size, 0, none⟩ rfl _ _ (At.blk (heap_alloc_new wr _)) Try.underlying37 rfl rfl ?_)
          | (refine wpL_store rfl 37 (.tmp 4) (.tmp 19) rfl (w.heap.size + 1) rfl _ _ 37 rfl (blk_alloc H2r.out _) rfl rfl (by intro v hv; simp at hv; rcases hv with rfl | rfl <;> rfl) ?_
             intro w4 hw4 hg4))
        refine bodyPost_ret (result_pair rfl _ _ (w.heap.size + 1) 37 _ (0, 0) _ rfl hw4 Try.underlying37 rfl rfl) rfl ?_
        have hb4 := (HWr.out.trans ((below_alloc1 wr (.cells #[Value.int .u64 i1, Value.string t1] 37)).mono HWr.out.size)).grown hg4 (by simp; omega) (fun k e => by injection e; omega)
        rw [HV.out]
        exact ⟨_, rfl, HR.out.below hb4, hb4⟩
      · have hb2 : (i1 == id) = false := beq_eq_false_iff_ne.2 hid
        have HN := Lib.hid (take_allG (P := fun y : LIST.Ty => (y.1 == id) = false) HP.out hx hb2)
        clear hx hb hbel hat hrd ok1 hid
        go_wp2_with (first
          | (refine wpL_load rfl 37 _ rfl _ rfl _ _ HAt.out Try.underlying37 rfl rfl ?_))
        go_roundw
        case measure => simp [intOf]; omega
        case rel => exact ⟨i + 1, by omega, by go_num, HN.out, HB.out.trans ((below_alloc1 wr _).mono HB.out.size)⟩
    · obtain rfl : i = n := by omega
      have HV := Lib.hid (show findL ts id = (zeroL, false) by unfold findL; rw [find_no (take_full HP.out hbl)])
      go_wp2_with (first
        | (refine wpL_store rfl 37 (.tmp 4) (.tmp 21) rfl (w.heap.size + 1) rfl _ _ 37 rfl H2r.out rfl rfl (by intro v hv; simp at hv; rcases hv with rfl | rfl <;> rfl) ?_
           intro w4 hw4 hg4))
      refine bodyPost_ret (result_pair rfl _ _ (w.heap.size + 1) 37 _ (0, 0) _ rfl hw4 Try.underlying37 rfl rfl) rfl ?_
      have hb4 := HWr.out.grown hg4 HWr.out.size (fun k e => by injection e; omega)
      rw [HV.out]
      exact ⟨Z2.toList, rfl, rd_zeroL _ _, hb4⟩
end Go.Proofs.Ytfjnpiahloncmaa
