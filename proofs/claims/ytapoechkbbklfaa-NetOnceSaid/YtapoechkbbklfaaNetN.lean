import Derived.Test.YtapoechkbbklfaaNetM
import Derived.Test.YtapoechkbbklfaaNetJ
namespace Go.Proofs.Ytapoechkbbklfaa
open Go.RowKit Go.Shelf
set_option linter.unusedVariables false
set_option linter.unusedSimpArgs false
attribute [local go_sem] Oper.semAt_some
set_option maxRecDepth 100000 in
theorem all1_nil {α : Type} (n : Nat) (W : World) (Bn : Nat) (hBn : W.cell? ⟨Bn, 0, none⟩ = some (.pointer none)) (encs : α → Array Value) (V : List α → α → World → Prop) (Kp : World → World → Prop) (S Sp : List α → Prop) (hS : S []) :
    SeqV Fence.wide n Try.prog 41 #[.pointer (some ⟨Bn, 0, none⟩)] encs V Kp S Sp W := by
  intro ll J Jx hJ hJx hY h0
  refine callsIn_of_wp Try.func41 rfl trivial ?_ rfl
  simp only [Try.ntmps41, List.size_toArray, List.length_cons, List.length_nil, Nat.reduceAdd, Nat.reduceSub, Array.replicate_succ, Array.replicate_zero, List.push_toArray, List.append_toArray, List.nil_append, List.cons_append]
  gi_wp2
  refine bodyPost_ret (results_none rfl _ _ _) rfl ?_
  exact ⟨⟨_, rfl⟩, .inl ⟨[], hS, h0⟩⟩
set_option maxHeartbeats 1000000 in
set_option maxRecDepth 100000 in
theorem all_none (w : World) : Calls Try.prog 20 #[.pointer none] w fun e w' => e = .returned (.slice none 0 0) ∧ Below w.heap.size w w' := by
  refine (callsIn_wide (n := 5)).1 (callsIn_of_wp_marks Try.func20 rfl trivial ?_ rfl)
  simp only [Try.ntmps20, List.size_toArray, List.length_cons, List.length_nil, Nat.reduceAdd, Nat.reduceSub, Array.replicate_succ, Array.replicate_zero, List.push_toArray, List.append_toArray, List.nil_append, List.cons_append]
  gi_wp2
  refine ⟨trivial, (callsIn_wide.2 (all_it _ _ (.inl rfl))).mono ?_⟩
  rintro e w' ⟨rfl, rfl⟩
  gi_wp2
  obtain ⟨w1, hw1⟩ : ∃ w1, (w.alloc (.cells #[.slice none 0 0] 27)).alloc (.cells #[.pointer none] 24) = w1 := ⟨_, rfl⟩
  have hz : w1.heap.size = w.heap.size + 2 := by rw [← hw1]; simp
  have hb01 : Below w.heap.size w w1 := by rw [← hw1]; exact (below_alloc1 w _).alloc (by simp) _
  have bO : Boxed w1 w.heap.size 27 (.slice none 0 0) := by rw [← hw1]; exact (Boxed.new w _ _).alloc _
  have bN : w1.cell? ⟨w.heap.size + 1, 0, none⟩ = some (.pointer none) := by
    rw [← hw1]
    have := (Boxed.new (w.alloc (.cells #[.slice none 0 0] 27)) 24 (.pointer none)).cell
    rwa [World.size_alloc] at this
  rw [hw1]
  clear hw1
  refine wpIn_rangeV rfl (by decide) (gf := 41) (lb := #[.pointer (some ⟨w.heap.size + 1, 0, none⟩)]) rfl trivial (enters_of Try.func41 (by kernel_rfl) rfl)
    (encs := encX) (V := fun _ _ _ => False) (Kp := fun _ _ => True) (S := fun xs => xs = []) (Sp := fun _ => True)
    (fun W hbW hzW => all1_nil 4 W (w.heap.size + 1) ((hbW.cell (p := ⟨w.heap.size + 1, 0, none⟩) (by show w.heap.size + 1 < w1.heap.size; omega)).trans bN) _ _ _ _ _ rfl)
    (fun pre _ _ _ _ h _ _ => h) (fun _ _ => trivial) (fun W o _ => trivial) (fun x => rfl)
    (fun pre X => Boxed X w.heap.size 27 (.slice none 0 0) ∧ Below w.heap.size w X)
    (fun _ _ _ => False)
    (OwnFrom.and (fun pre X Y row h1 hg hr => cells_kept hg (fun r e => (hr r e).2) h1) (ownFrom_below (Nat.le_refl _) (by omega)))
    (fun _ _ _ _ _ hs _ _ => hs)
    ⟨bO, hb01⟩
    (fun x a' X => False)
    (fun x _ _ _ _ h _ _ => h)
    (fun _ _ _ _ _ _ h _ => h.elim) (fun _ _ _ _ _ _ h _ => h.elim) ?done (fun _ _ _ _ _ _ h _ => h.elim)
  case done =>
    rintro D ys X hD hS ⟨hv, hB⟩ hK
    have hc := hv.cell
    have HB := Lib.hid hB
    clear hB hv
    gi_wp2
    refine ⟨by simp, .inl ⟨_, _, rfl, run_takeDeferred hK, ?_⟩⟩
    exact ⟨_, results_tmp rfl _ _ _, rfl, HB.out.trans (belowK_b (w := w) (Nat.le_refl _) X D _ _ (by omega) hK rfl rfl)⟩
set_option maxRecDepth 100000 in
theorem forL_pre {l : List PKT.Ty} {pre ini : List XP} {last : XP} {to : Int} (hp : pre.map XP.pk <+: l) (he : pre = ini ++ [last]) (hi : ∀ y ∈ ini, (y.t == to) = false) (hl : (last.t == to) = true) : forL l to = ini.length := by
  obtain ⟨tl, htl⟩ := hp
  subst he
  rw [List.map_append] at htl
  have hx : l[ini.length]? = some last.pk := by
    rw [← htl, List.append_assoc, List.getElem?_append_right (by simp)]
    simp
  refine forL_at (fun y hy => ?_) hx hl
  rw [← htl, List.append_assoc, List.take_append_of_le_length (by simp), List.take_of_length_le (by simp)] at hy
  obtain ⟨z, hz, rfl⟩ := List.mem_map.1 hy
  exact hi z hz
set_option maxHeartbeats 4000000 in
set_option maxRecDepth 100000 in
theorem for_any (w : World) (b1 B : Nat) (room : Int) (sv : Value) (l : List PKT.Ty) (to : Int) (hN : NetR w b1 B room sv l) (hd : ∀ p ∈ l, (dataP p).length ≤ 100000) :
    Calls Try.prog 22 #[.pointer (some ⟨b1, 0, none⟩), .int .i64 to] w fun e w' => e = .returned (.int .i64 (forL l to)) ∧ Below w.heap.size w w' := by
  have hlm := hN.2.2.2.2
  refine (callsIn_wide (n := 5)).1 (callsIn_of_wp_marks Try.func22 rfl trivial ?_ rfl)
  simp only [Try.ntmps22, List.size_toArray, List.length_cons, List.length_nil, Nat.reduceAdd, Nat.reduceSub, Array.replicate_succ, Array.replicate_zero, List.push_toArray, List.append_toArray, List.nil_append, List.cons_append]
  gi_wp2
  refine ⟨trivial, (callsIn_wide.2 (all_it _ _ (.inr ⟨b1, rfl⟩))).mono ?_⟩
  rintro e w' ⟨rfl, rfl⟩
  gi_wp2
  obtain ⟨w1, hw1⟩ : ∃ w1, (((w.alloc (.cells #[.int .i64 to] 3)).alloc (.cells #[.int .i64 0] 3)).alloc (.cells #[.int .i64 0] 3)).alloc (.cells #[.pointer (some ⟨b1, 0, none⟩)] 24) = w1 := ⟨_, rfl⟩
  have hz : w1.heap.size = w.heap.size + 4 := by rw [← hw1]; simp
  have hb01 : Below w.heap.size w w1 := by rw [← hw1]; exact (((below_alloc1 w _).alloc (by simp) _).alloc (by simp; omega) _).alloc (by simp; omega) _
  have bT : Boxed w1 w.heap.size 3 (.int .i64 to) := by rw [← hw1]; exact (((Boxed.new w _ _).alloc _).alloc _).alloc _
  have bR : Boxed w1 (w.heap.size + 1) 3 (.int .i64 0) := by
    rw [← hw1]
    have := ((Boxed.new (w.alloc (.cells #[.int .i64 to] 3)) 3 (.int .i64 0)).alloc (.cells #[.int .i64 0] 3)).alloc (.cells #[.pointer (some ⟨b1, 0, none⟩)] 24)
    rwa [World.size_alloc] at this
  have bI : Boxed w1 (w.heap.size + 1 + 1) 3 (.int .i64 0) := by
    rw [← hw1]
    have := (Boxed.new ((w.alloc (.cells #[.int .i64 to] 3)).alloc (.cells #[.int .i64 0] 3)) 3 (.int .i64 0)).alloc (.cells #[.pointer (some ⟨b1, 0, none⟩)] 24)
    rwa [World.size_alloc, World.size_alloc] at this
  have bN : w1.cell? ⟨w.heap.size + 1 + 1 + 1, 0, none⟩ = some (.pointer (some ⟨b1, 0, none⟩)) := by
    rw [← hw1]
    have := (Boxed.new (((w.alloc (.cells #[.int .i64 to] 3)).alloc (.cells #[.int .i64 0] 3)).alloc (.cells #[.int .i64 0] 3)) 24 (.pointer (some ⟨b1, 0, none⟩))).cell
    rwa [World.size_alloc, World.size_alloc, World.size_alloc] at this
  rw [hw1]
  clear hw1
  obtain ⟨kN, hkN⟩ : ∃ kN, w.heap.size + 1 + 1 + 1 = kN := ⟨_, rfl⟩
  rw [hkN] at bN ⊢
  obtain ⟨kI, hkI⟩ : ∃ kI, w.heap.size + 1 + 1 = kI := ⟨_, rfl⟩
  rw [hkI] at bI ⊢
  obtain ⟨kR, hkR⟩ : ∃ kR, w.heap.size + 1 = kR := ⟨_, rfl⟩
  rw [hkR] at bR ⊢
  obtain ⟨kT, hkT⟩ : ∃ kT, w.heap.size = kT := ⟨_, rfl⟩
  have HK := Lib.hid (And.intro hkN (And.intro hkI (And.intro hkR hkT)))
  have hs0 : kT = w.heap.size ∧ kR = kT + 1 ∧ kI = kT + 2 ∧ kN = kT + 3 := by omega
  have hbB : Below kT w w1 := hkT ▸ hb01
  rw [show (Value.pointer (some ⟨w.heap.size, 0, none⟩)) = .pointer (some ⟨kT, 0, none⟩) by rw [hkT]]
  rw [hkT] at bT
  have HS := Lib.hid hs0
  clear hkN hkI hkR hkT hs0
  have key : ∀ x ∈ [kT, kR, kI, kN], x < w1.heap.size := by have := HS.out; intro x hx; simp at hx; omega
  refine wpIn_rangeV rfl (by decide) (gf := 41) (lb := #[.pointer (some ⟨kN, 0, none⟩)]) rfl trivial (enters_of Try.func41 (by kernel_rfl) rfl)
    (encs := encX) (V := VX (kT + 8) l) (Kp := Turn (pK (kT + 8) kI (kT + 5))) (S := fun xs => xs.map XP.pk = l) (Sp := fun pre => pre.map XP.pk <+: l)
    (fun W hbW hzW => by
      have hs := HS.out
      have h := all1_seq 4 w W b1 B kI kN (kT + 5) room sv l hN (hb01.trans (hbW.mono hb01.size)) hd (by omega) (by omega) (by omega) ((hbW.cell (p := ⟨kN, 0, none⟩) (key kN (by simp))).trans bN)
      have e : W.heap.size + 2 = kT + 8 := by omega
      rw [e] at h
      exact h)
    (fun pre => vx_own _ _ _ pre) (fun h k => h.trans k (fun _ _ h => h)) (fun W o _ => turn_put (by have hs := HS.out; rw [hz]; exact .inr (.inl (by omega)))) (fun x => rfl)
    (fun pre X => (Boxed X kT 3 (.int .i64 to) ∧ Boxed X kR 3 (.int .i64 0) ∧ Boxed X kI 3 (.int .i64 pre.length) ∧ ∀ y ∈ pre, (y.t == to) = false) ∧ Below kT w X)
    (fun c pre X => (c = .ret ∧ ∃ ini last, pre = ini ++ [last] ∧ (∀ y ∈ ini, (y.t == to) = false) ∧ (last.t == to) = true ∧ Boxed X kR 3 (.int .i64 ini.length)) ∧ Below kT w X)
    (OwnFrom.and (fun pre X Y row ⟨h1, h2, h3, h4⟩ hg hr => ⟨cells_kept hg (fun r e => (hr r e).2) h1, cells_kept hg (fun r e => (hr r e).2) h2, cells_kept hg (fun r e => (hr r e).2) h3, h4⟩) (ownFrom_below (by have := HS.out; omega) (by have := HS.out; omega)))
    (fun c => OwnFrom.and (fun pre X Y row ⟨h0, ini, last, h1, h2, h3, h4⟩ hg hr => ⟨h0, ini, last, h1, h2, h3, cells_kept hg (fun r e => (hr r e).2) h4⟩) (ownFrom_below (by have := HS.out; omega) (by have := HS.out; omega)))
    ⟨⟨bT, bR, bI, fun y hy => by simp at hy⟩, hbB⟩
    (fun x a' X => ∃ Bx, a' = { tmps := #[.pointer (some ⟨b1, 0, none⟩), .int .i64 to, undef, .pointer (some ⟨kT, 0, none⟩), .pointer (some ⟨kR, 0, none⟩), .pointer (some ⟨kI, 0, none⟩), .pointer (some ⟨Bx, 0, none⟩), .pointer (some ⟨b1, 0, none⟩), .func (.func 41) #[] #[.pointer (some ⟨kN, 0, none⟩)], .agg #[Value.int .i64 x.t, Value.int .i64 x.f, Value.slice x.A x.d.length x.c], undef, undef, undef, undef, undef, undef, undef], defers := [] } ∧ X.heap[Bx]? = some (.cells #[Value.int .i64 x.t, Value.int .i64 x.f, Value.slice x.A x.d.length x.c] 37 (0, 0)))
    (fun x a' X Y row ⟨Bx, h1, h2⟩ hg hr => ⟨Bx, h1, cells_kept hg (fun r e => (hr r e).2) h2⟩)
    ?assign ?body ?done ?stop
  case assign =>
    rintro ll pre x X K ⟨⟨i1, i2, i3, i4⟩, hB⟩ hV hK
    dsimp only [encX]
    gi_wp2
    have hal := World.grownBy_alloc X (.cells #[Value.int .i64 x.t, Value.int .i64 x.f, Value.slice x.A x.d.length x.c] 37) none
    have hno : NoCells X none := fun r e => by cases e
    have hB2 := hB.alloc (o := .cells #[Value.int .i64 x.t, Value.int .i64 x.f, Value.slice x.A x.d.length x.c] 37) (by have := hB.size; have := HS.out; omega)
    exact hK _ _ ((KeepsOthers.alloc _ _).from _) (Turn.of_below (below_alloc1 X _)) ⟨⟨cells_kept hal hno i1, cells_kept hal hno i2, cells_kept hal hno i3, i4⟩, hB2⟩ (vx_own 0 _ _ _ _ X _ none hV hal (fun r e => by cases e)) ⟨X.heap.size, rfl, heap_alloc_new X _⟩
  case body =>
    rintro ll pre x a' X ⟨⟨i1, i2, i3, i4⟩, hB⟩ hV ⟨Bx, rfl, hbx⟩
    have hlen : pre.length + 1 ≤ 10000 := by
      have := hV.2.2.2.length_le
      simp at this
      omega
    have hcT := i1.cell
    have hcR := i2.cell
    have hfR := i2.frozen
    have hcI := i3.cell
    have hfI := i3.frozen
    have hx0 := blk_at hbx 0 _ rfl
    have HB := Lib.hid hB
    have H1 := Lib.hid i1
    have H2 := Lib.hid i2
    have H3 := Lib.hid i3
    have H4 := Lib.hid i4
    clear hB i1 i2 i3 i4 hV hbx hb01 hbB key
    by_cases he : x.t = to
    · have hb2 : (x.t == to) = true := beq_iff_eq.2 he
      clear he
      gi_wp2
      have hs := HS.out
      exact ⟨(KeepsOthers.setCell _ _ _).from _, ⟨rfl, pre, x, rfl, H4.out, hb2, H2.out.set _⟩, HB.out.setCell (p := ⟨kR, 0, none⟩) (by show kT ≤ kR; omega) _⟩
    · have hb2 : (x.t == to) = false := beq_eq_false_iff_ne.2 he
      clear he
      gi_wp2
      have hs := HS.out
      refine ⟨(KeepsOthers.setCell _ _ _).from _, (Turn.refl _ _).set (fun _ => .inl rfl), ⟨blk_other (k := kI) H1.out 0 _ (by omega), blk_other (k := kI) H2.out 0 _ (by omega), ?_, fun y hy => ?_⟩, HB.out.setCell (p := ⟨kI, 0, none⟩) (by show kT ≤ kI; omega) _⟩
      · have := H3.out.set (.int .i64 ((pre ++ [x]).length : Nat))
        simpa using this
      · rcases List.mem_append.1 hy with hy | hy
        · exact H4.out y hy
        · rw [List.mem_singleton.1 hy]; exact hb2
  case done =>
    rintro D ys X hD hS ⟨⟨i1, i2, i3, i4⟩, hB⟩ hK
    have hcR := i2.cell
    have hfR := i2.frozen
    have HV := Lib.hid (show forL l to = -1 from forL_no (fun y hy => by rw [← show ys.map XP.pk = l from hS] at hy; obtain ⟨z, hz, rfl⟩ := List.mem_map.1 hy; exact i4 z hz))
    have HB := Lib.hid hB
    have H2 := Lib.hid i2
    clear hB i1 i2 i3 i4 hb01 hbB key
    gi_wp2
    have hK' := (KeepsOthers.setCell X ⟨kR, 0, none⟩ (.int .i64 (-1))).same D _ hK rfl
    refine ⟨by simp, .inl ⟨_, _, rfl, run_takeDeferred hK', ?_⟩⟩
    have hs := HS.out
    have hc5 := ((show Boxed _ kR 3 _ from cells_kept (grownBy_putObj' _ D (.deferred none)) (fun r e => by cases e; exact ⟨_, hK', rfl⟩) (H2.out.set (.int .i64 (-1))))).cell
    refine ⟨.int .i64 (-1), ?_, by rw [HV.out], (show Below w.heap.size w _ from by rw [← hs.1]; exact (HB.out.setCell (p := ⟨kR, 0, none⟩) (by show kT ≤ kR; omega) _).trans (belowK_b (w := w) (by omega) _ D _ _ (by omega) hK' rfl rfl))⟩
    simp [results, Try.f22, go_sem, hc5]
  case stop =>
    rintro D c pre X hD hSp ⟨⟨rfl, ini, last, he, h1, h2, h3⟩, hB⟩ hK
    have HV := Lib.hid (forL_pre hSp he h1 h2)
    have hs := HS.out
    gi_wp2
    refine ⟨by simp, .inl ⟨_, _, rfl, run_takeDeferred hK, ?_⟩⟩
    have hc5 := ((show Boxed _ kR 3 _ from cells_kept (grownBy_putObj' _ D (.deferred none)) (fun r e => by cases e; exact ⟨_, hK, rfl⟩) h3)).cell
    refine ⟨.int .i64 ini.length, ?_, by rw [HV.out], (show Below w.heap.size w _ from by rw [← hs.1]; exact hB.trans (belowK_b (w := w) (by omega) _ D _ _ (by omega) hK rfl rfl))⟩
    simp [results, Try.f22, go_sem, hc5]
end Go.Proofs.Ytapoechkbbklfaa
