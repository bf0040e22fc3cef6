import Derived.Test.YtapoechkbbklfaaNetN
namespace Go.Proofs.Ytapoechkbbklfaa
open Go.RowKit Go.Shelf
set_option linter.unusedVariables false
set_option linter.unusedSimpArgs false
attribute [local go_sem] Oper.semAt_some
set_option maxHeartbeats 1000000 in
set_option maxRecDepth 100000 in
theorem for_none (w : World) (to : Int) : Calls Try.prog 22 #[.pointer none, .int .i64 to] w fun e w' => e = .returned (.int .i64 (-1)) ∧ Below w.heap.size w w' := by
  refine (callsIn_wide (n := 5)).1 (callsIn_of_wp_marks Try.func22 rfl trivial ?_ rfl)
  simp only [Try.ntmps22, List.size_toArray, List.length_cons, List.length_nil, Nat.reduceAdd, Nat.reduceSub, Array.replicate_succ, Array.replicate_zero, List.push_toArray, List.append_toArray, List.nil_append, List.cons_append]
  gi_wp2
  refine ⟨trivial, (callsIn_wide.2 (all_it _ _ (.inl rfl))).mono ?_⟩
  rintro e w' ⟨rfl, rfl⟩
  gi_wp2
  obtain ⟨w1, hw1⟩ : ∃ w1, (((w.alloc (.cells #[.int .i64 to] 3)).alloc (.cells #[.int .i64 0] 3)).alloc (.cells #[.int .i64 0] 3)).alloc (.cells #[.pointer none] 24) = w1 := ⟨_, rfl⟩
  have hz : w1.heap.size = w.heap.size + 4 := by rw [← hw1]; simp
  have hb01 : Below w.heap.size w w1 := by rw [← hw1]; exact (((below_alloc1 w _).alloc (by simp) _).alloc (by simp; omega) _).alloc (by simp; omega) _
  have bR : Boxed w1 (w.heap.size + 1) 3 (.int .i64 0) := by
    rw [← hw1]
    have := ((Boxed.new (w.alloc (.cells #[.int .i64 to] 3)) 3 (.int .i64 0)).alloc (.cells #[.int .i64 0] 3)).alloc (.cells #[.pointer none] 24)
    rwa [World.size_alloc] at this
  have bN : w1.cell? ⟨w.heap.size + 1 + 1 + 1, 0, none⟩ = some (.pointer none) := by
    rw [← hw1]
    have := (Boxed.new (((w.alloc (.cells #[.int .i64 to] 3)).alloc (.cells #[.int .i64 0] 3)).alloc (.cells #[.int .i64 0] 3)) 24 (.pointer none)).cell
    rwa [World.size_alloc, World.size_alloc, World.size_alloc] at this
  rw [hw1]
  clear hw1
  refine wpIn_rangeV rfl (by decide) (gf := 41) (lb := #[.pointer (some ⟨w.heap.size + 1 + 1 + 1, 0, none⟩)]) rfl trivial (enters_of Try.func41 (by kernel_rfl) rfl)
    (encs := encX) (V := fun _ _ _ => False) (Kp := fun _ _ => True) (S := fun xs => xs = []) (Sp := fun _ => True)
    (fun W hbW hzW => all1_nil 4 W (w.heap.size + 1 + 1 + 1) ((hbW.cell (p := ⟨w.heap.size + 1 + 1 + 1, 0, none⟩) (by show w.heap.size + 1 + 1 + 1 < w1.heap.size; omega)).trans bN) _ _ _ _ _ rfl)
    (fun pre _ _ _ _ h _ _ => h) (fun _ _ => trivial) (fun W o _ => trivial) (fun x => rfl)
    (fun pre X => Boxed X (w.heap.size + 1) 3 (.int .i64 0) ∧ Below w.heap.size w X)
    (fun _ _ _ => False)
    (OwnFrom.and (fun pre X Y row h1 hg hr => cells_kept hg (fun r e => (hr r e).2) h1) (ownFrom_below (Nat.le_refl _) (by omega)))
    (fun _ _ _ _ _ hs _ _ => hs)
    ⟨bR, hb01⟩
    (fun x a' X => False)
    (fun x _ _ _ _ h _ _ => h)
    (fun _ _ _ _ _ _ h _ => h.elim) (fun _ _ _ _ _ _ h _ => h.elim) ?done (fun _ _ _ _ _ _ h _ => h.elim)
  case done =>
    rintro D ys X hD hS ⟨i2, hB⟩ hK
    have hcR := i2.cell
    have hfR := i2.frozen
    have HB := Lib.hid hB
    have H2 := Lib.hid i2
    clear hB i2
    gi_wp2
    have hK' := (KeepsOthers.setCell X ⟨w.heap.size + 1, 0, none⟩ (.int .i64 (-1))).same D _ hK rfl
    refine ⟨by simp, .inl ⟨_, _, rfl, run_takeDeferred hK', ?_⟩⟩
    have hc5 := ((show Boxed _ (w.heap.size + 1) 3 _ from cells_kept (grownBy_putObj' _ D (.deferred none)) (fun r e => by cases e; exact ⟨_, hK', rfl⟩) (H2.out.set (.int .i64 (-1))))).cell
    refine ⟨.int .i64 (-1), ?_, rfl, (HB.out.setCell (p := ⟨w.heap.size + 1, 0, none⟩) (by show w.heap.size ≤ w.heap.size + 1; omega) _).trans (belowK_b (w := w) (Nat.le_refl _) _ D _ _ (by omega) hK' rfl rfl)⟩
    simp [results, Try.f22, go_sem, hc5]
set_option maxRecDepth 100000 in
theorem rd_zeroP (w : World) (ok : Nat → Prop) : Rd w ok PKT (0, 0, [], ()) [.int .i64 0, .int .i64 0, .slice none 0 0] :=
  rd_pkt_mk ⟨⟨by decide, by decide⟩, by decide, by decide⟩ (rd_sl.2 ⟨none, 0, 0, rfl, by omega, by omega, fun _ => rfl, rfl, fun _ => rfl, fun ad e => by cases e⟩)
set_option maxRecDepth 100000 in
/-- A new net. -/
theorem new_net {w : World} {room : Int} : NetR (w.alloc (.cells #[.int .i64 room, .slice none 0 0] 76)) w.heap.size (w.heap.size + 1) room (.slice none 0 0) [] :=
  ⟨heap_alloc_new w _, ⟨[], own_nil _ _ _ _, rfl⟩, by omega, by simp, by simp⟩
set_option maxHeartbeats 1000000 in
set_option maxRecDepth 100000 in
theorem net_awake (w : World) : Calls Try.prog 9 #[] w fun e w' => e = .returned (.bool true) ∧ Below w.heap.size w w' := by
  go_enter Try.func9, Try.ntmps9
  go_wp2_with (go_at_call 10; refine (new_any w 1).mono ?_; rintro e w1 ⟨rfl, rfl⟩)
  obtain ⟨w2, hw2⟩ : ∃ w2, (w.alloc (.cells #[.int .i64 (max 1 0), .slice none 0 0] 76)).alloc (.cells #[.int .i64 0, .int .i64 0, .slice none 0 0, .int .i64 0, .int .i64 0, .slice none 0 0] 37) = w2 := ⟨_, rfl⟩
  have hb1 : Below (w.alloc (.cells #[.int .i64 (max 1 0), .slice none 0 0] 76)).heap.size (w.alloc (.cells #[.int .i64 (max 1 0), .slice none 0 0] 76)) w2 := by rw [← hw2]; exact below_alloc1 _ _
  have hb0 : Below w.heap.size w w2 := by rw [← hw2]; exact (below_alloc1 w _).alloc (by simp) _
  have hblk : w2.heap[w.heap.size + 1]? = some (.cells #[.int .i64 0, .int .i64 0, .slice none 0 0, .int .i64 0, .int .i64 0, .slice none 0 0] 37 (0, 0)) := by rw [← hw2]; exact heap_alloc2_new w _ _
  have hN := (new_net (w := w) (room := max 1 0)).below hb1
  rw [hw2]
  have HB := Lib.hid hb0
  have hR : Rows w2 (fun k => k = w.heap.size + 1) PKT (some ⟨w.heap.size + 1, 0, none⟩) 2 [(0, 0, [], ()), (0, 0, [], ())] :=
    rows_of (ad := ⟨w.heap.size + 1, 0, none⟩) (s := PKT) (l := [(0, 0, [], ()), (0, 0, [], ())]) (cs := [.int .i64 0, .int .i64 0, .slice none 0 0, .int .i64 0, .int .i64 0, .slice none 0 0]) ⟨[.int .i64 0, .int .i64 0, .slice none 0 0], [.int .i64 0, .int .i64 0, .slice none 0 0], rfl, rd_zeroP _ _, ⟨[.int .i64 0, .int .i64 0, .slice none 0 0], [], rfl, rd_zeroP _ _, rfl⟩⟩ (fun _ => rfl) (At.blk hblk)
  clear hb0 hb1 hblk hw2
  refine (send_any w2 w.heap.size (w.heap.size + 1) (max 1 0) (.slice none 0 0) [] [(0, 0, [], ()), (0, 0, [], ())] (fun k => k = w.heap.size + 1) (some ⟨w.heap.size + 1, 0, none⟩) 2 2 hN hR (fun k e => ⟨by omega, fun e => by cases e⟩) (fun p hp => by rcases List.mem_cons.1 hp with rfl | hp; exact Nat.zero_le _; obtain rfl := List.mem_singleton.1 hp; exact Nat.zero_le _) (by simp)).mono ?_
  rintro e w3 ⟨rfl, sv, hN3, hT3, hv3⟩
  have HB3 := Lib.hid (HB.out.trans (hT3.below HB.out.size (fun k _ e => by rcases e with e | e; omega; cases e)))
  clear hN3 hT3 hv3 hR hN
  rw [show (sendL (max 1 0) [] [(0, 0, [], ()), (0, 0, [], ())]).2 = 1 from rfl]
  go_wp2_with fail
  go_ret
  exact ⟨rfl, HB3.out⟩
end Go.Proofs.Ytapoechkbbklfaa
