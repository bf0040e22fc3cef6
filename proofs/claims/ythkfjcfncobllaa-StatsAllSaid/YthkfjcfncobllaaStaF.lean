import Derived.Test.YthkfjcfncobllaaStaE
namespace Go.Proofs.Ythkfjcfncobllaa
open Go.RowKit FP
set_option linter.unusedVariables false
set_option linter.unusedSimpArgs false
set_option maxRecDepth 20000 in
theorem fs_nil (w : World) : Fs w none 0 [] := ⟨⟨rfl, fun _ => rfl, fun ad e => by cases e⟩, fun x hx => by cases hx⟩
set_option maxRecDepth 20000 in
theorem rdf_nil (w : World) (ok : Nat → Prop) : Rd w ok (.sl .f64) ([] : List Nat) [.slice none 0 0] := rd_sl.2 ⟨none, 0, 0, rfl, by omega, by omega, fun _ => rfl, rfl, fun _ => rfl, fun ad e => by cases e⟩
set_option maxRecDepth 20000 in
theorem least0 (w : World) : Calls Try.prog 30 #[.slice none 0 0] w fun e w' => e = .returned (.float .f64 (rcanF (endL .lt []))) ∧ Below w.heap.size w w' := least_any none 0 0 [] w (fs_nil w) (by omega)
set_option maxRecDepth 20000 in
theorem info_dig : (Try.prog.info? 29).map (fun i => (i.zero, i.size, i.bytes)) = some (some (.agg #[.int .i64 0, .int .i64 0, .float .f64 0, .float .f64 0, .float .f64 0, .float .f64 0]), 6, (Try.prog.bytesOf 29)) := by kernel_rfl
set_option maxRecDepth 20000 in
theorem info_bin : (Try.prog.info? 41).map (fun i => (i.zero, i.size, i.bytes)) = some (some (.agg #[.float .f64 0, .float .f64 0, .int .i64 0]), 3, (Try.prog.bytesOf 41)) := by kernel_rfl
set_option maxRecDepth 20000 in
theorem bytes_bin : Try.prog.bytesOf 41 = 24 := by kernel_rfl
set_option maxRecDepth 20000 in
theorem compact_small (A : Option Addr) (n c : Nat) (fv : Value) (hn : n < 2) (w : World) : Calls Try.prog 38 #[.slice A n c, fv] w fun e w' => e = .returned (.slice A n c) ∧ w = w' := by
  have h : (n : Int) < 2 := by omega
  go_enter Try.func38, Try.ntmps38
  go_wp2
  go_ret
  exact ⟨rfl, rfl⟩
theorem blk6 {w : World} {b : Nat} {v0 v1 v2 v3 v4 v5 : Value} {t : TypeId} {f : Nat × Nat} (h : w.heap[b]? = some (.cells #[v0, v1, v2, v3, v4, v5] t f)) : w.cell? ⟨b, 0, none⟩ = some v0 ∧ w.cell? ⟨b, 1, none⟩ = some v1 ∧ w.cell? ⟨b, 2, none⟩ = some v2 ∧ w.cell? ⟨b, 3, none⟩ = some v3 ∧ w.cell? ⟨b, 4, none⟩ = some v4 ∧ w.cell? ⟨b, 5, none⟩ = some v5 := by
  refine ⟨?_, ?_, ?_, ?_, ?_, ?_⟩ <;> simp [World.cell?, h]
set_option maxHeartbeats 1000000 in
set_option maxRecDepth 20000 in
theorem of_nil (w : World) : Calls Try.prog 12 #[.slice none 0 0] w fun e w' => (∃ a b c d, e = .returned (.agg #[.int .i64 0, .int .i64 0, a, b, c, d])) ∧ Below w.heap.size w w' := by
  have hZ := heap_alloc_new w (.cells #[.int .i64 0, .int .i64 0, .float .f64 0, .float .f64 0, .float .f64 0, .float .f64 0] 29)
  have hb0 := below_alloc1 w (.cells #[.int .i64 0, .int .i64 0, .float .f64 0, .float .f64 0, .float .f64 0, .float .f64 0] 29)
  go_enter Try.func12, Try.ntmps12
  go_wp2_with fail
  obtain ⟨w0, hw0⟩ : ∃ w0, w.alloc (.cells #[.int .i64 0, .int .i64 0, .float .f64 0, .float .f64 0, .float .f64 0, .float .f64 0] 29) = w0 := ⟨_, rfl⟩
  rw [hw0] at hZ hb0 ⊢
  refine (known_any w0 _ [] (rdf_nil _ _) (by decide)).mono ?_
  rintro e w1 ⟨v1, rfl, hO1, hb1⟩
  obtain ⟨A1, c1, rfl, _⟩ := Own.form hO1
  rw [show (knownL []).length = 0 from rfl]
  go_wp2_with fail
  refine (least0 w1).mono ?_
  rintro e w2 ⟨rfl, hb2⟩
  have hb02 := hb0.trans ((hb1.trans (hb2.mono hb1.size)).mono hb0.size)
  have hlt := blk_lt hZ
  have HZ2 := Lib.hid (blk_below (blk_below hZ hb1 hlt) hb2 (Nat.lt_of_lt_of_le hlt hb1.size))
  have HB2 := Lib.hid hb02
  clear hZ hb1 hb2 hb02 hO1 hlt hb0
  have HZ3 := Lib.hid (blk_below HZ2.out (below_alloc1 w2 (.cells #[.int .i64 0, .int .i64 0, .float .f64 0, .float .f64 0, .float .f64 0, .float .f64 0] 29)) (blk_lt HZ2.out))
  have hlt2 := blk_lt HZ2.out
  go_wp2_with (first
    | (refine wpL_store rfl 29 (.tmp 5) (.tmp 26) rfl w2.heap.size rfl _ _ 29 rfl (heap_alloc_new w2 _) rfl rfl (by intro v hv; simp at hv; rcases hv with rfl | rfl | rfl | rfl | rfl | rfl <;> rfl) ?_
       intro w3 hw3 hg3
       have HC3 := Lib.hid hw3
       have HZ4 := Lib.hid (blk_grown HZ3.out hg3 (by intro e; injection e; omega))
       have HB3 := Lib.hid ((HB2.out.alloc HB2.out.size _).grown hg3 (by have := HB2.out.size; simp; omega) (fun k e => by injection e with e; have := HB2.out.size; omega))
       clear hw3 hg3)
    | (refine wpL_load rfl 29 _ rfl _ rfl _ _ (At.blk HC3.out) Try.underlying29 rfl rfl ?_)
    | (refine wpL_store rfl 29 (.tmp 2) (.tmp 30) rfl w.heap.size rfl _ _ 29 rfl HZ4.out rfl rfl (by intro v hv; simp at hv; rcases hv with rfl | rfl | rfl | rfl | rfl | rfl <;> rfl) ?_
       intro w4 hw4 hg4))
  refine bodyPost_ret (results_cell_row rfl _ _ w.heap.size 29 _ (0, 0) _ rfl hw4 Try.underlying29 rfl rfl) rfl ?_
  exact ⟨⟨_, _, _, _, rfl⟩, HB3.out.grown hg4 HB3.out.size (fun k e => by injection e with e; omega)⟩
set_option maxHeartbeats 1000000 in
set_option maxRecDepth 20000 in
theorem bins_nil (w : World) : Calls Try.prog 18 #[.slice none 0 0, .slice none 0 0] w fun e w' => (∃ A c, e = .returned (.slice A 1 c)) ∧ Below w.heap.size w w' := by
  go_enter Try.func18, Try.ntmps18
  go_wp2_with fail
  refine (known_any w _ [] (rdf_nil _ _) (by decide)).mono ?_
  rintro e w1 ⟨v1, rfl, hO1, hb1⟩
  obtain ⟨A1, c1, rfl, _, _, _, hR1⟩ := Own.form hO1
  rw [show (knownL []).length = 0 from rfl]
  go_wp2_with fail
  refine (sort_any w1 A1 0 c1 [] hR1.any (by omega)).mono ?_
  rintro e w2 ⟨v2, rfl, hO2, hb2⟩
  obtain ⟨A2, c2, rfl, _, _, _, hR2⟩ := Own.form hO2
  rw [show (sortK []).length = 0 from sortK_len []]
  have HB2 := Lib.hid (hb1.trans (hb2.mono hb1.size))
  clear hO1 hO2 hR1 hR2 hb1 hb2
  go_wp2_with fail
  refine (compact_small A2 0 c2 _ (by omega) w2).mono ?_
  rintro e w' ⟨rfl, rfl⟩
  go_wp2_with (go_at_call 40; refine (inf_neg _).mono ?_; rintro e w' ⟨rfl, rfl⟩)
  refine (least0 w2).mono ?_
  rintro e w3 ⟨rfl, hb3⟩
  have HB3 := Lib.hid (HB2.out.trans (hb3.mono HB2.out.size))
  have HB4 := Lib.hid (HB3.out.alloc HB3.out.size (.cells (#[.float .f64 18442240474082181120, .float .f64 (rcanF (endL .lt [])), .int .i64 0] : Array Value) 41))
  clear hb3
  go_wp2_with (refine wpL_lit1 rfl (cs := [.float .f64 18442240474082181120, .float .f64 (rcanF (endL .lt [])), .int .i64 0]) (.tmp 18) rfl rfl Try.underlying36 info_bin rfl (by decide) (by decide) rfl ?_)
  go_loopw [6, 22] (fun s6 s22 wr => (∃ A c, s6 = .slice A 1 c) ∧ s22 = .int .i64 0 ∧ Below w.heap.size w wr) (fun _ _ _ => 0)
  case atStart => exact ⟨⟨_, _, rfl⟩, rfl, HB4.out⟩
  case round =>
    obtain ⟨⟨A6, c6, rfl⟩, rfl, hbel⟩ := hrel
    have HB5 := Lib.hid hbel
    clear hbel
    go_wp2_with fail
    refine (known_any wr _ [] (rdf_nil _ _) (by decide)).mono ?_
    rintro e w5 ⟨v5, rfl, hO5, hb5⟩
    obtain ⟨A5, c5, rfl, _⟩ := Own.form hO5
    rw [show (knownL []).length = 0 from rfl]
    have HB6 := Lib.hid (HB5.out.trans (hb5.mono HB5.out.size))
    clear hO5 hb5
    go_wp2_with fail
    go_loopw [43] (fun s43 wr => s43 = .int .i64 0 ∧ Below w.heap.size w wr) (fun _ _ => 0)
    case atStart => exact ⟨rfl, HB6.out⟩
    case round =>
      obtain ⟨rfl, hbel⟩ := hrel
      have HB7 := Lib.hid hbel
      clear hbel
      go_wp2_with fail
      go_ret
      exact ⟨⟨_, _, rfl⟩, HB7.out⟩
instance decLeK : DecidableRel leK := fun x y => inferInstanceAs (Decidable (keyV x ≤ keyV y))
set_option maxRecDepth 20000 in
theorem rank312 : rankL [4613937818241073152, 4607182418800017408, 4611686018427387904] 1 2 = (4611686018427387904, true) := by
  have hs : sortK (knownL [4613937818241073152, 4607182418800017408, 4611686018427387904]) = [4607182418800017408, 4611686018427387904, 4613937818241073152] := by
    have hk : knownL [4613937818241073152, 4607182418800017408, 4611686018427387904] = [4613937818241073152, 4607182418800017408, 4611686018427387904] := by decide +kernel
    rw [hk]
    refine (sortK_uniq (by decide +kernel) ?_ ?_).symm
    · have hm : [4613937818241073152, 4607182418800017408, 4611686018427387904].map rcanF = [4613937818241073152, 4607182418800017408, 4611686018427387904] := by decide +kernel
      rw [hm]
      exact (List.Perm.cons _ (List.Perm.swap _ _ _)).trans ((List.Perm.swap _ _ _).trans (List.Perm.refl _)) |>.symm |>.symm
    · decide +kernel
  have hl : (knownL [4613937818241073152, 4607182418800017408, 4611686018427387904]).length = 3 := by decide +kernel
  unfold rankL
  rw [hs, hl]
  rfl
end Go.Proofs.Ythkfjcfncobllaa
