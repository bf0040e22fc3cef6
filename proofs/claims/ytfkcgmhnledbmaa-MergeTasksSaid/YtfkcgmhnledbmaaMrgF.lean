import Derived.Test.YtfkcgmhnledbmaaMrgE
namespace Go.Proofs.Ytfkcgmhnledbmaa
open Go.RowKit FP
set_option linter.unusedVariables false
set_option linter.unusedSimpArgs false
attribute [local go_sem] run_store_float
def flagsL (b0 b1 b2 b3 b4 : Bool) : List (Bool × Int) := [(b0, 5), (b1, 1), (b2, 2), (b3, 3), (b4, 4)]
def clL (l : List (Bool × Int)) : List Int := (l.filter (·.1)).map (·.2)
set_option maxRecDepth 20000 in
theorem clL_yes {L : List (Bool × Int)} {i : Nat} {n : Int} (hx : L[i]? = some (true, n)) : clL (L.take (i + 1)) = clL (L.take i) ++ [n] := by
  unfold clL
  rw [filt_yes (p := fun x : Bool × Int => x.1) hx rfl, List.map_append]
  rfl
set_option maxRecDepth 20000 in
theorem clL_no {L : List (Bool × Int)} {i : Nat} {n : Int} (hx : L[i]? = some (false, n)) : clL (L.take (i + 1)) = clL (L.take i) := by
  unfold clL
  rw [filt_no (p := fun x : Bool × Int => x.1) hx rfl]
set_option maxRecDepth 20000 in
theorem rd_intv {w : World} {ok : Nat → Prop} {x : Int} (h : (Lit.int .i64 x).wf = true) : Rd w ok (.int .i64) x [.int .i64 x] := ⟨rfl, h⟩
theorem blk5 {w : World} {b : Nat} {v0 v1 v2 v3 v4 : Value} {t : TypeId} {f : Nat × Nat} (h : w.heap[b]? = some (.cells #[v0, v1, v2, v3, v4] t f)) : w.cell? ⟨b, 0, none⟩ = some v0 ∧ w.cell? ⟨b, 1, none⟩ = some v1 ∧ w.cell? ⟨b, 2, none⟩ = some v2 ∧ w.cell? ⟨b, 3, none⟩ = some v3 ∧ w.cell? ⟨b, 4, none⟩ = some v4 := by
  refine ⟨?_, ?_, ?_, ?_, ?_⟩ <;> simp [World.cell?, h]
set_option maxRecDepth 20000 in
theorem rdl_int {w w' : World} {ok ok' : Nat → Prop} : ∀ {l : List Int} {xs : List Value}, RdL w ok (.int .i64) l xs → RdL w' ok' (.int .i64) l xs
  | [], _, h => h
  | x :: l, xs, h => by
    obtain ⟨c1, c2, h1, h2, h3⟩ := h
    exact ⟨c1, c2, h1, h2, rdl_int h3⟩
set_option maxRecDepth 20000 in
theorem own_keepI {w w' : World} {base b g : Nat} {v : Value} {l : List Int} (h : Own w base 3 (.int .i64) v l) (hg : w.grownBy w' (some g)) (hne : g < base) (hb : b ≤ base) : Own w' b 3 (.int .i64) v l := by
  obtain ⟨xs, ⟨h1, h2⟩, h3⟩ := h
  refine ⟨xs, ⟨h1, ?_⟩, rdl_int h3⟩
  rcases h2 with h2 | ⟨k, cap, cur, e, hk, hh, hr⟩
  · exact .inl h2
  · exact .inr ⟨k, cap, cur, e, by omega, (hg.block k (blk_lt hh) (by intro e; injection e with e; omega)).trans hh, hr⟩
set_option maxHeartbeats 4000000 in
set_option maxRecDepth 20000 in
theorem mtasks_any (w : World) (i0 l0 i1 l1 i2 l2 : Int) (t0 t1 t2 : ByteArray) (d0 d1 d2 : Bool) (r0 e0 r1 e1 r2 e2 : Nat) (G0 G1 G2 : Option Addr) (n0 c0 n1 c1 n2 c2 : Nat) (g0 g1 g2 : List ByteArray) (h0 : Rows w anyB .str G0 n0 g0) (h1 : Rows w anyB .str G1 n1 g1) (h2 : Rows w anyB .str G2 n2 g2) (b0 : n0 ≤ 1000) (b1 : n1 ≤ 1000) (b2 : n2 ≤ 1000) :
    Calls Try.prog 7 #[.agg #[Value.int .u64 i0, Value.int .u64 l0, Value.string t0, Value.bool d0, Value.float .f64 r0, Value.float .f64 e0, Value.slice G0 n0 c0], .agg #[Value.int .u64 i1, Value.int .u64 l1, Value.string t1, Value.bool d1, Value.float .f64 r1, Value.float .f64 e1, Value.slice G1 n1 c1], .agg #[Value.int .u64 i2, Value.int .u64 l2, Value.string t2, Value.bool d2, Value.float .f64 r2, Value.float .f64 e2, Value.slice G2 n2 c2]] w fun e w' => ∃ (A6 : Option Addr) (m : Nat) (vcl : Value), e = .returned (.tuple #[.agg #[.int .u64 i0, .int .u64 (pk (l2 == l0) (l1 == l2) (l1 == l0) l1 l2).1, .string (pk (t2.toList == t0.toList) (t1.toList == t2.toList) (t1.toList == t0.toList) t1 t2).1, .bool (pk (d2 == d0) (d1 == d2) (d1 == d0) d1 d2).1, .float .f64 (pk (keyF r2 == keyF r0) (keyF r1 == keyF r2) (keyF r1 == keyF r0) r1 r2).1, .float .f64 (pk (keyF e2 == keyF e0) (keyF e1 == keyF e2) (keyF e1 == keyF e0) e1 e2).1, .slice A6 m m], vcl]) ∧ m = min (tidy (tagX g0 g1 g2)).length 4 ∧ Rows w' anyB .str A6 m ((tidy (tagX g0 g1 g2)).take m) ∧ Own w' w.heap.size 3 (.int .i64) vcl (clL (flagsL (pk (l2 == l0) (l1 == l2) (l1 == l0) l1 l2).2 (pk (t2.toList == t0.toList) (t1.toList == t2.toList) (t1.toList == t0.toList) t1 t2).2 (pk (d2 == d0) (d1 == d2) (d1 == d0) d1 d2).2 (pk (keyF r2 == keyF r0) (keyF r1 == keyF r2) (keyF r1 == keyF r0) r1 r2).2 (pk (keyF e2 == keyF e0) (keyF e1 == keyF e2) (keyF e1 == keyF e0) e1 e2).2)) ∧ Below w.heap.size w w' := by
  obtain ⟨p1, hp1⟩ : ∃ p, pk (l2 == l0) (l1 == l2) (l1 == l0) l1 l2 = p := ⟨_, rfl⟩
  obtain ⟨p2, hp2⟩ : ∃ p, pk (t2.toList == t0.toList) (t1.toList == t2.toList) (t1.toList == t0.toList) t1 t2 = p := ⟨_, rfl⟩
  obtain ⟨p3, hp3⟩ : ∃ p, pk (d2 == d0) (d1 == d2) (d1 == d0) d1 d2 = p := ⟨_, rfl⟩
  obtain ⟨p4, hp4⟩ : ∃ p, pk (keyF r2 == keyF r0) (keyF r1 == keyF r2) (keyF r1 == keyF r0) r1 r2 = p := ⟨_, rfl⟩
  obtain ⟨p5, hp5⟩ : ∃ p, pk (keyF e2 == keyF e0) (keyF e1 == keyF e2) (keyF e1 == keyF e0) e1 e2 = p := ⟨_, rfl⟩
  have HP1 := Lib.hid (fun W => pick_u W l0 l1 l2)
  have HP2 := Lib.hid (fun W => pick_s W t0 t1 t2)
  have HP3 := Lib.hid (fun W => pick_b W d0 d1 d2)
  have HP4 := Lib.hid (fun W => pick_f W r0 r1 r2)
  have HP5 := Lib.hid (fun W => pick_f W e0 e1 e2)
  rw [hp1] at HP1 ⊢
  rw [hp2] at HP2 ⊢
  rw [hp3] at HP3 ⊢
  rw [hp4] at HP4 ⊢
  rw [hp5] at HP5 ⊢
  clear hp1 hp2 hp3 hp4 hp5
  obtain ⟨p11, p12⟩ := p1
  obtain ⟨p21, p22⟩ := p2
  obtain ⟨p31, p32⟩ := p3
  obtain ⟨p41, p42⟩ := p4
  obtain ⟨p51, p52⟩ := p5
  simp only at HP1 HP2 HP3 HP4 HP5 ⊢
  obtain ⟨T, hT⟩ : ∃ T, tidy (tagX g0 g1 g2) = T := ⟨_, rfl⟩
  rw [hT]
  have H0 := Lib.hid h0
  have H1 := Lib.hid h1
  have H2 := Lib.hid h2
  clear h0 h1 h2
  go_enter Try.func7, Try.ntmps7
  go_wp2_with fail
  refine (HP1.out _).mono ?_
  rintro e w' ⟨rfl, rfl⟩
  go_wp2_with fail
  refine (HP2.out _).mono ?_
  rintro e w' ⟨rfl, rfl⟩
  go_wp2_with fail
  refine (HP3.out _).mono ?_
  rintro e w' ⟨rfl, rfl⟩
  go_wp2_with fail
  refine (HP4.out _).mono ?_
  rintro e w' ⟨rfl, rfl⟩
  go_wp2_with fail
  refine (HP5.out _).mono ?_
  rintro e w' ⟨rfl, rfl⟩
  go_wp2_with fail
  obtain ⟨w4, hw4⟩ : ∃ w4, ((((w.alloc (.cells #[Value.int .u64 i0, Value.int .u64 l0, Value.string t0, Value.bool d0, Value.float .f64 r0, Value.float .f64 e0, Value.slice G0 n0 c0] 26)).alloc (.cells #[Value.int .u64 i1, Value.int .u64 l1, Value.string t1, Value.bool d1, Value.float .f64 r1, Value.float .f64 e1, Value.slice G1 n1 c1] 26)).alloc (.cells #[Value.int .u64 i2, Value.int .u64 l2, Value.string t2, Value.bool d2, Value.float .f64 r2, Value.float .f64 e2, Value.slice G2 n2 c2] 26)).alloc (.cells #[Value.int .u64 0, Value.int .u64 0, Value.string ⟨#[]⟩, Value.bool false, Value.float .f64 0, Value.float .f64 0, Value.slice none 0 0] 26)) = w4 := ⟨_, rfl⟩
  have hs4 : w4.heap.size = w.heap.size + 4 := by rw [← hw4]; simp
  have hb4 : Below w.heap.size w w4 := by
    rw [← hw4]
    exact (((((Below.refl _ _).alloc (Nat.le_refl _) _).alloc (by simp) _).alloc (by simp; omega) _).alloc (by simp; omega) _)
  have hz4 : w4.heap[w.heap.size + 3]? = some (.cells #[Value.int .u64 0, Value.int .u64 0, Value.string ⟨#[]⟩, Value.bool false, Value.float .f64 0, Value.float .f64 0, Value.slice none 0 0] 26 (0, 0)) := by
    rw [← hw4]
    have := heap_alloc_new (((w.alloc (.cells #[Value.int .u64 i0, Value.int .u64 l0, Value.string t0, Value.bool d0, Value.float .f64 r0, Value.float .f64 e0, Value.slice G0 n0 c0] 26)).alloc (.cells #[Value.int .u64 i1, Value.int .u64 l1, Value.string t1, Value.bool d1, Value.float .f64 r1, Value.float .f64 e1, Value.slice G1 n1 c1] 26)).alloc (.cells #[Value.int .u64 i2, Value.int .u64 l2, Value.string t2, Value.bool d2, Value.float .f64 r2, Value.float .f64 e2, Value.slice G2 n2 c2] 26)) (.cells #[Value.int .u64 0, Value.int .u64 0, Value.string ⟨#[]⟩, Value.bool false, Value.float .f64 0, Value.float .f64 0, Value.slice none 0 0] 26)
    rwa [show (((w.alloc (.cells #[Value.int .u64 i0, Value.int .u64 l0, Value.string t0, Value.bool d0, Value.float .f64 r0, Value.float .f64 e0, Value.slice G0 n0 c0] 26)).alloc (.cells #[Value.int .u64 i1, Value.int .u64 l1, Value.string t1, Value.bool d1, Value.float .f64 r1, Value.float .f64 e1, Value.slice G1 n1 c1] 26)).alloc (.cells #[Value.int .u64 i2, Value.int .u64 l2, Value.string t2, Value.bool d2, Value.float .f64 r2, Value.float .f64 e2, Value.slice G2 n2 c2] 26)).heap.size = w.heap.size + 3 by simp] at this
  obtain ⟨w5, hw5⟩ : ∃ w5, w4.alloc (.cells #[Value.int .u64 i0, Value.int .u64 p11, Value.string p21, Value.bool p31, Value.float .f64 p41, Value.float .f64 p51, Value.slice none 0 0] 26) = w5 := ⟨_, rfl⟩
  have hc5 := heap_alloc_new w4 (.cells #[Value.int .u64 i0, Value.int .u64 p11, Value.string p21, Value.bool p31, Value.float .f64 p41, Value.float .f64 p51, Value.slice none 0 0] 26)
  rw [hs4, hw5] at hc5
  have hs5 : w5.heap.size = w.heap.size + 5 := by rw [← hw5]; simp; omega
  have hb45 := below_alloc1 w4 (.cells #[Value.int .u64 i0, Value.int .u64 p11, Value.string p21, Value.bool p31, Value.float .f64 p41, Value.float .f64 p51, Value.slice none 0 0] 26)
  rw [hw5] at hb45
  have hz5 := blk_below hz4 hb45 (blk_lt hz4)
  have hb5 := hb4.trans (hb45.mono hb4.size)
  rw [hw4, hw5]
  clear hw4 hw5 hb45 hz4 hb4 hs4
  refine (tags_any w5 G0 G1 G2 n0 c0 n1 c1 n2 c2 g0 g1 g2 (H0.out.below hb5) (H1.out.below hb5) (H2.out.below hb5) b0 b1 b2).mono ?_
  rintro e w6 ⟨v6, rfl, hO6, hb6⟩
  obtain ⟨A6, c6, rfl, hqc, _, _, hR6⟩ := Own.form hO6
  rw [hT] at hO6 hR6 hqc ⊢
  obtain ⟨q, hq⟩ : ∃ q, T.length = q := ⟨_, rfl⟩
  have HQ := Lib.hid hq
  rw [hq] at hO6 hR6 hqc ⊢
  have hq1 : q ≤ 3000 := by
    have h1 := tidy_le (tagX g0 g1 g2)
    rw [hT, hq] at h1
    unfold tagX at h1
    rw [List.length_append] at h1
    have h2 := List.length_filter_le (fun t => hasB g2 t || !hasB g0 t) g1
    have h3 := List.length_filter_le (fun t => !hasB g0 t) g2
    have := H1.out.1
    have := H2.out.1
    omega
  obtain ⟨m, hm⟩ : ∃ m : Nat, min q 4 = m := ⟨_, rfl⟩
  have hmin : min (q : Int) 4 = (m : Int) := by omega
  have hmc : (m : Int) ≤ (c6 : Int) := by omega
  have hmc2 : m ≤ c6 := by omega
  have hm0 : (0 : Int) ≤ (m : Int) := by omega
  have HZ6 := Lib.hid (blk_below hz5 hb6 (blk_lt hz5))
  have hc6 := blk_below hc5 hb6 (blk_lt hc5)
  have HR6 := Lib.hid (rows_to (hR6.weak (ok' := fun k => w.heap.size + 5 ≤ k) (fun k hk _ => by have : w5.heap.size ≤ k := hk; have := hs5; omega)) m (by omega))
  have HM := Lib.hid (show m = min T.length 4 by rw [hq, hm])
  have HB6 := Lib.hid (hb5.trans (hb6.mono hb5.size))
  have HC6 := Lib.hid hc6
  obtain ⟨-, -, -, -, -, -, y6⟩ := blk7 hc6
  have f6 := blk_free hc6 6
  have HL6 := Lib.hid (show w.heap.size + 4 < w6.heap.size from blk_lt hc6)
  clear hz5 hc5 hc6 hO6 hR6 hb6 hb5 hm
  go_wp2_with fail
  have HC6' := Lib.hid (blk_set HC6.out 6 (.slice A6 m m))
  have HZ6' := Lib.hid (blk_other HZ6.out 6 (.slice A6 m m) (k := w.heap.size + 4) (by omega))
  obtain ⟨w7, hw7⟩ : ∃ w7, (w6.setCell ⟨w.heap.size + 4, 6, none⟩ (.slice A6 m m)).alloc (.cells #[Value.int .i64 5, Value.int .i64 1, Value.int .i64 2, Value.int .i64 3, Value.int .i64 4] 57) = w7 := ⟨_, rfl⟩
  have ha7 := heap_alloc_new (w6.setCell ⟨w.heap.size + 4, 6, none⟩ (.slice A6 m m)) (.cells #[Value.int .i64 5, Value.int .i64 1, Value.int .i64 2, Value.int .i64 3, Value.int .i64 4] 57)
  have hb67 := below_alloc1 (w6.setCell ⟨w.heap.size + 4, 6, none⟩ (.slice A6 m m)) (.cells #[Value.int .i64 5, Value.int .i64 1, Value.int .i64 2, Value.int .i64 3, Value.int .i64 4] 57)
  rw [hw7] at ha7 hb67
  have hs6 : (w6.setCell ⟨w.heap.size + 4, 6, none⟩ (.slice A6 m m)).heap.size = w6.heap.size := by simp
  rw [hs6] at ha7
  have HA7 := Lib.hid ha7
  have HC7 := Lib.hid (blk_below HC6'.out hb67 (blk_lt HC6'.out))
  have HZ7 := Lib.hid (blk_below HZ6'.out hb67 (blk_lt HZ6'.out))
  have hs67 := hb67.size
  have HB7 := Lib.hid ((HB6.out.setCell (p := ⟨w.heap.size + 4, 6, none⟩) (by show w.heap.size ≤ w.heap.size + 4; omega) (.slice A6 m m)).trans (hb67.mono (by have := HB6.out.size; simp; omega)))
  have HR7 := Lib.hid (show Rows w7 (fun k => w.heap.size + 5 ≤ k) .str A6 m (T.take m) from HR6.out.of (fun a v hk hc => cell_below hb67 (by
    rw [World.cell?_setCell_far _ _ _ _ (by have h9 : w.heap.size + 5 ≤ a.block := hk; show w.heap.size + 4 ≠ a.block; omega)]; exact hc)) (fun k hk _ => hk))
  have hw7' : (w6.setCell ⟨w.heap.size + 1 + 1 + 1 + 1, 6, none⟩ (.slice A6 m m)).alloc (.cells #[Value.int .i64 5, Value.int .i64 1, Value.int .i64 2, Value.int .i64 3, Value.int .i64 4] 57) = w7 := hw7
  rw [hw7']
  clear ha7 hb67 hw7 hw7' hs6 y6 f6
  go_loopw [15, 100] (fun s15 s100 wr => ∃ (i : Nat) (v : Value), i ≤ 5 ∧ v = s15 ∧ s100 = .int .i64 i ∧ Own wr w7.heap.size 3 (.int .i64) v (clL ((flagsL p12 p22 p32 p42 p52).take i)) ∧ Below w7.heap.size w7 wr) (fun _ s100 _ => 5 - (intOf s100).toNat)
  case atStart => exact ⟨0, _, by omega, rfl, rfl, Own.nil _ _ _ _, Below.refl _ _⟩
  case round =>
    obtain ⟨i, v, hi, rfl, rfl, hO, hbel⟩ := hrel
    have HB := Lib.hid hbel
    have HO := Lib.hid hO
    obtain ⟨Av, cv, rfl, _⟩ := Own.form hO
    obtain ⟨u, hu⟩ : ∃ u, (clL ((flagsL p12 p22 p32 p42 p52).take i)).length = u := ⟨_, rfl⟩
    have hu5 : u ≤ 5 := by
      rw [← hu]
      unfold clL
      rw [List.length_map]
      exact Nat.le_trans (List.length_filter_le _ _) (by rw [List.length_take]; unfold flagsL; simp; omega)
    rw [hu] at HO ⊢
    have hcz := blk_below HA7.out hbel (blk_lt HA7.out)
    obtain ⟨z0, z1, z2, z3, z4⟩ := blk5 hcz
    clear hO hcz hbel
    by_cases hlt : i < 5
    · rcases (by omega : i = 0 ∨ i = 1 ∨ i = 2 ∨ i = 3 ∨ i = 4) with rfl | rfl | rfl | rfl | rfl
      · have ha : wr.cell? ⟨w6.heap.size, 0, none⟩ = some (.int .i64 5) := z0
        clear z0 z1 z2 z3 z4
        cases p12 with
        | false =>
          have hix : ∀ W : World, (Instr.index 58 (.agg #[.bool false, .bool p22, .bool p32, .bool p42, .bool p52]) (.int .i64 0)).run Try.prog W = .ok (.bool false) W := fun _ => by kernel_rfl
          have HN := Lib.hid (clL_no (L := (flagsL false p22 p32 p42 p52)) (i := 0) (n := 5) rfl)
          go_wp2_with fail
          go_roundw
          case measure => simp [intOf]
          case rel => exact ⟨0 + 1, _, by omega, rfl, by go_num, by rw [HN.out]; exact HO.out, HB.out⟩
        | true =>
          have hix : ∀ W : World, (Instr.index 58 (.agg #[.bool true, .bool p22, .bool p32, .bool p42, .bool p52]) (.int .i64 0)).run Try.prog W = .ok (.bool true) W := fun _ => by kernel_rfl
          have HN := Lib.hid (clL_yes (L := (flagsL true p22 p32 p42 p52)) (i := 0) (n := 5) rfl)
          have hq1 : (clL ((flagsL true p22 p32 p42 p52).take (0 + 1))).length = u + 1 := by rw [HN.out, List.length_append, hu]; rfl
          go_wp2_with (at_builtin; refine wp_appO (m := 1) (r := [(5 : Int)]) (ys := [.int .i64 5]) rfl (.tmp 105) (.tmp 109) rfl (HO.out.below (below_alloc1 wr _)) rfl (fun e => by cases e) (fun ad' e => by cases e; exact At.blk (heap_alloc_new wr _)) (RdL.single (rd_intv (by decide))) (HB.out.alloc HB.out.size _) Try.underlying33 info_int rfl (by decide) rfl rfl (by rw [hu]; omega) (by rw [hu]; omega) (by have := HB.out.size; simp; omega) ?_; intro v9 w9 hO9 hb9 _ _; rw [← HN.out] at hO9; obtain ⟨A9, c9, rfl, _⟩ := Own.form hO9; rw [hq1] at hO9 ⊢; have HO9 := Lib.hid hO9; clear hO9)
          go_roundw
          case measure => simp [intOf]
          case rel => exact ⟨0 + 1, _, by omega, rfl, by go_num, HO9.out, hb9⟩
      · have ha : wr.cell? ⟨w6.heap.size, 1, none⟩ = some (.int .i64 1) := z1
        clear z0 z1 z2 z3 z4
        cases p22 with
        | false =>
          have hix : ∀ W : World, (Instr.index 58 (.agg #[.bool p12, .bool false, .bool p32, .bool p42, .bool p52]) (.int .i64 1)).run Try.prog W = .ok (.bool false) W := fun _ => by kernel_rfl
          have HN := Lib.hid (clL_no (L := (flagsL p12 false p32 p42 p52)) (i := 1) (n := 1) rfl)
          go_wp2_with fail
          go_roundw
          case measure => simp [intOf]
          case rel => exact ⟨1 + 1, _, by omega, rfl, by go_num, by rw [HN.out]; exact HO.out, HB.out⟩
        | true =>
          have hix : ∀ W : World, (Instr.index 58 (.agg #[.bool p12, .bool true, .bool p32, .bool p42, .bool p52]) (.int .i64 1)).run Try.prog W = .ok (.bool true) W := fun _ => by kernel_rfl
          have HN := Lib.hid (clL_yes (L := (flagsL p12 true p32 p42 p52)) (i := 1) (n := 1) rfl)
          have hq1 : (clL ((flagsL p12 true p32 p42 p52).take (1 + 1))).length = u + 1 := by rw [HN.out, List.length_append, hu]; rfl
          go_wp2_with (at_builtin; refine wp_appO (m := 1) (r := [(1 : Int)]) (ys := [.int .i64 1]) rfl (.tmp 105) (.tmp 109) rfl (HO.out.below (below_alloc1 wr _)) rfl (fun e => by cases e) (fun ad' e => by cases e; exact At.blk (heap_alloc_new wr _)) (RdL.single (rd_intv (by decide))) (HB.out.alloc HB.out.size _) Try.underlying33 info_int rfl (by decide) rfl rfl (by rw [hu]; omega) (by rw [hu]; omega) (by have := HB.out.size; simp; omega) ?_; intro v9 w9 hO9 hb9 _ _; rw [← HN.out] at hO9; obtain ⟨A9, c9, rfl, _⟩ := Own.form hO9; rw [hq1] at hO9 ⊢; have HO9 := Lib.hid hO9; clear hO9)
          go_roundw
          case measure => simp [intOf]
          case rel => exact ⟨1 + 1, _, by omega, rfl, by go_num, HO9.out, hb9⟩
      · have ha : wr.cell? ⟨w6.heap.size, 2, none⟩ = some (.int .i64 2) := z2
        clear z0 z1 z2 z3 z4
        cases p32 with
        | false =>
          have hix : ∀ W : World, (Instr.index 58 (.agg #[.bool p12, .bool p22, .bool false, .bool p42, .bool p52]) (.int .i64 2)).run Try.prog W = .ok (.bool false) W := fun _ => by kernel_rfl
          have HN := Lib.hid (clL_no (L := (flagsL p12 p22 false p42 p52)) (i := 2) (n := 2) rfl)
          go_wp2_with fail
          go_roundw
          case measure => simp [intOf]
          case rel => exact ⟨2 + 1, _, by omega, rfl, by go_num, by rw [HN.out]; exact HO.out, HB.out⟩
        | true =>
          have hix : ∀ W : World, (Instr.index 58 (.agg #[.bool p12, .bool p22, .bool true, .bool p42, .bool p52]) (.int .i64 2)).run Try.prog W = .ok (.bool true) W := fun _ => by kernel_rfl
          have HN := Lib.hid (clL_yes (L := (flagsL p12 p22 true p42 p52)) (i := 2) (n := 2) rfl)
          have hq1 : (clL ((flagsL p12 p22 true p42 p52).take (2 + 1))).length = u + 1 := by rw [HN.out, List.length_append, hu]; rfl
          go_wp2_with (at_builtin; refine wp_appO (m := 1) (r := [(2 : Int)]) (ys := [.int .i64 2]) rfl (.tmp 105) (.tmp 109) rfl (HO.out.below (below_alloc1 wr _)) rfl (fun e => by cases e) (fun ad' e => by cases e; exact At.blk (heap_alloc_new wr _)) (RdL.single (rd_intv (by decide))) (HB.out.alloc HB.out.size _) Try.underlying33 info_int rfl (by decide) rfl rfl (by rw [hu]; omega) (by rw [hu]; omega) (by have := HB.out.size; simp; omega) ?_; intro v9 w9 hO9 hb9 _ _; rw [← HN.out] at hO9; obtain ⟨A9, c9, rfl, _⟩ := Own.form hO9; rw [hq1] at hO9 ⊢; have HO9 := Lib.hid hO9; clear hO9)
          go_roundw
          case measure => simp [intOf]
          case rel => exact ⟨2 + 1, _, by omega, rfl, by go_num, HO9.out, hb9⟩
      · have ha : wr.cell? ⟨w6.heap.size, 3, none⟩ = some (.int .i64 3) := z3
        clear z0 z1 z2 z3 z4
        cases p42 with
        | false =>
          have hix : ∀ W : World, (Instr.index 58 (.agg #[.bool p12, .bool p22, .bool p32, .bool false, .bool p52]) (.int .i64 3)).run Try.prog W = .ok (.bool false) W := fun _ => by kernel_rfl
          have HN := Lib.hid (clL_no (L := (flagsL p12 p22 p32 false p52)) (i := 3) (n := 3) rfl)
          go_wp2_with fail
          go_roundw
          case measure => simp [intOf]
          case rel => exact ⟨3 + 1, _, by omega, rfl, by go_num, by rw [HN.out]; exact HO.out, HB.out⟩
        | true =>
          have hix : ∀ W : World, (Instr.index 58 (.agg #[.bool p12, .bool p22, .bool p32, .bool true, .bool p52]) (.int .i64 3)).run Try.prog W = .ok (.bool true) W := fun _ => by kernel_rfl
          have HN := Lib.hid (clL_yes (L := (flagsL p12 p22 p32 true p52)) (i := 3) (n := 3) rfl)
          have hq1 : (clL ((flagsL p12 p22 p32 true p52).take (3 + 1))).length = u + 1 := by rw [HN.out, List.length_append, hu]; rfl
          go_wp2_with (at_builtin; refine wp_appO (m := 1) (r := [(3 : Int)]) (ys := [.int .i64 3]) rfl (.tmp 105) (.tmp 109) rfl (HO.out.below (below_alloc1 wr _)) rfl (fun e => by cases e) (fun ad' e => by cases e; exact At.blk (heap_alloc_new wr _)) (RdL.single (rd_intv (by decide))) (HB.out.alloc HB.out.size _) Try.underlying33 info_int rfl (by decide) rfl rfl (by rw [hu]; omega) (by rw [hu]; omega) (by have := HB.out.size; simp; omega) ?_; intro v9 w9 hO9 hb9 _ _; rw [← HN.out] at hO9; obtain ⟨A9, c9, rfl, _⟩ := Own.form hO9; rw [hq1] at hO9 ⊢; have HO9 := Lib.hid hO9; clear hO9)
          go_roundw
          case measure => simp [intOf]
          case rel => exact ⟨3 + 1, _, by omega, rfl, by go_num, HO9.out, hb9⟩
      · have ha : wr.cell? ⟨w6.heap.size, 4, none⟩ = some (.int .i64 4) := z4
        clear z0 z1 z2 z3 z4
        cases p52 with
        | false =>
          have hix : ∀ W : World, (Instr.index 58 (.agg #[.bool p12, .bool p22, .bool p32, .bool p42, .bool false]) (.int .i64 4)).run Try.prog W = .ok (.bool false) W := fun _ => by kernel_rfl
          have HN := Lib.hid (clL_no (L := (flagsL p12 p22 p32 p42 false)) (i := 4) (n := 4) rfl)
          go_wp2_with fail
          go_roundw
          case measure => simp [intOf]
          case rel => exact ⟨4 + 1, _, by omega, rfl, by go_num, by rw [HN.out]; exact HO.out, HB.out⟩
        | true =>
          have hix : ∀ W : World, (Instr.index 58 (.agg #[.bool p12, .bool p22, .bool p32, .bool p42, .bool true]) (.int .i64 4)).run Try.prog W = .ok (.bool true) W := fun _ => by kernel_rfl
          have HN := Lib.hid (clL_yes (L := (flagsL p12 p22 p32 p42 true)) (i := 4) (n := 4) rfl)
          have hq1 : (clL ((flagsL p12 p22 p32 p42 true).take (4 + 1))).length = u + 1 := by rw [HN.out, List.length_append, hu]; rfl
          go_wp2_with (at_builtin; refine wp_appO (m := 1) (r := [(4 : Int)]) (ys := [.int .i64 4]) rfl (.tmp 105) (.tmp 109) rfl (HO.out.below (below_alloc1 wr _)) rfl (fun e => by cases e) (fun ad' e => by cases e; exact At.blk (heap_alloc_new wr _)) (RdL.single (rd_intv (by decide))) (HB.out.alloc HB.out.size _) Try.underlying33 info_int rfl (by decide) rfl rfl (by rw [hu]; omega) (by rw [hu]; omega) (by have := HB.out.size; simp; omega) ?_; intro v9 w9 hO9 hb9 _ _; rw [← HN.out] at hO9; obtain ⟨A9, c9, rfl, _⟩ := Own.form hO9; rw [hq1] at hO9 ⊢; have HO9 := Lib.hid hO9; clear hO9)
          go_roundw
          case measure => simp [intOf]
          case rel => exact ⟨4 + 1, _, by omega, rfl, by go_num, HO9.out, hb9⟩
    · obtain rfl : i = 5 := by omega
      have HT5 := Lib.hid (show clL ((flagsL p12 p22 p32 p42 p52).take 5) = clL (flagsL p12 p22 p32 p42 p52) from rfl)
      have hx := HB.out
      have HCr := Lib.hid (blk_below HC7.out hx (blk_lt HC7.out))
      have HZr := Lib.hid (blk_below HZ7.out hx (blk_lt HZ7.out))
      have hw75 : w.heap.size + 5 ≤ w7.heap.size := by have := HB7.out.size; have := blk_lt HA7.out; have := HL6.out; omega
      clear hx z0 z1 z2 z3 z4
      go_wp2_with (first
        | (refine wpL_load rfl 26 _ rfl _ rfl _ _ (At.blk HCr.out) Try.underlying26 rfl rfl ?_)
        | (refine wpL_store rfl 26 (.tmp 6) (.tmp 112) rfl (w.heap.size + 3) rfl _ _ 26 rfl HZr.out rfl rfl (by intro v hv; simp at hv; rcases hv with rfl | rfl | rfl | rfl | rfl | rfl | rfl <;> rfl) ?_
           intro w8 hw8 hg8))
      refine bodyPost_ret (result_pair rfl _ _ (w.heap.size + 3) 26 _ (0, 0) _ rfl hw8 Try.underlying26 rfl rfl) rfl ?_
      refine ⟨A6, m, .slice Av u cv, rfl, HM.out, ?_, ?_, ?_⟩
      · exact ((HR7.out.below HB.out).of (ok' := anyB) (fun a v hk hc => cell_grown hg8 hc (by intro e; injection e with e; have h9 : w.heap.size + 5 ≤ a.block := hk; omega)) (fun _ _ _ => trivial))
      · rw [← HT5.out]
        exact own_keepI HO.out hg8 (by omega) (by omega)
      · exact (HB7.out.trans (HB.out.mono HB7.out.size)).grown hg8 (by have := HB7.out.size; have := HB.out.size; omega) (fun k e => by injection e with e; omega)
end Go.Proofs.Ytfkcgmhnledbmaa
