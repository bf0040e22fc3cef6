import Derived.Test.YtfkcgmhnledbmaaMrgJ
import Derived.Test.YtfkcgmhnledbmaaMrgF
import Derived.BigQuiet
import Derived.Deep.Cut
import Derived.Deep.CutRange
namespace Go.Proofs.Ytfkcgmhnledbmaa
open Go.RowKit FP
set_option linter.unusedVariables false
set_option linter.unusedSimpArgs false
attribute [local go_sem] run_store_float
set_option maxRecDepth 20000 in
theorem side_pk {α : Type} (bo ab ao : Bool) (a b : α) : (sideN bo ab ao = 1 ∧ pk bo ab ao a b = (a, false)) ∨ (sideN bo ab ao = 2 ∧ pk bo ab ao a b = (b, false)) ∨ (sideN bo ab ao = 3 ∧ pk bo ab ao a b = (a, true)) := by
  cases bo <;> cases ab <;> cases ao <;> simp [sideN, pk]
set_option maxRecDepth 20000 in
theorem cl_len (l : List (Bool × Int)) : (clL l).length ≤ l.length := by
  unfold clL
  rw [List.length_map]
  exact List.length_filter_le _ _
set_option maxRecDepth 20000 in
theorem cl_no (l : List (Bool × Int)) (n : Int) : clL (l ++ [(false, n)]) = clL l := by
  unfold clL
  rw [List.filter_append, List.map_append]
  simp
set_option maxRecDepth 20000 in
theorem cl_more (l : List (Bool × Int)) (n : Int) : clL (l ++ [(true, n)]) = clL l ++ [n] := by
  unfold clL
  rw [List.filter_append, List.map_append]
  rfl
set_option maxRecDepth 20000 in
theorem own_setI {w : World} {base : Nat} {v : Value} {l : List Int} (h : Own w base 3 (.int .i64) v l) {a : Addr} (ha : a.block < base) (u : Value) : Own (w.setCell a u) base 3 (.int .i64) v l := by
  obtain ⟨xs, h1, h2⟩ := h
  exact ⟨xs, ownsRow_setCell_below h1 ha u, rdl_int h2⟩
set_option maxRecDepth 20000 in
theorem heap_new_at (w : World) (o : Obj) (n : Nat) (h : w.heap.size = n) : (w.alloc o).heap[n]? = some o := by rw [← h]; exact heap_alloc_new w o
set_option maxHeartbeats 4000000 in
set_option maxRecDepth 20000 in
theorem rmtasks_any (w : World) (i0 l0 i1 l1 i2 l2 : Int) (t0 t1 t2 : ByteArray) (d0 d1 d2 : Bool) (r0 e0 r1 e1 r2 e2 : Nat) (G0 G1 G2 : Option Addr) (n0 c0 n1 c1 n2 c2 : Nat) (g0 g1 g2 : List ByteArray) (h0 : Rows w anyB .str G0 n0 g0) (h1 : Rows w anyB .str G1 n1 g1) (h2 : Rows w anyB .str G2 n2 g2) (b0 : n0 ≤ 1000) (b1 : n1 ≤ 1000) (b2 : n2 ≤ 1000) :
    Calls Try.prog 8 #[.agg #[Value.int .u64 i0, Value.int .u64 l0, Value.string t0, Value.bool d0, Value.float .f64 r0, Value.float .f64 e0, Value.slice G0 n0 c0], .agg #[Value.int .u64 i1, Value.int .u64 l1, Value.string t1, Value.bool d1, Value.float .f64 r1, Value.float .f64 e1, Value.slice G1 n1 c1], .agg #[Value.int .u64 i2, Value.int .u64 l2, Value.string t2, Value.bool d2, Value.float .f64 r2, Value.float .f64 e2, Value.slice G2 n2 c2]] w fun e w' => ∃ (A6 : Option Addr) (m cc : Nat) (vcl : Value), e = .returned (.tuple #[.agg #[.int .u64 i0, .int .u64 (pk (l2 == l0) (l1 == l2) (l1 == l0) l1 l2).1, .string (pk (t2.toList == t0.toList) (t1.toList == t2.toList) (t1.toList == t0.toList) t1 t2).1, .bool (pk (d2 == d0) (d1 == d2) (d1 == d0) d1 d2).1, .float .f64 (pk (rkeyF r2 == rkeyF r0) (rkeyF r1 == rkeyF r2) (rkeyF r1 == rkeyF r0) r1 r2).1, .float .f64 (pk (rkeyF e2 == rkeyF e0) (rkeyF e1 == rkeyF e2) (rkeyF e1 == rkeyF e0) e1 e2).1, .slice A6 m cc], vcl]) ∧ m = min (tidy (tagX g0 g1 g2)).length 4 ∧ Rows w' anyB .str A6 m ((tidy (tagX g0 g1 g2)).take m) ∧ Own w' w.heap.size 3 (.int .i64) vcl (clL (flagsL (pk (l2 == l0) (l1 == l2) (l1 == l0) l1 l2).2 (pk (t2.toList == t0.toList) (t1.toList == t2.toList) (t1.toList == t0.toList) t1 t2).2 (pk (d2 == d0) (d1 == d2) (d1 == d0) d1 d2).2 (pk (rkeyF r2 == rkeyF r0) (rkeyF r1 == rkeyF r2) (rkeyF r1 == rkeyF r0) r1 r2).2 (pk (rkeyF e2 == rkeyF e0) (rkeyF e1 == rkeyF e2) (rkeyF e1 == rkeyF e0) e1 e2).2)) ∧ Below w.heap.size w w' := by
  have HP1 := Lib.hid (fun W => side_any W (l1 == l0) (l2 == l0) (l1 == l2))
  have hsp := side_pk (l2 == l0) (l1 == l2) (l1 == l0) l1 l2
  obtain ⟨s1, hs⟩ : ∃ s, sideN (l2 == l0) (l1 == l2) (l1 == l0) = s := ⟨_, rfl⟩
  obtain ⟨p1, hp⟩ : ∃ p, pk (l2 == l0) (l1 == l2) (l1 == l0) l1 l2 = p := ⟨_, rfl⟩
  rw [hs, hp] at hsp
  rw [hs] at HP1
  rw [hp]
  have HSP1 := Lib.hid hsp
  clear hs hp hsp
  have HP2 := Lib.hid (fun W => side_any W (t1.toList == t0.toList) (t2.toList == t0.toList) (t1.toList == t2.toList))
  have hsp := side_pk (t2.toList == t0.toList) (t1.toList == t2.toList) (t1.toList == t0.toList) t1 t2
  obtain ⟨s2, hs⟩ : ∃ s, sideN (t2.toList == t0.toList) (t1.toList == t2.toList) (t1.toList == t0.toList) = s := ⟨_, rfl⟩
  obtain ⟨p2, hp⟩ : ∃ p, pk (t2.toList == t0.toList) (t1.toList == t2.toList) (t1.toList == t0.toList) t1 t2 = p := ⟨_, rfl⟩
  rw [hs, hp] at hsp
  rw [hs] at HP2
  rw [hp]
  have HSP2 := Lib.hid hsp
  clear hs hp hsp
  have HP3 := Lib.hid (fun W => side_any W (d1 == d0) (d2 == d0) (d1 == d2))
  have hsp := side_pk (d2 == d0) (d1 == d2) (d1 == d0) d1 d2
  obtain ⟨s3, hs⟩ : ∃ s, sideN (d2 == d0) (d1 == d2) (d1 == d0) = s := ⟨_, rfl⟩
  obtain ⟨p3, hp⟩ : ∃ p, pk (d2 == d0) (d1 == d2) (d1 == d0) d1 d2 = p := ⟨_, rfl⟩
  rw [hs, hp] at hsp
  rw [hs] at HP3
  rw [hp]
  have HSP3 := Lib.hid hsp
  clear hs hp hsp
  have HP4 := Lib.hid (fun W => side_any W (rkeyF r1 == rkeyF r0) (rkeyF r2 == rkeyF r0) (rkeyF r1 == rkeyF r2))
  have hsp := side_pk (rkeyF r2 == rkeyF r0) (rkeyF r1 == rkeyF r2) (rkeyF r1 == rkeyF r0) r1 r2
  obtain ⟨s4, hs⟩ : ∃ s, sideN (rkeyF r2 == rkeyF r0) (rkeyF r1 == rkeyF r2) (rkeyF r1 == rkeyF r0) = s := ⟨_, rfl⟩
  obtain ⟨p4, hp⟩ : ∃ p, pk (rkeyF r2 == rkeyF r0) (rkeyF r1 == rkeyF r2) (rkeyF r1 == rkeyF r0) r1 r2 = p := ⟨_, rfl⟩
  rw [hs, hp] at hsp
  rw [hs] at HP4
  rw [hp]
  have HSP4 := Lib.hid hsp
  clear hs hp hsp
  have HP5 := Lib.hid (fun W => side_any W (rkeyF e1 == rkeyF e0) (rkeyF e2 == rkeyF e0) (rkeyF e1 == rkeyF e2))
  have hsp := side_pk (rkeyF e2 == rkeyF e0) (rkeyF e1 == rkeyF e2) (rkeyF e1 == rkeyF e0) e1 e2
  obtain ⟨s5, hs⟩ : ∃ s, sideN (rkeyF e2 == rkeyF e0) (rkeyF e1 == rkeyF e2) (rkeyF e1 == rkeyF e0) = s := ⟨_, rfl⟩
  obtain ⟨p5, hp⟩ : ∃ p, pk (rkeyF e2 == rkeyF e0) (rkeyF e1 == rkeyF e2) (rkeyF e1 == rkeyF e0) e1 e2 = p := ⟨_, rfl⟩
  rw [hs, hp] at hsp
  rw [hs] at HP5
  rw [hp]
  have HSP5 := Lib.hid hsp
  clear hs hp hsp
  obtain ⟨T, hT⟩ : ∃ T, tidy (tagX g0 g1 g2) = T := ⟨_, rfl⟩
  rw [hT]
  have HT := Lib.hid hT
  clear hT
  have H0 := Lib.hid h0
  have H1 := Lib.hid h1
  have H2 := Lib.hid h2
  clear h0 h1 h2
  go_enter Try.func8, Try.ntmps8
  go_upto_region 4 with fail
  obtain ⟨w5, hw5⟩ : ∃ w5, (((((w.alloc (.cells #[Value.int .u64 i0, Value.int .u64 l0, Value.string t0, Value.bool d0, Value.float .f64 r0, Value.float .f64 e0, Value.slice G0 n0 c0] 26)).alloc (.cells #[Value.int .u64 i1, Value.int .u64 l1, Value.string t1, Value.bool d1, Value.float .f64 r1, Value.float .f64 e1, Value.slice G1 n1 c1] 26)).alloc (.cells #[Value.int .u64 i2, Value.int .u64 l2, Value.string t2, Value.bool d2, Value.float .f64 r2, Value.float .f64 e2, Value.slice G2 n2 c2] 26)).alloc (.cells #[Value.int .u64 0, Value.int .u64 0, Value.string ⟨#[]⟩, Value.bool false, Value.float .f64 0, Value.float .f64 0, Value.slice none 0 0] 26)).alloc (.cells #[Value.int .u64 i0, Value.int .u64 l1, Value.string t1, Value.bool d1, Value.float .f64 r1, Value.float .f64 e1, Value.slice G1 n1 c1] 26)) = w5 := ⟨_, rfl⟩
  have hz5 := heap_new_at ((((w.alloc (.cells #[Value.int .u64 i0, Value.int .u64 l0, Value.string t0, Value.bool d0, Value.float .f64 r0, Value.float .f64 e0, Value.slice G0 n0 c0] 26)).alloc (.cells #[Value.int .u64 i1, Value.int .u64 l1, Value.string t1, Value.bool d1, Value.float .f64 r1, Value.float .f64 e1, Value.slice G1 n1 c1] 26)).alloc (.cells #[Value.int .u64 i2, Value.int .u64 l2, Value.string t2, Value.bool d2, Value.float .f64 r2, Value.float .f64 e2, Value.slice G2 n2 c2] 26)).alloc (.cells #[Value.int .u64 0, Value.int .u64 0, Value.string ⟨#[]⟩, Value.bool false, Value.float .f64 0, Value.float .f64 0, Value.slice none 0 0] 26)) (.cells #[Value.int .u64 i0, Value.int .u64 l1, Value.string t1, Value.bool d1, Value.float .f64 r1, Value.float .f64 e1, Value.slice G1 n1 c1] 26) (w.heap.size + 4) (by simp)
  have hq5 := blk_alloc (heap_new_at (((w.alloc (.cells #[Value.int .u64 i0, Value.int .u64 l0, Value.string t0, Value.bool d0, Value.float .f64 r0, Value.float .f64 e0, Value.slice G0 n0 c0] 26)).alloc (.cells #[Value.int .u64 i1, Value.int .u64 l1, Value.string t1, Value.bool d1, Value.float .f64 r1, Value.float .f64 e1, Value.slice G1 n1 c1] 26)).alloc (.cells #[Value.int .u64 i2, Value.int .u64 l2, Value.string t2, Value.bool d2, Value.float .f64 r2, Value.float .f64 e2, Value.slice G2 n2 c2] 26)) (.cells #[Value.int .u64 0, Value.int .u64 0, Value.string ⟨#[]⟩, Value.bool false, Value.float .f64 0, Value.float .f64 0, Value.slice none 0 0] 26) (w.heap.size + 3) (by simp)) (.cells #[Value.int .u64 i0, Value.int .u64 l1, Value.string t1, Value.bool d1, Value.float .f64 r1, Value.float .f64 e1, Value.slice G1 n1 c1] 26)
  have hc5 := blk_alloc (blk_alloc (heap_new_at ((w.alloc (.cells #[Value.int .u64 i0, Value.int .u64 l0, Value.string t0, Value.bool d0, Value.float .f64 r0, Value.float .f64 e0, Value.slice G0 n0 c0] 26)).alloc (.cells #[Value.int .u64 i1, Value.int .u64 l1, Value.string t1, Value.bool d1, Value.float .f64 r1, Value.float .f64 e1, Value.slice G1 n1 c1] 26)) (.cells #[Value.int .u64 i2, Value.int .u64 l2, Value.string t2, Value.bool d2, Value.float .f64 r2, Value.float .f64 e2, Value.slice G2 n2 c2] 26) (w.heap.size + 1 + 1) (by simp)) (.cells #[Value.int .u64 0, Value.int .u64 0, Value.string ⟨#[]⟩, Value.bool false, Value.float .f64 0, Value.float .f64 0, Value.slice none 0 0] 26)) (.cells #[Value.int .u64 i0, Value.int .u64 l1, Value.string t1, Value.bool d1, Value.float .f64 r1, Value.float .f64 e1, Value.slice G1 n1 c1] 26)
  have hb5 := blk_alloc (blk_alloc (blk_alloc (heap_new_at (w.alloc (.cells #[Value.int .u64 i0, Value.int .u64 l0, Value.string t0, Value.bool d0, Value.float .f64 r0, Value.float .f64 e0, Value.slice G0 n0 c0] 26)) (.cells #[Value.int .u64 i1, Value.int .u64 l1, Value.string t1, Value.bool d1, Value.float .f64 r1, Value.float .f64 e1, Value.slice G1 n1 c1] 26) (w.heap.size + 1) (by simp)) (.cells #[Value.int .u64 i2, Value.int .u64 l2, Value.string t2, Value.bool d2, Value.float .f64 r2, Value.float .f64 e2, Value.slice G2 n2 c2] 26)) (.cells #[Value.int .u64 0, Value.int .u64 0, Value.string ⟨#[]⟩, Value.bool false, Value.float .f64 0, Value.float .f64 0, Value.slice none 0 0] 26)) (.cells #[Value.int .u64 i0, Value.int .u64 l1, Value.string t1, Value.bool d1, Value.float .f64 r1, Value.float .f64 e1, Value.slice G1 n1 c1] 26)
  have ha5 := blk_alloc (blk_alloc (blk_alloc (blk_alloc (heap_alloc_new w (.cells #[Value.int .u64 i0, Value.int .u64 l0, Value.string t0, Value.bool d0, Value.float .f64 r0, Value.float .f64 e0, Value.slice G0 n0 c0] 26)) (.cells #[Value.int .u64 i1, Value.int .u64 l1, Value.string t1, Value.bool d1, Value.float .f64 r1, Value.float .f64 e1, Value.slice G1 n1 c1] 26)) (.cells #[Value.int .u64 i2, Value.int .u64 l2, Value.string t2, Value.bool d2, Value.float .f64 r2, Value.float .f64 e2, Value.slice G2 n2 c2] 26)) (.cells #[Value.int .u64 0, Value.int .u64 0, Value.string ⟨#[]⟩, Value.bool false, Value.float .f64 0, Value.float .f64 0, Value.slice none 0 0] 26)) (.cells #[Value.int .u64 i0, Value.int .u64 l1, Value.string t1, Value.bool d1, Value.float .f64 r1, Value.float .f64 e1, Value.slice G1 n1 c1] 26)
  have hbw5 : Below w.heap.size w w5 := by
    rw [← hw5]
    exact ((((((Below.refl _ _).alloc (Nat.le_refl _) _).alloc (by simp) _).alloc (by simp; omega) _).alloc (by simp; omega) _).alloc (by simp; omega) _)
  have hs5 : w5.heap.size = w.heap.size + 5 := by rw [← hw5]; simp
  rw [hw5] at hz5 hq5 hc5 hb5 ha5
  have HXa := Lib.hid ha5
  have HXb := Lib.hid (show w5.heap[w.heap.size + 1]? = _ from hb5)
  have HXc := Lib.hid (show w5.heap[w.heap.size + 1 + 1]? = _ from hc5)
  have HXq := Lib.hid (show w5.heap[w.heap.size + 3]? = _ from hq5)
  have HZ := Lib.hid (show w5.heap[w.heap.size + 4]? = _ from hz5)
  have HW5 := Lib.hid hw5
  have HBW := Lib.hid hbw5
  have HS5 := Lib.hid hs5
  rw [hw5]
  have HO := Lib.hid (show Own w5 (w.heap.size + 5) 3 (.int .i64) (.slice none 0 0) (clL []) from Own.nil _ _ _ _)
  clear hz5 hq5 hc5 hb5 ha5 hbw5 hs5 hw5 HW5
  obtain ⟨wr, hwr⟩ : ∃ wr, w5 = wr := ⟨_, rfl⟩
  have HB := Lib.hid (show Below (w.heap.size + 4) w5 wr by rw [← hwr]; exact Below.refl _ _)
  rw [hwr] at HO HZ ⊢
  clear hwr
  have hz1 := HB.out
  have hxa := blk_below HXa.out hz1 (by omega)
  have hxb := blk_below HXb.out hz1 (by omega)
  have hxc := blk_below HXc.out hz1 (by omega)
  have xa : wr.cell? ⟨w.heap.size, 1, none⟩ = some (.int .u64 l0) := blk_at hxa 1 _ rfl
  have xb : wr.cell? ⟨w.heap.size + 1, 1, none⟩ = some (.int .u64 l1) := blk_at hxb 1 _ rfl
  have xc : wr.cell? ⟨w.heap.size + 1 + 1, 1, none⟩ = some (.int .u64 l2) := blk_at hxc 1 _ rfl
  have HU := Lib.hid (show (clL []).length = 0 from rfl)
  have hu5 : 0 ≤ 0 := by omega
  clear hz1 hxa hxb hxc
  go_upto_region 5 with fail
  refine (HP1.out _).mono ?_
  rintro e w' ⟨rfl, rfl⟩
  go_upto_if 32 with fail
  go_cut [10] from 33 to 35 (fun s10 wx => s10 = .int .i64 s1 ∧ wx.heap[w.heap.size + 4]? = some (.cells #[Value.int .u64 i0, Value.int .u64 p1.1, Value.string t1, Value.bool d1, Value.float .f64 r1, Value.float .f64 e1, Value.slice G1 n1 c1] 26 (0, 0)) ∧ Own wx (w.heap.size + 5) 3 (.int .i64) (.slice none 0 0) (clL []) ∧ Below (w.heap.size + 4) w5 wx)
  case first =>
    rcases HSP1.out with ⟨rfl, rfl⟩ | ⟨rfl, rfl⟩ | ⟨rfl, rfl⟩
    · go_wp2_with fail
      go_meet
      case rel => exact ⟨rfl, HZ.out, HO.out, HB.out⟩
    · have hz := HZ.out
      obtain ⟨-, y1, -, -, -, -, -⟩ := blk7 hz
      have fz := blk_free hz 1
      clear hz
      go_wp2_with fail
      go_meet
      case rel => exact ⟨rfl, blk_set HZ.out 1 _, own_setI HO.out (by simp) _, HB.out.setCell (p := ⟨w.heap.size + 4, 1, none⟩) (Nat.le_refl _) _⟩
    · go_wp2_with fail
      go_meet
      case rel => exact ⟨rfl, HZ.out, HO.out, HB.out⟩
  case rest =>
    obtain ⟨rfl, hz2, ho2, hb2⟩ := hcut
    clear xa xb xc HZ HO HB
    have HZ := Lib.hid hz2
    have HO := Lib.hid ho2
    have HB := Lib.hid hb2
    clear hz2 ho2 hb2
    go_upto_if 37 with fail
    go_cut [9] from 38 to 40 (fun s9 wx => ∃ v, v = s9 ∧ wx.heap[w.heap.size + 4]? = some (.cells #[Value.int .u64 i0, Value.int .u64 p1.1, Value.string t1, Value.bool d1, Value.float .f64 r1, Value.float .f64 e1, Value.slice G1 n1 c1] 26 (0, 0)) ∧ Own wx (w.heap.size + 5) 3 (.int .i64) v (clL [(p1.2, 5)]) ∧ Below (w.heap.size + 4) w5 wx)
    case first =>
      have HF := Lib.hid (cl_no [] 5)
      rcases HSP1.out with ⟨rfl, rfl⟩ | ⟨rfl, rfl⟩ | ⟨rfl, rfl⟩
      · go_wp2_with fail
        go_meet
        case rel => exact ⟨_, rfl, HZ.out, by rw [show clL [(false, 5)] = clL [] from HF.out]; exact HO.out, HB.out⟩
      · go_wp2_with fail
        go_meet
        case rel => exact ⟨_, rfl, HZ.out, by rw [show clL [(false, 5)] = clL [] from HF.out]; exact HO.out, HB.out⟩
      · have HN := Lib.hid (cl_more [] 5)
        go_wp2_with (at_builtin; refine wp_appO (m := 1) (r := [(5 : Int)]) (ys := [.int .i64 5]) rfl (.tmp 38) (.tmp 39) rfl (HO.out.below (below_alloc1 wc _)) rfl (fun e => by cases e) (fun ad' e => by cases e; exact At.blk (heap_alloc_new wc _)) (RdL.single (rd_intv (by decide))) (Below.refl _ _) Try.underlying33 info_int rfl (by decide) rfl rfl (by rw [HU.out]; omega) (by rw [HU.out]; omega) (by have := blk_lt HZ.out; simp; omega) ?_; intro v9 w9 hO9 hb9 _ _; obtain ⟨A9, c9, rfl, _⟩ := Own.form hO9; have e9 : (clL [] ++ [(5 : Int)]).length = 0 + 1 := (by rw [List.length_append, HU.out]; rfl); rw [e9] at hO9 ⊢; have HO9 := Lib.hid hO9; have HB9 := Lib.hid hb9; clear hO9 hb9)
        go_meet
        case rel => exact ⟨_, rfl, blk_below (blk_alloc HZ.out _) HB9.out (by omega), by rw [show clL [(true, 5)] = clL [] ++ [5] from HN.out]; exact HO9.out, (HB.out.alloc (by have := blk_lt HZ.out; omega) _).trans (HB9.out.mono (by omega))⟩
    case rest =>
      obtain ⟨v, rfl, hz3, ho3, hb3⟩ := hcut
      clear HZ HO HB HU hu5 HP1
      have HZ := Lib.hid hz3
      have HO := Lib.hid ho3
      have HB := Lib.hid hb3
      clear hz3 ho3 hb3
      have hz1 := HB.out
      have hxa := blk_below HXa.out hz1 (by omega)
      have hxb := blk_below HXb.out hz1 (by omega)
      have hxc := blk_below HXc.out hz1 (by omega)
      have xa : wc.cell? ⟨w.heap.size, 2, none⟩ = some (.string t0) := blk_at hxa 2 _ rfl
      have xb : wc.cell? ⟨w.heap.size + 1, 2, none⟩ = some (.string t1) := blk_at hxb 2 _ rfl
      have xc : wc.cell? ⟨w.heap.size + 1 + 1, 2, none⟩ = some (.string t2) := blk_at hxc 2 _ rfl
      obtain ⟨Av, cv, rfl, _⟩ := Own.form HO.out
      obtain ⟨u, hu⟩ : ∃ u, (clL [(p1.2, 5)]).length = u := ⟨_, rfl⟩
      have hu5 : u ≤ 1 := by rw [← hu]; exact cl_len _
      have HU := Lib.hid hu
      rw [hu] at HO ⊢
      clear hu
      clear hz1 hxa hxb hxc
      go_upto_region 10 with fail
      refine (HP2.out _).mono ?_
      rintro e w' ⟨rfl, rfl⟩
      go_upto_if 58 with fail
      go_cut [10] from 59 to 61 (fun s10 wx => s10 = .int .i64 s2 ∧ wx.heap[w.heap.size + 4]? = some (.cells #[Value.int .u64 i0, Value.int .u64 p1.1, Value.string p2.1, Value.bool d1, Value.float .f64 r1, Value.float .f64 e1, Value.slice G1 n1 c1] 26 (0, 0)) ∧ Own wx (w.heap.size + 5) 3 (.int .i64) (.slice Av u cv) (clL [(p1.2, 5)]) ∧ Below (w.heap.size + 4) w5 wx)
      case first =>
        rcases HSP2.out with ⟨rfl, rfl⟩ | ⟨rfl, rfl⟩ | ⟨rfl, rfl⟩
        · go_wp2_with fail
          go_meet
          case rel => exact ⟨rfl, HZ.out, HO.out, HB.out⟩
        · have hz := HZ.out
          obtain ⟨-, -, y2, -, -, -, -⟩ := blk7 hz
          have fz := blk_free hz 2
          clear hz
          go_wp2_with fail
          go_meet
          case rel => exact ⟨rfl, blk_set HZ.out 2 _, own_setI HO.out (by simp) _, HB.out.setCell (p := ⟨w.heap.size + 4, 2, none⟩) (Nat.le_refl _) _⟩
        · go_wp2_with fail
          go_meet
          case rel => exact ⟨rfl, HZ.out, HO.out, HB.out⟩
      case rest =>
        obtain ⟨rfl, hz2, ho2, hb2⟩ := hcut
        clear xa xb xc HZ HO HB
        have HZ := Lib.hid hz2
        have HO := Lib.hid ho2
        have HB := Lib.hid hb2
        clear hz2 ho2 hb2
        go_upto_if 63 with fail
        go_cut [9] from 64 to 66 (fun s9 wx => ∃ v, v = s9 ∧ wx.heap[w.heap.size + 4]? = some (.cells #[Value.int .u64 i0, Value.int .u64 p1.1, Value.string p2.1, Value.bool d1, Value.float .f64 r1, Value.float .f64 e1, Value.slice G1 n1 c1] 26 (0, 0)) ∧ Own wx (w.heap.size + 5) 3 (.int .i64) v (clL [(p1.2, 5), (p2.2, 1)]) ∧ Below (w.heap.size + 4) w5 wx)
        case first =>
          have HF := Lib.hid (cl_no [(p1.2, 5)] 1)
          rcases HSP2.out with ⟨rfl, rfl⟩ | ⟨rfl, rfl⟩ | ⟨rfl, rfl⟩
          · go_wp2_with fail
            go_meet
            case rel => exact ⟨_, rfl, HZ.out, by rw [show clL [(p1.2, 5), (false, 1)] = clL [(p1.2, 5)] from HF.out]; exact HO.out, HB.out⟩
          · go_wp2_with fail
            go_meet
            case rel => exact ⟨_, rfl, HZ.out, by rw [show clL [(p1.2, 5), (false, 1)] = clL [(p1.2, 5)] from HF.out]; exact HO.out, HB.out⟩
          · have HN := Lib.hid (cl_more [(p1.2, 5)] 1)
            go_wp2_with (at_builtin; refine wp_appO (m := 1) (r := [(1 : Int)]) (ys := [.int .i64 1]) rfl (.tmp 64) (.tmp 65) rfl (HO.out.below (below_alloc1 wc _)) rfl (fun e => by cases e) (fun ad' e => by cases e; exact At.blk (heap_alloc_new wc _)) (RdL.single (rd_intv (by decide))) (Below.refl _ _) Try.underlying33 info_int rfl (by decide) rfl rfl (by rw [HU.out]; omega) (by rw [HU.out]; omega) (by have := blk_lt HZ.out; simp; omega) ?_; intro v9 w9 hO9 hb9 _ _; obtain ⟨A9, c9, rfl, _⟩ := Own.form hO9; have e9 : (clL [(p1.2, 5)] ++ [(1 : Int)]).length = u + 1 := (by rw [List.length_append, HU.out]; rfl); rw [e9] at hO9 ⊢; have HO9 := Lib.hid hO9; have HB9 := Lib.hid hb9; clear hO9 hb9)
            go_meet
            case rel => exact ⟨_, rfl, blk_below (blk_alloc HZ.out _) HB9.out (by omega), by rw [show clL [(p1.2, 5), (true, 1)] = clL [(p1.2, 5)] ++ [1] from HN.out]; exact HO9.out, (HB.out.alloc (by have := blk_lt HZ.out; omega) _).trans (HB9.out.mono (by omega))⟩
        case rest =>
          obtain ⟨v, rfl, hz3, ho3, hb3⟩ := hcut
          clear HZ HO HB HU hu5 HP2
          have HZ := Lib.hid hz3
          have HO := Lib.hid ho3
          have HB := Lib.hid hb3
          clear hz3 ho3 hb3
          have hz1 := HB.out
          have hxa := blk_below HXa.out hz1 (by omega)
          have hxb := blk_below HXb.out hz1 (by omega)
          have hxc := blk_below HXc.out hz1 (by omega)
          have xa : wc.cell? ⟨w.heap.size, 3, none⟩ = some (.bool d0) := blk_at hxa 3 _ rfl
          have xb : wc.cell? ⟨w.heap.size + 1, 3, none⟩ = some (.bool d1) := blk_at hxb 3 _ rfl
          have xc : wc.cell? ⟨w.heap.size + 1 + 1, 3, none⟩ = some (.bool d2) := blk_at hxc 3 _ rfl
          obtain ⟨Av, cv, rfl, _⟩ := Own.form HO.out
          obtain ⟨u, hu⟩ : ∃ u, (clL [(p1.2, 5), (p2.2, 1)]).length = u := ⟨_, rfl⟩
          have hu5 : u ≤ 2 := by rw [← hu]; exact cl_len _
          have HU := Lib.hid hu
          rw [hu] at HO ⊢
          clear hu
          clear hz1 hxa hxb hxc
          go_upto_region 15 with fail
          refine (HP3.out _).mono ?_
          rintro e w' ⟨rfl, rfl⟩
          go_upto_if 84 with fail
          go_cut [10] from 85 to 87 (fun s10 wx => s10 = .int .i64 s3 ∧ wx.heap[w.heap.size + 4]? = some (.cells #[Value.int .u64 i0, Value.int .u64 p1.1, Value.string p2.1, Value.bool p3.1, Value.float .f64 r1, Value.float .f64 e1, Value.slice G1 n1 c1] 26 (0, 0)) ∧ Own wx (w.heap.size + 5) 3 (.int .i64) (.slice Av u cv) (clL [(p1.2, 5), (p2.2, 1)]) ∧ Below (w.heap.size + 4) w5 wx)
          case first =>
            rcases HSP3.out with ⟨rfl, rfl⟩ | ⟨rfl, rfl⟩ | ⟨rfl, rfl⟩
            · go_wp2_with fail
              go_meet
              case rel => exact ⟨rfl, HZ.out, HO.out, HB.out⟩
            · have hz := HZ.out
              obtain ⟨-, -, -, y3, -, -, -⟩ := blk7 hz
              have fz := blk_free hz 3
              clear hz
              go_wp2_with fail
              go_meet
              case rel => exact ⟨rfl, blk_set HZ.out 3 _, own_setI HO.out (by simp) _, HB.out.setCell (p := ⟨w.heap.size + 4, 3, none⟩) (Nat.le_refl _) _⟩
            · go_wp2_with fail
              go_meet
              case rel => exact ⟨rfl, HZ.out, HO.out, HB.out⟩
          case rest =>
            obtain ⟨rfl, hz2, ho2, hb2⟩ := hcut
            clear xa xb xc HZ HO HB
            have HZ := Lib.hid hz2
            have HO := Lib.hid ho2
            have HB := Lib.hid hb2
            clear hz2 ho2 hb2
            go_upto_if 89 with fail
            go_cut [9] from 90 to 92 (fun s9 wx => ∃ v, v = s9 ∧ wx.heap[w.heap.size + 4]? = some (.cells #[Value.int .u64 i0, Value.int .u64 p1.1, Value.string p2.1, Value.bool p3.1, Value.float .f64 r1, Value.float .f64 e1, Value.slice G1 n1 c1] 26 (0, 0)) ∧ Own wx (w.heap.size + 5) 3 (.int .i64) v (clL [(p1.2, 5), (p2.2, 1), (p3.2, 2)]) ∧ Below (w.heap.size + 4) w5 wx)
            case first =>
              have HF := Lib.hid (cl_no [(p1.2, 5), (p2.2, 1)] 2)
              rcases HSP3.out with ⟨rfl, rfl⟩ | ⟨rfl, rfl⟩ | ⟨rfl, rfl⟩
              · go_wp2_with fail
                go_meet
                case rel => exact ⟨_, rfl, HZ.out, by rw [show clL [(p1.2, 5), (p2.2, 1), (false, 2)] = clL [(p1.2, 5), (p2.2, 1)] from HF.out]; exact HO.out, HB.out⟩
              · go_wp2_with fail
                go_meet
                case rel => exact ⟨_, rfl, HZ.out, by rw [show clL [(p1.2, 5), (p2.2, 1), (false, 2)] = clL [(p1.2, 5), (p2.2, 1)] from HF.out]; exact HO.out, HB.out⟩
              · have HN := Lib.hid (cl_more [(p1.2, 5), (p2.2, 1)] 2)
                go_wp2_with (at_builtin; refine wp_appO (m := 1) (r := [(2 : Int)]) (ys := [.int .i64 2]) rfl (.tmp 90) (.tmp 91) rfl (HO.out.below (below_alloc1 wc _)) rfl (fun e => by cases e) (fun ad' e => by cases e; exact At.blk (heap_alloc_new wc _)) (RdL.single (rd_intv (by decide))) (Below.refl _ _) Try.underlying33 info_int rfl (by decide) rfl rfl (by rw [HU.out]; omega) (by rw [HU.out]; omega) (by have := blk_lt HZ.out; simp; omega) ?_; intro v9 w9 hO9 hb9 _ _; obtain ⟨A9, c9, rfl, _⟩ := Own.form hO9; have e9 : (clL [(p1.2, 5), (p2.2, 1)] ++ [(2 : Int)]).length = u + 1 := (by rw [List.length_append, HU.out]; rfl); rw [e9] at hO9 ⊢; have HO9 := Lib.hid hO9; have HB9 := Lib.hid hb9; clear hO9 hb9)
                go_meet
                case rel => exact ⟨_, rfl, blk_below (blk_alloc HZ.out _) HB9.out (by omega), by rw [show clL [(p1.2, 5), (p2.2, 1), (true, 2)] = clL [(p1.2, 5), (p2.2, 1)] ++ [2] from HN.out]; exact HO9.out, (HB.out.alloc (by have := blk_lt HZ.out; omega) _).trans (HB9.out.mono (by omega))⟩
            case rest =>
              obtain ⟨v, rfl, hz3, ho3, hb3⟩ := hcut
              clear HZ HO HB HU hu5 HP3
              have HZ := Lib.hid hz3
              have HO := Lib.hid ho3
              have HB := Lib.hid hb3
              clear hz3 ho3 hb3
              have hz1 := HB.out
              have hxa := blk_below HXa.out hz1 (by omega)
              have hxb := blk_below HXb.out hz1 (by omega)
              have hxc := blk_below HXc.out hz1 (by omega)
              have xa : wc.cell? ⟨w.heap.size, 4, none⟩ = some (.float .f64 r0) := blk_at hxa 4 _ rfl
              have xb : wc.cell? ⟨w.heap.size + 1, 4, none⟩ = some (.float .f64 r1) := blk_at hxb 4 _ rfl
              have xc : wc.cell? ⟨w.heap.size + 1 + 1, 4, none⟩ = some (.float .f64 r2) := blk_at hxc 4 _ rfl
              obtain ⟨Av, cv, rfl, _⟩ := Own.form HO.out
              obtain ⟨u, hu⟩ : ∃ u, (clL [(p1.2, 5), (p2.2, 1), (p3.2, 2)]).length = u := ⟨_, rfl⟩
              have hu5 : u ≤ 3 := by rw [← hu]; exact cl_len _
              have HU := Lib.hid hu
              rw [hu] at HO ⊢
              clear hu
              clear hz1 hxa hxb hxc
              go_upto_region 19 with fail
              refine region_in (by kernel_rfl) (fun w1 hw1 => ?_)
              have HZ1 := Lib.hid (blk_below HZ.out hw1 (blk_lt HZ.out))
              have HO1 := Lib.hid (HO.out.below hw1)
              have HB1 := Lib.hid (HB.out.trans (hw1.mono (Nat.le_of_lt (blk_lt HZ.out))))
              have XA : ∀ W, Below w1.heap.size w1 W → W.cell? ⟨w.heap.size, 4, none⟩ = some (.float .f64 r0) := fun W hW => cell_below (hw1.trans (hW.mono hw1.size)) xa
              have XB : ∀ W, Below w1.heap.size w1 W → W.cell? ⟨w.heap.size + 1, 4, none⟩ = some (.float .f64 r1) := fun W hW => cell_below (hw1.trans (hW.mono hw1.size)) xb
              have XC : ∀ W, Below w1.heap.size w1 W → W.cell? ⟨w.heap.size + 1 + 1, 4, none⟩ = some (.float .f64 r2) := fun W hW => cell_below (hw1.trans (hW.mono hw1.size)) xc
              clear xa xb xc HZ HO HB hw1
              first
                | (refine take_in (i := 0) (v := ?_) rfl (by kernel_rfl) (by kernel_rfl) (by kernel_rfl) (fun _ _ _ h => h) (Or.inl ⟨by rfl, ?_⟩) (Below.refl _ _) ?_; rotate_left; (focus (intro W hSw; go_simp; (try rfl); done)); (try simp only [Act.put, List.setIfInBounds_toArray, List.set_cons_zero, List.set_cons_succ]))
                | (refine take_in (i := 0) (v := undef) rfl (by kernel_rfl) (by kernel_rfl) (by kernel_rfl) (fun _ _ _ h => h) (Or.inr ⟨by rfl, rfl⟩) (Below.refl _ _) ?_; (try simp only [Act.put, List.setIfInBounds_toArray, List.set_cons_zero, List.set_cons_succ]))
                | (fail "HTAKE 0")
              first
                | (refine take_in (i := 1) (v := ?_) rfl (by kernel_rfl) (by kernel_rfl) (by kernel_rfl) (fun _ _ _ h => h) (Or.inl ⟨by rfl, ?_⟩) (Below.refl _ _) ?_; rotate_left; (focus (intro W hSw; have XB := XB W hSw; go_simp; (try rfl); done)); (try simp only [Act.put, List.setIfInBounds_toArray, List.set_cons_zero, List.set_cons_succ]))
                | (refine take_in (i := 1) (v := undef) rfl (by kernel_rfl) (by kernel_rfl) (by kernel_rfl) (fun _ _ _ h => h) (Or.inr ⟨by rfl, rfl⟩) (Below.refl _ _) ?_; (try simp only [Act.put, List.setIfInBounds_toArray, List.set_cons_zero, List.set_cons_succ]))
                | (fail "HTAKE 1")
              first
                | (refine take_in (i := 2) (v := ?_) rfl (by kernel_rfl) (by kernel_rfl) (by kernel_rfl) (fun _ _ _ h => h) (Or.inl ⟨by rfl, ?_⟩) (Below.refl _ _) ?_; rotate_left; (focus (intro W hSw; go_simp; (try rfl); done)); (try simp only [Act.put, List.setIfInBounds_toArray, List.set_cons_zero, List.set_cons_succ]))
                | (refine take_in (i := 2) (v := undef) rfl (by kernel_rfl) (by kernel_rfl) (by kernel_rfl) (fun _ _ _ h => h) (Or.inr ⟨by rfl, rfl⟩) (Below.refl _ _) ?_; (try simp only [Act.put, List.setIfInBounds_toArray, List.set_cons_zero, List.set_cons_succ]))
                | (fail "HTAKE 2")
              first
                | (refine take_in (i := 3) (v := ?_) rfl (by kernel_rfl) (by kernel_rfl) (by kernel_rfl) (fun _ _ _ h => h) (Or.inl ⟨by rfl, ?_⟩) (Below.refl _ _) ?_; rotate_left; (focus (intro W hSw; have XA := XA W hSw; go_simp; (try rfl); done)); (try simp only [Act.put, List.setIfInBounds_toArray, List.set_cons_zero, List.set_cons_succ]))
                | (refine take_in (i := 3) (v := undef) rfl (by kernel_rfl) (by kernel_rfl) (by kernel_rfl) (fun _ _ _ h => h) (Or.inr ⟨by rfl, rfl⟩) (Below.refl _ _) ?_; (try simp only [Act.put, List.setIfInBounds_toArray, List.set_cons_zero, List.set_cons_succ]))
                | (fail "HTAKE 3")
              first
                | (refine take_in (i := 5) (v := ?_) rfl (by kernel_rfl) (by kernel_rfl) (by kernel_rfl) (fun _ _ _ h => h) (Or.inl ⟨by rfl, ?_⟩) (Below.refl _ _) ?_; rotate_left; (focus (intro W hSw; go_simp; (try rfl); done)); (try simp only [Act.put, List.setIfInBounds_toArray, List.set_cons_zero, List.set_cons_succ]))
                | (refine take_in (i := 5) (v := undef) rfl (by kernel_rfl) (by kernel_rfl) (by kernel_rfl) (fun _ _ _ h => h) (Or.inr ⟨by rfl, rfl⟩) (Below.refl _ _) ?_; (try simp only [Act.put, List.setIfInBounds_toArray, List.set_cons_zero, List.set_cons_succ]))
                | (fail "HTAKE 5")
              first
                | (refine take_in (i := 6) (v := ?_) rfl (by kernel_rfl) (by kernel_rfl) (by kernel_rfl) (fun _ _ _ h => h) (Or.inl ⟨by rfl, ?_⟩) (Below.refl _ _) ?_; rotate_left; (focus (intro W hSw; have XC := XC W hSw; go_simp; (try rfl); done)); (try simp only [Act.put, List.setIfInBounds_toArray, List.set_cons_zero, List.set_cons_succ]))
                | (refine take_in (i := 6) (v := undef) rfl (by kernel_rfl) (by kernel_rfl) (by kernel_rfl) (fun _ _ _ h => h) (Or.inr ⟨by rfl, rfl⟩) (Below.refl _ _) ?_; (try simp only [Act.put, List.setIfInBounds_toArray, List.set_cons_zero, List.set_cons_succ]))
                | (fail "HTAKE 6")
              first
                | (refine take_in (i := 7) (v := ?_) rfl (by kernel_rfl) (by kernel_rfl) (by kernel_rfl) (fun _ _ _ h => h) (Or.inl ⟨by rfl, ?_⟩) (Below.refl _ _) ?_; rotate_left; (focus (intro W hSw; go_simp; (try rfl); done)); (try simp only [Act.put, List.setIfInBounds_toArray, List.set_cons_zero, List.set_cons_succ]))
                | (refine take_in (i := 7) (v := undef) rfl (by kernel_rfl) (by kernel_rfl) (by kernel_rfl) (fun _ _ _ h => h) (Or.inr ⟨by rfl, rfl⟩) (Below.refl _ _) ?_; (try simp only [Act.put, List.setIfInBounds_toArray, List.set_cons_zero, List.set_cons_succ]))
                | (fail "HTAKE 7")
              first
                | (refine take_in (i := 8) (v := ?_) rfl (by kernel_rfl) (by kernel_rfl) (by kernel_rfl) (fun _ _ _ h => h) (Or.inl ⟨by rfl, ?_⟩) (Below.refl _ _) ?_; rotate_left; (focus (intro W hSw; have XA := XA W hSw; go_simp; (try rfl); done)); (try simp only [Act.put, List.setIfInBounds_toArray, List.set_cons_zero, List.set_cons_succ]))
                | (refine take_in (i := 8) (v := undef) rfl (by kernel_rfl) (by kernel_rfl) (by kernel_rfl) (fun _ _ _ h => h) (Or.inr ⟨by rfl, rfl⟩) (Below.refl _ _) ?_; (try simp only [Act.put, List.setIfInBounds_toArray, List.set_cons_zero, List.set_cons_succ]))
                | (fail "HTAKE 8")
              first
                | (refine take_in (i := 10) (v := ?_) rfl (by kernel_rfl) (by kernel_rfl) (by kernel_rfl) (fun _ _ _ h => h) (Or.inl ⟨by rfl, ?_⟩) (Below.refl _ _) ?_; rotate_left; (focus (intro W hSw; go_simp; (try rfl); done)); (try simp only [Act.put, List.setIfInBounds_toArray, List.set_cons_zero, List.set_cons_succ]))
                | (refine take_in (i := 10) (v := undef) rfl (by kernel_rfl) (by kernel_rfl) (by kernel_rfl) (fun _ _ _ h => h) (Or.inr ⟨by rfl, rfl⟩) (Below.refl _ _) ?_; (try simp only [Act.put, List.setIfInBounds_toArray, List.set_cons_zero, List.set_cons_succ]))
                | (fail "HTAKE 10")
              first
                | (refine take_in (i := 11) (v := ?_) rfl (by kernel_rfl) (by kernel_rfl) (by kernel_rfl) (fun _ _ _ h => h) (Or.inl ⟨by rfl, ?_⟩) (Below.refl _ _) ?_; rotate_left; (focus (intro W hSw; have XB := XB W hSw; go_simp; (try rfl); done)); (try simp only [Act.put, List.setIfInBounds_toArray, List.set_cons_zero, List.set_cons_succ]))
                | (refine take_in (i := 11) (v := undef) rfl (by kernel_rfl) (by kernel_rfl) (by kernel_rfl) (fun _ _ _ h => h) (Or.inr ⟨by rfl, rfl⟩) (Below.refl _ _) ?_; (try simp only [Act.put, List.setIfInBounds_toArray, List.set_cons_zero, List.set_cons_succ]))
                | (fail "HTAKE 11")
              first
                | (refine take_in (i := 12) (v := ?_) rfl (by kernel_rfl) (by kernel_rfl) (by kernel_rfl) (fun _ _ _ h => h) (Or.inl ⟨by rfl, ?_⟩) (Below.refl _ _) ?_; rotate_left; (focus (intro W hSw; go_simp; (try rfl); done)); (try simp only [Act.put, List.setIfInBounds_toArray, List.set_cons_zero, List.set_cons_succ]))
                | (refine take_in (i := 12) (v := undef) rfl (by kernel_rfl) (by kernel_rfl) (by kernel_rfl) (fun _ _ _ h => h) (Or.inr ⟨by rfl, rfl⟩) (Below.refl _ _) ?_; (try simp only [Act.put, List.setIfInBounds_toArray, List.set_cons_zero, List.set_cons_succ]))
                | (fail "HTAKE 12")
              first
                | (refine take_in (i := 13) (v := ?_) rfl (by kernel_rfl) (by kernel_rfl) (by kernel_rfl) (fun _ _ _ h => h) (Or.inl ⟨by rfl, ?_⟩) (Below.refl _ _) ?_; rotate_left; (focus (intro W hSw; have XC := XC W hSw; go_simp; (try rfl); done)); (try simp only [Act.put, List.setIfInBounds_toArray, List.set_cons_zero, List.set_cons_succ]))
                | (refine take_in (i := 13) (v := undef) rfl (by kernel_rfl) (by kernel_rfl) (by kernel_rfl) (fun _ _ _ h => h) (Or.inr ⟨by rfl, rfl⟩) (Below.refl _ _) ?_; (try simp only [Act.put, List.setIfInBounds_toArray, List.set_cons_zero, List.set_cons_succ]))
                | (fail "HTAKE 13")
              refine call_in (i := 4) rfl (by kernel_rfl) (by kernel_rfl) (fun K hK => ?_)
              go_simp
              refine (rsame_any _ _ _).mono ?_
              rintro e w' ⟨rfl, rfl⟩
              refine hK.out _ _ (Below.refl _ _) ?_
              (try simp only [Act.put, List.setIfInBounds_toArray, List.set_cons_zero, List.set_cons_succ])
              refine call_in (i := 9) rfl (by kernel_rfl) (by kernel_rfl) (fun K hK => ?_)
              go_simp
              refine (rsame_any _ _ _).mono ?_
              rintro e w' ⟨rfl, rfl⟩
              refine hK.out _ _ (Below.refl _ _) ?_
              (try simp only [Act.put, List.setIfInBounds_toArray, List.set_cons_zero, List.set_cons_succ])
              refine call_in (i := 14) rfl (by kernel_rfl) (by kernel_rfl) (fun K hK => ?_)
              go_simp
              refine (rsame_any _ _ _).mono ?_
              rintro e w' ⟨rfl, rfl⟩
              refine hK.out _ _ (Below.refl _ _) ?_
              (try simp only [Act.put, List.setIfInBounds_toArray, List.set_cons_zero, List.set_cons_succ])
              refine call_in (i := 15) rfl (by kernel_rfl) (by kernel_rfl) (fun K hK => ?_)
              go_simp
              refine (HP4.out _).mono ?_
              rintro e w' ⟨rfl, rfl⟩
              refine hK.out _ _ (Below.refl _ _) ?_
              (try simp only [Act.put, List.setIfInBounds_toArray, List.set_cons_zero, List.set_cons_succ])
              first
                | (refine take_in (i := 16) (v := ?_) rfl (by kernel_rfl) (by kernel_rfl) (by kernel_rfl) (fun _ _ _ h => h) (Or.inl ⟨by rfl, ?_⟩) (Below.refl _ _) ?_; rotate_left; (focus (intro W hSw; go_simp; (try rfl); done)); (try simp only [Act.put, List.setIfInBounds_toArray, List.set_cons_zero, List.set_cons_succ]))
                | (refine take_in (i := 16) (v := undef) rfl (by kernel_rfl) (by kernel_rfl) (by kernel_rfl) (fun _ _ _ h => h) (Or.inr ⟨by rfl, rfl⟩) (Below.refl _ _) ?_; (try simp only [Act.put, List.setIfInBounds_toArray, List.set_cons_zero, List.set_cons_succ]))
                | (fail "HTAKE 16")
              refine wpAnyH_done (by kernel_rfl) ?_ _
              have xa := XA w1 (Below.refl _ _)
              have xb := XB w1 (Below.refl _ _)
              have xc := XC w1 (Below.refl _ _)
              have HZ := HZ1
              have HO := HO1
              have HB := HB1
              clear XA XB XC HZ1 HO1 HB1
              go_upto_if 110 with fail
              go_cut [10] from 111 to 113 (fun s10 wx => s10 = .int .i64 s4 ∧ wx.heap[w.heap.size + 4]? = some (.cells #[Value.int .u64 i0, Value.int .u64 p1.1, Value.string p2.1, Value.bool p3.1, Value.float .f64 p4.1, Value.float .f64 e1, Value.slice G1 n1 c1] 26 (0, 0)) ∧ Own wx (w.heap.size + 5) 3 (.int .i64) (.slice Av u cv) (clL [(p1.2, 5), (p2.2, 1), (p3.2, 2)]) ∧ Below (w.heap.size + 4) w5 wx)
              case first =>
                rcases HSP4.out with ⟨rfl, rfl⟩ | ⟨rfl, rfl⟩ | ⟨rfl, rfl⟩
                · go_wp2_with fail
                  go_meet
                  case rel => exact ⟨rfl, HZ.out, HO.out, HB.out⟩
                · have hz := HZ.out
                  obtain ⟨-, -, -, -, y4, -, -⟩ := blk7 hz
                  have fz := blk_free hz 4
                  clear hz
                  go_wp2_with fail
                  go_meet
                  case rel => exact ⟨rfl, blk_set HZ.out 4 _, own_setI HO.out (by simp) _, HB.out.setCell (p := ⟨w.heap.size + 4, 4, none⟩) (Nat.le_refl _) _⟩
                · go_wp2_with fail
                  go_meet
                  case rel => exact ⟨rfl, HZ.out, HO.out, HB.out⟩
              case rest =>
                obtain ⟨rfl, hz2, ho2, hb2⟩ := hcut
                clear xa xb xc HZ HO HB
                have HZ := Lib.hid hz2
                have HO := Lib.hid ho2
                have HB := Lib.hid hb2
                clear hz2 ho2 hb2
                go_upto_if 115 with fail
                go_cut [9] from 116 to 118 (fun s9 wx => ∃ v, v = s9 ∧ wx.heap[w.heap.size + 4]? = some (.cells #[Value.int .u64 i0, Value.int .u64 p1.1, Value.string p2.1, Value.bool p3.1, Value.float .f64 p4.1, Value.float .f64 e1, Value.slice G1 n1 c1] 26 (0, 0)) ∧ Own wx (w.heap.size + 5) 3 (.int .i64) v (clL [(p1.2, 5), (p2.2, 1), (p3.2, 2), (p4.2, 3)]) ∧ Below (w.heap.size + 4) w5 wx)
                case first =>
                  have HF := Lib.hid (cl_no [(p1.2, 5), (p2.2, 1), (p3.2, 2)] 3)
                  rcases HSP4.out with ⟨rfl, rfl⟩ | ⟨rfl, rfl⟩ | ⟨rfl, rfl⟩
                  · go_wp2_with fail
                    go_meet
                    case rel => exact ⟨_, rfl, HZ.out, by rw [show clL [(p1.2, 5), (p2.2, 1), (p3.2, 2), (false, 3)] = clL [(p1.2, 5), (p2.2, 1), (p3.2, 2)] from HF.out]; exact HO.out, HB.out⟩
                  · go_wp2_with fail
                    go_meet
                    case rel => exact ⟨_, rfl, HZ.out, by rw [show clL [(p1.2, 5), (p2.2, 1), (p3.2, 2), (false, 3)] = clL [(p1.2, 5), (p2.2, 1), (p3.2, 2)] from HF.out]; exact HO.out, HB.out⟩
                  · have HN := Lib.hid (cl_more [(p1.2, 5), (p2.2, 1), (p3.2, 2)] 3)
                    go_wp2_with (at_builtin; refine wp_appO (m := 1) (r := [(3 : Int)]) (ys := [.int .i64 3]) rfl (.tmp 116) (.tmp 117) rfl (HO.out.below (below_alloc1 wc _)) rfl (fun e => by cases e) (fun ad' e => by cases e; exact At.blk (heap_alloc_new wc _)) (RdL.single (rd_intv (by decide))) (Below.refl _ _) Try.underlying33 info_int rfl (by decide) rfl rfl (by rw [HU.out]; omega) (by rw [HU.out]; omega) (by have := blk_lt HZ.out; simp; omega) ?_; intro v9 w9 hO9 hb9 _ _; obtain ⟨A9, c9, rfl, _⟩ := Own.form hO9; have e9 : (clL [(p1.2, 5), (p2.2, 1), (p3.2, 2)] ++ [(3 : Int)]).length = u + 1 := (by rw [List.length_append, HU.out]; rfl); rw [e9] at hO9 ⊢; have HO9 := Lib.hid hO9; have HB9 := Lib.hid hb9; clear hO9 hb9)
                    go_meet
                    case rel => exact ⟨_, rfl, blk_below (blk_alloc HZ.out _) HB9.out (by omega), by rw [show clL [(p1.2, 5), (p2.2, 1), (p3.2, 2), (true, 3)] = clL [(p1.2, 5), (p2.2, 1), (p3.2, 2)] ++ [3] from HN.out]; exact HO9.out, (HB.out.alloc (by have := blk_lt HZ.out; omega) _).trans (HB9.out.mono (by omega))⟩
                case rest =>
                  obtain ⟨v, rfl, hz3, ho3, hb3⟩ := hcut
                  clear HZ HO HB HU hu5 HP4
                  have HZ := Lib.hid hz3
                  have HO := Lib.hid ho3
                  have HB := Lib.hid hb3
                  clear hz3 ho3 hb3
                  have hz1 := HB.out
                  have hxa := blk_below HXa.out hz1 (by omega)
                  have hxb := blk_below HXb.out hz1 (by omega)
                  have hxc := blk_below HXc.out hz1 (by omega)
                  have xa : wc.cell? ⟨w.heap.size, 5, none⟩ = some (.float .f64 e0) := blk_at hxa 5 _ rfl
                  have xb : wc.cell? ⟨w.heap.size + 1, 5, none⟩ = some (.float .f64 e1) := blk_at hxb 5 _ rfl
                  have xc : wc.cell? ⟨w.heap.size + 1 + 1, 5, none⟩ = some (.float .f64 e2) := blk_at hxc 5 _ rfl
                  obtain ⟨Av, cv, rfl, _⟩ := Own.form HO.out
                  obtain ⟨u, hu⟩ : ∃ u, (clL [(p1.2, 5), (p2.2, 1), (p3.2, 2), (p4.2, 3)]).length = u := ⟨_, rfl⟩
                  have hu5 : u ≤ 4 := by rw [← hu]; exact cl_len _
                  have HU := Lib.hid hu
                  rw [hu] at HO ⊢
                  clear hu
                  clear hz1 hxa hxb hxc
                  go_upto_region 24 with fail
                  refine region_in (by kernel_rfl) (fun w1 hw1 => ?_)
                  have HZ1 := Lib.hid (blk_below HZ.out hw1 (blk_lt HZ.out))
                  have HO1 := Lib.hid (HO.out.below hw1)
                  have HB1 := Lib.hid (HB.out.trans (hw1.mono (Nat.le_of_lt (blk_lt HZ.out))))
                  have XA : ∀ W, Below w1.heap.size w1 W → W.cell? ⟨w.heap.size, 5, none⟩ = some (.float .f64 e0) := fun W hW => cell_below (hw1.trans (hW.mono hw1.size)) xa
                  have XB : ∀ W, Below w1.heap.size w1 W → W.cell? ⟨w.heap.size + 1, 5, none⟩ = some (.float .f64 e1) := fun W hW => cell_below (hw1.trans (hW.mono hw1.size)) xb
                  have XC : ∀ W, Below w1.heap.size w1 W → W.cell? ⟨w.heap.size + 1 + 1, 5, none⟩ = some (.float .f64 e2) := fun W hW => cell_below (hw1.trans (hW.mono hw1.size)) xc
                  clear xa xb xc HZ HO HB hw1
                  first
                    | (refine take_in (i := 0) (v := ?_) rfl (by kernel_rfl) (by kernel_rfl) (by kernel_rfl) (fun _ _ _ h => h) (Or.inl ⟨by rfl, ?_⟩) (Below.refl _ _) ?_; rotate_left; (focus (intro W hSw; go_simp; (try rfl); done)); (try simp only [Act.put, List.setIfInBounds_toArray, List.set_cons_zero, List.set_cons_succ]))
                    | (refine take_in (i := 0) (v := undef) rfl (by kernel_rfl) (by kernel_rfl) (by kernel_rfl) (fun _ _ _ h => h) (Or.inr ⟨by rfl, rfl⟩) (Below.refl _ _) ?_; (try simp only [Act.put, List.setIfInBounds_toArray, List.set_cons_zero, List.set_cons_succ]))
                    | (fail "HTAKE 0")
                  first
                    | (refine take_in (i := 1) (v := ?_) rfl (by kernel_rfl) (by kernel_rfl) (by kernel_rfl) (fun _ _ _ h => h) (Or.inl ⟨by rfl, ?_⟩) (Below.refl _ _) ?_; rotate_left; (focus (intro W hSw; have XB := XB W hSw; go_simp; (try rfl); done)); (try simp only [Act.put, List.setIfInBounds_toArray, List.set_cons_zero, List.set_cons_succ]))
                    | (refine take_in (i := 1) (v := undef) rfl (by kernel_rfl) (by kernel_rfl) (by kernel_rfl) (fun _ _ _ h => h) (Or.inr ⟨by rfl, rfl⟩) (Below.refl _ _) ?_; (try simp only [Act.put, List.setIfInBounds_toArray, List.set_cons_zero, List.set_cons_succ]))
                    | (fail "HTAKE 1")
                  first
                    | (refine take_in (i := 2) (v := ?_) rfl (by kernel_rfl) (by kernel_rfl) (by kernel_rfl) (fun _ _ _ h => h) (Or.inl ⟨by rfl, ?_⟩) (Below.refl _ _) ?_; rotate_left; (focus (intro W hSw; go_simp; (try rfl); done)); (try simp only [Act.put, List.setIfInBounds_toArray, List.set_cons_zero, List.set_cons_succ]))
                    | (refine take_in (i := 2) (v := undef) rfl (by kernel_rfl) (by kernel_rfl) (by kernel_rfl) (fun _ _ _ h => h) (Or.inr ⟨by rfl, rfl⟩) (Below.refl _ _) ?_; (try simp only [Act.put, List.setIfInBounds_toArray, List.set_cons_zero, List.set_cons_succ]))
                    | (fail "HTAKE 2")
                  first
                    | (refine take_in (i := 3) (v := ?_) rfl (by kernel_rfl) (by kernel_rfl) (by kernel_rfl) (fun _ _ _ h => h) (Or.inl ⟨by rfl, ?_⟩) (Below.refl _ _) ?_; rotate_left; (focus (intro W hSw; have XA := XA W hSw; go_simp; (try rfl); done)); (try simp only [Act.put, List.setIfInBounds_toArray, List.set_cons_zero, List.set_cons_succ]))
                    | (refine take_in (i := 3) (v := undef) rfl (by kernel_rfl) (by kernel_rfl) (by kernel_rfl) (fun _ _ _ h => h) (Or.inr ⟨by rfl, rfl⟩) (Below.refl _ _) ?_; (try simp only [Act.put, List.setIfInBounds_toArray, List.set_cons_zero, List.set_cons_succ]))
                    | (fail "HTAKE 3")
                  first
                    | (refine take_in (i := 5) (v := ?_) rfl (by kernel_rfl) (by kernel_rfl) (by kernel_rfl) (fun _ _ _ h => h) (Or.inl ⟨by rfl, ?_⟩) (Below.refl _ _) ?_; rotate_left; (focus (intro W hSw; go_simp; (try rfl); done)); (try simp only [Act.put, List.setIfInBounds_toArray, List.set_cons_zero, List.set_cons_succ]))
                    | (refine take_in (i := 5) (v := undef) rfl (by kernel_rfl) (by kernel_rfl) (by kernel_rfl) (fun _ _ _ h => h) (Or.inr ⟨by rfl, rfl⟩) (Below.refl _ _) ?_; (try simp only [Act.put, List.setIfInBounds_toArray, List.set_cons_zero, List.set_cons_succ]))
                    | (fail "HTAKE 5")
                  first
                    | (refine take_in (i := 6) (v := ?_) rfl (by kernel_rfl) (by kernel_rfl) (by kernel_rfl) (fun _ _ _ h => h) (Or.inl ⟨by rfl, ?_⟩) (Below.refl _ _) ?_; rotate_left; (focus (intro W hSw; have XC := XC W hSw; go_simp; (try rfl); done)); (try simp only [Act.put, List.setIfInBounds_toArray, List.set_cons_zero, List.set_cons_succ]))
                    | (refine take_in (i := 6) (v := undef) rfl (by kernel_rfl) (by kernel_rfl) (by kernel_rfl) (fun _ _ _ h => h) (Or.inr ⟨by rfl, rfl⟩) (Below.refl _ _) ?_; (try simp only [Act.put, List.setIfInBounds_toArray, List.set_cons_zero, List.set_cons_succ]))
                    | (fail "HTAKE 6")
                  first
                    | (refine take_in (i := 7) (v := ?_) rfl (by kernel_rfl) (by kernel_rfl) (by kernel_rfl) (fun _ _ _ h => h) (Or.inl ⟨by rfl, ?_⟩) (Below.refl _ _) ?_; rotate_left; (focus (intro W hSw; go_simp; (try rfl); done)); (try simp only [Act.put, List.setIfInBounds_toArray, List.set_cons_zero, List.set_cons_succ]))
                    | (refine take_in (i := 7) (v := undef) rfl (by kernel_rfl) (by kernel_rfl) (by kernel_rfl) (fun _ _ _ h => h) (Or.inr ⟨by rfl, rfl⟩) (Below.refl _ _) ?_; (try simp only [Act.put, List.setIfInBounds_toArray, List.set_cons_zero, List.set_cons_succ]))
                    | (fail "HTAKE 7")
                  first
                    | (refine take_in (i := 8) (v := ?_) rfl (by kernel_rfl) (by kernel_rfl) (by kernel_rfl) (fun _ _ _ h => h) (Or.inl ⟨by rfl, ?_⟩) (Below.refl _ _) ?_; rotate_left; (focus (intro W hSw; have XA := XA W hSw; go_simp; (try rfl); done)); (try simp only [Act.put, List.setIfInBounds_toArray, List.set_cons_zero, List.set_cons_succ]))
                    | (refine take_in (i := 8) (v := undef) rfl (by kernel_rfl) (by kernel_rfl) (by kernel_rfl) (fun _ _ _ h => h) (Or.inr ⟨by rfl, rfl⟩) (Below.refl _ _) ?_; (try simp only [Act.put, List.setIfInBounds_toArray, List.set_cons_zero, List.set_cons_succ]))
                    | (fail "HTAKE 8")
                  first
                    | (refine take_in (i := 10) (v := ?_) rfl (by kernel_rfl) (by kernel_rfl) (by kernel_rfl) (fun _ _ _ h => h) (Or.inl ⟨by rfl, ?_⟩) (Below.refl _ _) ?_; rotate_left; (focus (intro W hSw; go_simp; (try rfl); done)); (try simp only [Act.put, List.setIfInBounds_toArray, List.set_cons_zero, List.set_cons_succ]))
                    | (refine take_in (i := 10) (v := undef) rfl (by kernel_rfl) (by kernel_rfl) (by kernel_rfl) (fun _ _ _ h => h) (Or.inr ⟨by rfl, rfl⟩) (Below.refl _ _) ?_; (try simp only [Act.put, List.setIfInBounds_toArray, List.set_cons_zero, List.set_cons_succ]))
                    | (fail "HTAKE 10")
                  first
                    | (refine take_in (i := 11) (v := ?_) rfl (by kernel_rfl) (by kernel_rfl) (by kernel_rfl) (fun _ _ _ h => h) (Or.inl ⟨by rfl, ?_⟩) (Below.refl _ _) ?_; rotate_left; (focus (intro W hSw; have XB := XB W hSw; go_simp; (try rfl); done)); (try simp only [Act.put, List.setIfInBounds_toArray, List.set_cons_zero, List.set_cons_succ]))
                    | (refine take_in (i := 11) (v := undef) rfl (by kernel_rfl) (by kernel_rfl) (by kernel_rfl) (fun _ _ _ h => h) (Or.inr ⟨by rfl, rfl⟩) (Below.refl _ _) ?_; (try simp only [Act.put, List.setIfInBounds_toArray, List.set_cons_zero, List.set_cons_succ]))
                    | (fail "HTAKE 11")
                  first
                    | (refine take_in (i := 12) (v := ?_) rfl (by kernel_rfl) (by kernel_rfl) (by kernel_rfl) (fun _ _ _ h => h) (Or.inl ⟨by rfl, ?_⟩) (Below.refl _ _) ?_; rotate_left; (focus (intro W hSw; go_simp; (try rfl); done)); (try simp only [Act.put, List.setIfInBounds_toArray, List.set_cons_zero, List.set_cons_succ]))
                    | (refine take_in (i := 12) (v := undef) rfl (by kernel_rfl) (by kernel_rfl) (by kernel_rfl) (fun _ _ _ h => h) (Or.inr ⟨by rfl, rfl⟩) (Below.refl _ _) ?_; (try simp only [Act.put, List.setIfInBounds_toArray, List.set_cons_zero, List.set_cons_succ]))
                    | (fail "HTAKE 12")
                  first
                    | (refine take_in (i := 13) (v := ?_) rfl (by kernel_rfl) (by kernel_rfl) (by kernel_rfl) (fun _ _ _ h => h) (Or.inl ⟨by rfl, ?_⟩) (Below.refl _ _) ?_; rotate_left; (focus (intro W hSw; have XC := XC W hSw; go_simp; (try rfl); done)); (try simp only [Act.put, List.setIfInBounds_toArray, List.set_cons_zero, List.set_cons_succ]))
                    | (refine take_in (i := 13) (v := undef) rfl (by kernel_rfl) (by kernel_rfl) (by kernel_rfl) (fun _ _ _ h => h) (Or.inr ⟨by rfl, rfl⟩) (Below.refl _ _) ?_; (try simp only [Act.put, List.setIfInBounds_toArray, List.set_cons_zero, List.set_cons_succ]))
                    | (fail "HTAKE 13")
                  refine call_in (i := 4) rfl (by kernel_rfl) (by kernel_rfl) (fun K hK => ?_)
                  go_simp
                  refine (rsame_any _ _ _).mono ?_
                  rintro e w' ⟨rfl, rfl⟩
                  refine hK.out _ _ (Below.refl _ _) ?_
                  (try simp only [Act.put, List.setIfInBounds_toArray, List.set_cons_zero, List.set_cons_succ])
                  refine call_in (i := 9) rfl (by kernel_rfl) (by kernel_rfl) (fun K hK => ?_)
                  go_simp
                  refine (rsame_any _ _ _).mono ?_
                  rintro e w' ⟨rfl, rfl⟩
                  refine hK.out _ _ (Below.refl _ _) ?_
                  (try simp only [Act.put, List.setIfInBounds_toArray, List.set_cons_zero, List.set_cons_succ])
                  refine call_in (i := 14) rfl (by kernel_rfl) (by kernel_rfl) (fun K hK => ?_)
                  go_simp
                  refine (rsame_any _ _ _).mono ?_
                  rintro e w' ⟨rfl, rfl⟩
                  refine hK.out _ _ (Below.refl _ _) ?_
                  (try simp only [Act.put, List.setIfInBounds_toArray, List.set_cons_zero, List.set_cons_succ])
                  refine call_in (i := 15) rfl (by kernel_rfl) (by kernel_rfl) (fun K hK => ?_)
                  go_simp
                  refine (HP5.out _).mono ?_
                  rintro e w' ⟨rfl, rfl⟩
                  refine hK.out _ _ (Below.refl _ _) ?_
                  (try simp only [Act.put, List.setIfInBounds_toArray, List.set_cons_zero, List.set_cons_succ])
                  first
                    | (refine take_in (i := 16) (v := ?_) rfl (by kernel_rfl) (by kernel_rfl) (by kernel_rfl) (fun _ _ _ h => h) (Or.inl ⟨by rfl, ?_⟩) (Below.refl _ _) ?_; rotate_left; (focus (intro W hSw; go_simp; (try rfl); done)); (try simp only [Act.put, List.setIfInBounds_toArray, List.set_cons_zero, List.set_cons_succ]))
                    | (refine take_in (i := 16) (v := undef) rfl (by kernel_rfl) (by kernel_rfl) (by kernel_rfl) (fun _ _ _ h => h) (Or.inr ⟨by rfl, rfl⟩) (Below.refl _ _) ?_; (try simp only [Act.put, List.setIfInBounds_toArray, List.set_cons_zero, List.set_cons_succ]))
                    | (fail "HTAKE 16")
                  refine wpAnyH_done (by kernel_rfl) ?_ _
                  have xa := XA w1 (Below.refl _ _)
                  have xb := XB w1 (Below.refl _ _)
                  have xc := XC w1 (Below.refl _ _)
                  have HZ := HZ1
                  have HO := HO1
                  have HB := HB1
                  clear XA XB XC HZ1 HO1 HB1
                  go_upto_if 136 with fail
                  go_cut [10] from 137 to 139 (fun s10 wx => s10 = .int .i64 s5 ∧ wx.heap[w.heap.size + 4]? = some (.cells #[Value.int .u64 i0, Value.int .u64 p1.1, Value.string p2.1, Value.bool p3.1, Value.float .f64 p4.1, Value.float .f64 p5.1, Value.slice G1 n1 c1] 26 (0, 0)) ∧ Own wx (w.heap.size + 5) 3 (.int .i64) (.slice Av u cv) (clL [(p1.2, 5), (p2.2, 1), (p3.2, 2), (p4.2, 3)]) ∧ Below (w.heap.size + 4) w5 wx)
                  case first =>
                    rcases HSP5.out with ⟨rfl, rfl⟩ | ⟨rfl, rfl⟩ | ⟨rfl, rfl⟩
                    · go_wp2_with fail
                      go_meet
                      case rel => exact ⟨rfl, HZ.out, HO.out, HB.out⟩
                    · have hz := HZ.out
                      obtain ⟨-, -, -, -, -, y5, -⟩ := blk7 hz
                      have fz := blk_free hz 5
                      clear hz
                      go_wp2_with fail
                      go_meet
                      case rel => exact ⟨rfl, blk_set HZ.out 5 _, own_setI HO.out (by simp) _, HB.out.setCell (p := ⟨w.heap.size + 4, 5, none⟩) (Nat.le_refl _) _⟩
                    · go_wp2_with fail
                      go_meet
                      case rel => exact ⟨rfl, HZ.out, HO.out, HB.out⟩
                  case rest =>
                    obtain ⟨rfl, hz2, ho2, hb2⟩ := hcut
                    clear xa xb xc HZ HO HB
                    have HZ := Lib.hid hz2
                    have HO := Lib.hid ho2
                    have HB := Lib.hid hb2
                    clear hz2 ho2 hb2
                    go_upto_if 141 with fail
                    go_cut [9] from 142 to 144 (fun s9 wx => ∃ v, v = s9 ∧ wx.heap[w.heap.size + 4]? = some (.cells #[Value.int .u64 i0, Value.int .u64 p1.1, Value.string p2.1, Value.bool p3.1, Value.float .f64 p4.1, Value.float .f64 p5.1, Value.slice G1 n1 c1] 26 (0, 0)) ∧ Own wx (w.heap.size + 5) 3 (.int .i64) v (clL [(p1.2, 5), (p2.2, 1), (p3.2, 2), (p4.2, 3), (p5.2, 4)]) ∧ Below (w.heap.size + 4) w5 wx)
                    case first =>
                      have HF := Lib.hid (cl_no [(p1.2, 5), (p2.2, 1), (p3.2, 2), (p4.2, 3)] 4)
                      rcases HSP5.out with ⟨rfl, rfl⟩ | ⟨rfl, rfl⟩ | ⟨rfl, rfl⟩
                      · go_wp2_with fail
                        go_meet
                        case rel => exact ⟨_, rfl, HZ.out, by rw [show clL [(p1.2, 5), (p2.2, 1), (p3.2, 2), (p4.2, 3), (false, 4)] = clL [(p1.2, 5), (p2.2, 1), (p3.2, 2), (p4.2, 3)] from HF.out]; exact HO.out, HB.out⟩
                      · go_wp2_with fail
                        go_meet
                        case rel => exact ⟨_, rfl, HZ.out, by rw [show clL [(p1.2, 5), (p2.2, 1), (p3.2, 2), (p4.2, 3), (false, 4)] = clL [(p1.2, 5), (p2.2, 1), (p3.2, 2), (p4.2, 3)] from HF.out]; exact HO.out, HB.out⟩
                      · have HN := Lib.hid (cl_more [(p1.2, 5), (p2.2, 1), (p3.2, 2), (p4.2, 3)] 4)
                        go_wp2_with (at_builtin; refine wp_appO (m := 1) (r := [(4 : Int)]) (ys := [.int .i64 4]) rfl (.tmp 142) (.tmp 143) rfl (HO.out.below (below_alloc1 wc _)) rfl (fun e => by cases e) (fun ad' e => by cases e; exact At.blk (heap_alloc_new wc _)) (RdL.single (rd_intv (by decide))) (Below.refl _ _) Try.underlying33 info_int rfl (by decide) rfl rfl (by rw [HU.out]; omega) (by rw [HU.out]; omega) (by have := blk_lt HZ.out; simp; omega) ?_; intro v9 w9 hO9 hb9 _ _; obtain ⟨A9, c9, rfl, _⟩ := Own.form hO9; have e9 : (clL [(p1.2, 5), (p2.2, 1), (p3.2, 2), (p4.2, 3)] ++ [(4 : Int)]).length = u + 1 := (by rw [List.length_append, HU.out]; rfl); rw [e9] at hO9 ⊢; have HO9 := Lib.hid hO9; have HB9 := Lib.hid hb9; clear hO9 hb9)
                        go_meet
                        case rel => exact ⟨_, rfl, blk_below (blk_alloc HZ.out _) HB9.out (by omega), by rw [show clL [(p1.2, 5), (p2.2, 1), (p3.2, 2), (p4.2, 3), (true, 4)] = clL [(p1.2, 5), (p2.2, 1), (p3.2, 2), (p4.2, 3)] ++ [4] from HN.out]; exact HO9.out, (HB.out.alloc (by have := blk_lt HZ.out; omega) _).trans (HB9.out.mono (by omega))⟩
                    case rest =>
                      obtain ⟨v, rfl, hz3, ho3, hb3⟩ := hcut
                      clear HZ HO HB HU hu5 HP5
                      have HZ := Lib.hid hz3
                      have HO := Lib.hid ho3
                      have HB := Lib.hid hb3
                      clear hz3 ho3 hb3
                      have hz1 := HB.out
                      have xa : wc.cell? ⟨w.heap.size, 6, none⟩ = some (.slice G0 n0 c0) := blk_at (blk_below HXa.out hz1 (by omega)) 6 _ rfl
                      have xb : wc.cell? ⟨w.heap.size + 1, 6, none⟩ = some (.slice G1 n1 c1) := blk_at (blk_below HXb.out hz1 (by omega)) 6 _ rfl
                      have xc : wc.cell? ⟨w.heap.size + 1 + 1, 6, none⟩ = some (.slice G2 n2 c2) := blk_at (blk_below HXc.out hz1 (by omega)) 6 _ rfl
                      have HWc := Lib.hid (HBW.out.trans (hz1.mono (Nat.le_add_right _ 4)))
                      clear hz1
                      go_upto_region 30 with fail
                      refine (rtags_any wc G0 G1 G2 n0 c0 n1 c1 n2 c2 g0 g1 g2 (H0.out.below HWc.out) (H1.out.below HWc.out) (H2.out.below HWc.out) b0 b1 b2).mono ?_
                      rintro e w6 ⟨v6, rfl, hO6, hb6⟩
                      obtain ⟨A6, c6, rfl, hqc, _, _, hR6⟩ := Own.form hO6
                      rw [HT.out] at hO6 hR6 hqc ⊢
                      obtain ⟨q, hq⟩ : ∃ q, T.length = q := ⟨_, rfl⟩
                      have HQ := Lib.hid hq
                      rw [hq] at hO6 hR6 hqc ⊢
                      have HZ6 := Lib.hid (blk_below HZ.out hb6 (blk_lt HZ.out))
                      have HO6 := Lib.hid (HO.out.below hb6)
                      have HB6 := Lib.hid (HB.out.trans (hb6.mono (Nat.le_of_lt (blk_lt HZ.out))))
                      have HLZ := Lib.hid (show w.heap.size + 5 ≤ wc.heap.size from blk_lt HZ.out)
                      have HR6 := Lib.hid (hR6.weak (ok' := fun k => w.heap.size + 5 ≤ k) (fun k hk _ => Nat.le_trans HLZ.out hk))
                      have hz := HZ6.out
                      obtain ⟨-, -, -, -, -, -, y6⟩ := blk7 hz
                      have fz := blk_free hz 6
                      clear hz hO6 hR6 hb6 hq HZ HO HB xa xb xc
                      go_upto_region 30 with fail
                      by_cases hq4 : 4 < q
                      · have hq4' : (4 : Int) < (q : Int) := by omega
                        have HMM := Lib.hid (show 4 = min T.length 4 by rw [HQ.out]; omega)
                        have k4 : (4 : Int) ≤ (c6 : Int) := by omega
                        have hz8 := blk_set (blk_set HZ6.out 6 (.slice A6 q c6)) 6 (.slice A6 4 c6)
                        have hb8 : Below (w.heap.size + 4) w5 ((w6.setCell ⟨w.heap.size + 1 + 1 + 1 + 1, 6, none⟩ (.slice A6 q c6)).setCell ⟨w.heap.size + 1 + 1 + 1 + 1, 6, none⟩ (.slice A6 4 c6)) := (HB6.out.setCell (p := ⟨w.heap.size + 4, 6, none⟩) (Nat.le_refl _) _).setCell (p := ⟨w.heap.size + 4, 6, none⟩) (Nat.le_refl _) _
                        have ho8 : Own ((w6.setCell ⟨w.heap.size + 1 + 1 + 1 + 1, 6, none⟩ (.slice A6 q c6)).setCell ⟨w.heap.size + 1 + 1 + 1 + 1, 6, none⟩ (.slice A6 4 c6)) (w.heap.size + 5) 3 (.int .i64) v _ := own_setI (own_setI HO6.out (a := ⟨w.heap.size + 4, 6, none⟩) (by simp) _) (a := ⟨w.heap.size + 4, 6, none⟩) (by simp) _
                        have hr8 : Rows ((w6.setCell ⟨w.heap.size + 1 + 1 + 1 + 1, 6, none⟩ (.slice A6 q c6)).setCell ⟨w.heap.size + 1 + 1 + 1 + 1, 6, none⟩ (.slice A6 4 c6)) (fun k => w.heap.size + 5 ≤ k) .str A6 4 (T.take 4) := (rows_to HR6.out 4 (by omega)).of (fun a v hk hc => by
                          have h9 : w.heap.size + 5 ≤ a.block := hk
                          rw [World.cell?_setCell_far _ _ _ _ (by show w.heap.size + 4 ≠ a.block; omega), World.cell?_setCell_far _ _ _ _ (by show w.heap.size + 4 ≠ a.block; omega)]; exact hc) (fun _ h _ => h)
                        have HZ8 := Lib.hid hz8
                        have HB8 := Lib.hid hb8
                        have HO8 := Lib.hid ho8
                        have HR8 := Lib.hid hr8
                        clear hz8 hb8 ho8 hr8
                        go_upto_region 32 with fail
                        have HQ8 := Lib.hid (blk_below HXq.out HB8.out (by omega))
                        go_wp2_with (first
                          | (refine wpL_load rfl 26 _ rfl _ rfl _ _ (At.blk HZ8.out) Try.underlying26 rfl rfl ?_)
                          | (refine wpL_store rfl 26 (.tmp 6) (.tmp 161) rfl (w.heap.size + 3) rfl _ _ 26 rfl HQ8.out rfl rfl (by intro v hv; simp at hv; rcases hv with rfl | rfl | rfl | rfl | rfl | rfl | rfl <;> rfl) ?_; intro w8 hw8 hg8))
                        refine bodyPost_ret (result_pair rfl _ _ (w.heap.size + 3) 26 _ (0, 0) _ rfl hw8 Try.underlying26 rfl rfl) rfl ?_
                        refine ⟨A6, 4, c6, v, rfl, HMM.out, ?_, ?_, ?_⟩
                        · exact HR8.out.of (ok' := anyB) (fun a v hk hc => cell_grown hg8 hc (by intro e; injection e with e; have h9 : w.heap.size + 5 ≤ a.block := hk; omega)) (fun _ _ _ => trivial)
                        · exact own_keepI HO8.out hg8 (by omega) (by omega)
                        · exact (HBW.out.trans (HB8.out.mono (by omega))).grown hg8 (by have := HB8.out.size; have := HS5.out; omega) (fun k e => by injection e with e; omega)
                      · have hq4' : ¬ (4 : Int) < (q : Int) := by omega
                        have HMM := Lib.hid (show q = min T.length 4 by rw [HQ.out]; omega)
                        have hz8 := blk_set HZ6.out 6 (.slice A6 q c6)
                        have hb8 : Below (w.heap.size + 4) w5 (w6.setCell ⟨w.heap.size + 1 + 1 + 1 + 1, 6, none⟩ (.slice A6 q c6)) := HB6.out.setCell (p := ⟨w.heap.size + 4, 6, none⟩) (Nat.le_refl _) _
                        have ho8 : Own (w6.setCell ⟨w.heap.size + 1 + 1 + 1 + 1, 6, none⟩ (.slice A6 q c6)) (w.heap.size + 5) 3 (.int .i64) v _ := own_setI HO6.out (a := ⟨w.heap.size + 4, 6, none⟩) (by simp) _
                        have hr8 : Rows (w6.setCell ⟨w.heap.size + 1 + 1 + 1 + 1, 6, none⟩ (.slice A6 q c6)) (fun k => w.heap.size + 5 ≤ k) .str A6 q (T.take q) := (rows_to HR6.out q (Nat.le_refl _)).of (fun a v hk hc => by
                          have h9 : w.heap.size + 5 ≤ a.block := hk
                          rw [World.cell?_setCell_far _ _ _ _ (by show w.heap.size + 4 ≠ a.block; omega)]; exact hc) (fun _ h _ => h)
                        have HZ8 := Lib.hid hz8
                        have HB8 := Lib.hid hb8
                        have HO8 := Lib.hid ho8
                        have HR8 := Lib.hid hr8
                        clear hz8 hb8 ho8 hr8
                        go_upto_region 32 with fail
                        have HQ8 := Lib.hid (blk_below HXq.out HB8.out (by omega))
                        go_wp2_with (first
                          | (refine wpL_load rfl 26 _ rfl _ rfl _ _ (At.blk HZ8.out) Try.underlying26 rfl rfl ?_)
                          | (refine wpL_store rfl 26 (.tmp 6) (.tmp 161) rfl (w.heap.size + 3) rfl _ _ 26 rfl HQ8.out rfl rfl (by intro v hv; simp at hv; rcases hv with rfl | rfl | rfl | rfl | rfl | rfl | rfl <;> rfl) ?_; intro w8 hw8 hg8))
                        refine bodyPost_ret (result_pair rfl _ _ (w.heap.size + 3) 26 _ (0, 0) _ rfl hw8 Try.underlying26 rfl rfl) rfl ?_
                        refine ⟨A6, q, c6, v, rfl, HMM.out, ?_, ?_, ?_⟩
                        · exact HR8.out.of (ok' := anyB) (fun a v hk hc => cell_grown hg8 hc (by intro e; injection e with e; have h9 : w.heap.size + 5 ≤ a.block := hk; omega)) (fun _ _ _ => trivial)
                        · exact own_keepI HO8.out hg8 (by omega) (by omega)
                        · exact (HBW.out.trans (HB8.out.mono (by omega))).grown hg8 (by have := HB8.out.size; have := HS5.out; omega) (fun k e => by injection e with e; omega)
end Go.Proofs.Ytfkcgmhnledbmaa
