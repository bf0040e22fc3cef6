import Derived.Test.YtnolhnlhohpkpaaCdcT
import Derived.Laws.ResultCell
namespace Go.Proofs.Ytnolhnlhohpkpaa
open Go.RowKit Cdc
set_option linter.unusedVariables false
set_option linter.unusedSimpArgs false
abbrev Z6 : Array Value := #[.int .i64 0, .int .u64 0, .int .i64 0, .float .f64 0, .slice none 0 0, .bool false]
def PartPost (w : World) (g : Nat) (k : Int) (s : St) (e : Ending) (w' : World) : Prop :=
  match rdPart ofN k s with
  | none => e = .returned (.tuple #[.agg Z6, .bool false]) ∧ w.grownBy w' (some g)
  | some (x, s') => ∃ cs : Array Value, e = .returned (.tuple #[.agg cs, .bool true]) ∧ Rd w' (fun b => w.heap.size ≤ b) PART x cs.toList ∧ RdAt w' g s' ∧ w.grownBy w' (some g)
set_option maxRecDepth 20000 in
theorem result_pair {P : Program} {fn : Func} {p u : Tmp} {ty : TypeId} (h : fn.results = #[.cell p ty, .tmp u]) (tmps : Array Value) (w : World) (g : Nat) (t : TypeId) (cs : Array Value) (fr : Nat × Nat) (d : TypeDesc)
    (hp : tmps.getD p undef = .pointer (some ⟨g, 0, none⟩)) (hg : w.heap[g]? = some (.cells cs t fr))
    (hu : P.underlying ty = some d) (hd : (match d with | .struct _ | .array _ _ => true | _ => false) = true) (hi : (P.info? ty).map (·.size) = some cs.size) :
    (results fn tmps).run P w = .ok (.tuple #[.agg cs, tmps.getD u undef]) w := by
  rw [results_cell_tmp h, hp]
  simp [asAddr, run_loadVar_row w g t ty cs fr d hg hu hd hi, Result.andThen]
set_option maxRecDepth 20000 in
theorem part_start {w w1 : World} (hg1 : ((w.alloc (.cells Z6 39)).alloc (.cells Z6 39)).grownBy w1 (some (w.heap.size + 1))) :
    w1.heap[w.heap.size]? = some (.cells Z6 39 (0, 0)) ∧ Below w.heap.size w w1 ∧ w.heap.size + 2 ≤ w1.heap.size := by
  have h0 : ((w.alloc (.cells Z6 39)).alloc (.cells Z6 39)).heap[w.heap.size]? = some (.cells Z6 39 (0, 0)) := (Below.heap_alloc _ _ _ (by simp)).trans (heap_alloc_new w _)
  refine ⟨blk_grown h0 hg1 (by intro e; injection e; omega), ?_, ?_⟩
  · exact (((Below.refl _ _).alloc (Nat.le_refl _) _).alloc (by simp) _).grown hg1 (by simp; omega) (fun k e => by injection e; omega)
  · have := hg1.size; simpa using this
set_option maxRecDepth 20000 in
theorem part_mid {w w1 w2 : World} {g : Nat} {c : Array Value} (h : w1.heap[w.heap.size]? = some (.cells Z6 39 (0, 0)) ∧ Below w.heap.size w w1 ∧ w.heap.size + 2 ≤ w1.heap.size) (hc : w1.heap[w.heap.size + 1]? = some (.cells c 39 (0, 0)))
    (hlt : g < w.heap.size) (hgr : w1.grownBy w2 (some g)) : w2.heap[w.heap.size]? = some (.cells Z6 39 (0, 0)) ∧ w2.heap[w.heap.size + 1]? = some (.cells c 39 (0, 0)) ∧ w.grownBy w2 (some g) :=
  ⟨blk_grown h.1 hgr (by intro e; injection e; omega), blk_grown hc hgr (by intro e; injection e; omega), (grown_below h.2.1).trans hgr⟩
set_option maxRecDepth 20000 in
theorem part_end {w w2 w4 : World} {g j : Nat} {v : Value} {cs : Array Value} {k : Int} {s s' : St} {x : PartT} (hx : rdPart ofN k s = some (x, s')) (hrd : Rd w2 (fun b => w.heap.size + 2 ≤ b) PART x cs.toList)
    (hr : RdAt w2 g s') (hlt : g < w.heap.size) (hq : w.grownBy w2 (some g)) (h4 : (w2.setCell ⟨w.heap.size + 1, j, none⟩ v).grownBy w4 (some w.heap.size)) : PartPost w g k s (.returned (.tuple #[.agg cs, .bool true])) w4 := by
  have h2 : w2.grownBy (w2.setCell ⟨w.heap.size + 1, j, none⟩ v) (some (w.heap.size + 1)) := grown_set (grown_refl _ _)
  unfold PartPost
  rw [hx]
  refine ⟨cs, rfl, ?_, (hr.grown h2 (by omega)).grown h4 hlt, ?_⟩
  · refine hrd.of (fun a u hk hc => cell_grown h4 (cell_grown h2 hc ?_) ?_) (fun b hb _ => by omega)
    · intro e; injection e; omega
    · intro e; injection e; omega
  · refine ⟨h4.os.trans (h2.os.trans hq.os), h4.tape.trans (h2.tape.trans hq.tape), h4.output.trans (h2.output.trans hq.output), Nat.le_trans hq.size (Nat.le_trans h2.size h4.size), fun b hb hne => ?_⟩
    have hb2 := Nat.lt_of_lt_of_le hb hq.size
    exact ((h4.block b (Nat.lt_of_lt_of_le hb2 h2.size) (by intro e; injection e; omega)).trans (h2.block b hb2 (by intro e; injection e; omega))).trans (hq.block b hb hne)
set_option maxRecDepth 20000 in
theorem part_none {w w1 w4 : World} {g : Nat} {k : Int} {s : St} (hx : rdPart ofN k s = none) (hb : Below w.heap.size w w1) (h4 : w1.grownBy w4 (some w.heap.size)) : PartPost w g k s (.returned (.tuple #[.agg Z6, .bool false])) w4 := by
  unfold PartPost
  rw [hx]
  exact ⟨rfl, grown_below (hb.grown h4 hb.size (fun k e => by injection e; omega))⟩
set_option maxRecDepth 20000 in
theorem partOk_of {k n i : Int} {f : Nat} {b : List UInt8} {q : Bool} (h1 : 0 ≤ n) (h2 : n < 18446744073709551616) (h3 : -9223372036854775808 ≤ i) (h4 : i < 9223372036854775808) (h5 : f < 18446744073709551616) : PartOk (k, n, i, f, b, q, ()) := ⟨h1, h2, h3, h4, h5⟩
set_option maxRecDepth 20000 in
theorem rd_part_nil {w : World} {ok : Nat → Prop} {k n i : Int} {f : Nat} {q : Bool} (hk : (Lit.int .i64 k).wf = true) (hx : PartOk (k, n, i, f, [], q, ())) :
    Rd w ok PART (k, n, i, f, [], q, ()) [.int .i64 k, .int .u64 n, .int .i64 i, .float .f64 f, .slice none 0 0, .bool q] := rd_part_mk hk hx (rd_nil_bytes w ok)
set_option maxRecDepth 20000 in
theorem rdI_range (s : St) : -9223372036854775808 ≤ (rdI s).1 ∧ (rdI s).1 < 9223372036854775808 := by
  have h := rdN_lt (most := FULL) (s := s) (by unfold FULL; omega)
  unfold rdI unzig
  simp only
  split <;> omega
set_option maxRecDepth 20000 in
theorem ofF_lt {k : Nat} (h : k < 18446744073709551616) : (ofF (k : Int)).1 < 18446744073709551616 := by
  rw [ofF_eq (by omega) (by omega)]
  unfold ofV
  (repeat' split) <;> first
    | decide
    | (simp only []; omega)
set_option maxRecDepth 20000 in
theorem rdF_range (s : St) : (rdF ofN s).1 < 18446744073709551616 := by
  unfold rdF
  split
  · decide
  · split
    · exact ofF_lt (fx_lt 8 s)
    · decide
set_option maxRecDepth 20000 in
theorem run_store_float {P : Program} {w : World} {a : Addr} {m : Mode} (k : FloatKind) (x : Nat) : (store a (.float k x) m).run P w = stored P w a (.float k x) m := run_store P w a _ m rfl
attribute [local go_sem] run_store_float
set_option maxHeartbeats 4000000 in
set_option maxRecDepth 20000 in
theorem part_any (w : World) (g : Nat) (k : Int) (s : St) (h : RdAt w g s) (hk : (Lit.int .i64 k).wf = true) (hl : s.1.length ≤ 1000000) :
    Calls Try.prog 53 #[.pointer (some ⟨g, 0, none⟩), .int .i64 k] w (PartPost w g k s) := by
  have hgl := h.lt
  have H := Lib.hid h
  have HK := Lib.hid hk
  have HL := Lib.hid hl
  clear h hk hl
  by_cases k1 : k = 1
  · subst k1
    go_enter Try.func53, Try.ntmps53
    go_wp2_with (first
      | (refine wpL_store rfl 39 (.tmp 6) (.tmp 8) rfl (w.heap.size + 1) rfl _ _ 39 rfl (heap_alloc2_new _ _ _) rfl rfl (by intro v hv; simp at hv; rcases hv with rfl | rfl | rfl | rfl | rfl | rfl <;> rfl) ?_
         intro w1 hc1 hg1
         have HC1 := Lib.hid hc1
         have HS := Lib.hid (part_start hg1)
         clear hc1 hg1)
      | (go_at_call 21
         refine (rN_any w1 g 18446744073709551615 s (H.out.below HS.out.2.1)).mono ?_
         rintro e w2 ⟨rfl, hr, hgr⟩
         obtain ⟨n, s1, hns⟩ : ∃ n s1, rdN FULL s = (n, s1) := ⟨_, _, rfl⟩
         rw [show rdN 18446744073709551615 s = _ from hns] at hr ⊢
         obtain ⟨q0, q1, q2⟩ := part_mid HS.out HC1.out hgl hgr
         have c1 := blk_at q1 1 _ rfl
         have f1 := blk_free q1 1
         have Q0 := Lib.hid q0
         have Q1 := Lib.hid q1
         have Q2 := Lib.hid q2
         have HR := Lib.hid hr
         have HN := Lib.hid hns
         have hlt := rdN_lt (most := FULL) (s := s) (by unfold FULL; omega)
         rw [hns] at hlt
         have HLT := Lib.hid hlt
         clear hlt
         clear q0 q1 q2 hr hgr hns)
      | (refine wpL_load rfl 39 (.tmp 6) rfl ⟨w.heap.size + 1, 0, none⟩ rfl _ _ (At.blk (blk_set Q1.out 1 _)) Try.underlying39 rfl rfl ?_)
      | (refine wpL_store rfl 39 (.tmp 4) (.tmp 36) rfl w.heap.size rfl _ _ 39 rfl (blk_other Q0.out 1 _ (by omega)) rfl rfl (by intro v hv; simp at hv; rcases hv with rfl | rfl | rfl | rfl | rfl | rfl <;> rfl) ?_
         intro w4 hw4 hg4))
    refine bodyPost_ret (result_pair rfl _ _ w.heap.size 39 _ (0, 0) _ rfl hw4 Try.underlying39 rfl rfl) rfl ?_
    refine part_end (x := (1, (n : Int), 0, 0, [], false, ())) (s' := s1) ?_ ?_ HR.out hgl Q2.out hg4
    · unfold rdPart
      simp only [HN.out]
      rfl
    · exact rd_part_nil HK.out (partOk_of (Int.natCast_nonneg _) (by have := HLT.out; omega) (by decide) (by decide) (by decide))
  by_cases k2 : k = 2
  · subst k2
    go_enter Try.func53, Try.ntmps53
    go_wp2_with (first
      | (refine wpL_store rfl 39 (.tmp 6) (.tmp 8) rfl (w.heap.size + 1) rfl _ _ 39 rfl (heap_alloc2_new _ _ _) rfl rfl (by intro v hv; simp at hv; rcases hv with rfl | rfl | rfl | rfl | rfl | rfl <;> rfl) ?_
         intro w1 hc1 hg1
         have HC1 := Lib.hid hc1
         have HS := Lib.hid (part_start hg1)
         clear hc1 hg1)
      | (go_at_call 23
         refine (rI_any w1 g s (H.out.below HS.out.2.1)).mono ?_
         rintro e w2 ⟨rfl, hr, hgr⟩
         obtain ⟨n, s1, hns⟩ : ∃ n s1, rdI s = (n, s1) := ⟨_, _, rfl⟩
         rw [show rdI s = _ from hns] at hr ⊢
         obtain ⟨q0, q1, q2⟩ := part_mid HS.out HC1.out hgl hgr
         have c1 := blk_at q1 2 _ rfl
         have f1 := blk_free q1 2
         have Q0 := Lib.hid q0
         have Q1 := Lib.hid q1
         have Q2 := Lib.hid q2
         have HR := Lib.hid hr
         have HN := Lib.hid hns
         have hlt := rdI_range s
         rw [hns] at hlt
         have HLT := Lib.hid hlt
         clear hlt
         clear q0 q1 q2 hr hgr hns)
      | (refine wpL_load rfl 39 (.tmp 6) rfl ⟨w.heap.size + 1, 0, none⟩ rfl _ _ (At.blk (blk_set Q1.out 2 _)) Try.underlying39 rfl rfl ?_)
      | (refine wpL_store rfl 39 (.tmp 4) (.tmp 36) rfl w.heap.size rfl _ _ 39 rfl (blk_other Q0.out 2 _ (by omega)) rfl rfl (by intro v hv; simp at hv; rcases hv with rfl | rfl | rfl | rfl | rfl | rfl <;> rfl) ?_
         intro w4 hw4 hg4))
    refine bodyPost_ret (result_pair rfl _ _ w.heap.size 39 _ (0, 0) _ rfl hw4 Try.underlying39 rfl rfl) rfl ?_
    refine part_end (x := (2, 0, n, 0, [], false, ())) (s' := s1) ?_ ?_ HR.out hgl Q2.out hg4
    · unfold rdPart
      simp only [HN.out]
      rfl
    · exact rd_part_nil HK.out (partOk_of (by decide) (by decide) (HLT.out.1) (HLT.out.2) (by decide))
  by_cases k3 : k = 3
  · subst k3
    go_enter Try.func53, Try.ntmps53
    go_wp2_with (first
      | (refine wpL_store rfl 39 (.tmp 6) (.tmp 8) rfl (w.heap.size + 1) rfl _ _ 39 rfl (heap_alloc2_new _ _ _) rfl rfl (by intro v hv; simp at hv; rcases hv with rfl | rfl | rfl | rfl | rfl | rfl <;> rfl) ?_
         intro w1 hc1 hg1
         have HC1 := Lib.hid hc1
         have HS := Lib.hid (part_start hg1)
         clear hc1 hg1)
      | (go_at_call 26
         refine (rF_any w1 g s (H.out.below HS.out.2.1)).mono ?_
         rintro e w2 ⟨rfl, hr, hgr⟩
         obtain ⟨n, s1, hns⟩ : ∃ n s1, rdF ofN s = (n, s1) := ⟨_, _, rfl⟩
         rw [show rdF ofN s = _ from hns] at hr ⊢
         obtain ⟨q0, q1, q2⟩ := part_mid HS.out HC1.out hgl hgr
         have c1 := blk_at q1 3 _ rfl
         have f1 := blk_free q1 3
         have Q0 := Lib.hid q0
         have Q1 := Lib.hid q1
         have Q2 := Lib.hid q2
         have HR := Lib.hid hr
         have HN := Lib.hid hns
         have hlt := rdF_range s
         rw [hns] at hlt
         have HLT := Lib.hid hlt
         clear hlt
         clear q0 q1 q2 hr hgr hns)
      | (refine wpL_load rfl 39 (.tmp 6) rfl ⟨w.heap.size + 1, 0, none⟩ rfl _ _ (At.blk (blk_set Q1.out 3 _)) Try.underlying39 rfl rfl ?_)
      | (refine wpL_store rfl 39 (.tmp 4) (.tmp 36) rfl w.heap.size rfl _ _ 39 rfl (blk_other Q0.out 3 _ (by omega)) rfl rfl (by intro v hv; simp at hv; rcases hv with rfl | rfl | rfl | rfl | rfl | rfl <;> rfl) ?_
         intro w4 hw4 hg4))
    refine bodyPost_ret (result_pair rfl _ _ w.heap.size 39 _ (0, 0) _ rfl hw4 Try.underlying39 rfl rfl) rfl ?_
    refine part_end (x := (3, 0, 0, n, [], false, ())) (s' := s1) ?_ ?_ HR.out hgl Q2.out hg4
    · unfold rdPart
      simp only [HN.out]
      rfl
    · exact rd_part_nil HK.out (partOk_of (by decide) (by decide) (by decide) (by decide) (HLT.out))
  by_cases k4 : k = 4
  · subst k4
    go_enter Try.func53, Try.ntmps53
    go_wp2_with (first
      | (refine wpL_store rfl 39 (.tmp 6) (.tmp 8) rfl (w.heap.size + 1) rfl _ _ 39 rfl (heap_alloc2_new _ _ _) rfl rfl (by intro v hv; simp at hv; rcases hv with rfl | rfl | rfl | rfl | rfl | rfl <;> rfl) ?_
         intro w1 hc1 hg1
         have HC1 := Lib.hid hc1
         have HS := Lib.hid (part_start hg1)
         clear hc1 hg1)
      | (go_at_call 28
         refine (rB_any w1 g 65536 s (H.out.below HS.out.2.1) (by omega) HL.out).mono ?_
         rintro e w2 ⟨v', rfl, hv, hr, hgr⟩
         obtain ⟨n, s1, hns⟩ : ∃ n s1, rdB 65536 s = (n, s1) := ⟨_, _, rfl⟩
         rw [show rdB 65536 s = _ from hns] at hr hv
         obtain ⟨q0, q1, q2⟩ := part_mid HS.out HC1.out hgl hgr
         have c1 := blk_at q1 4 _ rfl
         have f1 := blk_free q1 4
         have Q0 := Lib.hid q0
         have Q1 := Lib.hid q1
         have Q2 := Lib.hid q2
         have HR := Lib.hid hr
         have HN := Lib.hid hns
         have HV := Lib.hid hv
         obtain ⟨Ab, cb, rfl⟩ := rd_slice hv
         clear hv
         clear q0 q1 q2 hr hgr hns)
      | (refine wpL_load rfl 39 (.tmp 6) rfl ⟨w.heap.size + 1, 0, none⟩ rfl _ _ (At.blk (blk_set Q1.out 4 _)) Try.underlying39 rfl rfl ?_)
      | (refine wpL_store rfl 39 (.tmp 4) (.tmp 36) rfl w.heap.size rfl _ _ 39 rfl (blk_other Q0.out 4 _ (by omega)) rfl rfl (by intro v hv; simp at hv; rcases hv with rfl | rfl | rfl | rfl | rfl | rfl <;> rfl) ?_
         intro w4 hw4 hg4))
    refine bodyPost_ret (result_pair rfl _ _ w.heap.size 39 _ (0, 0) _ rfl hw4 Try.underlying39 rfl rfl) rfl ?_
    refine part_end (x := (4, 0, 0, 0, n, false, ())) (s' := s1) ?_ ?_ HR.out hgl Q2.out hg4
    · unfold rdPart
      simp only [HN.out]
      rfl
    · exact rd_part_mk HK.out (partOk_of (by decide) (by decide) (by decide) (by decide) (by decide)) (HV.out.weak (fun b hb _ => Nat.le_trans HS.out.2.2 hb))
  by_cases k5 : k = 5
  · subst k5
    go_enter Try.func53, Try.ntmps53
    go_wp2_with (first
      | (refine wpL_store rfl 39 (.tmp 6) (.tmp 8) rfl (w.heap.size + 1) rfl _ _ 39 rfl (heap_alloc2_new _ _ _) rfl rfl (by intro v hv; simp at hv; rcases hv with rfl | rfl | rfl | rfl | rfl | rfl <;> rfl) ?_
         intro w1 hc1 hg1
         have HC1 := Lib.hid hc1
         have HS := Lib.hid (part_start hg1)
         clear hc1 hg1)
      | (go_at_call 30
         refine (rFlag_any w1 g s (H.out.below HS.out.2.1)).mono ?_
         rintro e w2 ⟨rfl, hr, hgr⟩
         obtain ⟨n, s1, hns⟩ : ∃ n s1, rdFlag s = (n, s1) := ⟨_, _, rfl⟩
         rw [show rdFlag s = _ from hns] at hr ⊢
         obtain ⟨q0, q1, q2⟩ := part_mid HS.out HC1.out hgl hgr
         have c1 := blk_at q1 5 _ rfl
         have f1 := blk_free q1 5
         have Q0 := Lib.hid q0
         have Q1 := Lib.hid q1
         have Q2 := Lib.hid q2
         have HR := Lib.hid hr
         have HN := Lib.hid hns
         clear q0 q1 q2 hr hgr hns)
      | (refine wpL_load rfl 39 (.tmp 6) rfl ⟨w.heap.size + 1, 0, none⟩ rfl _ _ (At.blk (blk_set Q1.out 5 _)) Try.underlying39 rfl rfl ?_)
      | (refine wpL_store rfl 39 (.tmp 4) (.tmp 36) rfl w.heap.size rfl _ _ 39 rfl (blk_other Q0.out 5 _ (by omega)) rfl rfl (by intro v hv; simp at hv; rcases hv with rfl | rfl | rfl | rfl | rfl | rfl <;> rfl) ?_
         intro w4 hw4 hg4))
    refine bodyPost_ret (result_pair rfl _ _ w.heap.size 39 _ (0, 0) _ rfl hw4 Try.underlying39 rfl rfl) rfl ?_
    refine part_end (x := (5, 0, 0, 0, [], n, ())) (s' := s1) ?_ ?_ HR.out hgl Q2.out hg4
    · unfold rdPart
      simp only [HN.out]
      rfl
    · exact rd_part_nil HK.out (partOk_of (by decide) (by decide) (by decide) (by decide) (by decide))
  have b1 : (k == 1) = false := beq_eq_false_iff_ne.2 k1
  have b2 : (k == 2) = false := beq_eq_false_iff_ne.2 k2
  have b3 : (k == 3) = false := beq_eq_false_iff_ne.2 k3
  have b4 : (k == 4) = false := beq_eq_false_iff_ne.2 k4
  have b5 : (k == 5) = false := beq_eq_false_iff_ne.2 k5
  have HD := Lib.hid (show rdPart ofN k s = none by unfold rdPart; rw [if_neg k1, if_neg k2, if_neg k3, if_neg k4, if_neg k5])
  clear k1 k2 k3 k4 k5
  go_enter Try.func53, Try.ntmps53
  go_wp2_with (first
    | (refine wpL_store rfl 39 (.tmp 6) (.tmp 8) rfl (w.heap.size + 1) rfl _ _ 39 rfl (heap_alloc2_new _ _ _) rfl rfl (by intro v hv; simp at hv; rcases hv with rfl | rfl | rfl | rfl | rfl | rfl <;> rfl) ?_
       intro w1 hc1 hg1
       have HC1 := Lib.hid hc1
       have HS := Lib.hid (part_start hg1)
       clear hc1 hg1)
    | (refine wpL_store rfl 39 (.tmp 4) (.tmp 10) rfl w.heap.size rfl _ _ 39 rfl HS.out.1 rfl rfl (by intro v hv; simp at hv; rcases hv with rfl | rfl | rfl | rfl | rfl | rfl <;> rfl) ?_
       intro w4 hw4 hg4))
  refine bodyPost_ret (result_pair rfl _ _ w.heap.size 39 _ (0, 0) _ rfl hw4 Try.underlying39 rfl rfl) rfl ?_
  exact part_none HD.out HS.out.2.1 hg4
end Go.Proofs.Ytnolhnlhohpkpaa
