import Derived.Test.YtnolhnlhohpkpaaGd
import Derived.Test.YtnolhnlhohpkpaaHul
import Derived.Test.YtnolhnlhohpkpaaTskP
namespace Go.Proofs.Ytnolhnlhohpkpaa
open Go.RowKit Cdc
set_option linter.unusedVariables false
set_option linter.unusedSimpArgs false
attribute [local go_sem] run_store_float
/-! A task that is read. -/
def rdTags : Nat → St → List ByteArray × St
  | 0, s => ([], s)
  | n + 1, s => (⟨(rdB 60 s).1.toArray⟩ :: (rdTags n (rdB 60 s).2).1, (rdTags n (rdB 60 s).2).2)
def rdTask (s : St) : TASK.Ty × St :=
  let s1 := (rdN FULL s).2
  let s2 := (rdN FULL s1).2
  let s3 := (rdB 60 s2).2
  let s4 := (rdFlag s3).2
  let s5 := (rdF ofN s4).2
  let s6 := (rdF ofN s5).2
  let s7 := (rdN 60 s6).2
  (((rdN FULL s).1, (rdN FULL s1).1, ⟨(rdB 60 s2).1.toArray⟩, (rdFlag s3).1, (rdF ofN s4).1, (rdF ofN s5).1, (rdTags (rdN 60 s6).1 s7).1, ()), (rdTags (rdN 60 s6).1 s7).2)
set_option maxRecDepth 20000 in
theorem rdTags_len : ∀ (n : Nat) (s : St), (rdTags n s).1.length = n ∧ (rdTags n s).2.1.length ≤ s.1.length
  | 0, s => ⟨rfl, Nat.le_refl _⟩
  | n + 1, s => by
    obtain ⟨h1, h2⟩ := rdTags_len n (rdB 60 s).2
    exact ⟨by show _ + 1 = _; rw [h1], Nat.le_trans h2 (rdB_len 60 s)⟩
set_option maxRecDepth 20000 in
theorem rdTags_snoc : ∀ (n : Nat) (s : St), rdTags (n + 1) s = ((rdTags n s).1 ++ [⟨(rdB 60 (rdTags n s).2).1.toArray⟩], (rdB 60 (rdTags n s).2).2)
  | 0, s => rfl
  | n + 1, s => by
    have h := rdTags_snoc n (rdB 60 s).2
    show ((⟨(rdB 60 s).1.toArray⟩ :: (rdTags (n + 1) (rdB 60 s).2).1 : List ByteArray), (rdTags (n + 1) (rdB 60 s).2).2) = _
    rw [h]
    rfl
/-- A reader at work, and two boxes of the call's own: the result and the task. -/
def OT (w W : World) (g b : Nat) (s : St) (c : Array Value) : Prop :=
  RdAt W g s ∧ g < w.heap.size ∧ w.heap.size < b ∧ W.heap[w.heap.size]? = some (.cells Z7 63 (0, 0)) ∧ W.heap[b]? = some (.cells c 63 (0, 0)) ∧ w.grownBy W (some g) ∧ b < W.heap.size
set_option maxRecDepth 20000 in
theorem grown_new {w W W' : World} {r : Option Nat} {k : Nat} (h : w.grownBy W r) (h2 : W.grownBy W' (some k)) (hk : w.heap.size ≤ k) : w.grownBy W' r :=
  ⟨h2.os.trans h.os, h2.tape.trans h.tape, h2.output.trans h.output, Nat.le_trans h.size h2.size, fun b hb hne => (h2.block b (Nat.lt_of_lt_of_le hb h.size) (by intro e; injection e; omega)).trans (h.block b hb hne)⟩
set_option maxRecDepth 20000 in
theorem OT.read {w W W' : World} {g b : Nat} {s s' : St} {c : Array Value} (h : OT w W g b s c) (hg : W.grownBy W' (some g)) (hr : RdAt W' g s') : OT w W' g b s' c := by
  obtain ⟨h1, h2, h3, h4, h5, h6, h7⟩ := h
  exact ⟨hr, h2, h3, blk_grown h4 hg (by intro e; injection e; omega), blk_grown h5 hg (by intro e; injection e; omega), h6.trans hg, Nat.lt_of_lt_of_le h7 hg.size⟩
set_option maxRecDepth 20000 in
theorem OT.set {w W : World} {g b : Nat} {s : St} {c : Array Value} (h : OT w W g b s c) (j : Nat) (v : Value) : OT w (W.setCell ⟨b, j, none⟩ v) g b s (c.setIfInBounds j v) := by
  obtain ⟨h1, h2, h3, h4, h5, h6, h7⟩ := h
  have h0 : W.grownBy (W.setCell ⟨b, j, none⟩ v) (some b) := grown_set (grown_refl _ _)
  exact ⟨h1.grown h0 (by omega), h2, h3, blk_other h4 j v (by omega), blk_set h5 j v, grown_new h6 h0 (by omega), Nat.lt_of_lt_of_le h7 h0.size⟩
set_option maxRecDepth 20000 in
theorem OT.below {w W W' : World} {g b : Nat} {s : St} {c : Array Value} (h : OT w W g b s c) (hb : Below W.heap.size W W') : OT w W' g b s c := by
  obtain ⟨h1, h2, h3, h4, h5, h6, h7⟩ := h
  exact ⟨h1.below hb, h2, h3, blk_below h4 hb (blk_lt h4), blk_below h5 hb h7, h6.trans (grown_below hb), Nat.lt_of_lt_of_le h7 hb.size⟩
set_option maxRecDepth 20000 in
theorem OT.app {w W W' : World} {g b : Nat} {s : St} {c : Array Value} {r : Option Nat} (h : OT w W g b s c) (hg : W.grownBy W' r) (hr : ∀ k, r = some k → b < k) : OT w W' g b s c := by
  obtain ⟨h1, h2, h3, h4, h5, h6, h7⟩ := h
  have ne : ∀ k, k ≤ b → some k ≠ r := fun k hk e => by have := hr k e.symm; omega
  refine ⟨?_, h2, h3, blk_grown h4 hg (ne _ (by omega)), blk_grown h5 hg (ne _ (Nat.le_refl _)), ?_, Nat.lt_of_lt_of_le h7 hg.size⟩
  · obtain ⟨A, c, hq, q1, q2, q3, q4, q5⟩ := h1
    refine ⟨A, c, blk_grown hq hg (ne _ (by omega)), q1, q2, q3, q4.grown hg (fun hx e => ?_), q5⟩
    cases A with
    | none => have := q4.2.2.1 rfl; exact hx (List.eq_nil_of_length_eq_zero this)
    | some ad => exact ne ad.block (by have := q5 hx ad rfl; omega) e
  · exact ⟨hg.os.trans h6.os, hg.tape.trans h6.tape, hg.output.trans h6.output, Nat.le_trans h6.size hg.size, fun k hk hne => (hg.block k (Nat.lt_of_lt_of_le hk h6.size) (ne k (by omega))).trans (h6.block k hk hne)⟩
set_option maxRecDepth 20000 in
theorem rdB_most (most : Nat) (s : St) : (rdB most s).1.length ≤ most := by
  have := rdN_most most s
  unfold rdB
  split
  · exact Nat.zero_le _
  · rw [List.length_take]; omega
set_option maxRecDepth 20000 in
theorem OT.start {w w1 : World} {g : Nat} {s : St} {c : Array Value} (hg : g < w.heap.size) (h : (w.alloc (.cells Z7 63)).grownBy w1 (some g)) (hr : RdAt w1 g s) : OT w (w1.alloc (.cells c 63)) g w1.heap.size s c := by
  have hz : w.heap.size + 1 ≤ w1.heap.size := by have := h.size; simpa using this
  exact ⟨hr.below (below_alloc1 _ _), hg, hz, blk_alloc (blk_grown (heap_alloc_new w _) h (by intro e; injection e; omega)) _, heap_alloc_new w1 _, (grown_below (below_alloc1 w _)).trans (h.trans (grown_below (below_alloc1 w1 _))), by simp⟩
set_option maxHeartbeats 2000000 in
set_option maxRecDepth 20000 in
theorem oftask_any (w : World) (g : Nat) (s : St) (h : RdAt w g s) (hl : s.1.length ≤ 1000000) :
    Calls Try.prog 92 #[.pointer (some ⟨g, 0, none⟩)] w fun e w' => ∃ cs : List Value, e = .returned (.agg cs.toArray) ∧ Rd w' (fun k => w.heap.size ≤ k) TASK (rdTask s).1 cs ∧ RdAt w' g (rdTask s).2 ∧ w.grownBy w' (some g) := by
  have hgl := h.lt
  obtain ⟨n1, s1, e1⟩ : ∃ n s', rdN FULL s = (n, s') := ⟨_, _, rfl⟩
  obtain ⟨n2, s2, e2⟩ : ∃ n s', rdN FULL s1 = (n, s') := ⟨_, _, rfl⟩
  obtain ⟨b3, s3, e3⟩ : ∃ n s', rdB 60 s2 = (n, s') := ⟨_, _, rfl⟩
  obtain ⟨q4, s4, e4⟩ : ∃ n s', rdFlag s3 = (n, s') := ⟨_, _, rfl⟩
  obtain ⟨f5, s5, e5⟩ : ∃ n s', rdF ofN s4 = (n, s') := ⟨_, _, rfl⟩
  obtain ⟨f6, s6, e6⟩ : ∃ n s', rdF ofN s5 = (n, s') := ⟨_, _, rfl⟩
  obtain ⟨n7, s7, e7⟩ : ∃ n s', rdN 60 s6 = (n, s') := ⟨_, _, rfl⟩
  have HV := Lib.hid (show rdTask s = (((n1 : Int), (n2 : Int), ⟨b3.toArray⟩, q4, f5, f6, (rdTags n7 s7).1, ()), (rdTags n7 s7).2) by unfold rdTask; simp only [e1, e2, e3, e4, e5, e6, e7])
  have hz1 : s1.1.length ≤ s.1.length := by have := rdN_len FULL s; rw [e1] at this; exact this
  have hz2 : s2.1.length ≤ s1.1.length := by have := rdN_len FULL s1; rw [e2] at this; exact this
  have hz3 : s3.1.length ≤ s2.1.length := by have := rdB_len 60 s2; rw [e3] at this; exact this
  have hz4 : s4.1.length ≤ s3.1.length := by have := rdN_len 1 s3; rw [show (rdN 1 s3).2 = (rdFlag s3).2 from rfl, e4] at this; exact this
  have hz5 : s5.1.length ≤ s4.1.length := by have := rdF_len s4; rw [e5] at this; exact this
  have hz6 : s6.1.length ≤ s5.1.length := by have := rdF_len s5; rw [e6] at this; exact this
  have hz7 : s7.1.length ≤ s6.1.length := by have := rdN_len 60 s6; rw [e7] at this; exact this
  have hn1 : n1 < 18446744073709551616 := by have := rdN_lt (most := FULL) (s := s) (by unfold FULL; omega); rw [e1] at this; exact this
  have hn2 : n2 < 18446744073709551616 := by have := rdN_lt (most := FULL) (s := s1) (by unfold FULL; omega); rw [e2] at this; exact this
  have hf5 : f5 < 18446744073709551616 := by have := rdF_range s4; rw [e5] at this; exact this
  have hf6 : f6 < 18446744073709551616 := by have := rdF_range s5; rw [e6] at this; exact this
  have E1 := Lib.hid e1
  have E2 := Lib.hid e2
  have E3 := Lib.hid e3
  have E4 := Lib.hid e4
  have E5 := Lib.hid e5
  have E6 := Lib.hid e6
  have E7 := Lib.hid e7
  clear e1 e2 e3 e4 e5 e6 e7
  have H0 := Lib.hid (h.below (below_alloc1 w (.cells Z7 63)))
  clear h
  go_enter Try.func92, Try.ntmps92
  go_wp2_with fail
  refine (rN_any _ g 18446744073709551615 s H0.out).mono ?_
  rintro e w1 ⟨rfl, hr, hg⟩
  rw [show rdN 18446744073709551615 s = _ from E1.out] at hr ⊢
  have O1 := Lib.hid (OT.start (c := #[.int .u64 n1, .int .u64 0, .string ⟨#[]⟩, .bool false, .float .f64 0, .float .f64 0, .slice none 0 0]) hgl hg hr)
  clear hr hg
  go_wp2_with fail
  obtain ⟨v1, hv1⟩ : ∃ v, w1.alloc (.cells #[.int .u64 n1, .int .u64 0, .string ⟨#[]⟩, .bool false, .float .f64 0, .float .f64 0, .slice none 0 0] 63) = v := ⟨_, rfl⟩
  rw [hv1] at O1 ⊢
  obtain ⟨b, hb⟩ : ∃ b, w1.heap.size = b := ⟨_, rfl⟩
  rw [hb] at O1 ⊢
  clear hv1 hb
  refine (rN_any v1 g 18446744073709551615 s1 O1.out.1).mono ?_
  rintro e u2 ⟨rfl, hr, hg⟩
  rw [show rdN 18446744073709551615 s1 = _ from E2.out] at hr ⊢
  have P2 := Lib.hid (O1.out.read hg hr)
  have cx2 := blk_at P2.out.2.2.2.2.1 1 _ rfl
  have fx2 := blk_free P2.out.2.2.2.2.1 1
  have O2 := Lib.hid (P2.out.set 1 (.int .u64 n2))
  obtain ⟨v2, hv2⟩ : ∃ v, u2.setCell ⟨b, 1, none⟩ (.int .u64 n2) = v := ⟨_, rfl⟩
  rw [hv2] at O2
  clear hr hg
  go_wp2_with fail
  clear cx2 fx2
  refine (rB_any v2 g 60 s2 O2.out.1 (by omega) (by omega)).mono ?_
  rintro e u3 ⟨w3v, rfl, hd, hr, hg⟩
  obtain ⟨A3v, c3v, rfl, _, _, _, hbs⟩ := rd_bs hd
  rw [show rdB 60 s2 = _ from E3.out] at hr hbs ⊢
  have hconv := conv_bs (c := c3v) hbs
  have P3 := Lib.hid (O2.out.read hg hr)
  have cx3 := blk_at P3.out.2.2.2.2.1 2 _ rfl
  have fx3 := blk_free P3.out.2.2.2.2.1 2
  have O3 := Lib.hid (P3.out.set 2 (.string ⟨b3.toArray⟩))
  obtain ⟨v3, hv3⟩ : ∃ v, u3.setCell ⟨b, 2, none⟩ (.string ⟨b3.toArray⟩) = v := ⟨_, rfl⟩
  rw [hv3] at O3
  clear hr hg hd hbs
  go_wp2_with fail
  clear cx3 fx3 hconv
  refine (rFlag_any v3 g s3 O3.out.1).mono ?_
  rintro e u4 ⟨rfl, hr, hg⟩
  rw [show rdFlag s3 = _ from E4.out] at hr ⊢
  have P4 := Lib.hid (O3.out.read hg hr)
  have cx4 := blk_at P4.out.2.2.2.2.1 3 _ rfl
  have fx4 := blk_free P4.out.2.2.2.2.1 3
  have O4 := Lib.hid (P4.out.set 3 (.bool q4))
  obtain ⟨v4, hv4⟩ : ∃ v, u4.setCell ⟨b, 3, none⟩ (.bool q4) = v := ⟨_, rfl⟩
  rw [hv4] at O4
  clear hr hg
  go_wp2_with fail
  clear cx4 fx4
  refine (rF_any v4 g s4 O4.out.1).mono ?_
  rintro e u5 ⟨rfl, hr, hg⟩
  rw [show rdF ofN s4 = _ from E5.out] at hr ⊢
  have P5 := Lib.hid (O4.out.read hg hr)
  have cx5 := blk_at P5.out.2.2.2.2.1 4 _ rfl
  have fx5 := blk_free P5.out.2.2.2.2.1 4
  have O5 := Lib.hid (P5.out.set 4 (.float .f64 f5))
  obtain ⟨v5, hv5⟩ : ∃ v, u5.setCell ⟨b, 4, none⟩ (.float .f64 f5) = v := ⟨_, rfl⟩
  rw [hv5] at O5
  clear hr hg
  go_wp2_with fail
  clear cx5 fx5
  refine (rF_any v5 g s5 O5.out.1).mono ?_
  rintro e u6 ⟨rfl, hr, hg⟩
  rw [show rdF ofN s5 = _ from E6.out] at hr ⊢
  have P6 := Lib.hid (O5.out.read hg hr)
  have cx6 := blk_at P6.out.2.2.2.2.1 5 _ rfl
  have fx6 := blk_free P6.out.2.2.2.2.1 5
  have O6 := Lib.hid (P6.out.set 5 (.float .f64 f6))
  obtain ⟨v6, hv6⟩ : ∃ v, u6.setCell ⟨b, 5, none⟩ (.float .f64 f6) = v := ⟨_, rfl⟩
  rw [hv6] at O6
  clear hr hg
  go_wp2_with fail
  clear cx6 fx6
  refine (rN_any v6 g 60 s6 O6.out.1).mono ?_
  rintro e u7 ⟨rfl, hr, hg⟩
  rw [show rdN 60 s6 = _ from E7.out] at hr ⊢
  have O7 := Lib.hid (O6.out.read hg hr)
  clear hr hg
  go_wp2_with fail
  have hn7 : n7 ≤ 60 := by have := rdN_most 60 s6; rw [E7.out] at this; exact this
  clear O1 O2 O3 O4 O5 O6
  go_loopw [4] (fun s4' wr => ∃ (k : Nat) (v : Value) (l : List ByteArray) (s' : St), k ≤ n7 ∧ s4' = .int .u64 ((n7 - k : Nat) : Int) ∧ rdTags k s7 = (l, s') ∧ OT w wr g b s' #[Value.int .u64 (n1 : Int), Value.int .u64 (n2 : Int), Value.string ⟨b3.toArray⟩, Value.bool q4, Value.float .f64 f5, Value.float .f64 f6, v] ∧ Own wr (b + 1) 9 .str v l) (fun s4' _ => (intOf s4').toNat)
  case atStart => exact ⟨0, _, [], s7, by omega, rfl, rfl, O7.out, Own.nil _ _ _ _⟩
  case round =>
    obtain ⟨k, v, l, s', hk, rfl, hrt, hO, hOw⟩ := hrel
    have HO := Lib.hid hO
    have HW := Lib.hid hOw
    have HT := Lib.hid hrt
    have hb1 := hO.2.2.2.2.2.2
    have hl2 : s'.1.length ≤ s7.1.length := by have := rdTags_len k s7; rw [hrt] at this; exact this.2
    have hlk : l.length = k := by have := rdTags_len k s7; rw [hrt] at this; exact this.1
    clear hO hOw hrt
    by_cases hlt : k < n7
    · have j0 : (0 : Int) < ((n7 - k : Nat) : Int) := by omega
      obtain ⟨D, s2', hD⟩ : ∃ D s2', rdB 60 s' = (D, s2') := ⟨_, _, rfl⟩
      have ED := Lib.hid hD
      have hDs : (⟨D.toArray⟩ : ByteArray).size ≤ 9223372036854775807 := by have := rdB_most 60 s'; rw [hD] at this; show D.toArray.size ≤ _; simp only [List.size_toArray] at this ⊢; omega
      have HN := Lib.hid (show rdTags (k + 1) s7 = (l ++ [⟨D.toArray⟩], s2') by rw [rdTags_snoc, HT.out, hD])
      have hvb : ∀ kb, v.ownBlock = some kb → b + 1 ≤ kb := fun kb e => by obtain ⟨xs, ho, _⟩ := HW.out; exact own_base ho kb e
      obtain ⟨Av, cv, rfl, _⟩ := HW.out.form
      rw [hlk] at HW HO hvb
      have HLK := Lib.hid hlk
      clear hD hlk
      go_wp2_with fail
      refine region_inU 6 (fun W => W.cell? ⟨b, 6, none⟩ = some (.slice Av k cv)) (by kernel_rfl) (fun x1 hx1 heq => ?_)
      have X1 := Lib.hid (HO.out.below hx1)
      have W1 := Lib.hid (HW.out.below hx1)
      have hHeld := blk_at X1.out.2.2.2.2.1 6 _ rfl
      clear hx1 heq
      first
        | (refine takeT (i := 0) (v := ?_) rfl (by kernel_rfl) (by kernel_rfl) (by kernel_rfl) (fun _ _ _ h => h) (by kernel_rfl) (Or.inl ⟨by rfl, ?_⟩) (fun _ => hHeld) ?_; rotate_left; (focus (intro W hSw; go_simp; (try rfl); done)); (try simp only [Act.put, List.setIfInBounds_toArray, List.set_cons_zero, List.set_cons_succ]))
        | (fail "UTAKE 0")
      first
        | (refine takeU (i := 1) (v := ?_) rfl (by kernel_rfl) (by kernel_rfl) (by kernel_rfl) (fun _ _ _ h => h) (by kernel_rfl) (by kernel_rfl) (by kernel_rfl) (Or.inl ⟨by rfl, ?_⟩) hHeld ?_; rotate_left; (focus (intro W hSw; (try dsimp only at hSw); go_simp; (try rfl); done)); (try simp only [Act.put, List.setIfInBounds_toArray, List.set_cons_zero, List.set_cons_succ]))
        | (fail "UTAKE 1")
      first
        | (refine takeT (i := 2) (v := ?_) rfl (by kernel_rfl) (by kernel_rfl) (by kernel_rfl) (fun _ _ _ h => h) (by kernel_rfl) (Or.inl ⟨by rfl, ?_⟩) (fun _ => hHeld) ?_; rotate_left; (focus (intro W hSw; go_simp; (try rfl); done)); (try simp only [Act.put, List.setIfInBounds_toArray, List.set_cons_zero, List.set_cons_succ]))
        | (fail "UTAKE 2")
      refine callU (i := 3) rfl (by kernel_rfl) (by kernel_rfl) (fun K hK => ?_)
      (try clear hHeld)
      go_simp
      refine (rB_any x1 g 60 s' X1.out.1 (by omega) (by omega)).mono ?_
      rintro e x2 ⟨vD, rfl, hd, hr, hg⟩
      obtain ⟨Ad, cd, rfl, _, _, _, hbs⟩ := rd_bs hd
      rw [show rdB 60 s' = _ from ED.out] at hr hbs ⊢
      have X2 := Lib.hid (X1.out.read hg hr)
      have W2 := Lib.hid (Own.grown W1.out hg (by have := X1.out.2.1; have := X1.out.2.2.1; omega))
      have HBs := Lib.hid hbs
      have C2 := blk_at X2.out.2.2.2.2.1 6 _ rfl
      clear hd hr hg hbs
      have hHeld := C2
      refine hK.out (fun W => W.cell? ⟨b, 6, none⟩ = some (.slice Av k cv)) _ _ (fun _ => hHeld) (fun _ h => h) ?_
      (try simp only [Act.put, List.setIfInBounds_toArray, List.set_cons_zero, List.set_cons_succ])
      have hconv := conv_bs (c := cd) HBs.out
      refine callU (i := 4) rfl (by kernel_rfl) (by kernel_rfl) (fun K hK => ?_)
      (try clear hHeld)
      go_simp
      have hHeld := C2
      refine hK.out (fun W => W.cell? ⟨b, 6, none⟩ = some (.slice Av k cv)) _ _ (fun _ => hHeld) (fun _ h => h) ?_
      (try simp only [Act.put, List.setIfInBounds_toArray, List.set_cons_zero, List.set_cons_succ])
      clear hconv
      refine callU (i := 5) rfl (by kernel_rfl) (by kernel_rfl) (fun K hK => ?_)
      (try clear hHeld)
      go_simp
      have hb2 := below_alloc1 x2 (.cells #[.string ⟨D.toArray⟩] 9)
      have X3 := Lib.hid (X2.out.below hb2)
      have W3 := Lib.hid (W2.out.below hb2)
      have C3 := blk_at X3.out.2.2.2.2.1 6 _ rfl
      have AT3 := Lib.hid (At.blk (heap_alloc_new x2 (.cells #[.string ⟨D.toArray⟩] 9)))
      have hsz3 : b < (x2.alloc (.cells #[.string ⟨D.toArray⟩] 9)).heap.size := X3.out.2.2.2.2.2.2
      have hHeld := C3
      refine hK.out (fun W => W.cell? ⟨b, 6, none⟩ = some (.slice Av k cv)) _ _ (fun _ => hHeld) (fun _ h => h) ?_
      (try simp only [Act.put, List.setIfInBounds_toArray, List.set_cons_zero, List.set_cons_succ])
      refine callU (i := 6) rfl (by kernel_rfl) (by kernel_rfl) (fun K hK => ?_)
      clear hHeld
      refine wpo_appO (w0 := x2.alloc (.cells #[.string ⟨D.toArray⟩] 9)) (m := 1) (S := .str) (r := [(⟨D.toArray⟩ : ByteArray)]) (ys := [.string ⟨D.toArray⟩]) (.tmp 31) (.tmp 35) rfl W3.out rfl (fun e => by cases e) (fun ad' e => by cases e; exact AT3.out) (RdL.single (s := .str) (x := (⟨D.toArray⟩ : ByteArray)) ⟨rfl, hDs⟩) (Below.refl _ _) Try.underlying61 info_str rfl (by decide) rfl rfl (by rw [HLK.out]; omega) (by rw [HLK.out]; omega) (by omega) ?_
      intro v7 x4 hO7 hb7 hg7 _
      obtain ⟨A7, c7, rfl, _⟩ := hO7.form
      have hl7 : (l ++ [(⟨D.toArray⟩ : ByteArray)]).length = k + 1 := by rw [List.length_append, HLK.out]; rfl
      rw [hl7] at hO7 ⊢
      clear hl7
      have X4 := Lib.hid (X3.out.app hg7 (fun kb e => hvb kb e))
      have HO7 := Lib.hid hO7
      clear hO7 hb7 hg7
      refine hK.out _ _ _ (offU (by kernel_rfl)) (fun _ h => h) ?_
      (try simp only [Act.put, List.setIfInBounds_toArray, List.set_cons_zero, List.set_cons_succ])
      first
        | (refine takeT (i := 7) (v := ?_) rfl (by kernel_rfl) (by kernel_rfl) (by kernel_rfl) (fun _ _ _ h => h) (by kernel_rfl) (Or.inl ⟨by rfl, ?_⟩) (offU (by kernel_rfl)) ?_; rotate_left; (focus (intro W hSw; go_simp; (try rfl); done)); (try simp only [Act.put, List.setIfInBounds_toArray, List.set_cons_zero, List.set_cons_succ]))
        | (fail "UTAKE 7")
      have cx := blk_at X4.out.2.2.2.2.1 6 _ rfl
      have fx := blk_free X4.out.2.2.2.2.1 6
      have hHeld := trivial
      refine callU (i := 8) rfl (by kernel_rfl) (by kernel_rfl) (fun K hK => ?_)
      (try clear hHeld)
      go_simp
      have X5 := Lib.hid (X4.out.set 6 (.slice A7 (k + 1) c7))
      have W5 := Lib.hid (Own.grown HO7.out (grown_set (j := 6) (v := .slice A7 (k + 1) c7) (grown_refl x4 (some b))) (Nat.lt_succ_self b))
      refine hK.out _ _ _ (offU (by kernel_rfl)) (fun _ h => h) ?_
      (try simp only [Act.put, List.setIfInBounds_toArray, List.set_cons_zero, List.set_cons_succ])
      refine doneU (by kernel_rfl) ?_ _
      have hnk : IntKind.u64.wrap (((n7 - k : Nat) : Int) - 1) = ((n7 - (k + 1) : Nat) : Int) := by rw [IntKind.wrap_u64]; omega
      go_wp2_with fail
      go_roundw
      case measure => simp [intOf]; omega
      case rel => exact ⟨k + 1, _, _, s2', by omega, rfl, HN.out, X5.out, W5.out⟩
    · obtain rfl : k = n7 := by omega
      have hq := HO.out
      obtain ⟨Av, cv, rfl, _⟩ := HW.out.form
      rw [hlk] at HW hq
      have HR := Lib.hid hq
      have hr4 := hq.2.2.2.1
      clear hq
      go_wp2_with (first
        | (refine wpL_load rfl 63 (.tmp 3) rfl ⟨b, 0, none⟩ rfl [.int .u64 (n1 : Int), .int .u64 (n2 : Int), .string ⟨b3.toArray⟩, .bool q4, .float .f64 f5, .float .f64 f6, .slice Av k cv] _ (At.blk HR.out.2.2.2.2.1) Try.underlying63 rfl rfl ?_)
        | (refine wpL_store rfl 63 (.tmp 2) (.tmp 38) rfl w.heap.size rfl _ _ 63 rfl hr4 rfl rfl (by intro v hv; simp at hv; rcases hv with rfl | rfl | rfl | rfl | rfl | rfl | rfl <;> rfl) ?_
           intro w4 hw4 hg4))
      refine bodyPost_ret (results_cell_row rfl _ _ w.heap.size 63 _ (0, 0) _ rfl hw4 Try.underlying63 rfl rfl) rfl ?_
      have hbs3 : (⟨b3.toArray⟩ : ByteArray).size ≤ 9223372036854775807 := by have := rdB_most 60 s2; rw [E3.out] at this; show b3.toArray.size ≤ _; simp only [List.size_toArray] at this ⊢; omega
      have hd := Own.rd HW.out
      rw [HV.out]
      rw [show rdTags k s7 = _ from HT.out]
      have hok' : ((0 : Int) ≤ (n1 : Int) ∧ (n1 : Int) < 18446744073709551616) ∧ ((0 : Int) ≤ (n2 : Int) ∧ (n2 : Int) < 18446744073709551616) ∧ (⟨b3.toArray⟩ : ByteArray).size ≤ 9223372036854775807 ∧ f5 < 18446744073709551616 ∧ f6 < 18446744073709551616 := ⟨⟨by omega, by omega⟩, ⟨by omega, by omega⟩, hbs3, hf5, hf6⟩
      have hok : TASKOk ((n1 : Int), (n2 : Int), ⟨b3.toArray⟩, q4, f5, f6, l, ()) := hok'
      have hwb := HR.out.2.2.1
      have hd4 := hd.of (w' := w4) (ok' := fun kb => w.heap.size ≤ kb) (fun a u hk hc => cell_grown hg4 hc (by intro e; injection e with e; have h1 : b + 1 ≤ a.block := hk; omega)) (fun kb hk _ => by have h1 : b + 1 ≤ kb := hk; omega)
      rw [← hlk] at hd4
      exact ⟨_, rfl, by rw [← hlk]; exact rd_task_mk hok hd4, HR.out.1.grown hg4 hgl, grown_new HR.out.2.2.2.2.2.1 hg4 (Nat.le_refl _)⟩
end Go.Proofs.Ytnolhnlhohpkpaa
