import Derived.Test.YtfjnpiahloncmaaCanF
namespace Go.Proofs.Ytfjnpiahloncmaa
open Go.RowKit FP
set_option linter.unusedVariables false
set_option linter.unusedSimpArgs false
set_option maxRecDepth 20000 in
theorem size_any (w : World) (A0 A1 A2 A3 : Option Addr) (n0 n1 n2 n3 c0 c1 c2 c3 : Nat) (h0 : n0 ≤ 1000) (h1 : n1 ≤ 1000) (h2 : n2 ≤ 1000) (h3 : n3 ≤ 1000) :
    Calls Try.prog 9 #[.agg #[Value.slice A0 n0 c0, Value.slice A1 n1 c1, Value.slice A2 n2 c2, Value.slice A3 n3 c3]] w fun e w' => e = .returned (.int .i64 (((n0 + n1 + n2 + n3 : Nat)) : Int)) ∧ Below w.heap.size w w' := by
  have hp := heap_alloc_new w (.cells #[Value.slice A0 n0 c0, Value.slice A1 n1 c1, Value.slice A2 n2 c2, Value.slice A3 n3 c3] 30)
  have hb := below_alloc1 w (.cells #[Value.slice A0 n0 c0, Value.slice A1 n1 c1, Value.slice A2 n2 c2, Value.slice A3 n3 c3] 30)
  have x0 := blk_at hp 0 _ rfl
  have x1 := blk_at hp 1 _ rfl
  have x2 := blk_at hp 2 _ rfl
  have x3 := blk_at hp 3 _ rfl
  have HB := Lib.hid hb
  have j1 : IntKind.i64.wrap ((n0 : Int) + (n1 : Int)) = ((n0 + n1 : Nat) : Int) := by rw [IntWalk.i64_in _ (by omega)]; omega
  have j2 : IntKind.i64.wrap (((n0 + n1 : Nat) : Int) + (n2 : Int)) = ((n0 + n1 + n2 : Nat) : Int) := by rw [IntWalk.i64_in _ (by omega)]; omega
  have j3 : IntKind.i64.wrap (((n0 + n1 + n2 : Nat) : Int) + (n3 : Int)) = ((n0 + n1 + n2 + n3 : Nat) : Int) := by rw [IntWalk.i64_in _ (by omega)]; omega
  clear hp hb
  go_enter Try.func9, Try.ntmps9
  go_wp2_with fail
  go_ret
  exact ⟨by first | rfl | (congr 2; omega), HB.out⟩
set_option maxHeartbeats 4000000 in
set_option maxRecDepth 20000 in
theorem samepatch_any (w : World) (A0 A1 A2 A3 B0 B1 B2 B3 : Option Addr) (n0 n1 n2 n3 c0 c1 c2 c3 d0 d1 d2 d3 : Nat) (l0 : List LIST.Ty) (l1 : List TASK.Ty) (l2 l3 : List Int)
    (h0 : Rows w anyB LIST A0 n0 l0) (h1 : Rows w anyB TASK A1 n1 l1) (h2 : Rows w anyB (.int .u64) A2 n2 l2) (h3 : Rows w anyB (.int .u64) A3 n3 l3)
    (k0 : Rows w anyB LIST B0 n0 l0) (k1 : Rows w anyB TASK B1 n1 l1) (k2 : Rows w anyB (.int .u64) B2 n2 l2) (k3 : Rows w anyB (.int .u64) B3 n3 l3) (b0 : n0 ≤ 1000) (b1 : n1 ≤ 1000) (b2 : n2 ≤ 1000) (b3 : n3 ≤ 1000) :
    Calls Try.prog 7 #[.agg #[Value.slice A0 n0 c0, Value.slice A1 n1 c1, Value.slice A2 n2 c2, Value.slice A3 n3 c3], .agg #[Value.slice B0 n0 d0, Value.slice B1 n1 d1, Value.slice B2 n2 d2, Value.slice B3 n3 d3]] w fun e w' => e = .returned (.bool true) ∧ Below w.heap.size w w' := by
  obtain ⟨W, hW⟩ : ∃ W, (w.alloc (.cells #[Value.slice A0 n0 c0, Value.slice A1 n1 c1, Value.slice A2 n2 c2, Value.slice A3 n3 c3] 30)).alloc (.cells #[Value.slice B0 n0 d0, Value.slice B1 n1 d1, Value.slice B2 n2 d2, Value.slice B3 n3 d3] 30) = W := ⟨_, rfl⟩
  have HPa := Lib.hid (show W.heap[w.heap.size]? = some (.cells #[Value.slice A0 n0 c0, Value.slice A1 n1 c1, Value.slice A2 n2 c2, Value.slice A3 n3 c3] 30 (0, 0)) by rw [← hW]; exact blk_alloc (heap_alloc_new w _) _)
  have HPb := Lib.hid (show W.heap[w.heap.size + 1]? = some (.cells #[Value.slice B0 n0 d0, Value.slice B1 n1 d1, Value.slice B2 n2 d2, Value.slice B3 n3 d3] 30 (0, 0)) by rw [← hW]; exact heap_alloc2_new w _ _)
  have HW := Lib.hid (show Below w.heap.size w W by rw [← hW]; exact (below_alloc1 w _).alloc (by simp) _)
  have H2 := Lib.hid h2
  have H3 := Lib.hid h3
  have K2 := Lib.hid k2
  have K3 := Lib.hid k3
  have H0 := Lib.hid h0
  have H1 := Lib.hid h1
  have K0 := Lib.hid k0
  have K1 := Lib.hid k1
  have e2 : ((n2 : Int) != (n2 : Int)) = false := by simp
  have e3 : ((n3 : Int) != (n3 : Int)) = false := by simp
  clear h0 h1 h2 h3 k0 k1 k2 k3
  go_enter Try.func7, Try.ntmps7
  have p0 := blk_at HPa.out 0 _ rfl
  have q0 := blk_at HPb.out 0 _ rfl
  go_wp2_with fail
  clear p0 q0 hW
  refine (samelists_any W A0 B0 n0 n0 c0 d0 l0 l0 (H0.out.below HW.out) (K0.out.below HW.out) (by omega)).mono ?_
  rintro e w2 ⟨r2, rfl, hr2, hb2⟩
  obtain rfl : r2 = true := hr2.2 rfl
  have p1 := blk_at (blk_below HPa.out hb2 (blk_lt HPa.out)) 1 _ rfl
  have q1 := blk_at (blk_below HPb.out hb2 (blk_lt HPb.out)) 1 _ rfl
  have HC2 := Lib.hid hb2
  clear hr2 hb2
  go_wp2_with fail
  clear p1 q1
  refine (sametasks_any w2 A1 B1 n1 n1 c1 d1 l1 l1 (H1.out.below (HW.out.trans (HC2.out.mono HW.out.size))) (K1.out.below (HW.out.trans (HC2.out.mono HW.out.size))) (by omega)).mono ?_
  rintro e w3 ⟨r3, rfl, hr3, hb3⟩
  obtain rfl : r3 = true := hr3.2 (SameTs.refl _)
  have HC := Lib.hid (HC2.out.trans (hb3.mono HC2.out.size))
  have p2 := blk_at (blk_below HPa.out HC.out (blk_lt HPa.out)) 2 _ rfl
  have q2 := blk_at (blk_below HPb.out HC.out (blk_lt HPb.out)) 2 _ rfl
  have p3 := blk_at (blk_below HPa.out HC.out (blk_lt HPa.out)) 3 _ rfl
  have q3 := blk_at (blk_below HPb.out HC.out (blk_lt HPb.out)) 3 _ rfl
  clear hr3 hb3
  go_wp2_with fail
  clear p2 q2 p3 q3
  go_loopw [42] (fun s wr => ∃ i : Nat, i ≤ n2 ∧ s = .int .i64 i ∧ Below W.heap.size W wr) (fun s _ => n2 - (intOf s).toNat)
  case atStart => exact ⟨0, by omega, rfl, HC.out⟩
  case round =>
    obtain ⟨i, hi, rfl, hC⟩ := hrel
    have HC := Lib.hid hC
    by_cases hlt : i < n2
    · obtain ⟨ad, x, cs, rfl, hx, hat, hrd⟩ := (H2.out.below (HW.out.trans (hC.mono HW.out.size))).get i hlt
      obtain ⟨bd, x', ds, rfl, hx', hbt, hrd'⟩ := (K2.out.below (HW.out.trans (hC.mono HW.out.size))).get i hlt
      rw [hx] at hx'
      injection hx' with hx'
      subst hx'
      obtain ⟨rfl, _⟩ := hrd
      obtain ⟨rfl, _⟩ := hrd'
      have cx : wr.cell? (ad.add i) = some (.int .u64 x) := by
        have e : (ad.add (i * Sh.size (.int .u64))).add (0 + 0) = ad.add i := by simp [Sh.size, Addr.add]
        have := hat 0 _ rfl
        rwa [e] at this
      have cy : wr.cell? (bd.add i) = some (.int .u64 x) := by
        have e : (bd.add (i * Sh.size (.int .u64))).add (0 + 0) = bd.add i := by simp [Sh.size, Addr.add]
        have := hbt 0 _ rfl
        rwa [e] at this
      have hxx : (x != x) = false := by simp
      have i0 : (0 : Int) ≤ (i : Int) := by omega
      have i1 : (i : Int) < (n2 : Int) := by omega
      have HP := Lib.hid (blk_below HPa.out hC (blk_lt HPa.out))
      have HQ := Lib.hid (blk_below HPb.out hC (blk_lt HPb.out))
      clear hx hat hbt hC
      go_wp2_with fail
      refine region_in (by kernel_rfl) (fun w1 hw1 => ?_)
      have E1 := fun (W' : World) (hW : Below w1.heap.size w1 W') => blk_at (blk_below (blk_below HP.out hw1 (blk_lt HP.out)) hW (Nat.lt_of_lt_of_le (blk_lt HP.out) hw1.size)) 2 _ rfl
      have E2 := fun (W' : World) (hW : Below w1.heap.size w1 W') => blk_at (blk_below (blk_below HQ.out hw1 (blk_lt HQ.out)) hW (Nat.lt_of_lt_of_le (blk_lt HQ.out) hw1.size)) 2 _ rfl
      have C1 : ∀ W, Below w1.heap.size w1 W → W.cell? (ad.add i) = some (.int .u64 x) := fun W hW => cell_below hW (cell_below hw1 cx)
      have C2 : ∀ W, Below w1.heap.size w1 W → W.cell? (bd.add i) = some (.int .u64 x) := fun W hW => cell_below hW (cell_below hw1 cy)
      have HC1 := Lib.hid (HC.out.trans (hw1.mono HC.out.size))
      clear hw1
      first
        | (refine take_in (i := 0) (v := ?_) rfl (by kernel_rfl) (by kernel_rfl) (by kernel_rfl) (fun _ _ _ h => h) (Or.inl ⟨by rfl, ?_⟩) (Below.refl _ _) ?_; rotate_left; (focus (intro W hSw; go_simp; (try rfl); done)); (try simp only [Act.put, List.setIfInBounds_toArray, List.set_cons_zero, List.set_cons_succ]))
        | (refine take_in (i := 0) (v := undef) rfl (by kernel_rfl) (by kernel_rfl) (by kernel_rfl) (fun _ _ _ h => h) (Or.inr ⟨by rfl, rfl⟩) (Below.refl _ _) ?_; (try simp only [Act.put, List.setIfInBounds_toArray, List.set_cons_zero, List.set_cons_succ]))
        | (fail "HTAKE 0")
      first
        | (refine take_in (i := 1) (v := ?_) rfl (by kernel_rfl) (by kernel_rfl) (by kernel_rfl) (fun _ _ _ h => h) (Or.inl ⟨by rfl, ?_⟩) (Below.refl _ _) ?_; rotate_left; (focus (intro W hSw; have E1 := E1 W hSw; go_simp; (try rfl); done)); (try simp only [Act.put, List.setIfInBounds_toArray, List.set_cons_zero, List.set_cons_succ]))
        | (refine take_in (i := 1) (v := undef) rfl (by kernel_rfl) (by kernel_rfl) (by kernel_rfl) (fun _ _ _ h => h) (Or.inr ⟨by rfl, rfl⟩) (Below.refl _ _) ?_; (try simp only [Act.put, List.setIfInBounds_toArray, List.set_cons_zero, List.set_cons_succ]))
        | (fail "HTAKE 1")
      first
        | (refine take_in (i := 2) (v := ?_) rfl (by kernel_rfl) (by kernel_rfl) (by kernel_rfl) (fun _ _ _ h => h) (Or.inl ⟨by rfl, ?_⟩) (Below.refl _ _) ?_; rotate_left; (focus (intro W hSw; go_simp; (try rfl); done)); (try simp only [Act.put, List.setIfInBounds_toArray, List.set_cons_zero, List.set_cons_succ]))
        | (refine take_in (i := 2) (v := undef) rfl (by kernel_rfl) (by kernel_rfl) (by kernel_rfl) (fun _ _ _ h => h) (Or.inr ⟨by rfl, rfl⟩) (Below.refl _ _) ?_; (try simp only [Act.put, List.setIfInBounds_toArray, List.set_cons_zero, List.set_cons_succ]))
        | (fail "HTAKE 2")
      first
        | (refine take_in (i := 3) (v := ?_) rfl (by kernel_rfl) (by kernel_rfl) (by kernel_rfl) (fun _ _ _ h => h) (Or.inl ⟨by rfl, ?_⟩) (Below.refl _ _) ?_; rotate_left; (focus (intro W hSw; go_simp; (try rfl); done)); (try simp only [Act.put, List.setIfInBounds_toArray, List.set_cons_zero, List.set_cons_succ]))
        | (refine take_in (i := 3) (v := undef) rfl (by kernel_rfl) (by kernel_rfl) (by kernel_rfl) (fun _ _ _ h => h) (Or.inr ⟨by rfl, rfl⟩) (Below.refl _ _) ?_; (try simp only [Act.put, List.setIfInBounds_toArray, List.set_cons_zero, List.set_cons_succ]))
        | (fail "HTAKE 3")
      first
        | (refine take_in (i := 4) (v := ?_) rfl (by kernel_rfl) (by kernel_rfl) (by kernel_rfl) (fun _ _ _ h => h) (Or.inl ⟨by rfl, ?_⟩) (Below.refl _ _) ?_; rotate_left; (focus (intro W hSw; have C1 := C1 W hSw; go_simp; (try rfl); done)); (try simp only [Act.put, List.setIfInBounds_toArray, List.set_cons_zero, List.set_cons_succ]))
        | (refine take_in (i := 4) (v := undef) rfl (by kernel_rfl) (by kernel_rfl) (by kernel_rfl) (fun _ _ _ h => h) (Or.inr ⟨by rfl, rfl⟩) (Below.refl _ _) ?_; (try simp only [Act.put, List.setIfInBounds_toArray, List.set_cons_zero, List.set_cons_succ]))
        | (fail "HTAKE 4")
      first
        | (refine take_in (i := 5) (v := ?_) rfl (by kernel_rfl) (by kernel_rfl) (by kernel_rfl) (fun _ _ _ h => h) (Or.inl ⟨by rfl, ?_⟩) (Below.refl _ _) ?_; rotate_left; (focus (intro W hSw; go_simp; (try rfl); done)); (try simp only [Act.put, List.setIfInBounds_toArray, List.set_cons_zero, List.set_cons_succ]))
        | (refine take_in (i := 5) (v := undef) rfl (by kernel_rfl) (by kernel_rfl) (by kernel_rfl) (fun _ _ _ h => h) (Or.inr ⟨by rfl, rfl⟩) (Below.refl _ _) ?_; (try simp only [Act.put, List.setIfInBounds_toArray, List.set_cons_zero, List.set_cons_succ]))
        | (fail "HTAKE 5")
      first
        | (refine take_in (i := 6) (v := ?_) rfl (by kernel_rfl) (by kernel_rfl) (by kernel_rfl) (fun _ _ _ h => h) (Or.inl ⟨by rfl, ?_⟩) (Below.refl _ _) ?_; rotate_left; (focus (intro W hSw; have E2 := E2 W hSw; go_simp; (try rfl); done)); (try simp only [Act.put, List.setIfInBounds_toArray, List.set_cons_zero, List.set_cons_succ]))
        | (refine take_in (i := 6) (v := undef) rfl (by kernel_rfl) (by kernel_rfl) (by kernel_rfl) (fun _ _ _ h => h) (Or.inr ⟨by rfl, rfl⟩) (Below.refl _ _) ?_; (try simp only [Act.put, List.setIfInBounds_toArray, List.set_cons_zero, List.set_cons_succ]))
        | (fail "HTAKE 6")
      first
        | (refine take_in (i := 7) (v := ?_) rfl (by kernel_rfl) (by kernel_rfl) (by kernel_rfl) (fun _ _ _ h => h) (Or.inl ⟨by rfl, ?_⟩) (Below.refl _ _) ?_; rotate_left; (focus (intro W hSw; go_simp; (try rfl); done)); (try simp only [Act.put, List.setIfInBounds_toArray, List.set_cons_zero, List.set_cons_succ]))
        | (refine take_in (i := 7) (v := undef) rfl (by kernel_rfl) (by kernel_rfl) (by kernel_rfl) (fun _ _ _ h => h) (Or.inr ⟨by rfl, rfl⟩) (Below.refl _ _) ?_; (try simp only [Act.put, List.setIfInBounds_toArray, List.set_cons_zero, List.set_cons_succ]))
        | (fail "HTAKE 7")
      first
        | (refine take_in (i := 8) (v := ?_) rfl (by kernel_rfl) (by kernel_rfl) (by kernel_rfl) (fun _ _ _ h => h) (Or.inl ⟨by rfl, ?_⟩) (Below.refl _ _) ?_; rotate_left; (focus (intro W hSw; go_simp; (try rfl); done)); (try simp only [Act.put, List.setIfInBounds_toArray, List.set_cons_zero, List.set_cons_succ]))
        | (refine take_in (i := 8) (v := undef) rfl (by kernel_rfl) (by kernel_rfl) (by kernel_rfl) (fun _ _ _ h => h) (Or.inr ⟨by rfl, rfl⟩) (Below.refl _ _) ?_; (try simp only [Act.put, List.setIfInBounds_toArray, List.set_cons_zero, List.set_cons_succ]))
        | (fail "HTAKE 8")
      first
        | (refine take_in (i := 9) (v := ?_) rfl (by kernel_rfl) (by kernel_rfl) (by kernel_rfl) (fun _ _ _ h => h) (Or.inl ⟨by rfl, ?_⟩) (Below.refl _ _) ?_; rotate_left; (focus (intro W hSw; have C2 := C2 W hSw; go_simp; (try rfl); done)); (try simp only [Act.put, List.setIfInBounds_toArray, List.set_cons_zero, List.set_cons_succ]))
        | (refine take_in (i := 9) (v := undef) rfl (by kernel_rfl) (by kernel_rfl) (by kernel_rfl) (fun _ _ _ h => h) (Or.inr ⟨by rfl, rfl⟩) (Below.refl _ _) ?_; (try simp only [Act.put, List.setIfInBounds_toArray, List.set_cons_zero, List.set_cons_succ]))
        | (fail "HTAKE 9")
      first
        | (refine take_in (i := 10) (v := ?_) rfl (by kernel_rfl) (by kernel_rfl) (by kernel_rfl) (fun _ _ _ h => h) (Or.inl ⟨by rfl, ?_⟩) (Below.refl _ _) ?_; rotate_left; (focus (intro W hSw; go_simp; (try rfl); done)); (try simp only [Act.put, List.setIfInBounds_toArray, List.set_cons_zero, List.set_cons_succ]))
        | (refine take_in (i := 10) (v := undef) rfl (by kernel_rfl) (by kernel_rfl) (by kernel_rfl) (fun _ _ _ h => h) (Or.inr ⟨by rfl, rfl⟩) (Below.refl _ _) ?_; (try simp only [Act.put, List.setIfInBounds_toArray, List.set_cons_zero, List.set_cons_succ]))
        | (fail "HTAKE 10")
      refine wpAnyH_done (by kernel_rfl) ?_ _
      go_wp2_with fail
      go_roundw
      case measure => simp [intOf]; omega
      case rel => exact ⟨i + 1, by omega, by go_num, HC1.out⟩
    · obtain rfl : n2 = i := by omega
      have x3 := blk_at (blk_below HPa.out hC (blk_lt HPa.out)) 3 _ rfl
      clear hC
      go_wp2_with fail
      clear x3
      go_loopw [60] (fun s wr => ∃ i : Nat, i ≤ n3 ∧ s = .int .i64 i ∧ Below W.heap.size W wr) (fun s _ => n3 - (intOf s).toNat)
      case atStart => exact ⟨0, by omega, rfl, HC.out⟩
      case round =>
        obtain ⟨i, hi, rfl, hC⟩ := hrel
        have HC := Lib.hid hC
        by_cases hlt : i < n3
        · obtain ⟨ad, x, cs, rfl, hx, hat, hrd⟩ := (H3.out.below (HW.out.trans (hC.mono HW.out.size))).get i hlt
          obtain ⟨bd, x', ds, rfl, hx', hbt, hrd'⟩ := (K3.out.below (HW.out.trans (hC.mono HW.out.size))).get i hlt
          rw [hx] at hx'
          injection hx' with hx'
          subst hx'
          obtain ⟨rfl, _⟩ := hrd
          obtain ⟨rfl, _⟩ := hrd'
          have cx : wr.cell? (ad.add i) = some (.int .u64 x) := by
            have e : (ad.add (i * Sh.size (.int .u64))).add (0 + 0) = ad.add i := by simp [Sh.size, Addr.add]
            have := hat 0 _ rfl
            rwa [e] at this
          have cy : wr.cell? (bd.add i) = some (.int .u64 x) := by
            have e : (bd.add (i * Sh.size (.int .u64))).add (0 + 0) = bd.add i := by simp [Sh.size, Addr.add]
            have := hbt 0 _ rfl
            rwa [e] at this
          have hxx : (x != x) = false := by simp
          have i0 : (0 : Int) ≤ (i : Int) := by omega
          have i1 : (i : Int) < (n3 : Int) := by omega
          have HP := Lib.hid (blk_below HPa.out hC (blk_lt HPa.out))
          have HQ := Lib.hid (blk_below HPb.out hC (blk_lt HPb.out))
          clear hx hat hbt hC
          go_wp2_with fail
          refine region_in (by kernel_rfl) (fun w1 hw1 => ?_)
          have E1 := fun (W' : World) (hW : Below w1.heap.size w1 W') => blk_at (blk_below (blk_below HP.out hw1 (blk_lt HP.out)) hW (Nat.lt_of_lt_of_le (blk_lt HP.out) hw1.size)) 3 _ rfl
          have E2 := fun (W' : World) (hW : Below w1.heap.size w1 W') => blk_at (blk_below (blk_below HQ.out hw1 (blk_lt HQ.out)) hW (Nat.lt_of_lt_of_le (blk_lt HQ.out) hw1.size)) 3 _ rfl
          have C1 : ∀ W, Below w1.heap.size w1 W → W.cell? (ad.add i) = some (.int .u64 x) := fun W hW => cell_below hW (cell_below hw1 cx)
          have C2 : ∀ W, Below w1.heap.size w1 W → W.cell? (bd.add i) = some (.int .u64 x) := fun W hW => cell_below hW (cell_below hw1 cy)
          have HC1 := Lib.hid (HC.out.trans (hw1.mono HC.out.size))
          clear hw1
          first
            | (refine take_in (i := 0) (v := ?_) rfl (by kernel_rfl) (by kernel_rfl) (by kernel_rfl) (fun _ _ _ h => h) (Or.inl ⟨by rfl, ?_⟩) (Below.refl _ _) ?_; rotate_left; (focus (intro W hSw; go_simp; (try rfl); done)); (try simp only [Act.put, List.setIfInBounds_toArray, List.set_cons_zero, List.set_cons_succ]))
            | (refine take_in (i := 0) (v := undef) rfl (by kernel_rfl) (by kernel_rfl) (by kernel_rfl) (fun _ _ _ h => h) (Or.inr ⟨by rfl, rfl⟩) (Below.refl _ _) ?_; (try simp only [Act.put, List.setIfInBounds_toArray, List.set_cons_zero, List.set_cons_succ]))
            | (fail "HTAKE 0")
          first
            | (refine take_in (i := 1) (v := ?_) rfl (by kernel_rfl) (by kernel_rfl) (by kernel_rfl) (fun _ _ _ h => h) (Or.inl ⟨by rfl, ?_⟩) (Below.refl _ _) ?_; rotate_left; (focus (intro W hSw; have E1 := E1 W hSw; go_simp; (try rfl); done)); (try simp only [Act.put, List.setIfInBounds_toArray, List.set_cons_zero, List.set_cons_succ]))
            | (refine take_in (i := 1) (v := undef) rfl (by kernel_rfl) (by kernel_rfl) (by kernel_rfl) (fun _ _ _ h => h) (Or.inr ⟨by rfl, rfl⟩) (Below.refl _ _) ?_; (try simp only [Act.put, List.setIfInBounds_toArray, List.set_cons_zero, List.set_cons_succ]))
            | (fail "HTAKE 1")
          first
            | (refine take_in (i := 2) (v := ?_) rfl (by kernel_rfl) (by kernel_rfl) (by kernel_rfl) (fun _ _ _ h => h) (Or.inl ⟨by rfl, ?_⟩) (Below.refl _ _) ?_; rotate_left; (focus (intro W hSw; go_simp; (try rfl); done)); (try simp only [Act.put, List.setIfInBounds_toArray, List.set_cons_zero, List.set_cons_succ]))
            | (refine take_in (i := 2) (v := undef) rfl (by kernel_rfl) (by kernel_rfl) (by kernel_rfl) (fun _ _ _ h => h) (Or.inr ⟨by rfl, rfl⟩) (Below.refl _ _) ?_; (try simp only [Act.put, List.setIfInBounds_toArray, List.set_cons_zero, List.set_cons_succ]))
            | (fail "HTAKE 2")
          first
            | (refine take_in (i := 3) (v := ?_) rfl (by kernel_rfl) (by kernel_rfl) (by kernel_rfl) (fun _ _ _ h => h) (Or.inl ⟨by rfl, ?_⟩) (Below.refl _ _) ?_; rotate_left; (focus (intro W hSw; go_simp; (try rfl); done)); (try simp only [Act.put, List.setIfInBounds_toArray, List.set_cons_zero, List.set_cons_succ]))
            | (refine take_in (i := 3) (v := undef) rfl (by kernel_rfl) (by kernel_rfl) (by kernel_rfl) (fun _ _ _ h => h) (Or.inr ⟨by rfl, rfl⟩) (Below.refl _ _) ?_; (try simp only [Act.put, List.setIfInBounds_toArray, List.set_cons_zero, List.set_cons_succ]))
            | (fail "HTAKE 3")
          first
            | (refine take_in (i := 4) (v := ?_) rfl (by kernel_rfl) (by kernel_rfl) (by kernel_rfl) (fun _ _ _ h => h) (Or.inl ⟨by rfl, ?_⟩) (Below.refl _ _) ?_; rotate_left; (focus (intro W hSw; have C1 := C1 W hSw; go_simp; (try rfl); done)); (try simp only [Act.put, List.setIfInBounds_toArray, List.set_cons_zero, List.set_cons_succ]))
            | (refine take_in (i := 4) (v := undef) rfl (by kernel_rfl) (by kernel_rfl) (by kernel_rfl) (fun _ _ _ h => h) (Or.inr ⟨by rfl, rfl⟩) (Below.refl _ _) ?_; (try simp only [Act.put, List.setIfInBounds_toArray, List.set_cons_zero, List.set_cons_succ]))
            | (fail "HTAKE 4")
          first
            | (refine take_in (i := 5) (v := ?_) rfl (by kernel_rfl) (by kernel_rfl) (by kernel_rfl) (fun _ _ _ h => h) (Or.inl ⟨by rfl, ?_⟩) (Below.refl _ _) ?_; rotate_left; (focus (intro W hSw; go_simp; (try rfl); done)); (try simp only [Act.put, List.setIfInBounds_toArray, List.set_cons_zero, List.set_cons_succ]))
            | (refine take_in (i := 5) (v := undef) rfl (by kernel_rfl) (by kernel_rfl) (by kernel_rfl) (fun _ _ _ h => h) (Or.inr ⟨by rfl, rfl⟩) (Below.refl _ _) ?_; (try simp only [Act.put, List.setIfInBounds_toArray, List.set_cons_zero, List.set_cons_succ]))
            | (fail "HTAKE 5")
          first
            | (refine take_in (i := 6) (v := ?_) rfl (by kernel_rfl) (by kernel_rfl) (by kernel_rfl) (fun _ _ _ h => h) (Or.inl ⟨by rfl, ?_⟩) (Below.refl _ _) ?_; rotate_left; (focus (intro W hSw; have E2 := E2 W hSw; go_simp; (try rfl); done)); (try simp only [Act.put, List.setIfInBounds_toArray, List.set_cons_zero, List.set_cons_succ]))
            | (refine take_in (i := 6) (v := undef) rfl (by kernel_rfl) (by kernel_rfl) (by kernel_rfl) (fun _ _ _ h => h) (Or.inr ⟨by rfl, rfl⟩) (Below.refl _ _) ?_; (try simp only [Act.put, List.setIfInBounds_toArray, List.set_cons_zero, List.set_cons_succ]))
            | (fail "HTAKE 6")
          first
            | (refine take_in (i := 7) (v := ?_) rfl (by kernel_rfl) (by kernel_rfl) (by kernel_rfl) (fun _ _ _ h => h) (Or.inl ⟨by rfl, ?_⟩) (Below.refl _ _) ?_; rotate_left; (focus (intro W hSw; go_simp; (try rfl); done)); (try simp only [Act.put, List.setIfInBounds_toArray, List.set_cons_zero, List.set_cons_succ]))
            | (refine take_in (i := 7) (v := undef) rfl (by kernel_rfl) (by kernel_rfl) (by kernel_rfl) (fun _ _ _ h => h) (Or.inr ⟨by rfl, rfl⟩) (Below.refl _ _) ?_; (try simp only [Act.put, List.setIfInBounds_toArray, List.set_cons_zero, List.set_cons_succ]))
            | (fail "HTAKE 7")
          first
            | (refine take_in (i := 8) (v := ?_) rfl (by kernel_rfl) (by kernel_rfl) (by kernel_rfl) (fun _ _ _ h => h) (Or.inl ⟨by rfl, ?_⟩) (Below.refl _ _) ?_; rotate_left; (focus (intro W hSw; go_simp; (try rfl); done)); (try simp only [Act.put, List.setIfInBounds_toArray, List.set_cons_zero, List.set_cons_succ]))
            | (refine take_in (i := 8) (v := undef) rfl (by kernel_rfl) (by kernel_rfl) (by kernel_rfl) (fun _ _ _ h => h) (Or.inr ⟨by rfl, rfl⟩) (Below.refl _ _) ?_; (try simp only [Act.put, List.setIfInBounds_toArray, List.set_cons_zero, List.set_cons_succ]))
            | (fail "HTAKE 8")
          first
            | (refine take_in (i := 9) (v := ?_) rfl (by kernel_rfl) (by kernel_rfl) (by kernel_rfl) (fun _ _ _ h => h) (Or.inl ⟨by rfl, ?_⟩) (Below.refl _ _) ?_; rotate_left; (focus (intro W hSw; have C2 := C2 W hSw; go_simp; (try rfl); done)); (try simp only [Act.put, List.setIfInBounds_toArray, List.set_cons_zero, List.set_cons_succ]))
            | (refine take_in (i := 9) (v := undef) rfl (by kernel_rfl) (by kernel_rfl) (by kernel_rfl) (fun _ _ _ h => h) (Or.inr ⟨by rfl, rfl⟩) (Below.refl _ _) ?_; (try simp only [Act.put, List.setIfInBounds_toArray, List.set_cons_zero, List.set_cons_succ]))
            | (fail "HTAKE 9")
          first
            | (refine take_in (i := 10) (v := ?_) rfl (by kernel_rfl) (by kernel_rfl) (by kernel_rfl) (fun _ _ _ h => h) (Or.inl ⟨by rfl, ?_⟩) (Below.refl _ _) ?_; rotate_left; (focus (intro W hSw; go_simp; (try rfl); done)); (try simp only [Act.put, List.setIfInBounds_toArray, List.set_cons_zero, List.set_cons_succ]))
            | (refine take_in (i := 10) (v := undef) rfl (by kernel_rfl) (by kernel_rfl) (by kernel_rfl) (fun _ _ _ h => h) (Or.inr ⟨by rfl, rfl⟩) (Below.refl _ _) ?_; (try simp only [Act.put, List.setIfInBounds_toArray, List.set_cons_zero, List.set_cons_succ]))
            | (fail "HTAKE 10")
          refine wpAnyH_done (by kernel_rfl) ?_ _
          go_wp2_with fail
          go_roundw
          case measure => simp [intOf]; omega
          case rel => exact ⟨i + 1, by omega, by go_num, HC1.out⟩
        · obtain rfl : n3 = i := by omega
          clear hC
          go_wp2_with fail
          go_ret
          exact ⟨rfl, HW.out.trans (HC.out.mono HW.out.size)⟩
end Go.Proofs.Ytfjnpiahloncmaa
