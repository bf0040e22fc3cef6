import Derived.Test.YtapoechkbbklfaaNetB
namespace Go.Proofs.Ytapoechkbbklfaa
open Go.RowKit
set_option linter.unusedVariables false
set_option linter.unusedSimpArgs false
set_option maxRecDepth 20000 in
theorem NetTo.refl {w : World} {b1 B : Nat} {room : Int} {sv : Value} {l : List PKT.Ty} (h : NetR w b1 B room sv l) : NetTo w b1 B room sv l w := ⟨sv, h, Turn.refl _ _, fun k e => .inl e⟩
set_option maxRecDepth 20000 in
theorem NetTo.trans {w w1 w2 : World} {b1 B : Nat} {room : Int} {sv sv1 : Value} {l : List PKT.Ty} (ht : Turn (pN b1 sv) w w1) (hv : ∀ k, sv1.ownBlock = some k → sv.ownBlock = some k ∨ w.heap.size ≤ k) (h : NetTo w1 b1 B room sv1 l w2) : NetTo w b1 B room sv l w2 := by
  obtain ⟨sv2, h1, h2, h3⟩ := h
  refine ⟨sv2, h1, ht.trans h2 (fun k hk hp => ?_), fun k e => ?_⟩
  · rcases hp with hp | hp
    · exact .inl hp
    · rcases hv k hp with h | h
      · exact .inr h
      · omega
  · rcases h3 k e with h | h
    · exact hv k h
    · exact .inr (Nat.le_trans ht.size h)
set_option maxRecDepth 20000 in
theorem NetTo.below {w w1 w2 : World} {b1 B : Nat} {room : Int} {sv : Value} {l : List PKT.Ty} (hb : Below w.heap.size w w1) (h : NetTo w1 b1 B room sv l w2) : NetTo w b1 B room sv l w2 := NetTo.trans (Turn.of_below hb) (fun k e => .inl e) h
set_option maxRecDepth 20000 in
theorem NetTo.then {w w1 w2 : World} {b1 B : Nat} {room : Int} {sv : Value} {l : List PKT.Ty} (h : NetTo w b1 B room sv l w1) (hb : Below w1.heap.size w1 w2) : NetTo w b1 B room sv l w2 := by
  obtain ⟨sv1, h1, h2, h3⟩ := h
  exact ⟨sv1, ⟨blk_below h1.1 hb (blk_lt h1.1), Own.below h1.2.1 hb, h1.2.2.1, Nat.le_trans h1.2.2.2.1 hb.size, h1.2.2.2.2⟩, h2.and_below hb, h3⟩
set_option maxRecDepth 20000 in
theorem NetR.below {w w' : World} {b1 B : Nat} {room : Int} {sv : Value} {l : List PKT.Ty} (h1 : NetR w b1 B room sv l) (hb : Below w.heap.size w w') : NetR w' b1 B room sv l := ⟨blk_below h1.1 hb (blk_lt h1.1), Own.below h1.2.1 hb, h1.2.2.1, Nat.le_trans h1.2.2.2.1 hb.size, h1.2.2.2.2⟩
set_option maxRecDepth 20000 in
theorem NetR.own_ge {w : World} {b1 B : Nat} {room : Int} {sv : Value} {l : List PKT.Ty} (h : NetR w b1 B room sv l) {k : Nat} (hk : sv.ownBlock = some k) : B ≤ k ∧ k < w.heap.size := by
  obtain ⟨xs, ho, hr⟩ := h.2.1
  exact ⟨own_base ho k hk, own_lt ho k hk⟩
set_option maxRecDepth 20000 in
/-- The net's row is turned, and stored. -/
theorem net_set {x y : World} {b1 B : Nat} {room : Int} {sv v1 : Value} {l l' : List PKT.Ty} (hN : NetR x b1 B room sv l) (hT : Turn (fun k => sv.ownBlock = some k) x y) (ho : Own y B 37 PKT v1 l') (hv : ∀ k, v1.ownBlock = some k → sv.ownBlock = some k ∨ x.heap.size ≤ k) (hl : l'.length ≤ 10000) :
    NetTo x b1 B room sv l' (y.setCell ⟨b1, 1, none⟩ v1) := by
  have h1 : y.heap[b1]? = some (.cells #[.int .i64 room, sv] 76 (0, 0)) := hT.blk hN.1 (fun e => by have := (hN.own_ge e).1; have := hN.2.2.1; omega)
  refine ⟨v1, ⟨blk_set h1 1 v1, ?_, hN.2.2.1, ?_, hl⟩, ?_, hv⟩
  · refine OwnG.turn ho (p := fun k => k = b1) ((Turn.refl _ _).set (fun _ => rfl)) (fun k e => ?_) (fun k _ hk => ?_)
    · obtain ⟨xs, h2, _⟩ := ho
      have := own_base h2 k e
      have := hN.2.2.1
      omega
    · have := hN.2.2.1
      have hk : B ≤ k := hk
      omega
  · have := hT.size
    have := hN.2.2.2.1
    simp [World.setCell]
    omega
  · exact (hT.mono (fun k _ h => .inr h)).set (fun _ => .inl rfl)
def sendF (room : Int) (a : List PKT.Ty × Nat) (p : PKT.Ty) : List PKT.Ty × Nat := if (a.1.length : Int) < room then (a.1 ++ [p], a.2 + 1) else a
def sendL (room : Int) (l L : List PKT.Ty) : List PKT.Ty × Nat := L.foldl (sendF room) (l, 0)
set_option maxRecDepth 20000 in
theorem sendL_snoc (room : Int) (l L : List PKT.Ty) (p : PKT.Ty) : sendL room l (L ++ [p]) = sendF room (sendL room l L) p := by
  unfold sendL
  rw [List.foldl_append]
  rfl
set_option maxRecDepth 20000 in
theorem sendL_le (room : Int) (l L : List PKT.Ty) : (sendL room l L).1.length ≤ l.length + L.length ∧ (sendL room l L).2 ≤ L.length := by
  unfold sendL
  suffices h : ∀ (L : List PKT.Ty) (a : List PKT.Ty × Nat), (L.foldl (sendF room) a).1.length ≤ a.1.length + L.length ∧ (L.foldl (sendF room) a).2 ≤ a.2 + L.length by simpa using h L (l, 0)
  intro L
  induction L with
  | nil => intro a; simp
  | cons p L ih =>
    intro a
    have := ih (sendF room a p)
    rw [List.foldl_cons, List.length_cons]
    have h2 : (sendF room a p).1.length ≤ a.1.length + 1 ∧ (sendF room a p).2 ≤ a.2 + 1 := by unfold sendF; split <;> simp
    omega
def SendPost (w : World) (b1 B : Nat) (room : Int) (sv : Value) (l L : List PKT.Ty) (e : Ending) (w' : World) : Prop := e = .returned (.int .i64 (sendL room l L).2) ∧ NetTo w b1 B room sv (sendL room l L).1 w'
set_option maxHeartbeats 4000000 in
set_option maxRecDepth 20000 in
theorem send_any (w : World) (b1 B : Nat) (room : Int) (sv : Value) (l L : List PKT.Ty) (okA : Nat → Prop) (A : Option Addr) (n c : Nat) (hN : NetR w b1 B room sv l) (hA : Rows w okA PKT A n L) (hok : ∀ k, okA k → k ≠ b1 ∧ sv.ownBlock ≠ some k) (hd : ∀ p ∈ L, (dataP p).length ≤ 100000) (hlen : l.length + n ≤ 5000) :
    Calls Try.prog 12 #[.pointer (some ⟨b1, 0, none⟩), .slice A n c] w (SendPost w b1 B room sv l L) := by
  have HA := Lib.hid hA
  have HNL := Lib.hid hA.1
  have HD := Lib.hid hd
  have HOK := Lib.hid hok
  have HN0 := Lib.hid hN
  clear hN hA hd hok
  go_enter Try.func12, Try.ntmps12
  go_wp2_with fail
  go_loopw [5, 10] (fun s5 s10 wr => ∃ (i k : Nat) (l2 : List PKT.Ty), i ≤ n ∧ s10 = .int .i64 i ∧ s5 = .int .i64 k ∧ sendL room l (L.take i) = (l2, k) ∧ k ≤ i ∧ l2.length ≤ l.length + i ∧ NetTo w b1 B room sv l2 wr) (fun _ s10 _ => n - (intOf s10).toNat)
  case atStart => exact ⟨0, 0, l, by omega, rfl, rfl, rfl, by omega, by omega, NetTo.refl HN0.out⟩
  case round =>
    obtain ⟨i, k, l2, hi, rfl, rfl, hS, hk, hl2, sv2, hN2, hT2, hv2⟩ := hrel
    have HS := Lib.hid hS
    have HN2 := Lib.hid hN2
    have HT2 := Lib.hid hT2
    have HV2 := Lib.hid hv2
    clear hS hN2 hT2 hv2
    by_cases hlt : i < n
    · have i0 : (0 : Int) ≤ (i : Int) := by omega
      have i1 : (i : Int) < (n : Int) := by omega
      obtain ⟨ad, x, cs, rfl, hx, hat, hrd⟩ := (HA.out.turn (ok' := okA) HT2.out (fun k _ hk => ⟨fun e => by rcases e with e | e; exact (HOK.out k hk).1 e; exact (HOK.out k hk).2 e, hk⟩)).get i hlt
      obtain ⟨pt, pf, pd, pA, pc, rfl, rfl, okp, hpd⟩ := rd_pkt hrd
      have HAt := Lib.hid hat
      have HX := Lib.hid (show sendL room l (L.take (i + 1)) = sendF room (l2, k) (pt, pf, pd, ()) by rw [take_at hx, sendL_snoc, HS.out])
      have HPD := Lib.hid hpd
      have HPL := Lib.hid (HD.out _ (List.mem_of_getElem? hx))
      have HOP := Lib.hid okp
      clear hx hat hrd hpd okp
      obtain ⟨A2, cap2, rfl⟩ := HN2.out.form
      have h1 := HN2.out.1
      obtain ⟨q0, q1⟩ := blk2 h1
      have Q1 : ∀ W, Below wr.heap.size wr W → W.cell? ⟨b1, 0, none⟩ = some (.int .i64 room) := fun W hW => cell_below hW q0
      have Q2 : ∀ W, Below wr.heap.size wr W → W.cell? ⟨b1, 1, none⟩ = some (.slice A2 l2.length cap2) := fun W hW => cell_below hW q1
      clear h1 q0 q1
      go_wp2_with (first
        | (refine wpL_load rfl 37 _ rfl _ rfl _ _ HAt.out Try.underlying37 rfl rfl ?_)
        | (refine wpL_store rfl 37 _ _ rfl wr.heap.size rfl _ _ 37 rfl (heap_alloc_new wr _) rfl rfl (by intro v hv; simp at hv; rcases hv with rfl | rfl | rfl <;> rfl) ?_
           intro w1 hc1 hg1
           have HBw1 := Lib.hid ((below_alloc1 wr _).grown hg1 (by simp) (fun k e => by cases e; exact Nat.le_refl _) : Below wr.heap.size wr w1)
           obtain ⟨c0, c1, c2⟩ := blk3 hc1
           have Hc := Lib.hid hc1
           clear hc1 hg1))
      by_cases hroom : (l2.length : Int) < room
      · have HX2 := Lib.hid (show sendL room l (L.take (i + 1)) = (l2 ++ [(pt, pf, pd, ())], k + 1) by rw [HX.out]; unfold sendF; rw [if_pos hroom])
        refine region_in (by kernel_rfl) (fun x1 hx1 => ?_)
        have hbx := HBw1.out.trans (hx1.mono HBw1.out.size)
        have C0 : ∀ W, Below x1.heap.size x1 W → W.cell? ⟨b1, 0, none⟩ = some (.int .i64 room) := fun W hW => Q1 W (hbx.trans (hW.mono hbx.size))
        have C1 : ∀ W, Below x1.heap.size x1 W → W.cell? ⟨b1, 1, none⟩ = some (.slice A2 l2.length cap2) := fun W hW => Q2 W (hbx.trans (hW.mono hbx.size))
        have HBX := Lib.hid hbx
        have HPB := Lib.hid (blk_below Hc.out hx1 (blk_lt Hc.out))
        clear hbx hx1
        first
          | (refine take_in (i := 0) (v := ?_) rfl (by kernel_rfl) (by kernel_rfl) (by kernel_rfl) (fun _ _ _ h => h) (Or.inl ⟨by rfl, ?_⟩) (Below.refl _ _) ?_; rotate_left; (focus (intro W hSw; have C0 := C0 W hSw; have C1 := C1 W hSw; go_simp; (try rfl); done)); (try simp only [Act.put, List.setIfInBounds_toArray, List.set_cons_zero, List.set_cons_succ]))
          | (refine take_in (i := 0) (v := undef) rfl (by kernel_rfl) (by kernel_rfl) (by kernel_rfl) (fun _ _ _ h => h) (Or.inr ⟨by rfl, rfl⟩) (Below.refl _ _) ?_; (try simp only [Act.put, List.setIfInBounds_toArray, List.set_cons_zero, List.set_cons_succ]))
          | (fail "HTAKE 0")
        first
          | (refine take_in (i := 1) (v := ?_) rfl (by kernel_rfl) (by kernel_rfl) (by kernel_rfl) (fun _ _ _ h => h) (Or.inl ⟨by rfl, ?_⟩) (Below.refl _ _) ?_; rotate_left; (focus (intro W hSw; have C0 := C0 W hSw; have C1 := C1 W hSw; go_simp; (try rfl); done)); (try simp only [Act.put, List.setIfInBounds_toArray, List.set_cons_zero, List.set_cons_succ]))
          | (refine take_in (i := 1) (v := undef) rfl (by kernel_rfl) (by kernel_rfl) (by kernel_rfl) (fun _ _ _ h => h) (Or.inr ⟨by rfl, rfl⟩) (Below.refl _ _) ?_; (try simp only [Act.put, List.setIfInBounds_toArray, List.set_cons_zero, List.set_cons_succ]))
          | (fail "HTAKE 1")
        first
          | (refine take_in (i := 2) (v := ?_) rfl (by kernel_rfl) (by kernel_rfl) (by kernel_rfl) (fun _ _ _ h => h) (Or.inl ⟨by rfl, ?_⟩) (Below.refl _ _) ?_; rotate_left; (focus (intro W hSw; have C0 := C0 W hSw; have C1 := C1 W hSw; go_simp; (try rfl); done)); (try simp only [Act.put, List.setIfInBounds_toArray, List.set_cons_zero, List.set_cons_succ]))
          | (refine take_in (i := 2) (v := undef) rfl (by kernel_rfl) (by kernel_rfl) (by kernel_rfl) (fun _ _ _ h => h) (Or.inr ⟨by rfl, rfl⟩) (Below.refl _ _) ?_; (try simp only [Act.put, List.setIfInBounds_toArray, List.set_cons_zero, List.set_cons_succ]))
          | (fail "HTAKE 2")
        first
          | (refine take_in (i := 3) (v := ?_) rfl (by kernel_rfl) (by kernel_rfl) (by kernel_rfl) (fun _ _ _ h => h) (Or.inl ⟨by rfl, ?_⟩) (Below.refl _ _) ?_; rotate_left; (focus (intro W hSw; have C0 := C0 W hSw; have C1 := C1 W hSw; go_simp; (try rfl); done)); (try simp only [Act.put, List.setIfInBounds_toArray, List.set_cons_zero, List.set_cons_succ]))
          | (refine take_in (i := 3) (v := undef) rfl (by kernel_rfl) (by kernel_rfl) (by kernel_rfl) (fun _ _ _ h => h) (Or.inr ⟨by rfl, rfl⟩) (Below.refl _ _) ?_; (try simp only [Act.put, List.setIfInBounds_toArray, List.set_cons_zero, List.set_cons_succ]))
          | (fail "HTAKE 3")
        first
          | (refine take_in (i := 4) (v := ?_) rfl (by kernel_rfl) (by kernel_rfl) (by kernel_rfl) (fun _ _ _ h => h) (Or.inl ⟨by rfl, ?_⟩) (Below.refl _ _) ?_; rotate_left; (focus (intro W hSw; have C0 := C0 W hSw; have C1 := C1 W hSw; go_simp; (try rfl); done)); (try simp only [Act.put, List.setIfInBounds_toArray, List.set_cons_zero, List.set_cons_succ]))
          | (refine take_in (i := 4) (v := undef) rfl (by kernel_rfl) (by kernel_rfl) (by kernel_rfl) (fun _ _ _ h => h) (Or.inr ⟨by rfl, rfl⟩) (Below.refl _ _) ?_; (try simp only [Act.put, List.setIfInBounds_toArray, List.set_cons_zero, List.set_cons_succ]))
          | (fail "HTAKE 4")
        first
          | (refine take_in (i := 5) (v := ?_) rfl (by kernel_rfl) (by kernel_rfl) (by kernel_rfl) (fun _ _ _ h => h) (Or.inl ⟨by rfl, ?_⟩) (Below.refl _ _) ?_; rotate_left; (focus (intro W hSw; have C0 := C0 W hSw; have C1 := C1 W hSw; go_simp; (try rfl); done)); (try simp only [Act.put, List.setIfInBounds_toArray, List.set_cons_zero, List.set_cons_succ]))
          | (refine take_in (i := 5) (v := undef) rfl (by kernel_rfl) (by kernel_rfl) (by kernel_rfl) (fun _ _ _ h => h) (Or.inr ⟨by rfl, rfl⟩) (Below.refl _ _) ?_; (try simp only [Act.put, List.setIfInBounds_toArray, List.set_cons_zero, List.set_cons_succ]))
          | (fail "HTAKE 5")
        first
          | (refine take_in (i := 6) (v := ?_) rfl (by kernel_rfl) (by kernel_rfl) (by kernel_rfl) (fun _ _ _ h => h) (Or.inl ⟨by rfl, ?_⟩) (Below.refl _ _) ?_; rotate_left; (focus (intro W hSw; have C0 := C0 W hSw; have C1 := C1 W hSw; go_simp; (try rfl); done)); (try simp only [Act.put, List.setIfInBounds_toArray, List.set_cons_zero, List.set_cons_succ]))
          | (refine take_in (i := 6) (v := undef) rfl (by kernel_rfl) (by kernel_rfl) (by kernel_rfl) (fun _ _ _ h => h) (Or.inr ⟨by rfl, rfl⟩) (Below.refl _ _) ?_; (try simp only [Act.put, List.setIfInBounds_toArray, List.set_cons_zero, List.set_cons_succ]))
          | (fail "HTAKE 6")
        first
          | (refine take_in (i := 7) (v := ?_) rfl (by kernel_rfl) (by kernel_rfl) (by kernel_rfl) (fun _ _ _ h => h) (Or.inl ⟨by rfl, ?_⟩) (Below.refl _ _) ?_; rotate_left; (focus (intro W hSw; have C0 := C0 W hSw; have C1 := C1 W hSw; go_simp; (try rfl); done)); (try simp only [Act.put, List.setIfInBounds_toArray, List.set_cons_zero, List.set_cons_succ]))
          | (refine take_in (i := 7) (v := undef) rfl (by kernel_rfl) (by kernel_rfl) (by kernel_rfl) (fun _ _ _ h => h) (Or.inr ⟨by rfl, rfl⟩) (Below.refl _ _) ?_; (try simp only [Act.put, List.setIfInBounds_toArray, List.set_cons_zero, List.set_cons_succ]))
          | (fail "HTAKE 7")
        first
          | (refine take_in (i := 8) (v := ?_) rfl (by kernel_rfl) (by kernel_rfl) (by kernel_rfl) (fun _ _ _ h => h) (Or.inl ⟨by rfl, ?_⟩) (Below.refl _ _) ?_; rotate_left; (focus (intro W hSw; have C0 := C0 W hSw; have C1 := C1 W hSw; go_simp; (try rfl); done)); (try simp only [Act.put, List.setIfInBounds_toArray, List.set_cons_zero, List.set_cons_succ]))
          | (refine take_in (i := 8) (v := undef) rfl (by kernel_rfl) (by kernel_rfl) (by kernel_rfl) (fun _ _ _ h => h) (Or.inr ⟨by rfl, rfl⟩) (Below.refl _ _) ?_; (try simp only [Act.put, List.setIfInBounds_toArray, List.set_cons_zero, List.set_cons_succ]))
          | (fail "HTAKE 8")
        first
          | (refine take_in (i := 9) (v := ?_) rfl (by kernel_rfl) (by kernel_rfl) (by kernel_rfl) (fun _ _ _ h => h) (Or.inl ⟨by rfl, ?_⟩) (Below.refl _ _) ?_; rotate_left; (focus (intro W hSw; have C0 := C0 W hSw; have C1 := C1 W hSw; go_simp; (try rfl); done)); (try simp only [Act.put, List.setIfInBounds_toArray, List.set_cons_zero, List.set_cons_succ]))
          | (refine take_in (i := 9) (v := undef) rfl (by kernel_rfl) (by kernel_rfl) (by kernel_rfl) (fun _ _ _ h => h) (Or.inr ⟨by rfl, rfl⟩) (Below.refl _ _) ?_; (try simp only [Act.put, List.setIfInBounds_toArray, List.set_cons_zero, List.set_cons_succ]))
          | (fail "HTAKE 9")
        first
          | (refine take_in (i := 10) (v := ?_) rfl (by kernel_rfl) (by kernel_rfl) (by kernel_rfl) (fun _ _ _ h => h) (Or.inl ⟨by rfl, ?_⟩) (Below.refl _ _) ?_; rotate_left; (focus (intro W hSw; have C0 := C0 W hSw; have C1 := C1 W hSw; go_simp; (try rfl); done)); (try simp only [Act.put, List.setIfInBounds_toArray, List.set_cons_zero, List.set_cons_succ]))
          | (refine take_in (i := 10) (v := undef) rfl (by kernel_rfl) (by kernel_rfl) (by kernel_rfl) (fun _ _ _ h => h) (Or.inr ⟨by rfl, rfl⟩) (Below.refl _ _) ?_; (try simp only [Act.put, List.setIfInBounds_toArray, List.set_cons_zero, List.set_cons_succ]))
          | (fail "HTAKE 10")
        first
          | (refine take_in (i := 11) (v := ?_) rfl (by kernel_rfl) (by kernel_rfl) (by kernel_rfl) (fun _ _ _ h => h) (Or.inl ⟨by rfl, ?_⟩) (Below.refl _ _) ?_; rotate_left; (focus (intro W hSw; have C0 := C0 W hSw; have C1 := C1 W hSw; go_simp; (try rfl); done)); (try simp only [Act.put, List.setIfInBounds_toArray, List.set_cons_zero, List.set_cons_succ]))
          | (refine take_in (i := 11) (v := undef) rfl (by kernel_rfl) (by kernel_rfl) (by kernel_rfl) (fun _ _ _ h => h) (Or.inr ⟨by rfl, rfl⟩) (Below.refl _ _) ?_; (try simp only [Act.put, List.setIfInBounds_toArray, List.set_cons_zero, List.set_cons_succ]))
          | (fail "HTAKE 11")
        first
          | (refine take_in (i := 12) (v := ?_) rfl (by kernel_rfl) (by kernel_rfl) (by kernel_rfl) (fun _ _ _ h => h) (Or.inl ⟨by rfl, ?_⟩) (Below.refl _ _) ?_; rotate_left; (focus (intro W hSw; have C0 := C0 W hSw; have C1 := C1 W hSw; go_simp; (try rfl); done)); (try simp only [Act.put, List.setIfInBounds_toArray, List.set_cons_zero, List.set_cons_succ]))
          | (refine take_in (i := 12) (v := undef) rfl (by kernel_rfl) (by kernel_rfl) (by kernel_rfl) (fun _ _ _ h => h) (Or.inr ⟨by rfl, rfl⟩) (Below.refl _ _) ?_; (try simp only [Act.put, List.setIfInBounds_toArray, List.set_cons_zero, List.set_cons_succ]))
          | (fail "HTAKE 12")
        first
          | (refine take_in (i := 13) (v := ?_) rfl (by kernel_rfl) (by kernel_rfl) (by kernel_rfl) (fun _ _ _ h => h) (Or.inl ⟨by rfl, ?_⟩) (Below.refl _ _) ?_; rotate_left; (focus (intro W hSw; have C0 := C0 W hSw; have C1 := C1 W hSw; go_simp; (try rfl); done)); (try simp only [Act.put, List.setIfInBounds_toArray, List.set_cons_zero, List.set_cons_succ]))
          | (refine take_in (i := 13) (v := undef) rfl (by kernel_rfl) (by kernel_rfl) (by kernel_rfl) (fun _ _ _ h => h) (Or.inr ⟨by rfl, rfl⟩) (Below.refl _ _) ?_; (try simp only [Act.put, List.setIfInBounds_toArray, List.set_cons_zero, List.set_cons_succ]))
          | (fail "HTAKE 13")
        refine wpAnyH_done (by kernel_rfl) ?_ _
        go_wp2_with fail
        refine region_inU 11 (fun W : World => W.heap[b1]? = some (.cells #[.int .i64 room, .slice A2 l2.length cap2] 76 (0, 0)) ∧ W.heap[wr.heap.size]? = some (.cells #[.int .i64 pt, .int .i64 pf, .slice pA pd.length pc] 37 (0, 0))) (by kernel_rfl) (fun y1 hy1 heq => ?_)
        have HBY := Lib.hid (HBX.out.trans (hy1.mono HBX.out.size))
        have HPB2 := Lib.hid (blk_below HPB.out hy1 (blk_lt HPB.out))
        have hHeld : y1.heap[b1]? = some (.cells #[.int .i64 room, .slice A2 l2.length cap2] 76 (0, 0)) ∧ y1.heap[wr.heap.size]? = some (.cells #[.int .i64 pt, .int .i64 pf, .slice pA pd.length pc] 37 (0, 0)) := ⟨(HN2.out.below HBY.out).1, blk_below HPB.out hy1 (blk_lt HPB.out)⟩
        have F1 : ∀ W : World, (W.heap[b1]? = some (.cells #[.int .i64 room, .slice A2 l2.length cap2] 76 (0, 0)) ∧ W.heap[wr.heap.size]? = some (.cells #[.int .i64 pt, .int .i64 pf, .slice pA pd.length pc] 37 (0, 0))) → W.cell? ⟨b1, 1, none⟩ = some (.slice A2 l2.length cap2) := fun W hW => blk_at hW.1 1 _ rfl
        clear hy1 heq
        first
          | (refine takeT (i := 0) (v := ?_) rfl (by kernel_rfl) (by kernel_rfl) (by kernel_rfl) (fun _ _ _ h => h) (by kernel_rfl) (Or.inl ⟨by rfl, ?_⟩) (fun _ => hHeld) ?_; rotate_left; (focus (intro W hSw; go_simp; (try rfl); done)); (try simp only [Act.put, List.setIfInBounds_toArray, List.set_cons_zero, List.set_cons_succ]))
          | (fail "UTAKE 0")
        first
          | (refine takeT (i := 1) (v := ?_) rfl (by kernel_rfl) (by kernel_rfl) (by kernel_rfl) (fun _ _ _ h => h) (by kernel_rfl) (Or.inl ⟨by rfl, ?_⟩) (fun _ => hHeld) ?_; rotate_left; (focus (intro W hSw; go_simp; (try rfl); done)); (try simp only [Act.put, List.setIfInBounds_toArray, List.set_cons_zero, List.set_cons_succ]))
          | (fail "UTAKE 1")
        first
          | (refine takeT (i := 2) (v := ?_) rfl (by kernel_rfl) (by kernel_rfl) (by kernel_rfl) (fun _ _ _ h => h) (by kernel_rfl) (Or.inl ⟨by rfl, ?_⟩) (fun _ => hHeld) ?_; rotate_left; (focus (intro W hSw; go_simp; (try rfl); done)); (try simp only [Act.put, List.setIfInBounds_toArray, List.set_cons_zero, List.set_cons_succ]))
          | (fail "UTAKE 2")
        first
          | (refine takeT (i := 3) (v := ?_) rfl (by kernel_rfl) (by kernel_rfl) (by kernel_rfl) (fun _ _ _ h => h) (by kernel_rfl) (Or.inl ⟨by rfl, ?_⟩) (fun _ => hHeld) ?_; rotate_left; (focus (intro W hSw; go_simp; (try rfl); done)); (try simp only [Act.put, List.setIfInBounds_toArray, List.set_cons_zero, List.set_cons_succ]))
          | (fail "UTAKE 3")
        first
          | (refine takeU (i := 4) (v := ?_) rfl (by kernel_rfl) (by kernel_rfl) (by kernel_rfl) (fun _ _ _ h => h) (by kernel_rfl) (by kernel_rfl) (by kernel_rfl) (Or.inl ⟨by rfl, ?_⟩) hHeld ?_; rotate_left; (focus (intro W hSw; have F1 := F1 W hSw; (try dsimp only at hSw); go_simp; (try rfl); done)); (try simp only [Act.put, List.setIfInBounds_toArray, List.set_cons_zero, List.set_cons_succ]))
          | (fail "UTAKE 4")
        refine takeU (i := 5) (v := _) rfl (by kernel_rfl) (by kernel_rfl) (by kernel_rfl) (fun _ _ _ h => h) (by kernel_rfl) (by kernel_rfl) (by kernel_rfl) (yields_load (by rfl) 37 (.tmp 7) rfl ⟨wr.heap.size, 0, none⟩ rfl _ _ (fun W hW => At.blk hW.2) Try.underlying37 rfl rfl) hHeld ?_
        (try simp only [Act.put, List.setIfInBounds_toArray, List.set_cons_zero, List.set_cons_succ])
        refine callU (i := 6) rfl (by kernel_rfl) (by kernel_rfl) (fun K hK => ?_)
        (try clear hHeld)
        go_simp
        refine (copied_any y1 okA pt pf pA pc pd (HPD.out.below HBY.out) HPL.out).mono ?_
        rintro e y2 ⟨A3, c3, rfl, hr3, hb3⟩
        have HR3 := Lib.hid hr3
        have HB3 := Lib.hid hb3
        have HBY2 := Lib.hid (HBY.out.trans (hb3.mono HBY.out.size))
        have HF2 := Lib.hid (show (fun W : World => W.heap[b1]? = some (.cells #[.int .i64 room, .slice A2 l2.length cap2] 76 (0, 0)) ∧ W.heap[wr.heap.size]? = some (.cells #[.int .i64 pt, .int .i64 pf, .slice pA pd.length pc] 37 (0, 0))) y2 from ⟨(HN2.out.below HBY2.out).1, blk_below HPB2.out hb3 (blk_lt HPB2.out)⟩)
        clear hr3 hb3
        have hHeld := HF2.out
        refine hK.out (fun W : World => W.heap[b1]? = some (.cells #[.int .i64 room, .slice A2 l2.length cap2] 76 (0, 0)) ∧ W.heap[wr.heap.size]? = some (.cells #[.int .i64 pt, .int .i64 pf, .slice pA pd.length pc] 37 (0, 0))) _ _ (fun _ => hHeld) (fun _ h => h) ?_
        (try simp only [Act.put, List.setIfInBounds_toArray, List.set_cons_zero, List.set_cons_succ])
        refine callU (i := 7) rfl (by kernel_rfl) (by kernel_rfl) (fun K hK => ?_)
        clear hHeld
        refine wpo_lit1 (cs := [.int .i64 pt, .int .i64 pf, .slice A3 pd.length c3]) (.tmp 34) rfl rfl Try.underlying27 info_pkt rfl (by decide) (by decide) rfl ?_
        obtain ⟨y3, hy3⟩ : ∃ y3, y2.alloc (.cells [.int .i64 pt, .int .i64 pf, .slice A3 pd.length c3].toArray 37) = y3 := ⟨_, rfl⟩
        have hb23 : Below y2.heap.size y2 y3 := by rw [← hy3]; exact below_alloc1 y2 _
        have hl3 : y3.heap[y2.heap.size]? = some (.cells [.int .i64 pt, .int .i64 pf, .slice A3 pd.length c3].toArray 37 (0, 0)) := by rw [← hy3]; exact heap_alloc_new y2 _
        rw [hy3]
        have HBY3 := Lib.hid (HBY2.out.trans (hb23.mono HBY2.out.size))
        have HF3 := Lib.hid (show (fun W : World => W.heap[b1]? = some (.cells #[.int .i64 room, .slice A2 l2.length cap2] 76 (0, 0)) ∧ W.heap[wr.heap.size]? = some (.cells #[.int .i64 pt, .int .i64 pf, .slice pA pd.length pc] 37 (0, 0))) y3 from ⟨(HN2.out.below HBY3.out).1, blk_below HF2.out.2 hb23 (blk_lt HF2.out.2)⟩)
        have HL3 := Lib.hid (At.blk hl3)
        have HR4 := Lib.hid (show Rd y3 (fun k => B ≤ k ∧ (Value.slice A2 l2.length cap2).ownBlock ≠ some k) PKT (pt, pf, pd, ()) [.int .i64 pt, .int .i64 pf, .slice A3 pd.length c3] from rd_pkt_mk HOP.out ((HR3.out.below hb23).weak (fun k hk _ => ⟨by have := HN2.out.2.2.2.1; have := HBY.out.size; omega, fun e => by have := (HN2.out.own_ge e).2; have := HBY.out.size; omega⟩)))
        clear hb23 hl3 hy3
        have hHeld := HF3.out
        refine hK.out (fun W : World => W.heap[b1]? = some (.cells #[.int .i64 room, .slice A2 l2.length cap2] 76 (0, 0)) ∧ W.heap[wr.heap.size]? = some (.cells #[.int .i64 pt, .int .i64 pf, .slice pA pd.length pc] 37 (0, 0))) _ _ (fun _ => hHeld) (fun _ h => h) ?_
        (try simp only [Act.put, List.setIfInBounds_toArray, List.set_cons_zero, List.set_cons_succ])
        refine callU (i := 8) rfl (by kernel_rfl) (by kernel_rfl) (fun K hK => ?_)
        clear hHeld
        refine wpo_appO (w0 := y3) (base := B) (ok := fun k => B ≤ k) (m := 1) (A := some ⟨y2.heap.size, 0, none⟩) (r := [(pt, pf, pd, ())]) (ys := [.int .i64 pt, .int .i64 pf, .slice A3 pd.length c3]) (.tmp 32) (.tmp 35) rfl (HN2.out.below HBY3.out).2.1 rfl (fun e => by cases e) (fun ad' e => by cases e; exact HL3.out) (RdL.single HR4.out) (Below.refl _ _) Try.underlying27 info_pkt rfl (by decide) rfl rfl (by omega) (by omega) (Nat.le_trans HN2.out.2.2.2.1 HBY3.out.size) ?_
        intro v5 y5 ho5 hb5 hg5 hv5
        have HF5 := Lib.hid (show (fun W : World => W.heap[b1]? = some (.cells #[.int .i64 room, .slice A2 l2.length cap2] 76 (0, 0)) ∧ W.heap[wr.heap.size]? = some (.cells #[.int .i64 pt, .int .i64 pf, .slice pA pd.length pc] 37 (0, 0))) y5 from ⟨blk_grown HF3.out.1 hg5 (fun e => by have := (HN2.out.own_ge e.symm).1; have := HN2.out.2.2.1; omega), blk_grown HF3.out.2 hg5 (fun e => by have := (HN2.out.own_ge e.symm).2; omega)⟩)
        have HO5 := Lib.hid (net_set HN2.out (y := y5) (v1 := v5) (l' := l2 ++ [(pt, pf, pd, ())]) ((Turn.of_below HBY3.out).trans (Turn.of_grown (p := fun k => (Value.slice A2 l2.length cap2).ownBlock = some k) hg5 (fun k e => e)) (fun k _ h => h)) ho5 (fun k e => by rcases hv5 with h | h; exact .inl (h ▸ e); exact .inr (by rw [h] at e; injection e with e; have := HBY3.out.size; omega)) (by simp; omega))
        obtain ⟨A5, c5, rfl, _⟩ := OwnG.rows ho5
        clear ho5 hb5 hg5 hv5
        have hHeld := HF5.out
        refine hK.out (fun W : World => W.heap[b1]? = some (.cells #[.int .i64 room, .slice A2 l2.length cap2] 76 (0, 0)) ∧ W.heap[wr.heap.size]? = some (.cells #[.int .i64 pt, .int .i64 pf, .slice pA pd.length pc] 37 (0, 0))) _ _ (fun _ => hHeld) (fun _ h => h) ?_
        (try simp only [Act.put, List.setIfInBounds_toArray, List.set_cons_zero, List.set_cons_succ])
        first
          | (refine takeT (i := 9) (v := ?_) rfl (by kernel_rfl) (by kernel_rfl) (by kernel_rfl) (fun _ _ _ h => h) (by kernel_rfl) (Or.inl ⟨by rfl, ?_⟩) (fun _ => hHeld) ?_; rotate_left; (focus (intro W hSw; go_simp; (try rfl); done)); (try simp only [Act.put, List.setIfInBounds_toArray, List.set_cons_zero, List.set_cons_succ]))
          | (fail "UTAKE 9")
        first
          | (refine takeT (i := 10) (v := ?_) rfl (by kernel_rfl) (by kernel_rfl) (by kernel_rfl) (fun _ _ _ h => h) (by kernel_rfl) (Or.inl ⟨by rfl, ?_⟩) (fun _ => hHeld) ?_; rotate_left; (focus (intro W hSw; go_simp; (try rfl); done)); (try simp only [Act.put, List.setIfInBounds_toArray, List.set_cons_zero, List.set_cons_succ]))
          | (fail "UTAKE 10")
        have k1 := blk_at HF5.out.1 1 _ rfl
        have f1 := blk_free HF5.out.1 1
        refine callU (i := 11) rfl (by kernel_rfl) (by kernel_rfl) (fun K hK => ?_)
        (try clear hHeld)
        go_simp
        refine hK.out _ _ _ (offU (by kernel_rfl)) (fun _ h => h) ?_
        (try simp only [Act.put, List.setIfInBounds_toArray, List.set_cons_zero, List.set_cons_succ])
        refine doneU (by kernel_rfl) ?_ _
        go_wp2_with fail
        go_roundw
        case measure => simp [intOf]; omega
        case rel => exact ⟨i + 1, k + 1, _, by omega, by go_num, by go_num, HX2.out, by omega, by simp; omega, NetTo.trans HT2.out HV2.out (by have h := HO5.out; rw [List.length_append] at h; exact h)⟩
      · have HX2 := Lib.hid (show sendL room l (L.take (i + 1)) = (l2, k) by rw [HX.out]; unfold sendF; rw [if_neg hroom])
        refine region_in (by kernel_rfl) (fun x1 hx1 => ?_)
        have hbx := HBw1.out.trans (hx1.mono HBw1.out.size)
        have C0 : ∀ W, Below x1.heap.size x1 W → W.cell? ⟨b1, 0, none⟩ = some (.int .i64 room) := fun W hW => Q1 W (hbx.trans (hW.mono hbx.size))
        have C1 : ∀ W, Below x1.heap.size x1 W → W.cell? ⟨b1, 1, none⟩ = some (.slice A2 l2.length cap2) := fun W hW => Q2 W (hbx.trans (hW.mono hbx.size))
        have HBX := Lib.hid hbx
        clear hbx hx1
        first
          | (refine take_in (i := 0) (v := ?_) rfl (by kernel_rfl) (by kernel_rfl) (by kernel_rfl) (fun _ _ _ h => h) (Or.inl ⟨by rfl, ?_⟩) (Below.refl _ _) ?_; rotate_left; (focus (intro W hSw; have C0 := C0 W hSw; have C1 := C1 W hSw; go_simp; (try rfl); done)); (try simp only [Act.put, List.setIfInBounds_toArray, List.set_cons_zero, List.set_cons_succ]))
          | (refine take_in (i := 0) (v := undef) rfl (by kernel_rfl) (by kernel_rfl) (by kernel_rfl) (fun _ _ _ h => h) (Or.inr ⟨by rfl, rfl⟩) (Below.refl _ _) ?_; (try simp only [Act.put, List.setIfInBounds_toArray, List.set_cons_zero, List.set_cons_succ]))
          | (fail "HTAKE 0")
        first
          | (refine take_in (i := 1) (v := ?_) rfl (by kernel_rfl) (by kernel_rfl) (by kernel_rfl) (fun _ _ _ h => h) (Or.inl ⟨by rfl, ?_⟩) (Below.refl _ _) ?_; rotate_left; (focus (intro W hSw; have C0 := C0 W hSw; have C1 := C1 W hSw; go_simp; (try rfl); done)); (try simp only [Act.put, List.setIfInBounds_toArray, List.set_cons_zero, List.set_cons_succ]))
          | (refine take_in (i := 1) (v := undef) rfl (by kernel_rfl) (by kernel_rfl) (by kernel_rfl) (fun _ _ _ h => h) (Or.inr ⟨by rfl, rfl⟩) (Below.refl _ _) ?_; (try simp only [Act.put, List.setIfInBounds_toArray, List.set_cons_zero, List.set_cons_succ]))
          | (fail "HTAKE 1")
        first
          | (refine take_in (i := 2) (v := ?_) rfl (by kernel_rfl) (by kernel_rfl) (by kernel_rfl) (fun _ _ _ h => h) (Or.inl ⟨by rfl, ?_⟩) (Below.refl _ _) ?_; rotate_left; (focus (intro W hSw; have C0 := C0 W hSw; have C1 := C1 W hSw; go_simp; (try rfl); done)); (try simp only [Act.put, List.setIfInBounds_toArray, List.set_cons_zero, List.set_cons_succ]))
          | (refine take_in (i := 2) (v := undef) rfl (by kernel_rfl) (by kernel_rfl) (by kernel_rfl) (fun _ _ _ h => h) (Or.inr ⟨by rfl, rfl⟩) (Below.refl _ _) ?_; (try simp only [Act.put, List.setIfInBounds_toArray, List.set_cons_zero, List.set_cons_succ]))
          | (fail "HTAKE 2")
        first
          | (refine take_in (i := 3) (v := ?_) rfl (by kernel_rfl) (by kernel_rfl) (by kernel_rfl) (fun _ _ _ h => h) (Or.inl ⟨by rfl, ?_⟩) (Below.refl _ _) ?_; rotate_left; (focus (intro W hSw; have C0 := C0 W hSw; have C1 := C1 W hSw; go_simp; (try rfl); done)); (try simp only [Act.put, List.setIfInBounds_toArray, List.set_cons_zero, List.set_cons_succ]))
          | (refine take_in (i := 3) (v := undef) rfl (by kernel_rfl) (by kernel_rfl) (by kernel_rfl) (fun _ _ _ h => h) (Or.inr ⟨by rfl, rfl⟩) (Below.refl _ _) ?_; (try simp only [Act.put, List.setIfInBounds_toArray, List.set_cons_zero, List.set_cons_succ]))
          | (fail "HTAKE 3")
        first
          | (refine take_in (i := 4) (v := ?_) rfl (by kernel_rfl) (by kernel_rfl) (by kernel_rfl) (fun _ _ _ h => h) (Or.inl ⟨by rfl, ?_⟩) (Below.refl _ _) ?_; rotate_left; (focus (intro W hSw; have C0 := C0 W hSw; have C1 := C1 W hSw; go_simp; (try rfl); done)); (try simp only [Act.put, List.setIfInBounds_toArray, List.set_cons_zero, List.set_cons_succ]))
          | (refine take_in (i := 4) (v := undef) rfl (by kernel_rfl) (by kernel_rfl) (by kernel_rfl) (fun _ _ _ h => h) (Or.inr ⟨by rfl, rfl⟩) (Below.refl _ _) ?_; (try simp only [Act.put, List.setIfInBounds_toArray, List.set_cons_zero, List.set_cons_succ]))
          | (fail "HTAKE 4")
        first
          | (refine take_in (i := 5) (v := ?_) rfl (by kernel_rfl) (by kernel_rfl) (by kernel_rfl) (fun _ _ _ h => h) (Or.inl ⟨by rfl, ?_⟩) (Below.refl _ _) ?_; rotate_left; (focus (intro W hSw; have C0 := C0 W hSw; have C1 := C1 W hSw; go_simp; (try rfl); done)); (try simp only [Act.put, List.setIfInBounds_toArray, List.set_cons_zero, List.set_cons_succ]))
          | (refine take_in (i := 5) (v := undef) rfl (by kernel_rfl) (by kernel_rfl) (by kernel_rfl) (fun _ _ _ h => h) (Or.inr ⟨by rfl, rfl⟩) (Below.refl _ _) ?_; (try simp only [Act.put, List.setIfInBounds_toArray, List.set_cons_zero, List.set_cons_succ]))
          | (fail "HTAKE 5")
        first
          | (refine take_in (i := 6) (v := ?_) rfl (by kernel_rfl) (by kernel_rfl) (by kernel_rfl) (fun _ _ _ h => h) (Or.inl ⟨by rfl, ?_⟩) (Below.refl _ _) ?_; rotate_left; (focus (intro W hSw; have C0 := C0 W hSw; have C1 := C1 W hSw; go_simp; (try rfl); done)); (try simp only [Act.put, List.setIfInBounds_toArray, List.set_cons_zero, List.set_cons_succ]))
          | (refine take_in (i := 6) (v := undef) rfl (by kernel_rfl) (by kernel_rfl) (by kernel_rfl) (fun _ _ _ h => h) (Or.inr ⟨by rfl, rfl⟩) (Below.refl _ _) ?_; (try simp only [Act.put, List.setIfInBounds_toArray, List.set_cons_zero, List.set_cons_succ]))
          | (fail "HTAKE 6")
        first
          | (refine take_in (i := 7) (v := ?_) rfl (by kernel_rfl) (by kernel_rfl) (by kernel_rfl) (fun _ _ _ h => h) (Or.inl ⟨by rfl, ?_⟩) (Below.refl _ _) ?_; rotate_left; (focus (intro W hSw; have C0 := C0 W hSw; have C1 := C1 W hSw; go_simp; (try rfl); done)); (try simp only [Act.put, List.setIfInBounds_toArray, List.set_cons_zero, List.set_cons_succ]))
          | (refine take_in (i := 7) (v := undef) rfl (by kernel_rfl) (by kernel_rfl) (by kernel_rfl) (fun _ _ _ h => h) (Or.inr ⟨by rfl, rfl⟩) (Below.refl _ _) ?_; (try simp only [Act.put, List.setIfInBounds_toArray, List.set_cons_zero, List.set_cons_succ]))
          | (fail "HTAKE 7")
        first
          | (refine take_in (i := 8) (v := ?_) rfl (by kernel_rfl) (by kernel_rfl) (by kernel_rfl) (fun _ _ _ h => h) (Or.inl ⟨by rfl, ?_⟩) (Below.refl _ _) ?_; rotate_left; (focus (intro W hSw; have C0 := C0 W hSw; have C1 := C1 W hSw; go_simp; (try rfl); done)); (try simp only [Act.put, List.setIfInBounds_toArray, List.set_cons_zero, List.set_cons_succ]))
          | (refine take_in (i := 8) (v := undef) rfl (by kernel_rfl) (by kernel_rfl) (by kernel_rfl) (fun _ _ _ h => h) (Or.inr ⟨by rfl, rfl⟩) (Below.refl _ _) ?_; (try simp only [Act.put, List.setIfInBounds_toArray, List.set_cons_zero, List.set_cons_succ]))
          | (fail "HTAKE 8")
        first
          | (refine take_in (i := 9) (v := ?_) rfl (by kernel_rfl) (by kernel_rfl) (by kernel_rfl) (fun _ _ _ h => h) (Or.inl ⟨by rfl, ?_⟩) (Below.refl _ _) ?_; rotate_left; (focus (intro W hSw; have C0 := C0 W hSw; have C1 := C1 W hSw; go_simp; (try rfl); done)); (try simp only [Act.put, List.setIfInBounds_toArray, List.set_cons_zero, List.set_cons_succ]))
          | (refine take_in (i := 9) (v := undef) rfl (by kernel_rfl) (by kernel_rfl) (by kernel_rfl) (fun _ _ _ h => h) (Or.inr ⟨by rfl, rfl⟩) (Below.refl _ _) ?_; (try simp only [Act.put, List.setIfInBounds_toArray, List.set_cons_zero, List.set_cons_succ]))
          | (fail "HTAKE 9")
        first
          | (refine take_in (i := 10) (v := ?_) rfl (by kernel_rfl) (by kernel_rfl) (by kernel_rfl) (fun _ _ _ h => h) (Or.inl ⟨by rfl, ?_⟩) (Below.refl _ _) ?_; rotate_left; (focus (intro W hSw; have C0 := C0 W hSw; have C1 := C1 W hSw; go_simp; (try rfl); done)); (try simp only [Act.put, List.setIfInBounds_toArray, List.set_cons_zero, List.set_cons_succ]))
          | (refine take_in (i := 10) (v := undef) rfl (by kernel_rfl) (by kernel_rfl) (by kernel_rfl) (fun _ _ _ h => h) (Or.inr ⟨by rfl, rfl⟩) (Below.refl _ _) ?_; (try simp only [Act.put, List.setIfInBounds_toArray, List.set_cons_zero, List.set_cons_succ]))
          | (fail "HTAKE 10")
        first
          | (refine take_in (i := 11) (v := ?_) rfl (by kernel_rfl) (by kernel_rfl) (by kernel_rfl) (fun _ _ _ h => h) (Or.inl ⟨by rfl, ?_⟩) (Below.refl _ _) ?_; rotate_left; (focus (intro W hSw; have C0 := C0 W hSw; have C1 := C1 W hSw; go_simp; (try rfl); done)); (try simp only [Act.put, List.setIfInBounds_toArray, List.set_cons_zero, List.set_cons_succ]))
          | (refine take_in (i := 11) (v := undef) rfl (by kernel_rfl) (by kernel_rfl) (by kernel_rfl) (fun _ _ _ h => h) (Or.inr ⟨by rfl, rfl⟩) (Below.refl _ _) ?_; (try simp only [Act.put, List.setIfInBounds_toArray, List.set_cons_zero, List.set_cons_succ]))
          | (fail "HTAKE 11")
        first
          | (refine take_in (i := 12) (v := ?_) rfl (by kernel_rfl) (by kernel_rfl) (by kernel_rfl) (fun _ _ _ h => h) (Or.inl ⟨by rfl, ?_⟩) (Below.refl _ _) ?_; rotate_left; (focus (intro W hSw; have C0 := C0 W hSw; have C1 := C1 W hSw; go_simp; (try rfl); done)); (try simp only [Act.put, List.setIfInBounds_toArray, List.set_cons_zero, List.set_cons_succ]))
          | (refine take_in (i := 12) (v := undef) rfl (by kernel_rfl) (by kernel_rfl) (by kernel_rfl) (fun _ _ _ h => h) (Or.inr ⟨by rfl, rfl⟩) (Below.refl _ _) ?_; (try simp only [Act.put, List.setIfInBounds_toArray, List.set_cons_zero, List.set_cons_succ]))
          | (fail "HTAKE 12")
        first
          | (refine take_in (i := 13) (v := ?_) rfl (by kernel_rfl) (by kernel_rfl) (by kernel_rfl) (fun _ _ _ h => h) (Or.inl ⟨by rfl, ?_⟩) (Below.refl _ _) ?_; rotate_left; (focus (intro W hSw; have C0 := C0 W hSw; have C1 := C1 W hSw; go_simp; (try rfl); done)); (try simp only [Act.put, List.setIfInBounds_toArray, List.set_cons_zero, List.set_cons_succ]))
          | (refine take_in (i := 13) (v := undef) rfl (by kernel_rfl) (by kernel_rfl) (by kernel_rfl) (fun _ _ _ h => h) (Or.inr ⟨by rfl, rfl⟩) (Below.refl _ _) ?_; (try simp only [Act.put, List.setIfInBounds_toArray, List.set_cons_zero, List.set_cons_succ]))
          | (fail "HTAKE 13")
        refine wpAnyH_done (by kernel_rfl) ?_ _
        have hge : room ≤ (l2.length : Int) := by omega
        go_wp2_with fail
        go_roundw
        case measure => simp [intOf]; omega
        case rel => exact ⟨i + 1, k, l2, by omega, by go_num, rfl, HX2.out, by omega, by omega, NetTo.trans HT2.out HV2.out (NetTo.below HBX.out (NetTo.refl (HN2.out.below HBX.out)))⟩
    · obtain rfl : i = n := by omega
      have HE := Lib.hid (show sendL room l L = (l2, k) by rw [← HS.out, List.take_of_length_le (by have := HNL.out; omega)])
      go_wp2_with fail
      go_ret
      refine ⟨by rw [HE.out]; rfl, ?_⟩
      rw [HE.out]
      exact ⟨sv2, HN2.out, HT2.out, HV2.out⟩
end Go.Proofs.Ytapoechkbbklfaa
