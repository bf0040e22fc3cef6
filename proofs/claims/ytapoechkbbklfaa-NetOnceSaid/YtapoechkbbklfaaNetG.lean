import Derived.Test.YtapoechkbbklfaaNetE
namespace Go.Proofs.Ytapoechkbbklfaa
open Go.RowKit
set_option linter.unusedVariables false
set_option linter.unusedSimpArgs false
/-- The reference's net: the block b2 holds its room and its packets, which are read. -/
def XR (w : World) (b2 : Nat) (ok : Nat → Prop) (room : Int) (xv : Value) (l : List PKT.Ty) : Prop :=
  w.heap[b2]? = some (.cells #[.int .i64 room, xv] 29 (0, 0)) ∧ Rd w ok (.sl PKT) l [xv] ∧ l.length ≤ 10000
def XTo (w : World) (b2 : Nat) (ok : Nat → Prop) (room : Int) (l : List PKT.Ty) (w' : World) : Prop := ∃ xv, XR w' b2 ok room xv l ∧ Turn (fun k => k = b2) w w'
/-- What may be told of X's blocks: never b2; all new ones. -/
def OkX (w : World) (b2 : Nat) (ok : Nat → Prop) : Prop := (∀ k, ok k → k ≠ b2) ∧ ∀ k, w.heap.size ≤ k → ok k
set_option maxRecDepth 20000 in
theorem OkX.later {w w' : World} {b2 : Nat} {ok : Nat → Prop} (h : OkX w b2 ok) (hs : w.heap.size ≤ w'.heap.size) : OkX w' b2 ok := ⟨h.1, fun k hk => h.2 k (Nat.le_trans hs hk)⟩
set_option maxRecDepth 20000 in
theorem XR.below {w w' : World} {b2 : Nat} {ok : Nat → Prop} {room : Int} {xv : Value} {l : List PKT.Ty} (h : XR w b2 ok room xv l) (hb : Below w.heap.size w w') : XR w' b2 ok room xv l := ⟨blk_below h.1 hb (blk_lt h.1), h.2.1.below hb, h.2.2⟩
set_option maxRecDepth 20000 in
theorem XTo.refl {w : World} {b2 : Nat} {ok : Nat → Prop} {room : Int} {xv : Value} {l : List PKT.Ty} (h : XR w b2 ok room xv l) : XTo w b2 ok room l w := ⟨xv, h, Turn.refl _ _⟩
set_option maxRecDepth 20000 in
theorem XTo.trans {w w1 w2 : World} {b2 : Nat} {ok : Nat → Prop} {room : Int} {l : List PKT.Ty} (ht : Turn (fun k => k = b2) w w1) (h : XTo w1 b2 ok room l w2) : XTo w b2 ok room l w2 := by
  obtain ⟨xv, h1, h2⟩ := h
  exact ⟨xv, h1, ht.trans h2 (fun _ _ h => h)⟩
set_option maxRecDepth 20000 in
theorem XR.form {w : World} {b2 : Nat} {ok : Nat → Prop} {room : Int} {xv : Value} {l : List PKT.Ty} (h : XR w b2 ok room xv l) : ∃ A c, xv = .slice A l.length c ∧ l.length ≤ c ∧ c ≤ 9223372036854775807 ∧ (A = none → c = 0) ∧ Rows w ok PKT A l.length l := by
  obtain ⟨A, c, e⟩ := rd_slice h.2.1
  subst e
  obtain ⟨h1, h2, h3, h4⟩ := rd_rowsN h.2.1
  exact ⟨A, c, rfl, h1, h2, h3, h4⟩
set_option maxRecDepth 20000 in
theorem own_rd_ok {w : World} {base : Nat} {ok ok' : Nat → Prop} {e : TypeId} {s : Sh} {v : Value} {l : List s.Ty} (h : OwnG w base ok e s v l) (h1 : ∀ k, base ≤ k → ok' k) (h2 : ∀ k, ok k → ok' k) : Rd w ok' (.sl s) l [v] := by
  obtain ⟨A, c, rfl, a1, a2, a3, a4⟩ := OwnG.form h
  exact rd_sl.2 ⟨A, _, c, rfl, a1, a2, a3, a4.weak (fun k hk _ => hk.elim (h1 k) (h2 k))⟩
set_option maxRecDepth 20000 in
/-- X behind a store of a new row. -/
theorem x_set {x y : World} {b2 base : Nat} {ok : Nat → Prop} {room : Int} {xv v1 : Value} {l l' : List PKT.Ty} (hX : XR x b2 ok room xv l) (hok : OkX x b2 ok) (hb : Below x.heap.size x y) (ho : OwnG y base ok 37 PKT v1 l') (hbase : x.heap.size ≤ base) (hl : l'.length ≤ 10000) :
    XTo x b2 ok room l' (y.setCell ⟨b2, 1, none⟩ v1) := by
  refine ⟨v1, ⟨blk_set (blk_below hX.1 hb (blk_lt hX.1)) 1 v1, ?_, hl⟩, (Turn.of_below hb).trans ((Turn.refl _ _).set (p := fun k => k = b2) (fun _ => rfl)) (fun _ _ h => h)⟩
  exact (own_rd_ok (ok' := ok) ho (fun k hk => hok.2 k (by omega)) (fun k h => h)).turn (p := fun k => k = b2) ((Turn.refl _ _).set (fun _ => rfl)) (fun k _ h => ⟨hok.1 k h, h⟩)
def RSendPost (w : World) (b2 : Nat) (ok : Nat → Prop) (room : Int) (l L : List PKT.Ty) (e : Ending) (w' : World) : Prop := e = .returned (.int .i64 (sendL room l L).2) ∧ XTo w b2 ok room (sendL room l L).1 w'
set_option maxHeartbeats 4000000 in
set_option maxRecDepth 20000 in
theorem rsend_any (w : World) (b2 : Nat) (ok : Nat → Prop) (room : Int) (xv : Value) (l L : List PKT.Ty) (A : Option Addr) (n c : Nat) (hX : XR w b2 ok room xv l) (hOk : OkX w b2 ok) (hA : Rows w ok PKT A n L) (hlen : l.length + n ≤ 5000) :
    Calls Try.prog 13 #[.pointer (some ⟨b2, 0, none⟩), .slice A n c] w (RSendPost w b2 ok room l L) := by
  have HA := Lib.hid hA
  have HNL := Lib.hid hA.1
  have HX0 := Lib.hid hX
  have HOk := Lib.hid hOk
  clear hA hX hOk
  go_enter Try.func13, Try.ntmps13
  go_wp2_with fail
  go_loopw [5, 10] (fun s5 s10 wr => ∃ (i k : Nat) (l2 : List PKT.Ty), i ≤ n ∧ s10 = .int .i64 i ∧ s5 = .int .i64 k ∧ sendL room l (L.take i) = (l2, k) ∧ k ≤ i ∧ l2.length ≤ l.length + i ∧ XTo w b2 ok room l2 wr) (fun _ s10 _ => n - (intOf s10).toNat)
  case atStart => exact ⟨0, 0, l, by omega, rfl, rfl, rfl, by omega, by omega, XTo.refl HX0.out⟩
  case round =>
    obtain ⟨i, k, l2, hi, rfl, rfl, hS, hk, hl2, xv2, hX2, hT2⟩ := hrel
    have HS := Lib.hid hS
    have HX2 := Lib.hid hX2
    have HT2 := Lib.hid hT2
    have HOk2 := Lib.hid (HOk.out.later hT2.size)
    clear hS hX2 hT2
    by_cases hlt : i < n
    · have i0 : (0 : Int) ≤ (i : Int) := by omega
      have i1 : (i : Int) < (n : Int) := by omega
      obtain ⟨ad, x, cs, rfl, hx, hat, hrd⟩ := (HA.out.turn (ok' := ok) HT2.out (fun k _ hk => ⟨HOk.out.1 k hk, hk⟩)).get i hlt
      obtain ⟨pt, pf, pd, pA, pc, rfl, rfl, okp, hpd⟩ := rd_pkt hrd
      have HAt := Lib.hid hat
      have HX := Lib.hid (show sendL room l (L.take (i + 1)) = sendF room (l2, k) (pt, pf, pd, ()) by rw [take_at hx, sendL_snoc, HS.out])
      have HPD := Lib.hid hrd
      clear hx hat hrd hpd okp
      obtain ⟨A2, cap2, rfl, hc1, hc2, hc3, hrows⟩ := HX2.out.form
      have HRow := Lib.hid (And.intro hc3 hrows)
      have h1 := HX2.out.1
      obtain ⟨q0, q1⟩ := blk2 h1
      have Q1 : ∀ W, Below wr.heap.size wr W → W.cell? ⟨b2, 0, none⟩ = some (.int .i64 room) := fun W hW => cell_below hW q0
      have Q2 : ∀ W, Below wr.heap.size wr W → W.cell? ⟨b2, 1, none⟩ = some (.slice A2 l2.length cap2) := fun W hW => cell_below hW q1
      clear h1 q0 q1 hc3 hrows
      go_wp2_with (first
        | (refine wpL_load rfl 37 _ rfl _ rfl _ _ HAt.out Try.underlying37 rfl rfl ?_)
        | (refine wpL_store rfl 37 _ _ rfl wr.heap.size rfl _ _ 37 rfl (heap_alloc_new wr _) rfl rfl (by intro v hv; simp at hv; rcases hv with rfl | rfl | rfl <;> rfl) ?_
           intro w1 hc1 hg1
           have HBw1 := Lib.hid ((below_alloc1 wr _).grown hg1 (by simp) (fun k e => by cases e; exact Nat.le_refl _) : Below wr.heap.size wr w1)
           obtain ⟨c0, c1, c2⟩ := blk3 hc1
           have Hc := Lib.hid hc1
           clear hc1 hg1))
      by_cases hroom : (l2.length : Int) < room
      · have HX3 := Lib.hid (show sendL room l (L.take (i + 1)) = (l2 ++ [(pt, pf, pd, ())], k + 1) by rw [HX.out]; unfold sendF; rw [if_pos hroom])
        refine region_in (by kernel_rfl) (fun x1 hx1 => ?_)
        have hbx := HBw1.out.trans (hx1.mono HBw1.out.size)
        have C0 : ∀ W, Below x1.heap.size x1 W → W.cell? ⟨b2, 0, none⟩ = some (.int .i64 room) := fun W hW => Q1 W (hbx.trans (hW.mono hbx.size))
        have C1 : ∀ W, Below x1.heap.size x1 W → W.cell? ⟨b2, 1, none⟩ = some (.slice A2 l2.length cap2) := fun W hW => Q2 W (hbx.trans (hW.mono hbx.size))
        have HBX := Lib.hid hbx
        have HPB := Lib.hid (blk_below Hc.out hx1 (blk_lt Hc.out))
        clear hbx hx1
        first
          | (refine take_in (i := 0) (v := ?_) rfl (by kernel_rfl) (by kernel_rfl) (by kernel_rfl) (fun _ _ _ h => h) (Or.inl ⟨by rfl, ?_⟩) (Below.refl _ _) ?_; rotate_left; (focus (intro W hSw; have C0 := C0 W hSw; have C1 := C1 W hSw; go_simp; (try rfl); done)); (try simp only [Act.put, List.setIfInBounds_toArray, List.set_cons_zero, List.set_cons_succ]))
          | (refine take_in (i := 0) (v := undef) rfl (by kernel_rfl) (by kernel_rfl) (by kernel_rfl) (fun _ _ _ h => h) (Or.inr ⟨by rfl, rfl⟩) (Below.refl _ _) ?_; (try simp only [Act.put, List.setIfInBounds_toArray, List.set_cons_zero, List.set_cons_succ]))
          | (fail "HTAKE 0")
        first
          | (refine take_in (i := 1) (v := ?_) rfl (by kernel_rfl) (by kernel_rfl) (by kernel_rfl) (fun _ _ _ h => h) (Or.inl ⟨by rfl, ?_⟩) (Below.refl _ _) ?_; rotate_left; (focus (intro W hSw; have C0 := C0 W hSw; have C1 := C1 W hSw; go_simp; (try rfl); done)); (try simp only [Act.put, List.setIfInBounds_toArray, List.set_cons_zero, List.set_cons_succ]))
          | (refine take_in (i := 1) (v := undef) rfl (by kernel_rfl) (by kernel_rfl) (by kernel_rfl) (fun _ _ _ h => h) (Or.inr ⟨by rfl, rfl⟩) (Below.refl _ _) ?_; (try simp only [Act.put, List.setIfInBounds_toArray, List.set_cons_zero, List.set_cons_succ]))
          | (fail "HTAKE 1")
        first
          | (refine take_in (i := 2) (v := ?_) rfl (by kernel_rfl) (by kernel_rfl) (by kernel_rfl) (fun _ _ _ h => h) (Or.inl ⟨by rfl, ?_⟩) (Below.refl _ _) ?_; rotate_left; (focus (intro W hSw; have C0 := C0 W hSw; have C1 := C1 W hSw; go_simp; (try rfl); done)); (try simp only [Act.put, List.setIfInBounds_toArray, List.set_cons_zero, List.set_cons_succ]))
          | (refine take_in (i := 2) (v := undef) rfl (by kernel_rfl) (by kernel_rfl) (by kernel_rfl) (fun _ _ _ h => h) (Or.inr ⟨by rfl, rfl⟩) (Below.refl _ _) ?_; (try simp only [Act.put, List.setIfInBounds_toArray, List.set_cons_zero, List.set_cons_succ]))
          | (fail "HTAKE 2")
        first
          | (refine take_in (i := 3) (v := ?_) rfl (by kernel_rfl) (by kernel_rfl) (by kernel_rfl) (fun _ _ _ h => h) (Or.inl ⟨by rfl, ?_⟩) (Below.refl _ _) ?_; rotate_left; (focus (intro W hSw; have C0 := C0 W hSw; have C1 := C1 W hSw; go_simp; (try rfl); done)); (try simp only [Act.put, List.setIfInBounds_toArray, List.set_cons_zero, List.set_cons_succ]))
          | (refine take_in (i := 3) (v := undef) rfl (by kernel_rfl) (by kernel_rfl) (by kernel_rfl) (fun _ _ _ h => h) (Or.inr ⟨by rfl, rfl⟩) (Below.refl _ _) ?_; (try simp only [Act.put, List.setIfInBounds_toArray, List.set_cons_zero, List.set_cons_succ]))
          | (fail "HTAKE 3")
        first
          | (refine take_in (i := 4) (v := ?_) rfl (by kernel_rfl) (by kernel_rfl) (by kernel_rfl) (fun _ _ _ h => h) (Or.inl ⟨by rfl, ?_⟩) (Below.refl _ _) ?_; rotate_left; (focus (intro W hSw; have C0 := C0 W hSw; have C1 := C1 W hSw; go_simp; (try rfl); done)); (try simp only [Act.put, List.setIfInBounds_toArray, List.set_cons_zero, List.set_cons_succ]))
          | (refine take_in (i := 4) (v := undef) rfl (by kernel_rfl) (by kernel_rfl) (by kernel_rfl) (fun _ _ _ h => h) (Or.inr ⟨by rfl, rfl⟩) (Below.refl _ _) ?_; (try simp only [Act.put, List.setIfInBounds_toArray, List.set_cons_zero, List.set_cons_succ]))
          | (fail "HTAKE 4")
        first
          | (refine take_in (i := 5) (v := ?_) rfl (by kernel_rfl) (by kernel_rfl) (by kernel_rfl) (fun _ _ _ h => h) (Or.inl ⟨by rfl, ?_⟩) (Below.refl _ _) ?_; rotate_left; (focus (intro W hSw; have C0 := C0 W hSw; have C1 := C1 W hSw; go_simp; (try rfl); done)); (try simp only [Act.put, List.setIfInBounds_toArray, List.set_cons_zero, List.set_cons_succ]))
          | (refine take_in (i := 5) (v := undef) rfl (by kernel_rfl) (by kernel_rfl) (by kernel_rfl) (fun _ _ _ h => h) (Or.inr ⟨by rfl, rfl⟩) (Below.refl _ _) ?_; (try simp only [Act.put, List.setIfInBounds_toArray, List.set_cons_zero, List.set_cons_succ]))
          | (fail "HTAKE 5")
        first
          | (refine take_in (i := 6) (v := ?_) rfl (by kernel_rfl) (by kernel_rfl) (by kernel_rfl) (fun _ _ _ h => h) (Or.inl ⟨by rfl, ?_⟩) (Below.refl _ _) ?_; rotate_left; (focus (intro W hSw; have C0 := C0 W hSw; have C1 := C1 W hSw; go_simp; (try rfl); done)); (try simp only [Act.put, List.setIfInBounds_toArray, List.set_cons_zero, List.set_cons_succ]))
          | (refine take_in (i := 6) (v := undef) rfl (by kernel_rfl) (by kernel_rfl) (by kernel_rfl) (fun _ _ _ h => h) (Or.inr ⟨by rfl, rfl⟩) (Below.refl _ _) ?_; (try simp only [Act.put, List.setIfInBounds_toArray, List.set_cons_zero, List.set_cons_succ]))
          | (fail "HTAKE 6")
        first
          | (refine take_in (i := 7) (v := ?_) rfl (by kernel_rfl) (by kernel_rfl) (by kernel_rfl) (fun _ _ _ h => h) (Or.inl ⟨by rfl, ?_⟩) (Below.refl _ _) ?_; rotate_left; (focus (intro W hSw; have C0 := C0 W hSw; have C1 := C1 W hSw; go_simp; (try rfl); done)); (try simp only [Act.put, List.setIfInBounds_toArray, List.set_cons_zero, List.set_cons_succ]))
          | (refine take_in (i := 7) (v := undef) rfl (by kernel_rfl) (by kernel_rfl) (by kernel_rfl) (fun _ _ _ h => h) (Or.inr ⟨by rfl, rfl⟩) (Below.refl _ _) ?_; (try simp only [Act.put, List.setIfInBounds_toArray, List.set_cons_zero, List.set_cons_succ]))
          | (fail "HTAKE 7")
        first
          | (refine take_in (i := 8) (v := ?_) rfl (by kernel_rfl) (by kernel_rfl) (by kernel_rfl) (fun _ _ _ h => h) (Or.inl ⟨by rfl, ?_⟩) (Below.refl _ _) ?_; rotate_left; (focus (intro W hSw; have C0 := C0 W hSw; have C1 := C1 W hSw; go_simp; (try rfl); done)); (try simp only [Act.put, List.setIfInBounds_toArray, List.set_cons_zero, List.set_cons_succ]))
          | (refine take_in (i := 8) (v := undef) rfl (by kernel_rfl) (by kernel_rfl) (by kernel_rfl) (fun _ _ _ h => h) (Or.inr ⟨by rfl, rfl⟩) (Below.refl _ _) ?_; (try simp only [Act.put, List.setIfInBounds_toArray, List.set_cons_zero, List.set_cons_succ]))
          | (fail "HTAKE 8")
        first
          | (refine take_in (i := 9) (v := ?_) rfl (by kernel_rfl) (by kernel_rfl) (by kernel_rfl) (fun _ _ _ h => h) (Or.inl ⟨by rfl, ?_⟩) (Below.refl _ _) ?_; rotate_left; (focus (intro W hSw; have C0 := C0 W hSw; have C1 := C1 W hSw; go_simp; (try rfl); done)); (try simp only [Act.put, List.setIfInBounds_toArray, List.set_cons_zero, List.set_cons_succ]))
          | (refine take_in (i := 9) (v := undef) rfl (by kernel_rfl) (by kernel_rfl) (by kernel_rfl) (fun _ _ _ h => h) (Or.inr ⟨by rfl, rfl⟩) (Below.refl _ _) ?_; (try simp only [Act.put, List.setIfInBounds_toArray, List.set_cons_zero, List.set_cons_succ]))
          | (fail "HTAKE 9")
        refine wpAnyH_done (by kernel_rfl) ?_ _
        go_wp2_with fail
        refine region_inU 21 (fun W : World => W.heap[b2]? = some (.cells #[.int .i64 room, .slice A2 l2.length cap2] 29 (0, 0)) ∧ W.heap[wr.heap.size]? = some (.cells #[.int .i64 pt, .int .i64 pf, .slice pA pd.length pc] 37 (0, 0))) (by kernel_rfl) (fun y1 hy1 heq => ?_)
        have HBY := Lib.hid (HBX.out.trans (hy1.mono HBX.out.size))
        have HPB2 := Lib.hid (blk_below HPB.out hy1 (blk_lt HPB.out))
        have hHeld : (fun W : World => W.heap[b2]? = some (.cells #[.int .i64 room, .slice A2 l2.length cap2] 29 (0, 0)) ∧ W.heap[wr.heap.size]? = some (.cells #[.int .i64 pt, .int .i64 pf, .slice pA pd.length pc] 37 (0, 0))) y1 := ⟨(HX2.out.below HBY.out).1, HPB2.out⟩
        have F1 : ∀ W : World, (fun W : World => W.heap[b2]? = some (.cells #[.int .i64 room, .slice A2 l2.length cap2] 29 (0, 0)) ∧ W.heap[wr.heap.size]? = some (.cells #[.int .i64 pt, .int .i64 pf, .slice pA pd.length pc] 37 (0, 0))) W → W.cell? ⟨b2, 1, none⟩ = some (.slice A2 l2.length cap2) := fun W hW => blk_at hW.1 1 _ rfl
        clear hy1 heq
        first
          | (refine takeT (i := 0) (v := ?_) rfl (by kernel_rfl) (by kernel_rfl) (by kernel_rfl) (fun _ _ _ h => h) (by kernel_rfl) (Or.inl ⟨by rfl, ?_⟩) (fun _ => hHeld) ?_; rotate_left; (focus (intro W hSw; go_simp; (try rfl); done)); (try simp only [Act.put, List.setIfInBounds_toArray, List.set_cons_zero, List.set_cons_succ]))
          | (fail "UTAKE 0")
        first
          | (refine takeT (i := 1) (v := ?_) rfl (by kernel_rfl) (by kernel_rfl) (by kernel_rfl) (fun _ _ _ h => h) (by kernel_rfl) (Or.inl ⟨by rfl, ?_⟩) (fun _ => hHeld) ?_; rotate_left; (focus (intro W hSw; go_simp; (try rfl); done)); (try simp only [Act.put, List.setIfInBounds_toArray, List.set_cons_zero, List.set_cons_succ]))
          | (fail "UTAKE 1")
        first
          | (refine takeT (i := 2) (v := ?_) rfl (by kernel_rfl) (by kernel_rfl) (by kernel_rfl) (fun _ _ _ h => h) (by kernel_rfl) (Or.inl ⟨by rfl, ?_⟩) (fun _ => hHeld) ?_; rotate_left; (focus (intro W hSw; go_simp; (try rfl); done)); (try simp only [Act.put, List.setIfInBounds_toArray, List.set_cons_zero, List.set_cons_succ]))
          | (fail "UTAKE 2")
        first
          | (refine takeT (i := 3) (v := ?_) rfl (by kernel_rfl) (by kernel_rfl) (by kernel_rfl) (fun _ _ _ h => h) (by kernel_rfl) (Or.inl ⟨by rfl, ?_⟩) (fun _ => hHeld) ?_; rotate_left; (focus (intro W hSw; go_simp; (try rfl); done)); (try simp only [Act.put, List.setIfInBounds_toArray, List.set_cons_zero, List.set_cons_succ]))
          | (fail "UTAKE 3")
        first
          | (refine takeU (i := 4) (v := ?_) rfl (by kernel_rfl) (by kernel_rfl) (by kernel_rfl) (fun _ _ _ h => h) (by kernel_rfl) (by kernel_rfl) (by kernel_rfl) (Or.inl ⟨by rfl, ?_⟩) hHeld ?_; rotate_left; (focus (intro W hSw; have F1 := F1 W hSw; (try dsimp only at hSw); go_simp; (try rfl); done)); (try simp only [Act.put, List.setIfInBounds_toArray, List.set_cons_zero, List.set_cons_succ]))
          | (fail "UTAKE 4")
        first
          | (refine takeT (i := 5) (v := ?_) rfl (by kernel_rfl) (by kernel_rfl) (by kernel_rfl) (fun _ _ _ h => h) (by kernel_rfl) (Or.inl ⟨by rfl, ?_⟩) (fun _ => hHeld) ?_; rotate_left; (focus (intro W hSw; go_simp; (try rfl); done)); (try simp only [Act.put, List.setIfInBounds_toArray, List.set_cons_zero, List.set_cons_succ]))
          | (fail "UTAKE 5")
        first
          | (refine takeT (i := 6) (v := ?_) rfl (by kernel_rfl) (by kernel_rfl) (by kernel_rfl) (fun _ _ _ h => h) (by kernel_rfl) (Or.inl ⟨by rfl, ?_⟩) (fun _ => hHeld) ?_; rotate_left; (focus (intro W hSw; go_simp; (try rfl); done)); (try simp only [Act.put, List.setIfInBounds_toArray, List.set_cons_zero, List.set_cons_succ]))
          | (fail "UTAKE 6")
        first
          | (refine takeT (i := 7) (v := ?_) rfl (by kernel_rfl) (by kernel_rfl) (by kernel_rfl) (fun _ _ _ h => h) (by kernel_rfl) (Or.inl ⟨by rfl, ?_⟩) (fun _ => hHeld) ?_; rotate_left; (focus (intro W hSw; go_simp; (try rfl); done)); (try simp only [Act.put, List.setIfInBounds_toArray, List.set_cons_zero, List.set_cons_succ]))
          | (fail "UTAKE 7")
        first
          | (refine takeU (i := 8) (v := ?_) rfl (by kernel_rfl) (by kernel_rfl) (by kernel_rfl) (fun _ _ _ h => h) (by kernel_rfl) (by kernel_rfl) (by kernel_rfl) (Or.inl ⟨by rfl, ?_⟩) hHeld ?_; rotate_left; (focus (intro W hSw; have F1 := F1 W hSw; (try dsimp only at hSw); go_simp; (try rfl); done)); (try simp only [Act.put, List.setIfInBounds_toArray, List.set_cons_zero, List.set_cons_succ]))
          | (fail "UTAKE 8")
        first
          | (refine takeT (i := 9) (v := ?_) rfl (by kernel_rfl) (by kernel_rfl) (by kernel_rfl) (fun _ _ _ h => h) (by kernel_rfl) (Or.inl ⟨by rfl, ?_⟩) (fun _ => hHeld) ?_; rotate_left; (focus (intro W hSw; go_simp; (try rfl); done)); (try simp only [Act.put, List.setIfInBounds_toArray, List.set_cons_zero, List.set_cons_succ]))
          | (fail "UTAKE 9")
        first
          | (refine takeT (i := 10) (v := ?_) rfl (by kernel_rfl) (by kernel_rfl) (by kernel_rfl) (fun _ _ _ h => h) (by kernel_rfl) (Or.inl ⟨by rfl, ?_⟩) (fun _ => hHeld) ?_; rotate_left; (focus (intro W hSw; go_simp; (try rfl); done)); (try simp only [Act.put, List.setIfInBounds_toArray, List.set_cons_zero, List.set_cons_succ]))
          | (fail "UTAKE 10")
        first
          | (refine takeT (i := 11) (v := ?_) rfl (by kernel_rfl) (by kernel_rfl) (by kernel_rfl) (fun _ _ _ h => h) (by kernel_rfl) (Or.inl ⟨by rfl, ?_⟩) (fun _ => hHeld) ?_; rotate_left; (focus (intro W hSw; go_simp; (try rfl); done)); (try simp only [Act.put, List.setIfInBounds_toArray, List.set_cons_zero, List.set_cons_succ]))
          | (fail "UTAKE 11")
        first
          | (refine takeT (i := 12) (v := ?_) rfl (by kernel_rfl) (by kernel_rfl) (by kernel_rfl) (fun _ _ _ h => h) (by kernel_rfl) (Or.inl ⟨by rfl, ?_⟩) (fun _ => hHeld) ?_; rotate_left; (focus (intro W hSw; go_simp; (try rfl); done)); (try simp only [Act.put, List.setIfInBounds_toArray, List.set_cons_zero, List.set_cons_succ]))
          | (fail "UTAKE 12")
        first
          | (refine takeU (i := 13) (v := ?_) rfl (by kernel_rfl) (by kernel_rfl) (by kernel_rfl) (fun _ _ _ h => h) (by kernel_rfl) (by kernel_rfl) (by kernel_rfl) (Or.inl ⟨by rfl, ?_⟩) hHeld ?_; rotate_left; (focus (intro W hSw; have F1 := F1 W hSw; (try dsimp only at hSw); go_simp; (try rfl); done)); (try simp only [Act.put, List.setIfInBounds_toArray, List.set_cons_zero, List.set_cons_succ]))
          | (fail "UTAKE 13")
        first
          | (refine takeT (i := 14) (v := ?_) rfl (by kernel_rfl) (by kernel_rfl) (by kernel_rfl) (fun _ _ _ h => h) (by kernel_rfl) (Or.inl ⟨by rfl, ?_⟩) (fun _ => hHeld) ?_; rotate_left; (focus (intro W hSw; go_simp; (try rfl); done)); (try simp only [Act.put, List.setIfInBounds_toArray, List.set_cons_zero, List.set_cons_succ]))
          | (fail "UTAKE 14")
        refine takeT (i := 15) (v := _) rfl (by kernel_rfl) (by kernel_rfl) (by kernel_rfl) (fun _ _ _ h => h) (by kernel_rfl) (yields_to (by rfl) l2.length (.tmp 28) (.tmp 33) (.tmp 38) rfl rfl rfl rfl Try.underlying27 (by kernel_rfl : (Try.prog.info? 37).map (·.size) = some 3) (by omega)) (fun _ => hHeld) ?_
        (try simp only [Act.put, List.setIfInBounds_toArray, List.set_cons_zero, List.set_cons_succ])
        refine takeU (i := 16) (v := _) rfl (by kernel_rfl) (by kernel_rfl) (by kernel_rfl) (fun _ _ _ h => h) (by kernel_rfl) (by kernel_rfl) (by kernel_rfl) (yields_load (by rfl) 37 (.tmp 7) rfl ⟨wr.heap.size, 0, none⟩ rfl _ _ (fun W hW => At.blk hW.2) Try.underlying37 rfl rfl) hHeld ?_
        (try simp only [Act.put, List.setIfInBounds_toArray, List.set_cons_zero, List.set_cons_succ])
        refine callU (i := 17) rfl (by kernel_rfl) (by kernel_rfl) (fun K hK => ?_)
        clear hHeld
        refine wpo_lit1 (cs := [.int .i64 pt, .int .i64 pf, .slice pA pd.length pc]) (.tmp 40) rfl rfl Try.underlying27 info_pkt rfl (by decide) (by decide) rfl ?_
        obtain ⟨y3, hy3⟩ : ∃ y3, y1.alloc (.cells [.int .i64 pt, .int .i64 pf, .slice pA pd.length pc].toArray 37) = y3 := ⟨_, rfl⟩
        have hb23 : Below y1.heap.size y1 y3 := by rw [← hy3]; exact below_alloc1 y1 _
        have hl3 : y3.heap[y1.heap.size]? = some (.cells [.int .i64 pt, .int .i64 pf, .slice pA pd.length pc].toArray 37 (0, 0)) := by rw [← hy3]; exact heap_alloc_new y1 _
        rw [hy3]
        have HBY3 := Lib.hid (HBY.out.trans (hb23.mono HBY.out.size))
        have HF3 := Lib.hid (show (fun W : World => W.heap[b2]? = some (.cells #[.int .i64 room, .slice A2 l2.length cap2] 29 (0, 0)) ∧ W.heap[wr.heap.size]? = some (.cells #[.int .i64 pt, .int .i64 pf, .slice pA pd.length pc] 37 (0, 0))) y3 from ⟨(HX2.out.below HBY3.out).1, blk_below HPB2.out hb23 (blk_lt HPB2.out)⟩)
        have HL3 := Lib.hid (At.blk hl3)
        have hcl := (HRow.out.2.below HBY3.out).cells
        obtain ⟨xs, hxs, hxa⟩ := hcl
        have HXS := Lib.hid (And.intro hxs hxa)
        clear hb23 hl3 hy3 hxs hxa
        have hHeld := HF3.out
        refine hK.out (fun W : World => W.heap[b2]? = some (.cells #[.int .i64 room, .slice A2 l2.length cap2] 29 (0, 0)) ∧ W.heap[wr.heap.size]? = some (.cells #[.int .i64 pt, .int .i64 pf, .slice pA pd.length pc] 37 (0, 0))) _ _ (fun _ => hHeld) (fun _ h => h) ?_
        (try simp only [Act.put, List.setIfInBounds_toArray, List.set_cons_zero, List.set_cons_succ])
        refine callU (i := 18) rfl (by kernel_rfl) (by kernel_rfl) (fun K hK => ?_)
        clear hHeld
        refine wpo_appG (ok := ok) (m := 1) (A := A2) (B := some ⟨y1.heap.size, 0, none⟩) (l := l2) (r := [(pt, pf, pd, ())]) (xs := xs) (ys := [.int .i64 pt, .int .i64 pf, .slice pA pd.length pc]) (.tmp 39) (.tmp 41) rfl rfl rfl (fun e => ⟨by have := HRow.out.1 e; omega, by have := HRow.out.1 e; omega⟩) (fun ad' e => (HXS.out.2 ad' e).2) HXS.out.1 rfl (fun ad' e => by cases e; exact HL3.out) (fun e => by cases e) (RdL.single (HPD.out.below HBY3.out)) rfl (Nat.le_refl _) (by omega) Try.underlying27 info_pkt rfl (by decide) (by omega) (by omega) ?_
        intro v5 y5 ho5 hg5
        have hb5 := (Below.refl _ _).grown hg5 (Nat.le_refl _) (fun k e => by cases e)
        have HBY5 := Lib.hid (HBY3.out.trans (hb5.mono HBY3.out.size))
        have HF5 := Lib.hid (show (fun W : World => W.heap[b2]? = some (.cells #[.int .i64 room, .slice A2 l2.length cap2] 29 (0, 0)) ∧ W.heap[wr.heap.size]? = some (.cells #[.int .i64 pt, .int .i64 pf, .slice pA pd.length pc] 37 (0, 0))) y5 from ⟨(HX2.out.below HBY5.out).1, blk_below HF3.out.2 hb5 (blk_lt HF3.out.2)⟩)
        have HO5 := Lib.hid (x_set HX2.out HOk2.out HBY5.out ho5 HBY3.out.size (by simp; omega))
        obtain ⟨A5, c5, rfl, _⟩ := OwnG.rows ho5
        rw [List.length_append] at HO5
        clear ho5 hb5 hg5
        have hHeld := HF5.out
        refine hK.out (fun W : World => W.heap[b2]? = some (.cells #[.int .i64 room, .slice A2 l2.length cap2] 29 (0, 0)) ∧ W.heap[wr.heap.size]? = some (.cells #[.int .i64 pt, .int .i64 pf, .slice pA pd.length pc] 37 (0, 0))) _ _ (fun _ => hHeld) (fun _ h => h) ?_
        (try simp only [Act.put, List.setIfInBounds_toArray, List.set_cons_zero, List.set_cons_succ])
        first
          | (refine takeT (i := 19) (v := ?_) rfl (by kernel_rfl) (by kernel_rfl) (by kernel_rfl) (fun _ _ _ h => h) (by kernel_rfl) (Or.inl ⟨by rfl, ?_⟩) (fun _ => hHeld) ?_; rotate_left; (focus (intro W hSw; go_simp; (try rfl); done)); (try simp only [Act.put, List.setIfInBounds_toArray, List.set_cons_zero, List.set_cons_succ]))
          | (fail "UTAKE 19")
        first
          | (refine takeT (i := 20) (v := ?_) rfl (by kernel_rfl) (by kernel_rfl) (by kernel_rfl) (fun _ _ _ h => h) (by kernel_rfl) (Or.inl ⟨by rfl, ?_⟩) (fun _ => hHeld) ?_; rotate_left; (focus (intro W hSw; go_simp; (try rfl); done)); (try simp only [Act.put, List.setIfInBounds_toArray, List.set_cons_zero, List.set_cons_succ]))
          | (fail "UTAKE 20")
        have k1 := blk_at HF5.out.1 1 _ rfl
        have f1 := blk_free HF5.out.1 1
        refine callU (i := 21) rfl (by kernel_rfl) (by kernel_rfl) (fun K hK => ?_)
        (try clear hHeld)
        go_simp
        refine hK.out _ _ _ (offU (by kernel_rfl)) (fun _ h => h) ?_
        (try simp only [Act.put, List.setIfInBounds_toArray, List.set_cons_zero, List.set_cons_succ])
        refine doneU (by kernel_rfl) ?_ _
        go_wp2_with fail
        go_roundw
        case measure => simp [intOf]; omega
        case rel => exact ⟨i + 1, k + 1, _, by omega, by go_num, by go_num, HX3.out, by omega, by simp; omega, XTo.trans HT2.out HO5.out⟩
      · have HX3 := Lib.hid (show sendL room l (L.take (i + 1)) = (l2, k) by rw [HX.out]; unfold sendF; rw [if_neg hroom])
        refine region_in (by kernel_rfl) (fun x1 hx1 => ?_)
        have hbx := HBw1.out.trans (hx1.mono HBw1.out.size)
        have C0 : ∀ W, Below x1.heap.size x1 W → W.cell? ⟨b2, 0, none⟩ = some (.int .i64 room) := fun W hW => Q1 W (hbx.trans (hW.mono hbx.size))
        have C1 : ∀ W, Below x1.heap.size x1 W → W.cell? ⟨b2, 1, none⟩ = some (.slice A2 l2.length cap2) := fun W hW => Q2 W (hbx.trans (hW.mono hbx.size))
        have HBX := Lib.hid hbx
        clear hbx hx1
        first
          | (refine take_in (i := 0) (v := ?_) rfl (by kernel_rfl) (by kernel_rfl) (by kernel_rfl) (fun _ _ _ h => h) (Or.inl ⟨by rfl, ?_⟩) (Below.refl _ _) ?_; rotate_left; (focus (intro W hSw; have C0 := C0 W hSw; have C1 := C1 W hSw; go_simp; (try rfl); done)); (try simp only [Act.put, List.setIfInBounds_toArray, List.set_cons_zero, List.set_cons_succ]))
          | (refine take_in (i := 0) (v := undef) rfl (by kernel_rfl) (by kernel_rfl) (by kernel_rfl) (fun _ _ _ h => h) (Or.inr ⟨by rfl, rfl⟩) (Below.refl _ _) ?_; (try simp only [Act.put, List.setIfInBounds_toArray, List.set_cons_zero, List.set_cons_succ]))
          | (fail "HTAKE 0")
        first
          | (refine take_in (i := 1) (v := ?_) rfl (by kernel_rfl) (by kernel_rfl) (by kernel_rfl) (fun _ _ _ h => h) (Or.inl ⟨by rfl, ?_⟩) (Below.refl _ _) ?_; rotate_left; (focus (intro W hSw; have C0 := C0 W hSw; have C1 := C1 W hSw; go_simp; (try rfl); done)); (try simp only [Act.put, List.setIfInBounds_toArray, List.set_cons_zero, List.set_cons_succ]))
          | (refine take_in (i := 1) (v := undef) rfl (by kernel_rfl) (by kernel_rfl) (by kernel_rfl) (fun _ _ _ h => h) (Or.inr ⟨by rfl, rfl⟩) (Below.refl _ _) ?_; (try simp only [Act.put, List.setIfInBounds_toArray, List.set_cons_zero, List.set_cons_succ]))
          | (fail "HTAKE 1")
        first
          | (refine take_in (i := 2) (v := ?_) rfl (by kernel_rfl) (by kernel_rfl) (by kernel_rfl) (fun _ _ _ h => h) (Or.inl ⟨by rfl, ?_⟩) (Below.refl _ _) ?_; rotate_left; (focus (intro W hSw; have C0 := C0 W hSw; have C1 := C1 W hSw; go_simp; (try rfl); done)); (try simp only [Act.put, List.setIfInBounds_toArray, List.set_cons_zero, List.set_cons_succ]))
          | (refine take_in (i := 2) (v := undef) rfl (by kernel_rfl) (by kernel_rfl) (by kernel_rfl) (fun _ _ _ h => h) (Or.inr ⟨by rfl, rfl⟩) (Below.refl _ _) ?_; (try simp only [Act.put, List.setIfInBounds_toArray, List.set_cons_zero, List.set_cons_succ]))
          | (fail "HTAKE 2")
        first
          | (refine take_in (i := 3) (v := ?_) rfl (by kernel_rfl) (by kernel_rfl) (by kernel_rfl) (fun _ _ _ h => h) (Or.inl ⟨by rfl, ?_⟩) (Below.refl _ _) ?_; rotate_left; (focus (intro W hSw; have C0 := C0 W hSw; have C1 := C1 W hSw; go_simp; (try rfl); done)); (try simp only [Act.put, List.setIfInBounds_toArray, List.set_cons_zero, List.set_cons_succ]))
          | (refine take_in (i := 3) (v := undef) rfl (by kernel_rfl) (by kernel_rfl) (by kernel_rfl) (fun _ _ _ h => h) (Or.inr ⟨by rfl, rfl⟩) (Below.refl _ _) ?_; (try simp only [Act.put, List.setIfInBounds_toArray, List.set_cons_zero, List.set_cons_succ]))
          | (fail "HTAKE 3")
        first
          | (refine take_in (i := 4) (v := ?_) rfl (by kernel_rfl) (by kernel_rfl) (by kernel_rfl) (fun _ _ _ h => h) (Or.inl ⟨by rfl, ?_⟩) (Below.refl _ _) ?_; rotate_left; (focus (intro W hSw; have C0 := C0 W hSw; have C1 := C1 W hSw; go_simp; (try rfl); done)); (try simp only [Act.put, List.setIfInBounds_toArray, List.set_cons_zero, List.set_cons_succ]))
          | (refine take_in (i := 4) (v := undef) rfl (by kernel_rfl) (by kernel_rfl) (by kernel_rfl) (fun _ _ _ h => h) (Or.inr ⟨by rfl, rfl⟩) (Below.refl _ _) ?_; (try simp only [Act.put, List.setIfInBounds_toArray, List.set_cons_zero, List.set_cons_succ]))
          | (fail "HTAKE 4")
        first
          | (refine take_in (i := 5) (v := ?_) rfl (by kernel_rfl) (by kernel_rfl) (by kernel_rfl) (fun _ _ _ h => h) (Or.inl ⟨by rfl, ?_⟩) (Below.refl _ _) ?_; rotate_left; (focus (intro W hSw; have C0 := C0 W hSw; have C1 := C1 W hSw; go_simp; (try rfl); done)); (try simp only [Act.put, List.setIfInBounds_toArray, List.set_cons_zero, List.set_cons_succ]))
          | (refine take_in (i := 5) (v := undef) rfl (by kernel_rfl) (by kernel_rfl) (by kernel_rfl) (fun _ _ _ h => h) (Or.inr ⟨by rfl, rfl⟩) (Below.refl _ _) ?_; (try simp only [Act.put, List.setIfInBounds_toArray, List.set_cons_zero, List.set_cons_succ]))
          | (fail "HTAKE 5")
        first
          | (refine take_in (i := 6) (v := ?_) rfl (by kernel_rfl) (by kernel_rfl) (by kernel_rfl) (fun _ _ _ h => h) (Or.inl ⟨by rfl, ?_⟩) (Below.refl _ _) ?_; rotate_left; (focus (intro W hSw; have C0 := C0 W hSw; have C1 := C1 W hSw; go_simp; (try rfl); done)); (try simp only [Act.put, List.setIfInBounds_toArray, List.set_cons_zero, List.set_cons_succ]))
          | (refine take_in (i := 6) (v := undef) rfl (by kernel_rfl) (by kernel_rfl) (by kernel_rfl) (fun _ _ _ h => h) (Or.inr ⟨by rfl, rfl⟩) (Below.refl _ _) ?_; (try simp only [Act.put, List.setIfInBounds_toArray, List.set_cons_zero, List.set_cons_succ]))
          | (fail "HTAKE 6")
        first
          | (refine take_in (i := 7) (v := ?_) rfl (by kernel_rfl) (by kernel_rfl) (by kernel_rfl) (fun _ _ _ h => h) (Or.inl ⟨by rfl, ?_⟩) (Below.refl _ _) ?_; rotate_left; (focus (intro W hSw; have C0 := C0 W hSw; have C1 := C1 W hSw; go_simp; (try rfl); done)); (try simp only [Act.put, List.setIfInBounds_toArray, List.set_cons_zero, List.set_cons_succ]))
          | (refine take_in (i := 7) (v := undef) rfl (by kernel_rfl) (by kernel_rfl) (by kernel_rfl) (fun _ _ _ h => h) (Or.inr ⟨by rfl, rfl⟩) (Below.refl _ _) ?_; (try simp only [Act.put, List.setIfInBounds_toArray, List.set_cons_zero, List.set_cons_succ]))
          | (fail "HTAKE 7")
        first
          | (refine take_in (i := 8) (v := ?_) rfl (by kernel_rfl) (by kernel_rfl) (by kernel_rfl) (fun _ _ _ h => h) (Or.inl ⟨by rfl, ?_⟩) (Below.refl _ _) ?_; rotate_left; (focus (intro W hSw; have C0 := C0 W hSw; have C1 := C1 W hSw; go_simp; (try rfl); done)); (try simp only [Act.put, List.setIfInBounds_toArray, List.set_cons_zero, List.set_cons_succ]))
          | (refine take_in (i := 8) (v := undef) rfl (by kernel_rfl) (by kernel_rfl) (by kernel_rfl) (fun _ _ _ h => h) (Or.inr ⟨by rfl, rfl⟩) (Below.refl _ _) ?_; (try simp only [Act.put, List.setIfInBounds_toArray, List.set_cons_zero, List.set_cons_succ]))
          | (fail "HTAKE 8")
        first
          | (refine take_in (i := 9) (v := ?_) rfl (by kernel_rfl) (by kernel_rfl) (by kernel_rfl) (fun _ _ _ h => h) (Or.inl ⟨by rfl, ?_⟩) (Below.refl _ _) ?_; rotate_left; (focus (intro W hSw; have C0 := C0 W hSw; have C1 := C1 W hSw; go_simp; (try rfl); done)); (try simp only [Act.put, List.setIfInBounds_toArray, List.set_cons_zero, List.set_cons_succ]))
          | (refine take_in (i := 9) (v := undef) rfl (by kernel_rfl) (by kernel_rfl) (by kernel_rfl) (fun _ _ _ h => h) (Or.inr ⟨by rfl, rfl⟩) (Below.refl _ _) ?_; (try simp only [Act.put, List.setIfInBounds_toArray, List.set_cons_zero, List.set_cons_succ]))
          | (fail "HTAKE 9")
        refine wpAnyH_done (by kernel_rfl) ?_ _
        have hge : room ≤ (l2.length : Int) := by omega
        go_wp2_with fail
        go_roundw
        case measure => simp [intOf]; omega
        case rel => exact ⟨i + 1, k, l2, by omega, by go_num, rfl, HX3.out, by omega, by omega, XTo.trans HT2.out ⟨_, HX2.out.below HBX.out, Turn.of_below HBX.out⟩⟩
    · obtain rfl : i = n := by omega
      have HE := Lib.hid (show sendL room l L = (l2, k) by rw [← HS.out, List.take_of_length_le (by have := HNL.out; omega)])
      go_wp2_with fail
      go_ret
      refine ⟨by rw [HE.out]; rfl, ?_⟩
      rw [HE.out]
      exact ⟨xv2, HX2.out, HT2.out⟩
set_option maxRecDepth 20000 in
theorem rplace_eq {n : Nat} {i : Int} (h0 : 0 < n) : (if i.tmod n < 0 then i.tmod n + n else i.tmod n) = i % n := by
  have h1 : -(n : Int) < i.tmod n := by have := Int.lt_tmod_of_pos i (show (0 : Int) < n by omega); omega
  have h2 : i.tmod n < n := Int.tmod_lt_of_pos i (by omega)
  have h3 : (i.tmod n) % n = i % n := by rw [Int.tmod_def, Int.sub_mul_emod_self_left]
  split
  · rw [← h3, ← Int.add_emod_right, Int.emod_eq_of_lt (by omega) (by omega)]
  · rw [← h3, Int.emod_eq_of_lt (by omega) (by omega)]
set_option maxRecDepth 20000 in
theorem rplace_any (w : World) (b2 : Nat) (ok : Nat → Prop) (room : Int) (xv : Value) (l : List PKT.Ty) (i : Int) (hX : XR w b2 ok room xv l) (hi : -9223372036854775808 ≤ i ∧ i < 9223372036854775808) :
    Calls Try.prog 40 #[.pointer (some ⟨b2, 0, none⟩), .int .i64 i] w fun e w' => e = .returned (.int .i64 (placeZ l.length i)) ∧ w = w' := by
  obtain ⟨A2, cap2, rfl, _⟩ := hX.form
  have h1 := hX.1
  have hl := hX.2.2
  obtain ⟨q0, q1⟩ := blk2 h1
  clear hX h1 q0
  generalize l.length = n at *
  unfold placeZ
  by_cases h0 : n = 0
  · subst h0
    rw [if_pos rfl]
    go_enter Try.func40, Try.ntmps40
    go_wp2_with fail
    go_ret
    exact ⟨rfl, rfl⟩
  · rw [if_neg h0]
    have hb : ((n : Int) == 0) = false := by rw [beq_eq_false_iff_ne]; omega
    have he := rplace_eq (n := n) (i := i) (by omega)
    by_cases hneg : i.tmod n < 0
    · rw [if_pos hneg] at he
      have hlo : -(n : Int) < i.tmod n := by have := Int.lt_tmod_of_pos i (show (0 : Int) < n by omega); omega
      have HE := Lib.hid ((IntWalk.wrap64_in (i.tmod n + n) (by omega)).trans he)
      clear he hlo
      go_enter Try.func40, Try.ntmps40
      go_wp2_with fail
      go_ret
      exact ⟨ret_int HE.out, rfl⟩
    · rw [if_neg hneg] at he
      have hge : 0 ≤ i.tmod n := by omega
      have HE := Lib.hid he
      clear he hneg
      go_enter Try.func40, Try.ntmps40
      go_wp2_with fail
      go_ret
      exact ⟨ret_int HE.out, rfl⟩
end Go.Proofs.Ytapoechkbbklfaa
