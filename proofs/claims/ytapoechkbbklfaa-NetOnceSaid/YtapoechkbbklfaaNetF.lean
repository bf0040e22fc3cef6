import Derived.Test.YtapoechkbbklfaaNetE
namespace Go.Proofs.Ytapoechkbbklfaa
open Go.RowKit
set_option linter.unusedVariables false
set_option linter.unusedSimpArgs false
section
variable {P : Program} {o : Oper} {a : Act}
set_option maxRecDepth 20000 in
theorem wpG_lit1 {ops : Array Oper} {rest : List Oper} {W : World} {t e : TypeId} {cs : List Value} {z : Value} {sz bytes : Nat} {Q : Exit → Act → World → Prop} (hgd : Region.wanted o (yielded ops a.tmps) = true) (x : Operand) (ho : o.op = .buildSlice t 1 #[(0, x)]) (hx : a.eval x = .agg cs.toArray) (hu : P.underlying t = some (.slice e)) (hinfo : (P.info? e).map (fun i => (i.zero, i.size, i.bytes)) = some (some z, sz, bytes)) (hzs : z.cells.size = sz) (hsz : 0 < sz) (hsm : sz ≤ 16777216) (hs : cs.length = sz)
    (h : wpList P ops Q rest (a.put o.dst (.slice (some ⟨W.heap.size, 0, none⟩) 1 1)) (W.alloc (.cells cs.toArray e))) : wpList P ops Q (o :: rest) a W :=
  wpList_want hgd fun _ hK => wpo_lit1 x ho hx hu hinfo hzs hsz hsm hs (hK _ _ h)
end
set_option maxRecDepth 20000 in
theorem lose_any (w : World) (b1 B : Nat) (room : Int) (sv : Value) (l : List PKT.Ty) (i : Int) (hN : NetR w b1 B room sv l) (hi : -9223372036854775808 ≤ i ∧ i < 9223372036854775808) :
    Calls Try.prog 17 #[.pointer (some ⟨b1, 0, none⟩), .int .i64 i] w fun e w' => e = .returned (.bool (takeL l i).isSome) ∧ NetTo w b1 B room sv (match takeL l i with | none => l | some x => x.2) w' := by
  have HT := Lib.hid (take_any w b1 B room sv l i hN hi)
  clear hN
  cases hq : takeL l i with
  | none =>
    rw [hq] at HT
    clear hq
    go_enter Try.func17, Try.ntmps17
    go_wp2_with (go_at_call 14; refine HT.out.mono ?_; rintro e w1 ⟨rfl, hN1⟩; have HN1 := Lib.hid hN1; clear hN1)
    go_ret
    exact ⟨rfl, HN1.out.then (below_alloc1 _ _)⟩
  | some x =>
    obtain ⟨p, l'⟩ := x
    rw [hq] at HT
    clear hq
    go_enter Try.func17, Try.ntmps17
    go_wp2_with (go_at_call 14; refine HT.out.mono ?_; rintro e w1 ⟨cs, rfl, hr, hN1⟩; obtain ⟨pt, pf, pd, pA, pc, rfl, rfl, okp, hpd⟩ := rd_pkt hr; have HN1 := Lib.hid hN1; clear hN1 hr okp hpd)
    go_ret
    exact ⟨rfl, HN1.out.then (below_alloc1 _ _)⟩
def doubleL (room : Int) (l : List PKT.Ty) (i : Int) : List PKT.Ty × Bool := match l[(placeZ l.length i).toNat]? with
  | none => (l, false)
  | some p => if (l.length : Int) < room then (l ++ [p], true) else (l, false)
set_option maxRecDepth 20000 in
theorem int_one (n : Nat) : ((n : Int) == 1) = (n == 1) := by rw [Bool.eq_iff_iff]; simp; omega
set_option maxRecDepth 20000 in
theorem doubleL_nil (room i : Int) : doubleL room [] i = ([], false) := rfl
set_option maxRecDepth 20000 in
theorem doubleL_at {room : Int} {l : List PKT.Ty} {i : Int} {k : Nat} (hk : placeZ l.length i = k) (hlt : k < l.length) : doubleL room l i = ((sendL room l [l[k]]).1, (sendL room l [l[k]]).2 == 1) := by
  unfold doubleL
  rw [hk]
  simp [hlt, sendL, sendF]
  split <;> simp
set_option maxHeartbeats 4000000 in
set_option maxRecDepth 20000 in
theorem double_any (w : World) (b1 B : Nat) (room : Int) (sv : Value) (l : List PKT.Ty) (i : Int) (hN : NetR w b1 B room sv l) (hi : -9223372036854775808 ≤ i ∧ i < 9223372036854775808) (hd : ∀ p ∈ l, (dataP p).length ≤ 100000) (hlm : l.length ≤ 4000) :
    Calls Try.prog 18 #[.pointer (some ⟨b1, 0, none⟩), .int .i64 i] w fun e w' => e = .returned (.bool (doubleL room l i).2) ∧ NetTo w b1 B room sv (doubleL room l i).1 w' := by
  have HP := Lib.hid (place_any w b1 B room sv l i hN hi)
  have HN := Lib.hid hN
  by_cases h0 : l.length = 0
  · obtain rfl : l = [] := List.eq_nil_of_length_eq_zero h0
    have HP := Lib.hid (show Calls Try.prog 38 #[.pointer (some ⟨b1, 0, none⟩), .int .i64 i] w fun e w' => e = .returned (.int .i64 (-1)) ∧ w = w' from HP.out)
    rw [doubleL_nil]
    clear hN h0
    go_enter Try.func18, Try.ntmps18
    go_wp2_with (go_at_call 38; refine HP.out.mono ?_; rintro e w1 ⟨rfl, rfl⟩)
    go_ret
    exact ⟨rfl, NetTo.refl HN.out⟩
  · obtain ⟨k, hk, hpk⟩ := place_lt i h0
    rw [doubleL_at hpk hk]
    rw [hpk] at HP
    obtain ⟨A2, cap2, rfl⟩ := hN.form
    obtain ⟨A', c', e1, hnc, hcm, hA0, hA, xs, hr, hat⟩ := OwnG.rows hN.2.1
    injection e1 with e1 _ e3
    subst e1 e3
    obtain ⟨ad, rfl⟩ : ∃ ad, A2 = some ad := by
      cases A2 with
      | none => have := hA0 rfl; omega
      | some ad => exact ⟨ad, rfl⟩
    obtain ⟨cs, hcs, hrd⟩ := hr.get (List.getElem?_eq_getElem hk)
    have hrd0 := hrd
    obtain ⟨pt, pf, pd, pA, pc, hpe, rfl, okp, hpd⟩ := rd_pkt hrd
    have hdp := hd _ (List.getElem_mem hk)
    rw [hpe] at hrd0 hdp ⊢
    have HAt := Lib.hid (show At w (ad.add (k * 3)) 0 [.int .i64 pt, .int .i64 pf, .slice pA pd.length pc] from fun j v hv => by
      rw [Nat.zero_add, add_add]
      have := hat ad rfl (k * 3 + j) v (hcs j v hv)
      rwa [Nat.zero_add] at this)
    obtain ⟨w1, hw1⟩ : ∃ w1, w.alloc (.cells #[Value.int .i64 pt, Value.int .i64 pf, Value.slice pA pd.length pc] 37) = w1 := ⟨_, rfl⟩
    have hb1 : Below w.heap.size w w1 := by rw [← hw1]; exact below_alloc1 w _
    have hblk : w1.heap[w.heap.size]? = some (.cells #[Value.int .i64 pt, Value.int .i64 pf, Value.slice pA pd.length pc] 37 (0, 0)) := by rw [← hw1]; exact heap_alloc_new w _
    have HR := Lib.hid (rows_of (w := w1) (ok := fun k => k ≠ b1 ∧ (Value.slice (some ad) l.length cap2).ownBlock ≠ some k) (ad := ⟨w.heap.size, 0, none⟩) (RdL.single (hrd0.turn (w' := w1) (Turn.of_below (p := fun _ => False) hb1) (fun k _ h => ⟨id, by have := hN.2.2.1; have := h.1; omega, h.2⟩)))
      (fun _ => ⟨by have := blk_lt hN.1; show w.heap.size ≠ b1; omega, fun e => absurd (hN.own_ge e).2 (Nat.lt_irrefl _)⟩) (At.blk hblk))
    have HS := Lib.hid (send_any w1 b1 B room _ l [(pt, pf, pd, ())] _ (some ⟨w.heap.size, 0, none⟩) 1 1 (hN.below hb1) HR.out (fun k h => h) (fun p hp => by obtain rfl := List.mem_singleton.1 hp; exact hdp) (by omega))
    have HB1 := Lib.hid hb1
    have h1 := hN.1
    obtain ⟨q0, q1⟩ := blk2 h1
    have i0 : (0 : Int) ≤ (k : Int) := by omega
    have i1 : (k : Int) < (l.length : Int) := by omega
    clear hN hi hpk hA0 hA hr hat hcs hrd hrd0 okp hpd h1 q0 h0 hd hb1 hblk hdp
    go_enter Try.func18, Try.ntmps18
    go_wp2_with (first
      | (go_at_call 38; refine HP.out.mono ?_; rintro e w' ⟨rfl, rfl⟩)
      | (refine wpG_load (by rfl) 37 _ rfl _ rfl _ _ HAt.out Try.underlying37 rfl rfl ?_)
      | (refine wpG_lit1 (by rfl) (cs := [.int .i64 pt, .int .i64 pf, .slice pA pd.length pc]) (.tmp 19) rfl rfl Try.underlying27 info_pkt rfl (by decide) (by decide) rfl ?_; simp only [hw1])
      | (go_at_call 12; refine HS.out.mono ?_; rintro e w2 ⟨rfl, hN2⟩; have HN2 := Lib.hid hN2; clear hN2))
    go_ret
    exact ⟨ret_bool (int_one _), NetTo.below HB1.out HN2.out⟩
set_option maxRecDepth 20000 in
theorem place_nil (w : World) (i : Int) : Calls Try.prog 38 #[.pointer none, .int .i64 i] w fun e w' => e = .returned (.int .i64 (-1)) ∧ w = w' := by
  have HL := Lib.hid (len_nil w)
  go_enter Try.func38, Try.ntmps38
  go_wp2_with (go_at_call 21; refine HL.out.mono ?_; rintro e w1 ⟨rfl, rfl⟩)
  go_ret
  exact ⟨rfl, rfl⟩
set_option maxRecDepth 20000 in
theorem take_nil (w : World) (i : Int) : Calls Try.prog 14 #[.pointer none, .int .i64 i] w fun e w' => e = .returned (.tuple #[.agg #[Value.int .i64 0, Value.int .i64 0, Value.slice none 0 0], .bool false]) ∧ Below w.heap.size w w' := by
  have HP := Lib.hid (place_nil (w.alloc (.cells #[Value.int .i64 0, Value.int .i64 0, Value.slice none 0 0] 37)) i)
  have HX := Lib.hid (heap_alloc_new w (.cells #[Value.int .i64 0, Value.int .i64 0, Value.slice none 0 0] 37))
  go_enter Try.func14, Try.ntmps14
  go_wp2_with (first
    | (go_at_call 38; refine HP.out.mono ?_; rintro e w1 ⟨rfl, rfl⟩)
    | (refine wpL_store rfl 37 (.tmp 4) (.tmp 13) rfl w.heap.size rfl _ _ 37 rfl HX.out rfl rfl (by intro v hv; simp at hv; rcases hv with rfl | rfl | rfl <;> rfl) ?_; intro w6 hw6 hg6))
  refine bodyPost_ret (result_pair rfl _ _ w.heap.size 37 _ (0, 0) _ rfl hw6 Try.underlying37 rfl rfl) rfl ?_
  exact ⟨rfl, (below_alloc1 w _).grown hg6 (by simp) (fun k e => by injection e with e; omega)⟩
set_option maxRecDepth 20000 in
theorem lose_nil (w : World) (i : Int) : Calls Try.prog 17 #[.pointer none, .int .i64 i] w fun e w' => e = .returned (.bool false) ∧ Below w.heap.size w w' := by
  have HT := Lib.hid (take_nil w i)
  go_enter Try.func17, Try.ntmps17
  go_wp2_with (go_at_call 14; refine HT.out.mono ?_; rintro e w1 ⟨rfl, hb⟩; have HB := Lib.hid hb; clear hb)
  go_ret
  exact ⟨rfl, HB.out.trans ((below_alloc1 _ _).mono HB.out.size)⟩
set_option maxRecDepth 20000 in
theorem double_nil (w : World) (i : Int) : Calls Try.prog 18 #[.pointer none, .int .i64 i] w fun e w' => e = .returned (.bool false) ∧ w = w' := by
  have HP := Lib.hid (place_nil w i)
  go_enter Try.func18, Try.ntmps18
  go_wp2_with (go_at_call 38; refine HP.out.mono ?_; rintro e w1 ⟨rfl, rfl⟩)
  go_ret
  exact ⟨rfl, rfl⟩
set_option maxHeartbeats 1000000 in
set_option maxRecDepth 20000 in
theorem send_nil (w : World) (A : Option Addr) (n c : Nat) (L : List PKT.Ty) (hA : Rows w anyB PKT A n L) (hn : n ≤ 100000) :
    Calls Try.prog 12 #[.pointer none, .slice A n c] w fun e w' => e = .returned (.int .i64 0) ∧ Below w.heap.size w w' := by
  have HA := Lib.hid hA
  clear hA
  go_enter Try.func12, Try.ntmps12
  go_wp2_with fail
  go_loopw [5, 10] (fun s5 s10 wr => ∃ (i : Nat), i ≤ n ∧ s10 = .int .i64 i ∧ s5 = .int .i64 0 ∧ Below w.heap.size w wr) (fun _ s10 _ => n - (intOf s10).toNat)
  case atStart => exact ⟨0, by omega, rfl, rfl, Below.refl _ _⟩
  case round =>
    obtain ⟨i, hi, rfl, rfl, hbel⟩ := hrel
    have HB := Lib.hid hbel
    by_cases hlt : i < n
    · have i0 : (0 : Int) ≤ (i : Int) := by omega
      have i1 : (i : Int) < (n : Int) := by omega
      obtain ⟨ad, x, cs, rfl, hx, hat, hrd⟩ := (HA.out.below hbel).get i hlt
      obtain ⟨pt, pf, pd, pA, pc, rfl, rfl, okp, hpd⟩ := rd_pkt hrd
      have HAt := Lib.hid hat
      clear hx hat hrd hpd okp hbel
      go_wp2_with (first
        | (refine wpL_load rfl 37 _ rfl _ rfl _ _ HAt.out Try.underlying37 rfl rfl ?_)
        | (refine wpL_store rfl 37 _ _ rfl wr.heap.size rfl _ _ 37 rfl (heap_alloc_new wr _) rfl rfl (by intro v hv; simp at hv; rcases hv with rfl | rfl | rfl <;> rfl) ?_
           intro w1 hc1 hg1
           have HBw1 := Lib.hid ((below_alloc1 wr _).grown hg1 (by simp) (fun k e => by cases e; exact Nat.le_refl _) : Below wr.heap.size wr w1)
           obtain ⟨c0, c1, c2⟩ := blk3 hc1
           have Hc := Lib.hid hc1
           clear hc1 hg1))
      refine region_in (by kernel_rfl) (fun x1 hx1 => ?_)
      have HBX := Lib.hid (HB.out.trans ((HBw1.out.trans (hx1.mono HBw1.out.size)).mono HB.out.size))
      clear hx1
      first
        | (refine take_in (i := 0) (v := ?_) rfl (by kernel_rfl) (by kernel_rfl) (by kernel_rfl) (fun _ _ _ h => h) (Or.inl ⟨by rfl, ?_⟩) (Below.refl _ _) ?_; rotate_left; (focus (intro W hSw; go_simp; (try rfl); done)); (try simp only [Act.put, List.setIfInBounds_toArray, List.set_cons_zero, List.set_cons_succ]))
        | (refine take_in (i := 0) (v := undef) rfl (by kernel_rfl) (by kernel_rfl) (by kernel_rfl) (fun _ _ _ h => h) (Or.inr ⟨by rfl, rfl⟩) (Below.refl _ _) ?_; (try simp only [Act.put, List.setIfInBounds_toArray, List.set_cons_zero, List.set_cons_succ]))
        | (fail "HTAKE 0")
      first
        | (refine take_in (i := 1) (v := ?_) rfl (by kernel_rfl) (by kernel_rfl) (by kernel_rfl) (fun _ _ _ h => h) (Or.inl ⟨by rfl, ?_⟩) (Below.refl _ _) ?_; rotate_left; (focus (intro W hSw; go_simp; (try rfl); done)); (try simp only [Act.put, List.setIfInBounds_toArray, List.set_cons_zero, List.set_cons_succ]))
        | (refine take_in (i := 1) (v := undef) rfl (by kernel_rfl) (by kernel_rfl) (by kernel_rfl) (fun _ _ _ h => h) (Or.inr ⟨by rfl, rfl⟩) (Below.refl _ _) ?_; (try simp only [Act.put, List.setIfInBounds_toArray, List.set_cons_zero, List.set_cons_succ]))
        | (fail "HTAKE 1")
      first
        | (refine take_in (i := 2) (v := ?_) rfl (by kernel_rfl) (by kernel_rfl) (by kernel_rfl) (fun _ _ _ h => h) (Or.inl ⟨by rfl, ?_⟩) (Below.refl _ _) ?_; rotate_left; (focus (intro W hSw; go_simp; (try rfl); done)); (try simp only [Act.put, List.setIfInBounds_toArray, List.set_cons_zero, List.set_cons_succ]))
        | (refine take_in (i := 2) (v := undef) rfl (by kernel_rfl) (by kernel_rfl) (by kernel_rfl) (fun _ _ _ h => h) (Or.inr ⟨by rfl, rfl⟩) (Below.refl _ _) ?_; (try simp only [Act.put, List.setIfInBounds_toArray, List.set_cons_zero, List.set_cons_succ]))
        | (fail "HTAKE 2")
      first
        | (refine take_in (i := 3) (v := ?_) rfl (by kernel_rfl) (by kernel_rfl) (by kernel_rfl) (fun _ _ _ h => h) (Or.inl ⟨by rfl, ?_⟩) (Below.refl _ _) ?_; rotate_left; (focus (intro W hSw; go_simp; (try rfl); done)); (try simp only [Act.put, List.setIfInBounds_toArray, List.set_cons_zero, List.set_cons_succ]))
        | (refine take_in (i := 3) (v := undef) rfl (by kernel_rfl) (by kernel_rfl) (by kernel_rfl) (fun _ _ _ h => h) (Or.inr ⟨by rfl, rfl⟩) (Below.refl _ _) ?_; (try simp only [Act.put, List.setIfInBounds_toArray, List.set_cons_zero, List.set_cons_succ]))
        | (fail "HTAKE 3")
      first
        | (refine take_in (i := 4) (v := ?_) rfl (by kernel_rfl) (by kernel_rfl) (by kernel_rfl) (fun _ _ _ h => h) (Or.inl ⟨by rfl, ?_⟩) (Below.refl _ _) ?_; rotate_left; (focus (intro W hSw; go_simp; (try rfl); done)); (try simp only [Act.put, List.setIfInBounds_toArray, List.set_cons_zero, List.set_cons_succ]))
        | (refine take_in (i := 4) (v := undef) rfl (by kernel_rfl) (by kernel_rfl) (by kernel_rfl) (fun _ _ _ h => h) (Or.inr ⟨by rfl, rfl⟩) (Below.refl _ _) ?_; (try simp only [Act.put, List.setIfInBounds_toArray, List.set_cons_zero, List.set_cons_succ]))
        | (fail "HTAKE 4")
      first
        | (refine take_in (i := 5) (v := ?_) rfl (by kernel_rfl) (by kernel_rfl) (by kernel_rfl) (fun _ _ _ h => h) (Or.inl ⟨by rfl, ?_⟩) (Below.refl _ _) ?_; rotate_left; (focus (intro W hSw; go_simp; (try rfl); done)); (try simp only [Act.put, List.setIfInBounds_toArray, List.set_cons_zero, List.set_cons_succ]))
        | (refine take_in (i := 5) (v := undef) rfl (by kernel_rfl) (by kernel_rfl) (by kernel_rfl) (fun _ _ _ h => h) (Or.inr ⟨by rfl, rfl⟩) (Below.refl _ _) ?_; (try simp only [Act.put, List.setIfInBounds_toArray, List.set_cons_zero, List.set_cons_succ]))
        | (fail "HTAKE 5")
      first
        | (refine take_in (i := 6) (v := ?_) rfl (by kernel_rfl) (by kernel_rfl) (by kernel_rfl) (fun _ _ _ h => h) (Or.inl ⟨by rfl, ?_⟩) (Below.refl _ _) ?_; rotate_left; (focus (intro W hSw; go_simp; (try rfl); done)); (try simp only [Act.put, List.setIfInBounds_toArray, List.set_cons_zero, List.set_cons_succ]))
        | (refine take_in (i := 6) (v := undef) rfl (by kernel_rfl) (by kernel_rfl) (by kernel_rfl) (fun _ _ _ h => h) (Or.inr ⟨by rfl, rfl⟩) (Below.refl _ _) ?_; (try simp only [Act.put, List.setIfInBounds_toArray, List.set_cons_zero, List.set_cons_succ]))
        | (fail "HTAKE 6")
      first
        | (refine take_in (i := 7) (v := ?_) rfl (by kernel_rfl) (by kernel_rfl) (by kernel_rfl) (fun _ _ _ h => h) (Or.inl ⟨by rfl, ?_⟩) (Below.refl _ _) ?_; rotate_left; (focus (intro W hSw; go_simp; (try rfl); done)); (try simp only [Act.put, List.setIfInBounds_toArray, List.set_cons_zero, List.set_cons_succ]))
        | (refine take_in (i := 7) (v := undef) rfl (by kernel_rfl) (by kernel_rfl) (by kernel_rfl) (fun _ _ _ h => h) (Or.inr ⟨by rfl, rfl⟩) (Below.refl _ _) ?_; (try simp only [Act.put, List.setIfInBounds_toArray, List.set_cons_zero, List.set_cons_succ]))
        | (fail "HTAKE 7")
      first
        | (refine take_in (i := 8) (v := ?_) rfl (by kernel_rfl) (by kernel_rfl) (by kernel_rfl) (fun _ _ _ h => h) (Or.inl ⟨by rfl, ?_⟩) (Below.refl _ _) ?_; rotate_left; (focus (intro W hSw; go_simp; (try rfl); done)); (try simp only [Act.put, List.setIfInBounds_toArray, List.set_cons_zero, List.set_cons_succ]))
        | (refine take_in (i := 8) (v := undef) rfl (by kernel_rfl) (by kernel_rfl) (by kernel_rfl) (fun _ _ _ h => h) (Or.inr ⟨by rfl, rfl⟩) (Below.refl _ _) ?_; (try simp only [Act.put, List.setIfInBounds_toArray, List.set_cons_zero, List.set_cons_succ]))
        | (fail "HTAKE 8")
      first
        | (refine take_in (i := 9) (v := ?_) rfl (by kernel_rfl) (by kernel_rfl) (by kernel_rfl) (fun _ _ _ h => h) (Or.inl ⟨by rfl, ?_⟩) (Below.refl _ _) ?_; rotate_left; (focus (intro W hSw; go_simp; (try rfl); done)); (try simp only [Act.put, List.setIfInBounds_toArray, List.set_cons_zero, List.set_cons_succ]))
        | (refine take_in (i := 9) (v := undef) rfl (by kernel_rfl) (by kernel_rfl) (by kernel_rfl) (fun _ _ _ h => h) (Or.inr ⟨by rfl, rfl⟩) (Below.refl _ _) ?_; (try simp only [Act.put, List.setIfInBounds_toArray, List.set_cons_zero, List.set_cons_succ]))
        | (fail "HTAKE 9")
      first
        | (refine take_in (i := 10) (v := ?_) rfl (by kernel_rfl) (by kernel_rfl) (by kernel_rfl) (fun _ _ _ h => h) (Or.inl ⟨by rfl, ?_⟩) (Below.refl _ _) ?_; rotate_left; (focus (intro W hSw; go_simp; (try rfl); done)); (try simp only [Act.put, List.setIfInBounds_toArray, List.set_cons_zero, List.set_cons_succ]))
        | (refine take_in (i := 10) (v := undef) rfl (by kernel_rfl) (by kernel_rfl) (by kernel_rfl) (fun _ _ _ h => h) (Or.inr ⟨by rfl, rfl⟩) (Below.refl _ _) ?_; (try simp only [Act.put, List.setIfInBounds_toArray, List.set_cons_zero, List.set_cons_succ]))
        | (fail "HTAKE 10")
      first
        | (refine take_in (i := 11) (v := ?_) rfl (by kernel_rfl) (by kernel_rfl) (by kernel_rfl) (fun _ _ _ h => h) (Or.inl ⟨by rfl, ?_⟩) (Below.refl _ _) ?_; rotate_left; (focus (intro W hSw; go_simp; (try rfl); done)); (try simp only [Act.put, List.setIfInBounds_toArray, List.set_cons_zero, List.set_cons_succ]))
        | (refine take_in (i := 11) (v := undef) rfl (by kernel_rfl) (by kernel_rfl) (by kernel_rfl) (fun _ _ _ h => h) (Or.inr ⟨by rfl, rfl⟩) (Below.refl _ _) ?_; (try simp only [Act.put, List.setIfInBounds_toArray, List.set_cons_zero, List.set_cons_succ]))
        | (fail "HTAKE 11")
      first
        | (refine take_in (i := 12) (v := ?_) rfl (by kernel_rfl) (by kernel_rfl) (by kernel_rfl) (fun _ _ _ h => h) (Or.inl ⟨by rfl, ?_⟩) (Below.refl _ _) ?_; rotate_left; (focus (intro W hSw; go_simp; (try rfl); done)); (try simp only [Act.put, List.setIfInBounds_toArray, List.set_cons_zero, List.set_cons_succ]))
        | (refine take_in (i := 12) (v := undef) rfl (by kernel_rfl) (by kernel_rfl) (by kernel_rfl) (fun _ _ _ h => h) (Or.inr ⟨by rfl, rfl⟩) (Below.refl _ _) ?_; (try simp only [Act.put, List.setIfInBounds_toArray, List.set_cons_zero, List.set_cons_succ]))
        | (fail "HTAKE 12")
      first
        | (refine take_in (i := 13) (v := ?_) rfl (by kernel_rfl) (by kernel_rfl) (by kernel_rfl) (fun _ _ _ h => h) (Or.inl ⟨by rfl, ?_⟩) (Below.refl _ _) ?_; rotate_left; (focus (intro W hSw; go_simp; (try rfl); done)); (try simp only [Act.put, List.setIfInBounds_toArray, List.set_cons_zero, List.set_cons_succ]))
        | (refine take_in (i := 13) (v := undef) rfl (by kernel_rfl) (by kernel_rfl) (by kernel_rfl) (fun _ _ _ h => h) (Or.inr ⟨by rfl, rfl⟩) (Below.refl _ _) ?_; (try simp only [Act.put, List.setIfInBounds_toArray, List.set_cons_zero, List.set_cons_succ]))
        | (fail "HTAKE 13")
      refine wpAnyH_done (by kernel_rfl) ?_ _
      go_wp2_with fail
      go_roundw
      case measure => simp [intOf]; omega
      case rel => exact ⟨i + 1, by omega, by go_num, rfl, HBX.out⟩
    · obtain rfl : i = n := by omega
      go_wp2_with fail
      go_ret
      exact ⟨rfl, HB.out⟩
end Go.Proofs.Ytapoechkbbklfaa
