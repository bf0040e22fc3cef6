import Derived.Test.YtnolhnlhohpkpaaRcdD
namespace Go.Proofs.Ytnolhnlhohpkpaa
open Go.RowKit Cdc
set_option linter.unusedVariables false
set_option linter.unusedSimpArgs false
attribute [local go_sem] run_store_float
set_option maxRecDepth 20000 in
theorem RfAt.grownO {w w' : World} {M g k : Nat} {s : St} (h : RfAt w M g s) (hb : w.grownBy w' (some k)) (h1 : k ≠ g) (h2 : M ≤ k) : RfAt w' M g s :=
  h.keep fun b hbm hlt => hb.block b hlt (fun e => by injection e with e; rcases hbm with h | h <;> omega)
/-- Both readers, at work on the same bytes. -/
def Both (w : World) (M g gx : Nat) (s : St) : Prop := RdAt w g s ∧ RfAt w M gx s ∧ M ≤ g ∧ g < gx ∧ s.1.length ≤ 500
set_option maxRecDepth 20000 in
theorem Both.below {w w' : World} {M g gx : Nat} {s : St} (h : Both w M g gx s) (hb : Below w.heap.size w w') : Both w' M g gx s := ⟨h.1.below hb, h.2.1.below hb, h.2.2⟩
set_option maxRecDepth 20000 in
theorem Both.step {w w1 w2 w3 : World} {M g gx : Nat} {s s' : St} (h : Both w M g gx s) (hl : s'.1.length ≤ s.1.length) (g1 : w.grownBy w1 (some g)) (h1 : RdAt w1 g s') (hb : Below w1.heap.size w1 w2) (g2 : w2.grownBy w3 (some gx)) (h2 : RfAt w3 M gx s') : Both w3 M g gx s' :=
  ⟨(h1.below hb).grown g2 h.2.2.2.1, h2, h.2.2.1, h.2.2.2.1, Nat.le_trans hl h.2.2.2.2⟩
set_option maxRecDepth 20000 in
theorem Both.mid {w w1 : World} {M g gx : Nat} {s : St} (h : Both w M g gx s) (g1 : w.grownBy w1 (some g)) : RfAt w1 M gx s := h.2.1.grownO g1 (by have := h.2.2.2.1; omega) h.2.2.1
set_option maxRecDepth 20000 in
theorem Both.frame {w w1 w2 w3 : World} {N M g gx : Nat} {s : St} (h : Both w M g gx s) (hN : N ≤ M) (g1 : w.grownBy w1 (some g)) (hb : Below w1.heap.size w1 w2) (g2 : w2.grownBy w3 (some gx)) : Below N w w3 := by
  have a1 := h.1.lt
  have a2 := h.2.2.1
  have a3 := h.2.2.2.1
  have b1 : Below N w w1 := (Below.refl _ _).grown g1 (by omega) (fun k e => by injection e; omega)
  have z1 : w.heap.size ≤ w1.heap.size := b1.size
  have b2 := b1.trans (hb.mono (by omega))
  have z2 : w.heap.size ≤ w2.heap.size := b2.size
  exact b2.grown g2 (by omega) (fun k e => by injection e; omega)
set_option maxHeartbeats 1000000 in
set_option maxRecDepth 20000 in
theorem w_CodecReads (b : Option Addr) (nb cb : Nat) (xs : List UInt8) (a : Option Addr) (na ca : Nat) (l : List PartT) (w : World) (hb : Rd w anyB (.sl .byte) xs [.slice b nb cb]) (ha : Rd w anyB (.sl PART) l [.slice a na ca]) :
    Calls Try.prog 6 #[.slice b nb cb, .slice a na ca] w fun e w' => e = .returned (.bool true) ∧ Below w.heap.size w w' := by
  have HA := Lib.hid (rd_rows ha).2.2.2
  have hna : na ≤ 9223372036854775807 := by have := rd_rows ha; omega
  have HBy := Lib.hid hb
  have hnb : xs.length = nb := (rd_rows hb).2.2.2.1
  subst hnb
  clear ha hb
  go_enter Try.func6, Try.ntmps6
  go_wp2_with fail
  refine (cdc_awake w).mono ?_
  rintro e w1 ⟨rfl, hw1⟩
  by_cases hb500 : (500 : Int) < (xs.length : Nat)
  · go_wp2_with fail
    go_ret
    exact ⟨rfl, hw1⟩
  go_wp2_with fail
  refine (few_any w1 a na ca l (HA.out.below hw1) hna).mono ?_
  rintro e w2 ⟨p, rfl, hp, hw12⟩
  have hw2 := hw1.trans (hw12.mono hw1.size)
  cases p with
  | false =>
    clear hp
    go_wp2_with fail
    go_ret
    exact ⟨rfl, hw2⟩
  | true =>
  have HF := Lib.hid (hp rfl)
  clear hp
  have h20 := HF.out.1
  go_wp2_with fail
  refine (read_any w2 b _ cb xs (HBy.out.below hw2) (by omega)).mono ?_
  rintro e w3 ⟨g, rfl, hg, hr, hw23⟩
  have HW3 := Lib.hid (hw2.trans (hw23.mono hw2.size))
  obtain ⟨q1, q2, q3, q4⟩ := rd_rows HBy.out
  have hJ : Both (w3.alloc (.cells #[.slice b xs.length cb, .bool false] 47)) w.heap.size g w3.heap.size (xs, false) :=
    ⟨hr.below (below_alloc1 _ _), ⟨b, cb, heap_alloc_new w3 _, q1, q2, q3, ((rows_bytes (by omega) q4).below HW3.out).below (below_alloc1 _ _), (fun hn ad e => by subst e; exact (rows_bytes (by omega) q4).lt hn), HW3.out.size, (fun e => by cases e)⟩, Nat.le_trans hw2.size hg, hr.lt, by show xs.length ≤ 500; omega⟩
  have HJ := Lib.hid hJ
  have HB3 := Lib.hid (HW3.out.trans ((below_alloc1 w3 (.cells #[.slice b xs.length cb, .bool false] 47)).mono HW3.out.size))
  clear hJ hr hw23 q1 q2 q3 q4
  go_wp2_with fail
  go_loopw [27] (fun s27 wr => ∃ (i : Nat) (s : St), i ≤ na ∧ s27 = .int .i64 i ∧ Both wr w.heap.size g w3.heap.size s ∧ Below w.heap.size w wr) (fun s27 _ => na - (intOf s27).toNat)
  case atStart => exact ⟨0, _, by omega, rfl, HJ.out, HB3.out⟩
  case round =>
    obtain ⟨i, s, hi, rfl, hJ, hbel⟩ := hrel
    have hl := HA.out.1
    have HB := Lib.hid hbel
    have HJ := Lib.hid hJ
    by_cases hlt : i < na
    · obtain ⟨x, hx⟩ : ∃ x, l[i]? = some x := ⟨l[i]'(by omega), List.getElem?_eq_getElem (by omega)⟩
      obtain ⟨ad, rfl⟩ : ∃ ad, a = some ad := by cases a with
        | none => exact absurd (HA.out.2.1 rfl) (by omega)
        | some ad => exact ⟨ad, rfl⟩
      obtain ⟨cs, _, hat, hrd⟩ := HA.out.2.2 ad rfl i x hx
      have i0 : (0 : Int) ≤ (i : Int) := by omega
      have i1 : (i : Int) < (na : Int) := by omega
      have HAt := Lib.hid (hat.add.below hbel)
      obtain ⟨k, nn, ii, f, bs, q, bv, rfl, rfl, hk, hok, h5⟩ := rd_part hrd
      obtain ⟨Ab, cb2, rfl, _, _, _, _⟩ := rd_bs h5
      have hbs := HF.out.2 _ (List.mem_of_getElem? hx)
      simp only at hbs
      obtain ⟨n0, n1, _, _, _⟩ := hok
      simp only at n0 n1
      obtain ⟨nn, rfl⟩ : ∃ m : Nat, nn = (m : Int) := ⟨nn.toNat, by omega⟩
      clear hat hrd hx hk h5 hJ
      by_cases k1 : k = 1
      case pos =>
       subst k1
       go_wp2_with (first
        | (refine wpL_load rfl 39 (.tmp 29) rfl _ rfl _ _ HAt.out Try.underlying39 rfl rfl ?_)
        | (refine wpL_store rfl 39 (.tmp 8) (.tmp 30) rfl wr.heap.size rfl _ _ 39 rfl (heap_alloc_new wr _) rfl rfl (by intro v hv; simp at hv; rcases hv with rfl | rfl | rfl | rfl | rfl | rfl <;> rfl) ?_
           intro w4 hc1 hg1
           have hbw1 : Below wr.heap.size wr w4 := (below_alloc1 wr _).grown hg1 (by simp) (fun k e => by cases e; exact Nat.le_refl _)
           obtain ⟨c0, c1, c2, c3, c4, c5⟩ := blk6 hc1
           have HJ4 := Lib.hid (HJ.out.below hbw1)
           have HB4 := Lib.hid (HB.out.trans (hbw1.mono HB.out.size))
           clear hc1 hg1 hbw1))
       refine region_inS (by kernel_rfl) (fun w5 hw45 heq => ?_)
       have HJ5 := Lib.hid (HJ4.out.below hw45)
       have HB5 := Lib.hid (HB4.out.trans (hw45.mono HB4.out.size))
       have hc5 : w5.cell? ⟨wr.heap.size, 1, none⟩ = some (.int .u64 nn) := (cell_below hw45 c1)
       refine region_sw (fun W => W.cell? ⟨wr.heap.size, 1, none⟩ = some (.int .u64 nn)) (fun _ _ => trivial) ?_
       have hHeld := hc5
       have hgne : some wr.heap.size ≠ some g := by have := HJ.out.1.lt; intro e; injection e; omega
       have hxne : some wr.heap.size ≠ some w3.heap.size := by have := HJ.out.2.1.lt; intro e; injection e; omega
       first
         | (refine take_in (i := 0) (v := ?_) rfl (by kernel_rfl) (by kernel_rfl) (by kernel_rfl) (fun _ _ _ h => h) (Or.inl ⟨by rfl, ?_⟩) hHeld ?_; rotate_left; (focus (intro W hSw; go_simp; (try rfl); done)); (try simp only [Act.put, List.setIfInBounds_toArray, List.set_cons_zero, List.set_cons_succ]))
         | (refine take_in (i := 0) (v := undef) rfl (by kernel_rfl) (by kernel_rfl) (by kernel_rfl) (fun _ _ _ h => h) (Or.inr ⟨by rfl, rfl⟩) hHeld ?_; (try simp only [Act.put, List.setIfInBounds_toArray, List.set_cons_zero, List.set_cons_succ]))
         | (fail "STAKE 0")
       first
         | (refine take_in (i := 1) (v := ?_) rfl (by kernel_rfl) (by kernel_rfl) (by kernel_rfl) (fun _ _ _ h => h) (Or.inl ⟨by rfl, ?_⟩) hHeld ?_; rotate_left; (focus (intro W hSw; go_simp; (try rfl); done)); (try simp only [Act.put, List.setIfInBounds_toArray, List.set_cons_zero, List.set_cons_succ]))
         | (refine take_in (i := 1) (v := undef) rfl (by kernel_rfl) (by kernel_rfl) (by kernel_rfl) (fun _ _ _ h => h) (Or.inr ⟨by rfl, rfl⟩) hHeld ?_; (try simp only [Act.put, List.setIfInBounds_toArray, List.set_cons_zero, List.set_cons_succ]))
         | (fail "STAKE 1")
       first
         | (refine take_in (i := 2) (v := ?_) rfl (by kernel_rfl) (by kernel_rfl) (by kernel_rfl) (fun _ _ _ h => h) (Or.inl ⟨by rfl, ?_⟩) hHeld ?_; rotate_left; (focus (intro W hSw; go_simp; (try rfl); done)); (try simp only [Act.put, List.setIfInBounds_toArray, List.set_cons_zero, List.set_cons_succ]))
         | (refine take_in (i := 2) (v := undef) rfl (by kernel_rfl) (by kernel_rfl) (by kernel_rfl) (fun _ _ _ h => h) (Or.inr ⟨by rfl, rfl⟩) hHeld ?_; (try simp only [Act.put, List.setIfInBounds_toArray, List.set_cons_zero, List.set_cons_succ]))
         | (fail "STAKE 2")
       first
         | (refine take_in (i := 4) (v := ?_) rfl (by kernel_rfl) (by kernel_rfl) (by kernel_rfl) (fun _ _ _ h => h) (Or.inl ⟨by rfl, ?_⟩) hHeld ?_; rotate_left; (focus (intro W hSw; go_simp; (try rfl); done)); (try simp only [Act.put, List.setIfInBounds_toArray, List.set_cons_zero, List.set_cons_succ]))
         | (refine take_in (i := 4) (v := undef) rfl (by kernel_rfl) (by kernel_rfl) (by kernel_rfl) (fun _ _ _ h => h) (Or.inr ⟨by rfl, rfl⟩) hHeld ?_; (try simp only [Act.put, List.setIfInBounds_toArray, List.set_cons_zero, List.set_cons_succ]))
         | (fail "STAKE 4")
       first
         | (refine take_in (i := 5) (v := ?_) rfl (by kernel_rfl) (by kernel_rfl) (by kernel_rfl) (fun _ _ _ h => h) (Or.inl ⟨by rfl, ?_⟩) hHeld ?_; rotate_left; (focus (intro W hSw; go_simp; (try rfl); done)); (try simp only [Act.put, List.setIfInBounds_toArray, List.set_cons_zero, List.set_cons_succ]))
         | (refine take_in (i := 5) (v := undef) rfl (by kernel_rfl) (by kernel_rfl) (by kernel_rfl) (fun _ _ _ h => h) (Or.inr ⟨by rfl, rfl⟩) hHeld ?_; (try simp only [Act.put, List.setIfInBounds_toArray, List.set_cons_zero, List.set_cons_succ]))
         | (fail "STAKE 5")
       first
         | (refine take_in (i := 6) (v := ?_) rfl (by kernel_rfl) (by kernel_rfl) (by kernel_rfl) (fun _ _ _ h => h) (Or.inl ⟨by rfl, ?_⟩) hHeld ?_; rotate_left; (focus (intro W hSw; go_simp; (try rfl); done)); (try simp only [Act.put, List.setIfInBounds_toArray, List.set_cons_zero, List.set_cons_succ]))
         | (refine take_in (i := 6) (v := undef) rfl (by kernel_rfl) (by kernel_rfl) (by kernel_rfl) (fun _ _ _ h => h) (Or.inr ⟨by rfl, rfl⟩) hHeld ?_; (try simp only [Act.put, List.setIfInBounds_toArray, List.set_cons_zero, List.set_cons_succ]))
         | (fail "STAKE 6")
       refine call_inS (i := 3) rfl (by kernel_rfl) (by kernel_rfl) (fun K hK => ?_)
       clear hHeld
       go_simp
       refine (rN_any _ _ nn s HJ5.out.1).mono ?_
       rintro e w6 ⟨rfl, hr6, hg6⟩
       have hHeld := (cell_grown hg6 hc5 hgne)
       refine hK.out (fun W => W.cell? ⟨wr.heap.size, 1, none⟩ = some (.int .u64 nn)) _ _ hHeld (fun _ h => h) ?_
       (try simp only [Act.put, List.setIfInBounds_toArray, List.set_cons_zero, List.set_cons_succ])
       refine call_inS (i := 7) rfl (by kernel_rfl) (by kernel_rfl) (fun K hK => ?_)
       clear hHeld
       go_simp
       refine (rrN_any _ _ _ nn s (HJ5.out.mid hg6)).mono ?_
       rintro e w7 ⟨rfl, hr7, hg7⟩
       have hHeld := (cell_grown hg7 (cell_grown hg6 hc5 hgne) hxne)
       refine hK.out (fun W => W.cell? ⟨wr.heap.size, 1, none⟩ = some (.int .u64 nn)) _ _ hHeld (fun _ h => h) ?_
       (try simp only [Act.put, List.setIfInBounds_toArray, List.set_cons_zero, List.set_cons_succ])
       obtain ⟨s', hs'⟩ : ∃ s', (rdN nn s).2 = s' := ⟨_, rfl⟩
       rw [hs'] at hr6 hr7
       have HJ7 := Lib.hid (HJ5.out.step (by rw [← hs']; exact rdN_len _ _) hg6 hr6 (Below.refl _ _) hg7 hr7)
       have HB7 := Lib.hid (HB5.out.trans (HJ5.out.frame (Nat.le_refl _) hg6 (Below.refl _ _) hg7))
       first
         | (refine take_in (i := 8) (v := ?_) rfl (by kernel_rfl) (by kernel_rfl) (by kernel_rfl) (fun _ _ _ h => h) (Or.inl ⟨by rfl, ?_⟩) hHeld ?_; rotate_left; (focus (intro W hSw; go_simp; (try rfl); done)); (try simp only [Act.put, List.setIfInBounds_toArray, List.set_cons_zero, List.set_cons_succ]))
         | (refine take_in (i := 8) (v := undef) rfl (by kernel_rfl) (by kernel_rfl) (by kernel_rfl) (fun _ _ _ h => h) (Or.inr ⟨by rfl, rfl⟩) hHeld ?_; (try simp only [Act.put, List.setIfInBounds_toArray, List.set_cons_zero, List.set_cons_succ]))
         | (fail "STAKE 8")
       first
         | (refine take_in (i := 9) (v := ?_) rfl (by kernel_rfl) (by kernel_rfl) (by kernel_rfl) (fun _ _ _ h => h) (Or.inl ⟨by rfl, ?_⟩) hHeld ?_; rotate_left; (focus (intro W hSw; go_simp; (try rfl); done)); (try simp only [Act.put, List.setIfInBounds_toArray, List.set_cons_zero, List.set_cons_succ]))
         | (refine take_in (i := 9) (v := undef) rfl (by kernel_rfl) (by kernel_rfl) (by kernel_rfl) (fun _ _ _ h => h) (Or.inr ⟨by rfl, rfl⟩) hHeld ?_; (try simp only [Act.put, List.setIfInBounds_toArray, List.set_cons_zero, List.set_cons_succ]))
         | (fail "STAKE 9")
       refine wpAnyH_done (by kernel_rfl) ?_ _
       go_wp2_with fail
       refine region_inS (by kernel_rfl) (fun v5 hv45 heq => ?_)
       have HJ9 := Lib.hid (HJ7.out.below hv45)
       have HB9 := Lib.hid (HB7.out.trans (hv45.mono HB7.out.size))
       have hlen9 : (if s'.2 = true then 0 else s'.1.length) = s'.1.length := by
         obtain ⟨A9, c9, _, _, _, _, _, _, _, h9⟩ := HJ9.out.2.1
         split
         · next h => rw [h9 h]; rfl
         · rfl
       obtain ⟨A9, c9, hg9, _⟩ := id HJ9.out.2.1
       have hc9 := blk_at hg9 0 _ rfl
       refine region_sw (fun W => W.cell? ⟨w3.heap.size, 0, none⟩ = some (.slice A9 s'.1.length c9)) (fun _ _ => trivial) ?_
       have hHeld := hc9
       first
         | (refine take_in (i := 0) (v := ?_) rfl (by kernel_rfl) (by kernel_rfl) (by kernel_rfl) (fun _ _ _ h => h) (Or.inl ⟨by rfl, ?_⟩) hHeld ?_; rotate_left; (focus (intro W hSw; go_simp; (try rfl); done)); (try simp only [Act.put, List.setIfInBounds_toArray, List.set_cons_zero, List.set_cons_succ]))
         | (refine take_in (i := 0) (v := undef) rfl (by kernel_rfl) (by kernel_rfl) (by kernel_rfl) (fun _ _ _ h => h) (Or.inr ⟨by rfl, rfl⟩) hHeld ?_; (try simp only [Act.put, List.setIfInBounds_toArray, List.set_cons_zero, List.set_cons_succ]))
         | (fail "STAKE 0")
       first
         | (refine take_in (i := 1) (v := ?_) rfl (by kernel_rfl) (by kernel_rfl) (by kernel_rfl) (fun _ _ _ h => h) (Or.inl ⟨by rfl, ?_⟩) hHeld ?_; rotate_left; (focus (intro W hSw; go_simp; (try rfl); done)); (try simp only [Act.put, List.setIfInBounds_toArray, List.set_cons_zero, List.set_cons_succ]))
         | (refine take_in (i := 1) (v := undef) rfl (by kernel_rfl) (by kernel_rfl) (by kernel_rfl) (fun _ _ _ h => h) (Or.inr ⟨by rfl, rfl⟩) hHeld ?_; (try simp only [Act.put, List.setIfInBounds_toArray, List.set_cons_zero, List.set_cons_succ]))
         | (fail "STAKE 1")
       first
         | (refine take_in (i := 2) (v := ?_) rfl (by kernel_rfl) (by kernel_rfl) (by kernel_rfl) (fun _ _ _ h => h) (Or.inl ⟨by rfl, ?_⟩) hHeld ?_; rotate_left; (focus (intro W hSw; go_simp; (try rfl); done)); (try simp only [Act.put, List.setIfInBounds_toArray, List.set_cons_zero, List.set_cons_succ]))
         | (refine take_in (i := 2) (v := undef) rfl (by kernel_rfl) (by kernel_rfl) (by kernel_rfl) (fun _ _ _ h => h) (Or.inr ⟨by rfl, rfl⟩) hHeld ?_; (try simp only [Act.put, List.setIfInBounds_toArray, List.set_cons_zero, List.set_cons_succ]))
         | (fail "STAKE 2")
       first
         | (refine take_in (i := 3) (v := ?_) rfl (by kernel_rfl) (by kernel_rfl) (by kernel_rfl) (fun _ _ _ h => h) (Or.inl ⟨by rfl, ?_⟩) hHeld ?_; rotate_left; (focus (intro W hSw; go_simp; (try rfl); done)); (try simp only [Act.put, List.setIfInBounds_toArray, List.set_cons_zero, List.set_cons_succ]))
         | (refine take_in (i := 3) (v := undef) rfl (by kernel_rfl) (by kernel_rfl) (by kernel_rfl) (fun _ _ _ h => h) (Or.inr ⟨by rfl, rfl⟩) hHeld ?_; (try simp only [Act.put, List.setIfInBounds_toArray, List.set_cons_zero, List.set_cons_succ]))
         | (fail "STAKE 3")
       first
         | (refine take_in (i := 5) (v := ?_) rfl (by kernel_rfl) (by kernel_rfl) (by kernel_rfl) (fun _ _ _ h => h) (Or.inl ⟨by rfl, ?_⟩) hHeld ?_; rotate_left; (focus (intro W hSw; go_simp; (try rfl); done)); (try simp only [Act.put, List.setIfInBounds_toArray, List.set_cons_zero, List.set_cons_succ]))
         | (refine take_in (i := 5) (v := undef) rfl (by kernel_rfl) (by kernel_rfl) (by kernel_rfl) (fun _ _ _ h => h) (Or.inr ⟨by rfl, rfl⟩) hHeld ?_; (try simp only [Act.put, List.setIfInBounds_toArray, List.set_cons_zero, List.set_cons_succ]))
         | (fail "STAKE 5")
       first
         | (refine take_in (i := 6) (v := ?_) rfl (by kernel_rfl) (by kernel_rfl) (by kernel_rfl) (fun _ _ _ h => h) (Or.inl ⟨by rfl, ?_⟩) hHeld ?_; rotate_left; (focus (intro W hSw; go_simp; (try rfl); done)); (try simp only [Act.put, List.setIfInBounds_toArray, List.set_cons_zero, List.set_cons_succ]))
         | (refine take_in (i := 6) (v := undef) rfl (by kernel_rfl) (by kernel_rfl) (by kernel_rfl) (fun _ _ _ h => h) (Or.inr ⟨by rfl, rfl⟩) hHeld ?_; (try simp only [Act.put, List.setIfInBounds_toArray, List.set_cons_zero, List.set_cons_succ]))
         | (fail "STAKE 6")
       first
         | (refine take_in (i := 7) (v := ?_) rfl (by kernel_rfl) (by kernel_rfl) (by kernel_rfl) (fun _ _ _ h => h) (Or.inl ⟨by rfl, ?_⟩) hHeld ?_; rotate_left; (focus (intro W hSw; go_simp; (try rfl); done)); (try simp only [Act.put, List.setIfInBounds_toArray, List.set_cons_zero, List.set_cons_succ]))
         | (refine take_in (i := 7) (v := undef) rfl (by kernel_rfl) (by kernel_rfl) (by kernel_rfl) (fun _ _ _ h => h) (Or.inr ⟨by rfl, rfl⟩) hHeld ?_; (try simp only [Act.put, List.setIfInBounds_toArray, List.set_cons_zero, List.set_cons_succ]))
         | (fail "STAKE 7")
       first
         | (refine take_in (i := 8) (v := ?_) rfl (by kernel_rfl) (by kernel_rfl) (by kernel_rfl) (fun _ _ _ h => h) (Or.inl ⟨by rfl, ?_⟩) hHeld ?_; rotate_left; (focus (intro W hSw; go_simp; (try rfl); done)); (try simp only [Act.put, List.setIfInBounds_toArray, List.set_cons_zero, List.set_cons_succ]))
         | (refine take_in (i := 8) (v := undef) rfl (by kernel_rfl) (by kernel_rfl) (by kernel_rfl) (fun _ _ _ h => h) (Or.inr ⟨by rfl, rfl⟩) hHeld ?_; (try simp only [Act.put, List.setIfInBounds_toArray, List.set_cons_zero, List.set_cons_succ]))
         | (fail "STAKE 8")
       first
         | (refine take_in (i := 9) (v := ?_) rfl (by kernel_rfl) (by kernel_rfl) (by kernel_rfl) (fun _ _ _ h => h) (Or.inl ⟨by rfl, ?_⟩) hHeld ?_; rotate_left; (focus (intro W hSw; go_simp; (try rfl); done)); (try simp only [Act.put, List.setIfInBounds_toArray, List.set_cons_zero, List.set_cons_succ]))
         | (refine take_in (i := 9) (v := undef) rfl (by kernel_rfl) (by kernel_rfl) (by kernel_rfl) (fun _ _ _ h => h) (Or.inr ⟨by rfl, rfl⟩) hHeld ?_; (try simp only [Act.put, List.setIfInBounds_toArray, List.set_cons_zero, List.set_cons_succ]))
         | (fail "STAKE 9")
       refine call_inS (i := 4) rfl (by kernel_rfl) (by kernel_rfl) (fun K hK => ?_)
       clear hHeld
       go_simp
       refine (rLeft_any _ _ _ HJ9.out.1).mono ?_
       rintro e v6 ⟨rfl, rfl⟩
       rw [hlen9]
       have hHeld := hc9
       refine hK.out (fun W => W.cell? ⟨w3.heap.size, 0, none⟩ = some (.slice A9 s'.1.length c9)) _ _ hHeld (fun _ h => h) ?_
       (try simp only [Act.put, List.setIfInBounds_toArray, List.set_cons_zero, List.set_cons_succ])
       first
         | (refine take_in (i := 10) (v := ?_) rfl (by kernel_rfl) (by kernel_rfl) (by kernel_rfl) (fun _ _ _ h => h) (Or.inl ⟨by rfl, ?_⟩) hHeld ?_; rotate_left; (focus (intro W hSw; go_simp; (try rfl); done)); (try simp only [Act.put, List.setIfInBounds_toArray, List.set_cons_zero, List.set_cons_succ]))
         | (refine take_in (i := 10) (v := undef) rfl (by kernel_rfl) (by kernel_rfl) (by kernel_rfl) (fun _ _ _ h => h) (Or.inr ⟨by rfl, rfl⟩) hHeld ?_; (try simp only [Act.put, List.setIfInBounds_toArray, List.set_cons_zero, List.set_cons_succ]))
         | (fail "STAKE 10")
       first
         | (refine take_in (i := 11) (v := ?_) rfl (by kernel_rfl) (by kernel_rfl) (by kernel_rfl) (fun _ _ _ h => h) (Or.inl ⟨by rfl, ?_⟩) hHeld ?_; rotate_left; (focus (intro W hSw; go_simp; (try rfl); done)); (try simp only [Act.put, List.setIfInBounds_toArray, List.set_cons_zero, List.set_cons_succ]))
         | (refine take_in (i := 11) (v := undef) rfl (by kernel_rfl) (by kernel_rfl) (by kernel_rfl) (fun _ _ _ h => h) (Or.inr ⟨by rfl, rfl⟩) hHeld ?_; (try simp only [Act.put, List.setIfInBounds_toArray, List.set_cons_zero, List.set_cons_succ]))
         | (fail "STAKE 11")
       refine wpAnyH_done (by kernel_rfl) ?_ _
       go_wp2_with fail
       go_roundw
       case measure => simp [intOf]; omega
       case rel => exact ⟨i + 1, s', by omega, by go_num, HJ9.out, HB9.out⟩
      by_cases k2 : k = 2
      case pos =>
       subst k2
       go_wp2_with (first
        | (refine wpL_load rfl 39 (.tmp 29) rfl _ rfl _ _ HAt.out Try.underlying39 rfl rfl ?_)
        | (refine wpL_store rfl 39 (.tmp 8) (.tmp 30) rfl wr.heap.size rfl _ _ 39 rfl (heap_alloc_new wr _) rfl rfl (by intro v hv; simp at hv; rcases hv with rfl | rfl | rfl | rfl | rfl | rfl <;> rfl) ?_
           intro w4 hc1 hg1
           have hbw1 : Below wr.heap.size wr w4 := (below_alloc1 wr _).grown hg1 (by simp) (fun k e => by cases e; exact Nat.le_refl _)
           obtain ⟨c0, c1, c2, c3, c4, c5⟩ := blk6 hc1
           have HJ4 := Lib.hid (HJ.out.below hbw1)
           have HB4 := Lib.hid (HB.out.trans (hbw1.mono HB.out.size))
           clear hc1 hg1 hbw1))
       refine (rI_any _ _ s HJ4.out.1).mono ?_
       rintro e w6 ⟨rfl, hr6, hg6⟩
       obtain ⟨s', hs'⟩ : ∃ s', (rdI s).2 = s' := ⟨_, rfl⟩
       rw [hs'] at hr6
       go_wp2_with fail
       refine (rrI_any _ _ _ s (HJ4.out.mid hg6)).mono ?_
       rintro e w7 ⟨rfl, hr7, hg7⟩
       rw [hs'] at hr7
       have HJ7 := Lib.hid (HJ4.out.step (by rw [← hs']; exact rdN_len _ _) hg6 hr6 (Below.refl _ _) hg7 hr7)
       have HB7 := Lib.hid (HB4.out.trans (HJ4.out.frame (Nat.le_refl _) hg6 (Below.refl _ _) hg7))
       go_wp2_with fail
       refine region_inS (by kernel_rfl) (fun v5 hv45 heq => ?_)
       have HJ9 := Lib.hid (HJ7.out.below hv45)
       have HB9 := Lib.hid (HB7.out.trans (hv45.mono HB7.out.size))
       have hlen9 : (if s'.2 = true then 0 else s'.1.length) = s'.1.length := by
         obtain ⟨A9, c9, _, _, _, _, _, _, _, h9⟩ := HJ9.out.2.1
         split
         · next h => rw [h9 h]; rfl
         · rfl
       obtain ⟨A9, c9, hg9, _⟩ := id HJ9.out.2.1
       have hc9 := blk_at hg9 0 _ rfl
       refine region_sw (fun W => W.cell? ⟨w3.heap.size, 0, none⟩ = some (.slice A9 s'.1.length c9)) (fun _ _ => trivial) ?_
       have hHeld := hc9
       first
         | (refine take_in (i := 0) (v := ?_) rfl (by kernel_rfl) (by kernel_rfl) (by kernel_rfl) (fun _ _ _ h => h) (Or.inl ⟨by rfl, ?_⟩) hHeld ?_; rotate_left; (focus (intro W hSw; go_simp; (try rfl); done)); (try simp only [Act.put, List.setIfInBounds_toArray, List.set_cons_zero, List.set_cons_succ]))
         | (refine take_in (i := 0) (v := undef) rfl (by kernel_rfl) (by kernel_rfl) (by kernel_rfl) (fun _ _ _ h => h) (Or.inr ⟨by rfl, rfl⟩) hHeld ?_; (try simp only [Act.put, List.setIfInBounds_toArray, List.set_cons_zero, List.set_cons_succ]))
         | (fail "STAKE 0")
       first
         | (refine take_in (i := 1) (v := ?_) rfl (by kernel_rfl) (by kernel_rfl) (by kernel_rfl) (fun _ _ _ h => h) (Or.inl ⟨by rfl, ?_⟩) hHeld ?_; rotate_left; (focus (intro W hSw; go_simp; (try rfl); done)); (try simp only [Act.put, List.setIfInBounds_toArray, List.set_cons_zero, List.set_cons_succ]))
         | (refine take_in (i := 1) (v := undef) rfl (by kernel_rfl) (by kernel_rfl) (by kernel_rfl) (fun _ _ _ h => h) (Or.inr ⟨by rfl, rfl⟩) hHeld ?_; (try simp only [Act.put, List.setIfInBounds_toArray, List.set_cons_zero, List.set_cons_succ]))
         | (fail "STAKE 1")
       first
         | (refine take_in (i := 2) (v := ?_) rfl (by kernel_rfl) (by kernel_rfl) (by kernel_rfl) (fun _ _ _ h => h) (Or.inl ⟨by rfl, ?_⟩) hHeld ?_; rotate_left; (focus (intro W hSw; go_simp; (try rfl); done)); (try simp only [Act.put, List.setIfInBounds_toArray, List.set_cons_zero, List.set_cons_succ]))
         | (refine take_in (i := 2) (v := undef) rfl (by kernel_rfl) (by kernel_rfl) (by kernel_rfl) (fun _ _ _ h => h) (Or.inr ⟨by rfl, rfl⟩) hHeld ?_; (try simp only [Act.put, List.setIfInBounds_toArray, List.set_cons_zero, List.set_cons_succ]))
         | (fail "STAKE 2")
       first
         | (refine take_in (i := 3) (v := ?_) rfl (by kernel_rfl) (by kernel_rfl) (by kernel_rfl) (fun _ _ _ h => h) (Or.inl ⟨by rfl, ?_⟩) hHeld ?_; rotate_left; (focus (intro W hSw; go_simp; (try rfl); done)); (try simp only [Act.put, List.setIfInBounds_toArray, List.set_cons_zero, List.set_cons_succ]))
         | (refine take_in (i := 3) (v := undef) rfl (by kernel_rfl) (by kernel_rfl) (by kernel_rfl) (fun _ _ _ h => h) (Or.inr ⟨by rfl, rfl⟩) hHeld ?_; (try simp only [Act.put, List.setIfInBounds_toArray, List.set_cons_zero, List.set_cons_succ]))
         | (fail "STAKE 3")
       first
         | (refine take_in (i := 5) (v := ?_) rfl (by kernel_rfl) (by kernel_rfl) (by kernel_rfl) (fun _ _ _ h => h) (Or.inl ⟨by rfl, ?_⟩) hHeld ?_; rotate_left; (focus (intro W hSw; go_simp; (try rfl); done)); (try simp only [Act.put, List.setIfInBounds_toArray, List.set_cons_zero, List.set_cons_succ]))
         | (refine take_in (i := 5) (v := undef) rfl (by kernel_rfl) (by kernel_rfl) (by kernel_rfl) (fun _ _ _ h => h) (Or.inr ⟨by rfl, rfl⟩) hHeld ?_; (try simp only [Act.put, List.setIfInBounds_toArray, List.set_cons_zero, List.set_cons_succ]))
         | (fail "STAKE 5")
       first
         | (refine take_in (i := 6) (v := ?_) rfl (by kernel_rfl) (by kernel_rfl) (by kernel_rfl) (fun _ _ _ h => h) (Or.inl ⟨by rfl, ?_⟩) hHeld ?_; rotate_left; (focus (intro W hSw; go_simp; (try rfl); done)); (try simp only [Act.put, List.setIfInBounds_toArray, List.set_cons_zero, List.set_cons_succ]))
         | (refine take_in (i := 6) (v := undef) rfl (by kernel_rfl) (by kernel_rfl) (by kernel_rfl) (fun _ _ _ h => h) (Or.inr ⟨by rfl, rfl⟩) hHeld ?_; (try simp only [Act.put, List.setIfInBounds_toArray, List.set_cons_zero, List.set_cons_succ]))
         | (fail "STAKE 6")
       first
         | (refine take_in (i := 7) (v := ?_) rfl (by kernel_rfl) (by kernel_rfl) (by kernel_rfl) (fun _ _ _ h => h) (Or.inl ⟨by rfl, ?_⟩) hHeld ?_; rotate_left; (focus (intro W hSw; go_simp; (try rfl); done)); (try simp only [Act.put, List.setIfInBounds_toArray, List.set_cons_zero, List.set_cons_succ]))
         | (refine take_in (i := 7) (v := undef) rfl (by kernel_rfl) (by kernel_rfl) (by kernel_rfl) (fun _ _ _ h => h) (Or.inr ⟨by rfl, rfl⟩) hHeld ?_; (try simp only [Act.put, List.setIfInBounds_toArray, List.set_cons_zero, List.set_cons_succ]))
         | (fail "STAKE 7")
       first
         | (refine take_in (i := 8) (v := ?_) rfl (by kernel_rfl) (by kernel_rfl) (by kernel_rfl) (fun _ _ _ h => h) (Or.inl ⟨by rfl, ?_⟩) hHeld ?_; rotate_left; (focus (intro W hSw; go_simp; (try rfl); done)); (try simp only [Act.put, List.setIfInBounds_toArray, List.set_cons_zero, List.set_cons_succ]))
         | (refine take_in (i := 8) (v := undef) rfl (by kernel_rfl) (by kernel_rfl) (by kernel_rfl) (fun _ _ _ h => h) (Or.inr ⟨by rfl, rfl⟩) hHeld ?_; (try simp only [Act.put, List.setIfInBounds_toArray, List.set_cons_zero, List.set_cons_succ]))
         | (fail "STAKE 8")
       first
         | (refine take_in (i := 9) (v := ?_) rfl (by kernel_rfl) (by kernel_rfl) (by kernel_rfl) (fun _ _ _ h => h) (Or.inl ⟨by rfl, ?_⟩) hHeld ?_; rotate_left; (focus (intro W hSw; go_simp; (try rfl); done)); (try simp only [Act.put, List.setIfInBounds_toArray, List.set_cons_zero, List.set_cons_succ]))
         | (refine take_in (i := 9) (v := undef) rfl (by kernel_rfl) (by kernel_rfl) (by kernel_rfl) (fun _ _ _ h => h) (Or.inr ⟨by rfl, rfl⟩) hHeld ?_; (try simp only [Act.put, List.setIfInBounds_toArray, List.set_cons_zero, List.set_cons_succ]))
         | (fail "STAKE 9")
       refine call_inS (i := 4) rfl (by kernel_rfl) (by kernel_rfl) (fun K hK => ?_)
       clear hHeld
       go_simp
       refine (rLeft_any _ _ _ HJ9.out.1).mono ?_
       rintro e v6 ⟨rfl, rfl⟩
       rw [hlen9]
       have hHeld := hc9
       refine hK.out (fun W => W.cell? ⟨w3.heap.size, 0, none⟩ = some (.slice A9 s'.1.length c9)) _ _ hHeld (fun _ h => h) ?_
       (try simp only [Act.put, List.setIfInBounds_toArray, List.set_cons_zero, List.set_cons_succ])
       first
         | (refine take_in (i := 10) (v := ?_) rfl (by kernel_rfl) (by kernel_rfl) (by kernel_rfl) (fun _ _ _ h => h) (Or.inl ⟨by rfl, ?_⟩) hHeld ?_; rotate_left; (focus (intro W hSw; go_simp; (try rfl); done)); (try simp only [Act.put, List.setIfInBounds_toArray, List.set_cons_zero, List.set_cons_succ]))
         | (refine take_in (i := 10) (v := undef) rfl (by kernel_rfl) (by kernel_rfl) (by kernel_rfl) (fun _ _ _ h => h) (Or.inr ⟨by rfl, rfl⟩) hHeld ?_; (try simp only [Act.put, List.setIfInBounds_toArray, List.set_cons_zero, List.set_cons_succ]))
         | (fail "STAKE 10")
       first
         | (refine take_in (i := 11) (v := ?_) rfl (by kernel_rfl) (by kernel_rfl) (by kernel_rfl) (fun _ _ _ h => h) (Or.inl ⟨by rfl, ?_⟩) hHeld ?_; rotate_left; (focus (intro W hSw; go_simp; (try rfl); done)); (try simp only [Act.put, List.setIfInBounds_toArray, List.set_cons_zero, List.set_cons_succ]))
         | (refine take_in (i := 11) (v := undef) rfl (by kernel_rfl) (by kernel_rfl) (by kernel_rfl) (fun _ _ _ h => h) (Or.inr ⟨by rfl, rfl⟩) hHeld ?_; (try simp only [Act.put, List.setIfInBounds_toArray, List.set_cons_zero, List.set_cons_succ]))
         | (fail "STAKE 11")
       refine wpAnyH_done (by kernel_rfl) ?_ _
       go_wp2_with fail
       go_roundw
       case measure => simp [intOf]; omega
       case rel => exact ⟨i + 1, s', by omega, by go_num, HJ9.out, HB9.out⟩
      by_cases k3 : k = 3
      case pos =>
       subst k3
       go_wp2_with (first
        | (refine wpL_load rfl 39 (.tmp 29) rfl _ rfl _ _ HAt.out Try.underlying39 rfl rfl ?_)
        | (refine wpL_store rfl 39 (.tmp 8) (.tmp 30) rfl wr.heap.size rfl _ _ 39 rfl (heap_alloc_new wr _) rfl rfl (by intro v hv; simp at hv; rcases hv with rfl | rfl | rfl | rfl | rfl | rfl <;> rfl) ?_
           intro w4 hc1 hg1
           have hbw1 : Below wr.heap.size wr w4 := (below_alloc1 wr _).grown hg1 (by simp) (fun k e => by cases e; exact Nat.le_refl _)
           obtain ⟨c0, c1, c2, c3, c4, c5⟩ := blk6 hc1
           have HJ4 := Lib.hid (HJ.out.below hbw1)
           have HB4 := Lib.hid (HB.out.trans (hbw1.mono HB.out.size))
           clear hc1 hg1 hbw1))
       refine (rF_any _ _ s HJ4.out.1).mono ?_
       rintro e w6 ⟨rfl, hr6, hg6⟩
       obtain ⟨s', hs'⟩ : ∃ s', (rdF ofN s).2 = s' := ⟨_, rfl⟩
       rw [hs'] at hr6
       go_wp2_with fail
       refine (rbits_any _ _).mono ?_
       rintro e w6 ⟨rfl, rfl⟩
       go_wp2_with fail
       refine (rrF_any _ _ _ s (HJ4.out.mid hg6)).mono ?_
       rintro e w7 ⟨rfl, hr7, hg7⟩
       rw [hs'] at hr7
       have HJ7 := Lib.hid (HJ4.out.step (by rw [← hs']; exact rdF_len _) hg6 hr6 (Below.refl _ _) hg7 hr7)
       have HB7 := Lib.hid (HB4.out.trans (HJ4.out.frame (Nat.le_refl _) hg6 (Below.refl _ _) hg7))
       go_wp2_with fail
       refine (rbits_any _ _).mono ?_
       rintro e w7 ⟨rfl, rfl⟩
       go_wp2_with fail
       refine region_inS (by kernel_rfl) (fun v5 hv45 heq => ?_)
       have HJ9 := Lib.hid (HJ7.out.below hv45)
       have HB9 := Lib.hid (HB7.out.trans (hv45.mono HB7.out.size))
       have hlen9 : (if s'.2 = true then 0 else s'.1.length) = s'.1.length := by
         obtain ⟨A9, c9, _, _, _, _, _, _, _, h9⟩ := HJ9.out.2.1
         split
         · next h => rw [h9 h]; rfl
         · rfl
       obtain ⟨A9, c9, hg9, _⟩ := id HJ9.out.2.1
       have hc9 := blk_at hg9 0 _ rfl
       refine region_sw (fun W => W.cell? ⟨w3.heap.size, 0, none⟩ = some (.slice A9 s'.1.length c9)) (fun _ _ => trivial) ?_
       have hHeld := hc9
       first
         | (refine take_in (i := 0) (v := ?_) rfl (by kernel_rfl) (by kernel_rfl) (by kernel_rfl) (fun _ _ _ h => h) (Or.inl ⟨by rfl, ?_⟩) hHeld ?_; rotate_left; (focus (intro W hSw; go_simp; (try rfl); done)); (try simp only [Act.put, List.setIfInBounds_toArray, List.set_cons_zero, List.set_cons_succ]))
         | (refine take_in (i := 0) (v := undef) rfl (by kernel_rfl) (by kernel_rfl) (by kernel_rfl) (fun _ _ _ h => h) (Or.inr ⟨by rfl, rfl⟩) hHeld ?_; (try simp only [Act.put, List.setIfInBounds_toArray, List.set_cons_zero, List.set_cons_succ]))
         | (fail "STAKE 0")
       first
         | (refine take_in (i := 1) (v := ?_) rfl (by kernel_rfl) (by kernel_rfl) (by kernel_rfl) (fun _ _ _ h => h) (Or.inl ⟨by rfl, ?_⟩) hHeld ?_; rotate_left; (focus (intro W hSw; go_simp; (try rfl); done)); (try simp only [Act.put, List.setIfInBounds_toArray, List.set_cons_zero, List.set_cons_succ]))
         | (refine take_in (i := 1) (v := undef) rfl (by kernel_rfl) (by kernel_rfl) (by kernel_rfl) (fun _ _ _ h => h) (Or.inr ⟨by rfl, rfl⟩) hHeld ?_; (try simp only [Act.put, List.setIfInBounds_toArray, List.set_cons_zero, List.set_cons_succ]))
         | (fail "STAKE 1")
       first
         | (refine take_in (i := 2) (v := ?_) rfl (by kernel_rfl) (by kernel_rfl) (by kernel_rfl) (fun _ _ _ h => h) (Or.inl ⟨by rfl, ?_⟩) hHeld ?_; rotate_left; (focus (intro W hSw; go_simp; (try rfl); done)); (try simp only [Act.put, List.setIfInBounds_toArray, List.set_cons_zero, List.set_cons_succ]))
         | (refine take_in (i := 2) (v := undef) rfl (by kernel_rfl) (by kernel_rfl) (by kernel_rfl) (fun _ _ _ h => h) (Or.inr ⟨by rfl, rfl⟩) hHeld ?_; (try simp only [Act.put, List.setIfInBounds_toArray, List.set_cons_zero, List.set_cons_succ]))
         | (fail "STAKE 2")
       first
         | (refine take_in (i := 3) (v := ?_) rfl (by kernel_rfl) (by kernel_rfl) (by kernel_rfl) (fun _ _ _ h => h) (Or.inl ⟨by rfl, ?_⟩) hHeld ?_; rotate_left; (focus (intro W hSw; go_simp; (try rfl); done)); (try simp only [Act.put, List.setIfInBounds_toArray, List.set_cons_zero, List.set_cons_succ]))
         | (refine take_in (i := 3) (v := undef) rfl (by kernel_rfl) (by kernel_rfl) (by kernel_rfl) (fun _ _ _ h => h) (Or.inr ⟨by rfl, rfl⟩) hHeld ?_; (try simp only [Act.put, List.setIfInBounds_toArray, List.set_cons_zero, List.set_cons_succ]))
         | (fail "STAKE 3")
       first
         | (refine take_in (i := 5) (v := ?_) rfl (by kernel_rfl) (by kernel_rfl) (by kernel_rfl) (fun _ _ _ h => h) (Or.inl ⟨by rfl, ?_⟩) hHeld ?_; rotate_left; (focus (intro W hSw; go_simp; (try rfl); done)); (try simp only [Act.put, List.setIfInBounds_toArray, List.set_cons_zero, List.set_cons_succ]))
         | (refine take_in (i := 5) (v := undef) rfl (by kernel_rfl) (by kernel_rfl) (by kernel_rfl) (fun _ _ _ h => h) (Or.inr ⟨by rfl, rfl⟩) hHeld ?_; (try simp only [Act.put, List.setIfInBounds_toArray, List.set_cons_zero, List.set_cons_succ]))
         | (fail "STAKE 5")
       first
         | (refine take_in (i := 6) (v := ?_) rfl (by kernel_rfl) (by kernel_rfl) (by kernel_rfl) (fun _ _ _ h => h) (Or.inl ⟨by rfl, ?_⟩) hHeld ?_; rotate_left; (focus (intro W hSw; go_simp; (try rfl); done)); (try simp only [Act.put, List.setIfInBounds_toArray, List.set_cons_zero, List.set_cons_succ]))
         | (refine take_in (i := 6) (v := undef) rfl (by kernel_rfl) (by kernel_rfl) (by kernel_rfl) (fun _ _ _ h => h) (Or.inr ⟨by rfl, rfl⟩) hHeld ?_; (try simp only [Act.put, List.setIfInBounds_toArray, List.set_cons_zero, List.set_cons_succ]))
         | (fail "STAKE 6")
       first
         | (refine take_in (i := 7) (v := ?_) rfl (by kernel_rfl) (by kernel_rfl) (by kernel_rfl) (fun _ _ _ h => h) (Or.inl ⟨by rfl, ?_⟩) hHeld ?_; rotate_left; (focus (intro W hSw; go_simp; (try rfl); done)); (try simp only [Act.put, List.setIfInBounds_toArray, List.set_cons_zero, List.set_cons_succ]))
         | (refine take_in (i := 7) (v := undef) rfl (by kernel_rfl) (by kernel_rfl) (by kernel_rfl) (fun _ _ _ h => h) (Or.inr ⟨by rfl, rfl⟩) hHeld ?_; (try simp only [Act.put, List.setIfInBounds_toArray, List.set_cons_zero, List.set_cons_succ]))
         | (fail "STAKE 7")
       first
         | (refine take_in (i := 8) (v := ?_) rfl (by kernel_rfl) (by kernel_rfl) (by kernel_rfl) (fun _ _ _ h => h) (Or.inl ⟨by rfl, ?_⟩) hHeld ?_; rotate_left; (focus (intro W hSw; go_simp; (try rfl); done)); (try simp only [Act.put, List.setIfInBounds_toArray, List.set_cons_zero, List.set_cons_succ]))
         | (refine take_in (i := 8) (v := undef) rfl (by kernel_rfl) (by kernel_rfl) (by kernel_rfl) (fun _ _ _ h => h) (Or.inr ⟨by rfl, rfl⟩) hHeld ?_; (try simp only [Act.put, List.setIfInBounds_toArray, List.set_cons_zero, List.set_cons_succ]))
         | (fail "STAKE 8")
       first
         | (refine take_in (i := 9) (v := ?_) rfl (by kernel_rfl) (by kernel_rfl) (by kernel_rfl) (fun _ _ _ h => h) (Or.inl ⟨by rfl, ?_⟩) hHeld ?_; rotate_left; (focus (intro W hSw; go_simp; (try rfl); done)); (try simp only [Act.put, List.setIfInBounds_toArray, List.set_cons_zero, List.set_cons_succ]))
         | (refine take_in (i := 9) (v := undef) rfl (by kernel_rfl) (by kernel_rfl) (by kernel_rfl) (fun _ _ _ h => h) (Or.inr ⟨by rfl, rfl⟩) hHeld ?_; (try simp only [Act.put, List.setIfInBounds_toArray, List.set_cons_zero, List.set_cons_succ]))
         | (fail "STAKE 9")
       refine call_inS (i := 4) rfl (by kernel_rfl) (by kernel_rfl) (fun K hK => ?_)
       clear hHeld
       go_simp
       refine (rLeft_any _ _ _ HJ9.out.1).mono ?_
       rintro e v6 ⟨rfl, rfl⟩
       rw [hlen9]
       have hHeld := hc9
       refine hK.out (fun W => W.cell? ⟨w3.heap.size, 0, none⟩ = some (.slice A9 s'.1.length c9)) _ _ hHeld (fun _ h => h) ?_
       (try simp only [Act.put, List.setIfInBounds_toArray, List.set_cons_zero, List.set_cons_succ])
       first
         | (refine take_in (i := 10) (v := ?_) rfl (by kernel_rfl) (by kernel_rfl) (by kernel_rfl) (fun _ _ _ h => h) (Or.inl ⟨by rfl, ?_⟩) hHeld ?_; rotate_left; (focus (intro W hSw; go_simp; (try rfl); done)); (try simp only [Act.put, List.setIfInBounds_toArray, List.set_cons_zero, List.set_cons_succ]))
         | (refine take_in (i := 10) (v := undef) rfl (by kernel_rfl) (by kernel_rfl) (by kernel_rfl) (fun _ _ _ h => h) (Or.inr ⟨by rfl, rfl⟩) hHeld ?_; (try simp only [Act.put, List.setIfInBounds_toArray, List.set_cons_zero, List.set_cons_succ]))
         | (fail "STAKE 10")
       first
         | (refine take_in (i := 11) (v := ?_) rfl (by kernel_rfl) (by kernel_rfl) (by kernel_rfl) (fun _ _ _ h => h) (Or.inl ⟨by rfl, ?_⟩) hHeld ?_; rotate_left; (focus (intro W hSw; go_simp; (try rfl); done)); (try simp only [Act.put, List.setIfInBounds_toArray, List.set_cons_zero, List.set_cons_succ]))
         | (refine take_in (i := 11) (v := undef) rfl (by kernel_rfl) (by kernel_rfl) (by kernel_rfl) (fun _ _ _ h => h) (Or.inr ⟨by rfl, rfl⟩) hHeld ?_; (try simp only [Act.put, List.setIfInBounds_toArray, List.set_cons_zero, List.set_cons_succ]))
         | (fail "STAKE 11")
       refine wpAnyH_done (by kernel_rfl) ?_ _
       go_wp2_with fail
       go_roundw
       case measure => simp [intOf]; omega
       case rel => exact ⟨i + 1, s', by omega, by go_num, HJ9.out, HB9.out⟩
      by_cases k4 : k = 4
      case pos =>
       subst k4
       go_wp2_with (first
        | (refine wpL_load rfl 39 (.tmp 29) rfl _ rfl _ _ HAt.out Try.underlying39 rfl rfl ?_)
        | (refine wpL_store rfl 39 (.tmp 8) (.tmp 30) rfl wr.heap.size rfl _ _ 39 rfl (heap_alloc_new wr _) rfl rfl (by intro v hv; simp at hv; rcases hv with rfl | rfl | rfl | rfl | rfl | rfl <;> rfl) ?_
           intro w4 hc1 hg1
           have hbw1 : Below wr.heap.size wr w4 := (below_alloc1 wr _).grown hg1 (by simp) (fun k e => by cases e; exact Nat.le_refl _)
           obtain ⟨c0, c1, c2, c3, c4, c5⟩ := blk6 hc1
           have HJ4 := Lib.hid (HJ.out.below hbw1)
           have HB4 := Lib.hid (HB.out.trans (hbw1.mono HB.out.size))
           clear hc1 hg1 hbw1))
       refine region_inS (by kernel_rfl) (fun w5 hw45 heq => ?_)
       have HJ5 := Lib.hid (HJ4.out.below hw45)
       have HB5 := Lib.hid (HB4.out.trans (hw45.mono HB4.out.size))
       have hc5 : w5.cell? ⟨wr.heap.size, 4, none⟩ = some (.slice Ab bs.length cb2) := (cell_below hw45 c4)
       refine region_sw (fun W => W.cell? ⟨wr.heap.size, 4, none⟩ = some (.slice Ab bs.length cb2)) (fun _ _ => trivial) ?_
       have hHeld := hc5
       have hgne : some wr.heap.size ≠ some g := by have := HJ.out.1.lt; intro e; injection e; omega
       have hxne : some wr.heap.size ≠ some w3.heap.size := by have := HJ.out.2.1.lt; intro e; injection e; omega
       first
         | (refine take_in (i := 0) (v := ?_) rfl (by kernel_rfl) (by kernel_rfl) (by kernel_rfl) (fun _ _ _ h => h) (Or.inl ⟨by rfl, ?_⟩) hHeld ?_; rotate_left; (focus (intro W hSw; go_simp; (try rfl); done)); (try simp only [Act.put, List.setIfInBounds_toArray, List.set_cons_zero, List.set_cons_succ]))
         | (refine take_in (i := 0) (v := undef) rfl (by kernel_rfl) (by kernel_rfl) (by kernel_rfl) (fun _ _ _ h => h) (Or.inr ⟨by rfl, rfl⟩) hHeld ?_; (try simp only [Act.put, List.setIfInBounds_toArray, List.set_cons_zero, List.set_cons_succ]))
         | (fail "STAKE 0")
       first
         | (refine take_in (i := 1) (v := ?_) rfl (by kernel_rfl) (by kernel_rfl) (by kernel_rfl) (fun _ _ _ h => h) (Or.inl ⟨by rfl, ?_⟩) hHeld ?_; rotate_left; (focus (intro W hSw; go_simp; (try rfl); done)); (try simp only [Act.put, List.setIfInBounds_toArray, List.set_cons_zero, List.set_cons_succ]))
         | (refine take_in (i := 1) (v := undef) rfl (by kernel_rfl) (by kernel_rfl) (by kernel_rfl) (fun _ _ _ h => h) (Or.inr ⟨by rfl, rfl⟩) hHeld ?_; (try simp only [Act.put, List.setIfInBounds_toArray, List.set_cons_zero, List.set_cons_succ]))
         | (fail "STAKE 1")
       first
         | (refine take_in (i := 2) (v := ?_) rfl (by kernel_rfl) (by kernel_rfl) (by kernel_rfl) (fun _ _ _ h => h) (Or.inl ⟨by rfl, ?_⟩) hHeld ?_; rotate_left; (focus (intro W hSw; go_simp; (try rfl); done)); (try simp only [Act.put, List.setIfInBounds_toArray, List.set_cons_zero, List.set_cons_succ]))
         | (refine take_in (i := 2) (v := undef) rfl (by kernel_rfl) (by kernel_rfl) (by kernel_rfl) (fun _ _ _ h => h) (Or.inr ⟨by rfl, rfl⟩) hHeld ?_; (try simp only [Act.put, List.setIfInBounds_toArray, List.set_cons_zero, List.set_cons_succ]))
         | (fail "STAKE 2")
       first
         | (refine take_in (i := 3) (v := ?_) rfl (by kernel_rfl) (by kernel_rfl) (by kernel_rfl) (fun _ _ _ h => h) (Or.inl ⟨by rfl, ?_⟩) hHeld ?_; rotate_left; (focus (intro W hSw; go_simp; (try rfl); done)); (try simp only [Act.put, List.setIfInBounds_toArray, List.set_cons_zero, List.set_cons_succ]))
         | (refine take_in (i := 3) (v := undef) rfl (by kernel_rfl) (by kernel_rfl) (by kernel_rfl) (fun _ _ _ h => h) (Or.inr ⟨by rfl, rfl⟩) hHeld ?_; (try simp only [Act.put, List.setIfInBounds_toArray, List.set_cons_zero, List.set_cons_succ]))
         | (fail "STAKE 3")
       first
         | (refine take_in (i := 6) (v := ?_) rfl (by kernel_rfl) (by kernel_rfl) (by kernel_rfl) (fun _ _ _ h => h) (Or.inl ⟨by rfl, ?_⟩) hHeld ?_; rotate_left; (focus (intro W hSw; go_simp; (try rfl); done)); (try simp only [Act.put, List.setIfInBounds_toArray, List.set_cons_zero, List.set_cons_succ]))
         | (refine take_in (i := 6) (v := undef) rfl (by kernel_rfl) (by kernel_rfl) (by kernel_rfl) (fun _ _ _ h => h) (Or.inr ⟨by rfl, rfl⟩) hHeld ?_; (try simp only [Act.put, List.setIfInBounds_toArray, List.set_cons_zero, List.set_cons_succ]))
         | (fail "STAKE 6")
       first
         | (refine take_in (i := 7) (v := ?_) rfl (by kernel_rfl) (by kernel_rfl) (by kernel_rfl) (fun _ _ _ h => h) (Or.inl ⟨by rfl, ?_⟩) hHeld ?_; rotate_left; (focus (intro W hSw; go_simp; (try rfl); done)); (try simp only [Act.put, List.setIfInBounds_toArray, List.set_cons_zero, List.set_cons_succ]))
         | (refine take_in (i := 7) (v := undef) rfl (by kernel_rfl) (by kernel_rfl) (by kernel_rfl) (fun _ _ _ h => h) (Or.inr ⟨by rfl, rfl⟩) hHeld ?_; (try simp only [Act.put, List.setIfInBounds_toArray, List.set_cons_zero, List.set_cons_succ]))
         | (fail "STAKE 7")
       first
         | (refine take_in (i := 8) (v := ?_) rfl (by kernel_rfl) (by kernel_rfl) (by kernel_rfl) (fun _ _ _ h => h) (Or.inl ⟨by rfl, ?_⟩) hHeld ?_; rotate_left; (focus (intro W hSw; go_simp; (try rfl); done)); (try simp only [Act.put, List.setIfInBounds_toArray, List.set_cons_zero, List.set_cons_succ]))
         | (refine take_in (i := 8) (v := undef) rfl (by kernel_rfl) (by kernel_rfl) (by kernel_rfl) (fun _ _ _ h => h) (Or.inr ⟨by rfl, rfl⟩) hHeld ?_; (try simp only [Act.put, List.setIfInBounds_toArray, List.set_cons_zero, List.set_cons_succ]))
         | (fail "STAKE 8")
       first
         | (refine take_in (i := 9) (v := ?_) rfl (by kernel_rfl) (by kernel_rfl) (by kernel_rfl) (fun _ _ _ h => h) (Or.inl ⟨by rfl, ?_⟩) hHeld ?_; rotate_left; (focus (intro W hSw; go_simp; (try rfl); done)); (try simp only [Act.put, List.setIfInBounds_toArray, List.set_cons_zero, List.set_cons_succ]))
         | (refine take_in (i := 9) (v := undef) rfl (by kernel_rfl) (by kernel_rfl) (by kernel_rfl) (fun _ _ _ h => h) (Or.inr ⟨by rfl, rfl⟩) hHeld ?_; (try simp only [Act.put, List.setIfInBounds_toArray, List.set_cons_zero, List.set_cons_succ]))
         | (fail "STAKE 9")
       refine call_inS (i := 4) rfl (by kernel_rfl) (by kernel_rfl) (fun K hK => ?_)
       clear hHeld
       go_simp
       refine (rB_any _ _ bs.length s HJ5.out.1 (by omega) (by have := HJ5.out.2.2.2.2; omega)).mono ?_
       rintro e w6 ⟨v6, rfl, hd6, hr6, hg6⟩
       obtain ⟨A6, c6, rfl, _, _, _, hbs6⟩ := rd_bs hd6
       obtain ⟨s', hs'⟩ : ∃ s', (rdB bs.length s).2 = s' := ⟨_, rfl⟩
       have hd6' := hd6
       obtain ⟨D, hD⟩ : ∃ D, (rdB bs.length s).1 = D := ⟨_, rfl⟩
       rw [hs'] at hr6
       rw [hD] at hbs6 hd6'
       rw [hD]
       have hHeld := (And.intro (cell_grown hg6 hc5 hgne) (conv_bs (c := c6) hbs6))
       refine hK.out (fun W => W.cell? ⟨wr.heap.size, 4, none⟩ = some (.slice Ab bs.length cb2) ∧ (convert 23 9 (.slice A6 D.length c6)).run Try.prog W = .ok (.string ⟨D.toArray⟩) W) _ _ hHeld (fun _ h => h.1) ?_
       (try simp only [Act.put, List.setIfInBounds_toArray, List.set_cons_zero, List.set_cons_succ])
       first
         | (refine take_in (i := 5) (v := ?_) rfl (by kernel_rfl) (by kernel_rfl) (by kernel_rfl) (fun _ _ _ h => h) (Or.inl ⟨by rfl, ?_⟩) hHeld ?_; rotate_left; (focus (intro W hSw; go_simp; (try rfl); done)); (try simp only [Act.put, List.setIfInBounds_toArray, List.set_cons_zero, List.set_cons_succ]))
         | (refine take_in (i := 5) (v := undef) rfl (by kernel_rfl) (by kernel_rfl) (by kernel_rfl) (fun _ _ _ h => h) (Or.inr ⟨by rfl, rfl⟩) hHeld ?_; (try simp only [Act.put, List.setIfInBounds_toArray, List.set_cons_zero, List.set_cons_succ]))
         | (fail "STAKE 5")
       refine call_inS (i := 10) rfl (by kernel_rfl) (by kernel_rfl) (fun K hK => ?_)
       clear hHeld
       go_simp
       refine (rrB_any _ _ _ bs.length s (HJ5.out.mid hg6) (by omega) (by have := HJ5.out.2.2.2.2; omega)).mono ?_
       rintro e w7 ⟨v7, rfl, hd7, hr7, hg7⟩
       obtain ⟨A7, c7, rfl, _, _, _, hbs7⟩ := rd_bs hd7
       rw [hs'] at hr7
       rw [hD] at hbs7
       rw [hD]
       have hbs67 : Bs w7 A6 D.length D := by
         have := hd6'.of (w' := w7) (ok' := anyB) (fun a v hk hc => cell_grown hg7 hc (by have := HJ5.out.2.1.lt; intro e; injection e with e; have hk' : w5.heap.size ≤ a.block := hk; omega)) (fun _ _ _ => trivial)
         obtain ⟨A6', c6', e6, _, _, _, h6⟩ := rd_bs this
         injection e6 with e61 e62 e63
         subst e61
         exact h6
       have hHeld := (And.intro (And.intro (cell_grown hg7 (cell_grown hg6 hc5 hgne) hxne) (conv_bs (c := c6) hbs67)) (conv_bs (c := c7) hbs7))
       refine hK.out (fun W => (W.cell? ⟨wr.heap.size, 4, none⟩ = some (.slice Ab bs.length cb2) ∧ (convert 23 9 (.slice A6 D.length c6)).run Try.prog W = .ok (.string ⟨D.toArray⟩) W) ∧ (convert 23 9 (.slice A7 D.length c7)).run Try.prog W = .ok (.string ⟨D.toArray⟩) W) _ _ hHeld (fun _ h => h.1) ?_
       (try simp only [Act.put, List.setIfInBounds_toArray, List.set_cons_zero, List.set_cons_succ])
       have HJ7 := Lib.hid (HJ5.out.step (by rw [← hs']; exact rdB_len _ _) hg6 hr6 (Below.refl _ _) hg7 hr7)
       have HB7 := Lib.hid (HB5.out.trans (HJ5.out.frame (Nat.le_refl _) hg6 (Below.refl _ _) hg7))
       first
         | (refine take_in (i := 11) (v := ?_) rfl (by kernel_rfl) (by kernel_rfl) (by kernel_rfl) (fun _ _ _ h => h) (Or.inl ⟨by rfl, ?_⟩) hHeld ?_; rotate_left; (focus (intro W hSw; go_simp; (try rfl); done)); (try simp only [Act.put, List.setIfInBounds_toArray, List.set_cons_zero, List.set_cons_succ]))
         | (refine take_in (i := 11) (v := undef) rfl (by kernel_rfl) (by kernel_rfl) (by kernel_rfl) (fun _ _ _ h => h) (Or.inr ⟨by rfl, rfl⟩) hHeld ?_; (try simp only [Act.put, List.setIfInBounds_toArray, List.set_cons_zero, List.set_cons_succ]))
         | (fail "STAKE 11")
       first
         | (refine take_in (i := 12) (v := ?_) rfl (by kernel_rfl) (by kernel_rfl) (by kernel_rfl) (fun _ _ _ h => h) (Or.inl ⟨by rfl, ?_⟩) hHeld ?_; rotate_left; (focus (intro W hSw; go_simp; (try rfl); done)); (try simp only [Act.put, List.setIfInBounds_toArray, List.set_cons_zero, List.set_cons_succ]))
         | (refine take_in (i := 12) (v := undef) rfl (by kernel_rfl) (by kernel_rfl) (by kernel_rfl) (fun _ _ _ h => h) (Or.inr ⟨by rfl, rfl⟩) hHeld ?_; (try simp only [Act.put, List.setIfInBounds_toArray, List.set_cons_zero, List.set_cons_succ]))
         | (fail "STAKE 12")
       first
         | (refine take_in (i := 13) (v := ?_) rfl (by kernel_rfl) (by kernel_rfl) (by kernel_rfl) (fun _ _ _ h => h) (Or.inl ⟨by rfl, ?_⟩) hHeld ?_; rotate_left; (focus (intro W hSw; go_simp; (try rfl); done)); (try simp only [Act.put, List.setIfInBounds_toArray, List.set_cons_zero, List.set_cons_succ]))
         | (refine take_in (i := 13) (v := undef) rfl (by kernel_rfl) (by kernel_rfl) (by kernel_rfl) (fun _ _ _ h => h) (Or.inr ⟨by rfl, rfl⟩) hHeld ?_; (try simp only [Act.put, List.setIfInBounds_toArray, List.set_cons_zero, List.set_cons_succ]))
         | (fail "STAKE 13")
       refine wpAnyH_done (by kernel_rfl) ?_ _
       go_wp2_with fail
       refine region_inS (by kernel_rfl) (fun v5 hv45 heq => ?_)
       have HJ9 := Lib.hid (HJ7.out.below hv45)
       have HB9 := Lib.hid (HB7.out.trans (hv45.mono HB7.out.size))
       have hlen9 : (if s'.2 = true then 0 else s'.1.length) = s'.1.length := by
         obtain ⟨A9, c9, _, _, _, _, _, _, _, h9⟩ := HJ9.out.2.1
         split
         · next h => rw [h9 h]; rfl
         · rfl
       obtain ⟨A9, c9, hg9, _⟩ := id HJ9.out.2.1
       have hc9 := blk_at hg9 0 _ rfl
       refine region_sw (fun W => W.cell? ⟨w3.heap.size, 0, none⟩ = some (.slice A9 s'.1.length c9)) (fun _ _ => trivial) ?_
       have hHeld := hc9
       first
         | (refine take_in (i := 0) (v := ?_) rfl (by kernel_rfl) (by kernel_rfl) (by kernel_rfl) (fun _ _ _ h => h) (Or.inl ⟨by rfl, ?_⟩) hHeld ?_; rotate_left; (focus (intro W hSw; go_simp; (try rfl); done)); (try simp only [Act.put, List.setIfInBounds_toArray, List.set_cons_zero, List.set_cons_succ]))
         | (refine take_in (i := 0) (v := undef) rfl (by kernel_rfl) (by kernel_rfl) (by kernel_rfl) (fun _ _ _ h => h) (Or.inr ⟨by rfl, rfl⟩) hHeld ?_; (try simp only [Act.put, List.setIfInBounds_toArray, List.set_cons_zero, List.set_cons_succ]))
         | (fail "STAKE 0")
       first
         | (refine take_in (i := 1) (v := ?_) rfl (by kernel_rfl) (by kernel_rfl) (by kernel_rfl) (fun _ _ _ h => h) (Or.inl ⟨by rfl, ?_⟩) hHeld ?_; rotate_left; (focus (intro W hSw; go_simp; (try rfl); done)); (try simp only [Act.put, List.setIfInBounds_toArray, List.set_cons_zero, List.set_cons_succ]))
         | (refine take_in (i := 1) (v := undef) rfl (by kernel_rfl) (by kernel_rfl) (by kernel_rfl) (fun _ _ _ h => h) (Or.inr ⟨by rfl, rfl⟩) hHeld ?_; (try simp only [Act.put, List.setIfInBounds_toArray, List.set_cons_zero, List.set_cons_succ]))
         | (fail "STAKE 1")
       first
         | (refine take_in (i := 2) (v := ?_) rfl (by kernel_rfl) (by kernel_rfl) (by kernel_rfl) (fun _ _ _ h => h) (Or.inl ⟨by rfl, ?_⟩) hHeld ?_; rotate_left; (focus (intro W hSw; go_simp; (try rfl); done)); (try simp only [Act.put, List.setIfInBounds_toArray, List.set_cons_zero, List.set_cons_succ]))
         | (refine take_in (i := 2) (v := undef) rfl (by kernel_rfl) (by kernel_rfl) (by kernel_rfl) (fun _ _ _ h => h) (Or.inr ⟨by rfl, rfl⟩) hHeld ?_; (try simp only [Act.put, List.setIfInBounds_toArray, List.set_cons_zero, List.set_cons_succ]))
         | (fail "STAKE 2")
       first
         | (refine take_in (i := 3) (v := ?_) rfl (by kernel_rfl) (by kernel_rfl) (by kernel_rfl) (fun _ _ _ h => h) (Or.inl ⟨by rfl, ?_⟩) hHeld ?_; rotate_left; (focus (intro W hSw; go_simp; (try rfl); done)); (try simp only [Act.put, List.setIfInBounds_toArray, List.set_cons_zero, List.set_cons_succ]))
         | (refine take_in (i := 3) (v := undef) rfl (by kernel_rfl) (by kernel_rfl) (by kernel_rfl) (fun _ _ _ h => h) (Or.inr ⟨by rfl, rfl⟩) hHeld ?_; (try simp only [Act.put, List.setIfInBounds_toArray, List.set_cons_zero, List.set_cons_succ]))
         | (fail "STAKE 3")
       first
         | (refine take_in (i := 5) (v := ?_) rfl (by kernel_rfl) (by kernel_rfl) (by kernel_rfl) (fun _ _ _ h => h) (Or.inl ⟨by rfl, ?_⟩) hHeld ?_; rotate_left; (focus (intro W hSw; go_simp; (try rfl); done)); (try simp only [Act.put, List.setIfInBounds_toArray, List.set_cons_zero, List.set_cons_succ]))
         | (refine take_in (i := 5) (v := undef) rfl (by kernel_rfl) (by kernel_rfl) (by kernel_rfl) (fun _ _ _ h => h) (Or.inr ⟨by rfl, rfl⟩) hHeld ?_; (try simp only [Act.put, List.setIfInBounds_toArray, List.set_cons_zero, List.set_cons_succ]))
         | (fail "STAKE 5")
       first
         | (refine take_in (i := 6) (v := ?_) rfl (by kernel_rfl) (by kernel_rfl) (by kernel_rfl) (fun _ _ _ h => h) (Or.inl ⟨by rfl, ?_⟩) hHeld ?_; rotate_left; (focus (intro W hSw; go_simp; (try rfl); done)); (try simp only [Act.put, List.setIfInBounds_toArray, List.set_cons_zero, List.set_cons_succ]))
         | (refine take_in (i := 6) (v := undef) rfl (by kernel_rfl) (by kernel_rfl) (by kernel_rfl) (fun _ _ _ h => h) (Or.inr ⟨by rfl, rfl⟩) hHeld ?_; (try simp only [Act.put, List.setIfInBounds_toArray, List.set_cons_zero, List.set_cons_succ]))
         | (fail "STAKE 6")
       first
         | (refine take_in (i := 7) (v := ?_) rfl (by kernel_rfl) (by kernel_rfl) (by kernel_rfl) (fun _ _ _ h => h) (Or.inl ⟨by rfl, ?_⟩) hHeld ?_; rotate_left; (focus (intro W hSw; go_simp; (try rfl); done)); (try simp only [Act.put, List.setIfInBounds_toArray, List.set_cons_zero, List.set_cons_succ]))
         | (refine take_in (i := 7) (v := undef) rfl (by kernel_rfl) (by kernel_rfl) (by kernel_rfl) (fun _ _ _ h => h) (Or.inr ⟨by rfl, rfl⟩) hHeld ?_; (try simp only [Act.put, List.setIfInBounds_toArray, List.set_cons_zero, List.set_cons_succ]))
         | (fail "STAKE 7")
       first
         | (refine take_in (i := 8) (v := ?_) rfl (by kernel_rfl) (by kernel_rfl) (by kernel_rfl) (fun _ _ _ h => h) (Or.inl ⟨by rfl, ?_⟩) hHeld ?_; rotate_left; (focus (intro W hSw; go_simp; (try rfl); done)); (try simp only [Act.put, List.setIfInBounds_toArray, List.set_cons_zero, List.set_cons_succ]))
         | (refine take_in (i := 8) (v := undef) rfl (by kernel_rfl) (by kernel_rfl) (by kernel_rfl) (fun _ _ _ h => h) (Or.inr ⟨by rfl, rfl⟩) hHeld ?_; (try simp only [Act.put, List.setIfInBounds_toArray, List.set_cons_zero, List.set_cons_succ]))
         | (fail "STAKE 8")
       first
         | (refine take_in (i := 9) (v := ?_) rfl (by kernel_rfl) (by kernel_rfl) (by kernel_rfl) (fun _ _ _ h => h) (Or.inl ⟨by rfl, ?_⟩) hHeld ?_; rotate_left; (focus (intro W hSw; go_simp; (try rfl); done)); (try simp only [Act.put, List.setIfInBounds_toArray, List.set_cons_zero, List.set_cons_succ]))
         | (refine take_in (i := 9) (v := undef) rfl (by kernel_rfl) (by kernel_rfl) (by kernel_rfl) (fun _ _ _ h => h) (Or.inr ⟨by rfl, rfl⟩) hHeld ?_; (try simp only [Act.put, List.setIfInBounds_toArray, List.set_cons_zero, List.set_cons_succ]))
         | (fail "STAKE 9")
       refine call_inS (i := 4) rfl (by kernel_rfl) (by kernel_rfl) (fun K hK => ?_)
       clear hHeld
       go_simp
       refine (rLeft_any _ _ _ HJ9.out.1).mono ?_
       rintro e v6 ⟨rfl, rfl⟩
       rw [hlen9]
       have hHeld := hc9
       refine hK.out (fun W => W.cell? ⟨w3.heap.size, 0, none⟩ = some (.slice A9 s'.1.length c9)) _ _ hHeld (fun _ h => h) ?_
       (try simp only [Act.put, List.setIfInBounds_toArray, List.set_cons_zero, List.set_cons_succ])
       first
         | (refine take_in (i := 10) (v := ?_) rfl (by kernel_rfl) (by kernel_rfl) (by kernel_rfl) (fun _ _ _ h => h) (Or.inl ⟨by rfl, ?_⟩) hHeld ?_; rotate_left; (focus (intro W hSw; go_simp; (try rfl); done)); (try simp only [Act.put, List.setIfInBounds_toArray, List.set_cons_zero, List.set_cons_succ]))
         | (refine take_in (i := 10) (v := undef) rfl (by kernel_rfl) (by kernel_rfl) (by kernel_rfl) (fun _ _ _ h => h) (Or.inr ⟨by rfl, rfl⟩) hHeld ?_; (try simp only [Act.put, List.setIfInBounds_toArray, List.set_cons_zero, List.set_cons_succ]))
         | (fail "STAKE 10")
       first
         | (refine take_in (i := 11) (v := ?_) rfl (by kernel_rfl) (by kernel_rfl) (by kernel_rfl) (fun _ _ _ h => h) (Or.inl ⟨by rfl, ?_⟩) hHeld ?_; rotate_left; (focus (intro W hSw; go_simp; (try rfl); done)); (try simp only [Act.put, List.setIfInBounds_toArray, List.set_cons_zero, List.set_cons_succ]))
         | (refine take_in (i := 11) (v := undef) rfl (by kernel_rfl) (by kernel_rfl) (by kernel_rfl) (fun _ _ _ h => h) (Or.inr ⟨by rfl, rfl⟩) hHeld ?_; (try simp only [Act.put, List.setIfInBounds_toArray, List.set_cons_zero, List.set_cons_succ]))
         | (fail "STAKE 11")
       refine wpAnyH_done (by kernel_rfl) ?_ _
       go_wp2_with fail
       go_roundw
       case measure => simp [intOf]; omega
       case rel => exact ⟨i + 1, s', by omega, by go_num, HJ9.out, HB9.out⟩
      have b1 : (k == 1) = false := beq_eq_false_iff_ne.2 k1
      have b2 : (k == 2) = false := beq_eq_false_iff_ne.2 k2
      have b3 : (k == 3) = false := beq_eq_false_iff_ne.2 k3
      have b4 : (k == 4) = false := beq_eq_false_iff_ne.2 k4
      go_wp2_with (first
       | (refine wpL_load rfl 39 (.tmp 29) rfl _ rfl _ _ HAt.out Try.underlying39 rfl rfl ?_)
       | (refine wpL_store rfl 39 (.tmp 8) (.tmp 30) rfl wr.heap.size rfl _ _ 39 rfl (heap_alloc_new wr _) rfl rfl (by intro v hv; simp at hv; rcases hv with rfl | rfl | rfl | rfl | rfl | rfl <;> rfl) ?_
          intro w4 hc1 hg1
          have hbw1 : Below wr.heap.size wr w4 := (below_alloc1 wr _).grown hg1 (by simp) (fun k e => by cases e; exact Nat.le_refl _)
          obtain ⟨c0, c1, c2, c3, c4, c5⟩ := blk6 hc1
          have HJ4 := Lib.hid (HJ.out.below hbw1)
          have HB4 := Lib.hid (HB.out.trans (hbw1.mono HB.out.size))
          clear hc1 hg1 hbw1))
      refine (rFlag_any _ _ s HJ4.out.1).mono ?_
      rintro e w6 ⟨rfl, hr6, hg6⟩
      obtain ⟨s', hs'⟩ : ∃ s', (rdFlag s).2 = s' := ⟨_, rfl⟩
      rw [hs'] at hr6
      go_wp2_with fail
      refine (rrFlag_any _ _ _ s (HJ4.out.mid hg6)).mono ?_
      rintro e w7 ⟨rfl, hr7, hg7⟩
      rw [hs'] at hr7
      have HJ7 := Lib.hid (HJ4.out.step (by rw [← hs']; exact rdN_len _ _) hg6 hr6 (Below.refl _ _) hg7 hr7)
      have HB7 := Lib.hid (HB4.out.trans (HJ4.out.frame (Nat.le_refl _) hg6 (Below.refl _ _) hg7))
      go_wp2_with fail
      refine region_inS (by kernel_rfl) (fun v5 hv45 heq => ?_)
      have HJ9 := Lib.hid (HJ7.out.below hv45)
      have HB9 := Lib.hid (HB7.out.trans (hv45.mono HB7.out.size))
      have hlen9 : (if s'.2 = true then 0 else s'.1.length) = s'.1.length := by
        obtain ⟨A9, c9, _, _, _, _, _, _, _, h9⟩ := HJ9.out.2.1
        split
        · next h => rw [h9 h]; rfl
        · rfl
      obtain ⟨A9, c9, hg9, _⟩ := id HJ9.out.2.1
      have hc9 := blk_at hg9 0 _ rfl
      refine region_sw (fun W => W.cell? ⟨w3.heap.size, 0, none⟩ = some (.slice A9 s'.1.length c9)) (fun _ _ => trivial) ?_
      have hHeld := hc9
      first
        | (refine take_in (i := 0) (v := ?_) rfl (by kernel_rfl) (by kernel_rfl) (by kernel_rfl) (fun _ _ _ h => h) (Or.inl ⟨by rfl, ?_⟩) hHeld ?_; rotate_left; (focus (intro W hSw; go_simp; (try rfl); done)); (try simp only [Act.put, List.setIfInBounds_toArray, List.set_cons_zero, List.set_cons_succ]))
        | (refine take_in (i := 0) (v := undef) rfl (by kernel_rfl) (by kernel_rfl) (by kernel_rfl) (fun _ _ _ h => h) (Or.inr ⟨by rfl, rfl⟩) hHeld ?_; (try simp only [Act.put, List.setIfInBounds_toArray, List.set_cons_zero, List.set_cons_succ]))
        | (fail "STAKE 0")
      first
        | (refine take_in (i := 1) (v := ?_) rfl (by kernel_rfl) (by kernel_rfl) (by kernel_rfl) (fun _ _ _ h => h) (Or.inl ⟨by rfl, ?_⟩) hHeld ?_; rotate_left; (focus (intro W hSw; go_simp; (try rfl); done)); (try simp only [Act.put, List.setIfInBounds_toArray, List.set_cons_zero, List.set_cons_succ]))
        | (refine take_in (i := 1) (v := undef) rfl (by kernel_rfl) (by kernel_rfl) (by kernel_rfl) (fun _ _ _ h => h) (Or.inr ⟨by rfl, rfl⟩) hHeld ?_; (try simp only [Act.put, List.setIfInBounds_toArray, List.set_cons_zero, List.set_cons_succ]))
        | (fail "STAKE 1")
      first
        | (refine take_in (i := 2) (v := ?_) rfl (by kernel_rfl) (by kernel_rfl) (by kernel_rfl) (fun _ _ _ h => h) (Or.inl ⟨by rfl, ?_⟩) hHeld ?_; rotate_left; (focus (intro W hSw; go_simp; (try rfl); done)); (try simp only [Act.put, List.setIfInBounds_toArray, List.set_cons_zero, List.set_cons_succ]))
        | (refine take_in (i := 2) (v := undef) rfl (by kernel_rfl) (by kernel_rfl) (by kernel_rfl) (fun _ _ _ h => h) (Or.inr ⟨by rfl, rfl⟩) hHeld ?_; (try simp only [Act.put, List.setIfInBounds_toArray, List.set_cons_zero, List.set_cons_succ]))
        | (fail "STAKE 2")
      first
        | (refine take_in (i := 3) (v := ?_) rfl (by kernel_rfl) (by kernel_rfl) (by kernel_rfl) (fun _ _ _ h => h) (Or.inl ⟨by rfl, ?_⟩) hHeld ?_; rotate_left; (focus (intro W hSw; go_simp; (try rfl); done)); (try simp only [Act.put, List.setIfInBounds_toArray, List.set_cons_zero, List.set_cons_succ]))
        | (refine take_in (i := 3) (v := undef) rfl (by kernel_rfl) (by kernel_rfl) (by kernel_rfl) (fun _ _ _ h => h) (Or.inr ⟨by rfl, rfl⟩) hHeld ?_; (try simp only [Act.put, List.setIfInBounds_toArray, List.set_cons_zero, List.set_cons_succ]))
        | (fail "STAKE 3")
      first
        | (refine take_in (i := 5) (v := ?_) rfl (by kernel_rfl) (by kernel_rfl) (by kernel_rfl) (fun _ _ _ h => h) (Or.inl ⟨by rfl, ?_⟩) hHeld ?_; rotate_left; (focus (intro W hSw; go_simp; (try rfl); done)); (try simp only [Act.put, List.setIfInBounds_toArray, List.set_cons_zero, List.set_cons_succ]))
        | (refine take_in (i := 5) (v := undef) rfl (by kernel_rfl) (by kernel_rfl) (by kernel_rfl) (fun _ _ _ h => h) (Or.inr ⟨by rfl, rfl⟩) hHeld ?_; (try simp only [Act.put, List.setIfInBounds_toArray, List.set_cons_zero, List.set_cons_succ]))
        | (fail "STAKE 5")
      first
        | (refine take_in (i := 6) (v := ?_) rfl (by kernel_rfl) (by kernel_rfl) (by kernel_rfl) (fun _ _ _ h => h) (Or.inl ⟨by rfl, ?_⟩) hHeld ?_; rotate_left; (focus (intro W hSw; go_simp; (try rfl); done)); (try simp only [Act.put, List.setIfInBounds_toArray, List.set_cons_zero, List.set_cons_succ]))
        | (refine take_in (i := 6) (v := undef) rfl (by kernel_rfl) (by kernel_rfl) (by kernel_rfl) (fun _ _ _ h => h) (Or.inr ⟨by rfl, rfl⟩) hHeld ?_; (try simp only [Act.put, List.setIfInBounds_toArray, List.set_cons_zero, List.set_cons_succ]))
        | (fail "STAKE 6")
      first
        | (refine take_in (i := 7) (v := ?_) rfl (by kernel_rfl) (by kernel_rfl) (by kernel_rfl) (fun _ _ _ h => h) (Or.inl ⟨by rfl, ?_⟩) hHeld ?_; rotate_left; (focus (intro W hSw; go_simp; (try rfl); done)); (try simp only [Act.put, List.setIfInBounds_toArray, List.set_cons_zero, List.set_cons_succ]))
        | (refine take_in (i := 7) (v := undef) rfl (by kernel_rfl) (by kernel_rfl) (by kernel_rfl) (fun _ _ _ h => h) (Or.inr ⟨by rfl, rfl⟩) hHeld ?_; (try simp only [Act.put, List.setIfInBounds_toArray, List.set_cons_zero, List.set_cons_succ]))
        | (fail "STAKE 7")
      first
        | (refine take_in (i := 8) (v := ?_) rfl (by kernel_rfl) (by kernel_rfl) (by kernel_rfl) (fun _ _ _ h => h) (Or.inl ⟨by rfl, ?_⟩) hHeld ?_; rotate_left; (focus (intro W hSw; go_simp; (try rfl); done)); (try simp only [Act.put, List.setIfInBounds_toArray, List.set_cons_zero, List.set_cons_succ]))
        | (refine take_in (i := 8) (v := undef) rfl (by kernel_rfl) (by kernel_rfl) (by kernel_rfl) (fun _ _ _ h => h) (Or.inr ⟨by rfl, rfl⟩) hHeld ?_; (try simp only [Act.put, List.setIfInBounds_toArray, List.set_cons_zero, List.set_cons_succ]))
        | (fail "STAKE 8")
      first
        | (refine take_in (i := 9) (v := ?_) rfl (by kernel_rfl) (by kernel_rfl) (by kernel_rfl) (fun _ _ _ h => h) (Or.inl ⟨by rfl, ?_⟩) hHeld ?_; rotate_left; (focus (intro W hSw; go_simp; (try rfl); done)); (try simp only [Act.put, List.setIfInBounds_toArray, List.set_cons_zero, List.set_cons_succ]))
        | (refine take_in (i := 9) (v := undef) rfl (by kernel_rfl) (by kernel_rfl) (by kernel_rfl) (fun _ _ _ h => h) (Or.inr ⟨by rfl, rfl⟩) hHeld ?_; (try simp only [Act.put, List.setIfInBounds_toArray, List.set_cons_zero, List.set_cons_succ]))
        | (fail "STAKE 9")
      refine call_inS (i := 4) rfl (by kernel_rfl) (by kernel_rfl) (fun K hK => ?_)
      clear hHeld
      go_simp
      refine (rLeft_any _ _ _ HJ9.out.1).mono ?_
      rintro e v6 ⟨rfl, rfl⟩
      rw [hlen9]
      have hHeld := hc9
      refine hK.out (fun W => W.cell? ⟨w3.heap.size, 0, none⟩ = some (.slice A9 s'.1.length c9)) _ _ hHeld (fun _ h => h) ?_
      (try simp only [Act.put, List.setIfInBounds_toArray, List.set_cons_zero, List.set_cons_succ])
      first
        | (refine take_in (i := 10) (v := ?_) rfl (by kernel_rfl) (by kernel_rfl) (by kernel_rfl) (fun _ _ _ h => h) (Or.inl ⟨by rfl, ?_⟩) hHeld ?_; rotate_left; (focus (intro W hSw; go_simp; (try rfl); done)); (try simp only [Act.put, List.setIfInBounds_toArray, List.set_cons_zero, List.set_cons_succ]))
        | (refine take_in (i := 10) (v := undef) rfl (by kernel_rfl) (by kernel_rfl) (by kernel_rfl) (fun _ _ _ h => h) (Or.inr ⟨by rfl, rfl⟩) hHeld ?_; (try simp only [Act.put, List.setIfInBounds_toArray, List.set_cons_zero, List.set_cons_succ]))
        | (fail "STAKE 10")
      first
        | (refine take_in (i := 11) (v := ?_) rfl (by kernel_rfl) (by kernel_rfl) (by kernel_rfl) (fun _ _ _ h => h) (Or.inl ⟨by rfl, ?_⟩) hHeld ?_; rotate_left; (focus (intro W hSw; go_simp; (try rfl); done)); (try simp only [Act.put, List.setIfInBounds_toArray, List.set_cons_zero, List.set_cons_succ]))
        | (refine take_in (i := 11) (v := undef) rfl (by kernel_rfl) (by kernel_rfl) (by kernel_rfl) (fun _ _ _ h => h) (Or.inr ⟨by rfl, rfl⟩) hHeld ?_; (try simp only [Act.put, List.setIfInBounds_toArray, List.set_cons_zero, List.set_cons_succ]))
        | (fail "STAKE 11")
      refine wpAnyH_done (by kernel_rfl) ?_ _
      go_wp2_with fail
      go_roundw
      case measure => simp [intOf]; omega
      case rel => exact ⟨i + 1, s', by omega, by go_num, HJ9.out, HB9.out⟩
    · obtain rfl : i = na := by omega
      go_wp2_with fail
      obtain ⟨E, hE⟩ : ∃ E : Int, (if s.2 = true ∨ s.1 ≠ [] then 20 else 0) = E := ⟨_, rfl⟩
      have H1 := Lib.hid (rEnd_any _ _ _ HJ.out.1)
      have H2 := Lib.hid (rrEnd_any _ _ _ _ HJ.out.2.1)
      rw [hE] at H1 H2
      clear hE
      refine H1.out.mono ?_
      rintro e w4 ⟨rfl, rfl⟩
      go_wp2_with fail
      refine H2.out.mono ?_
      rintro e w4 ⟨rfl, rfl⟩
      go_wp2_with fail
      go_ret
      exact ⟨ret_bool (by simp), HB.out⟩
end Go.Proofs.Ytnolhnlhohpkpaa
