import Derived.Test.YtnolhnlhohpkpaaRcdX
namespace Go.Proofs.Ytnolhnlhohpkpaa
open Go.RowKit Cdc
set_option linter.unusedVariables false
set_option linter.unusedSimpArgs false
set_option maxHeartbeats 4000000 in
set_option maxRecDepth 20000 in
theorem rput_any (w : World) (A : Option Addr) (n c : Nat) (l : List PartT) (hl : Rows w anyB PART A n l) (hn : n ≤ 90) (hb : ∀ x ∈ l, x.2.2.2.2.1.length ≤ 1000) :
    Calls Try.prog 15 #[.slice A n c] w (OBPost w w.heap.size (encParts keyN l)) := by
  replace hl := hl.weak (ok' := fun k => k < w.heap.size) (fun k _ hlt => hlt)
  go_enter Try.func15, Try.ntmps15
  go_wp2_with fail
  go_loopw [3, 8] (fun s3 s8 wr => ∃ (i : Nat) (v : Value), i ≤ n ∧ v = s3 ∧ s8 = .int .i64 i ∧ OB wr w.heap.size v (encParts keyN (l.take i)) ∧ Below w.heap.size w wr) (fun _ s8 _ => n - (intOf s8).toNat)
  case atStart => exact ⟨0, _, by omega, rfl, rfl, ob_of (own_nil _ _ _ _), Below.refl _ _⟩
  case round =>
    obtain ⟨i, v, hi, rfl, rfl, hO, hbel⟩ := hrel
    have hll := hl.1
    have hel := encParts_le (l.take i) (fun x hx => hb x (List.mem_of_mem_take hx))
    rw [List.length_take, Nat.min_eq_left (by omega)] at hel
    by_cases hlt : i < n
    · obtain ⟨x, hx⟩ : ∃ x, l[i]? = some x := ⟨l[i]'(by omega), List.getElem?_eq_getElem (by omega)⟩
      obtain ⟨ad, rfl⟩ : ∃ ad, A = some ad := by cases A with
        | none => exact absurd (hl.2.1 rfl) (by omega)
        | some ad => exact ⟨ad, rfl⟩
      obtain ⟨cs, _, hat, hrd⟩ := hl.2.2 ad rfl i x hx
      have i0 : (0 : Int) ≤ (i : Int) := by omega
      have i1 : (i : Int) < (n : Int) := by omega
      have HAt := Lib.hid (hat.add.below hbel)
      have hbx := hb x (List.mem_of_getElem? hx)
      have HN := Lib.hid (show encParts keyN (l.take (i + 1)) = encParts keyN (l.take i) ++ encPart keyN x by rw [take_at hx, encParts_snoc])
      obtain ⟨k, nn, ii, f, bs, q, bv, rfl, rfl, hk, hok, h5⟩ := rd_part hrd
      have hbi : ∀ ad', bs ≠ [] → (∃ n c, bv = .slice (some ad') n c) → ad'.block < w.heap.size := by
        rintro ad' hne ⟨n', c', rfl⟩
        obtain ⟨A', n2, c2, e, _, _, _, hr⟩ := rd_sl.1 h5
        injection e with e _
        injection e with e1 e2 e3
        subst e1
        cases bs with
        | nil => exact absurd rfl hne
        | cons b0 bs0 =>
          obtain ⟨cs0, g0, _, g2⟩ := hr.2.2 ad' rfl 0 b0 rfl
          refine g0 ?_
          intro e
          have hg2 := g2.len
          rw [e] at hg2
          simp [Sh.size] at hg2
      obtain ⟨Ab, cb, rfl, _, _, _, hbs⟩ := rd_bs h5
      have HBI := Lib.hid (show ∀ ad', Ab = some ad' → bs ≠ [] → ad'.block < w.heap.size from fun ad' e hne => hbi ad' hne ⟨_, _, by rw [e]⟩)
      have HBs := Lib.hid hbs
      have HO := Lib.hid hO
      have hwz := hbel.size
      have hbl : bs.length ≤ 1000 := hbx
      obtain ⟨o1, o2, o3, o4, o5⟩ := hok
      simp only at o1 o2 o3 o4 o5
      obtain ⟨zs, hz⟩ : ∃ zs, encParts keyN (l.take i) = zs := ⟨_, rfl⟩
      rw [hz] at HO HN hel
      have HEL := Lib.hid hel
      clear hat hrd hx hk h5 hbs hO hz hbx hel hbi
      by_cases k1 : k = 1
      · subst k1
        obtain ⟨m, rfl⟩ : ∃ m : Nat, nn = (m : Int) := ⟨nn.toNat, by omega⟩
        have HE := Lib.hid (show encPart keyN (1, (m : Int), ii, f, bs, q, ()) = encN m from rfl)
        go_wp2_with (first
          | (refine wpL_load rfl 39 (.tmp 10) rfl _ rfl _ _ HAt.out Try.underlying39 rfl rfl ?_)
          | (refine wpL_store rfl 39 (.tmp 5) (.tmp 11) rfl wr.heap.size rfl _ _ 39 rfl (heap_alloc_new wr _) rfl rfl (by intro v hv; simp at hv; rcases hv with rfl | rfl | rfl | rfl | rfl | rfl <;> rfl) ?_
             intro w1 hc1 hg1
             have hbw1 : Below wr.heap.size wr w1 := (below_alloc1 wr _).grown hg1 (by simp) (fun k e => by cases e; exact Nat.le_refl _)
             obtain ⟨c0, c1, c2, c3, c4, c5⟩ := blk6 hc1
             have HO1 := Lib.hid (show OB w1 w.heap.size v zs from own_below HO.out hbw1)
             have HB1 := Lib.hid (hbel.trans (hbw1.mono hwz))
             have HBs1 := Lib.hid ((HBs.out.below hbel).below hbw1)
             have hs1 := HB1.out.size
             clear hc1 hg1 hbw1)
          | (go_at_call 60
             refine (rwN_any w.heap.size w1 v zs m HO1.out hs1 (by omega) (by have := HEL.out; omega)).mono ?_
             rintro e w2 ⟨v2, rfl, hO2, hb2⟩
             have HO2 := Lib.hid hO2
             have HB2 := Lib.hid (HB1.out.trans hb2)
             clear hO2 hb2))
        go_roundw
        case measure => simp [intOf]; omega
        case rel => exact ⟨i + 1, _, by omega, rfl, by go_num, by rw [HN.out, HE.out]; exact HO2.out, HB2.out⟩
      by_cases k2 : k = 2
      · subst k2
        have HE := Lib.hid (show encPart keyN (2, nn, ii, f, bs, q, ()) = encN (zig ii) from rfl)
        go_wp2_with (first
          | (refine wpL_load rfl 39 (.tmp 10) rfl _ rfl _ _ HAt.out Try.underlying39 rfl rfl ?_)
          | (refine wpL_store rfl 39 (.tmp 5) (.tmp 11) rfl wr.heap.size rfl _ _ 39 rfl (heap_alloc_new wr _) rfl rfl (by intro v hv; simp at hv; rcases hv with rfl | rfl | rfl | rfl | rfl | rfl <;> rfl) ?_
             intro w1 hc1 hg1
             have hbw1 : Below wr.heap.size wr w1 := (below_alloc1 wr _).grown hg1 (by simp) (fun k e => by cases e; exact Nat.le_refl _)
             obtain ⟨c0, c1, c2, c3, c4, c5⟩ := blk6 hc1
             have HO1 := Lib.hid (show OB w1 w.heap.size v zs from own_below HO.out hbw1)
             have HB1 := Lib.hid (hbel.trans (hbw1.mono hwz))
             have HBs1 := Lib.hid ((HBs.out.below hbel).below hbw1)
             have hs1 := HB1.out.size
             clear hc1 hg1 hbw1)
          | (go_at_call 61
             refine (rwI_any w.heap.size w1 v zs ii HO1.out hs1 o3 o4 (by have := HEL.out; omega)).mono ?_
             rintro e w2 ⟨v2, rfl, hO2, hb2⟩
             have HO2 := Lib.hid hO2
             have HB2 := Lib.hid (HB1.out.trans hb2)
             clear hO2 hb2))
        go_roundw
        case measure => simp [intOf]; omega
        case rel => exact ⟨i + 1, _, by omega, rfl, by go_num, by rw [HN.out, HE.out]; exact HO2.out, HB2.out⟩
      by_cases k3 : k = 3
      · subst k3
        have HE := Lib.hid (show encPart keyN (3, nn, ii, f, bs, q, ()) = be 8 (keyN f) from rfl)
        go_wp2_with (first
          | (refine wpL_load rfl 39 (.tmp 10) rfl _ rfl _ _ HAt.out Try.underlying39 rfl rfl ?_)
          | (refine wpL_store rfl 39 (.tmp 5) (.tmp 11) rfl wr.heap.size rfl _ _ 39 rfl (heap_alloc_new wr _) rfl rfl (by intro v hv; simp at hv; rcases hv with rfl | rfl | rfl | rfl | rfl | rfl <;> rfl) ?_
             intro w1 hc1 hg1
             have hbw1 : Below wr.heap.size wr w1 := (below_alloc1 wr _).grown hg1 (by simp) (fun k e => by cases e; exact Nat.le_refl _)
             obtain ⟨c0, c1, c2, c3, c4, c5⟩ := blk6 hc1
             have HO1 := Lib.hid (show OB w1 w.heap.size v zs from own_below HO.out hbw1)
             have HB1 := Lib.hid (hbel.trans (hbw1.mono hwz))
             have HBs1 := Lib.hid ((HBs.out.below hbel).below hbw1)
             have hs1 := HB1.out.size
             clear hc1 hg1 hbw1)
          | (go_at_call 62
             refine (rwF_any w.heap.size w1 v zs f o5 HO1.out hs1 (by have := HEL.out; omega)).mono ?_
             rintro e w2 ⟨v2, rfl, hO2, hb2⟩
             have HO2 := Lib.hid hO2
             have HB2 := Lib.hid (HB1.out.trans hb2)
             clear hO2 hb2))
        go_roundw
        case measure => simp [intOf]; omega
        case rel => exact ⟨i + 1, _, by omega, rfl, by go_num, by rw [HN.out, HE.out]; exact HO2.out, HB2.out⟩
      by_cases k4 : k = 4
      · subst k4
        have HE := Lib.hid (show encPart keyN (4, nn, ii, f, bs, q, ()) = encN bs.length ++ bs from rfl)
        go_wp2_with (first
          | (refine wpL_load rfl 39 (.tmp 10) rfl _ rfl _ _ HAt.out Try.underlying39 rfl rfl ?_)
          | (refine wpL_store rfl 39 (.tmp 5) (.tmp 11) rfl wr.heap.size rfl _ _ 39 rfl (heap_alloc_new wr _) rfl rfl (by intro v hv; simp at hv; rcases hv with rfl | rfl | rfl | rfl | rfl | rfl <;> rfl) ?_
             intro w1 hc1 hg1
             have hbw1 : Below wr.heap.size wr w1 := (below_alloc1 wr _).grown hg1 (by simp) (fun k e => by cases e; exact Nat.le_refl _)
             obtain ⟨c0, c1, c2, c3, c4, c5⟩ := blk6 hc1
             have HO1 := Lib.hid (show OB w1 w.heap.size v zs from own_below HO.out hbw1)
             have HB1 := Lib.hid (hbel.trans (hbw1.mono hwz))
             have HBs1 := Lib.hid ((HBs.out.below hbel).below hbw1)
             have hs1 := HB1.out.size
             clear hc1 hg1 hbw1)
          | (go_at_call 63
             refine (rwB_any w.heap.size w1 v zs Ab bs.length cb bs HO1.out hs1 HBs1.out HBI.out (by omega) (by have := HEL.out; omega) (by have := HEL.out; omega)).mono ?_
             rintro e w2 ⟨v2, rfl, hO2, hb2⟩
             have HO2 := Lib.hid hO2
             have HB2 := Lib.hid (HB1.out.trans hb2)
             clear hO2 hb2))
        go_roundw
        case measure => simp [intOf]; omega
        case rel => exact ⟨i + 1, _, by omega, rfl, by go_num, by rw [HN.out, HE.out]; exact HO2.out, HB2.out⟩
      by_cases k5 : k = 5
      · subst k5
        have HE := Lib.hid (show encPart keyN (5, nn, ii, f, bs, q, ()) = encN (if q = true then 1 else 0) from rfl)
        go_wp2_with (first
          | (refine wpL_load rfl 39 (.tmp 10) rfl _ rfl _ _ HAt.out Try.underlying39 rfl rfl ?_)
          | (refine wpL_store rfl 39 (.tmp 5) (.tmp 11) rfl wr.heap.size rfl _ _ 39 rfl (heap_alloc_new wr _) rfl rfl (by intro v hv; simp at hv; rcases hv with rfl | rfl | rfl | rfl | rfl | rfl <;> rfl) ?_
             intro w1 hc1 hg1
             have hbw1 : Below wr.heap.size wr w1 := (below_alloc1 wr _).grown hg1 (by simp) (fun k e => by cases e; exact Nat.le_refl _)
             obtain ⟨c0, c1, c2, c3, c4, c5⟩ := blk6 hc1
             have HO1 := Lib.hid (show OB w1 w.heap.size v zs from own_below HO.out hbw1)
             have HB1 := Lib.hid (hbel.trans (hbw1.mono hwz))
             have HBs1 := Lib.hid ((HBs.out.below hbel).below hbw1)
             have hs1 := HB1.out.size
             clear hc1 hg1 hbw1)
          | (go_at_call 64
             refine (rwFlag_any w.heap.size w1 v zs q HO1.out hs1 (by have := HEL.out; omega)).mono ?_
             rintro e w2 ⟨v2, rfl, hO2, hb2⟩
             have HO2 := Lib.hid hO2
             have HB2 := Lib.hid (HB1.out.trans hb2)
             clear hO2 hb2))
        go_roundw
        case measure => simp [intOf]; omega
        case rel => exact ⟨i + 1, _, by omega, rfl, by go_num, by rw [HN.out, HE.out]; exact HO2.out, HB2.out⟩
      have HE := Lib.hid (show encPart keyN (k, nn, ii, f, bs, q, ()) = [] by unfold encPart; rw [if_neg k1, if_neg k2, if_neg k3, if_neg k4, if_neg k5])
      have b1 : (k == 1) = false := beq_eq_false_iff_ne.2 k1
      have b2 : (k == 2) = false := beq_eq_false_iff_ne.2 k2
      have b3 : (k == 3) = false := beq_eq_false_iff_ne.2 k3
      have b4 : (k == 4) = false := beq_eq_false_iff_ne.2 k4
      have b5 : (k == 5) = false := beq_eq_false_iff_ne.2 k5
      go_wp2_with (first
        | (refine wpL_load rfl 39 (.tmp 10) rfl _ rfl _ _ HAt.out Try.underlying39 rfl rfl ?_)
        | (refine wpL_store rfl 39 (.tmp 5) (.tmp 11) rfl wr.heap.size rfl _ _ 39 rfl (heap_alloc_new wr _) rfl rfl (by intro v hv; simp at hv; rcases hv with rfl | rfl | rfl | rfl | rfl | rfl <;> rfl) ?_
           intro w1 hc1 hg1
           have hbw1 : Below wr.heap.size wr w1 := (below_alloc1 wr _).grown hg1 (by simp) (fun k e => by cases e; exact Nat.le_refl _)
           obtain ⟨c0, c1, c2, c3, c4, c5⟩ := blk6 hc1
           have HO1 := Lib.hid (show OB w1 w.heap.size v zs from own_below HO.out hbw1)
           have HB1 := Lib.hid (hbel.trans (hbw1.mono hwz))
           clear hc1 hg1 hbw1))
      go_roundw
      case measure => simp [intOf]; omega
      case rel => exact ⟨i + 1, _, by omega, rfl, by go_num, by rw [HN.out, HE.out, List.append_nil]; exact HO1.out, HB1.out⟩
    · obtain rfl : i = n := by omega
      have HE := Lib.hid (show encParts keyN (l.take i) = encParts keyN l by rw [List.take_of_length_le (by omega)])
      have HO := Lib.hid hO
      clear hO hel
      go_wp2_with fail
      go_ret
      rw [← HE.out]
      exact ⟨_, rfl, HO.out, hbel⟩
end Go.Proofs.Ytnolhnlhohpkpaa
