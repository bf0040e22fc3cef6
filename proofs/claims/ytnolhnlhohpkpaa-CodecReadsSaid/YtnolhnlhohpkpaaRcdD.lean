import Derived.Test.YtnolhnlhohpkpaaRcdC
namespace Go.Proofs.Ytnolhnlhohpkpaa
open Go.RowKit Cdc
set_option linter.unusedVariables false
set_option linter.unusedSimpArgs false
attribute [local go_sem] run_store_float
set_option maxRecDepth 20000 in
theorem parts_own {l : List PartT} (h : ∀ x ∈ l, PartOk x) (hb : ∀ x ∈ l, x.2.2.2.2.1.length ≤ 200) (hk : ∀ x ∈ l, 1 ≤ x.1 ∧ x.1 ≤ 5) :
    partsL ofN (encParts keyN l) (l.map fun x => x.1) = some (l.map (ownP rcanF)) :=
  parts_back (key := keyN) (of := ofN) (can := rcanF) (fun f hf => by
    have hr := keyV_range f hf
    show (keyF f).toNat < _
    rw [keyF_eq hf]; omega) (fun f hf => by
    have hr := keyV_range f hf
    have h2 := of_key hf
    show ofF (((keyF f).toNat : Nat) : Int) = _
    rw [show (((keyF f).toNat : Nat) : Int) = keyF f by rw [keyF_eq hf]; omega, h2]) l (fun x hx => ⟨h x hx, by have := hb x hx; omega, hk x hx⟩)
set_option maxRecDepth 20000 in
theorem encs_le : ∀ (l : List PartT), l.length ≤ 20 → (∀ x ∈ l, x.2.2.2.2.1.length ≤ 200) → (encParts keyN l).length ≤ 100000 := by
  suffices h : ∀ l : List PartT, (∀ x ∈ l, x.2.2.2.2.1.length ≤ 200) → (encParts keyN l).length ≤ 1009 * l.length by
    intro l hl hb
    have := h l hb
    omega
  intro l
  induction l with
  | nil => intro _; exact Nat.zero_le _
  | cons x l ih =>
    intro hb
    have h1 := encPart_le x (by have := hb x List.mem_cons_self; omega)
    have h2 := ih (fun y hy => hb y (List.mem_cons_of_mem _ hy))
    simp only [encParts, List.length_append, List.length_cons]
    omega
set_option maxHeartbeats 4000000 in
set_option maxRecDepth 20000 in
theorem w_CodecBack (a : Option Addr) (na ca : Nat) (l : List PartT) (w : World) (ha : Rd w anyB (.sl PART) l [.slice a na ca]) :
    Calls Try.prog 4 #[.slice a na ca] w fun e w' => e = .returned (.bool true) ∧ Below w.heap.size w w' := by
  have HA := Lib.hid (rd_rows ha).2.2.2
  have hna : na ≤ 9223372036854775807 := by have := rd_rows ha; omega
  clear ha
  go_enter Try.func4, Try.ntmps4
  go_wp2_with fail
  refine (cdc_awake w).mono ?_
  rintro e w1 ⟨rfl, hw1⟩
  go_wp2_with fail
  refine (few_any w1 a na ca l (HA.out.below hw1) hna).mono ?_
  rintro e w2 ⟨p, rfl, hp, hw12⟩
  have hw2 := hw1.trans (hw12.mono hw1.size)
  cases p with
  | false =>
    clear hp
    go_wp2_with fail
    go_ret
    exact ⟨rfl, hw2⟩
  | true =>
  have HF := Lib.hid (hp rfl)
  clear hp
  have h20 := HF.out.1
  go_wp2_with fail
  refine (known_any w2 a na ca l (HA.out.below hw2) hna).mono ?_
  rintro e w3 ⟨p, rfl, hp, hw23⟩
  have hw3 := hw2.trans (hw23.mono hw2.size)
  cases p with
  | false =>
    clear hp
    go_wp2_with fail
    go_ret
    exact ⟨rfl, hw3⟩
  | true =>
  have HK := Lib.hid (hp rfl)
  clear hp
  have HW3 := Lib.hid hw3
  go_wp2_with fail
  go_loopw [3, 20] (fun s3 s20 wr => ∃ (i : Nat) (v : Value), i ≤ na ∧ v = s3 ∧ s20 = .int .i64 i ∧ OwnG wr w3.heap.size (fun b => b < w.heap.size ∨ w3.heap.size ≤ b) 39 PART v ((l.take i).map (ownP rcanF)) ∧ Below w3.heap.size w3 wr) (fun _ s20 _ => na - (intOf s20).toNat)
  case atStart => exact ⟨0, _, by omega, rfl, rfl, OwnG.nil _ _ _ _ _, Below.refl _ _⟩
  case round =>
    obtain ⟨i, v, hi, rfl, rfl, hO, hbel⟩ := hrel
    have hl := HA.out.1
    have HB := Lib.hid hbel
    have HO := Lib.hid hO
    have hlen : ((l.take i).map (ownP rcanF)).length = i := by simp; omega
    by_cases hlt : i < na
    · obtain ⟨x, hx⟩ : ∃ x, l[i]? = some x := ⟨l[i]'(by omega), List.getElem?_eq_getElem (by omega)⟩
      obtain ⟨ad, rfl⟩ : ∃ ad, a = some ad := by cases a with
        | none => exact absurd (HA.out.2.1 rfl) (by omega)
        | some ad => exact ⟨ad, rfl⟩
      have HA2 := Lib.hid (HA.out.weak (ok' := fun b => b < w.heap.size) (fun k _ hlt => hlt))
      obtain ⟨cs, _, hat, hrd⟩ := HA2.out.2.2 ad rfl i x hx
      have i0 : (0 : Int) ≤ (i : Int) := by omega
      have i1 : (i : Int) < (na : Int) := by omega
      have hw3r := HW3.out.trans (hbel.mono HW3.out.size)
      have HAt := Lib.hid (hat.add.below hw3r)
      obtain ⟨k, nn, ii, f, bs, q, bv, rfl, rfl, hk, hok, h5⟩ := rd_part hrd
      obtain ⟨Ab, cb, rfl, _, _, _, _⟩ := rd_bs h5
      have HN := Lib.hid (show (l.take (i + 1)).map (ownP rcanF) = (l.take i).map (ownP rcanF) ++ [ownP rcanF (k, nn, ii, f, bs, q, ())] by rw [take_at hx, List.map_append]; rfl)
      have HX := Lib.hid (And.intro hk (And.intro hok (h5.below hw3r)))
      obtain ⟨A3, c3, rfl, _⟩ := HO.out.form
      rw [hlen] at HO ⊢
      clear hat hrd hx hk h5 hok hO HA2
      go_wp2_with (first
        | (refine wpL_load rfl 39 (.tmp 22) rfl _ rfl _ _ HAt.out Try.underlying39 rfl rfl ?_)
        | (refine wpL_store rfl 39 (.tmp 5) (.tmp 23) rfl wr.heap.size rfl _ _ 39 rfl (heap_alloc_new wr _) rfl rfl (by intro v hv; simp at hv; rcases hv with rfl | rfl | rfl | rfl | rfl | rfl <;> rfl) ?_
           intro w4 hc1 hg1
           have hbw1 : Below wr.heap.size wr w4 := (below_alloc1 wr _).grown hg1 (by simp) (fun k e => by cases e; exact Nat.le_refl _)
           have HC1 := Lib.hid hc1
           have HB1 := Lib.hid hbw1
           clear hc1 hg1 hbw1)
        | (refine wpL_load rfl 39 (.tmp 5) rfl ⟨wr.heap.size, 0, none⟩ rfl _ _ (At.blk HC1.out) Try.underlying39 rfl rfl ?_)
        | (go_at_call 18
           refine (own_any w4 (fun b => b < w.heap.size) k nn ii f bs q Ab cb HX.out.1 HX.out.2.1 (HX.out.2.2.below HB1.out)).mono ?_
           rintro e w5 ⟨cs, rfl, hr5, hw45⟩
           have HR5 := Lib.hid hr5
           have HB5 := Lib.hid (HB1.out.trans (hw45.mono HB1.out.size))
           clear hr5 hw45)
        | (refine wpL_lit1 rfl (cs := cs) (.tmp 26) rfl rfl Try.underlying22 info_part rfl (by decide) (by decide) HR5.out.len ?_)
        | (at_builtin
           have HO5 := Lib.hid (OwnG.below (OwnG.below HO.out HB5.out) (below_alloc1 w5 (.cells cs.toArray 39)))
           refine wp_appO (w0 := w5.alloc (.cells cs.toArray 39)) (m := 1) (r := [ownP rcanF (k, nn, ii, f, bs, q, ())]) (ys := cs) rfl (.tmp 24) (.tmp 27) rfl HO5.out rfl (fun e => by cases e) (fun ad' e => by cases e; exact At.blk (heap_alloc_new w5 _)) (RdL.single (HO.out.past HR5.out (fun b (hb : b < w.heap.size) => ⟨.inl hb, Nat.lt_of_lt_of_le hb HW3.out.size⟩) (below_alloc1 w5 _))) (Below.refl _ _) Try.underlying22 info_part rfl (by decide) rfl rfl (by rw [bytes_part, hlen]; omega) (by rw [hlen]; omega) (by have := HB.out.size; have := HB5.out.size; simp; omega) ?_
           intro v7 w7 hO7 hb7 _ _
           have HO7 := Lib.hid hO7
           have HB7 := Lib.hid hb7
           clear hO7 hb7))
      go_roundw
      case measure => simp [intOf]; omega
      case rel =>
        have hs5 := HB5.out.size
        exact ⟨i + 1, _, by omega, rfl, by go_num, by rw [HN.out]; exact HO7.out, (HB.out.trans ((HB5.out.trans ((below_alloc1 w5 _).mono hs5)).mono HB.out.size)).trans HB7.out⟩
    · obtain rfl : i = na := by omega
      have hall : l.take i = l := List.take_of_length_le (by omega)
      rw [hall] at HO
      obtain ⟨A3, n3, c3, e3, hn3, hn4, hn5, hR3⟩ := rd_sl.1 HO.out.rd
      obtain rfl : v = .slice A3 n3 c3 := by simpa using e3
      have HR3 := Lib.hid hR3
      have hP := parts_own (rows_ok HA.out) HF.out.2 HK.out
      have HP := Lib.hid hP
      have HBr := Lib.hid (HW3.out.trans (hbel.mono HW3.out.size))
      clear hO HO hP hR3 e3 hn3 hn4 hn5
      go_wp2_with fail
      refine (put_any wr a i ca l (HA.out.below HBr.out) (by omega) (fun x hx => by have := HF.out.2 x hx; omega)).mono ?_
      rintro e w6 ⟨v6, rfl, hr6, hw56⟩
      have HB6 := Lib.hid (HBr.out.trans (hw56.mono HBr.out.size))
      have HR36 := Lib.hid (HR3.out.below hw56)
      obtain ⟨A6, c6, rfl, _⟩ := rd_bs hr6
      have HR6 := Lib.hid hr6
      clear hr6 hw56
      go_wp2_with fail
      refine (kinds_any w6 a i ca l (HA.out.below HB6.out) (by omega)).mono ?_
      rintro e w7 ⟨A7, c7, rfl, hr7, hw67⟩
      rw [List.length_map, hl] at hr7 ⊢
      have HB7 := Lib.hid (HB6.out.trans (hw67.mono HB6.out.size))
      have HR37 := Lib.hid (HR36.out.below hw67)
      have HR67 := Lib.hid (HR6.out.below hw67)
      have HR7 := Lib.hid hr7
      clear hr7 hw67
      go_wp2_with fail
      refine (parts_any w7 A6 (encParts keyN l).length c6 (encParts keyN l) HR67.out.any (encs_le l (by omega) HF.out.2) A7 i c7 (l.map fun x => x.1) HR7.out (by omega)).mono ?_
      intro e w8 h8
      unfold PartsPost at h8
      rw [HP.out] at h8
      obtain ⟨v8, rfl, hr8, hw78⟩ := h8
      have HB8 := Lib.hid (HB7.out.trans (hw78.mono HB7.out.size))
      obtain ⟨A8, n8, c8, e8, _, _, _, hR8⟩ := rd_sl.1 hr8
      obtain rfl : v8 = .slice A8 n8 c8 := by simpa using e8
      have HR8 := Lib.hid hR8
      have HR38 := Lib.hid (HR37.out.below hw78)
      have HS := Lib.hid (sameL_refl (l.map (ownP rcanF)))
      have hn8 : (l.map (ownP rcanF)).length = n8 := hR8.1
      rw [List.length_map] at hn8
      clear hr8 hw78 e8 hR8
      go_wp2_with fail
      refine (rsameparts_any w8 A8 A3 n8 n3 c8 c3 _ _ HR8.out.any HR38.out (by omega)).mono ?_
      rintro e w9 ⟨rfl, hw89⟩
      rw [HS.out]
      have HB9 := Lib.hid (HB8.out.trans (hw89.mono HB8.out.size))
      clear hw89
      go_wp2_with fail
      go_ret
      exact ⟨rfl, HB9.out⟩
end Go.Proofs.Ytnolhnlhohpkpaa
