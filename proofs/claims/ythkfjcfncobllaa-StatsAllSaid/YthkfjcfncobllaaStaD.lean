import Derived.Test.YthkfjcfncobllaaStaC
namespace Go.Proofs.Ythkfjcfncobllaa
open Go.RowKit FP
set_option linter.unusedVariables false
set_option linter.unusedSimpArgs false
set_option maxRecDepth 20000 in
theorem size_f64 : (Try.prog.info? 27).map (·.size) = some 1 := by kernel_rfl
set_option maxRecDepth 20000 in
theorem one_own (w : World) (x : Nat) (h : x < B64) : Own (w.alloc (.cells #[.float .f64 x] 27)) w.heap.size 27 .f64 (.slice (some ⟨w.heap.size, 0, none⟩) 1 1) [x] :=
  ⟨[.float .f64 x], ⟨rfl, .inr ⟨w.heap.size, 1, _, rfl, Nat.le_refl _, heap_alloc_new _ _, Nat.le_refl _, by decide, rfl, rfl⟩⟩, RdL.single (rd_f64v h)⟩
set_option maxRecDepth 20000 in
theorem rdl_any {w w' : World} {ok ok' : Nat → Prop} {l : List Nat} {xs : List Value} (h : RdL w ok .f64 l xs) : RdL w' ok' .f64 l xs := rdl_f64.2 (rdl_f64.1 h)
set_option maxRecDepth 20000 in
theorem own_rows {w : World} {base n c : Nat} {A : Option Addr} {l : List Nat} (h : Own w base 27 .f64 (.slice A n c) l) (hn : n = l.length) : Rows w anyB .f64 A n l := by
  obtain ⟨A', c', e, _, _, _, hr⟩ := Own.form h
  injection e with e1 e2 e3
  subst e1 hn
  exact hr.any
set_option maxRecDepth 20000 in
theorem own_cap {w : World} {base n c : Nat} {A : Option Addr} {l : List Nat} (h : Own w base 27 .f64 (.slice A n c) l) : n ≤ c := by
  obtain ⟨A', c', e, h1, _⟩ := Own.form h
  injection e with e1 e2 e3
  subst e2 e3
  exact h1
set_option maxRecDepth 20000 in
theorem own_base_le {w : World} {base b : Nat} {ok : Nat → Prop} {v : Value} {l : List Nat} (h : OwnG w base ok 27 .f64 v l) (hb : b ≤ base) : Own w b 27 .f64 v l := by
  obtain ⟨xs, ⟨h1, h2⟩, h3⟩ := h
  refine ⟨xs, ⟨h1, ?_⟩, rdl_any h3⟩
  rcases h2 with h2 | ⟨g, cap, cur, e, hg, hr⟩
  · exact .inl h2
  · exact .inr ⟨g, cap, cur, e, Nat.le_trans hb hg, hr⟩
set_option maxHeartbeats 4000000 in
set_option maxRecDepth 20000 in
theorem rsort_any (w : World) (A : Option Addr) (n c : Nat) (l : List Nat) (h : Rows w anyB .f64 A n l) (hl : n ≤ 100000) :
    Calls Try.prog 10 #[.slice A n c] w fun e w' => ∃ v', e = .returned v' ∧ Own w' w.heap.size 27 .f64 v' (sortK l) ∧ Below w.heap.size w w' := by
  have hln := h.1
  have hlt := (rows_fs h).2
  go_enter Try.func10, Try.ntmps10
  go_wp2_with fail
  go_loopw [3, 9] (fun s3 s9 wr => ∃ (j : Nat) (v : Value) (o : List Nat), j ≤ n ∧ v = s3 ∧ s9 = .int .i64 j ∧ o.length = j ∧ Own wr w.heap.size 27 .f64 v o ∧ o.Perm ((l.take j).map rcanF) ∧ o.Pairwise leK ∧ Below w.heap.size w wr) (fun _ s9 _ => n - (intOf s9).toNat)
  case atStart => exact ⟨0, _, [], by omega, rfl, rfl, rfl, Own.nil _ _ _ _, List.Perm.refl _, List.Pairwise.nil, Below.refl _ _⟩
  case round =>
    obtain ⟨j, v, o, hi, rfl, rfl, hjo, hO, hp, hs, hbel⟩ := hrel
    have HB := Lib.hid hbel
    have HO := Lib.hid hO
    have HP := Lib.hid hp
    have HS := Lib.hid hs
    obtain ⟨A', c', rfl, _⟩ := Own.form hO
    rw [hjo] at HO
    clear hp hs hO
    by_cases hlt1 : j < n
    · obtain ⟨ad, x, cs, rfl, hx, hat, hrd⟩ := h.get j hlt1
      obtain ⟨rfl, hx64⟩ := hrd
      have i0 : (0 : Int) ≤ (j : Int) := by omega
      have i1 : (j : Int) < (n : Int) := by omega
      have hc := cell_below hbel (hat 0 _ rfl)
      have hcx : wr.cell? (ad.add j) = some (.float .f64 x) := by
        have e : (ad.add (j * Sh.size .f64)).add (0 + 0) = ad.add j := by simp [Sh.size, Addr.add]
        rwa [e] at hc
      have HN := Lib.hid (show (l.take (j + 1)).map rcanF = (l.take j).map rcanF ++ [rcanF x] by rw [take_at hx, List.map_append]; rfl)
      have HF := Lib.hid (rcanF_lt' hx64)
      have hkey : keyV (rcanF x) = keyV x := key_can hx64
      obtain ⟨f, hf⟩ : ∃ f, rcanF x = f := ⟨_, rfl⟩
      rw [hf] at HN HF hkey
      have HOL := Lib.hid (fun y hy => hlt y (List.mem_of_mem_take hy) : ∀ y ∈ l.take j, y < B64)
      have HOB := Lib.hid (show ∀ y ∈ o, y < B64 from fun y hy => by
        obtain ⟨z, hz, rfl⟩ := List.mem_map.1 (HP.out.subset hy)
        exact rcanF_lt' (HOL.out z hz))
      clear hc hat hx hkey hbel
      rw [hjo]
      go_wp2_with (go_at_call 27; refine (rcanon_any _ _).mono ?_; rintro e w' ⟨rfl, rfl⟩; (try rw [hf]))
      go_loopw [6] (fun s6 wq => ∃ k : Nat, k ≤ j ∧ s6 = .int .i64 k ∧ (∀ y ∈ o.drop k, keyV f < keyV y) ∧ wr = wq) (fun s6 _ => (intOf s6).toNat)
      case atStart => exact ⟨j, by omega, rfl, (fun y hy => by rw [List.drop_eq_nil_of_le (by omega)] at hy; cases hy), rfl⟩
      case round =>
        obtain ⟨k, hkj, rfl, hgt, rfl⟩ := hrel
        have HNP := Lib.hid (show (o.take k ++ f :: o.drop k).Perm ((l.take (j + 1)).map rcanF) by
          rw [HN.out]
          exact (ins_perm.trans (List.Perm.cons f HP.out)).trans (List.perm_append_singleton f _).symm)
        have hjc := own_cap HO.out
        have hkc : k ≤ c' := by omega
        by_cases hk0 : k = 0
        · have HNS := Lib.hid (show (o.take k ++ f :: o.drop k).Pairwise leK from ins_sorted HS.out hgt (by subst hk0; intro y hy; simp at hy))
          have k0 : ¬ (0 : Int) < (k : Int) := by omega
          clear hgt hk0
          go_wp2_with fail
          obtain ⟨B8, hB8⟩ : ∃ B8 : Option Addr, (if c' = k then A' else Option.map (fun x : Addr => x.add (k * 1)) A') = B8 := ⟨_, rfl⟩
          refine region_in (by kernel_rfl) (fun w1 hw1 => ?_)
          have HO1 := Lib.hid (HO.out.below hw1)
          have HB1 := Lib.hid (HB.out.trans (hw1.mono HB.out.size))
          have HR1 := Lib.hid (Own.form HO1.out)
          first
            | (refine take_in (i := 0) (v := ?_) rfl (by kernel_rfl) (by kernel_rfl) (by kernel_rfl) (fun _ _ _ h => h) (Or.inl ⟨by rfl, ?_⟩) (Below.refl _ _) ?_; rotate_left; (focus (intro W hSw; go_simp; (try rfl); done)); (try simp only [Act.put, List.setIfInBounds_toArray, List.set_cons_zero, List.set_cons_succ]))
            | (refine take_in (i := 0) (v := undef) rfl (by kernel_rfl) (by kernel_rfl) (by kernel_rfl) (fun _ _ _ h => h) (Or.inr ⟨by rfl, rfl⟩) (Below.refl _ _) ?_; (try simp only [Act.put, List.setIfInBounds_toArray, List.set_cons_zero, List.set_cons_succ]))
            | (fail "HTAKE 0")
          first
            | (refine take_in (i := 1) (v := ?_) rfl (by kernel_rfl) (by kernel_rfl) (by kernel_rfl) (fun _ _ _ h => h) (Or.inl ⟨by rfl, ?_⟩) (Below.refl _ _) ?_; rotate_left; (focus (intro W hSw; go_simp; (try rfl); done)); (try simp only [Act.put, List.setIfInBounds_toArray, List.set_cons_zero, List.set_cons_succ]))
            | (refine take_in (i := 1) (v := undef) rfl (by kernel_rfl) (by kernel_rfl) (by kernel_rfl) (fun _ _ _ h => h) (Or.inr ⟨by rfl, rfl⟩) (Below.refl _ _) ?_; (try simp only [Act.put, List.setIfInBounds_toArray, List.set_cons_zero, List.set_cons_succ]))
            | (fail "HTAKE 1")
          first
            | (refine take_in (i := 2) (v := ?_) rfl (by kernel_rfl) (by kernel_rfl) (by kernel_rfl) (fun _ _ _ h => h) (Or.inl ⟨by rfl, ?_⟩) (Below.refl _ _) ?_; rotate_left; (focus (intro W hSw; go_simp; (try rfl); done)); (try simp only [Act.put, List.setIfInBounds_toArray, List.set_cons_zero, List.set_cons_succ]))
            | (refine take_in (i := 2) (v := undef) rfl (by kernel_rfl) (by kernel_rfl) (by kernel_rfl) (fun _ _ _ h => h) (Or.inr ⟨by rfl, rfl⟩) (Below.refl _ _) ?_; (try simp only [Act.put, List.setIfInBounds_toArray, List.set_cons_zero, List.set_cons_succ]))
            | (fail "HTAKE 2")
          refine take_in (i := 3) (v := _) rfl (by kernel_rfl) (by kernel_rfl) (by kernel_rfl) (fun _ _ _ h => h) (yields_to (by rfl) k _ _ _ rfl rfl rfl rfl Try.underlying22 size_f64 hkc) (Below.refl _ _) ?_
          (try simp only [Act.put, List.setIfInBounds_toArray, List.set_cons_zero, List.set_cons_succ])
          first
            | (refine take_in (i := 4) (v := ?_) rfl (by kernel_rfl) (by kernel_rfl) (by kernel_rfl) (fun _ _ _ h => h) (Or.inl ⟨by rfl, ?_⟩) (Below.refl _ _) ?_; rotate_left; (focus (intro W hSw; go_simp; (try rfl); done)); (try simp only [Act.put, List.setIfInBounds_toArray, List.set_cons_zero, List.set_cons_succ]))
            | (refine take_in (i := 4) (v := undef) rfl (by kernel_rfl) (by kernel_rfl) (by kernel_rfl) (fun _ _ _ h => h) (Or.inr ⟨by rfl, rfl⟩) (Below.refl _ _) ?_; (try simp only [Act.put, List.setIfInBounds_toArray, List.set_cons_zero, List.set_cons_succ]))
            | (fail "HTAKE 4")
          first
            | (refine take_in (i := 6) (v := ?_) rfl (by kernel_rfl) (by kernel_rfl) (by kernel_rfl) (fun _ _ _ h => h) (Or.inl ⟨by rfl, ?_⟩) (Below.refl _ _) ?_; rotate_left; (focus (intro W hSw; go_simp; (try rfl); done)); (try simp only [Act.put, List.setIfInBounds_toArray, List.set_cons_zero, List.set_cons_succ]))
            | (refine take_in (i := 6) (v := undef) rfl (by kernel_rfl) (by kernel_rfl) (by kernel_rfl) (fun _ _ _ h => h) (Or.inr ⟨by rfl, rfl⟩) (Below.refl _ _) ?_; (try simp only [Act.put, List.setIfInBounds_toArray, List.set_cons_zero, List.set_cons_succ]))
            | (fail "HTAKE 6")
          first
            | (refine take_in (i := 7) (v := ?_) rfl (by kernel_rfl) (by kernel_rfl) (by kernel_rfl) (fun _ _ _ h => h) (Or.inl ⟨by rfl, ?_⟩) (Below.refl _ _) ?_; rotate_left; (focus (intro W hSw; go_simp; (try rfl); done)); (try simp only [Act.put, List.setIfInBounds_toArray, List.set_cons_zero, List.set_cons_succ]))
            | (refine take_in (i := 7) (v := undef) rfl (by kernel_rfl) (by kernel_rfl) (by kernel_rfl) (fun _ _ _ h => h) (Or.inr ⟨by rfl, rfl⟩) (Below.refl _ _) ?_; (try simp only [Act.put, List.setIfInBounds_toArray, List.set_cons_zero, List.set_cons_succ]))
            | (fail "HTAKE 7")
          refine take_in (i := 8) (v := _) rfl (by kernel_rfl) (by kernel_rfl) (by kernel_rfl) (fun _ _ _ h => h) (yields_fromB (by rfl) k _ _ rfl rfl rfl Try.underlying22 size_f64 (by omega) hB8) (Below.refl _ _) ?_
          (try simp only [Act.put, List.setIfInBounds_toArray, List.set_cons_zero, List.set_cons_succ])
          refine call_in (i := 5) rfl (by kernel_rfl) (by kernel_rfl) (fun K hK => ?_)
          go_simp
          have hb2 := below_alloc1 w1 (.cells #[.float .f64 f] 27)
          obtain ⟨w2, hw2⟩ : ∃ w2, w1.alloc (.cells #[.float .f64 f] 27) = w2 := ⟨_, rfl⟩
          have hO2 : Own w2 w1.heap.size 27 .f64 (.slice (some ⟨w1.heap.size, 0, none⟩) 1 1) [f] := by rw [← hw2]; exact one_own w1 f HF.out
          rw [hw2] at hb2 ⊢
          have HO2 := Lib.hid hO2
          have HC2 := Lib.hid hb2
          clear hO2 hw2 hb2
          refine hK.out _ _ HC2.out ?_
          (try simp only [Act.put, List.setIfInBounds_toArray, List.set_cons_zero, List.set_cons_succ])
          have hrd8 := rows_from ((own_rows HO1.out hjo.symm).below HC2.out) hjc k hkj
          rw [show (if c' = k then A' else Option.map (fun x : Addr => x.add (k * Sh.size .f64)) A') = B8 from hB8] at hrd8
          have HRD := Lib.hid hrd8
          clear hrd8 hB8
          obtain ⟨ys, hys, hyat⟩ := HRD.out.cells
          have HY := Lib.hid hys
          have HYA := Lib.hid hyat
          clear hys hyat
          refine call_in (i := 9) rfl (by kernel_rfl) (by kernel_rfl) (fun K hK => ?_)
          refine wpo_appC (S := .f64) (l := [f]) (r := o.drop k) (ys := ys) (.tmp 35) (.tmp 38) rfl rfl rfl HO2.out rfl (fun ad' e => (HYA.out ad' e).2) (fun e => HRD.out.2.1 e) (rdl_any HY.out) (by rw [List.length_drop, hjo]) Try.underlying22 info_f64 rfl (by decide) (by omega) (by omega) HC2.out.size ?_
          intro v3 w3 hO3 hb3
          obtain ⟨A3, c3, rfl, _⟩ := Own.form hO3
          have HO3 := Lib.hid hO3
          have hl3 : ([f] ++ o.drop k).length = j - k + 1 := by rw [List.length_append, List.length_drop, hjo]; simp; omega
          rw [hl3] at HO3 ⊢
          have HC3 := Lib.hid (HC2.out.trans (hb3.mono HC2.out.size))
          clear hO3
          refine hK.out _ _ hb3 ?_
          (try simp only [Act.put, List.setIfInBounds_toArray, List.set_cons_zero, List.set_cons_succ])
          have HRT := Lib.hid (rows_to ((own_rows HO1.out hjo.symm).below HC3.out) k hkj)
          obtain ⟨xs, hxs, hxat⟩ := HRT.out.cells
          obtain ⟨zs, hzs, hzat⟩ := (own_rows HO3.out hl3.symm).cells
          have HX := Lib.hid (And.intro hxs hxat)
          have HZ := Lib.hid (And.intro hzs hzat)
          clear hxs hxat hzs hzat
          refine call_in (i := 10) rfl (by kernel_rfl) (by kernel_rfl) (fun K hK => ?_)
          refine wpo_appG (S := .f64) (ok := anyB) (l := o.take k) (r := [f] ++ o.drop k) (xs := xs) (ys := zs) (.tmp 33) (.tmp 39) rfl rfl rfl (fun e => ⟨by have := HRT.out.2.1 e; omega, by have := HRT.out.2.1 e; omega⟩) (fun ad e => (HX.out.2 ad e).2) (rdl_any HX.out.1) (by simp; omega) (fun ad e => (HZ.out.2 ad e).2) (fun e => by have := (own_rows HO3.out hl3.symm).2.1 e; omega) (rdl_any HZ.out.1) (by rw [hl3]) (Nat.le_refl _) (by omega) Try.underlying22 info_f64 rfl (by decide) (by omega) (by omega) ?_
          intro v5 w5 hO5 hg5
          have hB15 : w.heap.size ≤ w3.heap.size := Nat.le_trans HB1.out.size HC3.out.size
          have hO5' := own_base_le hO5 hB15
          have hb35 : Below w3.heap.size w3 w5 := (Below.refl _ _).grown hg5 (Nat.le_refl _) (fun k e => by cases e)
          have HB5 := Lib.hid (HB1.out.trans ((HC3.out.trans (hb35.mono HC3.out.size)).mono HB1.out.size))
          obtain ⟨A5, c5, rfl, _⟩ := Own.form hO5'
          have HO5 := Lib.hid hO5'
          have hl5 : (o.take k ++ ([f] ++ o.drop k)).length = j + 1 := by simp; omega
          rw [hl5] at HO5 ⊢
          clear hO5 hO5'
          refine hK.out _ _ hb35 ?_
          (try simp only [Act.put, List.setIfInBounds_toArray, List.set_cons_zero, List.set_cons_succ])
          first
            | (refine take_in (i := 11) (v := ?_) rfl (by kernel_rfl) (by kernel_rfl) (by kernel_rfl) (fun _ _ _ h => h) (Or.inl ⟨by rfl, ?_⟩) (Below.refl _ _) ?_; rotate_left; (focus (intro W hSw; go_simp; (try rfl); done)); (try simp only [Act.put, List.setIfInBounds_toArray, List.set_cons_zero, List.set_cons_succ]))
            | (refine take_in (i := 11) (v := undef) rfl (by kernel_rfl) (by kernel_rfl) (by kernel_rfl) (fun _ _ _ h => h) (Or.inr ⟨by rfl, rfl⟩) (Below.refl _ _) ?_; (try simp only [Act.put, List.setIfInBounds_toArray, List.set_cons_zero, List.set_cons_succ]))
            | (fail "HTAKE 11")
          refine wpAnyH_done (by kernel_rfl) ?_ _
          go_wp2_with fail
          go_roundw
          case measure => simp [intOf]; omega
          case rel => exact ⟨j + 1, _, o.take k ++ f :: o.drop k, by omega, rfl, by go_num, by simp; omega, HO5.out, HNP.out, HNS.out, HB5.out⟩
        · obtain ⟨y, hy⟩ : ∃ y, o[k - 1]? = some y := ⟨o[k - 1]'(by omega), List.getElem?_eq_getElem (by omega)⟩
          obtain ⟨ad2, y2, cs2, e2, hy2, hat2, hrd2⟩ := (own_rows HO.out hjo.symm).get (k - 1) (by omega)
          subst e2
          rw [hy] at hy2
          injection hy2 with hy2
          subst hy2
          obtain ⟨rfl, _⟩ := hrd2
          have hcy : wr.cell? (ad2.add (k - 1)) = some (.float .f64 y) := by
            have e : (ad2.add ((k - 1) * Sh.size .f64)).add (0 + 0) = ad2.add (k - 1) := by simp [Sh.size, Addr.add]
            have hc := hat2 0 _ rfl
            rwa [e] at hc
          have k0 : (0 : Int) < (k : Int) := by omega
          have kw : IntKind.i64.wrap ((k : Int) - 1) = ((k - 1 : Nat) : Int) := by rw [IntWalk.i64_in _ (by omega)]; omega
          have k1 : (0 : Int) ≤ ((k - 1 : Nat) : Int) := by omega
          have k2 : ((k - 1 : Nat) : Int) < (j : Int) := by omega
          have hy64 := HOB.out y (List.mem_of_getElem? hy)
          have ek := rkeyF_eq hy64
          have ef := rkeyF_eq HF.out
          clear hat2
          by_cases hless : keyV f < keyV y
          · have hb : decide (rkeyF f < rkeyF y) = true := decide_eq_true (by rw [ef, ek]; exact hless)
            have HGT := Lib.hid (show ∀ z ∈ o.drop (k - 1), keyV f < keyV z by
              rw [show o.drop (k - 1) = y :: o.drop k by
                obtain ⟨h1, h2⟩ := List.getElem?_eq_some_iff.1 hy
                rw [List.drop_eq_getElem_cons h1, h2, show k - 1 + 1 = k by omega]]
              intro z hz
              rcases List.mem_cons.1 hz with rfl | hz
              · exact hless
              · exact hgt z hz)
            clear hgt hy hless ek ef hy64
            go_wp2_with (go_at_call 28; refine (rless_any _ _ _).mono ?_; rintro e w' ⟨rfl, rfl⟩; rw [hb])
            go_roundw
            case measure => simp [intOf]; omega
            case rel => exact ⟨k - 1, by omega, by go_num, HGT.out, trivial⟩
          · have hb : decide (rkeyF f < rkeyF y) = false := decide_eq_false (by rw [ef, ek]; exact hless)
            have HNS := Lib.hid (show (o.take k ++ f :: o.drop k).Pairwise leK from ins_sorted HS.out hgt (take_le HS.out (.inr ⟨y, hy, by omega⟩) (by omega)))
            clear hgt hy hless ek ef hy64
            go_wp2_with (go_at_call 28; refine (rless_any _ _ _).mono ?_; rintro e w' ⟨rfl, rfl⟩; rw [hb])
            obtain ⟨B8, hB8⟩ : ∃ B8 : Option Addr, (if c' = k then (some ad2) else Option.map (fun x : Addr => x.add (k * 1)) (some ad2)) = B8 := ⟨_, rfl⟩
            refine region_in (by kernel_rfl) (fun w1 hw1 => ?_)
            have HO1 := Lib.hid (HO.out.below hw1)
            have HB1 := Lib.hid (HB.out.trans (hw1.mono HB.out.size))
            have HR1 := Lib.hid (Own.form HO1.out)
            first
              | (refine take_in (i := 0) (v := ?_) rfl (by kernel_rfl) (by kernel_rfl) (by kernel_rfl) (fun _ _ _ h => h) (Or.inl ⟨by rfl, ?_⟩) (Below.refl _ _) ?_; rotate_left; (focus (intro W hSw; go_simp; (try rfl); done)); (try simp only [Act.put, List.setIfInBounds_toArray, List.set_cons_zero, List.set_cons_succ]))
              | (refine take_in (i := 0) (v := undef) rfl (by kernel_rfl) (by kernel_rfl) (by kernel_rfl) (fun _ _ _ h => h) (Or.inr ⟨by rfl, rfl⟩) (Below.refl _ _) ?_; (try simp only [Act.put, List.setIfInBounds_toArray, List.set_cons_zero, List.set_cons_succ]))
              | (fail "HTAKE 0")
            first
              | (refine take_in (i := 1) (v := ?_) rfl (by kernel_rfl) (by kernel_rfl) (by kernel_rfl) (fun _ _ _ h => h) (Or.inl ⟨by rfl, ?_⟩) (Below.refl _ _) ?_; rotate_left; (focus (intro W hSw; go_simp; (try rfl); done)); (try simp only [Act.put, List.setIfInBounds_toArray, List.set_cons_zero, List.set_cons_succ]))
              | (refine take_in (i := 1) (v := undef) rfl (by kernel_rfl) (by kernel_rfl) (by kernel_rfl) (fun _ _ _ h => h) (Or.inr ⟨by rfl, rfl⟩) (Below.refl _ _) ?_; (try simp only [Act.put, List.setIfInBounds_toArray, List.set_cons_zero, List.set_cons_succ]))
              | (fail "HTAKE 1")
            first
              | (refine take_in (i := 2) (v := ?_) rfl (by kernel_rfl) (by kernel_rfl) (by kernel_rfl) (fun _ _ _ h => h) (Or.inl ⟨by rfl, ?_⟩) (Below.refl _ _) ?_; rotate_left; (focus (intro W hSw; go_simp; (try rfl); done)); (try simp only [Act.put, List.setIfInBounds_toArray, List.set_cons_zero, List.set_cons_succ]))
              | (refine take_in (i := 2) (v := undef) rfl (by kernel_rfl) (by kernel_rfl) (by kernel_rfl) (fun _ _ _ h => h) (Or.inr ⟨by rfl, rfl⟩) (Below.refl _ _) ?_; (try simp only [Act.put, List.setIfInBounds_toArray, List.set_cons_zero, List.set_cons_succ]))
              | (fail "HTAKE 2")
            refine take_in (i := 3) (v := _) rfl (by kernel_rfl) (by kernel_rfl) (by kernel_rfl) (fun _ _ _ h => h) (yields_to (by rfl) k _ _ _ rfl rfl rfl rfl Try.underlying22 size_f64 hkc) (Below.refl _ _) ?_
            (try simp only [Act.put, List.setIfInBounds_toArray, List.set_cons_zero, List.set_cons_succ])
            first
              | (refine take_in (i := 4) (v := ?_) rfl (by kernel_rfl) (by kernel_rfl) (by kernel_rfl) (fun _ _ _ h => h) (Or.inl ⟨by rfl, ?_⟩) (Below.refl _ _) ?_; rotate_left; (focus (intro W hSw; go_simp; (try rfl); done)); (try simp only [Act.put, List.setIfInBounds_toArray, List.set_cons_zero, List.set_cons_succ]))
              | (refine take_in (i := 4) (v := undef) rfl (by kernel_rfl) (by kernel_rfl) (by kernel_rfl) (fun _ _ _ h => h) (Or.inr ⟨by rfl, rfl⟩) (Below.refl _ _) ?_; (try simp only [Act.put, List.setIfInBounds_toArray, List.set_cons_zero, List.set_cons_succ]))
              | (fail "HTAKE 4")
            first
              | (refine take_in (i := 6) (v := ?_) rfl (by kernel_rfl) (by kernel_rfl) (by kernel_rfl) (fun _ _ _ h => h) (Or.inl ⟨by rfl, ?_⟩) (Below.refl _ _) ?_; rotate_left; (focus (intro W hSw; go_simp; (try rfl); done)); (try simp only [Act.put, List.setIfInBounds_toArray, List.set_cons_zero, List.set_cons_succ]))
              | (refine take_in (i := 6) (v := undef) rfl (by kernel_rfl) (by kernel_rfl) (by kernel_rfl) (fun _ _ _ h => h) (Or.inr ⟨by rfl, rfl⟩) (Below.refl _ _) ?_; (try simp only [Act.put, List.setIfInBounds_toArray, List.set_cons_zero, List.set_cons_succ]))
              | (fail "HTAKE 6")
            first
              | (refine take_in (i := 7) (v := ?_) rfl (by kernel_rfl) (by kernel_rfl) (by kernel_rfl) (fun _ _ _ h => h) (Or.inl ⟨by rfl, ?_⟩) (Below.refl _ _) ?_; rotate_left; (focus (intro W hSw; go_simp; (try rfl); done)); (try simp only [Act.put, List.setIfInBounds_toArray, List.set_cons_zero, List.set_cons_succ]))
              | (refine take_in (i := 7) (v := undef) rfl (by kernel_rfl) (by kernel_rfl) (by kernel_rfl) (fun _ _ _ h => h) (Or.inr ⟨by rfl, rfl⟩) (Below.refl _ _) ?_; (try simp only [Act.put, List.setIfInBounds_toArray, List.set_cons_zero, List.set_cons_succ]))
              | (fail "HTAKE 7")
            refine take_in (i := 8) (v := _) rfl (by kernel_rfl) (by kernel_rfl) (by kernel_rfl) (fun _ _ _ h => h) (yields_fromB (by rfl) k _ _ rfl rfl rfl Try.underlying22 size_f64 (by omega) hB8) (Below.refl _ _) ?_
            (try simp only [Act.put, List.setIfInBounds_toArray, List.set_cons_zero, List.set_cons_succ])
            refine call_in (i := 5) rfl (by kernel_rfl) (by kernel_rfl) (fun K hK => ?_)
            go_simp
            have hb2 := below_alloc1 w1 (.cells #[.float .f64 f] 27)
            obtain ⟨w2, hw2⟩ : ∃ w2, w1.alloc (.cells #[.float .f64 f] 27) = w2 := ⟨_, rfl⟩
            have hO2 : Own w2 w1.heap.size 27 .f64 (.slice (some ⟨w1.heap.size, 0, none⟩) 1 1) [f] := by rw [← hw2]; exact one_own w1 f HF.out
            rw [hw2] at hb2 ⊢
            have HO2 := Lib.hid hO2
            have HC2 := Lib.hid hb2
            clear hO2 hw2 hb2
            refine hK.out _ _ HC2.out ?_
            (try simp only [Act.put, List.setIfInBounds_toArray, List.set_cons_zero, List.set_cons_succ])
            have hrd8 := rows_from ((own_rows HO1.out hjo.symm).below HC2.out) hjc k hkj
            rw [show (if c' = k then (some ad2) else Option.map (fun x : Addr => x.add (k * Sh.size .f64)) (some ad2)) = B8 from hB8] at hrd8
            have HRD := Lib.hid hrd8
            clear hrd8 hB8
            obtain ⟨ys, hys, hyat⟩ := HRD.out.cells
            have HY := Lib.hid hys
            have HYA := Lib.hid hyat
            clear hys hyat
            refine call_in (i := 9) rfl (by kernel_rfl) (by kernel_rfl) (fun K hK => ?_)
            refine wpo_appC (S := .f64) (l := [f]) (r := o.drop k) (ys := ys) (.tmp 35) (.tmp 38) rfl rfl rfl HO2.out rfl (fun ad' e => (HYA.out ad' e).2) (fun e => HRD.out.2.1 e) (rdl_any HY.out) (by rw [List.length_drop, hjo]) Try.underlying22 info_f64 rfl (by decide) (by omega) (by omega) HC2.out.size ?_
            intro v3 w3 hO3 hb3
            obtain ⟨A3, c3, rfl, _⟩ := Own.form hO3
            have HO3 := Lib.hid hO3
            have hl3 : ([f] ++ o.drop k).length = j - k + 1 := by rw [List.length_append, List.length_drop, hjo]; simp; omega
            rw [hl3] at HO3 ⊢
            have HC3 := Lib.hid (HC2.out.trans (hb3.mono HC2.out.size))
            clear hO3
            refine hK.out _ _ hb3 ?_
            (try simp only [Act.put, List.setIfInBounds_toArray, List.set_cons_zero, List.set_cons_succ])
            have HRT := Lib.hid (rows_to ((own_rows HO1.out hjo.symm).below HC3.out) k hkj)
            obtain ⟨xs, hxs, hxat⟩ := HRT.out.cells
            obtain ⟨zs, hzs, hzat⟩ := (own_rows HO3.out hl3.symm).cells
            have HX := Lib.hid (And.intro hxs hxat)
            have HZ := Lib.hid (And.intro hzs hzat)
            clear hxs hxat hzs hzat
            refine call_in (i := 10) rfl (by kernel_rfl) (by kernel_rfl) (fun K hK => ?_)
            refine wpo_appG (S := .f64) (ok := anyB) (l := o.take k) (r := [f] ++ o.drop k) (xs := xs) (ys := zs) (.tmp 33) (.tmp 39) rfl rfl rfl (fun e => ⟨by have := HRT.out.2.1 e; omega, by have := HRT.out.2.1 e; omega⟩) (fun ad e => (HX.out.2 ad e).2) (rdl_any HX.out.1) (by simp; omega) (fun ad e => (HZ.out.2 ad e).2) (fun e => by have := (own_rows HO3.out hl3.symm).2.1 e; omega) (rdl_any HZ.out.1) (by rw [hl3]) (Nat.le_refl _) (by omega) Try.underlying22 info_f64 rfl (by decide) (by omega) (by omega) ?_
            intro v5 w5 hO5 hg5
            have hB15 : w.heap.size ≤ w3.heap.size := Nat.le_trans HB1.out.size HC3.out.size
            have hO5' := own_base_le hO5 hB15
            have hb35 : Below w3.heap.size w3 w5 := (Below.refl _ _).grown hg5 (Nat.le_refl _) (fun k e => by cases e)
            have HB5 := Lib.hid (HB1.out.trans ((HC3.out.trans (hb35.mono HC3.out.size)).mono HB1.out.size))
            obtain ⟨A5, c5, rfl, _⟩ := Own.form hO5'
            have HO5 := Lib.hid hO5'
            have hl5 : (o.take k ++ ([f] ++ o.drop k)).length = j + 1 := by simp; omega
            rw [hl5] at HO5 ⊢
            clear hO5 hO5'
            refine hK.out _ _ hb35 ?_
            (try simp only [Act.put, List.setIfInBounds_toArray, List.set_cons_zero, List.set_cons_succ])
            first
              | (refine take_in (i := 11) (v := ?_) rfl (by kernel_rfl) (by kernel_rfl) (by kernel_rfl) (fun _ _ _ h => h) (Or.inl ⟨by rfl, ?_⟩) (Below.refl _ _) ?_; rotate_left; (focus (intro W hSw; go_simp; (try rfl); done)); (try simp only [Act.put, List.setIfInBounds_toArray, List.set_cons_zero, List.set_cons_succ]))
              | (refine take_in (i := 11) (v := undef) rfl (by kernel_rfl) (by kernel_rfl) (by kernel_rfl) (fun _ _ _ h => h) (Or.inr ⟨by rfl, rfl⟩) (Below.refl _ _) ?_; (try simp only [Act.put, List.setIfInBounds_toArray, List.set_cons_zero, List.set_cons_succ]))
              | (fail "HTAKE 11")
            refine wpAnyH_done (by kernel_rfl) ?_ _
            go_wp2_with fail
            go_roundw
            case measure => simp [intOf]; omega
            case rel => exact ⟨j + 1, _, o.take k ++ f :: o.drop k, by omega, rfl, by go_num, by simp; omega, HO5.out, HNP.out, HNS.out, HB5.out⟩
    · obtain rfl : j = n := by omega
      have HE := Lib.hid (show o = sortK l by
        have h1 := HP.out
        rw [List.take_of_length_le (by omega)] at h1
        exact sortK_uniq hlt h1 HS.out)
      go_wp2_with fail
      go_ret
      rw [HE.out] at HO
      exact ⟨_, rfl, by rw [hjo]; exact HO.out, HB.out⟩
end Go.Proofs.Ythkfjcfncobllaa
