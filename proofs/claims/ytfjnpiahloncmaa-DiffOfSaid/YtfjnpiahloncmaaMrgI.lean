import Derived.Test.YtfjnpiahloncmaaCanE
namespace Go.Proofs.Ytfjnpiahloncmaa
open Go.RowKit
set_option linter.unusedVariables false
set_option linter.unusedSimpArgs false
set_option maxRecDepth 20000 in
theorem one_ownS (w : World) (x : ByteArray) (h : x.size ≤ 9223372036854775807) : Own (w.alloc (.cells #[.string x] 9)) w.heap.size 9 .str (.slice (some ⟨w.heap.size, 0, none⟩) 1 1) [x] :=
  ⟨[.string x], ⟨rfl, .inr ⟨w.heap.size, 1, _, rfl, Nat.le_refl _, heap_alloc_new _ _, Nat.le_refl _, by decide, rfl, rfl⟩⟩, RdL.single (rd_strv h)⟩
set_option maxRecDepth 20000 in
theorem own_rowsS {w : World} {base n c : Nat} {A : Option Addr} {l : List ByteArray} (h : Own w base 9 .str (.slice A n c) l) (hn : n = l.length) : Rows w anyB .str A n l := by
  obtain ⟨A', c', e, _, _, _, hr⟩ := Own.form h
  injection e with e1 e2 e3
  subst e1 hn
  exact hr.any
set_option maxRecDepth 20000 in
theorem own_capS {w : World} {base n c : Nat} {A : Option Addr} {l : List ByteArray} (h : Own w base 9 .str (.slice A n c) l) : n ≤ c := by
  obtain ⟨A', c', e, h1, _⟩ := Own.form h
  injection e with e1 e2 e3
  subst e2 e3
  exact h1
set_option maxRecDepth 20000 in
theorem own_base_leS {w : World} {base b : Nat} {ok : Nat → Prop} {v : Value} {l : List ByteArray} (h : OwnG w base ok 9 .str v l) (hb : b ≤ base) : Own w b 9 .str v l := by
  obtain ⟨xs, ⟨h1, h2⟩, h3⟩ := h
  refine ⟨xs, ⟨h1, ?_⟩, rdl_anyS h3⟩
  rcases h2 with h2 | ⟨g, cap, cur, e, hg, hr⟩
  · exact .inl h2
  · exact .inr ⟨g, cap, cur, e, Nat.le_trans hb hg, hr⟩
set_option maxRecDepth 20000 in
theorem take_lt {o : List ByteArray} {k : Nat} {y f : ByteArray} (h : ∀ z ∈ o.take k, ltS z f) (hy : o[k]? = some y) (hlt : ltS y f) : ∀ z ∈ o.take (k + 1), ltS z f := by
  intro z hz
  rw [take_at hy] at hz
  rcases List.mem_append.1 hz with hz | hz
  · exact h z hz
  · rw [List.mem_singleton.1 hz]; exact hlt
set_option maxHeartbeats 4000000 in
set_option maxRecDepth 20000 in
theorem rtexts_any (w : World) (A : Option Addr) (n c : Nat) (l : List ByteArray) (h : Rows w anyB .str A n l) (hl : n ≤ 100000) :
    Calls Try.prog 34 #[.slice A n c] w fun e w' => ∃ v', e = .returned v' ∧ Own w' w.heap.size 9 .str v' (tidy l) ∧ Below w.heap.size w w' := by
  have hln := h.1
  have H0 := Lib.hid h
  clear h
  go_enter Try.func34, Try.ntmps34
  go_wp2_with fail
  go_loopw [3, 9] (fun s3 s9 wr => ∃ (i : Nat) (v : Value) (o : List ByteArray), i ≤ n ∧ v = s3 ∧ s9 = .int .i64 i ∧ o.length ≤ i ∧ Own wr w.heap.size 9 .str v o ∧ Ris (l.take i) o ∧ Below w.heap.size w wr) (fun _ s9 _ => n - (intOf s9).toNat)
  case atStart => exact ⟨0, _, [], by omega, rfl, rfl, Nat.le_refl _, Own.nil _ _ _ _, Ris.nil, Below.refl _ _⟩
  case round =>
    obtain ⟨i, v, o, hi, rfl, rfl, hoi, hO, hr, hbel⟩ := hrel
    have HB := Lib.hid hbel
    have HO := Lib.hid hO
    have HS := Lib.hid hr
    obtain ⟨A', c', rfl, _⟩ := Own.form hO
    obtain ⟨j, hjo⟩ : ∃ j, o.length = j := ⟨_, rfl⟩
    rw [hjo] at HO hoi ⊢
    have HJO := Lib.hid hjo
    clear hr hO
    by_cases hlt1 : i < n
    · obtain ⟨ad, f, rfl, hx⟩ := H0.out.some_at hlt1
      obtain ⟨hcx, hf63⟩ := str_rows (H0.out.below hbel) hx
      have i0 : (0 : Int) ≤ (i : Int) := by omega
      have i1 : (i : Int) < (n : Int) := by omega
      have HN := Lib.hid (show l.take (i + 1) = l.take i ++ [f] from take_at hx)
      have HF := Lib.hid hf63
      clear hx hf63 hbel hjo
      go_wp2_with fail
      go_loopw [6] (fun s6 wq => ∃ k : Nat, k ≤ j ∧ s6 = .int .i64 k ∧ (∀ y ∈ o.take k, ltS y f) ∧ wr = wq) (fun s6 _ => j - (intOf s6).toNat)
      case atStart => exact ⟨0, by omega, rfl, (fun y hy => by simp at hy), rfl⟩
      case round =>
        obtain ⟨k, hkj, rfl, hgt, rfl⟩ := hrel
        have hjc := own_capS HO.out
        have hkc : k ≤ c' := by omega
        by_cases hkl : k < j
        · have hjo := HJO.out
          obtain ⟨ad2, y, rfl, hy⟩ := (own_rowsS HO.out hjo.symm).some_at hkl
          have hcy := (str_rows (own_rowsS HO.out hjo.symm) hy).1
          have k0 : (0 : Int) ≤ (k : Int) := by omega
          have k2 : (k : Int) < (j : Int) := by omega
          cases hless : Op.bytesLess y.toList f.toList with
          | true =>
            have HGT := Lib.hid (take_lt hgt hy hless)
            clear hgt hy hjo
            go_wp2_with fail
            go_roundw
            case measure => simp [intOf]; omega
            case rel => exact ⟨k + 1, by omega, by go_num, HGT.out, trivial⟩
          | false =>
            cases heq : (y.toList == f.toList) with
            | true =>
              have HR := Lib.hid (show Ris (l.take (i + 1)) o by
                rw [HN.out]
                exact ris_same HS.out (by rw [← ba_ext (beq_iff_eq.1 heq)]; exact List.mem_of_getElem? hy))
              clear hgt hy hjo
              go_wp2_with fail
              go_roundw
              case measure => simp [intOf]; omega
              case rel => exact ⟨i + 1, _, o, by omega, rfl, by go_num, by rw [HJO.out]; omega, HO.out, HR.out, HB.out⟩
            | false =>
              have HR := Lib.hid (show Ris (l.take (i + 1)) (o.take k ++ f :: o.drop k) by
                rw [HN.out]
                exact ris_ins HS.out hgt (gt_drop HS.out.1 hy (bl_total _ _ hless (ne_of_beq_false heq))))
              clear hgt hy
              go_wp2_with fail
              obtain ⟨B8, hB8⟩ : ∃ B8 : Option Addr, (if c' = k then (some ad2) else Option.map (fun x : Addr => x.add (k * 1)) (some ad2)) = B8 := ⟨_, rfl⟩
              refine region_in (by kernel_rfl) (fun w1 hw1 => ?_)
              have HO1 := Lib.hid (HO.out.below hw1)
              have HB1 := Lib.hid (HB.out.trans (hw1.mono HB.out.size))
              have HR1 := Lib.hid (Own.form HO1.out)
              first
                | (refine take_in (i := 0) (v := ?_) rfl (by kernel_rfl) (by kernel_rfl) (by kernel_rfl) (fun _ _ _ h => h) (Or.inl ⟨by rfl, ?_⟩) (Below.refl _ _) ?_; rotate_left; (focus (intro W hSw; go_simp; (try rfl); done)); (try simp only [Act.put, List.setIfInBounds_toArray, List.set_cons_zero, List.set_cons_succ]))
                | (refine take_in (i := 0) (v := undef) rfl (by kernel_rfl) (by kernel_rfl) (by kernel_rfl) (fun _ _ _ h => h) (Or.inr ⟨by rfl, rfl⟩) (Below.refl _ _) ?_; (try simp only [Act.put, List.setIfInBounds_toArray, List.set_cons_zero, List.set_cons_succ]))
                | (fail "HTAKE 0")
              first
                | (refine take_in (i := 1) (v := ?_) rfl (by kernel_rfl) (by kernel_rfl) (by kernel_rfl) (fun _ _ _ h => h) (Or.inl ⟨by rfl, ?_⟩) (Below.refl _ _) ?_; rotate_left; (focus (intro W hSw; go_simp; (try rfl); done)); (try simp only [Act.put, List.setIfInBounds_toArray, List.set_cons_zero, List.set_cons_succ]))
                | (refine take_in (i := 1) (v := undef) rfl (by kernel_rfl) (by kernel_rfl) (by kernel_rfl) (fun _ _ _ h => h) (Or.inr ⟨by rfl, rfl⟩) (Below.refl _ _) ?_; (try simp only [Act.put, List.setIfInBounds_toArray, List.set_cons_zero, List.set_cons_succ]))
                | (fail "HTAKE 1")
              first
                | (refine take_in (i := 2) (v := ?_) rfl (by kernel_rfl) (by kernel_rfl) (by kernel_rfl) (fun _ _ _ h => h) (Or.inl ⟨by rfl, ?_⟩) (Below.refl _ _) ?_; rotate_left; (focus (intro W hSw; go_simp; (try rfl); done)); (try simp only [Act.put, List.setIfInBounds_toArray, List.set_cons_zero, List.set_cons_succ]))
                | (refine take_in (i := 2) (v := undef) rfl (by kernel_rfl) (by kernel_rfl) (by kernel_rfl) (fun _ _ _ h => h) (Or.inr ⟨by rfl, rfl⟩) (Below.refl _ _) ?_; (try simp only [Act.put, List.setIfInBounds_toArray, List.set_cons_zero, List.set_cons_succ]))
                | (fail "HTAKE 2")
              refine take_in (i := 3) (v := _) rfl (by kernel_rfl) (by kernel_rfl) (by kernel_rfl) (fun _ _ _ h => h) (yields_to (by rfl) k _ _ _ rfl rfl rfl rfl Try.underlying39 size_str hkc) (Below.refl _ _) ?_
              (try simp only [Act.put, List.setIfInBounds_toArray, List.set_cons_zero, List.set_cons_succ])
              first
                | (refine take_in (i := 4) (v := ?_) rfl (by kernel_rfl) (by kernel_rfl) (by kernel_rfl) (fun _ _ _ h => h) (Or.inl ⟨by rfl, ?_⟩) (Below.refl _ _) ?_; rotate_left; (focus (intro W hSw; go_simp; (try rfl); done)); (try simp only [Act.put, List.setIfInBounds_toArray, List.set_cons_zero, List.set_cons_succ]))
                | (refine take_in (i := 4) (v := undef) rfl (by kernel_rfl) (by kernel_rfl) (by kernel_rfl) (fun _ _ _ h => h) (Or.inr ⟨by rfl, rfl⟩) (Below.refl _ _) ?_; (try simp only [Act.put, List.setIfInBounds_toArray, List.set_cons_zero, List.set_cons_succ]))
                | (fail "HTAKE 4")
              first
                | (refine take_in (i := 6) (v := ?_) rfl (by kernel_rfl) (by kernel_rfl) (by kernel_rfl) (fun _ _ _ h => h) (Or.inl ⟨by rfl, ?_⟩) (Below.refl _ _) ?_; rotate_left; (focus (intro W hSw; go_simp; (try rfl); done)); (try simp only [Act.put, List.setIfInBounds_toArray, List.set_cons_zero, List.set_cons_succ]))
                | (refine take_in (i := 6) (v := undef) rfl (by kernel_rfl) (by kernel_rfl) (by kernel_rfl) (fun _ _ _ h => h) (Or.inr ⟨by rfl, rfl⟩) (Below.refl _ _) ?_; (try simp only [Act.put, List.setIfInBounds_toArray, List.set_cons_zero, List.set_cons_succ]))
                | (fail "HTAKE 6")
              first
                | (refine take_in (i := 7) (v := ?_) rfl (by kernel_rfl) (by kernel_rfl) (by kernel_rfl) (fun _ _ _ h => h) (Or.inl ⟨by rfl, ?_⟩) (Below.refl _ _) ?_; rotate_left; (focus (intro W hSw; go_simp; (try rfl); done)); (try simp only [Act.put, List.setIfInBounds_toArray, List.set_cons_zero, List.set_cons_succ]))
                | (refine take_in (i := 7) (v := undef) rfl (by kernel_rfl) (by kernel_rfl) (by kernel_rfl) (fun _ _ _ h => h) (Or.inr ⟨by rfl, rfl⟩) (Below.refl _ _) ?_; (try simp only [Act.put, List.setIfInBounds_toArray, List.set_cons_zero, List.set_cons_succ]))
                | (fail "HTAKE 7")
              refine take_in (i := 8) (v := _) rfl (by kernel_rfl) (by kernel_rfl) (by kernel_rfl) (fun _ _ _ h => h) (yields_fromB (by rfl) k _ _ rfl rfl rfl Try.underlying39 size_str (by omega) hB8) (Below.refl _ _) ?_
              (try simp only [Act.put, List.setIfInBounds_toArray, List.set_cons_zero, List.set_cons_succ])
              refine call_in (i := 5) rfl (by kernel_rfl) (by kernel_rfl) (fun K hK => ?_)
              go_simp
              have hb2 := below_alloc1 w1 (.cells #[.string f] 9)
              obtain ⟨w2, hw2⟩ : ∃ w2, w1.alloc (.cells #[.string f] 9) = w2 := ⟨_, rfl⟩
              have hO2 : Own w2 w1.heap.size 9 .str (.slice (some ⟨w1.heap.size, 0, none⟩) 1 1) [f] := by rw [← hw2]; exact one_ownS w1 f HF.out
              rw [hw2] at hb2 ⊢
              have HO2 := Lib.hid hO2
              have HC2 := Lib.hid hb2
              clear hO2 hw2 hb2
              refine hK.out _ _ HC2.out ?_
              (try simp only [Act.put, List.setIfInBounds_toArray, List.set_cons_zero, List.set_cons_succ])
              have hrd8 := rows_from ((own_rowsS HO1.out hjo.symm).below HC2.out) hjc k hkj
              rw [show (if c' = k then (some ad2) else Option.map (fun x : Addr => x.add (k * Sh.size .str)) (some ad2)) = B8 from hB8] at hrd8
              have HRD := Lib.hid hrd8
              clear hrd8 hB8
              obtain ⟨ys, hys, hyat⟩ := HRD.out.cells
              have HY := Lib.hid hys
              have HYA := Lib.hid hyat
              clear hys hyat
              refine call_in (i := 9) rfl (by kernel_rfl) (by kernel_rfl) (fun K hK => ?_)
              refine wpo_appC (S := .str) (l := [f]) (r := o.drop k) (ys := ys) (.tmp 44) (.tmp 47) rfl rfl rfl HO2.out rfl (fun ad' e => (HYA.out ad' e).2) (fun e => HRD.out.2.1 e) (rdl_anyS HY.out) (by rw [List.length_drop, hjo]) Try.underlying39 info_str rfl (by decide) (by omega) (by omega) HC2.out.size ?_
              intro v3 w3 hO3 hb3
              obtain ⟨A3, c3, rfl, _⟩ := Own.form hO3
              have HO3 := Lib.hid hO3
              have hl3 : ([f] ++ o.drop k).length = j - k + 1 := by rw [List.length_append, List.length_drop, hjo]; simp; omega
              rw [hl3] at HO3 ⊢
              have HC3 := Lib.hid (HC2.out.trans (hb3.mono HC2.out.size))
              clear hO3
              refine hK.out _ _ hb3 ?_
              (try simp only [Act.put, List.setIfInBounds_toArray, List.set_cons_zero, List.set_cons_succ])
              have HRT := Lib.hid (rows_to ((own_rowsS HO1.out hjo.symm).below HC3.out) k hkj)
              obtain ⟨xs, hxs, hxat⟩ := HRT.out.cells
              obtain ⟨zs, hzs, hzat⟩ := (own_rowsS HO3.out hl3.symm).cells
              have HX := Lib.hid (And.intro hxs hxat)
              have HZ := Lib.hid (And.intro hzs hzat)
              clear hxs hxat hzs hzat
              refine call_in (i := 10) rfl (by kernel_rfl) (by kernel_rfl) (fun K hK => ?_)
              refine wpo_appG (S := .str) (ok := anyB) (l := o.take k) (r := [f] ++ o.drop k) (xs := xs) (ys := zs) (.tmp 42) (.tmp 48) rfl rfl rfl (fun e => ⟨by have := HRT.out.2.1 e; omega, by have := HRT.out.2.1 e; omega⟩) (fun ad e => (HX.out.2 ad e).2) (rdl_anyS HX.out.1) (by simp; omega) (fun ad e => (HZ.out.2 ad e).2) (fun e => by have := (own_rowsS HO3.out hl3.symm).2.1 e; omega) (rdl_anyS HZ.out.1) (by rw [hl3]) (Nat.le_refl _) (by omega) Try.underlying39 info_str rfl (by decide) (by omega) (by omega) ?_
              intro v5 w5 hO5 hg5
              have hB15 : w.heap.size ≤ w3.heap.size := Nat.le_trans HB1.out.size HC3.out.size
              have hO5' := own_base_leS hO5 hB15
              have hb35 : Below w3.heap.size w3 w5 := (Below.refl _ _).grown hg5 (Nat.le_refl _) (fun k e => by cases e)
              have HB5 := Lib.hid (HB1.out.trans ((HC3.out.trans (hb35.mono HC3.out.size)).mono HB1.out.size))
              obtain ⟨A5, c5, rfl, _⟩ := Own.form hO5'
              have HO5 := Lib.hid hO5'
              have hl5 : (o.take k ++ ([f] ++ o.drop k)).length = j + 1 := by simp; omega
              rw [hl5] at HO5 ⊢
              clear hO5 hO5'
              refine hK.out _ _ hb35 ?_
              (try simp only [Act.put, List.setIfInBounds_toArray, List.set_cons_zero, List.set_cons_succ])
              first
                | (refine take_in (i := 11) (v := ?_) rfl (by kernel_rfl) (by kernel_rfl) (by kernel_rfl) (fun _ _ _ h => h) (Or.inl ⟨by rfl, ?_⟩) (Below.refl _ _) ?_; rotate_left; (focus (intro W hSw; go_simp; (try rfl); done)); (try simp only [Act.put, List.setIfInBounds_toArray, List.set_cons_zero, List.set_cons_succ]))
                | (refine take_in (i := 11) (v := undef) rfl (by kernel_rfl) (by kernel_rfl) (by kernel_rfl) (fun _ _ _ h => h) (Or.inr ⟨by rfl, rfl⟩) (Below.refl _ _) ?_; (try simp only [Act.put, List.setIfInBounds_toArray, List.set_cons_zero, List.set_cons_succ]))
                | (fail "HTAKE 11")
              refine wpAnyH_done (by kernel_rfl) ?_ _
              go_wp2_with fail
              go_roundw
              case measure => simp [intOf]; omega
              case rel => exact ⟨i + 1, _, o.take k ++ f :: o.drop k, by omega, rfl, by go_num, by simp; omega, HO5.out, HR.out, HB5.out⟩
        · have hkje : k = j := by omega
          have hjo := HJO.out
          have k2 : ¬ (k : Int) < (j : Int) := by omega
          have HR := Lib.hid (show Ris (l.take (i + 1)) (o.take k ++ f :: o.drop k) by
            rw [HN.out]
            exact ris_ins HS.out hgt (fun z hz => by rw [List.drop_eq_nil_of_le (by omega)] at hz; cases hz))
          clear hgt hkje hkl
          go_wp2_with fail
          obtain ⟨B8, hB8⟩ : ∃ B8 : Option Addr, (if c' = k then A' else Option.map (fun x : Addr => x.add (k * 1)) A') = B8 := ⟨_, rfl⟩
          refine region_in (by kernel_rfl) (fun w1 hw1 => ?_)
          have HO1 := Lib.hid (HO.out.below hw1)
          have HB1 := Lib.hid (HB.out.trans (hw1.mono HB.out.size))
          have HR1 := Lib.hid (Own.form HO1.out)
          first
            | (refine take_in (i := 0) (v := ?_) rfl (by kernel_rfl) (by kernel_rfl) (by kernel_rfl) (fun _ _ _ h => h) (Or.inl ⟨by rfl, ?_⟩) (Below.refl _ _) ?_; rotate_left; (focus (intro W hSw; go_simp; (try rfl); done)); (try simp only [Act.put, List.setIfInBounds_toArray, List.set_cons_zero, List.set_cons_succ]))
            | (refine take_in (i := 0) (v := undef) rfl (by kernel_rfl) (by kernel_rfl) (by kernel_rfl) (fun _ _ _ h => h) (Or.inr ⟨by rfl, rfl⟩) (Below.refl _ _) ?_; (try simp only [Act.put, List.setIfInBounds_toArray, List.set_cons_zero, List.set_cons_succ]))
            | (fail "HTAKE 0")
          first
            | (refine take_in (i := 1) (v := ?_) rfl (by kernel_rfl) (by kernel_rfl) (by kernel_rfl) (fun _ _ _ h => h) (Or.inl ⟨by rfl, ?_⟩) (Below.refl _ _) ?_; rotate_left; (focus (intro W hSw; go_simp; (try rfl); done)); (try simp only [Act.put, List.setIfInBounds_toArray, List.set_cons_zero, List.set_cons_succ]))
            | (refine take_in (i := 1) (v := undef) rfl (by kernel_rfl) (by kernel_rfl) (by kernel_rfl) (fun _ _ _ h => h) (Or.inr ⟨by rfl, rfl⟩) (Below.refl _ _) ?_; (try simp only [Act.put, List.setIfInBounds_toArray, List.set_cons_zero, List.set_cons_succ]))
            | (fail "HTAKE 1")
          first
            | (refine take_in (i := 2) (v := ?_) rfl (by kernel_rfl) (by kernel_rfl) (by kernel_rfl) (fun _ _ _ h => h) (Or.inl ⟨by rfl, ?_⟩) (Below.refl _ _) ?_; rotate_left; (focus (intro W hSw; go_simp; (try rfl); done)); (try simp only [Act.put, List.setIfInBounds_toArray, List.set_cons_zero, List.set_cons_succ]))
            | (refine take_in (i := 2) (v := undef) rfl (by kernel_rfl) (by kernel_rfl) (by kernel_rfl) (fun _ _ _ h => h) (Or.inr ⟨by rfl, rfl⟩) (Below.refl _ _) ?_; (try simp only [Act.put, List.setIfInBounds_toArray, List.set_cons_zero, List.set_cons_succ]))
            | (fail "HTAKE 2")
          refine take_in (i := 3) (v := _) rfl (by kernel_rfl) (by kernel_rfl) (by kernel_rfl) (fun _ _ _ h => h) (yields_to (by rfl) k _ _ _ rfl rfl rfl rfl Try.underlying39 size_str hkc) (Below.refl _ _) ?_
          (try simp only [Act.put, List.setIfInBounds_toArray, List.set_cons_zero, List.set_cons_succ])
          first
            | (refine take_in (i := 4) (v := ?_) rfl (by kernel_rfl) (by kernel_rfl) (by kernel_rfl) (fun _ _ _ h => h) (Or.inl ⟨by rfl, ?_⟩) (Below.refl _ _) ?_; rotate_left; (focus (intro W hSw; go_simp; (try rfl); done)); (try simp only [Act.put, List.setIfInBounds_toArray, List.set_cons_zero, List.set_cons_succ]))
            | (refine take_in (i := 4) (v := undef) rfl (by kernel_rfl) (by kernel_rfl) (by kernel_rfl) (fun _ _ _ h => h) (Or.inr ⟨by rfl, rfl⟩) (Below.refl _ _) ?_; (try simp only [Act.put, List.setIfInBounds_toArray, List.set_cons_zero, List.set_cons_succ]))
            | (fail "HTAKE 4")
          first
            | (refine take_in (i := 6) (v := ?_) rfl (by kernel_rfl) (by kernel_rfl) (by kernel_rfl) (fun _ _ _ h => h) (Or.inl ⟨by rfl, ?_⟩) (Below.refl _ _) ?_; rotate_left; (focus (intro W hSw; go_simp; (try rfl); done)); (try simp only [Act.put, List.setIfInBounds_toArray, List.set_cons_zero, List.set_cons_succ]))
            | (refine take_in (i := 6) (v := undef) rfl (by kernel_rfl) (by kernel_rfl) (by kernel_rfl) (fun _ _ _ h => h) (Or.inr ⟨by rfl, rfl⟩) (Below.refl _ _) ?_; (try simp only [Act.put, List.setIfInBounds_toArray, List.set_cons_zero, List.set_cons_succ]))
            | (fail "HTAKE 6")
          first
            | (refine take_in (i := 7) (v := ?_) rfl (by kernel_rfl) (by kernel_rfl) (by kernel_rfl) (fun _ _ _ h => h) (Or.inl ⟨by rfl, ?_⟩) (Below.refl _ _) ?_; rotate_left; (focus (intro W hSw; go_simp; (try rfl); done)); (try simp only [Act.put, List.setIfInBounds_toArray, List.set_cons_zero, List.set_cons_succ]))
            | (refine take_in (i := 7) (v := undef) rfl (by kernel_rfl) (by kernel_rfl) (by kernel_rfl) (fun _ _ _ h => h) (Or.inr ⟨by rfl, rfl⟩) (Below.refl _ _) ?_; (try simp only [Act.put, List.setIfInBounds_toArray, List.set_cons_zero, List.set_cons_succ]))
            | (fail "HTAKE 7")
          refine take_in (i := 8) (v := _) rfl (by kernel_rfl) (by kernel_rfl) (by kernel_rfl) (fun _ _ _ h => h) (yields_fromB (by rfl) k _ _ rfl rfl rfl Try.underlying39 size_str (by omega) hB8) (Below.refl _ _) ?_
          (try simp only [Act.put, List.setIfInBounds_toArray, List.set_cons_zero, List.set_cons_succ])
          refine call_in (i := 5) rfl (by kernel_rfl) (by kernel_rfl) (fun K hK => ?_)
          go_simp
          have hb2 := below_alloc1 w1 (.cells #[.string f] 9)
          obtain ⟨w2, hw2⟩ : ∃ w2, w1.alloc (.cells #[.string f] 9) = w2 := ⟨_, rfl⟩
          have hO2 : Own w2 w1.heap.size 9 .str (.slice (some ⟨w1.heap.size, 0, none⟩) 1 1) [f] := by rw [← hw2]; exact one_ownS w1 f HF.out
          rw [hw2] at hb2 ⊢
          have HO2 := Lib.hid hO2
          have HC2 := Lib.hid hb2
          clear hO2 hw2 hb2
          refine hK.out _ _ HC2.out ?_
          (try simp only [Act.put, List.setIfInBounds_toArray, List.set_cons_zero, List.set_cons_succ])
          have hrd8 := rows_from ((own_rowsS HO1.out hjo.symm).below HC2.out) hjc k hkj
          rw [show (if c' = k then A' else Option.map (fun x : Addr => x.add (k * Sh.size .str)) A') = B8 from hB8] at hrd8
          have HRD := Lib.hid hrd8
          clear hrd8 hB8
          obtain ⟨ys, hys, hyat⟩ := HRD.out.cells
          have HY := Lib.hid hys
          have HYA := Lib.hid hyat
          clear hys hyat
          refine call_in (i := 9) rfl (by kernel_rfl) (by kernel_rfl) (fun K hK => ?_)
          refine wpo_appC (S := .str) (l := [f]) (r := o.drop k) (ys := ys) (.tmp 44) (.tmp 47) rfl rfl rfl HO2.out rfl (fun ad' e => (HYA.out ad' e).2) (fun e => HRD.out.2.1 e) (rdl_anyS HY.out) (by rw [List.length_drop, hjo]) Try.underlying39 info_str rfl (by decide) (by omega) (by omega) HC2.out.size ?_
          intro v3 w3 hO3 hb3
          obtain ⟨A3, c3, rfl, _⟩ := Own.form hO3
          have HO3 := Lib.hid hO3
          have hl3 : ([f] ++ o.drop k).length = j - k + 1 := by rw [List.length_append, List.length_drop, hjo]; simp; omega
          rw [hl3] at HO3 ⊢
          have HC3 := Lib.hid (HC2.out.trans (hb3.mono HC2.out.size))
          clear hO3
          refine hK.out _ _ hb3 ?_
          (try simp only [Act.put, List.setIfInBounds_toArray, List.set_cons_zero, List.set_cons_succ])
          have HRT := Lib.hid (rows_to ((own_rowsS HO1.out hjo.symm).below HC3.out) k hkj)
          obtain ⟨xs, hxs, hxat⟩ := HRT.out.cells
          obtain ⟨zs, hzs, hzat⟩ := (own_rowsS HO3.out hl3.symm).cells
          have HX := Lib.hid (And.intro hxs hxat)
          have HZ := Lib.hid (And.intro hzs hzat)
          clear hxs hxat hzs hzat
          refine call_in (i := 10) rfl (by kernel_rfl) (by kernel_rfl) (fun K hK => ?_)
          refine wpo_appG (S := .str) (ok := anyB) (l := o.take k) (r := [f] ++ o.drop k) (xs := xs) (ys := zs) (.tmp 42) (.tmp 48) rfl rfl rfl (fun e => ⟨by have := HRT.out.2.1 e; omega, by have := HRT.out.2.1 e; omega⟩) (fun ad e => (HX.out.2 ad e).2) (rdl_anyS HX.out.1) (by simp; omega) (fun ad e => (HZ.out.2 ad e).2) (fun e => by have := (own_rowsS HO3.out hl3.symm).2.1 e; omega) (rdl_anyS HZ.out.1) (by rw [hl3]) (Nat.le_refl _) (by omega) Try.underlying39 info_str rfl (by decide) (by omega) (by omega) ?_
          intro v5 w5 hO5 hg5
          have hB15 : w.heap.size ≤ w3.heap.size := Nat.le_trans HB1.out.size HC3.out.size
          have hO5' := own_base_leS hO5 hB15
          have hb35 : Below w3.heap.size w3 w5 := (Below.refl _ _).grown hg5 (Nat.le_refl _) (fun k e => by cases e)
          have HB5 := Lib.hid (HB1.out.trans ((HC3.out.trans (hb35.mono HC3.out.size)).mono HB1.out.size))
          obtain ⟨A5, c5, rfl, _⟩ := Own.form hO5'
          have HO5 := Lib.hid hO5'
          have hl5 : (o.take k ++ ([f] ++ o.drop k)).length = j + 1 := by simp; omega
          rw [hl5] at HO5 ⊢
          clear hO5 hO5'
          refine hK.out _ _ hb35 ?_
          (try simp only [Act.put, List.setIfInBounds_toArray, List.set_cons_zero, List.set_cons_succ])
          first
            | (refine take_in (i := 11) (v := ?_) rfl (by kernel_rfl) (by kernel_rfl) (by kernel_rfl) (fun _ _ _ h => h) (Or.inl ⟨by rfl, ?_⟩) (Below.refl _ _) ?_; rotate_left; (focus (intro W hSw; go_simp; (try rfl); done)); (try simp only [Act.put, List.setIfInBounds_toArray, List.set_cons_zero, List.set_cons_succ]))
            | (refine take_in (i := 11) (v := undef) rfl (by kernel_rfl) (by kernel_rfl) (by kernel_rfl) (fun _ _ _ h => h) (Or.inr ⟨by rfl, rfl⟩) (Below.refl _ _) ?_; (try simp only [Act.put, List.setIfInBounds_toArray, List.set_cons_zero, List.set_cons_succ]))
            | (fail "HTAKE 11")
          refine wpAnyH_done (by kernel_rfl) ?_ _
          go_wp2_with fail
          go_roundw
          case measure => simp [intOf]; omega
          case rel => exact ⟨i + 1, _, o.take k ++ f :: o.drop k, by omega, rfl, by go_num, by simp; omega, HO5.out, HR.out, HB5.out⟩
    · obtain rfl : i = n := by omega
      have HE := Lib.hid (show o = tidy l by
        have h1 := HS.out
        rw [List.take_of_length_le (by omega)] at h1
        exact h1.uniq (tidy_ris l) (fun _ => Iff.rfl))
      go_wp2_with fail
      go_ret
      rw [HE.out] at HO
      exact ⟨_, rfl, HO.out, HB.out⟩
end Go.Proofs.Ytfjnpiahloncmaa
