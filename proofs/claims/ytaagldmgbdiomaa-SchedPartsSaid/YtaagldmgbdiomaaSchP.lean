import Derived.Test.YtaagldmgbdiomaaSchL
namespace Go.Proofs.Ytaagldmgbdiomaa
open Go.RowKit Mixed
set_option linter.unusedVariables false
set_option linter.unusedSimpArgs false
set_option maxRecDepth 20000 in
theorem rd_bool_mk (w : World) (ok : Nat → Prop) (q : Bool) : Rd w ok .bool q [.bool q] := rfl
set_option maxRecDepth 20000 in
theorem mixN_mem {α : Type} (f : List Bool) : ∀ (n i : Nat) (a b : List α) (x : α), x ∈ mixN f n i a b → x ∈ a ∨ x ∈ b
  | 0, _, _, _, x, h => by simp [mixN] at h
  | n + 1, i, [], [], x, h => by simp [mixN] at h
  | n + 1, i, y :: a, [], x, h => by
    simp only [mixN, List.mem_cons] at h
    rcases h with rfl | h
    · exact .inl List.mem_cons_self
    · rcases mixN_mem f n (i + 1) a [] x h with h | h
      · exact .inl (List.mem_cons_of_mem _ h)
      · exact .inr h
  | n + 1, i, [], y :: b, x, h => by
    simp only [mixN, List.mem_cons] at h
    rcases h with rfl | h
    · exact .inr List.mem_cons_self
    · rcases mixN_mem f n (i + 1) [] b x h with h | h
      · exact .inl h
      · exact .inr (List.mem_cons_of_mem _ h)
  | n + 1, i, y :: a, z :: b, x, h => by
    simp only [mixN] at h
    split at h
    · rcases List.mem_cons.1 h with rfl | h
      · exact .inl List.mem_cons_self
      · rcases mixN_mem f n (i + 1) a (z :: b) x h with h | h
        · exact .inl (List.mem_cons_of_mem _ h)
        · exact .inr h
    · rcases List.mem_cons.1 h with rfl | h
      · exact .inr List.mem_cons_self
      · rcases mixN_mem f n (i + 1) (y :: a) b x h with h | h
        · exact .inl h
        · exact .inr (List.mem_cons_of_mem _ h)
set_option maxRecDepth 20000 in
theorem mix_small {a b : List STEP.Ty} (f : List Bool) (ha : SmallS a) (hb : SmallS b) : SmallS (mixL f 0 a b) := fun x hx => (mixN_mem f _ 0 a b x hx).elim (ha x) (hb x)
set_option maxRecDepth 20000 in
theorem filter_parts {α : Type} (p : α → Bool) : ∀ l : List α, (l.filter p).length + (l.filter fun x => !p x).length = l.length
  | [] => rfl
  | x :: l => by
    have := filter_parts p l
    cases h : p x with
    | true => rw [List.filter_cons_of_pos (by simpa using h), List.filter_cons_of_neg (by simp [h]), List.length_cons, List.length_cons]; omega
    | false => rw [List.filter_cons_of_neg (by simp [h]), List.filter_cons_of_pos (by simp [h]), List.length_cons, List.length_cons]; omega
set_option maxHeartbeats 4000000 in
set_option maxRecDepth 20000 in
theorem w_SchedParts (a : Option Addr) (n ca : Nat) (la : List STEP.Ty) (k : Option Addr) (m ck : Nat) (ks : List Int) (f : Option Addr) (nf cf : Nat) (lf : List Bool)
    (w : World) (ha1 : n ≤ ca) (ha2 : ca ≤ 9223372036854775807) (ha : Rows w anyB STEP a n la) (hk1 : m ≤ ck) (hk2 : ck ≤ 9223372036854775807) (hk : Rows w anyB (.int .i64) k m ks)
    (hf1 : nf ≤ cf) (hf2 : cf ≤ 9223372036854775807) (hf : Rows w anyB .bool f nf lf) :
    Calls Try.prog 4 #[.slice a n ca, .slice k m ck, .slice f nf cf] w fun e w' => e = .returned (.bool true) ∧ Below w.heap.size w w' := by
  have HA := Lib.hid ha
  have HF := Lib.hid hf
  have HK := Lib.hid hk
  clear ha hf hk
  go_enter Try.func4, Try.ntmps4
  go_wp2_with fail
  refine (sch_awake w).mono ?_
  rintro e w1 ⟨rfl, hw1⟩
  go_wp2_with fail
  refine (few_any w1 anyB a n ca la (HA.out.below hw1) (by omega)).mono ?_
  rintro e w2 ⟨p, rfl, hp, hw12⟩
  have hw2 := hw1.trans (hw12.mono hw1.size)
  cases p with
  | false =>
    clear hp
    go_wp2_with fail
    go_ret
    exact ⟨rfl, hw2⟩
  | true =>
  have hFA := hp rfl
  have hn : n ≤ 120 := by have := hFA.1; rw [HA.out.1] at this; exact this
  have HFA := Lib.hid hFA.small
  clear hp hFA
  by_cases hnk : (20 : Int) < (m : Nat)
  · go_wp2_with fail
    go_ret
    exact ⟨rfl, hw2⟩
  by_cases hnf : (300 : Int) < (nf : Nat)
  · go_wp2_with fail
    go_ret
    exact ⟨rfl, hw2⟩
  go_wp2_with fail
  refine (only_any w2 anyB a n ca la k m ck ks (HA.out.below hw2) ha1 ha2 (by omega) HFA.out (HK.out.below hw2) (by omega)).mono ?_
  rintro e w3 ⟨v3, rfl, hO3, hw23⟩
  have hw3 := hw2.trans (hw23.mono hw2.size)
  obtain ⟨A3, c3, rfl, _⟩ := hO3.form
  have HO3 := Lib.hid hO3
  clear hO3
  go_wp2_with fail
  refine (without_any w3 anyB a n ca la k m ck ks (HA.out.below hw3) ha1 ha2 (by omega) HFA.out (HK.out.below hw3) (by omega)).mono ?_
  rintro e w4 ⟨v4, rfl, hO4, hw34⟩
  have hw4 := hw3.trans (hw34.mono hw3.size)
  obtain ⟨A4, c4, rfl, _⟩ := hO4.form
  have HO4 := Lib.hid hO4
  have HO3' := Lib.hid (HO3.out.below hw34)
  clear hO4
  obtain ⟨LA, hLA⟩ : ∃ L, (la.filter fun x => hasK ks (kindOf x)) = L := ⟨_, rfl⟩
  obtain ⟨LB, hLB⟩ : ∃ L, (la.filter fun x => !hasK ks (kindOf x)) = L := ⟨_, rfl⟩
  rw [hLA] at HO3' ⊢
  rw [hLB] at HO4 ⊢
  have HLA := Lib.hid hLA
  have HLB := Lib.hid hLB
  clear hLA hLB HO3
  go_wp2_with fail
  go_loopw [9, 39] (fun s9 s39 wr => ∃ (i : Nat) (v : Value), i ≤ n ∧ s9 = v ∧ s39 = .int .i64 i ∧ Own wr w4.heap.size 4 .bool v ((la.take i).map fun x => hasK ks (kindOf x)) ∧ Below w4.heap.size w4 wr) (fun _ s39 _ => n - (intOf s39).toNat)
  case atStart => exact ⟨0, _, by omega, rfl, rfl, Own.nil _ _ _ _, Below.refl _ _⟩
  case round =>
    obtain ⟨i, v, hi, rfl, rfl, hO, hbel⟩ := hrel
    have hl := HA.out.1
    obtain ⟨Ao, co, rfl, _⟩ := hO.form
    rw [List.length_map, List.length_take, Nat.min_eq_left (by omega)] at hO ⊢
    have HO := Lib.hid hO
    clear hO
    have HW4 := Lib.hid hw4
    have HAr := Lib.hid ((HA.out.below hw4).below hbel)
    have HKr := Lib.hid ((HK.out.below hw4).below hbel)
    clear hw4
    by_cases hlt : i < n
    · obtain ⟨x, hx⟩ : ∃ x, la[i]? = some x := ⟨la[i]'(by omega), List.getElem?_eq_getElem (by omega)⟩
      obtain ⟨ad, rfl⟩ : ∃ ad, a = some ad := by cases a with
        | none => exact absurd (HA.out.2.1 rfl) (by omega)
        | some ad => exact ⟨ad, rfl⟩
      obtain ⟨cs, _, hat, hrd⟩ := HAr.out.2.2 ad rfl i x hx
      have i0 : (0 : Int) ≤ (i : Int) := by omega
      have i1 : (i : Int) < (n : Int) := by omega
      have HAt := Lib.hid hat.add
      clear hat
      have hcl := hrd.len
      have hco := hrd.one
      have HN := Lib.hid (show (la.take (i + 1)).map (fun x => hasK ks (kindOf x)) = (la.take i).map (fun x => hasK ks (kindOf x)) ++ [hasK ks (kindOf x)] by rw [take_at hx, List.map_append]; rfl)
      have hfr := (step_front hrd).1
      clear hrd hx
      obtain ⟨kx, hkx⟩ : ∃ kx, kx = kindOf x := ⟨_, rfl⟩
      rw [← hkx] at hfr HN
      clear hkx
      go_wp2_with (first
        | (refine wpL_load rfl 45 (.tmp 41) rfl _ rfl _ _ HAt.out Try.underlying45 rfl (by rw [hcl]; rfl) ?_)
        | (refine wpL_store rfl 45 (.tmp 11) (.tmp 42) rfl wr.heap.size rfl cs.toArray _ 45 rfl (heap_alloc_new wr _) (by rw [List.size_toArray, hcl]; rfl) (by rw [List.size_toArray, hcl]; rfl) hco ?_; intro w5 hc1 hg1; have hbw1 : Below wr.heap.size wr w5 := (below_alloc1 wr _).grown hg1 (by simp) (fun k e => by cases e; exact Nat.le_refl _); have c0 := blk_at hc1 0 _ (by rw [List.getElem?_toArray]; exact hfr)))
      have HB1 := Lib.hid (hbel.trans (hbw1.mono hbel.size))
      have HC1 := Lib.hid hc1
      have HBW := Lib.hid hbw1
      clear hc1 hbw1 hg1
      go_loop [12, 45] (fun s10 s21 => ∃ j : Nat, j ≤ m ∧ s21 = .int .i64 j ∧ s10 = .bool (hasK (ks.take j) kx)) (fun _ s21 => m - (intOf s21).toNat)
      case atStart => exact ⟨0, by omega, rfl, rfl⟩
      case round =>
        obtain ⟨j, hj, rfl, rfl⟩ := hrel
        have hkl := HK.out.1
        by_cases hjm : j < m
        · obtain ⟨y, hy⟩ : ∃ y, ks[j]? = some y := ⟨ks[j]'(by omega), List.getElem?_eq_getElem (by omega)⟩
          obtain ⟨kd, rfl⟩ : ∃ kd, k = some kd := by cases k with
            | none => exact absurd (HK.out.2.1 rfl) (by omega)
            | some kd => exact ⟨kd, rfl⟩
          have ck := int_cell (HKr.out.below HBW.out) hy
          have j0 : (0 : Int) ≤ (j : Int) := by omega
          have j1 : (j : Int) < (m : Int) := by omega
          have HN := Lib.hid (show hasK (ks.take (j + 1)) kx = (hasK (ks.take j) kx || y == kx) by rw [take_at hy, hasK_snoc])
          clear hy
          cases hh : hasK (ks.take j) kx with
          | true =>
            rw [hh] at HN
            go_wp2_with fail
            go_round
            case rel => exact ⟨j + 1, by omega, by go_num, by rw [HN.out]; rfl⟩
            case measure => simp [intOf]; omega
          | false =>
            rw [hh] at HN
            go_wp2_with fail
            go_round
            case rel => exact ⟨j + 1, by omega, by go_num, by rw [HN.out]; rfl⟩
            case measure => simp [intOf]; omega
        · obtain rfl : j = m := by omega
          have hall : hasK (ks.take j) kx = hasK ks kx := by rw [List.take_of_length_le (by omega)]
          rw [hall]
          clear hall
          have HO2 := Lib.hid (HO.out.below HBW.out)
          generalize hasK ks kx = q at *
          go_wp2_with (at_builtin; go_loud (refine wp_appO (m := 1) (r := [q]) (ys := [.bool q]) rfl (.tmp 57) (.tmp 59) rfl (HO2.out.below (below_alloc1 w5 _)) rfl (fun e => by cases e) (fun ad' e => by cases e; exact At.blk (heap_alloc_new w5 _)) (RdL.single (x := q) (rd_bool_mk _ _ _)) (HB1.out.alloc HB1.out.size _) Try.underlying35 info_bool rfl (by decide) rfl rfl (by rw [List.length_map, List.length_take, Nat.min_eq_left (by omega)]; omega) (by rw [List.length_map, List.length_take, Nat.min_eq_left (by omega)]; omega) (by have := HB1.out.size; simp; omega) ?_; intro v6 w6 hO6 hb6 _ _; rw [← HN.out] at hO6; obtain ⟨A6, c6, rfl, _⟩ := hO6.form; rw [List.length_map, List.length_take, Nat.min_eq_left (by omega)] at hO6 ⊢; have HO6 := Lib.hid hO6; clear hO6))
          go_roundw
          case measure => simp [intOf]; omega
          case rel => exact ⟨i + 1, _, by omega, rfl, by go_num, HO6.out, hb6⟩
    · obtain rfl : i = n := by omega
      rw [List.take_of_length_le (by omega)] at HO
      have hwr := HW4.out.trans (hbel.mono HW4.out.size)
      have HWR := Lib.hid hwr
      clear hwr
      have hLAl : LA.length ≤ i := by rw [← HLA.out, ← hl]; exact List.length_filter_le _ _
      have hLBl : LB.length ≤ i := by rw [← HLB.out, ← hl]; exact List.length_filter_le _ _
      have hSA : SmallS LA := by intro x hx; rw [← HLA.out] at hx; exact HFA.out x (List.mem_filter.1 hx).1
      have hSB : SmallS LB := by intro x hx; rw [← HLB.out] at hx; exact HFA.out x (List.mem_filter.1 hx).1
      have hpA : ∀ x ∈ LA, hasK ks (kindOf x) = true := by intro x hx; rw [← HLA.out] at hx; exact (List.mem_filter.1 hx).2
      have hpB : ∀ x ∈ LB, hasK ks (kindOf x) = false := by intro x hx; rw [← HLB.out] at hx; have := (List.mem_filter.1 hx).2; simpa using this
      have HOA := Lib.hid (HO3'.out.below hbel)
      have HOB := Lib.hid (HO4.out.below hbel)
      obtain ⟨A3', c3', e3, p3, q3, _, r3⟩ := HOA.out.form
      injection e3 with e31 e32 e33
      subst e31 e33
      obtain ⟨A4', c4', e4, p4, q4, _, r4⟩ := HOB.out.form
      injection e4 with e41 e42 e43
      subst e41 e43
      have HR3 := Lib.hid r3
      have HR4 := Lib.hid r4
      have HLL := Lib.hid (show LA.length + LB.length = i by rw [← HLA.out, ← HLB.out, ← hl]; exact filter_parts _ _)
      have HPA := Lib.hid hpA
      have HPB := Lib.hid hpB
      have HSA := Lib.hid hSA
      have HSB := Lib.hid hSB
      have HLI := Lib.hid hLAl
      have HLJ := Lib.hid hLBl
      clear r3 r4 e32 e42 hpA hpB hSA hSB hLAl hLBl HAr HKr
      have HBE := Lib.hid hbel
      clear hbel
      obtain ⟨AO, cO, eO, pO, qO, _, rO⟩ := HO.out.form
      have hlo : (la.map fun x => hasK ks (kindOf x)).length = i := by rw [List.length_map, hl]
      rw [hlo] at eO rO pO
      injection eO with eO1 _ eO3
      subst eO1 eO3
      have HRO := Lib.hid rO
      have HLO := Lib.hid hlo
      clear rO hlo hl
      go_wp2_with fail
      refine (mix_any wr anyB A3 A4 LA.length LB.length c3 c4 LA LB f nf cf lf HR3.out.any HR4.out.any (HF.out.below HWR.out) p3 p4 q3 q4 (Nat.le_trans HLI.out (by omega)) (Nat.le_trans HLJ.out (by omega)) (by omega) HSA.out HSB.out).mono ?_
      rintro e w7 ⟨v7, rfl, hO7, hw7⟩
      have HW7 := Lib.hid (HWR.out.trans (hw7.mono HWR.out.size))
      have HMl := Lib.hid (show (mixL lf 0 LA LB).length = i by rw [← HLL.out]; exact mixL_len lf _ 0 LA LB rfl)
      have HMF := Lib.hid (mixN_filter (fun x => hasK ks (kindOf x)) lf _ 0 LA LB rfl HPA.out HPB.out)
      obtain ⟨A7, c7, rfl, p7, q7, _, r7⟩ := hO7.form
      have HO7 := Lib.hid hO7
      have hML : (mixL lf 0 LA LB).length = i := HMl.out
      rw [hML] at r7 p7 ⊢
      have HR7 := Lib.hid r7
      clear hO7 r7 hML
      go_wp2_with fail
      refine (mix_any w7 anyB A3 A4 LA.length LB.length c3 c4 LA LB Ao i co _ (HR3.out.any.below hw7) (HR4.out.any.below hw7) (HRO.out.any.below hw7) p3 p4 q3 q4 (Nat.le_trans HLI.out (by omega)) (Nat.le_trans HLJ.out (by omega)) (by omega) HSA.out HSB.out).mono ?_
      rintro e w8 ⟨v8, rfl, hO8, hw8⟩
      have HW8 := Lib.hid (HW7.out.trans (hw8.mono HW7.out.size))
      have hback : mixL (la.map fun x => hasK ks (kindOf x)) 0 LA LB = la := by
        rw [← HLA.out, ← HLB.out]
        refine mixL_back (fun x => hasK ks (kindOf x)) _ la 0 ?_
        intro k x hx
        rw [Nat.zero_add, List.getD_eq_getElem?_getD, List.getElem?_map, hx]; rfl
      rw [hback] at hO8
      obtain ⟨A8, c8, rfl, _⟩ := hO8.form
      have HO8 := Lib.hid hO8
      clear hO8 hback
      go_wp2_with fail
      refine (same_row (c := ca) HO8.out (HA.out.below HW8.out)).mono ?_
      rintro e w9 ⟨rfl, hw9⟩
      have HW9 := Lib.hid (HW8.out.trans (hw9.mono HW8.out.size))
      have h79 := hw8.trans (hw9.mono hw8.size)
      have HR79 := Lib.hid (HR7.out.any.below h79)
      have HSM := Lib.hid (show SmallS (mixL lf 0 LA LB) from mix_small lf HSA.out HSB.out)
      have HA79 := Lib.hid ((HOA.out.below hw7).below h79)
      have HB79 := Lib.hid ((HOB.out.below hw7).below h79)
      clear h79
      go_wp2_with fail
      refine (only_any w9 anyB A7 i c7 _ k m ck ks HR79.out p7 q7 (by omega) HSM.out (HK.out.below HW9.out) (by omega)).mono ?_
      rintro e w10 ⟨v10, rfl, hO10, hw10⟩
      rw [show ((mixL lf 0 LA LB).filter fun x => hasK ks (kindOf x)) = LA from HMF.out.1] at hO10
      have HW10 := Lib.hid (HW9.out.trans (hw10.mono HW9.out.size))
      obtain ⟨A10, c10, rfl, _⟩ := hO10.form
      have HO10 := Lib.hid hO10
      clear hO10
      go_wp2_with fail
      refine (same_any HO10.out (HA79.out.below hw10)).mono ?_
      rintro e w11 ⟨rfl, hw11⟩
      have HW11 := Lib.hid (HW10.out.trans (hw11.mono HW10.out.size))
      have h911 := hw10.trans (hw11.mono hw10.size)
      have HB11 := Lib.hid (HB79.out.below h911)
      have HR11 := Lib.hid (HR79.out.below h911)
      clear h911
      go_wp2_with fail
      refine (without_any w11 anyB A7 i c7 _ k m ck ks HR11.out p7 q7 (by omega) HSM.out (HK.out.below HW11.out) (by omega)).mono ?_
      rintro e w12 ⟨v12, rfl, hO12, hw12'⟩
      rw [show ((mixL lf 0 LA LB).filter fun x => !hasK ks (kindOf x)) = LB from HMF.out.2] at hO12
      have HW12 := Lib.hid (HW11.out.trans (hw12'.mono HW11.out.size))
      obtain ⟨A12, c12, rfl, _⟩ := hO12.form
      have HO12 := Lib.hid hO12
      clear hO12
      go_wp2_with fail
      refine (same_any HO12.out (HB11.out.below hw12')).mono ?_
      rintro e w13 ⟨rfl, hw13⟩
      have HW13 := Lib.hid (HW12.out.trans (hw13.mono HW12.out.size))
      go_wp2_with fail
      go_ret
      exact ⟨rfl, HW13.out⟩
end Go.Proofs.Ytaagldmgbdiomaa
