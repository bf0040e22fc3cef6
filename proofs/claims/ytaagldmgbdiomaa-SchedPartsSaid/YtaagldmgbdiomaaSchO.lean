import Derived.Test.YtaagldmgbdiomaaSchC
namespace Go.Proofs.Ytaagldmgbdiomaa
open Go.RowKit Mixed
set_option linter.unusedVariables false
set_option linter.unusedSimpArgs false
set_option maxRecDepth 20000 in
theorem step_front {w : World} {ok : Nat → Prop} {x : STEP.Ty} {cs : List Value} (h : Rd w ok STEP x cs) : cs[0]? = some (.int .i64 (kindOf x)) ∧ cs[1]? = some (.int .i64 (nodeOf x)) := by
  obtain ⟨kind, node, other, n, mk, mi, ml, mt, mf, mb, ql, qd, qt, qs, qw, qm, kv, dv, rfl, hx, hwf, h7, h8⟩ := rd_step h
  rw [hx]
  exact ⟨rfl, rfl⟩
set_option maxRecDepth 20000 in
theorem rof_kind (k : Int) : (k == 4 || k == 5 || k == 6 || k == 13 || decide (k < 1) || decide (14 < k)) = !namesK k := by
  unfold namesK
  by_cases h1 : 1 ≤ k
  · by_cases h14 : k ≤ 14
    · rw [decide_eq_true h1, decide_eq_true h14, decide_eq_false (show ¬ k < 1 by omega), decide_eq_false (show ¬ 14 < k by omega)]
      simp
    · rw [decide_eq_true h1, decide_eq_false h14, decide_eq_false (show ¬ k < 1 by omega), decide_eq_true (show 14 < k by omega)]
      simp
  · rw [decide_eq_false h1, decide_eq_true (show k < 1 by omega)]
    simp
set_option maxRecDepth 20000 in
theorem ronly_any (w : World) (ok : Nat → Prop) (A : Option Addr) (n ca : Nat) (la : List STEP.Ty) (K : Option Addr) (m ck : Nat) (ks : List Int) (is : Bool) (ha : Rows w ok STEP A n la) (hna : n ≤ ca) (hca : ca ≤ 9223372036854775807) (hn : n ≤ 1000) (hk : Rows w ok (.int .i64) K m ks) (hm : m ≤ 9223372036854775807) :
    Calls Try.prog 24 #[.slice A n ca, .slice K m ck, .bool is] w fun e w' => ∃ v, e = .returned v ∧ OwnG w' w.heap.size ok 45 STEP v (la.filter fun x => hasK ks (kindOf x) == is) ∧ Below w.heap.size w w' := by
  go_enter Try.func24, Try.ntmps24
  go_wp2_with fail
  go_loopw [7, 15] (fun s5 s10 wr => ∃ (i : Nat) (v : Value), i ≤ n ∧ s5 = v ∧ s10 = .int .i64 i ∧ OwnG wr w.heap.size ok 45 STEP v ((la.take i).filter fun x => hasK ks (kindOf x) == is) ∧ Below w.heap.size w wr) (fun _ s10 _ => n - (intOf s10).toNat)
  case atStart => exact ⟨0, _, by omega, rfl, rfl, OwnG.nil _ _ _ _ _, Below.refl _ _⟩
  case round =>
    obtain ⟨i, v, hi, rfl, rfl, hO, hbel⟩ := hrel
    have hl := ha.1
    have hO0 := hO
    obtain ⟨Ao, co, rfl, _⟩ := hO0.form
    have HO := Lib.hid hO
    clear hO hO0
    by_cases hlt : i < n
    · obtain ⟨x, hx⟩ : ∃ x, la[i]? = some x := ⟨la[i]'(by omega), List.getElem?_eq_getElem (by omega)⟩
      obtain ⟨ad, rfl⟩ : ∃ ad, A = some ad := by cases A with
        | none => exact absurd (ha.2.1 rfl) (by omega)
        | some ad => exact ⟨ad, rfl⟩
      obtain ⟨cs, _, hat, hrd⟩ := ha.2.2 ad rfl i x hx
      have i0 : (0 : Int) ≤ (i : Int) := by omega
      have i1 : (i : Int) < (n : Int) := by omega
      have HAt := Lib.hid (hat.add.below hbel)
      clear hat
      have hcl := hrd.len
      have hco := hrd.one
      have hRd := Lib.hid hrd
      have HF := Lib.hid (show (la.take (i + 1)).filter (fun x => hasK ks (kindOf x) == is) = if (hasK ks (kindOf x) == is) = true then (la.take i).filter (fun x => hasK ks (kindOf x) == is) ++ [x] else (la.take i).filter (fun x => hasK ks (kindOf x) == is) by rw [take_at hx, List.filter_append, List.filter_cons]; cases (hasK ks (kindOf x) == is) <;> simp)
      have hfr := (step_front hrd).1
      clear hrd hx
      have HK := Lib.hid (hk.below hbel)
      obtain ⟨kx, hkx⟩ : ∃ kx, kx = kindOf x := ⟨_, rfl⟩
      rw [← hkx] at hfr HF
      have HKX := Lib.hid hkx
      clear hkx
      have hfl : ((la.take i).filter fun x => hasK ks (kindOf x) == is).length ≤ n := Nat.le_trans (List.length_filter_le _ _) (by rw [List.length_take]; omega)
      go_wp2_with (first
        | (refine wpL_load rfl 45 (.tmp 17) rfl _ rfl _ _ HAt.out Try.underlying45 rfl (by rw [hcl]; rfl) ?_)
        | (refine wpL_store rfl 45 (.tmp 9) (.tmp 18) rfl wr.heap.size rfl cs.toArray _ 45 rfl (heap_alloc_new wr _) (by rw [List.size_toArray, hcl]; rfl) (by rw [List.size_toArray, hcl]; rfl) hco ?_; intro w1 hc1 hg1; have hbw1 : Below wr.heap.size wr w1 := (below_alloc1 wr _).grown hg1 (by simp) (fun k e => by cases e; exact Nat.le_refl _); have c0 := blk_at hc1 0 _ (by rw [List.getElem?_toArray]; exact hfr)))
      have HB1 := Lib.hid (hbel.trans (hbw1.mono hbel.size))
      have HC1 := Lib.hid hc1
      have HBW := Lib.hid hbw1
      clear hc1 hbw1 hg1
      go_loop [10, 21] (fun s10 s21 => ∃ j : Nat, j ≤ m ∧ s21 = .int .i64 j ∧ s10 = .bool (hasK (ks.take j) kx)) (fun _ s21 => m - (intOf s21).toNat)
      case atStart => exact ⟨0, by omega, rfl, rfl⟩
      case round =>
        obtain ⟨j, hj, rfl, rfl⟩ := hrel
        have hkl := hk.1
        by_cases hjm : j < m
        · obtain ⟨y, hy⟩ : ∃ y, ks[j]? = some y := ⟨ks[j]'(by omega), List.getElem?_eq_getElem (by omega)⟩
          obtain ⟨kd, rfl⟩ : ∃ kd, K = some kd := by cases K with
            | none => exact absurd (hk.2.1 rfl) (by omega)
            | some kd => exact ⟨kd, rfl⟩
          have ck := int_cell (HK.out.below HBW.out) hy
          have j0 : (0 : Int) ≤ (j : Int) := by omega
          have j1 : (j : Int) < (m : Int) := by omega
          have HN := Lib.hid (show hasK (ks.take (j + 1)) kx = (hasK (ks.take j) kx || y == kx) by rw [take_at hy, hasK_snoc])
          clear hy
          cases hh : hasK (ks.take j) kx with
          | true =>
            rw [hh] at HN
            go_wp2_with fail
            go_round
            case rel => exact ⟨j + 1, by omega, by go_num, by rw [HN.out]; rfl⟩
            case measure => simp [intOf]; omega
          | false =>
            rw [hh] at HN
            go_wp2_with fail
            go_round
            case rel => exact ⟨j + 1, by omega, by go_num, by rw [HN.out]; rfl⟩
            case measure => simp [intOf]; omega
        · obtain rfl : j = m := by omega
          have hall : hasK (ks.take j) kx = hasK ks kx := by rw [List.take_of_length_le (by omega)]
          rw [hall]
          clear hall
          cases hp : (hasK ks kx == is) with
          | false =>
            rw [hp] at HF
            have HO2 := Lib.hid (HO.out.below HBW.out)
            go_wp2_with fail
            go_roundw
            case measure => simp [intOf]; omega
            case rel => exact ⟨i + 1, _, by omega, rfl, by go_num, (by have h := HF.out; rw [if_neg Bool.false_ne_true] at h; rw [h]; exact HO2.out), HB1.out⟩
          | true =>
            rw [hp] at HF
            have HO2 := Lib.hid (HO.out.below HBW.out)
            go_wp2_with (first
              | (refine wpL_load rfl 45 (.tmp 9) rfl ⟨wr.heap.size, 0, none⟩ rfl cs _ (At.blk HC1.out) Try.underlying45 rfl (by rw [hcl]; rfl) ?_)
              | (refine wpL_lit1 rfl (cs := cs) (.tmp 37) rfl rfl Try.underlying33 info_step rfl (by decide) (by decide) (by rw [hcl]; rfl) ?_)
              | (at_builtin; refine wp_appO (m := 1) (r := [x]) (ys := cs) rfl (.tmp 36) (.tmp 38) rfl (HO2.out.below (below_alloc1 w1 _)) rfl (fun e => by cases e) (fun ad' e => by cases e; exact At.blk (heap_alloc_new w1 _)) (RdL.single (HO2.out.old hRd.out (Nat.le_refl _) (HB1.out.alloc HB1.out.size _))) (HB1.out.alloc HB1.out.size _) Try.underlying33 info_step rfl (by decide) rfl rfl (by rw [bytes_step]; omega) (by omega) (by have := HB1.out.size; simp; omega) ?_; intro v4 w4 hO4 hb4 _ _; have HO4 := Lib.hid hO4; obtain ⟨A4, c4, rfl, _⟩ := hO4.form; clear hO4))
            go_roundw
            case measure => simp [intOf]; omega
            case rel => exact ⟨i + 1, _, by omega, rfl, by go_num, (by have h := HF.out; simp only [if_true] at h; rw [h]; have h5 := HO4.out; rw [show ((la.take i).filter (fun x => hasK ks (kindOf x) == is) ++ [x]).length = ((la.take i).filter (fun x => hasK ks (kindOf x) == is)).length + 1 by simp] at h5; exact h5), hb4⟩
    · obtain rfl : i = n := by omega
      have HF := Lib.hid (show (la.take i).filter (fun x => hasK ks (kindOf x) == is) = la.filter (fun x => hasK ks (kindOf x) == is) by rw [List.take_of_length_le (by omega)])
      go_wp2_with fail
      go_ret
      exact ⟨_, rfl, HF.out ▸ HO.out, hbel⟩
set_option maxHeartbeats 4000000 in
set_option maxRecDepth 20000 in
theorem rof_any (w : World) (ok : Nat → Prop) (A : Option Addr) (n ca : Nat) (la : List STEP.Ty) (m : Int) (ha : Rows w ok STEP A n la) (hna : n ≤ ca) (hca : ca ≤ 9223372036854775807) (hn : n ≤ 1000) :
    Calls Try.prog 26 #[.slice A n ca, .int .i64 m] w fun e w' => ∃ v, e = .returned v ∧ OwnG w' w.heap.size ok 45 STEP v (la.filter fun x => namesK (kindOf x) && nodeOf x == m) ∧ Below w.heap.size w w' := by
  go_enter Try.func26, Try.ntmps26
  go_wp2_with fail
  go_loopw [5, 11] (fun s5 s10 wr => ∃ (i : Nat) (v : Value), i ≤ n ∧ s5 = v ∧ s10 = .int .i64 i ∧ OwnG wr w.heap.size ok 45 STEP v ((la.take i).filter fun x => namesK (kindOf x) && nodeOf x == m) ∧ Below w.heap.size w wr) (fun _ s10 _ => n - (intOf s10).toNat)
  case atStart => exact ⟨0, _, by omega, rfl, rfl, OwnG.nil _ _ _ _ _, Below.refl _ _⟩
  case round =>
    obtain ⟨i, v, hi, rfl, rfl, hO, hbel⟩ := hrel
    have hl := ha.1
    have hO0 := hO
    obtain ⟨Ao, co, rfl, _⟩ := hO0.form
    have HO := Lib.hid hO
    clear hO hO0
    by_cases hlt : i < n
    · obtain ⟨x, hx⟩ : ∃ x, la[i]? = some x := ⟨la[i]'(by omega), List.getElem?_eq_getElem (by omega)⟩
      obtain ⟨ad, rfl⟩ : ∃ ad, A = some ad := by cases A with
        | none => exact absurd (ha.2.1 rfl) (by omega)
        | some ad => exact ⟨ad, rfl⟩
      obtain ⟨cs, _, hat, hrd⟩ := ha.2.2 ad rfl i x hx
      have i0 : (0 : Int) ≤ (i : Int) := by omega
      have i1 : (i : Int) < (n : Int) := by omega
      have HAt := Lib.hid (hat.add.below hbel)
      clear hat
      have hcl := hrd.len
      have hco := hrd.one
      have hRd := Lib.hid hrd
      have HF := Lib.hid (show (la.take (i + 1)).filter (fun x => namesK (kindOf x) && nodeOf x == m) = if (namesK (kindOf x) && nodeOf x == m) = true then (la.take i).filter (fun x => namesK (kindOf x) && nodeOf x == m) ++ [x] else (la.take i).filter (fun x => namesK (kindOf x) && nodeOf x == m) by rw [take_at hx, List.filter_append, List.filter_cons]; cases (namesK (kindOf x) && nodeOf x == m) <;> simp)
      obtain ⟨hfr0, hfr1⟩ := step_front hrd
      clear hrd hx
      obtain ⟨kx, hkx⟩ : ∃ kx, kx = kindOf x := ⟨_, rfl⟩
      obtain ⟨nx, hnx⟩ : ∃ nx, nx = nodeOf x := ⟨_, rfl⟩
      rw [← hkx] at hfr0 HF
      rw [← hnx] at hfr1 HF
      clear hkx hnx
      have hfl : ((la.take i).filter fun x => namesK (kindOf x) && nodeOf x == m).length ≤ n := Nat.le_trans (List.length_filter_le _ _) (by rw [List.length_take]; omega)
      by_cases h4 : kx = 4
      · subst h4
        have HF2 := Lib.hid (show (la.take (i + 1)).filter (fun x => namesK (kindOf x) && nodeOf x == m) = (la.take i).filter (fun x => namesK (kindOf x) && nodeOf x == m) by rw [HF.out, show namesK 4 = false from rfl]; rfl)
        clear HF
        go_wp2_with (first
          | (refine wpL_load rfl 45 (.tmp 13) rfl _ rfl _ _ HAt.out Try.underlying45 rfl (by rw [hcl]; rfl) ?_)
          | (refine wpL_store rfl 45 (.tmp 7) (.tmp 14) rfl wr.heap.size rfl cs.toArray _ 45 rfl (heap_alloc_new wr _) (by rw [List.size_toArray, hcl]; rfl) (by rw [List.size_toArray, hcl]; rfl) hco ?_; intro w1 hc1 hg1; have hbw1 : Below wr.heap.size wr w1 := (below_alloc1 wr _).grown hg1 (by simp) (fun k e => by cases e; exact Nat.le_refl _); have c0 := blk_at hc1 0 _ (by rw [List.getElem?_toArray]; exact hfr0); have c1 := blk_at hc1 1 _ (by rw [List.getElem?_toArray]; exact hfr1); have HO2 := Lib.hid (HO.out.below hbw1); have HB1 := Lib.hid (hbel.trans (hbw1.mono hbel.size)); have HC1 := Lib.hid hc1; clear hc1 hg1 hbw1))
        go_roundw
        case measure => simp [intOf]; omega
        case rel => exact ⟨i + 1, _, by omega, rfl, by go_num, (by rw [HF2.out]; exact HO2.out), HB1.out⟩
      by_cases h5 : kx = 5
      · subst h5
        have HF2 := Lib.hid (show (la.take (i + 1)).filter (fun x => namesK (kindOf x) && nodeOf x == m) = (la.take i).filter (fun x => namesK (kindOf x) && nodeOf x == m) by rw [HF.out, show namesK 5 = false from rfl]; rfl)
        clear HF
        go_wp2_with (first
          | (refine wpL_load rfl 45 (.tmp 13) rfl _ rfl _ _ HAt.out Try.underlying45 rfl (by rw [hcl]; rfl) ?_)
          | (refine wpL_store rfl 45 (.tmp 7) (.tmp 14) rfl wr.heap.size rfl cs.toArray _ 45 rfl (heap_alloc_new wr _) (by rw [List.size_toArray, hcl]; rfl) (by rw [List.size_toArray, hcl]; rfl) hco ?_; intro w1 hc1 hg1; have hbw1 : Below wr.heap.size wr w1 := (below_alloc1 wr _).grown hg1 (by simp) (fun k e => by cases e; exact Nat.le_refl _); have c0 := blk_at hc1 0 _ (by rw [List.getElem?_toArray]; exact hfr0); have c1 := blk_at hc1 1 _ (by rw [List.getElem?_toArray]; exact hfr1); have HO2 := Lib.hid (HO.out.below hbw1); have HB1 := Lib.hid (hbel.trans (hbw1.mono hbel.size)); have HC1 := Lib.hid hc1; clear hc1 hg1 hbw1))
        go_roundw
        case measure => simp [intOf]; omega
        case rel => exact ⟨i + 1, _, by omega, rfl, by go_num, (by rw [HF2.out]; exact HO2.out), HB1.out⟩
      by_cases h6 : kx = 6
      · subst h6
        have HF2 := Lib.hid (show (la.take (i + 1)).filter (fun x => namesK (kindOf x) && nodeOf x == m) = (la.take i).filter (fun x => namesK (kindOf x) && nodeOf x == m) by rw [HF.out, show namesK 6 = false from rfl]; rfl)
        clear HF
        go_wp2_with (first
          | (refine wpL_load rfl 45 (.tmp 13) rfl _ rfl _ _ HAt.out Try.underlying45 rfl (by rw [hcl]; rfl) ?_)
          | (refine wpL_store rfl 45 (.tmp 7) (.tmp 14) rfl wr.heap.size rfl cs.toArray _ 45 rfl (heap_alloc_new wr _) (by rw [List.size_toArray, hcl]; rfl) (by rw [List.size_toArray, hcl]; rfl) hco ?_; intro w1 hc1 hg1; have hbw1 : Below wr.heap.size wr w1 := (below_alloc1 wr _).grown hg1 (by simp) (fun k e => by cases e; exact Nat.le_refl _); have c0 := blk_at hc1 0 _ (by rw [List.getElem?_toArray]; exact hfr0); have c1 := blk_at hc1 1 _ (by rw [List.getElem?_toArray]; exact hfr1); have HO2 := Lib.hid (HO.out.below hbw1); have HB1 := Lib.hid (hbel.trans (hbw1.mono hbel.size)); have HC1 := Lib.hid hc1; clear hc1 hg1 hbw1))
        go_roundw
        case measure => simp [intOf]; omega
        case rel => exact ⟨i + 1, _, by omega, rfl, by go_num, (by rw [HF2.out]; exact HO2.out), HB1.out⟩
      by_cases h13 : kx = 13
      · subst h13
        have HF2 := Lib.hid (show (la.take (i + 1)).filter (fun x => namesK (kindOf x) && nodeOf x == m) = (la.take i).filter (fun x => namesK (kindOf x) && nodeOf x == m) by rw [HF.out, show namesK 13 = false from rfl]; rfl)
        clear HF
        go_wp2_with (first
          | (refine wpL_load rfl 45 (.tmp 13) rfl _ rfl _ _ HAt.out Try.underlying45 rfl (by rw [hcl]; rfl) ?_)
          | (refine wpL_store rfl 45 (.tmp 7) (.tmp 14) rfl wr.heap.size rfl cs.toArray _ 45 rfl (heap_alloc_new wr _) (by rw [List.size_toArray, hcl]; rfl) (by rw [List.size_toArray, hcl]; rfl) hco ?_; intro w1 hc1 hg1; have hbw1 : Below wr.heap.size wr w1 := (below_alloc1 wr _).grown hg1 (by simp) (fun k e => by cases e; exact Nat.le_refl _); have c0 := blk_at hc1 0 _ (by rw [List.getElem?_toArray]; exact hfr0); have c1 := blk_at hc1 1 _ (by rw [List.getElem?_toArray]; exact hfr1); have HO2 := Lib.hid (HO.out.below hbw1); have HB1 := Lib.hid (hbel.trans (hbw1.mono hbel.size)); have HC1 := Lib.hid hc1; clear hc1 hg1 hbw1))
        go_roundw
        case measure => simp [intOf]; omega
        case rel => exact ⟨i + 1, _, by omega, rfl, by go_num, (by rw [HF2.out]; exact HO2.out), HB1.out⟩
      have b4 : (kx == 4) = false := beq_eq_false_iff_ne.2 h4
      have b5 : (kx == 5) = false := beq_eq_false_iff_ne.2 h5
      have b6 : (kx == 6) = false := beq_eq_false_iff_ne.2 h6
      have b13 : (kx == 13) = false := beq_eq_false_iff_ne.2 h13
      by_cases hl1 : kx < 1
      · have hnk : namesK kx = false := by unfold namesK; rw [decide_eq_false (show ¬ 1 ≤ kx by omega)]; simp
        have HF2 := Lib.hid (show (la.take (i + 1)).filter (fun x => namesK (kindOf x) && nodeOf x == m) = (la.take i).filter (fun x => namesK (kindOf x) && nodeOf x == m) by rw [HF.out, hnk]; rfl)
        clear HF
        clear hnk
        go_wp2_with (first
          | (refine wpL_load rfl 45 (.tmp 13) rfl _ rfl _ _ HAt.out Try.underlying45 rfl (by rw [hcl]; rfl) ?_)
          | (refine wpL_store rfl 45 (.tmp 7) (.tmp 14) rfl wr.heap.size rfl cs.toArray _ 45 rfl (heap_alloc_new wr _) (by rw [List.size_toArray, hcl]; rfl) (by rw [List.size_toArray, hcl]; rfl) hco ?_; intro w1 hc1 hg1; have hbw1 : Below wr.heap.size wr w1 := (below_alloc1 wr _).grown hg1 (by simp) (fun k e => by cases e; exact Nat.le_refl _); have c0 := blk_at hc1 0 _ (by rw [List.getElem?_toArray]; exact hfr0); have c1 := blk_at hc1 1 _ (by rw [List.getElem?_toArray]; exact hfr1); have HO2 := Lib.hid (HO.out.below hbw1); have HB1 := Lib.hid (hbel.trans (hbw1.mono hbel.size)); have HC1 := Lib.hid hc1; clear hc1 hg1 hbw1))
        go_roundw
        case measure => simp [intOf]; omega
        case rel => exact ⟨i + 1, _, by omega, rfl, by go_num, (by rw [HF2.out]; exact HO2.out), HB1.out⟩
      by_cases hl14 : 14 < kx
      · have hnk : namesK kx = false := by unfold namesK; rw [decide_eq_false (show ¬ kx ≤ 14 by omega)]; simp
        have HF2 := Lib.hid (show (la.take (i + 1)).filter (fun x => namesK (kindOf x) && nodeOf x == m) = (la.take i).filter (fun x => namesK (kindOf x) && nodeOf x == m) by rw [HF.out, hnk]; rfl)
        clear HF
        clear hnk
        go_wp2_with (first
          | (refine wpL_load rfl 45 (.tmp 13) rfl _ rfl _ _ HAt.out Try.underlying45 rfl (by rw [hcl]; rfl) ?_)
          | (refine wpL_store rfl 45 (.tmp 7) (.tmp 14) rfl wr.heap.size rfl cs.toArray _ 45 rfl (heap_alloc_new wr _) (by rw [List.size_toArray, hcl]; rfl) (by rw [List.size_toArray, hcl]; rfl) hco ?_; intro w1 hc1 hg1; have hbw1 : Below wr.heap.size wr w1 := (below_alloc1 wr _).grown hg1 (by simp) (fun k e => by cases e; exact Nat.le_refl _); have c0 := blk_at hc1 0 _ (by rw [List.getElem?_toArray]; exact hfr0); have c1 := blk_at hc1 1 _ (by rw [List.getElem?_toArray]; exact hfr1); have HO2 := Lib.hid (HO.out.below hbw1); have HB1 := Lib.hid (hbel.trans (hbw1.mono hbel.size)); have HC1 := Lib.hid hc1; clear hc1 hg1 hbw1))
        go_roundw
        case measure => simp [intOf]; omega
        case rel => exact ⟨i + 1, _, by omega, rfl, by go_num, (by rw [HF2.out]; exact HO2.out), HB1.out⟩
      have hnk : namesK kx = true := by unfold namesK; rw [b4, b5, b6, b13, decide_eq_true (show 1 ≤ kx by omega), decide_eq_true (show kx ≤ 14 by omega)]; rfl
      cases hnm : (nx == m) with
      | false =>
        have HF2 := Lib.hid (show (la.take (i + 1)).filter (fun x => namesK (kindOf x) && nodeOf x == m) = (la.take i).filter (fun x => namesK (kindOf x) && nodeOf x == m) by rw [HF.out, hnk, hnm]; rfl)
        clear HF
        clear hnk
        go_wp2_with (first
          | (refine wpL_load rfl 45 (.tmp 13) rfl _ rfl _ _ HAt.out Try.underlying45 rfl (by rw [hcl]; rfl) ?_)
          | (refine wpL_store rfl 45 (.tmp 7) (.tmp 14) rfl wr.heap.size rfl cs.toArray _ 45 rfl (heap_alloc_new wr _) (by rw [List.size_toArray, hcl]; rfl) (by rw [List.size_toArray, hcl]; rfl) hco ?_; intro w1 hc1 hg1; have hbw1 : Below wr.heap.size wr w1 := (below_alloc1 wr _).grown hg1 (by simp) (fun k e => by cases e; exact Nat.le_refl _); have c0 := blk_at hc1 0 _ (by rw [List.getElem?_toArray]; exact hfr0); have c1 := blk_at hc1 1 _ (by rw [List.getElem?_toArray]; exact hfr1); have HO2 := Lib.hid (HO.out.below hbw1); have HB1 := Lib.hid (hbel.trans (hbw1.mono hbel.size)); have HC1 := Lib.hid hc1; clear hc1 hg1 hbw1))
        go_roundw
        case measure => simp [intOf]; omega
        case rel => exact ⟨i + 1, _, by omega, rfl, by go_num, (by rw [HF2.out]; exact HO2.out), HB1.out⟩
      | true =>
        have HF2 := Lib.hid (show (la.take (i + 1)).filter (fun x => namesK (kindOf x) && nodeOf x == m) = (la.take i).filter (fun x => namesK (kindOf x) && nodeOf x == m) ++ [x] by rw [HF.out, hnk, hnm]; rfl)
        clear HF hnk
        go_wp2_with (first
          | (refine wpL_load rfl 45 (.tmp 13) rfl _ rfl _ _ HAt.out Try.underlying45 rfl (by rw [hcl]; rfl) ?_)
          | (refine wpL_store rfl 45 (.tmp 7) (.tmp 14) rfl wr.heap.size rfl cs.toArray _ 45 rfl (heap_alloc_new wr _) (by rw [List.size_toArray, hcl]; rfl) (by rw [List.size_toArray, hcl]; rfl) hco ?_; intro w1 hc1 hg1; have hbw1 : Below wr.heap.size wr w1 := (below_alloc1 wr _).grown hg1 (by simp) (fun k e => by cases e; exact Nat.le_refl _); have c0 := blk_at hc1 0 _ (by rw [List.getElem?_toArray]; exact hfr0); have c1 := blk_at hc1 1 _ (by rw [List.getElem?_toArray]; exact hfr1); have HO2 := Lib.hid (HO.out.below hbw1); have HB1 := Lib.hid (hbel.trans (hbw1.mono hbel.size)); have HC1 := Lib.hid hc1; clear hc1 hg1 hbw1)
          | (refine wpL_load rfl 45 (.tmp 7) rfl ⟨wr.heap.size, 0, none⟩ rfl cs _ (At.blk HC1.out) Try.underlying45 rfl (by rw [hcl]; rfl) ?_)
          | (refine wpL_lit1 rfl (cs := cs) (.tmp 52) rfl rfl Try.underlying33 info_step rfl (by decide) (by decide) (by rw [hcl]; rfl) ?_)
          | (at_builtin; refine wp_appO (m := 1) (r := [x]) (ys := cs) rfl (.tmp 51) (.tmp 53) rfl (HO2.out.below (below_alloc1 w1 _)) rfl (fun e => by cases e) (fun ad' e => by cases e; exact At.blk (heap_alloc_new w1 _)) (RdL.single (HO2.out.old hRd.out (Nat.le_refl _) (HB1.out.alloc HB1.out.size _))) (HB1.out.alloc HB1.out.size _) Try.underlying33 info_step rfl (by decide) rfl rfl (by rw [bytes_step]; omega) (by omega) (by have := HB1.out.size; simp; omega) ?_; intro v4 w4 hO4 hb4 _ _; have HO4 := Lib.hid hO4; obtain ⟨A4, c4, rfl, _⟩ := hO4.form; clear hO4))
        go_roundw
        case measure => simp [intOf]; omega
        case rel => exact ⟨i + 1, _, by omega, rfl, by go_num, (by rw [HF2.out]; have h5 := HO4.out; rw [show ((la.take i).filter (fun x => namesK (kindOf x) && nodeOf x == m) ++ [x]).length = ((la.take i).filter (fun x => namesK (kindOf x) && nodeOf x == m)).length + 1 by simp] at h5; exact h5), hb4⟩
    · obtain rfl : i = n := by omega
      have HF := Lib.hid (show (la.take i).filter (fun x => namesK (kindOf x) && nodeOf x == m) = la.filter (fun x => namesK (kindOf x) && nodeOf x == m) by rw [List.take_of_length_le (by omega)])
      go_wp2_with fail
      go_ret
      exact ⟨_, rfl, HF.out ▸ HO.out, hbel⟩
end Go.Proofs.Ytaagldmgbdiomaa
