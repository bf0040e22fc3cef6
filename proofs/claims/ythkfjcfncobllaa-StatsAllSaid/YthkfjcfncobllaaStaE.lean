import Derived.Test.YthkfjcfncobllaaStaD
namespace Go.Proofs.Ythkfjcfncobllaa
open Go.RowKit FP
set_option linter.unusedVariables false
set_option linter.unusedSimpArgs false
set_option maxRecDepth 20000 in
theorem row_at {w : World} {ok : Nat → Prop} {ad : Addr} {n : Nat} {l : List Nat} {i x : Nat} (h : Rows w ok .f64 (some ad) n l) (hx : l[i]? = some x) : w.cell? (ad.add i) = some (.float .f64 x) ∧ x < B64 := by
  obtain ⟨cs, _, hat, hrd⟩ := h.2.2 ad rfl i x hx
  obtain ⟨rfl, hb⟩ := hrd
  have hc := hat 0 _ rfl
  have e : ad.add (i * Sh.size .f64 + 0) = ad.add i := by simp [Sh.size]
  rw [e] at hc
  exact ⟨hc, hb⟩
set_option maxHeartbeats 1000000 in
set_option maxRecDepth 20000 in
theorem rknown_any (w : World) (A : Option Addr) (n c : Nat) (l : List Nat) (h : Rows w anyB .f64 A n l) (hl : n ≤ 100000) :
    Calls Try.prog 33 #[.slice A n c] w fun e w' => ∃ v', e = .returned v' ∧ Own w' w.heap.size 27 .f64 v' (knownL l) ∧ Below w.heap.size w w' := by
  have hln := h.1
  go_enter Try.func33, Try.ntmps33
  go_wp2_with fail
  go_loopw [3, 8] (fun s3 s8 wr => ∃ (i : Nat) (v : Value), i ≤ n ∧ v = s3 ∧ s8 = .int .i64 i ∧ Own wr w.heap.size 27 .f64 v (knownL (l.take i)) ∧ Below w.heap.size w wr) (fun _ s8 _ => n - (intOf s8).toNat)
  case atStart => exact ⟨0, _, by omega, rfl, rfl, Own.nil _ _ _ _, Below.refl _ _⟩
  case round =>
    obtain ⟨i, v, hi, rfl, rfl, hO, hbel⟩ := hrel
    have HB := Lib.hid hbel
    have HO := Lib.hid hO
    by_cases hlt1 : i < n
    · obtain ⟨ad, x, rfl, hx⟩ := h.some_at hlt1
      obtain ⟨hc, hx64⟩ := row_at h hx
      have i0 : (0 : Int) ≤ (i : Int) := by omega
      have i1 : (i : Int) < (n : Int) := by omega
      have hcx := cell_below hbel hc
      have hself := eq_self x hx64
      cases hnx : fnan x with
      | true =>
        have hb : (FloatKind.f64.format.order x x == some .eq) = false := by rw [hself, hnx]; rfl
        have HN := Lib.hid (show knownL (l.take (i + 1)) = knownL (l.take i) by rw [take_at hx]; simp [knownL, List.filter_append, hnx])
        clear hc hx hbel hO h hself hnx
        go_wp2_with fail
        go_roundw
        case measure => simp [intOf]; omega
        case rel => exact ⟨i + 1, _, by omega, rfl, by go_num, by rw [HN.out]; exact HO.out, HB.out⟩
      | false =>
        have hb : (FloatKind.f64.format.order x x == some .eq) = true := by rw [hself, hnx]; rfl
        have HN := Lib.hid (show knownL (l.take (i + 1)) = knownL (l.take i) ++ [x] by rw [take_at hx]; simp [knownL, List.filter_append, hnx])
        have hlen : (knownL (l.take i)).length ≤ i := Nat.le_trans (List.length_filter_le _ _) (by rw [List.length_take]; omega)
        have HX := Lib.hid hx64
        clear hc hx hbel hO h hself hnx
        obtain ⟨m, hm⟩ : ∃ m, (knownL (l.take i)).length = m := ⟨_, rfl⟩
        have hm1 : (knownL (l.take (i + 1))).length = m + 1 := by rw [HN.out, List.length_append, hm]; rfl
        go_wp2_with (at_builtin; refine wp_appO (m := 1) (r := [x]) (ys := [.float .f64 x]) rfl (.tmp 15) (.tmp 17) rfl (HO.out.below (below_alloc1 wr _)) rfl (fun e => by cases e) (fun ad' e => by cases e; exact At.blk (heap_alloc_new wr _)) (RdL.single (rd_f64v HX.out)) (HB.out.alloc HB.out.size _) Try.underlying22 info_f64 rfl (by decide) rfl rfl (by rw [hm]; omega) (by rw [hm]; omega) (by have := HB.out.size; simp; omega) ?_; intro v6 w6 hO6 hb6 _ _; rw [← HN.out] at hO6; obtain ⟨A6, c6, rfl, _⟩ := Own.form hO6; rw [hm1] at hO6 ⊢; have HO6 := Lib.hid hO6; clear hO6)
        go_roundw
        case measure => simp [intOf]; omega
        case rel => exact ⟨i + 1, _, by omega, rfl, by go_num, HO6.out, hb6⟩
    · obtain rfl : i = n := by omega
      have HE := Lib.hid (show knownL (l.take i) = knownL l by rw [List.take_of_length_le (by omega)])
      go_wp2_with fail
      go_ret
      exact ⟨_, rfl, by rw [← HE.out]; exact HO.out, HB.out⟩
set_option maxHeartbeats 1000000 in
set_option maxRecDepth 20000 in
/-- Lists of numbers that are one are alike. -/
theorem samefl_any (w : World) (A B : Option Addr) (n ca cb : Nat) (l : List Nat) (ha : Rows w anyB .f64 A n l) (hb : Rows w anyB .f64 B n l) (hl : n ≤ 9223372036854775807) :
    Calls Try.prog 8 #[.slice A n ca, .slice B n cb] w fun e w' => e = .returned (.bool true) ∧ Below w.heap.size w w' := by
  have hln := ha.1
  have hnn : ((n : Int) != (n : Int)) = false := by simp
  go_enter Try.func8, Try.ntmps8
  go_wp2_with fail
  go_loopw [13] (fun s13 wr => ∃ i : Nat, i ≤ n ∧ s13 = .int .i64 i ∧ Below w.heap.size w wr) (fun s13 _ => n - (intOf s13).toNat)
  case atStart => exact ⟨0, by omega, rfl, Below.refl _ _⟩
  case round =>
    obtain ⟨i, hi, rfl, hbel⟩ := hrel
    have HB := Lib.hid hbel
    by_cases hlt1 : i < n
    · obtain ⟨ad, x, rfl, hx⟩ := ha.some_at hlt1
      obtain ⟨bd, x', rfl, _⟩ := hb.some_at hlt1
      have c1 := (row_at (ha.below hbel) hx).1
      have c2 := (row_at (hb.below hbel) hx).1
      have i0 : (0 : Int) ≤ (i : Int) := by omega
      have i1 : (i : Int) < (n : Int) := by omega
      clear hbel hx
      go_wp2_with fail
      refine region_in (by kernel_rfl) (fun w1 hw1 => ?_)
      have HB1 := Lib.hid (HB.out.trans (hw1.mono HB.out.size))
      have C1 : ∀ W, Below w1.heap.size w1 W → W.cell? (ad.add i) = some (.float .f64 x) := fun W hW => cell_below hW (cell_below hw1 c1)
      have C2 : ∀ W, Below w1.heap.size w1 W → W.cell? (bd.add i) = some (.float .f64 x) := fun W hW => cell_below hW (cell_below hw1 c2)
      first
        | (refine take_in (i := 0) (v := ?_) rfl (by kernel_rfl) (by kernel_rfl) (by kernel_rfl) (fun _ _ _ h => h) (Or.inl ⟨by rfl, ?_⟩) (Below.refl _ _) ?_; rotate_left; (focus (intro W hSw; go_simp; (try rfl); done)); (try simp only [Act.put, List.setIfInBounds_toArray, List.set_cons_zero, List.set_cons_succ]))
        | (refine take_in (i := 0) (v := undef) rfl (by kernel_rfl) (by kernel_rfl) (by kernel_rfl) (fun _ _ _ h => h) (Or.inr ⟨by rfl, rfl⟩) (Below.refl _ _) ?_; (try simp only [Act.put, List.setIfInBounds_toArray, List.set_cons_zero, List.set_cons_succ]))
        | (fail "HTAKE 0")
      first
        | (refine take_in (i := 1) (v := ?_) rfl (by kernel_rfl) (by kernel_rfl) (by kernel_rfl) (fun _ _ _ h => h) (Or.inl ⟨by rfl, ?_⟩) (Below.refl _ _) ?_; rotate_left; (focus (intro W hSw; go_simp; (try rfl); done)); (try simp only [Act.put, List.setIfInBounds_toArray, List.set_cons_zero, List.set_cons_succ]))
        | (refine take_in (i := 1) (v := undef) rfl (by kernel_rfl) (by kernel_rfl) (by kernel_rfl) (fun _ _ _ h => h) (Or.inr ⟨by rfl, rfl⟩) (Below.refl _ _) ?_; (try simp only [Act.put, List.setIfInBounds_toArray, List.set_cons_zero, List.set_cons_succ]))
        | (fail "HTAKE 1")
      first
        | (refine take_in (i := 2) (v := ?_) rfl (by kernel_rfl) (by kernel_rfl) (by kernel_rfl) (fun _ _ _ h => h) (Or.inl ⟨by rfl, ?_⟩) (Below.refl _ _) ?_; rotate_left; (focus (intro W hSw; go_simp; (try rfl); done)); (try simp only [Act.put, List.setIfInBounds_toArray, List.set_cons_zero, List.set_cons_succ]))
        | (refine take_in (i := 2) (v := undef) rfl (by kernel_rfl) (by kernel_rfl) (by kernel_rfl) (fun _ _ _ h => h) (Or.inr ⟨by rfl, rfl⟩) (Below.refl _ _) ?_; (try simp only [Act.put, List.setIfInBounds_toArray, List.set_cons_zero, List.set_cons_succ]))
        | (fail "HTAKE 2")
      first
        | (refine take_in (i := 3) (v := ?_) rfl (by kernel_rfl) (by kernel_rfl) (by kernel_rfl) (fun _ _ _ h => h) (Or.inl ⟨by rfl, ?_⟩) (Below.refl _ _) ?_; rotate_left; (focus (intro W hSw; have C1 := C1 W hSw; go_simp; (try rfl); done)); (try simp only [Act.put, List.setIfInBounds_toArray, List.set_cons_zero, List.set_cons_succ]))
        | (refine take_in (i := 3) (v := undef) rfl (by kernel_rfl) (by kernel_rfl) (by kernel_rfl) (fun _ _ _ h => h) (Or.inr ⟨by rfl, rfl⟩) (Below.refl _ _) ?_; (try simp only [Act.put, List.setIfInBounds_toArray, List.set_cons_zero, List.set_cons_succ]))
        | (fail "HTAKE 3")
      first
        | (refine take_in (i := 4) (v := ?_) rfl (by kernel_rfl) (by kernel_rfl) (by kernel_rfl) (fun _ _ _ h => h) (Or.inl ⟨by rfl, ?_⟩) (Below.refl _ _) ?_; rotate_left; (focus (intro W hSw; go_simp; (try rfl); done)); (try simp only [Act.put, List.setIfInBounds_toArray, List.set_cons_zero, List.set_cons_succ]))
        | (refine take_in (i := 4) (v := undef) rfl (by kernel_rfl) (by kernel_rfl) (by kernel_rfl) (fun _ _ _ h => h) (Or.inr ⟨by rfl, rfl⟩) (Below.refl _ _) ?_; (try simp only [Act.put, List.setIfInBounds_toArray, List.set_cons_zero, List.set_cons_succ]))
        | (fail "HTAKE 4")
      first
        | (refine take_in (i := 5) (v := ?_) rfl (by kernel_rfl) (by kernel_rfl) (by kernel_rfl) (fun _ _ _ h => h) (Or.inl ⟨by rfl, ?_⟩) (Below.refl _ _) ?_; rotate_left; (focus (intro W hSw; go_simp; (try rfl); done)); (try simp only [Act.put, List.setIfInBounds_toArray, List.set_cons_zero, List.set_cons_succ]))
        | (refine take_in (i := 5) (v := undef) rfl (by kernel_rfl) (by kernel_rfl) (by kernel_rfl) (fun _ _ _ h => h) (Or.inr ⟨by rfl, rfl⟩) (Below.refl _ _) ?_; (try simp only [Act.put, List.setIfInBounds_toArray, List.set_cons_zero, List.set_cons_succ]))
        | (fail "HTAKE 5")
      first
        | (refine take_in (i := 6) (v := ?_) rfl (by kernel_rfl) (by kernel_rfl) (by kernel_rfl) (fun _ _ _ h => h) (Or.inl ⟨by rfl, ?_⟩) (Below.refl _ _) ?_; rotate_left; (focus (intro W hSw; go_simp; (try rfl); done)); (try simp only [Act.put, List.setIfInBounds_toArray, List.set_cons_zero, List.set_cons_succ]))
        | (refine take_in (i := 6) (v := undef) rfl (by kernel_rfl) (by kernel_rfl) (by kernel_rfl) (fun _ _ _ h => h) (Or.inr ⟨by rfl, rfl⟩) (Below.refl _ _) ?_; (try simp only [Act.put, List.setIfInBounds_toArray, List.set_cons_zero, List.set_cons_succ]))
        | (fail "HTAKE 6")
      first
        | (refine take_in (i := 7) (v := ?_) rfl (by kernel_rfl) (by kernel_rfl) (by kernel_rfl) (fun _ _ _ h => h) (Or.inl ⟨by rfl, ?_⟩) (Below.refl _ _) ?_; rotate_left; (focus (intro W hSw; have C2 := C2 W hSw; go_simp; (try rfl); done)); (try simp only [Act.put, List.setIfInBounds_toArray, List.set_cons_zero, List.set_cons_succ]))
        | (refine take_in (i := 7) (v := undef) rfl (by kernel_rfl) (by kernel_rfl) (by kernel_rfl) (fun _ _ _ h => h) (Or.inr ⟨by rfl, rfl⟩) (Below.refl _ _) ?_; (try simp only [Act.put, List.setIfInBounds_toArray, List.set_cons_zero, List.set_cons_succ]))
        | (fail "HTAKE 7")
      have hbb : (rkeyF x == rkeyF x) = true := beq_self_eq_true _
      refine call_in (i := 8) rfl (by kernel_rfl) (by kernel_rfl) (fun K hK => ?_)
      go_simp
      refine (rsame_any _ _ _).mono ?_
      rintro e w' ⟨rfl, rfl⟩
      rw [hbb]
      refine hK.out _ _ (Below.refl _ _) ?_
      (try simp only [Act.put, List.setIfInBounds_toArray, List.set_cons_zero, List.set_cons_succ])
      first
        | (refine take_in (i := 9) (v := ?_) rfl (by kernel_rfl) (by kernel_rfl) (by kernel_rfl) (fun _ _ _ h => h) (Or.inl ⟨by rfl, ?_⟩) (Below.refl _ _) ?_; rotate_left; (focus (intro W hSw; go_simp; (try rfl); done)); (try simp only [Act.put, List.setIfInBounds_toArray, List.set_cons_zero, List.set_cons_succ]))
        | (refine take_in (i := 9) (v := undef) rfl (by kernel_rfl) (by kernel_rfl) (by kernel_rfl) (fun _ _ _ h => h) (Or.inr ⟨by rfl, rfl⟩) (Below.refl _ _) ?_; (try simp only [Act.put, List.setIfInBounds_toArray, List.set_cons_zero, List.set_cons_succ]))
        | (fail "HTAKE 9")
      refine wpAnyH_done (by kernel_rfl) ?_ _
      go_wp2_with fail
      go_roundw
      case measure => simp [intOf]; omega
      case rel => exact ⟨i + 1, by omega, by go_num, HB1.out⟩
    · obtain rfl : i = n := by omega
      go_wp2_with fail
      go_ret
      exact ⟨rfl, HB.out⟩
set_option maxHeartbeats 2000000 in
set_option maxRecDepth 20000 in
theorem rank_any (w : World) (v : Value) (l : List Nat) (num den : Int) (h : Rd w anyB (.sl .f64) l [v]) (hl : l.length ≤ 100000) (hn1 : -9223372036854775808 ≤ num) (hn2 : num ≤ 9223372036854775807) (hd1 : -9223372036854775808 ≤ den) (hd2 : den ≤ 9223372036854775807) :
    Calls Try.prog 14 #[v, .int .i64 num, .int .i64 den] w fun e w' => e = .returned (.tuple #[.float .f64 (rankL l num den).1, .bool (rankL l num den).2]) ∧ Below w.heap.size w w' := by
  obtain ⟨A, n, c, e0, _, _, _, h4⟩ := rd_sl.1 h
  obtain rfl : v = .slice A n c := by simpa using e0
  have hn := h4.1
  have hlt := (rows_fs h4).2
  have hkl : (knownL l).length ≤ l.length := List.length_filter_le _ _
  go_enter Try.func14, Try.ntmps14
  go_wp2_with fail
  refine (known_any w _ l h hl).mono ?_
  rintro e w1 ⟨v1, rfl, hO1, hb1⟩
  obtain ⟨A1, c1, rfl, _, _, _, hR1⟩ := Own.form hO1
  go_wp2_with fail
  refine (sort_any w1 A1 (knownL l).length c1 (knownL l) hR1.any (by omega)).mono ?_
  rintro e w2 ⟨v2, rfl, hO2, hb2⟩
  have HB := Lib.hid (hb1.trans (hb2.mono hb1.size))
  obtain ⟨k, hk⟩ : ∃ k, sortK (knownL l) = k := ⟨_, rfl⟩
  have hkn : k.length = (knownL l).length := by rw [← hk, sortK_len]
  rw [hk] at hO2
  obtain ⟨A2, c2, rfl, _, _, _, hR2⟩ := Own.form hO2
  have HR := Lib.hid hR2.any
  have HV := Lib.hid (show rankL l num den = if (k.length : Nat) = 0 ∨ den < 1 ∨ 1000 < den ∨ num < 0 ∨ den < num then (0, false) else (k.getD (((k.length : Int) - 1) * num / den).toNat 0, true) by unfold rankL; rw [hk, hkn])
  obtain ⟨q, hq⟩ : ∃ q, k.length = q := ⟨_, rfl⟩
  rw [hq] at HV HR hkn ⊢
  have HQ := Lib.hid (Nat.le_trans (Nat.le_of_eq hkn) hkl)
  clear hO1 hR1 hO2 hR2 hb1 hb2 hk h h4 hkn hq hkl hlt
  by_cases h0 : q = 0
  · subst h0
    have HE := Lib.hid (show rankL l num den = (0, false) by rw [HV.out, if_pos (.inl rfl)])
    go_wp2_with fail
    go_ret2
    exact ⟨by rw [HE.out]; rfl, HB.out⟩
  have q0 : ¬ (q : Int) = 0 := by omega
  have q0b : ((q : Int) == 0) = false := beq_false_of_ne q0
  have hq100 : q ≤ 100000 := by have := HQ.out; omega
  by_cases h1 : den < 1
  · have HE := Lib.hid (show rankL l num den = (0, false) by rw [HV.out, if_pos (.inr (.inl h1))])
    go_wp2_with fail
    go_ret2
    exact ⟨by rw [HE.out]; rfl, HB.out⟩
  by_cases h2 : 1000 < den
  · have HE := Lib.hid (show rankL l num den = (0, false) by rw [HV.out, if_pos (.inr (.inr (.inl h2)))])
    go_wp2_with fail
    go_ret2
    exact ⟨by rw [HE.out]; rfl, HB.out⟩
  by_cases h3 : num < 0
  · have HE := Lib.hid (show rankL l num den = (0, false) by rw [HV.out, if_pos (.inr (.inr (.inr (.inl h3))))])
    go_wp2_with fail
    go_ret2
    exact ⟨by rw [HE.out]; rfl, HB.out⟩
  by_cases h5 : den < num
  · have HE := Lib.hid (show rankL l num den = (0, false) by rw [HV.out, if_pos (.inr (.inr (.inr (.inr h5))))])
    go_wp2_with fail
    go_ret2
    exact ⟨by rw [HE.out]; rfl, HB.out⟩
  have HE := Lib.hid (show rankL l num den = (k.getD (((q : Int) - 1) * num / den).toNat 0, true) by rw [HV.out, if_neg (by omega)])
  obtain ⟨b, rfl⟩ : ∃ b : Nat, num = (b : Int) := ⟨num.toNat, by omega⟩
  obtain ⟨d, rfl⟩ : ∃ d : Nat, den = (d : Int) := ⟨den.toNat, by omega⟩
  obtain ⟨i, hi⟩ : ∃ i : Nat, (q - 1) * b / d = i := ⟨_, rfl⟩
  have hm : (q - 1) * b ≤ (q - 1) * d := Nat.mul_le_mul_left _ (by omega)
  have hm2 : (q - 1) * b ≤ (q - 1) * 1000 := Nat.mul_le_mul_left _ (by omega)
  have hiq : i < q := by
    have : (q - 1) * b / d ≤ q - 1 := Nat.div_le_of_le_mul (by rw [Nat.mul_comm d]; exact hm)
    omega
  have e1 : ((q : Int) - 1) = ((q - 1 : Nat) : Int) := by omega
  have e2 : ((q - 1 : Nat) : Int) * (b : Int) = (((q - 1) * b : Nat) : Int) := by push_cast; rfl
  have e3 : (((q - 1) * b : Nat) : Int) / (d : Int) = (i : Int) := by rw [← hi]; rfl
  have w1' : IntKind.i64.wrap ((q : Int) - 1) = ((q - 1 : Nat) : Int) := by rw [IntWalk.i64_in _ (by omega)]; omega
  have w2' : IntKind.i64.wrap (((q - 1 : Nat) : Int) * (b : Int)) = (((q - 1) * b : Nat) : Int) := by rw [e2, IntWalk.i64_in _ (by omega)]
  have w3' : IntKind.i64.wrap (Int.tdiv (((q - 1) * b : Nat) : Int) (d : Int)) = (i : Int) := by rw [Int.tdiv_eq_ediv_of_nonneg (by omega), e3, IntWalk.i64_in _ (by omega)]
  have b0 : ¬ (b : Int) < 0 := by omega
  have d1 : ¬ (d : Int) < 1 := by omega
  have dn : ¬ (d : Int) = 0 := by omega
  have i0 : (0 : Int) ≤ (i : Int) := by omega
  have i1 : (i : Int) < (q : Int) := by omega
  have w4' : wrap64 ((((q - 1 : Nat) : Int) * (b : Int)).tdiv (d : Int)) = (i : Int) := by rw [← IntWalk.i64_left, e2]; exact w3'
  have w5' : wrap64 (((q - 1 : Nat) : Int) * (b : Int)) = ((q - 1 : Nat) : Int) * (b : Int) := by rw [e2]; exact IntWalk.wrap64_in _ (by omega)
  have HW := Lib.hid (And.intro w1' (And.intro w4' w5'))
  clear w1' w2' w3' w4' w5'
  obtain ⟨ad, x, cs, rfl, hx, hat, hrd⟩ := HR.out.get i hiq
  obtain ⟨rfl, _⟩ := hrd
  have hcx : w2.cell? (ad.add i) = some (.float .f64 x) := by
    have e : (ad.add (i * Sh.size .f64)).add (0 + 0) = ad.add i := by simp [Sh.size, Addr.add]
    have hc := hat 0 _ rfl
    rwa [e] at hc
  have hgd : k.getD ((i : Int)).toNat 0 = x := by rw [Int.toNat_natCast, List.getD_eq_getElem?_getD, hx]; rfl
  have HF := Lib.hid (show rankL l (b : Int) (d : Int) = (x, true) by rw [HE.out, e1, e2, e3, hgd])
  clear hat hx e1 e2 e3 hm hm2 hi hn1 hn2 hd1 hd2 hgd HV HE HR hiq hn h0
  obtain ⟨u1, u4, u5⟩ := id HW.out
  clear HW
  go_wp2_with fail
  go_ret2
  exact ⟨by rw [HF.out]; rfl, HB.out⟩
set_option maxHeartbeats 2000000 in
set_option maxRecDepth 20000 in
theorem rrank_any (w : World) (v : Value) (l : List Nat) (num den : Int) (h : Rd w anyB (.sl .f64) l [v]) (hl : l.length ≤ 100000) (hn1 : -9223372036854775808 ≤ num) (hn2 : num ≤ 9223372036854775807) (hd1 : -9223372036854775808 ≤ den) (hd2 : den ≤ 9223372036854775807) :
    Calls Try.prog 15 #[v, .int .i64 num, .int .i64 den] w fun e w' => e = .returned (.tuple #[.float .f64 (rankL l num den).1, .bool (rankL l num den).2]) ∧ Below w.heap.size w w' := by
  obtain ⟨A, n, c, e0, _, _, _, h4⟩ := rd_sl.1 h
  obtain rfl : v = .slice A n c := by simpa using e0
  have hn := h4.1
  have hlt := (rows_fs h4).2
  have hkl : (knownL l).length ≤ l.length := List.length_filter_le _ _
  go_enter Try.func15, Try.ntmps15
  go_wp2_with fail
  refine (rknown_any w A n c l h4 (by omega)).mono ?_
  rintro e w1 ⟨v1, rfl, hO1, hb1⟩
  obtain ⟨A1, c1, rfl, _, _, _, hR1⟩ := Own.form hO1
  go_wp2_with fail
  refine (rsort_any w1 A1 (knownL l).length c1 (knownL l) hR1.any (by omega)).mono ?_
  rintro e w2 ⟨v2, rfl, hO2, hb2⟩
  have HB := Lib.hid (hb1.trans (hb2.mono hb1.size))
  obtain ⟨k, hk⟩ : ∃ k, sortK (knownL l) = k := ⟨_, rfl⟩
  have hkn : k.length = (knownL l).length := by rw [← hk, sortK_len]
  rw [hk] at hO2
  obtain ⟨A2, c2, rfl, _, _, _, hR2⟩ := Own.form hO2
  have HR := Lib.hid hR2.any
  have HV := Lib.hid (show rankL l num den = if (k.length : Nat) = 0 ∨ den < 1 ∨ 1000 < den ∨ num < 0 ∨ den < num then (0, false) else (k.getD (((k.length : Int) - 1) * num / den).toNat 0, true) by unfold rankL; rw [hk, hkn])
  obtain ⟨q, hq⟩ : ∃ q, k.length = q := ⟨_, rfl⟩
  rw [hq] at HV HR hkn ⊢
  have HQ := Lib.hid (Nat.le_trans (Nat.le_of_eq hkn) hkl)
  clear hO1 hR1 hO2 hR2 hb1 hb2 hk h h4 hkn hq hkl hlt
  by_cases h0 : q = 0
  · subst h0
    have HE := Lib.hid (show rankL l num den = (0, false) by rw [HV.out, if_pos (.inl rfl)])
    go_wp2_with fail
    go_ret2
    exact ⟨by rw [HE.out]; rfl, HB.out⟩
  have q0 : ¬ (q : Int) = 0 := by omega
  have q0b : ((q : Int) == 0) = false := beq_false_of_ne q0
  have hq100 : q ≤ 100000 := by have := HQ.out; omega
  by_cases h1 : den < 1
  · have HE := Lib.hid (show rankL l num den = (0, false) by rw [HV.out, if_pos (.inr (.inl h1))])
    go_wp2_with fail
    go_ret2
    exact ⟨by rw [HE.out]; rfl, HB.out⟩
  by_cases h2 : 1000 < den
  · have HE := Lib.hid (show rankL l num den = (0, false) by rw [HV.out, if_pos (.inr (.inr (.inl h2)))])
    go_wp2_with fail
    go_ret2
    exact ⟨by rw [HE.out]; rfl, HB.out⟩
  by_cases h3 : num < 0
  · have HE := Lib.hid (show rankL l num den = (0, false) by rw [HV.out, if_pos (.inr (.inr (.inr (.inl h3))))])
    go_wp2_with fail
    go_ret2
    exact ⟨by rw [HE.out]; rfl, HB.out⟩
  by_cases h5 : den < num
  · have HE := Lib.hid (show rankL l num den = (0, false) by rw [HV.out, if_pos (.inr (.inr (.inr (.inr h5))))])
    go_wp2_with fail
    go_ret2
    exact ⟨by rw [HE.out]; rfl, HB.out⟩
  have HE := Lib.hid (show rankL l num den = (k.getD (((q : Int) - 1) * num / den).toNat 0, true) by rw [HV.out, if_neg (by omega)])
  obtain ⟨b, rfl⟩ : ∃ b : Nat, num = (b : Int) := ⟨num.toNat, by omega⟩
  obtain ⟨d, rfl⟩ : ∃ d : Nat, den = (d : Int) := ⟨den.toNat, by omega⟩
  obtain ⟨i, hi⟩ : ∃ i : Nat, (q - 1) * b / d = i := ⟨_, rfl⟩
  have hm : (q - 1) * b ≤ (q - 1) * d := Nat.mul_le_mul_left _ (by omega)
  have hm2 : (q - 1) * b ≤ (q - 1) * 1000 := Nat.mul_le_mul_left _ (by omega)
  have hiq : i < q := by
    have : (q - 1) * b / d ≤ q - 1 := Nat.div_le_of_le_mul (by rw [Nat.mul_comm d]; exact hm)
    omega
  have e1 : ((q : Int) - 1) = ((q - 1 : Nat) : Int) := by omega
  have e2 : ((q - 1 : Nat) : Int) * (b : Int) = (((q - 1) * b : Nat) : Int) := by push_cast; rfl
  have e3 : (((q - 1) * b : Nat) : Int) / (d : Int) = (i : Int) := by rw [← hi]; rfl
  have w1' : IntKind.i64.wrap ((q : Int) - 1) = ((q - 1 : Nat) : Int) := by rw [IntWalk.i64_in _ (by omega)]; omega
  have w2' : IntKind.i64.wrap (((q - 1 : Nat) : Int) * (b : Int)) = (((q - 1) * b : Nat) : Int) := by rw [e2, IntWalk.i64_in _ (by omega)]
  have w3' : IntKind.i64.wrap (Int.tdiv (((q - 1) * b : Nat) : Int) (d : Int)) = (i : Int) := by rw [Int.tdiv_eq_ediv_of_nonneg (by omega), e3, IntWalk.i64_in _ (by omega)]
  have b0 : ¬ (b : Int) < 0 := by omega
  have d1 : ¬ (d : Int) < 1 := by omega
  have dn : ¬ (d : Int) = 0 := by omega
  have i0 : (0 : Int) ≤ (i : Int) := by omega
  have i1 : (i : Int) < (q : Int) := by omega
  have w4' : wrap64 ((((q - 1 : Nat) : Int) * (b : Int)).tdiv (d : Int)) = (i : Int) := by rw [← IntWalk.i64_left, e2]; exact w3'
  have w5' : wrap64 (((q - 1 : Nat) : Int) * (b : Int)) = ((q - 1 : Nat) : Int) * (b : Int) := by rw [e2]; exact IntWalk.wrap64_in _ (by omega)
  have HW := Lib.hid (And.intro w1' (And.intro w4' w5'))
  clear w1' w2' w3' w4' w5'
  obtain ⟨ad, x, cs, rfl, hx, hat, hrd⟩ := HR.out.get i hiq
  obtain ⟨rfl, _⟩ := hrd
  have hcx : w2.cell? (ad.add i) = some (.float .f64 x) := by
    have e : (ad.add (i * Sh.size .f64)).add (0 + 0) = ad.add i := by simp [Sh.size, Addr.add]
    have hc := hat 0 _ rfl
    rwa [e] at hc
  have hgd : k.getD ((i : Int)).toNat 0 = x := by rw [Int.toNat_natCast, List.getD_eq_getElem?_getD, hx]; rfl
  have HF := Lib.hid (show rankL l (b : Int) (d : Int) = (x, true) by rw [HE.out, e1, e2, e3, hgd])
  clear hat hx e1 e2 e3 hm hm2 hi hn1 hn2 hd1 hd2 hgd HV HE HR hiq hn h0
  obtain ⟨u1, u4, u5⟩ := id HW.out
  clear HW
  go_wp2_with fail
  go_ret2
  exact ⟨by rw [HF.out]; rfl, HB.out⟩
end Go.Proofs.Ythkfjcfncobllaa
