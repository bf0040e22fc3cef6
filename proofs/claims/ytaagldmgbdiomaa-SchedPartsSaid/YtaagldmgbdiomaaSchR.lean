import Derived.Test.YtaagldmgbdiomaaSchC
namespace Go.Proofs.Ytaagldmgbdiomaa
open Go.RowKit Mixed
set_option linter.unusedVariables false
set_option linter.unusedSimpArgs false
set_option maxHeartbeats 4000000 in
set_option maxRecDepth 20000 in
theorem rmix_any (w : World) (ok : Nat → Prop) (A B : Option Addr) (n m ca cb : Nat) (la lb : List STEP.Ty) (F : Option Addr) (k cf : Nat) (f : List Bool) (ha : Rows w ok STEP A n la) (hb : Rows w ok STEP B m lb) (hf : Rows w ok .bool F k f)
    (hna : n ≤ ca) (hnb : m ≤ cb) (hca : ca ≤ 9223372036854775807) (hcb : cb ≤ 9223372036854775807) (hn : n ≤ 1000) (hm : m ≤ 1000) (hk : k ≤ 1000) :
    Calls Try.prog 23 #[.slice A n ca, .slice B m cb, .slice F k cf] w fun e w' => ∃ v, e = .returned v ∧ OwnG w' w.heap.size ok 45 STEP v (mixL f 0 la lb) ∧ Below w.heap.size w w' := by
  go_enter Try.func23, Try.ntmps23
  go_wp2_with fail
  go_loopw [0, 1, 7, 8] (fun s0 s1 s7 s8 wr => ∃ (i : Nat) (A' B' : Option Addr) (ca' cb' : Nat) (la' lb' : List STEP.Ty) (v : Value) (out : List STEP.Ty), s0 = .slice A' la'.length ca' ∧ s1 = .slice B' lb'.length cb' ∧ s7 = v ∧ s8 = .int .i64 i ∧
      Rows w ok STEP A' la'.length la' ∧ Rows w ok STEP B' lb'.length lb' ∧ la'.length ≤ ca' ∧ lb'.length ≤ cb' ∧ ca' ≤ 9223372036854775807 ∧ cb' ≤ 9223372036854775807 ∧ OwnG wr w.heap.size ok 45 STEP v out ∧ Below w.heap.size w wr ∧
      Hid (out ++ mixL f i la' lb' = mixL f 0 la lb) ∧ out.length = i ∧ i + la'.length + lb'.length = n + m) (fun _ _ _ s8 _ => n + m - (intOf s8).toNat)
  case atStart => exact ⟨0, A, B, ca, cb, la, lb, _, [], by rw [ha.1], by rw [hb.1], rfl, rfl, by rw [ha.1]; exact ha, by rw [hb.1]; exact hb, by rw [ha.1]; exact hna, by rw [hb.1]; exact hnb, hca, hcb, OwnG.nil _ _ _ _ _, Below.refl _ _, Lib.hid rfl, rfl, by rw [ha.1, hb.1]; omega⟩
  case round =>
    obtain ⟨i, A', B', ca', cb', la', lb', v, out, rfl, rfl, rfl, rfl, hA, hB, hAc, hBc, hca', hcb', hO, hbel, HM, ho, hlen⟩ := hrel
    subst ho
    have i0 : (0 : Int) ≤ (out.length : Int) := by omega
    by_cases hik : out.length < k
    · have ik0 : (out.length : Int) < (k : Int) := by omega
      rcases la' with _ | ⟨x, a⟩
      · have HE := Lib.hid (show (out ++ []) ++ lb' = mixL f 0 la lb by have h := HM.out; rw [mixL_all_right] at h; rw [List.append_nil]; exact h)
        obtain ⟨L, hL⟩ : ∃ L, out ++ [] = L := ⟨_, rfl⟩
        obtain ⟨M, hM⟩ : ∃ M, mixL f 0 la lb = M := ⟨_, rfl⟩
        have HLM := Lib.hid (show L ++ lb' = M by rw [← hL, ← hM]; exact HE.out)
        have HLl := Lib.hid (show L.length = out.length + ([] : List STEP.Ty).length by rw [← hL, List.length_append])
        have HL := Lib.hid hL
        have HMM := Lib.hid hM
        clear hL hM
        obtain ⟨ys, hys, hya⟩ := (hA.below hbel).cells
        obtain ⟨zs, hzs, hza⟩ := (hB.below hbel).cells
        obtain ⟨ys0, hys0, hya0⟩ := hA.cells
        obtain ⟨zs0, hzs0, hza0⟩ := hB.cells
        have HA := Lib.hid hA
        have HB := Lib.hid hB
        have hO0 := hO
        obtain ⟨Ao, co, rfl, _⟩ := hO.form
        have HO := Lib.hid hO0
        clear hO hO0
        have HY := Lib.hid hys0
        have HZ := Lib.hid hzs0
        have HYA := Lib.hid hya0
        have HZA := Lib.hid hza0
        (try simp only [List.length_cons, List.length_nil] at hAc hBc hlen ⊢)
        clear hA hB ha hb hf hys hya hzs hza hys0 hya0 hzs0 hza0
        go_wp2_with (first
          | (at_builtin; refine wp_appO (r := []) (ys := ys0) rfl (.tmp 45) (.tmp 46) rfl HO.out rfl (fun e => HA.out.2.1 e) (fun ad' e => (HYA.out ad' e).2.below hbel) (HO.out.oldL HY.out (Nat.le_refl _) hbel) hbel Try.underlying33 info_step rfl (by decide) rfl rfl (by rw [bytes_step]; (try simp); omega) (by (try simp); omega) hbel.size ?_; intro v2 w2 hO2 hb2 _ _; rw [HL.out] at hO2; have HO2 := Lib.hid hO2; obtain ⟨A2, c2, rfl, _⟩ := hO2.form; clear hO2)
          | (at_builtin; refine wp_appO (r := lb') (ys := zs0) rfl (.tmp 47) (.tmp 48) rfl HO2.out rfl (fun e => HB.out.2.1 e) (fun ad' e => (HZA.out ad' e).2.below hb2) (HO2.out.oldL HZ.out (Nat.le_refl _) hb2) hb2 Try.underlying33 info_step rfl (by decide) rfl rfl (by have := HLl.out; rw [bytes_step]; (try simp at *); omega) (by have := HLl.out; (try simp at *); omega) hb2.size ?_; intro v3 w3 hO3 hb3 _ _; rw [HLM.out] at hO3; have HO3 := Lib.hid hO3; obtain ⟨A3, c3, rfl, _⟩ := hO3.form; clear hO3))
        go_ret
        exact ⟨_, rfl, (by rw [HMM.out]; exact HO3.out), hb3⟩
      · rcases lb' with _ | ⟨y, b⟩
        · have HE := Lib.hid (show (out ++ (x :: a)) ++ [] = mixL f 0 la lb by have h := HM.out; rw [mixL_all_left] at h; rw [List.append_nil]; exact h)
          obtain ⟨L, hL⟩ : ∃ L, out ++ (x :: a) = L := ⟨_, rfl⟩
          obtain ⟨M, hM⟩ : ∃ M, mixL f 0 la lb = M := ⟨_, rfl⟩
          have HLM := Lib.hid (show L ++ [] = M by rw [← hL, ← hM]; exact HE.out)
          have HLl := Lib.hid (show L.length = out.length + ((x :: a) : List STEP.Ty).length by rw [← hL, List.length_append])
          have HL := Lib.hid hL
          have HMM := Lib.hid hM
          clear hL hM
          obtain ⟨ys, hys, hya⟩ := (hA.below hbel).cells
          obtain ⟨zs, hzs, hza⟩ := (hB.below hbel).cells
          obtain ⟨ys0, hys0, hya0⟩ := hA.cells
          obtain ⟨zs0, hzs0, hza0⟩ := hB.cells
          have HA := Lib.hid hA
          have HB := Lib.hid hB
          have hO0 := hO
          obtain ⟨Ao, co, rfl, _⟩ := hO.form
          have HO := Lib.hid hO0
          clear hO hO0
          have HY := Lib.hid hys0
          have HZ := Lib.hid hzs0
          have HYA := Lib.hid hya0
          have HZA := Lib.hid hza0
          (try simp only [List.length_cons, List.length_nil] at hAc hBc hlen ⊢)
          clear hA hB ha hb hf hys hya hzs hza hys0 hya0 hzs0 hza0
          go_wp2_with (first
            | (at_builtin; refine wp_appO (r := (x :: a)) (ys := ys0) rfl (.tmp 45) (.tmp 46) rfl HO.out rfl (fun e => HA.out.2.1 e) (fun ad' e => (HYA.out ad' e).2.below hbel) (HO.out.oldL HY.out (Nat.le_refl _) hbel) hbel Try.underlying33 info_step rfl (by decide) rfl rfl (by rw [bytes_step]; (try simp); omega) (by (try simp); omega) hbel.size ?_; intro v2 w2 hO2 hb2 _ _; rw [HL.out] at hO2; have HO2 := Lib.hid hO2; obtain ⟨A2, c2, rfl, _⟩ := hO2.form; clear hO2)
            | (at_builtin; refine wp_appO (r := []) (ys := zs0) rfl (.tmp 47) (.tmp 48) rfl HO2.out rfl (fun e => HB.out.2.1 e) (fun ad' e => (HZA.out ad' e).2.below hb2) (HO2.out.oldL HZ.out (Nat.le_refl _) hb2) hb2 Try.underlying33 info_step rfl (by decide) rfl rfl (by have := HLl.out; rw [bytes_step]; (try simp at *); omega) (by have := HLl.out; (try simp at *); omega) hb2.size ?_; intro v3 w3 hO3 hb3 _ _; rw [HLM.out] at hO3; have HO3 := Lib.hid hO3; obtain ⟨A3, c3, rfl, _⟩ := hO3.form; clear hO3))
          go_ret
          exact ⟨_, rfl, (by rw [HMM.out]; exact HO3.out), hb3⟩
        ·
          obtain ⟨fd, rfl⟩ : ∃ fd, F = some fd := by cases F with
            | none => exact absurd (hf.2.1 rfl) (by omega)
            | some fd => exact ⟨fd, rfl⟩
          obtain ⟨q, hq⟩ : ∃ q, f[out.length]? = some q := ⟨f[out.length]'(by have := hf.1; omega), List.getElem?_eq_getElem (by have := hf.1; omega)⟩
          obtain ⟨qc, _, hqa, hqr⟩ := hf.2.2 fd rfl out.length q hq
          obtain rfl : qc = [.bool q] := hqr
          have fc := cell_below hbel (hqa 0 _ rfl)
          simp only [Sh.size, Nat.mul_one, Nat.add_zero] at fc
          have hfq : f.getD out.length true = q := by rw [List.getD_eq_getElem?_getD, hq]; rfl
          have ik : (out.length : Int) < (k : Int) := by omega
          clear hqa hq
          cases q with
          | true =>
            have HQ := Lib.hid hfq
            clear hfq
            obtain ⟨ad, rfl⟩ : ∃ ad, A' = some ad := by cases A' with
              | none => exact absurd (hA.2.1 rfl) (by simp)
              | some ad => exact ⟨ad, rfl⟩
            obtain ⟨cs, _, hat, hrd⟩ := hA.2.2 ad rfl 0 x rfl
            have HRd := Lib.hid hrd
            have HAt := Lib.hid (show At w ad 0 cs by rw [Nat.zero_mul] at hat; exact hat)
            have HA' := Lib.hid (hA.from_ hAc 1 (by simp))
            have HB := Lib.hid hB
            have HN := Lib.hid (show (out ++ [x]) ++ mixL f (out.length + 1) a (y :: b) = mixL f 0 la lb by rw [List.append_assoc]; have h := HM.out; rw [mixL_first _ _ _ _ HQ.out] at h; exact h)
            have hO0 := hO
            obtain ⟨Ao, co, rfl, _⟩ := hO.form
            have HO := Lib.hid hO0
            clear hO hO0
            (try simp only [List.length_cons, List.length_nil] at hAc hBc hlen ⊢)
            clear hA hB ha hb hf hrd hat
            go_wp2_with fail
            refine wp_region_held_drew (S := fun W => Below w.heap.size w W) (by kernel_rfl) hbel.drew (fun hHeld => ?_)
            first
              | (refine take_in (i := 0) (v := ?_) rfl (by kernel_rfl) (by kernel_rfl) (by kernel_rfl) (fun _ _ _ h => h) (Or.inl ⟨by rfl, ?_⟩) hHeld ?_; rotate_left; (focus (intro w hSw; (try dsimp only at hSw); obtain hSw := hSw; go_simp; (try rfl); done)); (try simp only [Act.put, List.setIfInBounds_toArray, List.set_cons_zero, List.set_cons_succ]))
              | (refine take_in (i := 0) (v := undef) rfl (by kernel_rfl) (by kernel_rfl) (by kernel_rfl) (fun _ _ _ h => h) (Or.inr ⟨by rfl, rfl⟩) hHeld ?_; (try simp only [Act.put, List.setIfInBounds_toArray, List.set_cons_zero, List.set_cons_succ]))
            first
              | (refine take_in (i := 1) (v := ?_) rfl (by kernel_rfl) (by kernel_rfl) (by kernel_rfl) (fun _ _ _ h => h) (Or.inl ⟨by rfl, ?_⟩) hHeld ?_; rotate_left; (focus (intro w hSw; (try dsimp only at hSw); obtain hSw := hSw; go_simp; (try rfl); done)); (try simp only [Act.put, List.setIfInBounds_toArray, List.set_cons_zero, List.set_cons_succ]))
              | (refine take_in (i := 1) (v := undef) rfl (by kernel_rfl) (by kernel_rfl) (by kernel_rfl) (fun _ _ _ h => h) (Or.inr ⟨by rfl, rfl⟩) hHeld ?_; (try simp only [Act.put, List.setIfInBounds_toArray, List.set_cons_zero, List.set_cons_succ]))
            first
              | (refine take_in (i := 2) (v := ?_) rfl (by kernel_rfl) (by kernel_rfl) (by kernel_rfl) (fun _ _ _ h => h) (Or.inl ⟨by rfl, ?_⟩) hHeld ?_; rotate_left; (focus (intro w hSw; (try dsimp only at hSw); obtain hSw := hSw; go_simp; (try rfl); done)); (try simp only [Act.put, List.setIfInBounds_toArray, List.set_cons_zero, List.set_cons_succ]))
              | (refine take_in (i := 2) (v := undef) rfl (by kernel_rfl) (by kernel_rfl) (by kernel_rfl) (fun _ _ _ h => h) (Or.inr ⟨by rfl, rfl⟩) hHeld ?_; (try simp only [Act.put, List.setIfInBounds_toArray, List.set_cons_zero, List.set_cons_succ]))
            refine take_in (i := 3) (v := .agg cs.toArray) rfl (by kernel_rfl) (by kernel_rfl) (by kernel_rfl) (fun _ _ _ h => h) (yields_load (by rfl) 45 (.tmp 31) rfl ad rfl cs _ (fun _ h => HAt.out.below h) Try.underlying45 rfl (by rw [HRd.out.len]; rfl)) hHeld ?_
            (try simp only [Act.put, List.setIfInBounds_toArray, List.set_cons_zero, List.set_cons_succ])
            first
              | (refine take_in (i := 6) (v := ?_) rfl (by kernel_rfl) (by kernel_rfl) (by kernel_rfl) (fun _ _ _ h => h) (Or.inl ⟨by rfl, ?_⟩) hHeld ?_; rotate_left; (focus (intro w hSw; (try dsimp only at hSw); obtain hSw := hSw; go_simp; (try rfl); done)); (try simp only [Act.put, List.setIfInBounds_toArray, List.set_cons_zero, List.set_cons_succ]))
              | (refine take_in (i := 6) (v := undef) rfl (by kernel_rfl) (by kernel_rfl) (by kernel_rfl) (fun _ _ _ h => h) (Or.inr ⟨by rfl, rfl⟩) hHeld ?_; (try simp only [Act.put, List.setIfInBounds_toArray, List.set_cons_zero, List.set_cons_succ]))
            refine take_in (i := 7) rfl (by kernel_rfl) (by kernel_rfl) (by kernel_rfl) (fun _ _ _ h => h) (yields_slice (by rfl) 1 (.tmp 35) rfl rfl Try.underlying33 (e := 45) (size := 18) (by kernel_rfl) (by omega)) hHeld ?_
            (try simp only [Act.put, List.setIfInBounds_toArray, List.set_cons_zero, List.set_cons_succ])
            refine one_in (i := 4) rfl (by kernel_rfl) (fun K hK => ?_)
            rw [if_pos (by rfl)]
            refine wpo_lit1 (cs := cs) (.tmp 32) rfl rfl Try.underlying33 info_step rfl (by decide) (by decide) (by rw [HRd.out.len]; rfl) ?_
            have hsz := hHeld.size
            refine hK.out _ _ (hHeld.alloc hHeld.size _) (fun hHeld => ?_)
            (try simp only [Act.put, List.setIfInBounds_toArray, List.set_cons_zero, List.set_cons_succ])
            refine one_in (i := 5) rfl (by kernel_rfl) (fun K hK => ?_)
            rw [if_pos (by rfl)]
            refine wpo_appO (m := 1) (r := [x]) (ys := cs) (.tmp 29) (.tmp 33) rfl ((HO.out.below (Below.refl _ _).drew).below (below_alloc1 wr.drew _)) rfl (fun e => by cases e) (fun ad' e => by cases e; exact At.blk (heap_alloc_new wr.drew _)) (RdL.single (HO.out.old HRd.out (Nat.le_refl _) hHeld)) hHeld Try.underlying33 info_step rfl (by decide) rfl rfl (by rw [bytes_step]; omega) (by omega) hHeld.size ?_
            intro v2 w2 hO2 hb2 _ _
            refine hK.out _ _ hb2 (fun hHeld => ?_)
            (try simp only [Act.put, List.setIfInBounds_toArray, List.set_cons_zero, List.set_cons_succ])
            first
              | (refine take_in (i := 8) (v := ?_) rfl (by kernel_rfl) (by kernel_rfl) (by kernel_rfl) (fun _ _ _ h => h) (Or.inl ⟨by rfl, ?_⟩) hHeld ?_; rotate_left; (focus (intro w hSw; (try dsimp only at hSw); obtain hSw := hSw; go_simp; (try rfl); done)); (try simp only [Act.put, List.setIfInBounds_toArray, List.set_cons_zero, List.set_cons_succ]))
              | (refine take_in (i := 8) (v := undef) rfl (by kernel_rfl) (by kernel_rfl) (by kernel_rfl) (fun _ _ _ h => h) (Or.inr ⟨by rfl, rfl⟩) hHeld ?_; (try simp only [Act.put, List.setIfInBounds_toArray, List.set_cons_zero, List.set_cons_succ]))
            first
              | (refine take_in (i := 9) (v := ?_) rfl (by kernel_rfl) (by kernel_rfl) (by kernel_rfl) (fun _ _ _ h => h) (Or.inl ⟨by rfl, ?_⟩) hHeld ?_; rotate_left; (focus (intro w hSw; (try dsimp only at hSw); obtain hSw := hSw; go_simp; (try rfl); done)); (try simp only [Act.put, List.setIfInBounds_toArray, List.set_cons_zero, List.set_cons_succ]))
              | (refine take_in (i := 9) (v := undef) rfl (by kernel_rfl) (by kernel_rfl) (by kernel_rfl) (fun _ _ _ h => h) (Or.inr ⟨by rfl, rfl⟩) hHeld ?_; (try simp only [Act.put, List.setIfInBounds_toArray, List.set_cons_zero, List.set_cons_succ]))
            refine wpAnyH_done (by kernel_rfl) ?_ _
            obtain ⟨A2, c2, rfl, _⟩ := hO2.form
            have HO2 := Lib.hid hO2
            clear hO2
            go_wp2_with fail
            go_roundw
            case measure => simp [intOf]; omega
            case rel => exact ⟨out.length + 1, (if ca' = 1 then some ad else Option.map (fun x : Addr => x.add (1 * STEP.size)) (some ad)), B', ca' - 1, cb', a, (y :: b), _, out ++ [x], by simp [Sh.size, Addr.add], rfl, rfl, by go_num, HA'.out, HB.out, (by omega), hBc, (by omega), hcb', HO2.out, hHeld, HN, (by simp), (by simp; omega)⟩
          | false =>
            have HQ := Lib.hid hfq
            clear hfq
            obtain ⟨ad, rfl⟩ : ∃ ad, B' = some ad := by cases B' with
              | none => exact absurd (hB.2.1 rfl) (by simp)
              | some ad => exact ⟨ad, rfl⟩
            obtain ⟨cs, _, hat, hrd⟩ := hB.2.2 ad rfl 0 y rfl
            have HRd := Lib.hid hrd
            have HAt := Lib.hid (show At w ad 0 cs by rw [Nat.zero_mul] at hat; exact hat)
            have HB' := Lib.hid (hB.from_ hBc 1 (by simp))
            have HA := Lib.hid hA
            have HN := Lib.hid (show (out ++ [y]) ++ mixL f (out.length + 1) (x :: a) b = mixL f 0 la lb by rw [List.append_assoc]; have h := HM.out; rw [mixL_second _ _ _ _ HQ.out] at h; exact h)
            have hO0 := hO
            obtain ⟨Ao, co, rfl, _⟩ := hO.form
            have HO := Lib.hid hO0
            clear hO hO0
            (try simp only [List.length_cons, List.length_nil] at hAc hBc hlen ⊢)
            clear hA hB ha hb hf hrd hat
            go_wp2_with fail
            refine wp_region_held_drew (S := fun W => Below w.heap.size w W) (by kernel_rfl) hbel.drew (fun hHeld => ?_)
            first
              | (refine take_in (i := 0) (v := ?_) rfl (by kernel_rfl) (by kernel_rfl) (by kernel_rfl) (fun _ _ _ h => h) (Or.inl ⟨by rfl, ?_⟩) hHeld ?_; rotate_left; (focus (intro w hSw; (try dsimp only at hSw); obtain hSw := hSw; go_simp; (try rfl); done)); (try simp only [Act.put, List.setIfInBounds_toArray, List.set_cons_zero, List.set_cons_succ]))
              | (refine take_in (i := 0) (v := undef) rfl (by kernel_rfl) (by kernel_rfl) (by kernel_rfl) (fun _ _ _ h => h) (Or.inr ⟨by rfl, rfl⟩) hHeld ?_; (try simp only [Act.put, List.setIfInBounds_toArray, List.set_cons_zero, List.set_cons_succ]))
            first
              | (refine take_in (i := 1) (v := ?_) rfl (by kernel_rfl) (by kernel_rfl) (by kernel_rfl) (fun _ _ _ h => h) (Or.inl ⟨by rfl, ?_⟩) hHeld ?_; rotate_left; (focus (intro w hSw; (try dsimp only at hSw); obtain hSw := hSw; go_simp; (try rfl); done)); (try simp only [Act.put, List.setIfInBounds_toArray, List.set_cons_zero, List.set_cons_succ]))
              | (refine take_in (i := 1) (v := undef) rfl (by kernel_rfl) (by kernel_rfl) (by kernel_rfl) (fun _ _ _ h => h) (Or.inr ⟨by rfl, rfl⟩) hHeld ?_; (try simp only [Act.put, List.setIfInBounds_toArray, List.set_cons_zero, List.set_cons_succ]))
            first
              | (refine take_in (i := 2) (v := ?_) rfl (by kernel_rfl) (by kernel_rfl) (by kernel_rfl) (fun _ _ _ h => h) (Or.inl ⟨by rfl, ?_⟩) hHeld ?_; rotate_left; (focus (intro w hSw; (try dsimp only at hSw); obtain hSw := hSw; go_simp; (try rfl); done)); (try simp only [Act.put, List.setIfInBounds_toArray, List.set_cons_zero, List.set_cons_succ]))
              | (refine take_in (i := 2) (v := undef) rfl (by kernel_rfl) (by kernel_rfl) (by kernel_rfl) (fun _ _ _ h => h) (Or.inr ⟨by rfl, rfl⟩) hHeld ?_; (try simp only [Act.put, List.setIfInBounds_toArray, List.set_cons_zero, List.set_cons_succ]))
            refine take_in (i := 3) (v := .agg cs.toArray) rfl (by kernel_rfl) (by kernel_rfl) (by kernel_rfl) (fun _ _ _ h => h) (yields_load (by rfl) 45 (.tmp 39) rfl ad rfl cs _ (fun _ h => HAt.out.below h) Try.underlying45 rfl (by rw [HRd.out.len]; rfl)) hHeld ?_
            (try simp only [Act.put, List.setIfInBounds_toArray, List.set_cons_zero, List.set_cons_succ])
            first
              | (refine take_in (i := 6) (v := ?_) rfl (by kernel_rfl) (by kernel_rfl) (by kernel_rfl) (fun _ _ _ h => h) (Or.inl ⟨by rfl, ?_⟩) hHeld ?_; rotate_left; (focus (intro w hSw; (try dsimp only at hSw); obtain hSw := hSw; go_simp; (try rfl); done)); (try simp only [Act.put, List.setIfInBounds_toArray, List.set_cons_zero, List.set_cons_succ]))
              | (refine take_in (i := 6) (v := undef) rfl (by kernel_rfl) (by kernel_rfl) (by kernel_rfl) (fun _ _ _ h => h) (Or.inr ⟨by rfl, rfl⟩) hHeld ?_; (try simp only [Act.put, List.setIfInBounds_toArray, List.set_cons_zero, List.set_cons_succ]))
            refine take_in (i := 7) rfl (by kernel_rfl) (by kernel_rfl) (by kernel_rfl) (fun _ _ _ h => h) (yields_slice (by rfl) 1 (.tmp 43) rfl rfl Try.underlying33 (e := 45) (size := 18) (by kernel_rfl) (by omega)) hHeld ?_
            (try simp only [Act.put, List.setIfInBounds_toArray, List.set_cons_zero, List.set_cons_succ])
            refine one_in (i := 4) rfl (by kernel_rfl) (fun K hK => ?_)
            rw [if_pos (by rfl)]
            refine wpo_lit1 (cs := cs) (.tmp 40) rfl rfl Try.underlying33 info_step rfl (by decide) (by decide) (by rw [HRd.out.len]; rfl) ?_
            have hsz := hHeld.size
            refine hK.out _ _ (hHeld.alloc hHeld.size _) (fun hHeld => ?_)
            (try simp only [Act.put, List.setIfInBounds_toArray, List.set_cons_zero, List.set_cons_succ])
            refine one_in (i := 5) rfl (by kernel_rfl) (fun K hK => ?_)
            rw [if_pos (by rfl)]
            refine wpo_appO (m := 1) (r := [y]) (ys := cs) (.tmp 37) (.tmp 41) rfl ((HO.out.below (Below.refl _ _).drew).below (below_alloc1 wr.drew _)) rfl (fun e => by cases e) (fun ad' e => by cases e; exact At.blk (heap_alloc_new wr.drew _)) (RdL.single (HO.out.old HRd.out (Nat.le_refl _) hHeld)) hHeld Try.underlying33 info_step rfl (by decide) rfl rfl (by rw [bytes_step]; omega) (by omega) hHeld.size ?_
            intro v2 w2 hO2 hb2 _ _
            refine hK.out _ _ hb2 (fun hHeld => ?_)
            (try simp only [Act.put, List.setIfInBounds_toArray, List.set_cons_zero, List.set_cons_succ])
            first
              | (refine take_in (i := 8) (v := ?_) rfl (by kernel_rfl) (by kernel_rfl) (by kernel_rfl) (fun _ _ _ h => h) (Or.inl ⟨by rfl, ?_⟩) hHeld ?_; rotate_left; (focus (intro w hSw; (try dsimp only at hSw); obtain hSw := hSw; go_simp; (try rfl); done)); (try simp only [Act.put, List.setIfInBounds_toArray, List.set_cons_zero, List.set_cons_succ]))
              | (refine take_in (i := 8) (v := undef) rfl (by kernel_rfl) (by kernel_rfl) (by kernel_rfl) (fun _ _ _ h => h) (Or.inr ⟨by rfl, rfl⟩) hHeld ?_; (try simp only [Act.put, List.setIfInBounds_toArray, List.set_cons_zero, List.set_cons_succ]))
            first
              | (refine take_in (i := 9) (v := ?_) rfl (by kernel_rfl) (by kernel_rfl) (by kernel_rfl) (fun _ _ _ h => h) (Or.inl ⟨by rfl, ?_⟩) hHeld ?_; rotate_left; (focus (intro w hSw; (try dsimp only at hSw); obtain hSw := hSw; go_simp; (try rfl); done)); (try simp only [Act.put, List.setIfInBounds_toArray, List.set_cons_zero, List.set_cons_succ]))
              | (refine take_in (i := 9) (v := undef) rfl (by kernel_rfl) (by kernel_rfl) (by kernel_rfl) (fun _ _ _ h => h) (Or.inr ⟨by rfl, rfl⟩) hHeld ?_; (try simp only [Act.put, List.setIfInBounds_toArray, List.set_cons_zero, List.set_cons_succ]))
            refine wpAnyH_done (by kernel_rfl) ?_ _
            obtain ⟨A2, c2, rfl, _⟩ := hO2.form
            have HO2 := Lib.hid hO2
            clear hO2
            go_wp2_with fail
            go_roundw
            case measure => simp [intOf]; omega
            case rel => exact ⟨out.length + 1, A', (if cb' = 1 then some ad else Option.map (fun x : Addr => x.add (1 * STEP.size)) (some ad)), ca', cb' - 1, (x :: a), b, _, out ++ [y], rfl, by simp [Sh.size, Addr.add], rfl, by go_num, HA.out, HB'.out, hAc, (by omega), hca', (by omega), HO2.out, hHeld, HN, (by simp), (by simp; omega)⟩
    · have hki : (k : Int) ≤ (out.length : Int) := by omega
      have HE := Lib.hid (show (out ++ la') ++ lb' = mixL f 0 la lb by have h := HM.out; rw [mixL_past f la' lb' _ (by have := hf.1; omega)] at h; rw [List.append_assoc]; exact h)
      obtain ⟨L, hL⟩ : ∃ L, out ++ la' = L := ⟨_, rfl⟩
      obtain ⟨M, hM⟩ : ∃ M, mixL f 0 la lb = M := ⟨_, rfl⟩
      have HLM := Lib.hid (show L ++ lb' = M by rw [← hL, ← hM]; exact HE.out)
      have HLl := Lib.hid (show L.length = out.length + (la' : List STEP.Ty).length by rw [← hL, List.length_append])
      have HL := Lib.hid hL
      have HMM := Lib.hid hM
      clear hL hM
      obtain ⟨ys, hys, hya⟩ := (hA.below hbel).cells
      obtain ⟨zs, hzs, hza⟩ := (hB.below hbel).cells
      obtain ⟨ys0, hys0, hya0⟩ := hA.cells
      obtain ⟨zs0, hzs0, hza0⟩ := hB.cells
      have HA := Lib.hid hA
      have HB := Lib.hid hB
      have hO0 := hO
      obtain ⟨Ao, co, rfl, _⟩ := hO.form
      have HO := Lib.hid hO0
      clear hO hO0
      have HY := Lib.hid hys0
      have HZ := Lib.hid hzs0
      have HYA := Lib.hid hya0
      have HZA := Lib.hid hza0
      (try simp only [List.length_cons, List.length_nil] at hAc hBc hlen ⊢)
      clear hA hB ha hb hf hys hya hzs hza hys0 hya0 hzs0 hza0
      go_wp2_with (first
        | (at_builtin; refine wp_appO (r := la') (ys := ys0) rfl (.tmp 45) (.tmp 46) rfl HO.out rfl (fun e => HA.out.2.1 e) (fun ad' e => (HYA.out ad' e).2.below hbel) (HO.out.oldL HY.out (Nat.le_refl _) hbel) hbel Try.underlying33 info_step rfl (by decide) rfl rfl (by rw [bytes_step]; (try simp); omega) (by (try simp); omega) hbel.size ?_; intro v2 w2 hO2 hb2 _ _; rw [HL.out] at hO2; have HO2 := Lib.hid hO2; obtain ⟨A2, c2, rfl, _⟩ := hO2.form; clear hO2)
        | (at_builtin; refine wp_appO (r := lb') (ys := zs0) rfl (.tmp 47) (.tmp 48) rfl HO2.out rfl (fun e => HB.out.2.1 e) (fun ad' e => (HZA.out ad' e).2.below hb2) (HO2.out.oldL HZ.out (Nat.le_refl _) hb2) hb2 Try.underlying33 info_step rfl (by decide) rfl rfl (by have := HLl.out; rw [bytes_step]; (try simp at *); omega) (by have := HLl.out; (try simp at *); omega) hb2.size ?_; intro v3 w3 hO3 hb3 _ _; rw [HLM.out] at hO3; have HO3 := Lib.hid hO3; obtain ⟨A3, c3, rfl, _⟩ := hO3.form; clear hO3))
      go_ret
      exact ⟨_, rfl, (by rw [HMM.out]; exact HO3.out), hb3⟩
end Go.Proofs.Ytaagldmgbdiomaa
