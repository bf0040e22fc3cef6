import Derived.Test.YtaagldmgbdiomaaSchA
import Derived.Test.YtaagldmgbdiomaaSchM
namespace Go.Proofs.Ytaagldmgbdiomaa
open Go.RowKit Mixed
set_option linter.unusedSimpArgs false
abbrev keepOf (x : STEP.Ty) : List Bool := x.2.2.2.2.2.2.1
abbrev dataOf (x : STEP.Ty) : List UInt8 := x.2.2.2.2.2.2.2.1
def SmallS (l : List STEP.Ty) : Prop := ∀ x ∈ l, (keepOf x).length ≤ 100000 ∧ (dataOf x).length ≤ 100000
theorem info_step : (Try.prog.info? 45).map (fun i => (i.zero, i.size, i.bytes)) = some (some (.agg #[Value.int IntKind.i64 0, Value.int IntKind.i64 0, Value.int IntKind.i64 0, Value.int IntKind.i64 0, Value.int IntKind.i64 0, Value.int IntKind.u64 0, Value.int IntKind.u64 0, Value.string { data := #[] }, Value.float FloatKind.f64 0, Value.bool false, Value.int IntKind.u64 0, Value.int IntKind.i64 0, Value.string { data := #[] }, Value.int IntKind.i64 0, Value.bool false, Value.int IntKind.i64 0, Value.slice none 0 0, Value.slice none 0 0]), 18, (Try.prog.bytesOf 45)) := by kernel_rfl
theorem bytes_step : Try.prog.bytesOf 45 = 192 := by kernel_rfl
set_option maxHeartbeats 4000000 in
set_option maxRecDepth 20000 in
theorem mix_any (w : World) (ok : Nat → Prop) (A B : Option Addr) (n m ca cb : Nat) (la lb : List STEP.Ty) (F : Option Addr) (k cf : Nat) (f : List Bool) (ha : Rows w ok STEP A n la) (hb : Rows w ok STEP B m lb) (hf : Rows w ok .bool F k f)
    (hna : n ≤ ca) (hnb : m ≤ cb) (hca : ca ≤ 9223372036854775807) (hcb : cb ≤ 9223372036854775807) (hn : n ≤ 1000) (hm : m ≤ 1000) (hk : k ≤ 1000) (hsa : SmallS la) (hsb : SmallS lb) :
    Calls Try.prog 21 #[.slice A n ca, .slice B m cb, .slice F k cf] w fun e w' => ∃ v, e = .returned v ∧ Own w' w.heap.size 45 STEP v (mixL f 0 la lb) ∧ Below w.heap.size w w' := by
  go_enter Try.func21, Try.ntmps21
  go_wp2_with fail
  go_loopw [0, 1, 7, 8] (fun s0 s1 s7 s8 wr => ∃ (i : Nat) (A' B' : Option Addr) (ca' cb' : Nat) (la' lb' : List STEP.Ty) (v : Value) (out : List STEP.Ty), s0 = .slice A' la'.length ca' ∧ s1 = .slice B' lb'.length cb' ∧ s7 = v ∧ s8 = .int .i64 i ∧
      Rows w ok STEP A' la'.length la' ∧ Rows w ok STEP B' lb'.length lb' ∧ la'.length ≤ ca' ∧ lb'.length ≤ cb' ∧ ca' ≤ 9223372036854775807 ∧ cb' ≤ 9223372036854775807 ∧ Own wr w.heap.size 45 STEP v out ∧ Below w.heap.size w wr ∧
      Hid (out ++ mixL f i la' lb' = mixL f 0 la lb) ∧ out.length = i ∧ i + la'.length + lb'.length = n + m ∧ SmallS la' ∧ SmallS lb') (fun _ _ _ s8 _ => n + m - (intOf s8).toNat)
  case atStart => exact ⟨0, A, B, ca, cb, la, lb, _, [], by rw [ha.1], by rw [hb.1], rfl, rfl, by rw [ha.1]; exact ha, by rw [hb.1]; exact hb, by rw [ha.1]; exact hna, by rw [hb.1]; exact hnb, hca, hcb, Own.nil _ _ _ _, Below.refl _ _, Lib.hid rfl, rfl, by rw [ha.1, hb.1]; omega, hsa, hsb⟩
  case round =>
    obtain ⟨i, A', B', ca', cb', la', lb', v, out, rfl, rfl, rfl, rfl, hA, hB, hAc, hBc, hca', hcb', hO, hbel, HM, ho, hlen, hSA, hSB⟩ := hrel
    subst ho
    have i0 : (0 : Int) ≤ (out.length : Int) := by omega
    rcases la' with _ | ⟨x, a⟩
    · rcases lb' with _ | ⟨y, b⟩
      · have HE := Lib.hid (show out = mixL f 0 la lb by have h := HM.out; rw [mixL_nil, List.append_nil] at h; exact h)
        have HO := Lib.hid hO
        obtain ⟨Ao, co, rfl, _⟩ := hO.form
        clear hA hB hO hf ha hb
        go_wp2_with fail
        go_ret
        exact ⟨_, rfl, HE.out ▸ HO.out, hbel⟩
      · by_cases hik : out.length < k
        · obtain ⟨fd, rfl⟩ : ∃ fd, F = some fd := by cases F with
            | none => exact absurd (hf.2.1 rfl) (by omega)
            | some fd => exact ⟨fd, rfl⟩
          obtain ⟨q, hq⟩ : ∃ q, f[out.length]? = some q := ⟨f[out.length]'(by have := hf.1; omega), List.getElem?_eq_getElem (by have := hf.1; omega)⟩
          obtain ⟨qc, _, hqa, hqr⟩ := hf.2.2 fd rfl out.length q hq
          obtain rfl : qc = [.bool q] := hqr
          have fc := cell_below hbel (hqa 0 _ rfl)
          simp only [Sh.size, Nat.mul_one, Nat.add_zero] at fc
          have hfq : f.getD out.length true = q := by rw [List.getD_eq_getElem?_getD, hq]; rfl
          have ik : (out.length : Int) < (k : Int) := by omega
          clear hqa hq
          cases q with
          | true =>
            clear hfq
            obtain ⟨ad, rfl⟩ : ∃ ad, B' = some ad := by cases B' with
              | none => exact absurd (hB.2.1 rfl) (by simp)
              | some ad => exact ⟨ad, rfl⟩
            obtain ⟨cs, _, hat, hrd⟩ := hB.2.2 ad rfl 0 y rfl
            have hsx := hSB y List.mem_cons_self
            have HRd := Lib.hid hrd
            have HAt := Lib.hid (show At w ad 0 cs by rw [Nat.zero_mul] at hat; exact hat)
            have HB' := Lib.hid (hB.from_ hBc 1 (by simp))
            have HA := Lib.hid hA
            have HN := Lib.hid (show (out ++ [y]) ++ mixL f (out.length + 1) [] b = mixL f 0 la lb by rw [List.append_assoc]; have h := HM.out; rw [mixL_right] at h; exact h)
            have hO0 := hO
            obtain ⟨Ao, co, rfl, _⟩ := hO.form
            have HO := Lib.hid hO0
            clear hO hO0
            simp only [List.length_cons, List.length_nil] at hAc hBc hlen ⊢
            clear hA hB ha hb hf hrd hat
            go_wp2_with fail
            refine wp_region_held_drew (S := fun W => Below w.heap.size w W) (by kernel_rfl) hbel.drew (fun hHeld => ?_)
            first
              | (refine take_in (i := 0) (v := ?_) rfl (by kernel_rfl) (by kernel_rfl) (by kernel_rfl) (fun _ _ _ h => h) (Or.inl ⟨by rfl, ?_⟩) hHeld ?_; rotate_left; (focus (intro w hSw; (try dsimp only at hSw); obtain hSw := hSw; go_simp; (try rfl); done)); (try simp only [Act.put, List.setIfInBounds_toArray, List.set_cons_zero, List.set_cons_succ]))
              | (refine take_in (i := 0) (v := undef) rfl (by kernel_rfl) (by kernel_rfl) (by kernel_rfl) (fun _ _ _ h => h) (Or.inr ⟨by rfl, rfl⟩) hHeld ?_; (try simp only [Act.put, List.setIfInBounds_toArray, List.set_cons_zero, List.set_cons_succ]))
            first
              | (refine take_in (i := 1) (v := ?_) rfl (by kernel_rfl) (by kernel_rfl) (by kernel_rfl) (fun _ _ _ h => h) (Or.inl ⟨by rfl, ?_⟩) hHeld ?_; rotate_left; (focus (intro w hSw; (try dsimp only at hSw); obtain hSw := hSw; go_simp; (try rfl); done)); (try simp only [Act.put, List.setIfInBounds_toArray, List.set_cons_zero, List.set_cons_succ]))
              | (refine take_in (i := 1) (v := undef) rfl (by kernel_rfl) (by kernel_rfl) (by kernel_rfl) (fun _ _ _ h => h) (Or.inr ⟨by rfl, rfl⟩) hHeld ?_; (try simp only [Act.put, List.setIfInBounds_toArray, List.set_cons_zero, List.set_cons_succ]))
            first
              | (refine take_in (i := 2) (v := ?_) rfl (by kernel_rfl) (by kernel_rfl) (by kernel_rfl) (fun _ _ _ h => h) (Or.inl ⟨by rfl, ?_⟩) hHeld ?_; rotate_left; (focus (intro w hSw; (try dsimp only at hSw); obtain hSw := hSw; go_simp; (try rfl); done)); (try simp only [Act.put, List.setIfInBounds_toArray, List.set_cons_zero, List.set_cons_succ]))
              | (refine take_in (i := 2) (v := undef) rfl (by kernel_rfl) (by kernel_rfl) (by kernel_rfl) (fun _ _ _ h => h) (Or.inr ⟨by rfl, rfl⟩) hHeld ?_; (try simp only [Act.put, List.setIfInBounds_toArray, List.set_cons_zero, List.set_cons_succ]))
            refine take_in (i := 3) (v := .agg cs.toArray) rfl (by kernel_rfl) (by kernel_rfl) (by kernel_rfl) (fun _ _ _ h => h) (yields_load (by rfl) 45 (.tmp 50) rfl ad rfl cs _ (fun _ h => HAt.out.below h) Try.underlying45 rfl (by rw [HRd.out.len]; rfl)) hHeld ?_
            (try simp only [Act.put, List.setIfInBounds_toArray, List.set_cons_zero, List.set_cons_succ])
            first
              | (refine take_in (i := 7) (v := ?_) rfl (by kernel_rfl) (by kernel_rfl) (by kernel_rfl) (fun _ _ _ h => h) (Or.inl ⟨by rfl, ?_⟩) hHeld ?_; rotate_left; (focus (intro w hSw; (try dsimp only at hSw); obtain hSw := hSw; go_simp; (try rfl); done)); (try simp only [Act.put, List.setIfInBounds_toArray, List.set_cons_zero, List.set_cons_succ]))
              | (refine take_in (i := 7) (v := undef) rfl (by kernel_rfl) (by kernel_rfl) (by kernel_rfl) (fun _ _ _ h => h) (Or.inr ⟨by rfl, rfl⟩) hHeld ?_; (try simp only [Act.put, List.setIfInBounds_toArray, List.set_cons_zero, List.set_cons_succ]))
            refine take_in (i := 8) rfl (by kernel_rfl) (by kernel_rfl) (by kernel_rfl) (fun _ _ _ h => h) (yields_slice (by rfl) 1 (.tmp 55) rfl rfl Try.underlying33 (e := 45) (size := 18) (by kernel_rfl) (by omega)) hHeld ?_
            (try simp only [Act.put, List.setIfInBounds_toArray, List.set_cons_zero, List.set_cons_succ])
            refine one_in (i := 4) rfl (by kernel_rfl) (fun K hK => ?_)
            go_simp
            refine (own_any _ ok y cs (HRd.out.below hHeld) hsx.1 hsx.2).mono ?_
            rintro e w1 ⟨cs', rfl, R1, hb1⟩
            have hb1w : Below wr.heap.size wr w1 := (Below.refl _ _).drew.trans hb1
            have hb1s := hb1w.size
            refine hK.out _ _ (hHeld.trans (hb1.mono hHeld.size)) (fun hHeld => ?_)
            (try simp only [Act.put, List.setIfInBounds_toArray, List.set_cons_zero, List.set_cons_succ])
            refine one_in (i := 5) rfl (by kernel_rfl) (fun K hK => ?_)
            rw [if_pos (by rfl)]
            refine wpo_lit1 (cs := cs') (.tmp 52) rfl rfl Try.underlying33 info_step rfl (by decide) (by decide) (by rw [R1.len]; rfl) ?_
            refine hK.out _ _ (hHeld.alloc hHeld.size _) (fun hHeld => ?_)
            (try simp only [Act.put, List.setIfInBounds_toArray, List.set_cons_zero, List.set_cons_succ])
            refine one_in (i := 6) rfl (by kernel_rfl) (fun K hK => ?_)
            rw [if_pos (by rfl)]
            refine wpo_appO (m := 1) (r := [y]) (ys := cs') (.tmp 48) (.tmp 53) rfl ((HO.out.below hb1w).below (below_alloc1 w1 _)) rfl (fun e => by cases e) (fun ad' e => by cases e; exact At.blk (heap_alloc_new w1 _)) (RdL.single (HO.out.apart (Nat.le_refl _) hbel.size R1 (below_alloc1 w1 _))) hHeld Try.underlying33 info_step rfl (by decide) rfl rfl (by rw [bytes_step]; omega) (by omega) hHeld.size ?_
            intro v2 w2 hO2 hb2 _ _
            refine hK.out _ _ hb2 (fun hHeld => ?_)
            (try simp only [Act.put, List.setIfInBounds_toArray, List.set_cons_zero, List.set_cons_succ])
            first
              | (refine take_in (i := 9) (v := ?_) rfl (by kernel_rfl) (by kernel_rfl) (by kernel_rfl) (fun _ _ _ h => h) (Or.inl ⟨by rfl, ?_⟩) hHeld ?_; rotate_left; (focus (intro w hSw; (try dsimp only at hSw); obtain hSw := hSw; go_simp; (try rfl); done)); (try simp only [Act.put, List.setIfInBounds_toArray, List.set_cons_zero, List.set_cons_succ]))
              | (refine take_in (i := 9) (v := undef) rfl (by kernel_rfl) (by kernel_rfl) (by kernel_rfl) (fun _ _ _ h => h) (Or.inr ⟨by rfl, rfl⟩) hHeld ?_; (try simp only [Act.put, List.setIfInBounds_toArray, List.set_cons_zero, List.set_cons_succ]))
            first
              | (refine take_in (i := 10) (v := ?_) rfl (by kernel_rfl) (by kernel_rfl) (by kernel_rfl) (fun _ _ _ h => h) (Or.inl ⟨by rfl, ?_⟩) hHeld ?_; rotate_left; (focus (intro w hSw; (try dsimp only at hSw); obtain hSw := hSw; go_simp; (try rfl); done)); (try simp only [Act.put, List.setIfInBounds_toArray, List.set_cons_zero, List.set_cons_succ]))
              | (refine take_in (i := 10) (v := undef) rfl (by kernel_rfl) (by kernel_rfl) (by kernel_rfl) (fun _ _ _ h => h) (Or.inr ⟨by rfl, rfl⟩) hHeld ?_; (try simp only [Act.put, List.setIfInBounds_toArray, List.set_cons_zero, List.set_cons_succ]))
            refine wpAnyH_done (by kernel_rfl) ?_ _
            obtain ⟨A2, c2, rfl, _⟩ := hO2.form
            have HO2 := Lib.hid hO2
            clear hO2
            go_wp2_with fail
            go_roundw
            case measure => simp [intOf]; omega
            case rel => exact ⟨out.length + 1, A', (if cb' = 1 then some ad else Option.map (fun x : Addr => x.add (1 * STEP.size)) (some ad)), ca', cb' - 1, [], b, _, out ++ [y], rfl, by simp [Sh.size, Addr.add], rfl, by go_num, HA.out, HB'.out, hAc, (by omega), hca', (by omega), HO2.out, hHeld, HN, (by simp), (by simp; omega), hSA, (fun z hz => hSB z (List.mem_cons_of_mem _ hz))⟩
          | false =>
            clear hfq
            obtain ⟨ad, rfl⟩ : ∃ ad, B' = some ad := by cases B' with
              | none => exact absurd (hB.2.1 rfl) (by simp)
              | some ad => exact ⟨ad, rfl⟩
            obtain ⟨cs, _, hat, hrd⟩ := hB.2.2 ad rfl 0 y rfl
            have hsx := hSB y List.mem_cons_self
            have HRd := Lib.hid hrd
            have HAt := Lib.hid (show At w ad 0 cs by rw [Nat.zero_mul] at hat; exact hat)
            have HB' := Lib.hid (hB.from_ hBc 1 (by simp))
            have HA := Lib.hid hA
            have HN := Lib.hid (show (out ++ [y]) ++ mixL f (out.length + 1) [] b = mixL f 0 la lb by rw [List.append_assoc]; have h := HM.out; rw [mixL_right] at h; exact h)
            have hO0 := hO
            obtain ⟨Ao, co, rfl, _⟩ := hO.form
            have HO := Lib.hid hO0
            clear hO hO0
            simp only [List.length_cons, List.length_nil] at hAc hBc hlen ⊢
            clear hA hB ha hb hf hrd hat
            go_wp2_with fail
            refine wp_region_held_drew (S := fun W => Below w.heap.size w W) (by kernel_rfl) hbel.drew (fun hHeld => ?_)
            first
              | (refine take_in (i := 0) (v := ?_) rfl (by kernel_rfl) (by kernel_rfl) (by kernel_rfl) (fun _ _ _ h => h) (Or.inl ⟨by rfl, ?_⟩) hHeld ?_; rotate_left; (focus (intro w hSw; (try dsimp only at hSw); obtain hSw := hSw; go_simp; (try rfl); done)); (try simp only [Act.put, List.setIfInBounds_toArray, List.set_cons_zero, List.set_cons_succ]))
              | (refine take_in (i := 0) (v := undef) rfl (by kernel_rfl) (by kernel_rfl) (by kernel_rfl) (fun _ _ _ h => h) (Or.inr ⟨by rfl, rfl⟩) hHeld ?_; (try simp only [Act.put, List.setIfInBounds_toArray, List.set_cons_zero, List.set_cons_succ]))
            first
              | (refine take_in (i := 1) (v := ?_) rfl (by kernel_rfl) (by kernel_rfl) (by kernel_rfl) (fun _ _ _ h => h) (Or.inl ⟨by rfl, ?_⟩) hHeld ?_; rotate_left; (focus (intro w hSw; (try dsimp only at hSw); obtain hSw := hSw; go_simp; (try rfl); done)); (try simp only [Act.put, List.setIfInBounds_toArray, List.set_cons_zero, List.set_cons_succ]))
              | (refine take_in (i := 1) (v := undef) rfl (by kernel_rfl) (by kernel_rfl) (by kernel_rfl) (fun _ _ _ h => h) (Or.inr ⟨by rfl, rfl⟩) hHeld ?_; (try simp only [Act.put, List.setIfInBounds_toArray, List.set_cons_zero, List.set_cons_succ]))
            first
              | (refine take_in (i := 2) (v := ?_) rfl (by kernel_rfl) (by kernel_rfl) (by kernel_rfl) (fun _ _ _ h => h) (Or.inl ⟨by rfl, ?_⟩) hHeld ?_; rotate_left; (focus (intro w hSw; (try dsimp only at hSw); obtain hSw := hSw; go_simp; (try rfl); done)); (try simp only [Act.put, List.setIfInBounds_toArray, List.set_cons_zero, List.set_cons_succ]))
              | (refine take_in (i := 2) (v := undef) rfl (by kernel_rfl) (by kernel_rfl) (by kernel_rfl) (fun _ _ _ h => h) (Or.inr ⟨by rfl, rfl⟩) hHeld ?_; (try simp only [Act.put, List.setIfInBounds_toArray, List.set_cons_zero, List.set_cons_succ]))
            refine take_in (i := 3) (v := .agg cs.toArray) rfl (by kernel_rfl) (by kernel_rfl) (by kernel_rfl) (fun _ _ _ h => h) (yields_load (by rfl) 45 (.tmp 50) rfl ad rfl cs _ (fun _ h => HAt.out.below h) Try.underlying45 rfl (by rw [HRd.out.len]; rfl)) hHeld ?_
            (try simp only [Act.put, List.setIfInBounds_toArray, List.set_cons_zero, List.set_cons_succ])
            first
              | (refine take_in (i := 7) (v := ?_) rfl (by kernel_rfl) (by kernel_rfl) (by kernel_rfl) (fun _ _ _ h => h) (Or.inl ⟨by rfl, ?_⟩) hHeld ?_; rotate_left; (focus (intro w hSw; (try dsimp only at hSw); obtain hSw := hSw; go_simp; (try rfl); done)); (try simp only [Act.put, List.setIfInBounds_toArray, List.set_cons_zero, List.set_cons_succ]))
              | (refine take_in (i := 7) (v := undef) rfl (by kernel_rfl) (by kernel_rfl) (by kernel_rfl) (fun _ _ _ h => h) (Or.inr ⟨by rfl, rfl⟩) hHeld ?_; (try simp only [Act.put, List.setIfInBounds_toArray, List.set_cons_zero, List.set_cons_succ]))
            refine take_in (i := 8) rfl (by kernel_rfl) (by kernel_rfl) (by kernel_rfl) (fun _ _ _ h => h) (yields_slice (by rfl) 1 (.tmp 55) rfl rfl Try.underlying33 (e := 45) (size := 18) (by kernel_rfl) (by omega)) hHeld ?_
            (try simp only [Act.put, List.setIfInBounds_toArray, List.set_cons_zero, List.set_cons_succ])
            refine one_in (i := 4) rfl (by kernel_rfl) (fun K hK => ?_)
            go_simp
            refine (own_any _ ok y cs (HRd.out.below hHeld) hsx.1 hsx.2).mono ?_
            rintro e w1 ⟨cs', rfl, R1, hb1⟩
            have hb1w : Below wr.heap.size wr w1 := (Below.refl _ _).drew.trans hb1
            have hb1s := hb1w.size
            refine hK.out _ _ (hHeld.trans (hb1.mono hHeld.size)) (fun hHeld => ?_)
            (try simp only [Act.put, List.setIfInBounds_toArray, List.set_cons_zero, List.set_cons_succ])
            refine one_in (i := 5) rfl (by kernel_rfl) (fun K hK => ?_)
            rw [if_pos (by rfl)]
            refine wpo_lit1 (cs := cs') (.tmp 52) rfl rfl Try.underlying33 info_step rfl (by decide) (by decide) (by rw [R1.len]; rfl) ?_
            refine hK.out _ _ (hHeld.alloc hHeld.size _) (fun hHeld => ?_)
            (try simp only [Act.put, List.setIfInBounds_toArray, List.set_cons_zero, List.set_cons_succ])
            refine one_in (i := 6) rfl (by kernel_rfl) (fun K hK => ?_)
            rw [if_pos (by rfl)]
            refine wpo_appO (m := 1) (r := [y]) (ys := cs') (.tmp 48) (.tmp 53) rfl ((HO.out.below hb1w).below (below_alloc1 w1 _)) rfl (fun e => by cases e) (fun ad' e => by cases e; exact At.blk (heap_alloc_new w1 _)) (RdL.single (HO.out.apart (Nat.le_refl _) hbel.size R1 (below_alloc1 w1 _))) hHeld Try.underlying33 info_step rfl (by decide) rfl rfl (by rw [bytes_step]; omega) (by omega) hHeld.size ?_
            intro v2 w2 hO2 hb2 _ _
            refine hK.out _ _ hb2 (fun hHeld => ?_)
            (try simp only [Act.put, List.setIfInBounds_toArray, List.set_cons_zero, List.set_cons_succ])
            first
              | (refine take_in (i := 9) (v := ?_) rfl (by kernel_rfl) (by kernel_rfl) (by kernel_rfl) (fun _ _ _ h => h) (Or.inl ⟨by rfl, ?_⟩) hHeld ?_; rotate_left; (focus (intro w hSw; (try dsimp only at hSw); obtain hSw := hSw; go_simp; (try rfl); done)); (try simp only [Act.put, List.setIfInBounds_toArray, List.set_cons_zero, List.set_cons_succ]))
              | (refine take_in (i := 9) (v := undef) rfl (by kernel_rfl) (by kernel_rfl) (by kernel_rfl) (fun _ _ _ h => h) (Or.inr ⟨by rfl, rfl⟩) hHeld ?_; (try simp only [Act.put, List.setIfInBounds_toArray, List.set_cons_zero, List.set_cons_succ]))
            first
              | (refine take_in (i := 10) (v := ?_) rfl (by kernel_rfl) (by kernel_rfl) (by kernel_rfl) (fun _ _ _ h => h) (Or.inl ⟨by rfl, ?_⟩) hHeld ?_; rotate_left; (focus (intro w hSw; (try dsimp only at hSw); obtain hSw := hSw; go_simp; (try rfl); done)); (try simp only [Act.put, List.setIfInBounds_toArray, List.set_cons_zero, List.set_cons_succ]))
              | (refine take_in (i := 10) (v := undef) rfl (by kernel_rfl) (by kernel_rfl) (by kernel_rfl) (fun _ _ _ h => h) (Or.inr ⟨by rfl, rfl⟩) hHeld ?_; (try simp only [Act.put, List.setIfInBounds_toArray, List.set_cons_zero, List.set_cons_succ]))
            refine wpAnyH_done (by kernel_rfl) ?_ _
            obtain ⟨A2, c2, rfl, _⟩ := hO2.form
            have HO2 := Lib.hid hO2
            clear hO2
            go_wp2_with fail
            go_roundw
            case measure => simp [intOf]; omega
            case rel => exact ⟨out.length + 1, A', (if cb' = 1 then some ad else Option.map (fun x : Addr => x.add (1 * STEP.size)) (some ad)), ca', cb' - 1, [], b, _, out ++ [y], rfl, by simp [Sh.size, Addr.add], rfl, by go_num, HA.out, HB'.out, hAc, (by omega), hca', (by omega), HO2.out, hHeld, HN, (by simp), (by simp; omega), hSA, (fun z hz => hSB z (List.mem_cons_of_mem _ hz))⟩
        · have hki : (k : Int) ≤ (out.length : Int) := by omega
          obtain ⟨ad, rfl⟩ : ∃ ad, B' = some ad := by cases B' with
            | none => exact absurd (hB.2.1 rfl) (by simp)
            | some ad => exact ⟨ad, rfl⟩
          obtain ⟨cs, _, hat, hrd⟩ := hB.2.2 ad rfl 0 y rfl
          have hsx := hSB y List.mem_cons_self
          have HRd := Lib.hid hrd
          have HAt := Lib.hid (show At w ad 0 cs by rw [Nat.zero_mul] at hat; exact hat)
          have HB' := Lib.hid (hB.from_ hBc 1 (by simp))
          have HA := Lib.hid hA
          have HN := Lib.hid (show (out ++ [y]) ++ mixL f (out.length + 1) [] b = mixL f 0 la lb by rw [List.append_assoc]; have h := HM.out; rw [mixL_right] at h; exact h)
          have hO0 := hO
          obtain ⟨Ao, co, rfl, _⟩ := hO.form
          have HO := Lib.hid hO0
          clear hO hO0
          simp only [List.length_cons, List.length_nil] at hAc hBc hlen ⊢
          clear hA hB ha hb hf hrd hat
          go_wp2_with fail
          refine wp_region_held_drew (S := fun W => Below w.heap.size w W) (by kernel_rfl) hbel.drew (fun hHeld => ?_)
          first
            | (refine take_in (i := 0) (v := ?_) rfl (by kernel_rfl) (by kernel_rfl) (by kernel_rfl) (fun _ _ _ h => h) (Or.inl ⟨by rfl, ?_⟩) hHeld ?_; rotate_left; (focus (intro w hSw; (try dsimp only at hSw); obtain hSw := hSw; go_simp; (try rfl); done)); (try simp only [Act.put, List.setIfInBounds_toArray, List.set_cons_zero, List.set_cons_succ]))
            | (refine take_in (i := 0) (v := undef) rfl (by kernel_rfl) (by kernel_rfl) (by kernel_rfl) (fun _ _ _ h => h) (Or.inr ⟨by rfl, rfl⟩) hHeld ?_; (try simp only [Act.put, List.setIfInBounds_toArray, List.set_cons_zero, List.set_cons_succ]))
          first
            | (refine take_in (i := 1) (v := ?_) rfl (by kernel_rfl) (by kernel_rfl) (by kernel_rfl) (fun _ _ _ h => h) (Or.inl ⟨by rfl, ?_⟩) hHeld ?_; rotate_left; (focus (intro w hSw; (try dsimp only at hSw); obtain hSw := hSw; go_simp; (try rfl); done)); (try simp only [Act.put, List.setIfInBounds_toArray, List.set_cons_zero, List.set_cons_succ]))
            | (refine take_in (i := 1) (v := undef) rfl (by kernel_rfl) (by kernel_rfl) (by kernel_rfl) (fun _ _ _ h => h) (Or.inr ⟨by rfl, rfl⟩) hHeld ?_; (try simp only [Act.put, List.setIfInBounds_toArray, List.set_cons_zero, List.set_cons_succ]))
          first
            | (refine take_in (i := 2) (v := ?_) rfl (by kernel_rfl) (by kernel_rfl) (by kernel_rfl) (fun _ _ _ h => h) (Or.inl ⟨by rfl, ?_⟩) hHeld ?_; rotate_left; (focus (intro w hSw; (try dsimp only at hSw); obtain hSw := hSw; go_simp; (try rfl); done)); (try simp only [Act.put, List.setIfInBounds_toArray, List.set_cons_zero, List.set_cons_succ]))
            | (refine take_in (i := 2) (v := undef) rfl (by kernel_rfl) (by kernel_rfl) (by kernel_rfl) (fun _ _ _ h => h) (Or.inr ⟨by rfl, rfl⟩) hHeld ?_; (try simp only [Act.put, List.setIfInBounds_toArray, List.set_cons_zero, List.set_cons_succ]))
          refine take_in (i := 3) (v := .agg cs.toArray) rfl (by kernel_rfl) (by kernel_rfl) (by kernel_rfl) (fun _ _ _ h => h) (yields_load (by rfl) 45 (.tmp 50) rfl ad rfl cs _ (fun _ h => HAt.out.below h) Try.underlying45 rfl (by rw [HRd.out.len]; rfl)) hHeld ?_
          (try simp only [Act.put, List.setIfInBounds_toArray, List.set_cons_zero, List.set_cons_succ])
          first
            | (refine take_in (i := 7) (v := ?_) rfl (by kernel_rfl) (by kernel_rfl) (by kernel_rfl) (fun _ _ _ h => h) (Or.inl ⟨by rfl, ?_⟩) hHeld ?_; rotate_left; (focus (intro w hSw; (try dsimp only at hSw); obtain hSw := hSw; go_simp; (try rfl); done)); (try simp only [Act.put, List.setIfInBounds_toArray, List.set_cons_zero, List.set_cons_succ]))
            | (refine take_in (i := 7) (v := undef) rfl (by kernel_rfl) (by kernel_rfl) (by kernel_rfl) (fun _ _ _ h => h) (Or.inr ⟨by rfl, rfl⟩) hHeld ?_; (try simp only [Act.put, List.setIfInBounds_toArray, List.set_cons_zero, List.set_cons_succ]))
          refine take_in (i := 8) rfl (by kernel_rfl) (by kernel_rfl) (by kernel_rfl) (fun _ _ _ h => h) (yields_slice (by rfl) 1 (.tmp 55) rfl rfl Try.underlying33 (e := 45) (size := 18) (by kernel_rfl) (by omega)) hHeld ?_
          (try simp only [Act.put, List.setIfInBounds_toArray, List.set_cons_zero, List.set_cons_succ])
          refine one_in (i := 4) rfl (by kernel_rfl) (fun K hK => ?_)
          go_simp
          refine (own_any _ ok y cs (HRd.out.below hHeld) hsx.1 hsx.2).mono ?_
          rintro e w1 ⟨cs', rfl, R1, hb1⟩
          have hb1w : Below wr.heap.size wr w1 := (Below.refl _ _).drew.trans hb1
          have hb1s := hb1w.size
          refine hK.out _ _ (hHeld.trans (hb1.mono hHeld.size)) (fun hHeld => ?_)
          (try simp only [Act.put, List.setIfInBounds_toArray, List.set_cons_zero, List.set_cons_succ])
          refine one_in (i := 5) rfl (by kernel_rfl) (fun K hK => ?_)
          rw [if_pos (by rfl)]
          refine wpo_lit1 (cs := cs') (.tmp 52) rfl rfl Try.underlying33 info_step rfl (by decide) (by decide) (by rw [R1.len]; rfl) ?_
          refine hK.out _ _ (hHeld.alloc hHeld.size _) (fun hHeld => ?_)
          (try simp only [Act.put, List.setIfInBounds_toArray, List.set_cons_zero, List.set_cons_succ])
          refine one_in (i := 6) rfl (by kernel_rfl) (fun K hK => ?_)
          rw [if_pos (by rfl)]
          refine wpo_appO (m := 1) (r := [y]) (ys := cs') (.tmp 48) (.tmp 53) rfl ((HO.out.below hb1w).below (below_alloc1 w1 _)) rfl (fun e => by cases e) (fun ad' e => by cases e; exact At.blk (heap_alloc_new w1 _)) (RdL.single (HO.out.apart (Nat.le_refl _) hbel.size R1 (below_alloc1 w1 _))) hHeld Try.underlying33 info_step rfl (by decide) rfl rfl (by rw [bytes_step]; omega) (by omega) hHeld.size ?_
          intro v2 w2 hO2 hb2 _ _
          refine hK.out _ _ hb2 (fun hHeld => ?_)
          (try simp only [Act.put, List.setIfInBounds_toArray, List.set_cons_zero, List.set_cons_succ])
          first
            | (refine take_in (i := 9) (v := ?_) rfl (by kernel_rfl) (by kernel_rfl) (by kernel_rfl) (fun _ _ _ h => h) (Or.inl ⟨by rfl, ?_⟩) hHeld ?_; rotate_left; (focus (intro w hSw; (try dsimp only at hSw); obtain hSw := hSw; go_simp; (try rfl); done)); (try simp only [Act.put, List.setIfInBounds_toArray, List.set_cons_zero, List.set_cons_succ]))
            | (refine take_in (i := 9) (v := undef) rfl (by kernel_rfl) (by kernel_rfl) (by kernel_rfl) (fun _ _ _ h => h) (Or.inr ⟨by rfl, rfl⟩) hHeld ?_; (try simp only [Act.put, List.setIfInBounds_toArray, List.set_cons_zero, List.set_cons_succ]))
          first
            | (refine take_in (i := 10) (v := ?_) rfl (by kernel_rfl) (by kernel_rfl) (by kernel_rfl) (fun _ _ _ h => h) (Or.inl ⟨by rfl, ?_⟩) hHeld ?_; rotate_left; (focus (intro w hSw; (try dsimp only at hSw); obtain hSw := hSw; go_simp; (try rfl); done)); (try simp only [Act.put, List.setIfInBounds_toArray, List.set_cons_zero, List.set_cons_succ]))
            | (refine take_in (i := 10) (v := undef) rfl (by kernel_rfl) (by kernel_rfl) (by kernel_rfl) (fun _ _ _ h => h) (Or.inr ⟨by rfl, rfl⟩) hHeld ?_; (try simp only [Act.put, List.setIfInBounds_toArray, List.set_cons_zero, List.set_cons_succ]))
          refine wpAnyH_done (by kernel_rfl) ?_ _
          obtain ⟨A2, c2, rfl, _⟩ := hO2.form
          have HO2 := Lib.hid hO2
          clear hO2
          go_wp2_with fail
          go_roundw
          case measure => simp [intOf]; omega
          case rel => exact ⟨out.length + 1, A', (if cb' = 1 then some ad else Option.map (fun x : Addr => x.add (1 * STEP.size)) (some ad)), ca', cb' - 1, [], b, _, out ++ [y], rfl, by simp [Sh.size, Addr.add], rfl, by go_num, HA.out, HB'.out, hAc, (by omega), hca', (by omega), HO2.out, hHeld, HN, (by simp), (by simp; omega), hSA, (fun z hz => hSB z (List.mem_cons_of_mem _ hz))⟩
    · by_cases hik : out.length < k
      · obtain ⟨fd, rfl⟩ : ∃ fd, F = some fd := by cases F with
          | none => exact absurd (hf.2.1 rfl) (by omega)
          | some fd => exact ⟨fd, rfl⟩
        obtain ⟨q, hq⟩ : ∃ q, f[out.length]? = some q := ⟨f[out.length]'(by have := hf.1; omega), List.getElem?_eq_getElem (by have := hf.1; omega)⟩
        obtain ⟨qc, _, hqa, hqr⟩ := hf.2.2 fd rfl out.length q hq
        obtain rfl : qc = [.bool q] := hqr
        have fc := cell_below hbel (hqa 0 _ rfl)
        simp only [Sh.size, Nat.mul_one, Nat.add_zero] at fc
        have hfq : f.getD out.length true = q := by rw [List.getD_eq_getElem?_getD, hq]; rfl
        have ik : (out.length : Int) < (k : Int) := by omega
        clear hqa hq
        rcases lb' with _ | ⟨y, b⟩
        · cases q with
          | true =>
            clear hfq
            obtain ⟨ad, rfl⟩ : ∃ ad, A' = some ad := by cases A' with
              | none => exact absurd (hA.2.1 rfl) (by simp)
              | some ad => exact ⟨ad, rfl⟩
            obtain ⟨cs, _, hat, hrd⟩ := hA.2.2 ad rfl 0 x rfl
            have hsx := hSA x List.mem_cons_self
            have HRd := Lib.hid hrd
            have HAt := Lib.hid (show At w ad 0 cs by rw [Nat.zero_mul] at hat; exact hat)
            have HA' := Lib.hid (hA.from_ hAc 1 (by simp))
            have HB := Lib.hid hB
            have HN := Lib.hid (show (out ++ [x]) ++ mixL f (out.length + 1) a [] = mixL f 0 la lb by rw [List.append_assoc]; have h := HM.out; rw [mixL_left] at h; exact h)
            have hO0 := hO
            obtain ⟨Ao, co, rfl, _⟩ := hO.form
            have HO := Lib.hid hO0
            clear hO hO0
            simp only [List.length_cons, List.length_nil] at hAc hBc hlen ⊢
            clear hA hB ha hb hf hrd hat
            go_wp2_with fail
            refine wp_region_held_drew (S := fun W => Below w.heap.size w W) (by kernel_rfl) hbel.drew (fun hHeld => ?_)
            first
              | (refine take_in (i := 0) (v := ?_) rfl (by kernel_rfl) (by kernel_rfl) (by kernel_rfl) (fun _ _ _ h => h) (Or.inl ⟨by rfl, ?_⟩) hHeld ?_; rotate_left; (focus (intro w hSw; (try dsimp only at hSw); obtain hSw := hSw; go_simp; (try rfl); done)); (try simp only [Act.put, List.setIfInBounds_toArray, List.set_cons_zero, List.set_cons_succ]))
              | (refine take_in (i := 0) (v := undef) rfl (by kernel_rfl) (by kernel_rfl) (by kernel_rfl) (fun _ _ _ h => h) (Or.inr ⟨by rfl, rfl⟩) hHeld ?_; (try simp only [Act.put, List.setIfInBounds_toArray, List.set_cons_zero, List.set_cons_succ]))
            first
              | (refine take_in (i := 1) (v := ?_) rfl (by kernel_rfl) (by kernel_rfl) (by kernel_rfl) (fun _ _ _ h => h) (Or.inl ⟨by rfl, ?_⟩) hHeld ?_; rotate_left; (focus (intro w hSw; (try dsimp only at hSw); obtain hSw := hSw; go_simp; (try rfl); done)); (try simp only [Act.put, List.setIfInBounds_toArray, List.set_cons_zero, List.set_cons_succ]))
              | (refine take_in (i := 1) (v := undef) rfl (by kernel_rfl) (by kernel_rfl) (by kernel_rfl) (fun _ _ _ h => h) (Or.inr ⟨by rfl, rfl⟩) hHeld ?_; (try simp only [Act.put, List.setIfInBounds_toArray, List.set_cons_zero, List.set_cons_succ]))
            first
              | (refine take_in (i := 2) (v := ?_) rfl (by kernel_rfl) (by kernel_rfl) (by kernel_rfl) (fun _ _ _ h => h) (Or.inl ⟨by rfl, ?_⟩) hHeld ?_; rotate_left; (focus (intro w hSw; (try dsimp only at hSw); obtain hSw := hSw; go_simp; (try rfl); done)); (try simp only [Act.put, List.setIfInBounds_toArray, List.set_cons_zero, List.set_cons_succ]))
              | (refine take_in (i := 2) (v := undef) rfl (by kernel_rfl) (by kernel_rfl) (by kernel_rfl) (fun _ _ _ h => h) (Or.inr ⟨by rfl, rfl⟩) hHeld ?_; (try simp only [Act.put, List.setIfInBounds_toArray, List.set_cons_zero, List.set_cons_succ]))
            refine take_in (i := 3) (v := .agg cs.toArray) rfl (by kernel_rfl) (by kernel_rfl) (by kernel_rfl) (fun _ _ _ h => h) (yields_load (by rfl) 45 (.tmp 41) rfl ad rfl cs _ (fun _ h => HAt.out.below h) Try.underlying45 rfl (by rw [HRd.out.len]; rfl)) hHeld ?_
            (try simp only [Act.put, List.setIfInBounds_toArray, List.set_cons_zero, List.set_cons_succ])
            first
              | (refine take_in (i := 7) (v := ?_) rfl (by kernel_rfl) (by kernel_rfl) (by kernel_rfl) (fun _ _ _ h => h) (Or.inl ⟨by rfl, ?_⟩) hHeld ?_; rotate_left; (focus (intro w hSw; (try dsimp only at hSw); obtain hSw := hSw; go_simp; (try rfl); done)); (try simp only [Act.put, List.setIfInBounds_toArray, List.set_cons_zero, List.set_cons_succ]))
              | (refine take_in (i := 7) (v := undef) rfl (by kernel_rfl) (by kernel_rfl) (by kernel_rfl) (fun _ _ _ h => h) (Or.inr ⟨by rfl, rfl⟩) hHeld ?_; (try simp only [Act.put, List.setIfInBounds_toArray, List.set_cons_zero, List.set_cons_succ]))
            refine take_in (i := 8) rfl (by kernel_rfl) (by kernel_rfl) (by kernel_rfl) (fun _ _ _ h => h) (yields_slice (by rfl) 1 (.tmp 46) rfl rfl Try.underlying33 (e := 45) (size := 18) (by kernel_rfl) (by omega)) hHeld ?_
            (try simp only [Act.put, List.setIfInBounds_toArray, List.set_cons_zero, List.set_cons_succ])
            refine one_in (i := 4) rfl (by kernel_rfl) (fun K hK => ?_)
            go_simp
            refine (own_any _ ok x cs (HRd.out.below hHeld) hsx.1 hsx.2).mono ?_
            rintro e w1 ⟨cs', rfl, R1, hb1⟩
            have hb1w : Below wr.heap.size wr w1 := (Below.refl _ _).drew.trans hb1
            have hb1s := hb1w.size
            refine hK.out _ _ (hHeld.trans (hb1.mono hHeld.size)) (fun hHeld => ?_)
            (try simp only [Act.put, List.setIfInBounds_toArray, List.set_cons_zero, List.set_cons_succ])
            refine one_in (i := 5) rfl (by kernel_rfl) (fun K hK => ?_)
            rw [if_pos (by rfl)]
            refine wpo_lit1 (cs := cs') (.tmp 43) rfl rfl Try.underlying33 info_step rfl (by decide) (by decide) (by rw [R1.len]; rfl) ?_
            refine hK.out _ _ (hHeld.alloc hHeld.size _) (fun hHeld => ?_)
            (try simp only [Act.put, List.setIfInBounds_toArray, List.set_cons_zero, List.set_cons_succ])
            refine one_in (i := 6) rfl (by kernel_rfl) (fun K hK => ?_)
            rw [if_pos (by rfl)]
            refine wpo_appO (m := 1) (r := [x]) (ys := cs') (.tmp 39) (.tmp 44) rfl ((HO.out.below hb1w).below (below_alloc1 w1 _)) rfl (fun e => by cases e) (fun ad' e => by cases e; exact At.blk (heap_alloc_new w1 _)) (RdL.single (HO.out.apart (Nat.le_refl _) hbel.size R1 (below_alloc1 w1 _))) hHeld Try.underlying33 info_step rfl (by decide) rfl rfl (by rw [bytes_step]; omega) (by omega) hHeld.size ?_
            intro v2 w2 hO2 hb2 _ _
            refine hK.out _ _ hb2 (fun hHeld => ?_)
            (try simp only [Act.put, List.setIfInBounds_toArray, List.set_cons_zero, List.set_cons_succ])
            first
              | (refine take_in (i := 9) (v := ?_) rfl (by kernel_rfl) (by kernel_rfl) (by kernel_rfl) (fun _ _ _ h => h) (Or.inl ⟨by rfl, ?_⟩) hHeld ?_; rotate_left; (focus (intro w hSw; (try dsimp only at hSw); obtain hSw := hSw; go_simp; (try rfl); done)); (try simp only [Act.put, List.setIfInBounds_toArray, List.set_cons_zero, List.set_cons_succ]))
              | (refine take_in (i := 9) (v := undef) rfl (by kernel_rfl) (by kernel_rfl) (by kernel_rfl) (fun _ _ _ h => h) (Or.inr ⟨by rfl, rfl⟩) hHeld ?_; (try simp only [Act.put, List.setIfInBounds_toArray, List.set_cons_zero, List.set_cons_succ]))
            first
              | (refine take_in (i := 10) (v := ?_) rfl (by kernel_rfl) (by kernel_rfl) (by kernel_rfl) (fun _ _ _ h => h) (Or.inl ⟨by rfl, ?_⟩) hHeld ?_; rotate_left; (focus (intro w hSw; (try dsimp only at hSw); obtain hSw := hSw; go_simp; (try rfl); done)); (try simp only [Act.put, List.setIfInBounds_toArray, List.set_cons_zero, List.set_cons_succ]))
              | (refine take_in (i := 10) (v := undef) rfl (by kernel_rfl) (by kernel_rfl) (by kernel_rfl) (fun _ _ _ h => h) (Or.inr ⟨by rfl, rfl⟩) hHeld ?_; (try simp only [Act.put, List.setIfInBounds_toArray, List.set_cons_zero, List.set_cons_succ]))
            refine wpAnyH_done (by kernel_rfl) ?_ _
            obtain ⟨A2, c2, rfl, _⟩ := hO2.form
            have HO2 := Lib.hid hO2
            clear hO2
            go_wp2_with fail
            go_roundw
            case measure => simp [intOf]; omega
            case rel => exact ⟨out.length + 1, (if ca' = 1 then some ad else Option.map (fun x : Addr => x.add (1 * STEP.size)) (some ad)), B', ca' - 1, cb', a, [], _, out ++ [x], by simp [Sh.size, Addr.add], rfl, rfl, by go_num, HA'.out, HB.out, (by omega), hBc, (by omega), hcb', HO2.out, hHeld, HN, (by simp), (by simp; omega), (fun z hz => hSA z (List.mem_cons_of_mem _ hz)), hSB⟩
          | false =>
            clear hfq
            obtain ⟨ad, rfl⟩ : ∃ ad, A' = some ad := by cases A' with
              | none => exact absurd (hA.2.1 rfl) (by simp)
              | some ad => exact ⟨ad, rfl⟩
            obtain ⟨cs, _, hat, hrd⟩ := hA.2.2 ad rfl 0 x rfl
            have hsx := hSA x List.mem_cons_self
            have HRd := Lib.hid hrd
            have HAt := Lib.hid (show At w ad 0 cs by rw [Nat.zero_mul] at hat; exact hat)
            have HA' := Lib.hid (hA.from_ hAc 1 (by simp))
            have HB := Lib.hid hB
            have HN := Lib.hid (show (out ++ [x]) ++ mixL f (out.length + 1) a [] = mixL f 0 la lb by rw [List.append_assoc]; have h := HM.out; rw [mixL_left] at h; exact h)
            have hO0 := hO
            obtain ⟨Ao, co, rfl, _⟩ := hO.form
            have HO := Lib.hid hO0
            clear hO hO0
            simp only [List.length_cons, List.length_nil] at hAc hBc hlen ⊢
            clear hA hB ha hb hf hrd hat
            go_wp2_with fail
            refine wp_region_held_drew (S := fun W => Below w.heap.size w W) (by kernel_rfl) hbel.drew (fun hHeld => ?_)
            first
              | (refine take_in (i := 0) (v := ?_) rfl (by kernel_rfl) (by kernel_rfl) (by kernel_rfl) (fun _ _ _ h => h) (Or.inl ⟨by rfl, ?_⟩) hHeld ?_; rotate_left; (focus (intro w hSw; (try dsimp only at hSw); obtain hSw := hSw; go_simp; (try rfl); done)); (try simp only [Act.put, List.setIfInBounds_toArray, List.set_cons_zero, List.set_cons_succ]))
              | (refine take_in (i := 0) (v := undef) rfl (by kernel_rfl) (by kernel_rfl) (by kernel_rfl) (fun _ _ _ h => h) (Or.inr ⟨by rfl, rfl⟩) hHeld ?_; (try simp only [Act.put, List.setIfInBounds_toArray, List.set_cons_zero, List.set_cons_succ]))
            first
              | (refine take_in (i := 1) (v := ?_) rfl (by kernel_rfl) (by kernel_rfl) (by kernel_rfl) (fun _ _ _ h => h) (Or.inl ⟨by rfl, ?_⟩) hHeld ?_; rotate_left; (focus (intro w hSw; (try dsimp only at hSw); obtain hSw := hSw; go_simp; (try rfl); done)); (try simp only [Act.put, List.setIfInBounds_toArray, List.set_cons_zero, List.set_cons_succ]))
              | (refine take_in (i := 1) (v := undef) rfl (by kernel_rfl) (by kernel_rfl) (by kernel_rfl) (fun _ _ _ h => h) (Or.inr ⟨by rfl, rfl⟩) hHeld ?_; (try simp only [Act.put, List.setIfInBounds_toArray, List.set_cons_zero, List.set_cons_succ]))
            first
              | (refine take_in (i := 2) (v := ?_) rfl (by kernel_rfl) (by kernel_rfl) (by kernel_rfl) (fun _ _ _ h => h) (Or.inl ⟨by rfl, ?_⟩) hHeld ?_; rotate_left; (focus (intro w hSw; (try dsimp only at hSw); obtain hSw := hSw; go_simp; (try rfl); done)); (try simp only [Act.put, List.setIfInBounds_toArray, List.set_cons_zero, List.set_cons_succ]))
              | (refine take_in (i := 2) (v := undef) rfl (by kernel_rfl) (by kernel_rfl) (by kernel_rfl) (fun _ _ _ h => h) (Or.inr ⟨by rfl, rfl⟩) hHeld ?_; (try simp only [Act.put, List.setIfInBounds_toArray, List.set_cons_zero, List.set_cons_succ]))
            refine take_in (i := 3) (v := .agg cs.toArray) rfl (by kernel_rfl) (by kernel_rfl) (by kernel_rfl) (fun _ _ _ h => h) (yields_load (by rfl) 45 (.tmp 41) rfl ad rfl cs _ (fun _ h => HAt.out.below h) Try.underlying45 rfl (by rw [HRd.out.len]; rfl)) hHeld ?_
            (try simp only [Act.put, List.setIfInBounds_toArray, List.set_cons_zero, List.set_cons_succ])
            first
              | (refine take_in (i := 7) (v := ?_) rfl (by kernel_rfl) (by kernel_rfl) (by kernel_rfl) (fun _ _ _ h => h) (Or.inl ⟨by rfl, ?_⟩) hHeld ?_; rotate_left; (focus (intro w hSw; (try dsimp only at hSw); obtain hSw := hSw; go_simp; (try rfl); done)); (try simp only [Act.put, List.setIfInBounds_toArray, List.set_cons_zero, List.set_cons_succ]))
              | (refine take_in (i := 7) (v := undef) rfl (by kernel_rfl) (by kernel_rfl) (by kernel_rfl) (fun _ _ _ h => h) (Or.inr ⟨by rfl, rfl⟩) hHeld ?_; (try simp only [Act.put, List.setIfInBounds_toArray, List.set_cons_zero, List.set_cons_succ]))
            refine take_in (i := 8) rfl (by kernel_rfl) (by kernel_rfl) (by kernel_rfl) (fun _ _ _ h => h) (yields_slice (by rfl) 1 (.tmp 46) rfl rfl Try.underlying33 (e := 45) (size := 18) (by kernel_rfl) (by omega)) hHeld ?_
            (try simp only [Act.put, List.setIfInBounds_toArray, List.set_cons_zero, List.set_cons_succ])
            refine one_in (i := 4) rfl (by kernel_rfl) (fun K hK => ?_)
            go_simp
            refine (own_any _ ok x cs (HRd.out.below hHeld) hsx.1 hsx.2).mono ?_
            rintro e w1 ⟨cs', rfl, R1, hb1⟩
            have hb1w : Below wr.heap.size wr w1 := (Below.refl _ _).drew.trans hb1
            have hb1s := hb1w.size
            refine hK.out _ _ (hHeld.trans (hb1.mono hHeld.size)) (fun hHeld => ?_)
            (try simp only [Act.put, List.setIfInBounds_toArray, List.set_cons_zero, List.set_cons_succ])
            refine one_in (i := 5) rfl (by kernel_rfl) (fun K hK => ?_)
            rw [if_pos (by rfl)]
            refine wpo_lit1 (cs := cs') (.tmp 43) rfl rfl Try.underlying33 info_step rfl (by decide) (by decide) (by rw [R1.len]; rfl) ?_
            refine hK.out _ _ (hHeld.alloc hHeld.size _) (fun hHeld => ?_)
            (try simp only [Act.put, List.setIfInBounds_toArray, List.set_cons_zero, List.set_cons_succ])
            refine one_in (i := 6) rfl (by kernel_rfl) (fun K hK => ?_)
            rw [if_pos (by rfl)]
            refine wpo_appO (m := 1) (r := [x]) (ys := cs') (.tmp 39) (.tmp 44) rfl ((HO.out.below hb1w).below (below_alloc1 w1 _)) rfl (fun e => by cases e) (fun ad' e => by cases e; exact At.blk (heap_alloc_new w1 _)) (RdL.single (HO.out.apart (Nat.le_refl _) hbel.size R1 (below_alloc1 w1 _))) hHeld Try.underlying33 info_step rfl (by decide) rfl rfl (by rw [bytes_step]; omega) (by omega) hHeld.size ?_
            intro v2 w2 hO2 hb2 _ _
            refine hK.out _ _ hb2 (fun hHeld => ?_)
            (try simp only [Act.put, List.setIfInBounds_toArray, List.set_cons_zero, List.set_cons_succ])
            first
              | (refine take_in (i := 9) (v := ?_) rfl (by kernel_rfl) (by kernel_rfl) (by kernel_rfl) (fun _ _ _ h => h) (Or.inl ⟨by rfl, ?_⟩) hHeld ?_; rotate_left; (focus (intro w hSw; (try dsimp only at hSw); obtain hSw := hSw; go_simp; (try rfl); done)); (try simp only [Act.put, List.setIfInBounds_toArray, List.set_cons_zero, List.set_cons_succ]))
              | (refine take_in (i := 9) (v := undef) rfl (by kernel_rfl) (by kernel_rfl) (by kernel_rfl) (fun _ _ _ h => h) (Or.inr ⟨by rfl, rfl⟩) hHeld ?_; (try simp only [Act.put, List.setIfInBounds_toArray, List.set_cons_zero, List.set_cons_succ]))
            first
              | (refine take_in (i := 10) (v := ?_) rfl (by kernel_rfl) (by kernel_rfl) (by kernel_rfl) (fun _ _ _ h => h) (Or.inl ⟨by rfl, ?_⟩) hHeld ?_; rotate_left; (focus (intro w hSw; (try dsimp only at hSw); obtain hSw := hSw; go_simp; (try rfl); done)); (try simp only [Act.put, List.setIfInBounds_toArray, List.set_cons_zero, List.set_cons_succ]))
              | (refine take_in (i := 10) (v := undef) rfl (by kernel_rfl) (by kernel_rfl) (by kernel_rfl) (fun _ _ _ h => h) (Or.inr ⟨by rfl, rfl⟩) hHeld ?_; (try simp only [Act.put, List.setIfInBounds_toArray, List.set_cons_zero, List.set_cons_succ]))
            refine wpAnyH_done (by kernel_rfl) ?_ _
            obtain ⟨A2, c2, rfl, _⟩ := hO2.form
            have HO2 := Lib.hid hO2
            clear hO2
            go_wp2_with fail
            go_roundw
            case measure => simp [intOf]; omega
            case rel => exact ⟨out.length + 1, (if ca' = 1 then some ad else Option.map (fun x : Addr => x.add (1 * STEP.size)) (some ad)), B', ca' - 1, cb', a, [], _, out ++ [x], by simp [Sh.size, Addr.add], rfl, rfl, by go_num, HA'.out, HB.out, (by omega), hBc, (by omega), hcb', HO2.out, hHeld, HN, (by simp), (by simp; omega), (fun z hz => hSA z (List.mem_cons_of_mem _ hz)), hSB⟩
        · cases q with
          | true =>
            have HQ := Lib.hid hfq
            clear hfq
            obtain ⟨ad, rfl⟩ : ∃ ad, A' = some ad := by cases A' with
              | none => exact absurd (hA.2.1 rfl) (by simp)
              | some ad => exact ⟨ad, rfl⟩
            obtain ⟨cs, _, hat, hrd⟩ := hA.2.2 ad rfl 0 x rfl
            have hsx := hSA x List.mem_cons_self
            have HRd := Lib.hid hrd
            have HAt := Lib.hid (show At w ad 0 cs by rw [Nat.zero_mul] at hat; exact hat)
            have HA' := Lib.hid (hA.from_ hAc 1 (by simp))
            have HB := Lib.hid hB
            have HN := Lib.hid (show (out ++ [x]) ++ mixL f (out.length + 1) a (y :: b) = mixL f 0 la lb by rw [List.append_assoc]; have h := HM.out; rw [mixL_first _ _ _ _ HQ.out] at h; exact h)
            have hO0 := hO
            obtain ⟨Ao, co, rfl, _⟩ := hO.form
            have HO := Lib.hid hO0
            clear hO hO0
            simp only [List.length_cons, List.length_nil] at hAc hBc hlen ⊢
            clear hA hB ha hb hf hrd hat
            go_wp2_with fail
            refine wp_region_held_drew (S := fun W => Below w.heap.size w W) (by kernel_rfl) hbel.drew (fun hHeld => ?_)
            first
              | (refine take_in (i := 0) (v := ?_) rfl (by kernel_rfl) (by kernel_rfl) (by kernel_rfl) (fun _ _ _ h => h) (Or.inl ⟨by rfl, ?_⟩) hHeld ?_; rotate_left; (focus (intro w hSw; (try dsimp only at hSw); obtain hSw := hSw; go_simp; (try rfl); done)); (try simp only [Act.put, List.setIfInBounds_toArray, List.set_cons_zero, List.set_cons_succ]))
              | (refine take_in (i := 0) (v := undef) rfl (by kernel_rfl) (by kernel_rfl) (by kernel_rfl) (fun _ _ _ h => h) (Or.inr ⟨by rfl, rfl⟩) hHeld ?_; (try simp only [Act.put, List.setIfInBounds_toArray, List.set_cons_zero, List.set_cons_succ]))
            first
              | (refine take_in (i := 1) (v := ?_) rfl (by kernel_rfl) (by kernel_rfl) (by kernel_rfl) (fun _ _ _ h => h) (Or.inl ⟨by rfl, ?_⟩) hHeld ?_; rotate_left; (focus (intro w hSw; (try dsimp only at hSw); obtain hSw := hSw; go_simp; (try rfl); done)); (try simp only [Act.put, List.setIfInBounds_toArray, List.set_cons_zero, List.set_cons_succ]))
              | (refine take_in (i := 1) (v := undef) rfl (by kernel_rfl) (by kernel_rfl) (by kernel_rfl) (fun _ _ _ h => h) (Or.inr ⟨by rfl, rfl⟩) hHeld ?_; (try simp only [Act.put, List.setIfInBounds_toArray, List.set_cons_zero, List.set_cons_succ]))
            first
              | (refine take_in (i := 2) (v := ?_) rfl (by kernel_rfl) (by kernel_rfl) (by kernel_rfl) (fun _ _ _ h => h) (Or.inl ⟨by rfl, ?_⟩) hHeld ?_; rotate_left; (focus (intro w hSw; (try dsimp only at hSw); obtain hSw := hSw; go_simp; (try rfl); done)); (try simp only [Act.put, List.setIfInBounds_toArray, List.set_cons_zero, List.set_cons_succ]))
              | (refine take_in (i := 2) (v := undef) rfl (by kernel_rfl) (by kernel_rfl) (by kernel_rfl) (fun _ _ _ h => h) (Or.inr ⟨by rfl, rfl⟩) hHeld ?_; (try simp only [Act.put, List.setIfInBounds_toArray, List.set_cons_zero, List.set_cons_succ]))
            refine take_in (i := 3) (v := .agg cs.toArray) rfl (by kernel_rfl) (by kernel_rfl) (by kernel_rfl) (fun _ _ _ h => h) (yields_load (by rfl) 45 (.tmp 41) rfl ad rfl cs _ (fun _ h => HAt.out.below h) Try.underlying45 rfl (by rw [HRd.out.len]; rfl)) hHeld ?_
            (try simp only [Act.put, List.setIfInBounds_toArray, List.set_cons_zero, List.set_cons_succ])
            first
              | (refine take_in (i := 7) (v := ?_) rfl (by kernel_rfl) (by kernel_rfl) (by kernel_rfl) (fun _ _ _ h => h) (Or.inl ⟨by rfl, ?_⟩) hHeld ?_; rotate_left; (focus (intro w hSw; (try dsimp only at hSw); obtain hSw := hSw; go_simp; (try rfl); done)); (try simp only [Act.put, List.setIfInBounds_toArray, List.set_cons_zero, List.set_cons_succ]))
              | (refine take_in (i := 7) (v := undef) rfl (by kernel_rfl) (by kernel_rfl) (by kernel_rfl) (fun _ _ _ h => h) (Or.inr ⟨by rfl, rfl⟩) hHeld ?_; (try simp only [Act.put, List.setIfInBounds_toArray, List.set_cons_zero, List.set_cons_succ]))
            refine take_in (i := 8) rfl (by kernel_rfl) (by kernel_rfl) (by kernel_rfl) (fun _ _ _ h => h) (yields_slice (by rfl) 1 (.tmp 46) rfl rfl Try.underlying33 (e := 45) (size := 18) (by kernel_rfl) (by omega)) hHeld ?_
            (try simp only [Act.put, List.setIfInBounds_toArray, List.set_cons_zero, List.set_cons_succ])
            refine one_in (i := 4) rfl (by kernel_rfl) (fun K hK => ?_)
            go_simp
            refine (own_any _ ok x cs (HRd.out.below hHeld) hsx.1 hsx.2).mono ?_
            rintro e w1 ⟨cs', rfl, R1, hb1⟩
            have hb1w : Below wr.heap.size wr w1 := (Below.refl _ _).drew.trans hb1
            have hb1s := hb1w.size
            refine hK.out _ _ (hHeld.trans (hb1.mono hHeld.size)) (fun hHeld => ?_)
            (try simp only [Act.put, List.setIfInBounds_toArray, List.set_cons_zero, List.set_cons_succ])
            refine one_in (i := 5) rfl (by kernel_rfl) (fun K hK => ?_)
            rw [if_pos (by rfl)]
            refine wpo_lit1 (cs := cs') (.tmp 43) rfl rfl Try.underlying33 info_step rfl (by decide) (by decide) (by rw [R1.len]; rfl) ?_
            refine hK.out _ _ (hHeld.alloc hHeld.size _) (fun hHeld => ?_)
            (try simp only [Act.put, List.setIfInBounds_toArray, List.set_cons_zero, List.set_cons_succ])
            refine one_in (i := 6) rfl (by kernel_rfl) (fun K hK => ?_)
            rw [if_pos (by rfl)]
            refine wpo_appO (m := 1) (r := [x]) (ys := cs') (.tmp 39) (.tmp 44) rfl ((HO.out.below hb1w).below (below_alloc1 w1 _)) rfl (fun e => by cases e) (fun ad' e => by cases e; exact At.blk (heap_alloc_new w1 _)) (RdL.single (HO.out.apart (Nat.le_refl _) hbel.size R1 (below_alloc1 w1 _))) hHeld Try.underlying33 info_step rfl (by decide) rfl rfl (by rw [bytes_step]; omega) (by omega) hHeld.size ?_
            intro v2 w2 hO2 hb2 _ _
            refine hK.out _ _ hb2 (fun hHeld => ?_)
            (try simp only [Act.put, List.setIfInBounds_toArray, List.set_cons_zero, List.set_cons_succ])
            first
              | (refine take_in (i := 9) (v := ?_) rfl (by kernel_rfl) (by kernel_rfl) (by kernel_rfl) (fun _ _ _ h => h) (Or.inl ⟨by rfl, ?_⟩) hHeld ?_; rotate_left; (focus (intro w hSw; (try dsimp only at hSw); obtain hSw := hSw; go_simp; (try rfl); done)); (try simp only [Act.put, List.setIfInBounds_toArray, List.set_cons_zero, List.set_cons_succ]))
              | (refine take_in (i := 9) (v := undef) rfl (by kernel_rfl) (by kernel_rfl) (by kernel_rfl) (fun _ _ _ h => h) (Or.inr ⟨by rfl, rfl⟩) hHeld ?_; (try simp only [Act.put, List.setIfInBounds_toArray, List.set_cons_zero, List.set_cons_succ]))
            first
              | (refine take_in (i := 10) (v := ?_) rfl (by kernel_rfl) (by kernel_rfl) (by kernel_rfl) (fun _ _ _ h => h) (Or.inl ⟨by rfl, ?_⟩) hHeld ?_; rotate_left; (focus (intro w hSw; (try dsimp only at hSw); obtain hSw := hSw; go_simp; (try rfl); done)); (try simp only [Act.put, List.setIfInBounds_toArray, List.set_cons_zero, List.set_cons_succ]))
              | (refine take_in (i := 10) (v := undef) rfl (by kernel_rfl) (by kernel_rfl) (by kernel_rfl) (fun _ _ _ h => h) (Or.inr ⟨by rfl, rfl⟩) hHeld ?_; (try simp only [Act.put, List.setIfInBounds_toArray, List.set_cons_zero, List.set_cons_succ]))
            refine wpAnyH_done (by kernel_rfl) ?_ _
            obtain ⟨A2, c2, rfl, _⟩ := hO2.form
            have HO2 := Lib.hid hO2
            clear hO2
            go_wp2_with fail
            go_roundw
            case measure => simp [intOf]; omega
            case rel => exact ⟨out.length + 1, (if ca' = 1 then some ad else Option.map (fun x : Addr => x.add (1 * STEP.size)) (some ad)), B', ca' - 1, cb', a, (y :: b), _, out ++ [x], by simp [Sh.size, Addr.add], rfl, rfl, by go_num, HA'.out, HB.out, (by omega), hBc, (by omega), hcb', HO2.out, hHeld, HN, (by simp), (by simp; omega), (fun z hz => hSA z (List.mem_cons_of_mem _ hz)), hSB⟩
          | false =>
            have HQ := Lib.hid hfq
            clear hfq
            obtain ⟨ad, rfl⟩ : ∃ ad, B' = some ad := by cases B' with
              | none => exact absurd (hB.2.1 rfl) (by simp)
              | some ad => exact ⟨ad, rfl⟩
            obtain ⟨cs, _, hat, hrd⟩ := hB.2.2 ad rfl 0 y rfl
            have hsx := hSB y List.mem_cons_self
            have HRd := Lib.hid hrd
            have HAt := Lib.hid (show At w ad 0 cs by rw [Nat.zero_mul] at hat; exact hat)
            have HB' := Lib.hid (hB.from_ hBc 1 (by simp))
            have HA := Lib.hid hA
            have HN := Lib.hid (show (out ++ [y]) ++ mixL f (out.length + 1) (x :: a) b = mixL f 0 la lb by rw [List.append_assoc]; have h := HM.out; rw [mixL_second _ _ _ _ HQ.out] at h; exact h)
            have hO0 := hO
            obtain ⟨Ao, co, rfl, _⟩ := hO.form
            have HO := Lib.hid hO0
            clear hO hO0
            simp only [List.length_cons, List.length_nil] at hAc hBc hlen ⊢
            clear hA hB ha hb hf hrd hat
            go_wp2_with fail
            refine wp_region_held_drew (S := fun W => Below w.heap.size w W) (by kernel_rfl) hbel.drew (fun hHeld => ?_)
            first
              | (refine take_in (i := 0) (v := ?_) rfl (by kernel_rfl) (by kernel_rfl) (by kernel_rfl) (fun _ _ _ h => h) (Or.inl ⟨by rfl, ?_⟩) hHeld ?_; rotate_left; (focus (intro w hSw; (try dsimp only at hSw); obtain hSw := hSw; go_simp; (try rfl); done)); (try simp only [Act.put, List.setIfInBounds_toArray, List.set_cons_zero, List.set_cons_succ]))
              | (refine take_in (i := 0) (v := undef) rfl (by kernel_rfl) (by kernel_rfl) (by kernel_rfl) (fun _ _ _ h => h) (Or.inr ⟨by rfl, rfl⟩) hHeld ?_; (try simp only [Act.put, List.setIfInBounds_toArray, List.set_cons_zero, List.set_cons_succ]))
            first
              | (refine take_in (i := 1) (v := ?_) rfl (by kernel_rfl) (by kernel_rfl) (by kernel_rfl) (fun _ _ _ h => h) (Or.inl ⟨by rfl, ?_⟩) hHeld ?_; rotate_left; (focus (intro w hSw; (try dsimp only at hSw); obtain hSw := hSw; go_simp; (try rfl); done)); (try simp only [Act.put, List.setIfInBounds_toArray, List.set_cons_zero, List.set_cons_succ]))
              | (refine take_in (i := 1) (v := undef) rfl (by kernel_rfl) (by kernel_rfl) (by kernel_rfl) (fun _ _ _ h => h) (Or.inr ⟨by rfl, rfl⟩) hHeld ?_; (try simp only [Act.put, List.setIfInBounds_toArray, List.set_cons_zero, List.set_cons_succ]))
            first
              | (refine take_in (i := 2) (v := ?_) rfl (by kernel_rfl) (by kernel_rfl) (by kernel_rfl) (fun _ _ _ h => h) (Or.inl ⟨by rfl, ?_⟩) hHeld ?_; rotate_left; (focus (intro w hSw; (try dsimp only at hSw); obtain hSw := hSw; go_simp; (try rfl); done)); (try simp only [Act.put, List.setIfInBounds_toArray, List.set_cons_zero, List.set_cons_succ]))
              | (refine take_in (i := 2) (v := undef) rfl (by kernel_rfl) (by kernel_rfl) (by kernel_rfl) (fun _ _ _ h => h) (Or.inr ⟨by rfl, rfl⟩) hHeld ?_; (try simp only [Act.put, List.setIfInBounds_toArray, List.set_cons_zero, List.set_cons_succ]))
            refine take_in (i := 3) (v := .agg cs.toArray) rfl (by kernel_rfl) (by kernel_rfl) (by kernel_rfl) (fun _ _ _ h => h) (yields_load (by rfl) 45 (.tmp 50) rfl ad rfl cs _ (fun _ h => HAt.out.below h) Try.underlying45 rfl (by rw [HRd.out.len]; rfl)) hHeld ?_
            (try simp only [Act.put, List.setIfInBounds_toArray, List.set_cons_zero, List.set_cons_succ])
            first
              | (refine take_in (i := 7) (v := ?_) rfl (by kernel_rfl) (by kernel_rfl) (by kernel_rfl) (fun _ _ _ h => h) (Or.inl ⟨by rfl, ?_⟩) hHeld ?_; rotate_left; (focus (intro w hSw; (try dsimp only at hSw); obtain hSw := hSw; go_simp; (try rfl); done)); (try simp only [Act.put, List.setIfInBounds_toArray, List.set_cons_zero, List.set_cons_succ]))
              | (refine take_in (i := 7) (v := undef) rfl (by kernel_rfl) (by kernel_rfl) (by kernel_rfl) (fun _ _ _ h => h) (Or.inr ⟨by rfl, rfl⟩) hHeld ?_; (try simp only [Act.put, List.setIfInBounds_toArray, List.set_cons_zero, List.set_cons_succ]))
            refine take_in (i := 8) rfl (by kernel_rfl) (by kernel_rfl) (by kernel_rfl) (fun _ _ _ h => h) (yields_slice (by rfl) 1 (.tmp 55) rfl rfl Try.underlying33 (e := 45) (size := 18) (by kernel_rfl) (by omega)) hHeld ?_
            (try simp only [Act.put, List.setIfInBounds_toArray, List.set_cons_zero, List.set_cons_succ])
            refine one_in (i := 4) rfl (by kernel_rfl) (fun K hK => ?_)
            go_simp
            refine (own_any _ ok y cs (HRd.out.below hHeld) hsx.1 hsx.2).mono ?_
            rintro e w1 ⟨cs', rfl, R1, hb1⟩
            have hb1w : Below wr.heap.size wr w1 := (Below.refl _ _).drew.trans hb1
            have hb1s := hb1w.size
            refine hK.out _ _ (hHeld.trans (hb1.mono hHeld.size)) (fun hHeld => ?_)
            (try simp only [Act.put, List.setIfInBounds_toArray, List.set_cons_zero, List.set_cons_succ])
            refine one_in (i := 5) rfl (by kernel_rfl) (fun K hK => ?_)
            rw [if_pos (by rfl)]
            refine wpo_lit1 (cs := cs') (.tmp 52) rfl rfl Try.underlying33 info_step rfl (by decide) (by decide) (by rw [R1.len]; rfl) ?_
            refine hK.out _ _ (hHeld.alloc hHeld.size _) (fun hHeld => ?_)
            (try simp only [Act.put, List.setIfInBounds_toArray, List.set_cons_zero, List.set_cons_succ])
            refine one_in (i := 6) rfl (by kernel_rfl) (fun K hK => ?_)
            rw [if_pos (by rfl)]
            refine wpo_appO (m := 1) (r := [y]) (ys := cs') (.tmp 48) (.tmp 53) rfl ((HO.out.below hb1w).below (below_alloc1 w1 _)) rfl (fun e => by cases e) (fun ad' e => by cases e; exact At.blk (heap_alloc_new w1 _)) (RdL.single (HO.out.apart (Nat.le_refl _) hbel.size R1 (below_alloc1 w1 _))) hHeld Try.underlying33 info_step rfl (by decide) rfl rfl (by rw [bytes_step]; omega) (by omega) hHeld.size ?_
            intro v2 w2 hO2 hb2 _ _
            refine hK.out _ _ hb2 (fun hHeld => ?_)
            (try simp only [Act.put, List.setIfInBounds_toArray, List.set_cons_zero, List.set_cons_succ])
            first
              | (refine take_in (i := 9) (v := ?_) rfl (by kernel_rfl) (by kernel_rfl) (by kernel_rfl) (fun _ _ _ h => h) (Or.inl ⟨by rfl, ?_⟩) hHeld ?_; rotate_left; (focus (intro w hSw; (try dsimp only at hSw); obtain hSw := hSw; go_simp; (try rfl); done)); (try simp only [Act.put, List.setIfInBounds_toArray, List.set_cons_zero, List.set_cons_succ]))
              | (refine take_in (i := 9) (v := undef) rfl (by kernel_rfl) (by kernel_rfl) (by kernel_rfl) (fun _ _ _ h => h) (Or.inr ⟨by rfl, rfl⟩) hHeld ?_; (try simp only [Act.put, List.setIfInBounds_toArray, List.set_cons_zero, List.set_cons_succ]))
            first
              | (refine take_in (i := 10) (v := ?_) rfl (by kernel_rfl) (by kernel_rfl) (by kernel_rfl) (fun _ _ _ h => h) (Or.inl ⟨by rfl, ?_⟩) hHeld ?_; rotate_left; (focus (intro w hSw; (try dsimp only at hSw); obtain hSw := hSw; go_simp; (try rfl); done)); (try simp only [Act.put, List.setIfInBounds_toArray, List.set_cons_zero, List.set_cons_succ]))
              | (refine take_in (i := 10) (v := undef) rfl (by kernel_rfl) (by kernel_rfl) (by kernel_rfl) (fun _ _ _ h => h) (Or.inr ⟨by rfl, rfl⟩) hHeld ?_; (try simp only [Act.put, List.setIfInBounds_toArray, List.set_cons_zero, List.set_cons_succ]))
            refine wpAnyH_done (by kernel_rfl) ?_ _
            obtain ⟨A2, c2, rfl, _⟩ := hO2.form
            have HO2 := Lib.hid hO2
            clear hO2
            go_wp2_with fail
            go_roundw
            case measure => simp [intOf]; omega
            case rel => exact ⟨out.length + 1, A', (if cb' = 1 then some ad else Option.map (fun x : Addr => x.add (1 * STEP.size)) (some ad)), ca', cb' - 1, (x :: a), b, _, out ++ [y], rfl, by simp [Sh.size, Addr.add], rfl, by go_num, HA.out, HB'.out, hAc, (by omega), hca', (by omega), HO2.out, hHeld, HN, (by simp), (by simp; omega), hSA, (fun z hz => hSB z (List.mem_cons_of_mem _ hz))⟩
      · have hki : (k : Int) ≤ (out.length : Int) := by omega
        rcases lb' with _ | ⟨y, b⟩
        · obtain ⟨ad, rfl⟩ : ∃ ad, A' = some ad := by cases A' with
            | none => exact absurd (hA.2.1 rfl) (by simp)
            | some ad => exact ⟨ad, rfl⟩
          obtain ⟨cs, _, hat, hrd⟩ := hA.2.2 ad rfl 0 x rfl
          have hsx := hSA x List.mem_cons_self
          have HRd := Lib.hid hrd
          have HAt := Lib.hid (show At w ad 0 cs by rw [Nat.zero_mul] at hat; exact hat)
          have HA' := Lib.hid (hA.from_ hAc 1 (by simp))
          have HB := Lib.hid hB
          have HN := Lib.hid (show (out ++ [x]) ++ mixL f (out.length + 1) a [] = mixL f 0 la lb by rw [List.append_assoc]; have h := HM.out; rw [mixL_left] at h; exact h)
          have hO0 := hO
          obtain ⟨Ao, co, rfl, _⟩ := hO.form
          have HO := Lib.hid hO0
          clear hO hO0
          simp only [List.length_cons, List.length_nil] at hAc hBc hlen ⊢
          clear hA hB ha hb hf hrd hat
          go_wp2_with fail
          refine wp_region_held_drew (S := fun W => Below w.heap.size w W) (by kernel_rfl) hbel.drew (fun hHeld => ?_)
          first
            | (refine take_in (i := 0) (v := ?_) rfl (by kernel_rfl) (by kernel_rfl) (by kernel_rfl) (fun _ _ _ h => h) (Or.inl ⟨by rfl, ?_⟩) hHeld ?_; rotate_left; (focus (intro w hSw; (try dsimp only at hSw); obtain hSw := hSw; go_simp; (try rfl); done)); (try simp only [Act.put, List.setIfInBounds_toArray, List.set_cons_zero, List.set_cons_succ]))
            | (refine take_in (i := 0) (v := undef) rfl (by kernel_rfl) (by kernel_rfl) (by kernel_rfl) (fun _ _ _ h => h) (Or.inr ⟨by rfl, rfl⟩) hHeld ?_; (try simp only [Act.put, List.setIfInBounds_toArray, List.set_cons_zero, List.set_cons_succ]))
          first
            | (refine take_in (i := 1) (v := ?_) rfl (by kernel_rfl) (by kernel_rfl) (by kernel_rfl) (fun _ _ _ h => h) (Or.inl ⟨by rfl, ?_⟩) hHeld ?_; rotate_left; (focus (intro w hSw; (try dsimp only at hSw); obtain hSw := hSw; go_simp; (try rfl); done)); (try simp only [Act.put, List.setIfInBounds_toArray, List.set_cons_zero, List.set_cons_succ]))
            | (refine take_in (i := 1) (v := undef) rfl (by kernel_rfl) (by kernel_rfl) (by kernel_rfl) (fun _ _ _ h => h) (Or.inr ⟨by rfl, rfl⟩) hHeld ?_; (try simp only [Act.put, List.setIfInBounds_toArray, List.set_cons_zero, List.set_cons_succ]))
          first
            | (refine take_in (i := 2) (v := ?_) rfl (by kernel_rfl) (by kernel_rfl) (by kernel_rfl) (fun _ _ _ h => h) (Or.inl ⟨by rfl, ?_⟩) hHeld ?_; rotate_left; (focus (intro w hSw; (try dsimp only at hSw); obtain hSw := hSw; go_simp; (try rfl); done)); (try simp only [Act.put, List.setIfInBounds_toArray, List.set_cons_zero, List.set_cons_succ]))
            | (refine take_in (i := 2) (v := undef) rfl (by kernel_rfl) (by kernel_rfl) (by kernel_rfl) (fun _ _ _ h => h) (Or.inr ⟨by rfl, rfl⟩) hHeld ?_; (try simp only [Act.put, List.setIfInBounds_toArray, List.set_cons_zero, List.set_cons_succ]))
          refine take_in (i := 3) (v := .agg cs.toArray) rfl (by kernel_rfl) (by kernel_rfl) (by kernel_rfl) (fun _ _ _ h => h) (yields_load (by rfl) 45 (.tmp 41) rfl ad rfl cs _ (fun _ h => HAt.out.below h) Try.underlying45 rfl (by rw [HRd.out.len]; rfl)) hHeld ?_
          (try simp only [Act.put, List.setIfInBounds_toArray, List.set_cons_zero, List.set_cons_succ])
          first
            | (refine take_in (i := 7) (v := ?_) rfl (by kernel_rfl) (by kernel_rfl) (by kernel_rfl) (fun _ _ _ h => h) (Or.inl ⟨by rfl, ?_⟩) hHeld ?_; rotate_left; (focus (intro w hSw; (try dsimp only at hSw); obtain hSw := hSw; go_simp; (try rfl); done)); (try simp only [Act.put, List.setIfInBounds_toArray, List.set_cons_zero, List.set_cons_succ]))
            | (refine take_in (i := 7) (v := undef) rfl (by kernel_rfl) (by kernel_rfl) (by kernel_rfl) (fun _ _ _ h => h) (Or.inr ⟨by rfl, rfl⟩) hHeld ?_; (try simp only [Act.put, List.setIfInBounds_toArray, List.set_cons_zero, List.set_cons_succ]))
          refine take_in (i := 8) rfl (by kernel_rfl) (by kernel_rfl) (by kernel_rfl) (fun _ _ _ h => h) (yields_slice (by rfl) 1 (.tmp 46) rfl rfl Try.underlying33 (e := 45) (size := 18) (by kernel_rfl) (by omega)) hHeld ?_
          (try simp only [Act.put, List.setIfInBounds_toArray, List.set_cons_zero, List.set_cons_succ])
          refine one_in (i := 4) rfl (by kernel_rfl) (fun K hK => ?_)
          go_simp
          refine (own_any _ ok x cs (HRd.out.below hHeld) hsx.1 hsx.2).mono ?_
          rintro e w1 ⟨cs', rfl, R1, hb1⟩
          have hb1w : Below wr.heap.size wr w1 := (Below.refl _ _).drew.trans hb1
          have hb1s := hb1w.size
          refine hK.out _ _ (hHeld.trans (hb1.mono hHeld.size)) (fun hHeld => ?_)
          (try simp only [Act.put, List.setIfInBounds_toArray, List.set_cons_zero, List.set_cons_succ])
          refine one_in (i := 5) rfl (by kernel_rfl) (fun K hK => ?_)
          rw [if_pos (by rfl)]
          refine wpo_lit1 (cs := cs') (.tmp 43) rfl rfl Try.underlying33 info_step rfl (by decide) (by decide) (by rw [R1.len]; rfl) ?_
          refine hK.out _ _ (hHeld.alloc hHeld.size _) (fun hHeld => ?_)
          (try simp only [Act.put, List.setIfInBounds_toArray, List.set_cons_zero, List.set_cons_succ])
          refine one_in (i := 6) rfl (by kernel_rfl) (fun K hK => ?_)
          rw [if_pos (by rfl)]
          refine wpo_appO (m := 1) (r := [x]) (ys := cs') (.tmp 39) (.tmp 44) rfl ((HO.out.below hb1w).below (below_alloc1 w1 _)) rfl (fun e => by cases e) (fun ad' e => by cases e; exact At.blk (heap_alloc_new w1 _)) (RdL.single (HO.out.apart (Nat.le_refl _) hbel.size R1 (below_alloc1 w1 _))) hHeld Try.underlying33 info_step rfl (by decide) rfl rfl (by rw [bytes_step]; omega) (by omega) hHeld.size ?_
          intro v2 w2 hO2 hb2 _ _
          refine hK.out _ _ hb2 (fun hHeld => ?_)
          (try simp only [Act.put, List.setIfInBounds_toArray, List.set_cons_zero, List.set_cons_succ])
          first
            | (refine take_in (i := 9) (v := ?_) rfl (by kernel_rfl) (by kernel_rfl) (by kernel_rfl) (fun _ _ _ h => h) (Or.inl ⟨by rfl, ?_⟩) hHeld ?_; rotate_left; (focus (intro w hSw; (try dsimp only at hSw); obtain hSw := hSw; go_simp; (try rfl); done)); (try simp only [Act.put, List.setIfInBounds_toArray, List.set_cons_zero, List.set_cons_succ]))
            | (refine take_in (i := 9) (v := undef) rfl (by kernel_rfl) (by kernel_rfl) (by kernel_rfl) (fun _ _ _ h => h) (Or.inr ⟨by rfl, rfl⟩) hHeld ?_; (try simp only [Act.put, List.setIfInBounds_toArray, List.set_cons_zero, List.set_cons_succ]))
          first
            | (refine take_in (i := 10) (v := ?_) rfl (by kernel_rfl) (by kernel_rfl) (by kernel_rfl) (fun _ _ _ h => h) (Or.inl ⟨by rfl, ?_⟩) hHeld ?_; rotate_left; (focus (intro w hSw; (try dsimp only at hSw); obtain hSw := hSw; go_simp; (try rfl); done)); (try simp only [Act.put, List.setIfInBounds_toArray, List.set_cons_zero, List.set_cons_succ]))
            | (refine take_in (i := 10) (v := undef) rfl (by kernel_rfl) (by kernel_rfl) (by kernel_rfl) (fun _ _ _ h => h) (Or.inr ⟨by rfl, rfl⟩) hHeld ?_; (try simp only [Act.put, List.setIfInBounds_toArray, List.set_cons_zero, List.set_cons_succ]))
          refine wpAnyH_done (by kernel_rfl) ?_ _
          obtain ⟨A2, c2, rfl, _⟩ := hO2.form
          have HO2 := Lib.hid hO2
          clear hO2
          go_wp2_with fail
          go_roundw
          case measure => simp [intOf]; omega
          case rel => exact ⟨out.length + 1, (if ca' = 1 then some ad else Option.map (fun x : Addr => x.add (1 * STEP.size)) (some ad)), B', ca' - 1, cb', a, [], _, out ++ [x], by simp [Sh.size, Addr.add], rfl, rfl, by go_num, HA'.out, HB.out, (by omega), hBc, (by omega), hcb', HO2.out, hHeld, HN, (by simp), (by simp; omega), (fun z hz => hSA z (List.mem_cons_of_mem _ hz)), hSB⟩
        · have HQ := Lib.hid (show f.getD out.length true = true by rw [List.getD_eq_getElem?_getD, List.getElem?_eq_none (by have := hf.1; omega)]; rfl)
          obtain ⟨ad, rfl⟩ : ∃ ad, A' = some ad := by cases A' with
            | none => exact absurd (hA.2.1 rfl) (by simp)
            | some ad => exact ⟨ad, rfl⟩
          obtain ⟨cs, _, hat, hrd⟩ := hA.2.2 ad rfl 0 x rfl
          have hsx := hSA x List.mem_cons_self
          have HRd := Lib.hid hrd
          have HAt := Lib.hid (show At w ad 0 cs by rw [Nat.zero_mul] at hat; exact hat)
          have HA' := Lib.hid (hA.from_ hAc 1 (by simp))
          have HB := Lib.hid hB
          have HN := Lib.hid (show (out ++ [x]) ++ mixL f (out.length + 1) a (y :: b) = mixL f 0 la lb by rw [List.append_assoc]; have h := HM.out; rw [mixL_first _ _ _ _ HQ.out] at h; exact h)
          have hO0 := hO
          obtain ⟨Ao, co, rfl, _⟩ := hO.form
          have HO := Lib.hid hO0
          clear hO hO0
          simp only [List.length_cons, List.length_nil] at hAc hBc hlen ⊢
          clear hA hB ha hb hf hrd hat
          go_wp2_with fail
          refine wp_region_held_drew (S := fun W => Below w.heap.size w W) (by kernel_rfl) hbel.drew (fun hHeld => ?_)
          first
            | (refine take_in (i := 0) (v := ?_) rfl (by kernel_rfl) (by kernel_rfl) (by kernel_rfl) (fun _ _ _ h => h) (Or.inl ⟨by rfl, ?_⟩) hHeld ?_; rotate_left; (focus (intro w hSw; (try dsimp only at hSw); obtain hSw := hSw; go_simp; (try rfl); done)); (try simp only [Act.put, List.setIfInBounds_toArray, List.set_cons_zero, List.set_cons_succ]))
            | (refine take_in (i := 0) (v := undef) rfl (by kernel_rfl) (by kernel_rfl) (by kernel_rfl) (fun _ _ _ h => h) (Or.inr ⟨by rfl, rfl⟩) hHeld ?_; (try simp only [Act.put, List.setIfInBounds_toArray, List.set_cons_zero, List.set_cons_succ]))
          first
            | (refine take_in (i := 1) (v := ?_) rfl (by kernel_rfl) (by kernel_rfl) (by kernel_rfl) (fun _ _ _ h => h) (Or.inl ⟨by rfl, ?_⟩) hHeld ?_; rotate_left; (focus (intro w hSw; (try dsimp only at hSw); obtain hSw := hSw; go_simp; (try rfl); done)); (try simp only [Act.put, List.setIfInBounds_toArray, List.set_cons_zero, List.set_cons_succ]))
            | (refine take_in (i := 1) (v := undef) rfl (by kernel_rfl) (by kernel_rfl) (by kernel_rfl) (fun _ _ _ h => h) (Or.inr ⟨by rfl, rfl⟩) hHeld ?_; (try simp only [Act.put, List.setIfInBounds_toArray, List.set_cons_zero, List.set_cons_succ]))
          first
            | (refine take_in (i := 2) (v := ?_) rfl (by kernel_rfl) (by kernel_rfl) (by kernel_rfl) (fun _ _ _ h => h) (Or.inl ⟨by rfl, ?_⟩) hHeld ?_; rotate_left; (focus (intro w hSw; (try dsimp only at hSw); obtain hSw := hSw; go_simp; (try rfl); done)); (try simp only [Act.put, List.setIfInBounds_toArray, List.set_cons_zero, List.set_cons_succ]))
            | (refine take_in (i := 2) (v := undef) rfl (by kernel_rfl) (by kernel_rfl) (by kernel_rfl) (fun _ _ _ h => h) (Or.inr ⟨by rfl, rfl⟩) hHeld ?_; (try simp only [Act.put, List.setIfInBounds_toArray, List.set_cons_zero, List.set_cons_succ]))
          refine take_in (i := 3) (v := .agg cs.toArray) rfl (by kernel_rfl) (by kernel_rfl) (by kernel_rfl) (fun _ _ _ h => h) (yields_load (by rfl) 45 (.tmp 41) rfl ad rfl cs _ (fun _ h => HAt.out.below h) Try.underlying45 rfl (by rw [HRd.out.len]; rfl)) hHeld ?_
          (try simp only [Act.put, List.setIfInBounds_toArray, List.set_cons_zero, List.set_cons_succ])
          first
            | (refine take_in (i := 7) (v := ?_) rfl (by kernel_rfl) (by kernel_rfl) (by kernel_rfl) (fun _ _ _ h => h) (Or.inl ⟨by rfl, ?_⟩) hHeld ?_; rotate_left; (focus (intro w hSw; (try dsimp only at hSw); obtain hSw := hSw; go_simp; (try rfl); done)); (try simp only [Act.put, List.setIfInBounds_toArray, List.set_cons_zero, List.set_cons_succ]))
            | (refine take_in (i := 7) (v := undef) rfl (by kernel_rfl) (by kernel_rfl) (by kernel_rfl) (fun _ _ _ h => h) (Or.inr ⟨by rfl, rfl⟩) hHeld ?_; (try simp only [Act.put, List.setIfInBounds_toArray, List.set_cons_zero, List.set_cons_succ]))
          refine take_in (i := 8) rfl (by kernel_rfl) (by kernel_rfl) (by kernel_rfl) (fun _ _ _ h => h) (yields_slice (by rfl) 1 (.tmp 46) rfl rfl Try.underlying33 (e := 45) (size := 18) (by kernel_rfl) (by omega)) hHeld ?_
          (try simp only [Act.put, List.setIfInBounds_toArray, List.set_cons_zero, List.set_cons_succ])
          refine one_in (i := 4) rfl (by kernel_rfl) (fun K hK => ?_)
          go_simp
          refine (own_any _ ok x cs (HRd.out.below hHeld) hsx.1 hsx.2).mono ?_
          rintro e w1 ⟨cs', rfl, R1, hb1⟩
          have hb1w : Below wr.heap.size wr w1 := (Below.refl _ _).drew.trans hb1
          have hb1s := hb1w.size
          refine hK.out _ _ (hHeld.trans (hb1.mono hHeld.size)) (fun hHeld => ?_)
          (try simp only [Act.put, List.setIfInBounds_toArray, List.set_cons_zero, List.set_cons_succ])
          refine one_in (i := 5) rfl (by kernel_rfl) (fun K hK => ?_)
          rw [if_pos (by rfl)]
          refine wpo_lit1 (cs := cs') (.tmp 43) rfl rfl Try.underlying33 info_step rfl (by decide) (by decide) (by rw [R1.len]; rfl) ?_
          refine hK.out _ _ (hHeld.alloc hHeld.size _) (fun hHeld => ?_)
          (try simp only [Act.put, List.setIfInBounds_toArray, List.set_cons_zero, List.set_cons_succ])
          refine one_in (i := 6) rfl (by kernel_rfl) (fun K hK => ?_)
          rw [if_pos (by rfl)]
          refine wpo_appO (m := 1) (r := [x]) (ys := cs') (.tmp 39) (.tmp 44) rfl ((HO.out.below hb1w).below (below_alloc1 w1 _)) rfl (fun e => by cases e) (fun ad' e => by cases e; exact At.blk (heap_alloc_new w1 _)) (RdL.single (HO.out.apart (Nat.le_refl _) hbel.size R1 (below_alloc1 w1 _))) hHeld Try.underlying33 info_step rfl (by decide) rfl rfl (by rw [bytes_step]; omega) (by omega) hHeld.size ?_
          intro v2 w2 hO2 hb2 _ _
          refine hK.out _ _ hb2 (fun hHeld => ?_)
          (try simp only [Act.put, List.setIfInBounds_toArray, List.set_cons_zero, List.set_cons_succ])
          first
            | (refine take_in (i := 9) (v := ?_) rfl (by kernel_rfl) (by kernel_rfl) (by kernel_rfl) (fun _ _ _ h => h) (Or.inl ⟨by rfl, ?_⟩) hHeld ?_; rotate_left; (focus (intro w hSw; (try dsimp only at hSw); obtain hSw := hSw; go_simp; (try rfl); done)); (try simp only [Act.put, List.setIfInBounds_toArray, List.set_cons_zero, List.set_cons_succ]))
            | (refine take_in (i := 9) (v := undef) rfl (by kernel_rfl) (by kernel_rfl) (by kernel_rfl) (fun _ _ _ h => h) (Or.inr ⟨by rfl, rfl⟩) hHeld ?_; (try simp only [Act.put, List.setIfInBounds_toArray, List.set_cons_zero, List.set_cons_succ]))
          first
            | (refine take_in (i := 10) (v := ?_) rfl (by kernel_rfl) (by kernel_rfl) (by kernel_rfl) (fun _ _ _ h => h) (Or.inl ⟨by rfl, ?_⟩) hHeld ?_; rotate_left; (focus (intro w hSw; (try dsimp only at hSw); obtain hSw := hSw; go_simp; (try rfl); done)); (try simp only [Act.put, List.setIfInBounds_toArray, List.set_cons_zero, List.set_cons_succ]))
            | (refine take_in (i := 10) (v := undef) rfl (by kernel_rfl) (by kernel_rfl) (by kernel_rfl) (fun _ _ _ h => h) (Or.inr ⟨by rfl, rfl⟩) hHeld ?_; (try simp only [Act.put, List.setIfInBounds_toArray, List.set_cons_zero, List.set_cons_succ]))
          refine wpAnyH_done (by kernel_rfl) ?_ _
          obtain ⟨A2, c2, rfl, _⟩ := hO2.form
          have HO2 := Lib.hid hO2
          clear hO2
          go_wp2_with fail
          go_roundw
          case measure => simp [intOf]; omega
          case rel => exact ⟨out.length + 1, (if ca' = 1 then some ad else Option.map (fun x : Addr => x.add (1 * STEP.size)) (some ad)), B', ca' - 1, cb', a, (y :: b), _, out ++ [x], by simp [Sh.size, Addr.add], rfl, rfl, by go_num, HA'.out, HB.out, (by omega), hBc, (by omega), hcb', HO2.out, hHeld, HN, (by simp), (by simp; omega), (fun z hz => hSA z (List.mem_cons_of_mem _ hz)), hSB⟩
end Go.Proofs.Ytaagldmgbdiomaa
