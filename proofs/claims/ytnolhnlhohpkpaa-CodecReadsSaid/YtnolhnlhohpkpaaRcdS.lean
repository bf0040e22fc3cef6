import Derived.Test.YtnolhnlhohpkpaaRcdQ
namespace Go.Proofs.Ytnolhnlhohpkpaa
open Go.RowKit Cdc
set_option linter.unusedVariables false
set_option linter.unusedSimpArgs false
/-- Parts alike, floats by their keys. -/
def sameP (x y : PartT) : Bool := x.1 == y.1 && x.2.1 == y.2.1 && x.2.2.1 == y.2.2.1 && rkeyF x.2.2.2.1 == rkeyF y.2.2.2.1 && x.2.2.2.2.1 == y.2.2.2.2.1 && x.2.2.2.2.2.1 == y.2.2.2.2.2.1
def sameL : List PartT → List PartT → Bool
  | [], [] => true
  | x :: l, y :: m => sameP x y && sameL l m
  | _, _ => false
set_option maxRecDepth 20000 in
theorem sameL_app : ∀ (l m l' m' : List PartT), l.length = m.length → sameL (l ++ l') (m ++ m') = (sameL l m && sameL l' m')
  | [], [], l', m', _ => by simp [sameL]
  | x :: l, y :: m, l', m', h => by
    simp only [List.cons_append, sameL]
    rw [sameL_app l m l' m' (by simpa using h), Bool.and_assoc]
  | [], _ :: _, _, _, h => by simp at h
  | _ :: _, [], _, _, h => by simp at h
set_option maxRecDepth 20000 in
theorem sameL_len : ∀ (l m : List PartT), sameL l m = true → l.length = m.length
  | [], [], _ => rfl
  | x :: l, y :: m, h => by
    simp only [sameL, Bool.and_eq_true] at h
    simp [sameL_len l m h.2]
  | [], _ :: _, h => by simp [sameL] at h
  | _ :: _, [], h => by simp [sameL] at h
set_option maxRecDepth 20000 in
theorem sameL_step {l m : List PartT} {i : Nat} {x y : PartT} (hx : l[i]? = some x) (hy : m[i]? = some y) (h : sameL (l.take i) (m.take i) = true) : sameL (l.take (i + 1)) (m.take (i + 1)) = sameP x y := by
  rw [take_at hx, take_at hy, sameL_app _ _ _ _ (sameL_len _ _ h), h]
  simp [sameL]
set_option maxRecDepth 20000 in
theorem sameL_bad {l m : List PartT} {i : Nat} {x y : PartT} (hx : l[i]? = some x) (hy : m[i]? = some y) (h : sameL (l.take i) (m.take i) = true) (hxy : sameP x y = false) : sameL l m = false := by
  have e1 : l = l.take (i + 1) ++ l.drop (i + 1) := (List.take_append_drop _ _).symm
  have e2 : m = m.take (i + 1) ++ m.drop (i + 1) := (List.take_append_drop _ _).symm
  have hs := sameL_step hx hy h
  have hl : (l.take (i + 1)).length = (m.take (i + 1)).length := by
    have := (List.getElem?_eq_some_iff.1 hx).1
    have := (List.getElem?_eq_some_iff.1 hy).1
    rw [List.length_take, List.length_take]; omega
  rw [e1, e2, sameL_app _ _ _ _ hl, hs, hxy, Bool.false_and]
section
variable {kx nx ix ky ny iy : Int} {fx fy : Nat} {bx by_ : List UInt8} {qx qy : Bool}
abbrev mkP (k n i : Int) (f : Nat) (b : List UInt8) (q : Bool) : PartT := (k, n, i, f, b, q, ())
set_option maxRecDepth 20000 in
theorem same_true (h : rkeyF fx = rkeyF fy) : sameP (mkP kx nx ix fx bx qx) (mkP kx nx ix fy bx qx) = true := by
  unfold sameP; simp [h]
set_option maxRecDepth 20000 in
theorem same_f1 (h : ¬ kx = ky) : sameP (mkP kx nx ix fx bx qx) (mkP ky ny iy fy by_ qy) = false := by
  unfold sameP; simp [h]
set_option maxRecDepth 20000 in
theorem same_f2 (h : ¬ nx = ny) : sameP (mkP kx nx ix fx bx qx) (mkP ky ny iy fy by_ qy) = false := by
  unfold sameP; simp [h]
set_option maxRecDepth 20000 in
theorem same_f3 (h : ¬ ix = iy) : sameP (mkP kx nx ix fx bx qx) (mkP ky ny iy fy by_ qy) = false := by
  unfold sameP; simp [h]
set_option maxRecDepth 20000 in
theorem same_f4 (h : ¬ rkeyF fx = rkeyF fy) : sameP (mkP kx nx ix fx bx qx) (mkP ky ny iy fy by_ qy) = false := by
  unfold sameP; simp [h]
set_option maxRecDepth 20000 in
theorem same_f5 (h : ¬ bx = by_) : sameP (mkP kx nx ix fx bx qx) (mkP ky ny iy fy by_ qy) = false := by
  unfold sameP; simp [h]
set_option maxRecDepth 20000 in
theorem same_f6 (h : ¬ qx = qy) : sameP (mkP kx nx ix fx bx qx) (mkP ky ny iy fy by_ qy) = false := by
  unfold sameP; simp [h]
set_option maxRecDepth 20000 in
theorem same_cases (kx nx ix ky ny iy : Int) (fx fy : Nat) (bx by_ : List UInt8) (qx qy : Bool) :
    (kx = ky ∧ nx = ny ∧ ix = iy ∧ rkeyF fx = rkeyF fy ∧ bx = by_ ∧ qx = qy) ∨ ¬ kx = ky ∨ (kx = ky ∧ ¬ nx = ny) ∨ (kx = ky ∧ nx = ny ∧ ¬ ix = iy) ∨ (kx = ky ∧ nx = ny ∧ ix = iy ∧ ¬ rkeyF fx = rkeyF fy) ∨ (kx = ky ∧ nx = ny ∧ ix = iy ∧ rkeyF fx = rkeyF fy ∧ ¬ bx = by_) ∨ (kx = ky ∧ nx = ny ∧ ix = iy ∧ rkeyF fx = rkeyF fy ∧ bx = by_ ∧ ¬ qx = qy) := by
  by_cases h1 : kx = ky <;> by_cases h2 : nx = ny <;> by_cases h3 : ix = iy <;> by_cases h4 : rkeyF fx = rkeyF fy <;> by_cases h5 : bx = by_ <;> by_cases h6 : qx = qy <;> simp [h1, h2, h3, h4, h5, h6]
end
set_option maxHeartbeats 8000000 in
set_option maxRecDepth 20000 in
theorem rsameparts_any (w : World) (A B : Option Addr) (n m ca cb : Nat) (la lb : List PartT) (ha : Rows w anyB PART A n la) (hb : Rows w anyB PART B m lb) (hn : n ≤ 1000000) :
    Calls Try.prog 16 #[.slice A n ca, .slice B m cb] w fun e w' => e = .returned (.bool (sameL la lb)) ∧ Below w.heap.size w w' := by
  have hla := ha.1
  have hlb := hb.1
  by_cases hnm : n = m
  · subst hnm
    go_enter Try.func16, Try.ntmps16
    go_wp2_with fail
    go_loopw [15] (fun s15 wr => ∃ i : Nat, i ≤ n ∧ s15 = .int .i64 i ∧ sameL (la.take i) (lb.take i) = true ∧ Below w.heap.size w wr) (fun s15 _ => n - (intOf s15).toNat)
    case atStart => exact ⟨0, by omega, rfl, rfl, Below.refl _ _⟩
    case round =>
      obtain ⟨i, hi, rfl, hsm, hbel⟩ := hrel
      by_cases hlt : i < n
      · obtain ⟨x, hx⟩ : ∃ x, la[i]? = some x := ⟨la[i]'(by omega), List.getElem?_eq_getElem (by omega)⟩
        obtain ⟨y, hy⟩ : ∃ y, lb[i]? = some y := ⟨lb[i]'(by omega), List.getElem?_eq_getElem (by omega)⟩
        obtain ⟨ad, rfl⟩ : ∃ ad, A = some ad := by cases A with
          | none => exact absurd (ha.2.1 rfl) (by omega)
          | some ad => exact ⟨ad, rfl⟩
        obtain ⟨bd, rfl⟩ : ∃ bd, B = some bd := by cases B with
          | none => exact absurd (hb.2.1 rfl) (by omega)
          | some bd => exact ⟨bd, rfl⟩
        have HN := Lib.hid (sameL_step hx hy hsm)
        have HX := Lib.hid (fun h => sameL_bad hx hy hsm h)
        obtain ⟨csx, _, hatx, hrx⟩ := ha.2.2 ad rfl i x hx
        obtain ⟨csy, _, haty, hry⟩ := hb.2.2 bd rfl i y hy
        have i0 : (0 : Int) ≤ (i : Int) := by omega
        have i1 : (i : Int) < (n : Int) := by omega
        have HAx := Lib.hid (hatx.add.below hbel)
        have HAy := Lib.hid (haty.add.below hbel)
        obtain ⟨kx, nx, ix, fx, bx, qx, bvx, rfl, rfl, _, _, h5x⟩ := rd_part (hrx.below hbel)
        obtain ⟨ky, ny, iy, fy, by_, qy, bvy, rfl, rfl, _, _, h5y⟩ := rd_part (hry.below hbel)
        obtain ⟨Ax, cx, rfl, _, _, _, hbx⟩ := rd_bs h5x
        obtain ⟨Ay, cy, rfl, _, _, _, hby⟩ := rd_bs h5y
        have HBX := Lib.hid hbx
        have HBY := Lib.hid hby
        clear hatx haty hrx hry hx hy hsm h5x h5y hbx hby
        have hcase := same_cases kx nx ix ky ny iy fx fy bx by_ qx qy
        go_wp2_with fail
        refine wp_region_held_drew (S := fun W => Below wr.heap.size wr W) (by kernel_rfl) (Below.refl _ _).drew (fun hHeld => ?_)
        first
          | (refine take_in (i := 0) (v := ?_) rfl (by kernel_rfl) (by kernel_rfl) (by kernel_rfl) (fun _ _ _ h => h) (Or.inl ⟨by rfl, ?_⟩) hHeld ?_; rotate_left; (focus (intro w hSw; (try dsimp only at hSw); obtain hSw := hSw; go_simp; (try rfl); done)); (try simp only [Act.put, List.setIfInBounds_toArray, List.set_cons_zero, List.set_cons_succ]))
          | (refine take_in (i := 0) (v := undef) rfl (by kernel_rfl) (by kernel_rfl) (by kernel_rfl) (fun _ _ _ h => h) (Or.inr ⟨by rfl, rfl⟩) hHeld ?_; (try simp only [Act.put, List.setIfInBounds_toArray, List.set_cons_zero, List.set_cons_succ]))
        first
          | (refine take_in (i := 1) (v := ?_) rfl (by kernel_rfl) (by kernel_rfl) (by kernel_rfl) (fun _ _ _ h => h) (Or.inl ⟨by rfl, ?_⟩) hHeld ?_; rotate_left; (focus (intro w hSw; (try dsimp only at hSw); obtain hSw := hSw; go_simp; (try rfl); done)); (try simp only [Act.put, List.setIfInBounds_toArray, List.set_cons_zero, List.set_cons_succ]))
          | (refine take_in (i := 1) (v := undef) rfl (by kernel_rfl) (by kernel_rfl) (by kernel_rfl) (fun _ _ _ h => h) (Or.inr ⟨by rfl, rfl⟩) hHeld ?_; (try simp only [Act.put, List.setIfInBounds_toArray, List.set_cons_zero, List.set_cons_succ]))
        first
          | (refine take_in (i := 2) (v := ?_) rfl (by kernel_rfl) (by kernel_rfl) (by kernel_rfl) (fun _ _ _ h => h) (Or.inl ⟨by rfl, ?_⟩) hHeld ?_; rotate_left; (focus (intro w hSw; (try dsimp only at hSw); obtain hSw := hSw; go_simp; (try rfl); done)); (try simp only [Act.put, List.setIfInBounds_toArray, List.set_cons_zero, List.set_cons_succ]))
          | (refine take_in (i := 2) (v := undef) rfl (by kernel_rfl) (by kernel_rfl) (by kernel_rfl) (fun _ _ _ h => h) (Or.inr ⟨by rfl, rfl⟩) hHeld ?_; (try simp only [Act.put, List.setIfInBounds_toArray, List.set_cons_zero, List.set_cons_succ]))
        refine take_in (i := 3) (v := .agg _) rfl (by kernel_rfl) (by kernel_rfl) (by kernel_rfl) (fun _ _ _ h => h) (yields_load (by rfl) 39 (.tmp 20) rfl _ rfl _ _ (fun _ h => HAx.out.below h) Try.underlying39 rfl rfl) hHeld ?_
        (try simp only [Act.put, List.setIfInBounds_toArray, List.set_cons_zero, List.set_cons_succ])
        first
          | (refine take_in (i := 4) (v := ?_) rfl (by kernel_rfl) (by kernel_rfl) (by kernel_rfl) (fun _ _ _ h => h) (Or.inl ⟨by rfl, ?_⟩) hHeld ?_; rotate_left; (focus (intro w hSw; (try dsimp only at hSw); obtain hSw := hSw; go_simp; (try rfl); done)); (try simp only [Act.put, List.setIfInBounds_toArray, List.set_cons_zero, List.set_cons_succ]))
          | (refine take_in (i := 4) (v := undef) rfl (by kernel_rfl) (by kernel_rfl) (by kernel_rfl) (fun _ _ _ h => h) (Or.inr ⟨by rfl, rfl⟩) hHeld ?_; (try simp only [Act.put, List.setIfInBounds_toArray, List.set_cons_zero, List.set_cons_succ]))
        first
          | (refine take_in (i := 5) (v := ?_) rfl (by kernel_rfl) (by kernel_rfl) (by kernel_rfl) (fun _ _ _ h => h) (Or.inl ⟨by rfl, ?_⟩) hHeld ?_; rotate_left; (focus (intro w hSw; (try dsimp only at hSw); obtain hSw := hSw; go_simp; (try rfl); done)); (try simp only [Act.put, List.setIfInBounds_toArray, List.set_cons_zero, List.set_cons_succ]))
          | (refine take_in (i := 5) (v := undef) rfl (by kernel_rfl) (by kernel_rfl) (by kernel_rfl) (fun _ _ _ h => h) (Or.inr ⟨by rfl, rfl⟩) hHeld ?_; (try simp only [Act.put, List.setIfInBounds_toArray, List.set_cons_zero, List.set_cons_succ]))
        first
          | (refine take_in (i := 6) (v := ?_) rfl (by kernel_rfl) (by kernel_rfl) (by kernel_rfl) (fun _ _ _ h => h) (Or.inl ⟨by rfl, ?_⟩) hHeld ?_; rotate_left; (focus (intro w hSw; (try dsimp only at hSw); obtain hSw := hSw; go_simp; (try rfl); done)); (try simp only [Act.put, List.setIfInBounds_toArray, List.set_cons_zero, List.set_cons_succ]))
          | (refine take_in (i := 6) (v := undef) rfl (by kernel_rfl) (by kernel_rfl) (by kernel_rfl) (fun _ _ _ h => h) (Or.inr ⟨by rfl, rfl⟩) hHeld ?_; (try simp only [Act.put, List.setIfInBounds_toArray, List.set_cons_zero, List.set_cons_succ]))
        refine take_in (i := 7) (v := .agg _) rfl (by kernel_rfl) (by kernel_rfl) (by kernel_rfl) (fun _ _ _ h => h) (yields_load (by rfl) 39 (.tmp 24) rfl _ rfl _ _ (fun _ h => HAy.out.below h) Try.underlying39 rfl rfl) hHeld ?_
        (try simp only [Act.put, List.setIfInBounds_toArray, List.set_cons_zero, List.set_cons_succ])
        refine two_in (i := 8) (j := 9) rfl rfl (by kernel_rfl) (fun K hK => ?_) (fun K hK => ?_)
        · rw [if_pos (by rfl)]
          go_simp
          refine hK.out _ _ (hHeld.alloc hHeld.size _) (fun hHeld => ?_)
          (try simp only [Act.put, List.setIfInBounds_toArray, List.set_cons_zero, List.set_cons_succ])
          refine one_in (i := 9) rfl (by kernel_rfl) (fun K hK => ?_)
          rw [if_pos (by rfl)]
          go_simp
          refine hK.out _ _ (hHeld.alloc hHeld.size _) (fun hHeld => ?_)
          (try simp only [Act.put, List.setIfInBounds_toArray, List.set_cons_zero, List.set_cons_succ])
          refine one_in (i := 10) rfl (by kernel_rfl) (fun K hK => ?_)
          rw [if_pos (by rfl)]
          refine wpo_store 39 (.tmp 6) (.tmp 21) rfl (wr.heap.size) rfl _ _ 39 rfl (blk_alloc (heap_alloc_new wr.drew _) _) rfl rfl (by intro v hv; simp at hv; rcases hv with rfl | rfl | rfl | rfl | rfl | rfl <;> rfl) ?_
          intro w1 hc6 hg1
          refine hK.out _ _ (hHeld.grown hg1 hHeld.size (fun k e => by injection e; omega)) (fun hHeld => ?_)
          (try simp only [Act.put, List.setIfInBounds_toArray, List.set_cons_zero, List.set_cons_succ])
          refine one_in (i := 11) rfl (by kernel_rfl) (fun K hK => ?_)
          rw [if_pos (by rfl)]
          refine wpo_store 39 (.tmp 7) (.tmp 25) rfl (wr.heap.size + 1) rfl _ _ 39 rfl (blk_grown (heap_alloc2_new wr.drew _ _) hg1 (by intro e; injection e; omega)) rfl rfl (by intro v hv; simp at hv; rcases hv with rfl | rfl | rfl | rfl | rfl | rfl <;> rfl) ?_
          intro w2 hc7 hg2
          have hc6' := blk_grown hc6 hg2 (by intro e; injection e; omega)
          refine hK.out _ _ (hHeld.grown hg2 hHeld.size (fun k e => by injection e; omega)) (fun hHeld => ?_)
          (try simp only [Act.put, List.setIfInBounds_toArray, List.set_cons_zero, List.set_cons_succ])
          refine wpAnyH_done (by kernel_rfl) ?_ _
          clear hc6 hg1 hg2
          obtain ⟨b6, hb6⟩ : ∃ b6 : Nat, wr.heap.size = b6 := ⟨_, rfl⟩
          obtain ⟨b7, hb7⟩ : ∃ b7 : Nat, wr.heap.size + 1 = b7 := ⟨_, rfl⟩
          rw [hb7] at hc7 ⊢
          rw [hb6] at hc6' ⊢
          clear hb6 hb7
          have HW2 := Lib.hid hHeld
          clear hHeld
          obtain ⟨c0, c1, c2, c3, c4, c5⟩ := blk6 hc6'
          obtain ⟨d0, d1, d2, d3, d4, d5⟩ := blk6 hc7
          have hbx2 := HBX.out.below HW2.out
          have hby2 := HBY.out.below HW2.out
          have cvx := conv_bs (c := cx) hbx2
          have cvy := conv_bs (c := cy) hby2
          clear hbx2 hby2 hc6' hc7
          rcases hcase with ⟨rfl, rfl, rfl, hf, rfl, rfl⟩ | h1 | ⟨rfl, h2⟩ | ⟨rfl, rfl, h3⟩ | ⟨rfl, rfl, rfl, h4⟩ | ⟨rfl, rfl, rfl, h4, h5⟩ | ⟨rfl, rfl, rfl, h4, rfl, h6⟩
          · have b4 : (rkeyF fx == rkeyF fy) = true := beq_iff_eq.2 hf
            have HB4 := Lib.hid b4
            have HG := Lib.hid (HN.out.trans (same_true hf))
            clear b4 hf
            go_wp2_with (go_at_call 65; refine (rsame_any _ _ _).mono ?_; rintro e w3 ⟨rfl, rfl⟩; rw [HB4.out])
            go_roundw
            case measure => simp [intOf]; omega
            case rel => exact ⟨i + 1, by omega, by go_num, HG.out, hbel.trans (HW2.out.mono hbel.size)⟩
          · have HF := Lib.hid (HX.out (same_f1 h1))
            skip
            go_wp2_with fail
            go_ret
            exact ⟨ret_bool HF.out.symm, hbel.trans (HW2.out.mono hbel.size)⟩
          · have HF := Lib.hid (HX.out (same_f2 h2))
            skip
            go_wp2_with fail
            go_ret
            exact ⟨ret_bool HF.out.symm, hbel.trans (HW2.out.mono hbel.size)⟩
          · have HF := Lib.hid (HX.out (same_f3 h3))
            skip
            go_wp2_with fail
            go_ret
            exact ⟨ret_bool HF.out.symm, hbel.trans (HW2.out.mono hbel.size)⟩
          · have HF := Lib.hid (HX.out (same_f4 h4))
            have b4 : (rkeyF fx == rkeyF fy) = false := beq_eq_false_iff_ne.2 h4
            have HB4 := Lib.hid b4
            clear h4 b4
            go_wp2_with (go_at_call 65; refine (rsame_any _ _ _).mono ?_; rintro e w3 ⟨rfl, rfl⟩; rw [HB4.out])
            go_ret
            exact ⟨ret_bool HF.out.symm, hbel.trans (HW2.out.mono hbel.size)⟩
          · have HF := Lib.hid (HX.out (same_f5 h5))
            have b4 : (rkeyF fx == rkeyF fy) = true := beq_iff_eq.2 h4
            have HB4 := Lib.hid b4
            clear h4 b4
            go_wp2_with (go_at_call 65; refine (rsame_any _ _ _).mono ?_; rintro e w3 ⟨rfl, rfl⟩; rw [HB4.out])
            go_ret
            exact ⟨ret_bool HF.out.symm, hbel.trans (HW2.out.mono hbel.size)⟩
          · have HF := Lib.hid (HX.out (same_f6 h6))
            have b4 : (rkeyF fx == rkeyF fy) = true := beq_iff_eq.2 h4
            have HB4 := Lib.hid b4
            have b6 : (!(qx == qy)) = true := by rw [beq_eq_false_iff_ne.2 h6]; rfl
            clear h4 b4 h6
            go_wp2_with (go_at_call 65; refine (rsame_any _ _ _).mono ?_; rintro e w3 ⟨rfl, rfl⟩; rw [HB4.out])
            go_ret
            exact ⟨ret_bool HF.out.symm, hbel.trans (HW2.out.mono hbel.size)⟩
        · rw [if_pos (by rfl)]
          go_simp
          refine hK.out _ _ (hHeld.alloc hHeld.size _) (fun hHeld => ?_)
          (try simp only [Act.put, List.setIfInBounds_toArray, List.set_cons_zero, List.set_cons_succ])
          refine one_in (i := 8) rfl (by kernel_rfl) (fun K hK => ?_)
          rw [if_pos (by rfl)]
          go_simp
          refine hK.out _ _ (hHeld.alloc hHeld.size _) (fun hHeld => ?_)
          (try simp only [Act.put, List.setIfInBounds_toArray, List.set_cons_zero, List.set_cons_succ])
          refine one_in (i := 10) rfl (by kernel_rfl) (fun K hK => ?_)
          rw [if_pos (by rfl)]
          refine wpo_store 39 (.tmp 6) (.tmp 21) rfl (wr.heap.size + 1) rfl _ _ 39 rfl (heap_alloc2_new wr.drew _ _) rfl rfl (by intro v hv; simp at hv; rcases hv with rfl | rfl | rfl | rfl | rfl | rfl <;> rfl) ?_
          intro w1 hc6 hg1
          refine hK.out _ _ (hHeld.grown hg1 hHeld.size (fun k e => by injection e; omega)) (fun hHeld => ?_)
          (try simp only [Act.put, List.setIfInBounds_toArray, List.set_cons_zero, List.set_cons_succ])
          refine one_in (i := 11) rfl (by kernel_rfl) (fun K hK => ?_)
          rw [if_pos (by rfl)]
          refine wpo_store 39 (.tmp 7) (.tmp 25) rfl (wr.heap.size) rfl _ _ 39 rfl (blk_grown (blk_alloc (heap_alloc_new wr.drew _) _) hg1 (by intro e; injection e; omega)) rfl rfl (by intro v hv; simp at hv; rcases hv with rfl | rfl | rfl | rfl | rfl | rfl <;> rfl) ?_
          intro w2 hc7 hg2
          have hc6' := blk_grown hc6 hg2 (by intro e; injection e; omega)
          refine hK.out _ _ (hHeld.grown hg2 hHeld.size (fun k e => by injection e; omega)) (fun hHeld => ?_)
          (try simp only [Act.put, List.setIfInBounds_toArray, List.set_cons_zero, List.set_cons_succ])
          refine wpAnyH_done (by kernel_rfl) ?_ _
          clear hc6 hg1 hg2
          obtain ⟨b6, hb6⟩ : ∃ b6 : Nat, wr.heap.size + 1 = b6 := ⟨_, rfl⟩
          obtain ⟨b7, hb7⟩ : ∃ b7 : Nat, wr.heap.size = b7 := ⟨_, rfl⟩
          rw [hb6] at hc6' ⊢
          rw [hb7] at hc7 ⊢
          clear hb6 hb7
          have HW2 := Lib.hid hHeld
          clear hHeld
          obtain ⟨c0, c1, c2, c3, c4, c5⟩ := blk6 hc6'
          obtain ⟨d0, d1, d2, d3, d4, d5⟩ := blk6 hc7
          have hbx2 := HBX.out.below HW2.out
          have hby2 := HBY.out.below HW2.out
          have cvx := conv_bs (c := cx) hbx2
          have cvy := conv_bs (c := cy) hby2
          clear hbx2 hby2 hc6' hc7
          rcases hcase with ⟨rfl, rfl, rfl, hf, rfl, rfl⟩ | h1 | ⟨rfl, h2⟩ | ⟨rfl, rfl, h3⟩ | ⟨rfl, rfl, rfl, h4⟩ | ⟨rfl, rfl, rfl, h4, h5⟩ | ⟨rfl, rfl, rfl, h4, rfl, h6⟩
          · have b4 : (rkeyF fx == rkeyF fy) = true := beq_iff_eq.2 hf
            have HB4 := Lib.hid b4
            have HG := Lib.hid (HN.out.trans (same_true hf))
            clear b4 hf
            go_wp2_with (go_at_call 65; refine (rsame_any _ _ _).mono ?_; rintro e w3 ⟨rfl, rfl⟩; rw [HB4.out])
            go_roundw
            case measure => simp [intOf]; omega
            case rel => exact ⟨i + 1, by omega, by go_num, HG.out, hbel.trans (HW2.out.mono hbel.size)⟩
          · have HF := Lib.hid (HX.out (same_f1 h1))
            skip
            go_wp2_with fail
            go_ret
            exact ⟨ret_bool HF.out.symm, hbel.trans (HW2.out.mono hbel.size)⟩
          · have HF := Lib.hid (HX.out (same_f2 h2))
            skip
            go_wp2_with fail
            go_ret
            exact ⟨ret_bool HF.out.symm, hbel.trans (HW2.out.mono hbel.size)⟩
          · have HF := Lib.hid (HX.out (same_f3 h3))
            skip
            go_wp2_with fail
            go_ret
            exact ⟨ret_bool HF.out.symm, hbel.trans (HW2.out.mono hbel.size)⟩
          · have HF := Lib.hid (HX.out (same_f4 h4))
            have b4 : (rkeyF fx == rkeyF fy) = false := beq_eq_false_iff_ne.2 h4
            have HB4 := Lib.hid b4
            clear h4 b4
            go_wp2_with (go_at_call 65; refine (rsame_any _ _ _).mono ?_; rintro e w3 ⟨rfl, rfl⟩; rw [HB4.out])
            go_ret
            exact ⟨ret_bool HF.out.symm, hbel.trans (HW2.out.mono hbel.size)⟩
          · have HF := Lib.hid (HX.out (same_f5 h5))
            have b4 : (rkeyF fx == rkeyF fy) = true := beq_iff_eq.2 h4
            have HB4 := Lib.hid b4
            clear h4 b4
            go_wp2_with (go_at_call 65; refine (rsame_any _ _ _).mono ?_; rintro e w3 ⟨rfl, rfl⟩; rw [HB4.out])
            go_ret
            exact ⟨ret_bool HF.out.symm, hbel.trans (HW2.out.mono hbel.size)⟩
          · have HF := Lib.hid (HX.out (same_f6 h6))
            have b4 : (rkeyF fx == rkeyF fy) = true := beq_iff_eq.2 h4
            have HB4 := Lib.hid b4
            have b6 : (!(qx == qy)) = true := by rw [beq_eq_false_iff_ne.2 h6]; rfl
            clear h4 b4 h6
            go_wp2_with (go_at_call 65; refine (rsame_any _ _ _).mono ?_; rintro e w3 ⟨rfl, rfl⟩; rw [HB4.out])
            go_ret
            exact ⟨ret_bool HF.out.symm, hbel.trans (HW2.out.mono hbel.size)⟩
      · obtain rfl : i = n := by omega
        have HF := Lib.hid (show sameL la lb = true by rw [List.take_of_length_le (by omega), List.take_of_length_le (by omega)] at hsm; exact hsm)
        clear hsm
        go_wp2_with fail
        go_ret
        exact ⟨ret_bool HF.out.symm, hbel⟩
  · have hne : ((n : Int) == (m : Int)) = false := beq_eq_false_iff_ne.2 (by omega)
    have HF := Lib.hid (show sameL la lb = false by
      cases h : sameL la lb with
      | false => rfl
      | true => have := sameL_len _ _ h; omega)
    clear hnm
    go_enter Try.func16, Try.ntmps16
    go_wp2_with fail
    go_ret
    exact ⟨ret_bool HF.out.symm, Below.refl _ _⟩
end Go.Proofs.Ytnolhnlhohpkpaa
