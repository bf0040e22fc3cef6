import Derived.Test.YtfjnpiahloncmaaTskS
namespace Go.Proofs.Ytfjnpiahloncmaa
open Go.RowKit Cdc
set_option linter.unusedVariables false
set_option linter.unusedSimpArgs false
attribute [local go_sem] run_store_float
set_option maxRecDepth 20000 in
theorem rel_bad {la lb : List TASK.Ty} {i : Nat} {x y : TASK.Ty} (hx : la[i]? = some x) (hy : lb[i]? = some y) : ¬ SameT x y → ¬ SameTs la lb := fun h e => h (e.2 i x y hx hy)
set_option maxRecDepth 20000 in
theorem rel_full {la lb : List TASK.Ty} {n : Nat} (ha : la.length = n) (hb : lb.length = n) (h : ∀ (j : Nat) x y, j < n → la[j]? = some x → lb[j]? = some y → SameT x y) : SameTs la lb :=
  ⟨by omega, fun j x y h1 h2 => h j x y (by have := (List.getElem?_eq_some_iff.1 h1).1; omega) h1 h2⟩
set_option maxHeartbeats 2000000 in
set_option maxRecDepth 20000 in
theorem sametasks_any (w : World) (A B : Option Addr) (n m ca cb : Nat) (la lb : List TASK.Ty) (ha : Rows w anyB TASK A n la) (hb : Rows w anyB TASK B m lb) (hn : n ≤ 9223372036854775807) :
    Calls Try.prog 16 #[.slice A n ca, .slice B m cb] w (IffB (SameTs la lb) w) := by
  have hla : la.length = n := ha.1
  have hlb : lb.length = m := hb.1
  by_cases hnm : n = m
  case neg =>
    have hnm2 : ((n : Int) != (m : Int)) = true := bne_iff_ne.2 (by omega)
    go_enter Try.func16, Try.ntmps16
    go_wp2_with fail
    go_ret
    exact ⟨false, rfl, ⟨(fun e => by cases e), (fun e => by have := e.1; omega)⟩, Below.refl _ _⟩
  subst hnm
  go_enter Try.func16, Try.ntmps16
  go_wp2_with fail
  go_loopw [13] (fun s13 wr => ∃ i : Nat, i ≤ n ∧ s13 = .int .i64 i ∧ (∀ (j : Nat) x y, j < i → la[j]? = some x → lb[j]? = some y → SameT x y) ∧ Below w.heap.size w wr) (fun s13 _ => n - (intOf s13).toNat)
  case atStart => exact ⟨0, by omega, rfl, (fun j x y hj => by omega), Below.refl _ _⟩
  case round =>
    obtain ⟨i, hi, rfl, hP, hbel⟩ := hrel
    have HB := Lib.hid hbel
    have HP := Lib.hid hP
    clear hP
    by_cases hlt : i < n
    · have i0 : (0 : Int) ≤ (i : Int) := by omega
      have i1 : (i : Int) < (n : Int) := by omega
      obtain ⟨ad, x, cs, rfl, hx, hat, hrd⟩ := ha.get i hlt
      obtain ⟨bd, y, ds, rfl, hy, hbt, hrd2⟩ := hb.get i hlt
      have HAt := Lib.hid (hat.below hbel)
      have HBt := Lib.hid (hbt.below hbel)
      obtain ⟨i1, l1, t1, d1, r1, e1, g1, A1, c1, rfl, rfl, ok1, hg1⟩ := rd_task hrd
      obtain ⟨i2, l2, t2, d2, r2, e2, g2, A2, c2, rfl, rfl, ok2, hg2⟩ := rd_task hrd2
      have HN := Lib.hid (rel_step hx hy HP.out)
      have HF := Lib.hid (rel_bad hx hy)
      have HG1 := Lib.hid (hg1.below hbel)
      have HG2 := Lib.hid (hg2.below hbel)
      have HO := Lib.hid (And.intro ok1 ok2)
      clear hx hy ha hb hbel hat hbt hrd hrd2 hg1 hg2 ok1 ok2
      go_wp2_with fail
      refine region_in (by kernel_rfl) (fun w1 hw1 => ?_)
      have HB1 := Lib.hid (HB.out.trans (hw1.mono HB.out.size))
      have HA1 := Lib.hid (HAt.out.below hw1)
      have HA2 := Lib.hid (HBt.out.below hw1)
      first
        | (refine take_in (i := 0) (v := ?_) rfl (by kernel_rfl) (by kernel_rfl) (by kernel_rfl) (fun _ _ _ h => h) (Or.inl ⟨by rfl, ?_⟩) (Below.refl _ _) ?_; rotate_left; (focus (intro W hSw; go_simp; (try rfl); done)); (try simp only [Act.put, List.setIfInBounds_toArray, List.set_cons_zero, List.set_cons_succ]))
        | (refine take_in (i := 0) (v := undef) rfl (by kernel_rfl) (by kernel_rfl) (by kernel_rfl) (fun _ _ _ h => h) (Or.inr ⟨by rfl, rfl⟩) (Below.refl _ _) ?_; (try simp only [Act.put, List.setIfInBounds_toArray, List.set_cons_zero, List.set_cons_succ]))
        | (fail "HTAKE 0")
      first
        | (refine take_in (i := 1) (v := ?_) rfl (by kernel_rfl) (by kernel_rfl) (by kernel_rfl) (fun _ _ _ h => h) (Or.inl ⟨by rfl, ?_⟩) (Below.refl _ _) ?_; rotate_left; (focus (intro W hSw; go_simp; (try rfl); done)); (try simp only [Act.put, List.setIfInBounds_toArray, List.set_cons_zero, List.set_cons_succ]))
        | (refine take_in (i := 1) (v := undef) rfl (by kernel_rfl) (by kernel_rfl) (by kernel_rfl) (fun _ _ _ h => h) (Or.inr ⟨by rfl, rfl⟩) (Below.refl _ _) ?_; (try simp only [Act.put, List.setIfInBounds_toArray, List.set_cons_zero, List.set_cons_succ]))
        | (fail "HTAKE 1")
      first
        | (refine take_in (i := 2) (v := ?_) rfl (by kernel_rfl) (by kernel_rfl) (by kernel_rfl) (fun _ _ _ h => h) (Or.inl ⟨by rfl, ?_⟩) (Below.refl _ _) ?_; rotate_left; (focus (intro W hSw; go_simp; (try rfl); done)); (try simp only [Act.put, List.setIfInBounds_toArray, List.set_cons_zero, List.set_cons_succ]))
        | (refine take_in (i := 2) (v := undef) rfl (by kernel_rfl) (by kernel_rfl) (by kernel_rfl) (fun _ _ _ h => h) (Or.inr ⟨by rfl, rfl⟩) (Below.refl _ _) ?_; (try simp only [Act.put, List.setIfInBounds_toArray, List.set_cons_zero, List.set_cons_succ]))
        | (fail "HTAKE 2")
      refine take_in (i := 3) (v := _) rfl (by kernel_rfl) (by kernel_rfl) (by kernel_rfl) (fun _ _ _ h => h) (yields_load (by rfl) _ _ rfl _ rfl _ _ (fun W hW => (HA1.out).below hW) Try.underlying41 rfl rfl) (Below.refl _ _) ?_
      (try simp only [Act.put, List.setIfInBounds_toArray, List.set_cons_zero, List.set_cons_succ])
      first
        | (refine take_in (i := 4) (v := ?_) rfl (by kernel_rfl) (by kernel_rfl) (by kernel_rfl) (fun _ _ _ h => h) (Or.inl ⟨by rfl, ?_⟩) (Below.refl _ _) ?_; rotate_left; (focus (intro W hSw; go_simp; (try rfl); done)); (try simp only [Act.put, List.setIfInBounds_toArray, List.set_cons_zero, List.set_cons_succ]))
        | (refine take_in (i := 4) (v := undef) rfl (by kernel_rfl) (by kernel_rfl) (by kernel_rfl) (fun _ _ _ h => h) (Or.inr ⟨by rfl, rfl⟩) (Below.refl _ _) ?_; (try simp only [Act.put, List.setIfInBounds_toArray, List.set_cons_zero, List.set_cons_succ]))
        | (fail "HTAKE 4")
      first
        | (refine take_in (i := 5) (v := ?_) rfl (by kernel_rfl) (by kernel_rfl) (by kernel_rfl) (fun _ _ _ h => h) (Or.inl ⟨by rfl, ?_⟩) (Below.refl _ _) ?_; rotate_left; (focus (intro W hSw; go_simp; (try rfl); done)); (try simp only [Act.put, List.setIfInBounds_toArray, List.set_cons_zero, List.set_cons_succ]))
        | (refine take_in (i := 5) (v := undef) rfl (by kernel_rfl) (by kernel_rfl) (by kernel_rfl) (fun _ _ _ h => h) (Or.inr ⟨by rfl, rfl⟩) (Below.refl _ _) ?_; (try simp only [Act.put, List.setIfInBounds_toArray, List.set_cons_zero, List.set_cons_succ]))
        | (fail "HTAKE 5")
      first
        | (refine take_in (i := 6) (v := ?_) rfl (by kernel_rfl) (by kernel_rfl) (by kernel_rfl) (fun _ _ _ h => h) (Or.inl ⟨by rfl, ?_⟩) (Below.refl _ _) ?_; rotate_left; (focus (intro W hSw; go_simp; (try rfl); done)); (try simp only [Act.put, List.setIfInBounds_toArray, List.set_cons_zero, List.set_cons_succ]))
        | (refine take_in (i := 6) (v := undef) rfl (by kernel_rfl) (by kernel_rfl) (by kernel_rfl) (fun _ _ _ h => h) (Or.inr ⟨by rfl, rfl⟩) (Below.refl _ _) ?_; (try simp only [Act.put, List.setIfInBounds_toArray, List.set_cons_zero, List.set_cons_succ]))
        | (fail "HTAKE 6")
      refine take_in (i := 7) (v := _) rfl (by kernel_rfl) (by kernel_rfl) (by kernel_rfl) (fun _ _ _ h => h) (yields_load (by rfl) _ _ rfl _ rfl _ _ (fun W hW => (HA2.out).below hW) Try.underlying41 rfl rfl) (Below.refl _ _) ?_
      (try simp only [Act.put, List.setIfInBounds_toArray, List.set_cons_zero, List.set_cons_succ])
      refine call_in (i := 8) rfl (by kernel_rfl) (by kernel_rfl) (fun K hK => ?_)
      go_simp
      refine (rsametask_any w1 i1 l1 i2 l2 t1 t2 d1 d2 r1 e1 r2 e2 A1 A2 g1.length g2.length c1 c2 g1 g2 HO.out.1.2.2.2.1 HO.out.1.2.2.2.2 HO.out.2.2.2.2.1 HO.out.2.2.2.2.2 (rd_rows (HG1.out.below hw1)) (rd_rows (HG2.out.below hw1)) (by have := rd_rowsN HG1.out; omega)).mono ?_
      rintro e w2 ⟨b, rfl, hb2, hw12⟩
      have HB2 := Lib.hid (HB1.out.trans (hw12.mono HB1.out.size))
      have HI := Lib.hid hb2
      clear hb2
      cases b with
      | true =>
        refine hK.out _ _ hw12 ?_
        (try simp only [Act.put, List.setIfInBounds_toArray, List.set_cons_zero, List.set_cons_succ])
        first
          | (refine take_in (i := 9) (v := ?_) rfl (by kernel_rfl) (by kernel_rfl) (by kernel_rfl) (fun _ _ _ h => h) (Or.inl ⟨by rfl, ?_⟩) (Below.refl _ _) ?_; rotate_left; (focus (intro W hSw; go_simp; (try rfl); done)); (try simp only [Act.put, List.setIfInBounds_toArray, List.set_cons_zero, List.set_cons_succ]))
          | (refine take_in (i := 9) (v := undef) rfl (by kernel_rfl) (by kernel_rfl) (by kernel_rfl) (fun _ _ _ h => h) (Or.inr ⟨by rfl, rfl⟩) (Below.refl _ _) ?_; (try simp only [Act.put, List.setIfInBounds_toArray, List.set_cons_zero, List.set_cons_succ]))
          | (fail "HTAKE 9")
        refine wpAnyH_done (by kernel_rfl) ?_ _
        go_wp2_with fail
        go_roundw
        case measure => simp [intOf]; omega
        case rel => exact ⟨i + 1, by omega, by go_num, HN.out (HI.out.1 (by trivial)), HB2.out⟩
      | false =>
        refine hK.out _ _ hw12 ?_
        (try simp only [Act.put, List.setIfInBounds_toArray, List.set_cons_zero, List.set_cons_succ])
        first
          | (refine take_in (i := 9) (v := ?_) rfl (by kernel_rfl) (by kernel_rfl) (by kernel_rfl) (fun _ _ _ h => h) (Or.inl ⟨by rfl, ?_⟩) (Below.refl _ _) ?_; rotate_left; (focus (intro W hSw; go_simp; (try rfl); done)); (try simp only [Act.put, List.setIfInBounds_toArray, List.set_cons_zero, List.set_cons_succ]))
          | (refine take_in (i := 9) (v := undef) rfl (by kernel_rfl) (by kernel_rfl) (by kernel_rfl) (fun _ _ _ h => h) (Or.inr ⟨by rfl, rfl⟩) (Below.refl _ _) ?_; (try simp only [Act.put, List.setIfInBounds_toArray, List.set_cons_zero, List.set_cons_succ]))
          | (fail "HTAKE 9")
        refine wpAnyH_done (by kernel_rfl) ?_ _
        go_wp2_with fail
        go_ret
        exact ⟨false, rfl, ⟨(fun e => by cases e), (fun e => absurd e (HF.out (fun h => by cases HI.out.2 h)))⟩, HB2.out⟩
    · obtain rfl : i = n := by omega
      have HE := Lib.hid (rel_full hla hlb HP.out)
      go_wp2_with fail
      go_ret
      exact ⟨true, rfl, ⟨(fun _ => HE.out), (fun _ => rfl)⟩, HB.out⟩
/-- States alike. -/
def SameS (x y : STATE.Ty) : Prop := x.1 = y.1 ∧ SameTs x.2.1 y.2.1
set_option maxRecDepth 20000 in
theorem SameS.refl (x : STATE.Ty) : SameS x x := ⟨rfl, SameTs.refl _⟩
end Go.Proofs.Ytfjnpiahloncmaa
