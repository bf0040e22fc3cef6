import Derived.Test.YtfjnpiahloncmaaCanA
import Derived.Test.YtfjnpiahloncmaaLayC
namespace Go.Proofs.Ytfjnpiahloncmaa
open Go.RowKit Go.Sort Go.Shelf
set_option linter.unusedVariables false
set_option linter.unusedSimpArgs false
set_option maxRecDepth 20000 in
theorem nan_u64 (a : Int) (w : World) : Calls Try.prog 43 #[.int .u64 a] w fun e w' => e = .returned (.bool false) ∧ w = w' := by
  have h : (a != a) = false := by simp
  go_enter Try.func43, Try.ntmps43
  go_wp2
  go_ret
  exact ⟨rfl, rfl⟩
set_option maxRecDepth 20000 in
theorem comp_u64 (a b : Int) (w : World) : Calls Try.prog 24 #[.int .u64 a, .int .u64 b] w fun e w' => e = .returned (.int .i64 (Lib.compareInt a b)) ∧ w = w' := by
  unfold Lib.compareInt
  go_enter Try.func24, Try.ntmps24
  by_cases h1 : a < b
  · rw [if_pos h1]
    go_wp2_with (go_at_call 43; refine (nan_u64 _ _).mono ?_; rintro e w' ⟨rfl, rfl⟩)
    go_ret
    exact ⟨rfl, rfl⟩
  · rw [if_neg h1]
    by_cases h2 : b < a
    · rw [if_pos h2]
      go_wp2_with (go_at_call 43; refine (nan_u64 _ _).mono ?_; rintro e w' ⟨rfl, rfl⟩)
      go_ret
      exact ⟨rfl, rfl⟩
    · rw [if_neg h2]
      go_wp2_with (go_at_call 43; refine (nan_u64 _ _).mono ?_; rintro e w' ⟨rfl, rfl⟩)
      go_ret
      exact ⟨rfl, rfl⟩
set_option maxRecDepth 20000 in
theorem lt_cmp {α : Type} (f : α → Int) (x y : α) : ltOf (fun x y => Lib.compareInt (f x) (f y)) x y = decide (f x < f y) := by
  unfold ltOf Lib.compareInt
  by_cases h1 : f x < f y
  · simp [h1]
  · by_cases h2 : f y < f x <;> simp [h1, h2]
set_option maxRecDepth 20000 in
theorem swo_cmp {α : Type} (f : α → Int) : SWO (ltOf fun x y : α => Lib.compareInt (f x) (f y)) where
  irrefl x := by rw [lt_cmp]; simp
  trans x y z h1 h2 := by rw [lt_cmp] at *; simp at *; omega
  ntrans x y z h1 h2 := by rw [lt_cmp] at *; simp at *; omega
def encL (x : LIST.Ty) : List Value := [.int .u64 x.1, .string x.2.1]
set_option maxRecDepth 20000 in
theorem closeL (x y : LIST.Ty) (W : World) : Calls Try.prog 23 #[.agg (encL x).toArray, .agg (encL y).toArray] W fun e w' => e = .returned (.int .i64 (Lib.compareInt x.1 y.1)) ∧ ∃ q os', w' = grow (W.drewN q) os' := by
  show Calls Try.prog 23 #[.agg #[.int .u64 x.1, .string x.2.1], .agg #[.int .u64 y.1, .string y.2.1]] W _
  have hcon := fun W' => comp_u64 x.1 y.1 W'
  generalize Lib.compareInt x.1 y.1 = r at hcon ⊢
  go_enter Try.func23, Try.ntmps23
  go_wp2_with (go_at_call 24; refine (hcon _).mono ?_; rintro e w' ⟨rfl, rfl⟩)
  go_ret
  exact ⟨rfl, 0, _, by rw [alloc_eq_grow, alloc_eq_grow, grow_grow]; rfl⟩
set_option maxRecDepth 20000 in
theorem sortL_own (w : World) (base : Nat) (v : Value) (l : List LIST.Ty) (h : Own w base 37 LIST v l) (hl : l.length ≤ 100000) (hB : base ≤ w.heap.size) :
    Calls Try.prog 22 #[v, .func (.func 23) #[] #[]] w fun e' w' => e' = .returned (.tuple #[]) ∧ ∃ l', Own w' base 37 LIST v l' ∧ l'.Perm l ∧ l'.Pairwise (fun x y => x.1 ≤ y.1) ∧ Below base w w' ∧ w.grownBy w' v.ownBlock := by
  have eg : ∀ args w, (callFunc 23 args).run Try.prog w = .ok (.enter 23 args) w := enters_of Try.func23 (by kernel_rfl) rfl
  refine sortOwn (P := Try.prog) (S := LIST) (α := LIST.Ty) (enc := encL) (dat := fun x => x) (key := fun x => x.1) (cf := fun x y => Lib.compareInt x.1 y.1) ?_ (fun _ => rfl) (fun _ _ => rfl) ?_ ?_ h hl hB
  · intro w ok x cs hr
    obtain ⟨a, b, rfl, rfl, _⟩ := rd_lst hr
    exact ⟨_, rfl, rfl⟩
  · have hcon := AnyF.slices_SortFunc_none (P := Try.prog) (ρ := Try.sortL_ren) { Try.sortL with } none 0 (.func (.func 23) #[] #[]) w
    change Calls Try.prog 22 _ _ _ at hcon
    refine hcon.mono ?_
    rintro e w' ⟨rfl, rfl⟩
    exact ⟨rfl, rfl⟩
  · intro blk cap d hH hb hs
    have hc : CmpLays Try.prog 23 #[] encL 2 (fun x y : LIST.Ty => Lib.compareInt x.1 y.1) blk 0 d.size w := fun _ _ _ _ x y => closeL x y _
    have hcon := AnyQ.slices_SortFunc (P := Try.prog) (ρ := Try.sortL_ren) Try.sortL 2 Try.isAgg37 Try.sizeOf37 encL (fun _ => rfl) (fun x v hv => by simp [encL] at hv; rcases hv with rfl | rfl <;> rfl) (fun x y : LIST.Ty => Lib.compareInt x.1 y.1) (swo_cmp fun x : LIST.Ty => x.1) 23 #[] blk 0 cap d w eg hc hH hb hs
    change Calls Try.prog 22 _ _ _ at hcon
    exact hcon
abbrev TKS : Type := Int × Int × ByteArray × Bool × Nat × Nat × List ByteArray × Option Addr × Nat × Nat
def encK (x : TKS) : List Value := [.int .u64 x.1, .int .u64 x.2.1, .string x.2.2.1, .bool x.2.2.2.1, .float .f64 x.2.2.2.2.1, .float .f64 x.2.2.2.2.2.1, .slice x.2.2.2.2.2.2.2.1 x.2.2.2.2.2.2.2.2.1 x.2.2.2.2.2.2.2.2.2]
def datK (x : TKS) : TASK.Ty := (x.1, x.2.1, x.2.2.1, x.2.2.2.1, x.2.2.2.2.1, x.2.2.2.2.2.1, x.2.2.2.2.2.2.1, ())
set_option maxRecDepth 20000 in
theorem closeT (x y : TKS) (W : World) : Calls Try.prog 26 #[.agg (encK x).toArray, .agg (encK y).toArray] W fun e w' => e = .returned (.int .i64 (Lib.compareInt x.1 y.1)) ∧ ∃ q os', w' = grow (W.drewN q) os' := by
  show Calls Try.prog 26 #[.agg #[.int .u64 x.1, .int .u64 x.2.1, .string x.2.2.1, .bool x.2.2.2.1, .float .f64 x.2.2.2.2.1, .float .f64 x.2.2.2.2.2.1, .slice x.2.2.2.2.2.2.2.1 x.2.2.2.2.2.2.2.2.1 x.2.2.2.2.2.2.2.2.2], .agg #[.int .u64 y.1, .int .u64 y.2.1, .string y.2.2.1, .bool y.2.2.2.1, .float .f64 y.2.2.2.2.1, .float .f64 y.2.2.2.2.2.1, .slice y.2.2.2.2.2.2.2.1 y.2.2.2.2.2.2.2.2.1 y.2.2.2.2.2.2.2.2.2]] W _
  have hcon := fun W' => comp_u64 x.1 y.1 W'
  generalize Lib.compareInt x.1 y.1 = r at hcon ⊢
  go_enter Try.func26, Try.ntmps26
  go_wp2_with (go_at_call 24; refine (hcon _).mono ?_; rintro e w' ⟨rfl, rfl⟩)
  go_ret
  exact ⟨rfl, 0, _, by rw [alloc_eq_grow, alloc_eq_grow, grow_grow]; rfl⟩
set_option maxRecDepth 20000 in
theorem sortT_own (w : World) (base : Nat) (v : Value) (l : List TASK.Ty) (h : Own w base 41 TASK v l) (hl : l.length ≤ 100000) (hB : base ≤ w.heap.size) :
    Calls Try.prog 25 #[v, .func (.func 26) #[] #[]] w fun e' w' => e' = .returned (.tuple #[]) ∧ ∃ l', Own w' base 41 TASK v l' ∧ l'.Perm l ∧ l'.Pairwise (fun x y => x.1 ≤ y.1) ∧ Below base w w' ∧ w.grownBy w' v.ownBlock := by
  have eg : ∀ args w, (callFunc 26 args).run Try.prog w = .ok (.enter 26 args) w := enters_of Try.func26 (by kernel_rfl) rfl
  refine sortOwn (P := Try.prog) (S := TASK) (α := TKS) (enc := encK) (dat := datK) (key := fun x => x.1) (cf := fun x y => Lib.compareInt x.1 y.1) ?_ (fun _ => rfl) (fun _ _ => rfl) ?_ ?_ h hl hB
  · intro w ok x cs hr
    obtain ⟨a0, a1, a2, a3, a4, a5, a6, A6, c6, rfl, rfl, _⟩ := rd_task hr
    exact ⟨(a0, a1, a2, a3, a4, a5, a6, A6, a6.length, c6), rfl, rfl⟩
  · have hcon := AnyF.slices_SortFunc_none (P := Try.prog) (ρ := Try.sortT_ren) { Try.sortT with } none 0 (.func (.func 26) #[] #[]) w
    change Calls Try.prog 25 _ _ _ at hcon
    refine hcon.mono ?_
    rintro e w' ⟨rfl, rfl⟩
    exact ⟨rfl, rfl⟩
  · intro blk cap d hH hb hs
    have hc : CmpLays Try.prog 26 #[] encK 7 (fun x y : TKS => Lib.compareInt x.1 y.1) blk 0 d.size w := fun _ _ _ _ x y => closeT x y _
    have hcon := AnyQ.slices_SortFunc (P := Try.prog) (ρ := Try.sortT_ren) Try.sortT 7 Try.isAgg41 Try.sizeOf41 encK (fun _ => rfl) (fun x v hv => by simp [encK] at hv; rcases hv with rfl | rfl | rfl | rfl | rfl | rfl | rfl <;> rfl) (fun x y : TKS => Lib.compareInt x.1 y.1) (swo_cmp fun x : TKS => x.1) 26 #[] blk 0 cap d w eg hc hH hb hs
    change Calls Try.prog 25 _ _ _ at hcon
    exact hcon
end Go.Proofs.Ytfjnpiahloncmaa
