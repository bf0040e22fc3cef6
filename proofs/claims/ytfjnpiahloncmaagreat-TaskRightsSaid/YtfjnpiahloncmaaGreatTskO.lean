import Derived.Test.YtfjnpiahloncmaaGreatTskR
namespace Go.Proofs.YtfjnpiahloncmaaGreat
open Go.RowKit Cdc
set_option linter.unusedVariables false
set_option linter.unusedSimpArgs false
attribute [local go_sem] run_store_float
def nanB (f : Nat) : Bool := FloatKind.f64.format.order f f != some .eq
def oneE (ls : List LIST.Ty) (t : TASK.Ty) : Int :=
  if (findL ls t.2.1).2 = false then 91 else if titleB t.2.2.1 = false then 94 else if nanB t.2.2.2.2.1 = true ∨ canB t.2.2.2.2.1 = false then 100 else if canB t.2.2.2.2.2.1 = false then 90 else tagsE t.2.2.2.2.2.2.1
def lsE : Int → List LIST.Ty → Int
  | _, [] => 0
  | a, x :: l => if x.1 ≤ a then 91 else if titleB x.2.1 = false then 94 else lsE x.1 l
def tsE (ls : List LIST.Ty) : Int → List TASK.Ty → Int
  | _, [] => 0
  | a, x :: l => if x.1 ≤ a then 93 else if oneE ls x ≠ 0 then oneE ls x else tsE ls x.1 l
def rightE (ls : List LIST.Ty) (ts : List TASK.Ty) : Int := if 20 < ls.length ∨ 60 < ts.length then 95 else if lsE 0 ls ≠ 0 then lsE 0 ls else tsE ls 0 ts
set_option maxHeartbeats 2000000 in
set_option maxRecDepth 20000 in
theorem one_any (w : World) (A B : Option Addr) (n ca m cb : Nat) (ls : List LIST.Ty) (i1 l1 : Int) (t1 : ByteArray) (d1 : Bool) (r1 e1 : Nat) (A1 : Option Addr) (k1 c1 : Nat) (g1 : List ByteArray) (ha : Rows w anyB LIST A n ls) (hn : n ≤ 9223372036854775807) (ht : t1.size ≤ 9223372036854775807) (hg : Rows w anyB .str A1 k1 g1) (hk : k1 ≤ 9223372036854775807) :
    Calls Tryz.prog 21 #[.agg #[Value.slice A n ca, Value.slice B m cb], .agg #[Value.int .u64 i1, Value.int .u64 l1, Value.string t1, Value.bool d1, Value.float .f64 r1, Value.float .f64 e1, Value.slice A1 k1 c1]] w fun e w' => e = .returned (.int .i64 (oneE ls (i1, l1, t1, d1, r1, e1, g1, ()))) ∧ Below w.heap.size w w' := by
  have h1 := blk_alloc (heap_alloc_new w (.cells #[Value.slice A n ca, Value.slice B m cb] 25)) (.cells #[Value.int .u64 i1, Value.int .u64 l1, Value.string t1, Value.bool d1, Value.float .f64 r1, Value.float .f64 e1, Value.slice A1 k1 c1] 37)
  have h2 := heap_alloc2_new w (.cells #[Value.slice A n ca, Value.slice B m cb] 25) (.cells #[Value.int .u64 i1, Value.int .u64 l1, Value.string t1, Value.bool d1, Value.float .f64 r1, Value.float .f64 e1, Value.slice A1 k1 c1] 37)
  have HW := Lib.hid ((below_alloc1 w (.cells #[Value.slice A n ca, Value.slice B m cb] 25)).alloc (by simp) (.cells #[Value.int .u64 i1, Value.int .u64 l1, Value.string t1, Value.bool d1, Value.float .f64 r1, Value.float .f64 e1, Value.slice A1 k1 c1] 37))
  obtain ⟨q0, q1, q2, q3, q4, q5, q6⟩ := blk7 h2
  go_enter Tryz.func21, Tryz.ntmps21
  obtain ⟨W, hW⟩ : ∃ W, (w.alloc (.cells #[Value.slice A n ca, Value.slice B m cb] 25)).alloc (.cells #[Value.int .u64 i1, Value.int .u64 l1, Value.string t1, Value.bool d1, Value.float .f64 r1, Value.float .f64 e1, Value.slice A1 k1 c1] 37) = W := ⟨_, rfl⟩
  rw [hW] at q0 q1 q2 q3 q4 q5 q6 h1 HW
  have H1 := Lib.hid h1
  have HA := Lib.hid ha
  have HG := Lib.hid hg
  clear h1 h2 ha hg
  go_wp2_with (refine wpL_load rfl 25 (.tmp 2) rfl ⟨w.heap.size, 0, none⟩ rfl _ _ (At.blk H1.out) Tryz.underlying25 rfl rfl ?_)
  refine (lists_any W A B n ca m cb ls l1 (HA.out.below HW.out) hn).mono ?_
  rintro e w2 ⟨cs, rfl, hr2, hw2⟩
  obtain ⟨z1, z2, hz, rfl, _⟩ := rd_lst hr2
  have HB2 := Lib.hid (HW.out.trans (hw2.mono HW.out.size))
  have hwb := hw2.trans ((below_alloc1 w2 (.cells #[.int .u64 z1, .string z2] 42)).mono hw2.size)
  have p2 := cell_below hwb q2
  have p4 := cell_below hwb q4
  have p5 := cell_below hwb q5
  have p6 := cell_below hwb q6
  clear hwb
  clear hr2 hz hw2 q0 q1 q2 q3 q4 q5 q6
  cases hf : (findL ls l1).2 with
  | false =>
    have HV := Lib.hid (show oneE ls (i1, l1, t1, d1, r1, e1, g1, ()) = 91 by unfold oneE; rw [if_pos hf])
    clear hf
    go_wp2_with fail
    go_ret
    exact ⟨ret_int HV.out.symm, HB2.out.trans ((below_alloc1 w2 _).mono HB2.out.size)⟩
  | true =>
  have HV1 := Lib.hid (show oneE ls (i1, l1, t1, d1, r1, e1, g1, ()) = if titleB t1 = false then 94 else if nanB r1 = true ∨ canB r1 = false then 100 else if canB e1 = false then 90 else tagsE g1 by unfold oneE; rw [if_neg (by rw [hf]; simp)])
  clear hf
  go_wp2_with fail
  refine (title_any _ t1 ht).mono ?_
  rintro e w3 ⟨rfl, hw3⟩
  have HB3 := Lib.hid ((HB2.out.trans ((below_alloc1 w2 _).mono HB2.out.size)).trans (hw3.mono (by have := HB2.out.size; simp; omega)))
  have q4 := cell_below hw3 p4
  have q5 := cell_below hw3 p5
  have q6 := cell_below hw3 p6
  clear hw3 p2 p4 p5 p6
  cases htt : titleB t1 with
  | false =>
    have HV := Lib.hid (show oneE ls (i1, l1, t1, d1, r1, e1, g1, ()) = 94 by rw [HV1.out, if_pos htt])
    clear htt
    go_wp2_with fail
    go_ret
    exact ⟨ret_int HV.out.symm, HB3.out⟩
  | true =>
  have HV2 := Lib.hid (show oneE ls (i1, l1, t1, d1, r1, e1, g1, ()) = if nanB r1 = true ∨ canB r1 = false then 100 else if canB e1 = false then 90 else tagsE g1 by rw [HV1.out, if_neg (by rw [htt]; simp)])
  clear htt
  cases hnn : nanB r1 with
  | true =>
    have HV := Lib.hid (show oneE ls (i1, l1, t1, d1, r1, e1, g1, ()) = 100 by rw [HV2.out, if_pos (.inl hnn)])
    unfold nanB at hnn
    go_wp2_with fail
    go_ret
    exact ⟨ret_int HV.out.symm, HB3.out⟩
  | false =>
  have HNN := Lib.hid hnn
  unfold nanB at hnn
  go_wp2_with fail
  refine (canon_one _ _).mono ?_
  rintro e w' ⟨rfl, rfl⟩
  clear hnn
  cases hcr : canB r1 with
  | false =>
    have HV := Lib.hid (show oneE ls (i1, l1, t1, d1, r1, e1, g1, ()) = 100 by rw [HV2.out, if_pos (.inr hcr)])
    clear hcr
    go_wp2_with fail
    go_ret
    exact ⟨ret_int HV.out.symm, HB3.out⟩
  | true =>
  have HV3 := Lib.hid (show oneE ls (i1, l1, t1, d1, r1, e1, g1, ()) = if canB e1 = false then 90 else tagsE g1 by rw [HV2.out, if_neg (by rw [HNN.out, hcr]; simp)])
  clear hcr
  go_wp2_with fail
  refine (canon_one _ _).mono ?_
  rintro e w' ⟨rfl, rfl⟩
  cases hce : canB e1 with
  | false =>
    have HV := Lib.hid (show oneE ls (i1, l1, t1, d1, r1, e1, g1, ()) = 90 by rw [HV3.out, if_pos hce])
    clear hce
    go_wp2_with fail
    go_ret
    exact ⟨ret_int HV.out.symm, HB3.out⟩
  | true =>
  have HV4 := Lib.hid (show oneE ls (i1, l1, t1, d1, r1, e1, g1, ()) = tagsE g1 by rw [HV3.out, if_neg (by rw [hce]; simp)])
  clear hce
  go_wp2_with fail
  refine (tags_any w3 A1 k1 c1 g1 (HG.out.below HB3.out) hk).mono ?_
  rintro e w4 ⟨rfl, hw4⟩
  have HB4 := Lib.hid (HB3.out.trans (hw4.mono HB3.out.size))
  go_wp2_with fail
  go_ret
  exact ⟨ret_int HV4.out.symm, HB4.out⟩
end Go.Proofs.YtfjnpiahloncmaaGreat
