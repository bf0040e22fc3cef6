import Derived.Test.YtfjnpiahloncmaaGreatTskO
namespace Go.Proofs.YtfjnpiahloncmaaGreat
open Go.RowKit Cdc
set_option linter.unusedVariables false
set_option linter.unusedSimpArgs false
attribute [local go_sem] run_store_float
set_option maxRecDepth 20000 in
theorem lsE_at {l : List LIST.Ty} {i : Nat} {x : LIST.Ty} (a : Int) (hx : l[i]? = some x) : lsE a (l.drop i) = if x.1 ≤ a then 91 else if titleB x.2.1 = false then 94 else lsE x.1 (l.drop (i + 1)) := by
  have hl := (List.getElem?_eq_some_iff.1 hx).1
  have hg := (List.getElem?_eq_some_iff.1 hx).2
  rw [List.drop_eq_getElem_cons hl, hg]
  rfl
set_option maxRecDepth 20000 in
theorem tsE_at {ls : List LIST.Ty} {l : List TASK.Ty} {i : Nat} {x : TASK.Ty} (a : Int) (hx : l[i]? = some x) : tsE ls a (l.drop i) = if x.1 ≤ a then 93 else if oneE ls x ≠ 0 then oneE ls x else tsE ls x.1 (l.drop (i + 1)) := by
  have hl := (List.getElem?_eq_some_iff.1 hx).1
  have hg := (List.getElem?_eq_some_iff.1 hx).2
  rw [List.drop_eq_getElem_cons hl, hg]
  rfl
set_option maxHeartbeats 2000000 in
set_option maxRecDepth 20000 in
theorem right_any (w : World) (A B : Option Addr) (n ca m cb : Nat) (ls : List LIST.Ty) (ts : List TASK.Ty) (ha : Rows w anyB LIST A n ls) (hb : Rows w anyB TASK B m ts) (hn : n ≤ 9223372036854775807) (hm : m ≤ 9223372036854775807) :
    Calls Tryz.prog 7 #[.agg #[Value.slice A n ca, Value.slice B m cb]] w fun e w' => e = .returned (.int .i64 (rightE ls ts)) ∧ Below w.heap.size w w' := by
  have h0 := heap_alloc_new w (.cells #[Value.slice A n ca, Value.slice B m cb] 25)
  obtain ⟨p0, p1⟩ := blk2 h0
  have HW := Lib.hid (below_alloc1 w (.cells #[Value.slice A n ca, Value.slice B m cb] 25))
  have hla := ha.1
  have hlb := hb.1
  go_enter Tryz.func7, Tryz.ntmps7
  by_cases h20 : (20 : Int) < (n : Int)
  · have HV := Lib.hid (show rightE ls ts = 95 by unfold rightE; rw [if_pos (.inl (by omega))])
    clear h0
    go_wp2_with fail
    go_ret
    exact ⟨ret_int HV.out.symm, HW.out⟩
  by_cases h60 : (60 : Int) < (m : Int)
  · have HV := Lib.hid (show rightE ls ts = 95 by unfold rightE; rw [if_pos (.inr (by omega))])
    clear h0
    go_wp2_with fail
    go_ret
    exact ⟨ret_int HV.out.symm, HW.out⟩
  have HV := Lib.hid (show rightE ls ts = if lsE 0 ls ≠ 0 then lsE 0 ls else tsE ls 0 ts by unfold rightE; rw [if_neg (by omega)])
  obtain ⟨W, hW⟩ : ∃ W, w.alloc (.cells #[Value.slice A n ca, Value.slice B m cb] 25) = W := ⟨_, rfl⟩
  rw [hW] at p0 p1 h0 HW
  have H0 := Lib.hid h0
  have hszW : w.heap.size < W.heap.size := by rw [← hW]; simp
  have HLA := Lib.hid hla
  have HLB := Lib.hid hlb
  clear h0 hla hlb
  go_wp2_with fail
  go_loopw [3, 22] (fun s3 s22 wr => ∃ (i : Nat) (a : Int), i ≤ n ∧ s3 = .int .u64 a ∧ s22 = .int .i64 i ∧ lsE 0 ls = lsE a (ls.drop i) ∧ Below W.heap.size W wr) (fun _ s22 _ => n - (intOf s22).toNat)
  case atStart => exact ⟨0, 0, by omega, rfl, rfl, rfl, Below.refl _ _⟩
  case round =>
    obtain ⟨i, a, hi, rfl, rfl, hP, hbel⟩ := hrel
    have HB := Lib.hid hbel
    have HWr := Lib.hid (HW.out.trans (hbel.mono HW.out.size))
    by_cases hlt : i < n
    · obtain ⟨ad, x, cs, rfl, hx, hat, hrd⟩ := ha.get i hlt
      have i0 : (0 : Int) ≤ (i : Int) := by omega
      have i1 : (i : Int) < (n : Int) := by omega
      have HAt := Lib.hid (hat.below HWr.out)
      obtain ⟨k1, t1, rfl, rfl, hok⟩ := rd_lst hrd
      have HT1 := Lib.hid hok.2
      rw [lsE_at a hx] at hP
      simp only at hP
      have hc := heap_alloc_new wr (.cells #[.int .u64 k1, .string t1] 42)
      have HBa := Lib.hid (below_alloc1 wr (.cells #[.int .u64 k1, .string t1] 42))
      obtain ⟨c0, c1⟩ := blk2 hc
      clear hc hat hrd hx ha hok hb
      by_cases hle : k1 ≤ a
      · have HE := Lib.hid (show rightE ls ts = 91 by rw [HV.out, hP, if_pos hle, if_pos (by decide)])
        clear hP
        go_wp2_with (first | (refine wpL_load rfl 42 _ rfl _ rfl _ _ HAt.out Tryz.underlying42 rfl rfl ?_))
        go_ret
        exact ⟨ret_int HE.out.symm, HWr.out.trans (HBa.out.mono HWr.out.size)⟩
      · cases htt : titleB t1 with
        | false =>
          have HE := Lib.hid (show rightE ls ts = 94 by rw [HV.out, hP, if_neg hle, if_pos htt, if_pos (by decide)])
          have HTi := Lib.hid (title_any (wr.alloc (.cells #[.int .u64 k1, .string t1] 42)) t1 HT1.out)
          rw [htt] at HTi
          clear hP htt
          go_wp2_with (first
            | (refine wpL_load rfl 42 _ rfl _ rfl _ _ HAt.out Tryz.underlying42 rfl rfl ?_)
            | (go_at_call 11; refine HTi.out.mono ?_; rintro e w3 ⟨rfl, hw3⟩))
          go_ret
          exact ⟨ret_int HE.out.symm, HWr.out.trans ((HBa.out.trans (hw3.mono HBa.out.size)).mono HWr.out.size)⟩
        | true =>
          have HN := Lib.hid (show lsE 0 ls = lsE k1 (ls.drop (i + 1)) by rw [hP, if_neg hle, if_neg (by rw [htt]; simp)])
          have HTi := Lib.hid (title_any (wr.alloc (.cells #[.int .u64 k1, .string t1] 42)) t1 HT1.out)
          rw [htt] at HTi
          clear hP htt
          go_wp2_with (first
            | (refine wpL_load rfl 42 _ rfl _ rfl _ _ HAt.out Tryz.underlying42 rfl rfl ?_)
            | (go_at_call 11; refine HTi.out.mono ?_; rintro e w3 ⟨rfl, hw3⟩; have d0 := cell_below hw3 c0))
          go_roundw
          case measure => simp [intOf]; omega
          case rel => exact ⟨i + 1, k1, by omega, rfl, by go_num, HN.out, HB.out.trans ((HBa.out.trans (hw3.mono HBa.out.size)).mono HB.out.size)⟩
    · obtain rfl : i = n := by omega
      have HV2 := Lib.hid (show rightE ls ts = tsE ls 0 ts by rw [HV.out, if_neg (by rw [hP, List.drop_eq_nil_of_le (by rw [HLA.out]; omega)]; simp [lsE])])
      have q1 := cell_below hbel p1
      have H0r := Lib.hid (blk_below H0.out hbel hszW)
      have hszr : w.heap.size < wr.heap.size := Nat.lt_of_lt_of_le hszW hbel.size
      clear hP hbel HB p0 p1
      go_wp2_with fail
      go_loopw [3, 40] (fun s3 s40 wz => ∃ (j : Nat) (a : Int), j ≤ m ∧ s3 = .int .u64 a ∧ s40 = .int .i64 j ∧ tsE ls 0 ts = tsE ls a (ts.drop j) ∧ Below wr.heap.size wr wz) (fun _ s40 _ => m - (intOf s40).toNat)
      case atStart => exact ⟨0, 0, by omega, rfl, rfl, rfl, Below.refl _ _⟩
      case round =>
        obtain ⟨j, a, hj, rfl, rfl, hP, hbel⟩ := hrel
        have HB := Lib.hid hbel
        have HWz := Lib.hid (HWr.out.trans (hbel.mono HWr.out.size))
        have H0z := Lib.hid (blk_below H0r.out hbel hszr)
        by_cases hlt : j < m
        · obtain ⟨ad, x, cs, rfl, hx, hat, hrd⟩ := hb.get j hlt
          have i0 : (0 : Int) ≤ (j : Int) := by omega
          have i1 : (j : Int) < (m : Int) := by omega
          have HAt := Lib.hid (hat.below HWz.out)
          obtain ⟨k1, l1, t1, d1, r1, e1, g1, A1, c1', rfl, rfl, hok, hg1⟩ := rd_task hrd
          rw [tsE_at a hx] at hP
          simp only at hP
          have hc := heap_alloc_new wr (.cells #[Value.int .u64 k1, Value.int .u64 l1, Value.string t1, Value.bool d1, Value.float .f64 r1, Value.float .f64 e1, Value.slice A1 g1.length c1'] 37)
          have HBa := Lib.hid (below_alloc1 wr (.cells #[Value.int .u64 k1, Value.int .u64 l1, Value.string t1, Value.bool d1, Value.float .f64 r1, Value.float .f64 e1, Value.slice A1 g1.length c1'] 37))
          have HWa := Lib.hid (HWz.out.trans (HBa.out.mono HWz.out.size))
          have HC := Lib.hid hc
          obtain ⟨c0, c1, c2, c3, c4, c5, c6⟩ := blk7 hc
          have HOn := Lib.hid (one_any (wr.alloc (.cells #[Value.int .u64 k1, Value.int .u64 l1, Value.string t1, Value.bool d1, Value.float .f64 r1, Value.float .f64 e1, Value.slice A1 g1.length c1'] 37)) A (some ad) i ca m cb ls k1 l1 t1 d1 r1 e1 A1 g1.length c1' g1 (ha.below HWa.out) hn hok.2.2.1 (rd_rows (hg1.below HWa.out)) (by have := rd_rowsN hg1; omega))
          clear hc hat hrd hx hb hok hg1 ha
          by_cases hle : k1 ≤ a
          · have HE := Lib.hid (show rightE ls ts = 93 by rw [HV2.out, hP, if_pos hle])
            clear hP
            go_wp2_with (first | (refine wpL_load rfl 37 _ rfl _ rfl _ _ HAt.out Tryz.underlying37 rfl rfl ?_))
            go_ret
            exact ⟨ret_int HE.out.symm, HWa.out⟩
          · by_cases hz : oneE ls (k1, l1, t1, d1, r1, e1, g1, ()) = 0
            · have HN := Lib.hid (show tsE ls 0 ts = tsE ls k1 (ts.drop (j + 1)) by rw [hP, if_neg hle, if_neg (by rw [hz]; simp)])
              rw [hz] at HOn
              clear hP hz
              go_wp2_with (first
                | (refine wpL_load rfl 37 (.tmp 42) rfl _ rfl _ _ HAt.out Tryz.underlying37 rfl rfl ?_)
                | (refine wpL_load rfl 25 (.tmp 1) rfl ⟨w.heap.size, 0, none⟩ rfl _ _ (At.blk (blk_alloc H0z.out _)) Tryz.underlying25 rfl rfl ?_)
                | (refine wpL_load rfl 37 (.tmp 7) rfl ⟨wr.heap.size, 0, none⟩ rfl _ _ (At.blk HC.out) Tryz.underlying37 rfl rfl ?_)
                | (go_at_call 21; refine HOn.out.mono ?_; rintro e w3 ⟨rfl, hw3⟩; have d0 := cell_below hw3 c0))
              go_roundw
              case measure => simp [intOf]; omega
              case rel => exact ⟨j + 1, k1, by omega, rfl, by go_num, HN.out, HB.out.trans ((HBa.out.trans (hw3.mono HBa.out.size)).mono HB.out.size)⟩
            · have HE := Lib.hid (show rightE ls ts = oneE ls (k1, l1, t1, d1, r1, e1, g1, ()) by rw [HV2.out, hP, if_neg hle, if_pos hz])
              obtain ⟨E, hEE⟩ : ∃ E, oneE ls (k1, l1, t1, d1, r1, e1, g1, ()) = E := ⟨_, rfl⟩
              rw [hEE] at HOn HE hz
              have hz2 : (E != 0) = true := bne_iff_ne.2 hz
              clear hP hEE hz
              go_wp2_with (first
                | (refine wpL_load rfl 37 (.tmp 42) rfl _ rfl _ _ HAt.out Tryz.underlying37 rfl rfl ?_)
                | (refine wpL_load rfl 25 (.tmp 1) rfl ⟨w.heap.size, 0, none⟩ rfl _ _ (At.blk (blk_alloc H0z.out _)) Tryz.underlying25 rfl rfl ?_)
                | (refine wpL_load rfl 37 (.tmp 7) rfl ⟨wr.heap.size, 0, none⟩ rfl _ _ (At.blk HC.out) Tryz.underlying37 rfl rfl ?_)
                | (go_at_call 21; refine HOn.out.mono ?_; rintro e w3 ⟨rfl, hw3⟩; have d0 := cell_below hw3 c0))
              go_ret
              exact ⟨ret_int HE.out.symm, HWz.out.trans ((HBa.out.trans (hw3.mono HBa.out.size)).mono HWz.out.size)⟩
        · obtain rfl : j = m := by omega
          have HE := Lib.hid (show rightE ls ts = 0 by rw [HV2.out, hP, List.drop_eq_nil_of_le (by rw [HLB.out]; omega)]; rfl)
          clear hP
          go_wp2_with fail
          go_ret
          exact ⟨ret_int HE.out.symm, HWz.out⟩
end Go.Proofs.YtfjnpiahloncmaaGreat
