import Derived.Test.YtfjnpiahloncmaaGreatTskW
namespace Go.Proofs.YtfjnpiahloncmaaGreat
open Go.RowKit Cdc
set_option linter.unusedVariables false
set_option linter.unusedSimpArgs false
attribute [local go_sem] run_store_float
set_option maxRecDepth 20000 in
theorem encList_le {x : LIST.Ty} (h : SmallL x) : (encList x).length ≤ 118 := by
  have h1 := encN_le x.1.toNat
  have h2 := encS_le x.2.1
  have : x.2.1.size ≤ 100 := h
  unfold encList
  rw [List.length_append]; omega
set_option maxRecDepth 20000 in
theorem encTask_le {t : TASK.Ty} (h : SmallT t) : (encTask t).length ≤ 1034 := by
  obtain ⟨ht, hk, hg⟩ := h
  have h1 := encN_le t.1.toNat
  have h2 := encN_le t.2.1.toNat
  have h3 := encS_le t.2.2.1
  have h4 := encN_le (if t.2.2.2.1 = true then 1 else 0)
  have h5 := encN_le t.2.2.2.2.2.2.1.length
  have h6 : (encTags t.2.2.2.2.2.2.1).length ≤ 109 * t.2.2.2.2.2.2.1.length := by
    clear h1 h2 h3 h4 h5 hk
    revert hg
    generalize t.2.2.2.2.2.2.1 = l
    intro hg
    induction l with
    | nil => exact Nat.zero_le _
    | cons x l ih =>
      have h1 := encS_le x
      have h2 := hg x List.mem_cons_self
      have h3 := ih (fun y hy => hg y (List.mem_cons_of_mem _ hy))
      show (encS x ++ encTags l).length ≤ _
      rw [List.length_append, List.length_cons]; omega
  unfold encTask
  simp only [List.length_append, be_len]
  omega
set_option maxRecDepth 20000 in
theorem flat_le {α : Type} {f : α → List UInt8} {K : Nat} {l : List α} (h : ∀ x ∈ l, (f x).length ≤ K) : (l.flatMap f).length ≤ K * l.length := by
  induction l with
  | nil => exact Nat.zero_le _
  | cons x l ih =>
    have h2 := h x List.mem_cons_self
    have h3 := ih (fun y hy => h y (List.mem_cons_of_mem _ hy))
    rw [List.flatMap_cons, List.length_append, List.length_cons, Nat.mul_add]; omega
set_option maxRecDepth 20000 in
theorem flat_snoc {α : Type} {f : α → List UInt8} {l : List α} {x : α} : (l ++ [x]).flatMap f = l.flatMap f ++ f x := by simp
set_option maxRecDepth 20000 in
theorem encState_le {ls : List LIST.Ty} {ts : List TASK.Ty} (h : LightP ls ts) : (encState ls ts).length ≤ 100000 := by
  obtain ⟨h1, h2, h3, h4⟩ := h
  have a := flat_le (f := encList) (l := ls) (fun x hx => encList_le (h3 x hx))
  have b := flat_le (f := encTask) (l := ts) (fun x hx => encTask_le (h4 x hx))
  have c := encN_le ls.length
  have d := encN_le ts.length
  unfold encState
  simp only [List.length_append]
  omega
set_option maxHeartbeats 2000000 in
set_option maxRecDepth 20000 in
theorem put_state (w : World) (A B0 : Option Addr) (n ca m cb : Nat) (ls : List LIST.Ty) (ts : List TASK.Ty) (ha : Rows w anyB LIST A n ls) (hb : Rows w anyB TASK B0 m ts) (hq : LightP ls ts) :
    Calls Tryz.prog 12 #[.agg #[Value.slice A n ca, Value.slice B0 m cb]] w fun e w' => ∃ v', e = .returned v' ∧ Rd w' (fun k => w.heap.size ≤ k) (.sl .byte) (encState ls ts) [v'] ∧ Below w.heap.size w w' := by
  have hla := ha.1
  have hlb := hb.1
  have HQ := Lib.hid hq
  have hn25 : n ≤ 25 := by have := hq.1; omega
  have hm70 : m ≤ 70 := by have := hq.2.1; omega
  obtain ⟨B, hBe⟩ : ∃ B, B = w.heap.size + 1 := ⟨_, rfl⟩
  obtain ⟨g, hge⟩ : ∃ g, g = w.heap.size + 1 := ⟨_, rfl⟩
  have h0 := blk_alloc (heap_alloc_new w (.cells #[Value.slice A n ca, Value.slice B0 m cb] 25)) (.cells #[.slice none 0 0] 65)
  have hw0 := (below_alloc1 w (.cells #[Value.slice A n ca, Value.slice B0 m cb] 25)).alloc (by simp) (.cells #[.slice none 0 0] 65)
  have hwr : Wr ((w.alloc (.cells #[Value.slice A n ca, Value.slice B0 m cb] 25)).alloc (.cells #[.slice none 0 0] 65)) B g [] := by
    refine ⟨_, by omega, by rw [hge]; exact heap_alloc2_new w _ _, own_nil _ _ _ _, fun e => by simp [Value.ownBlock] at e⟩
  go_enter Tryz.func12, Tryz.ntmps12
  obtain ⟨v0, hv0⟩ : ∃ v0, (w.alloc (.cells #[Value.slice A n ca, Value.slice B0 m cb] 25)).alloc (.cells #[.slice none 0 0] 65) = v0 := ⟨_, rfl⟩
  have hs0 : B ≤ v0.heap.size := by rw [← hv0, hBe]; simp
  rw [hv0] at h0 hw0 hwr
  have HW0 := Lib.hid hwr
  have HD := Lib.hid hw0
  have H0 := Lib.hid h0
  obtain ⟨z0, hz0⟩ : ∃ z, z = ([] : List UInt8) := ⟨_, rfl⟩
  rw [← hz0] at HW0
  have HL0 := Lib.hid (show z0.length ≤ 0 by rw [hz0]; exact Nat.le_refl _)
  have HB0 := Lib.hid (Below.refl B v0)
  have HF0 := Lib.hid (Fr.refl v0 g)
  obtain ⟨p0, p1⟩ := blk2 h0
  have hg2 : (⟨w.heap.size + 1, 0, none⟩ : Addr) = ⟨g, 0, none⟩ := by rw [hge]
  have hw64 : IntKind.u64.wrap (n : Int) = (n : Int) := by rw [IntKind.wrap_u64]; omega
  have hB : B ≤ v0.heap.size := hs0
  clear hwr hw0 h0
  go_wp2_with fail
  refine (wN_lit v0 B g z0 [(n : Int)] 33 #[.int .u64 (n : Int)] 1 1 HW0.out hs0 rfl (by intro x hx; simp at hx; subst hx; omega) rfl (by omega) (by have := HL0.out; omega)).mono ?_
  rintro e v1 ⟨rfl, hW1, hF1, hb1⟩
  obtain ⟨z1, hz1⟩ : ∃ z, z0 ++ (encNs [(n : Int)]) = z := ⟨_, rfl⟩
  have HW1 := Lib.hid (show Wr v1 B g z1 from hz1 ▸ hW1)
  have HL1 := Lib.hid (show z1.length ≤ 0 + 9 by have h0 := HL0.out; rw [← hz1, List.length_append]; rw [encNs_one]; have := encN_le (n : Int).toNat; omega)
  have HZ1 := Lib.hid hz1
  have HB1 := Lib.hid (HB0.out.trans hb1)
  have hs1 : B ≤ v1.heap.size := szB HB1.out hB
  have HF1 := Lib.hid (HF0.out.trans hF1)
  clear hW1 hF1 hb1 hz1
  have HZ1b := Lib.hid (show z1 = encN n by rw [← HZ1.out, hz0, encNs_one, Int.toNat_natCast]; rfl)
  have p0a := ((HB1.out.cell (p := ⟨w.heap.size, 0, none⟩) (show w.heap.size < B by omega)).trans p0)
  have p1a := ((HB1.out.cell (p := ⟨w.heap.size, 1, none⟩) (show w.heap.size < B by omega)).trans p1)
  have HD1 := Lib.hid (HD.out.trans (HB1.out.mono (by omega)))
  clear p0 p1 HB0 HF0 HW0 HL0
  go_wp2_with fail
  go_loopw [20] (fun s20 wr => ∃ i : Nat, i ≤ n ∧ s20 = .int .i64 i ∧ Wr wr B g (z1 ++ (ls.take i).flatMap encList) ∧ Below B v1 wr) (fun s20 _ => n - (intOf s20).toNat)
  case atStart => exact ⟨0, by omega, rfl, by simpa using HW1.out, Below.refl _ _⟩
  case round =>
    obtain ⟨i, hi, rfl, hW, hbel⟩ := hrel
    have HBr := Lib.hid hbel
    have hsr : B ≤ wr.heap.size := szB hbel hs1
    have HDr := Lib.hid (HD1.out.trans (hbel.mono (by omega)))
    have HWr := Lib.hid hW
    by_cases hlt : i < n
    · obtain ⟨ad, x, cs, rfl, hx, hat, hrd⟩ := ha.get i hlt
      have i0 : (0 : Int) ≤ (i : Int) := by omega
      have i1' : (i : Int) < (n : Int) := by omega
      have HAt := Lib.hid (hat.below HDr.out)
      obtain ⟨i1, t1, rfl, rfl, hok⟩ := rd_lst hrd
      obtain ⟨⟨oi0, oi1⟩, ot⟩ : (0 ≤ i1 ∧ i1 < 18446744073709551616) ∧ t1.size ≤ 9223372036854775807 := hok
      have hsz : t1.size ≤ 100 := HQ.out.2.2.1 _ (List.mem_of_getElem? hx)
      have hfl := flat_le (f := encList) (l := ls.take i) (fun x hx => encList_le (HQ.out.2.2.1 x (List.mem_of_mem_take hx)))
      rw [List.length_take, Nat.min_eq_left (by omega)] at hfl
      have HN := Lib.hid (show (ls.take (i + 1)).flatMap encList = (ls.take i).flatMap encList ++ encList (i1, t1, ()) by rw [take_at hx, flat_snoc])
      obtain ⟨z0, hz0⟩ : ∃ z, z1 ++ (ls.take i).flatMap encList = z := ⟨_, rfl⟩
      have HL0 := Lib.hid (show z0.length ≤ 3000 by rw [← hz0, List.length_append]; have := HL1.out; omega)
      have hq0 := heap_alloc_new wr (.cells #[Value.int .u64 i1, Value.string t1] 42)
      have hb0 := below_alloc1 wr (.cells #[Value.int .u64 i1, Value.string t1] 42)
      rw [hz0] at HWr
      have HZs := Lib.hid hz0
      have HZ1s := HZ1b
      obtain ⟨v0, hv0⟩ : ∃ v0, wr.alloc (.cells #[Value.int .u64 i1, Value.string t1] 42) = v0 := ⟨_, rfl⟩
      rw [hv0] at hq0 hb0
      have HW0 := Lib.hid (HWr.out.below hb0)
      have HQ0 := Lib.hid (And.intro hq0 (not_mine_ge HWr.out hb0 (Nat.le_refl _)))
      have HB0 := Lib.hid (hb0.mono hsr)
      have HF0 := Lib.hid (fr_below HWr.out hb0)
      have hs0 : B ≤ v0.heap.size := Nat.le_trans hsr hb0.size
      obtain ⟨c0, c1⟩ := blk2 HQ0.out.1
      have hB := hsr
      clear hq0 hb0 hW hx hat hrd ha hb hbel hfl hz0 hq
      go_wp2_with (first | (refine wpL_load rfl 42 _ rfl _ rfl _ _ HAt.out Tryz.underlying42 rfl rfl ?_))
      go_wp2_with fail
      refine (wN_lit v0 B g z0 [i1] 33 #[.int .u64 i1] 1 1 HW0.out hs0 rfl (by intro x hx; simp at hx; subst hx; omega) rfl (by omega) (by have := HL0.out; omega)).mono ?_
      rintro e v1 ⟨rfl, hW1, hF1, hb1⟩
      obtain ⟨z1, hz1⟩ : ∃ z, z0 ++ (encNs [i1]) = z := ⟨_, rfl⟩
      have HW1 := Lib.hid (show Wr v1 B g z1 from hz1 ▸ hW1)
      have HL1 := Lib.hid (show z1.length ≤ 3000 + 9 by have h0 := HL0.out; rw [← hz1, List.length_append]; rw [encNs_one]; have := encN_le i1.toNat; omega)
      have HZ1 := Lib.hid hz1
      have HB1 := Lib.hid (HB0.out.trans hb1)
      have hs1 : B ≤ v1.heap.size := szB HB1.out hB
      have HF1 := Lib.hid (HF0.out.trans hF1)
      have HQ1 := Lib.hid (hF1 _ _ HQ0.out.1 HQ0.out.2)
      obtain ⟨c0, c1⟩ := blk2 HQ1.out.1
      clear hW1 hF1 hb1 hz1
      go_wp2_with (refine wpL_bytes rfl _ _ _ _ rfl t1 rfl Tryz.underlying9 Tryz.underlying39 Tryz.underlying5 (by omega) ?_
                   intro u1 cap1 hb1 hu1 _
                   have HU1 := Lib.hid (And.intro hb1 (HW1.out.below hu1))
                   clear hb1)
      refine (wB_any u1 B g z1 _ t1.size _ t1.data.toList HU1.out.2 (Nat.le_trans hs1 hu1.size) HU1.out.1 (fun ad e _ => by injection e with e; subst e; exact not_mine_ge HW1.out hu1 (Nat.le_refl _)) (by omega) (by have := HL1.out; omega) (by have := HL1.out; omega)).mono ?_
      rintro e v2 ⟨rfl, hW2, hF2, hb2⟩
      have hF2 := (fr_below HW1.out hu1).trans hF2
      have hb2 := (hu1.mono hs1).trans hb2
      obtain ⟨z2, hz2⟩ : ∃ z, z1 ++ (encN t1.size ++ t1.data.toList) = z := ⟨_, rfl⟩
      have HW2 := Lib.hid (show Wr v2 B g z2 from hz2 ▸ hW2)
      have HL2 := Lib.hid (show z2.length ≤ 3000 + 120 by have h0 := HL1.out; rw [← hz2, List.length_append]; rw [List.length_append]; have := encN_le t1.size; have : t1.data.toList.length = t1.size := rfl; omega)
      have HZ2 := Lib.hid hz2
      have HB2 := Lib.hid (HB1.out.trans hb2)
      have hs2 : B ≤ v2.heap.size := szB HB2.out hB
      have HF2 := Lib.hid (HF1.out.trans hF2)
      have HQ2 := Lib.hid (hF2 _ _ HQ1.out.1 HQ1.out.2)
      obtain ⟨c0, c1⟩ := blk2 HQ2.out.1
      clear hW2 hF2 hb2 hz2 hu1 HU1
      have HV := Lib.hid (show z2 = z0 ++ encList (i1, t1, ()) by rw [← HZ2.out, ← HZ1.out, encNs_one]; simp only [List.append_assoc, encList, encS])
      go_wp2_with fail
      go_roundw
      case measure => simp [intOf]; omega
      case rel => exact ⟨i + 1, by omega, by go_num, by rw [HN.out, ← List.append_assoc, HZs.out, ← HV.out]; exact HW2.out, HBr.out.trans HB2.out⟩
    · obtain rfl : i = n := by omega
      have p1b := ((hbel.cell (p := ⟨w.heap.size, 1, none⟩) (show w.heap.size < B by omega)).trans p1a)
      have hw64b : IntKind.u64.wrap (m : Int) = (m : Int) := by rw [IntKind.wrap_u64]; omega
      have hfl := flat_le (f := encList) (l := ls) (fun x hx => encList_le (HQ.out.2.2.1 x hx))
      have HZ3 := Lib.hid (show z1 ++ (ls.take i).flatMap encList = encN i ++ ls.flatMap encList by rw [HZ1b.out, List.take_of_length_le (by omega)])
      obtain ⟨z0, hz0⟩ : ∃ z, encN i ++ ls.flatMap encList = z := ⟨_, rfl⟩
      have HL0 := Lib.hid (show z0.length ≤ 3000 by rw [← hz0, List.length_append]; have := encN_le i; omega)
      rw [HZ3.out, hz0] at HWr
      have HZs := Lib.hid hz0
      have HW0 := Lib.hid HWr.out
      have HB0 := Lib.hid (Below.refl B wr)
      have HF0 := Lib.hid (Fr.refl wr g)
      have hs0 := hsr
      have hB := hsr
      have hD := HDr.out
      obtain ⟨v0, rfl⟩ : ∃ v0, v0 = wr := ⟨_, rfl⟩
      clear hbel hW p0a p1a hfl hz0 HWr HDr HBr
      go_wp2_with fail
      go_wp2_with fail
      refine (wN_lit v0 B g z0 [(m : Int)] 33 #[.int .u64 (m : Int)] 1 1 HW0.out hs0 rfl (by intro x hx; simp at hx; subst hx; omega) rfl (by omega) (by have := HL0.out; omega)).mono ?_
      rintro e v1 ⟨rfl, hW1, hF1, hb1⟩
      obtain ⟨z1, hz1⟩ : ∃ z, z0 ++ (encNs [(m : Int)]) = z := ⟨_, rfl⟩
      have HW1 := Lib.hid (show Wr v1 B g z1 from hz1 ▸ hW1)
      have HL1 := Lib.hid (show z1.length ≤ 3000 + 9 by have h0 := HL0.out; rw [← hz1, List.length_append]; rw [encNs_one]; have := encN_le (m : Int).toNat; omega)
      have HZ1 := Lib.hid hz1
      have HB1 := Lib.hid (HB0.out.trans hb1)
      have hs1 : B ≤ v1.heap.size := szB HB1.out hB
      have HF1 := Lib.hid (HF0.out.trans hF1)
      clear hW1 hF1 hb1 hz1
      have HZ4 := Lib.hid (show z1 = encN i ++ ls.flatMap encList ++ encN m by rw [← HZ1.out, ← HZs.out, encNs_one, Int.toNat_natCast])
      have HD4 := Lib.hid (hD.trans (HB1.out.mono (by omega)))
      have p1c := ((HB1.out.cell (p := ⟨w.heap.size, 1, none⟩) (show w.heap.size < B by omega)).trans p1b)
      clear p1b hD HB0 HF0 HW0 HL0
      go_wp2_with fail
      go_loopw [45] (fun s45 wr => ∃ j : Nat, j ≤ m ∧ s45 = .int .i64 j ∧ Wr wr B g (z1 ++ (ts.take j).flatMap encTask) ∧ Below B v1 wr) (fun s45 _ => m - (intOf s45).toNat)
      case atStart => exact ⟨0, by omega, rfl, by simpa using HW1.out, Below.refl _ _⟩
      case round =>
        obtain ⟨j, hj, rfl, hW, hbel⟩ := hrel
        have HBr := Lib.hid hbel
        have hsr : B ≤ wr.heap.size := szB hbel hs1
        have HDr := Lib.hid (HD4.out.trans (hbel.mono (by omega)))
        have HWr := Lib.hid hW
        by_cases hlt : j < m
        · obtain ⟨ad, x, cs, rfl, hx, hat, hrd⟩ := (hb.weak (ok' := fun k => k < w.heap.size) (fun k _ h => h)).get j hlt
          have i0 : (0 : Int) ≤ (j : Int) := by omega
          have i1' : (j : Int) < (m : Int) := by omega
          have HAt := Lib.hid (hat.below HDr.out)
          obtain ⟨i1, l1, t1, d1, r1, e1, k1, A1, c1', rfl, rfl, hok, hgt⟩ := rd_task hrd
          have HOK := Lib.hid hok
          have hst : SmallT (i1, l1, t1, d1, r1, e1, k1, ()) := HQ.out.2.2.2 _ (List.mem_of_getElem? hx)
          have HST := Lib.hid hst
          have HGT := Lib.hid ((rd_rows hgt).below HDr.out)
          have hfl := flat_le (f := encTask) (l := ts.take j) (fun x hx => encTask_le (HQ.out.2.2.2 x (List.mem_of_mem_take hx)))
          rw [List.length_take, Nat.min_eq_left (by omega)] at hfl
          have HN := Lib.hid (show (ts.take (j + 1)).flatMap encTask = (ts.take j).flatMap encTask ++ encTask (i1, l1, t1, d1, r1, e1, k1, ()) by rw [take_at hx, flat_snoc])
          obtain ⟨z0, hz0⟩ : ∃ z, z1 ++ (ts.take j).flatMap encTask = z := ⟨_, rfl⟩
          have HL0 := Lib.hid (show z0.length ≤ 100000 by rw [← hz0, List.length_append]; have := HL1.out; omega)
          have HZt := Lib.hid hz0
          rw [hz0] at HWr
          have hq0 := heap_alloc_new wr (.cells #[Value.int .u64 i1, Value.int .u64 l1, Value.string t1, Value.bool d1, Value.float .f64 r1, Value.float .f64 e1, Value.slice A1 k1.length c1'] 37)
          have hb0 := below_alloc1 wr (.cells #[Value.int .u64 i1, Value.int .u64 l1, Value.string t1, Value.bool d1, Value.float .f64 r1, Value.float .f64 e1, Value.slice A1 k1.length c1'] 37)
          have HQ0 := Lib.hid hq0
          have HBa := Lib.hid hb0
          have HPT := Lib.hid (puttask_any (wr.alloc (.cells #[Value.int .u64 i1, Value.int .u64 l1, Value.string t1, Value.bool d1, Value.float .f64 r1, Value.float .f64 e1, Value.slice A1 k1.length c1'] 37)) B g 100000 z0 i1 l1 t1 d1 r1 e1 A1 k1.length c1' k1 (HWr.out.below hb0) (Nat.le_trans hsr hb0.size) HOK.out (((HGT.out.weak (ok' := fun k => k < B) (fun k hk _ => by have h1 : k < w.heap.size := hk; omega)).belowB (hb0.mono hsr))) (by have := HST.out.1; simp only at this; omega) (by have := HST.out.2.1; simp only at this; omega) (fun x hx => by have := HST.out.2.2 x hx; omega) HL0.out (by omega))
          clear hq0 hb0 hW hx hat hrd ha hb hbel hfl hz0 hq hok hst hgt
          go_wp2_with (first
            | (refine wpL_load rfl 37 (.tmp 47) rfl _ rfl _ _ HAt.out Tryz.underlying37 rfl rfl ?_)
            | (refine wpL_load rfl 37 (.tmp 7) rfl ⟨wr.heap.size, 0, none⟩ rfl _ _ (At.blk HQ0.out) Tryz.underlying37 rfl rfl ?_))
          refine HPT.out.mono ?_
          rintro e w3 ⟨rfl, hW3, hF3, hb3⟩
          have HW3 := Lib.hid hW3
          have HB3 := Lib.hid (HBr.out.trans ((HBa.out.mono hsr).trans hb3))
          clear hW3 hF3 hb3
          go_wp2_with fail
          go_roundw
          case measure => simp [intOf]; omega
          case rel => exact ⟨j + 1, by omega, by go_num, by rw [HN.out, ← List.append_assoc, HZt.out]; exact HW3.out, HB3.out⟩
        · obtain rfl : j = m := by omega
          have HE := Lib.hid (show z1 ++ (ts.take j).flatMap encTask = encState ls ts by
            rw [HZ4.out, List.take_of_length_le (by omega)]
            unfold encState
            rw [hla, hlb])
          rw [HE.out] at HWr
          have HEL := Lib.hid (encState_le HQ.out)
          clear hW hbel
          go_wp2_with fail
          refine (wBytes_any wr B g _ HWr.out hsr HEL.out).mono ?_
          rintro e w4 ⟨v4, rfl, hr4, hw4⟩
          obtain ⟨A4, c4, rfl, _⟩ := rd_bs hr4
          have HR4 := Lib.hid (hr4.weak (ok' := fun k => w.heap.size ≤ k) (fun k hk _ => Nat.le_trans HDr.out.size hk))
          have HB4 := Lib.hid (HDr.out.trans (hw4.mono HDr.out.size))
          clear hr4 hw4
          go_wp2_with fail
          go_ret
          exact ⟨_, rfl, HR4.out, HB4.out⟩
end Go.Proofs.YtfjnpiahloncmaaGreat
