import Derived.Test.YthkfjcfncobllaaStaB
namespace Go.Proofs.Ythkfjcfncobllaa
open Go.RowKit FP Go.Sort Go.Shelf
set_option linter.unusedVariables false
set_option linter.unusedSimpArgs false
set_option maxRecDepth 20000 in
theorem rd_f64v {w : World} {ok : Nat → Prop} {x : Nat} (h : x < B64) : Rd w ok .f64 x [.float .f64 x] := ⟨rfl, h⟩
set_option maxRecDepth 20000 in
theorem isnan_u64 (a : Int) (w : World) : Calls Try.prog 47 #[.int .u64 a] w fun e w' => e = .returned (.bool false) ∧ w = w' := by
  have h : (a != a) = false := by simp
  go_enter Try.func47, Try.ntmps47
  go_wp2
  go_ret
  exact ⟨rfl, rfl⟩
set_option maxRecDepth 20000 in
theorem cmp_u64 (a b : Int) (w : World) : Calls Try.prog 25 #[.int .u64 a, .int .u64 b] w fun e w' => e = .returned (.int .i64 (Lib.compareInt a b)) ∧ w = w' := by
  unfold Lib.compareInt
  go_enter Try.func25, Try.ntmps25
  by_cases h1 : a < b
  · rw [if_pos h1]
    go_wp2_with (go_at_call 47; refine (isnan_u64 _ _).mono ?_; rintro e w' ⟨rfl, rfl⟩)
    go_ret
    exact ⟨rfl, rfl⟩
  · rw [if_neg h1]
    by_cases h2 : b < a
    · rw [if_pos h2]
      go_wp2_with (go_at_call 47; refine (isnan_u64 _ _).mono ?_; rintro e w' ⟨rfl, rfl⟩)
      go_ret
      exact ⟨rfl, rfl⟩
    · rw [if_neg h2]
      go_wp2_with (go_at_call 47; refine (isnan_u64 _ _).mono ?_; rintro e w' ⟨rfl, rfl⟩)
      go_ret
      exact ⟨rfl, rfl⟩
def cfK (x y : Nat) : Int := Lib.compareInt (keyF x) (keyF y)
set_option maxRecDepth 20000 in
theorem ltK (x y : Nat) : ltOf cfK x y = decide (keyF x < keyF y) := by
  unfold ltOf cfK Lib.compareInt
  by_cases h1 : keyF x < keyF y
  · simp [h1]
  · by_cases h2 : keyF y < keyF x <;> simp [h1, h2]
set_option maxRecDepth 20000 in
theorem swoK : SWO (ltOf cfK) where
  irrefl x := by rw [ltK]; simp
  trans x y z h1 h2 := by rw [ltK] at *; simp at *; omega
  ntrans x y z h1 h2 := by rw [ltK] at *; simp at *; omega
set_option maxRecDepth 20000 in
theorem closeC (x y : Nat) (W : World) : Calls Try.prog 24 #[encF x, encF y] W fun e w' => e = .returned (.int .i64 (cfK x y)) ∧ W = w' := by
  show Calls Try.prog 24 #[.float .f64 x, .float .f64 y] W _
  go_enter Try.func24, Try.ntmps24
  go_wp2_with (first
    | (go_at_call 26; refine (key_any _ _).mono ?_; rintro e w' ⟨rfl, rfl⟩)
    | (go_at_call 25; refine (cmp_u64 _ _ _).mono ?_; rintro e w' ⟨rfl, rfl⟩))
  go_ret
  exact ⟨rfl, rfl⟩
set_option maxRecDepth 20000 in
theorem egC : ∀ args w, (callFunc 24 args).run Try.prog w = .ok (.enter 24 args) w := enters_of Try.func24 (by kernel_rfl) rfl
set_option maxRecDepth 20000 in
theorem sorted_list {d d' : Array Nat} (hp : PermIn 0 d.size d d') (hs : SortedIn (ltOf cfK) 0 d.size d') (hlt : ∀ x ∈ d.toList, x < B64) : d'.toList.Perm d.toList ∧ d'.toList.Pairwise leK := by
  obtain ⟨h1, _, h2⟩ := hp
  rw [← h1, Array.extract_size] at h2
  rw [h1, Array.extract_size] at h2
  refine ⟨h2, List.pairwise_iff_getElem.2 fun i j hi hj hij => ?_⟩
  have hi' : i < d'.size := by simpa using hi
  have hj' : j < d'.size := by simpa using hj
  have h3 := hs i j (Nat.zero_le _) hij (by omega)
  rw [ltK, getElem!_pos d' j hj', getElem!_pos d' i hi'] at h3
  have bi := hlt _ (h2.subset (List.getElem_mem hi))
  have bj := hlt _ (h2.subset (List.getElem_mem hj))
  simp only [Array.getElem_toList] at bi bj ⊢
  rw [keyF_eq bi, keyF_eq bj] at h3
  have := of_decide_eq_false h3
  unfold leK
  omega
set_option maxRecDepth 20000 in
/-- slices.SortFunc at numbers that are canonical. -/
theorem sortf_any (w : World) (base : Nat) (v : Value) (l : List Nat) (h : Own w base 27 .f64 v l) (hl : l.length ≤ 100000) (hB : base ≤ w.heap.size) :
    Calls Try.prog 23 #[v, .func (.func 24) #[] #[]] w fun e w' => ∃ l', e = .returned (.tuple #[]) ∧ Own w' base 27 .f64 v l' ∧ l'.Perm l ∧ l'.Pairwise leK ∧ Below base w w' := by
  rcases own_holds h with ⟨rfl, rfl⟩ | ⟨g, cap, cur, rfl, hg, hgb, hlc, hcm, hcs, hct, hlt, hH⟩
  · have hcon := AnyF.slices_SortFunc_none (P := Try.prog) (ρ := Try.sortF_ren) { Try.sortF with } none 0 (.func (.func 24) #[] #[]) w
    change Calls Try.prog 23 _ _ _ at hcon
    refine hcon.mono ?_
    rintro e w' ⟨rfl, rfl⟩
    exact ⟨[], rfl, Own.nil _ _ _ _, List.Perm.refl _, List.Pairwise.nil, Below.refl _ _⟩
  · have hc : CmpReads Try.prog 24 #[] encF cfK g 0 l.toArray.size w := fun m os dk _ x y => (closeC x y _).mono fun e w' ⟨he, hw⟩ => ⟨he, 0, hw.symm⟩
    have hcon := Any.slices_SortFunc (P := Try.prog) (ρ := Try.sortF_ren) (α := Nat) Try.sortF encF (fun _ => rfl) cfK swoK 24 #[] g 0 cap l.toArray w egC hc.lays hH (blk_lt hgb) (by simp; omega)
    change Calls Try.prog 23 _ _ _ at hcon
    rw [List.size_toArray] at hcon
    refine hcon.mono ?_
    rintro e w2 ⟨rfl, d', n, os, hp, hs, hw⟩
    have hgr : w.grownBy w2 (some g) := by rw [hw]; exact sorted_grown
    have hsz : d'.size = l.length := by simpa using hp.1
    obtain ⟨p1, p2⟩ := sorted_list (by simpa using hp) (by simpa using hs) (d := l.toArray) (by simpa using hlt)
    have hO := own_put (l := d'.toList) hg hgb hcs (by omega) hcm (by simp) (List.take_of_length_le (by simp)) (fun x hx => hlt x (by simpa using p1.subset hx)) hw
    rw [Array.length_toList, hsz] at hO
    exact ⟨d'.toList, rfl, hO, by simpa using p1, p2, below_grow2 (Below.refl _ _) hgr hB hg⟩
set_option maxHeartbeats 1000000 in
set_option maxRecDepth 20000 in
theorem sort_any (w : World) (A : Option Addr) (n c : Nat) (l : List Nat) (h : Rows w anyB .f64 A n l) (hl : n ≤ 100000) :
    Calls Try.prog 9 #[.slice A n c] w fun e w' => ∃ v', e = .returned v' ∧ Own w' w.heap.size 27 .f64 v' (sortK l) ∧ Below w.heap.size w w' := by
  have hln := h.1
  have hlt := (rows_fs h).2
  go_enter Try.func9, Try.ntmps9
  go_wp2_with fail
  go_loopw [3, 8] (fun s3 s8 wr => ∃ (i : Nat) (v : Value), i ≤ n ∧ v = s3 ∧ s8 = .int .i64 i ∧ Own wr w.heap.size 27 .f64 v ((l.take i).map canF) ∧ Below w.heap.size w wr) (fun _ s8 _ => n - (intOf s8).toNat)
  case atStart => exact ⟨0, _, by omega, rfl, rfl, Own.nil _ _ _ _, Below.refl _ _⟩
  case round =>
    obtain ⟨i, v, hi, rfl, rfl, hO, hbel⟩ := hrel
    have HB := Lib.hid hbel
    have HO := Lib.hid hO
    by_cases hlt1 : i < n
    · obtain ⟨ad, x, cs, rfl, hx, hat, hrd⟩ := h.get i hlt1
      obtain ⟨rfl, hx64⟩ := hrd
      have i0 : (0 : Int) ≤ (i : Int) := by omega
      have i1 : (i : Int) < (n : Int) := by omega
      have hc := cell_below hbel (hat 0 _ rfl)
      have hcx : wr.cell? (ad.add i) = some (.float .f64 x) := by
        have e : (ad.add (i * Sh.size .f64)).add (0 + 0) = ad.add i := by simp [Sh.size, Addr.add]
        rwa [e] at hc
      have HN := Lib.hid (show (l.take (i + 1)).map canF = (l.take i).map canF ++ [canF x] by rw [take_at hx, List.map_append]; rfl)
      have hlen : ((l.take i).map canF).length = i := by simp; omega
      have hlen1 : ((l.take (i + 1)).map canF).length = i + 1 := by simp; omega
      have HX := Lib.hid (show canF x < B64 from canF_lt hx64)
      clear hc hat hx hbel hO h
      go_wp2_with (first
        | (go_at_call 22; refine (canon_any _ _).mono ?_; rintro e w' ⟨rfl, rfl⟩)
        | (at_builtin; go_loud (refine wp_appO (m := 1) (r := [canF x]) (ys := [.float .f64 (canF x)]) rfl (.tmp 12) (.tmp 15) rfl (HO.out.below (below_alloc1 wr _)) rfl (fun e => by cases e) (fun ad' e => by cases e; exact At.blk (heap_alloc_new wr _)) (RdL.single (rd_f64v HX.out)) (HB.out.alloc HB.out.size _) Try.underlying22 info_f64 rfl (by decide) rfl rfl (by rw [hlen]; omega) (by rw [hlen]; omega) (by have := HB.out.size; simp; omega) ?_; intro v6 w6 hO6 hb6 _ _; rw [← HN.out] at hO6; obtain ⟨A6, c6, rfl, _⟩ := Own.form hO6; rw [hlen1] at hO6 ⊢; have HO6 := Lib.hid hO6; clear hO6)))
      go_roundw
      case measure => simp [intOf]; omega
      case rel => exact ⟨i + 1, _, by omega, rfl, by go_num, HO6.out, hb6⟩
    · obtain rfl : i = n := by omega
      have HE := Lib.hid (show ((l.take i).map canF) = l.map rcanF by
        rw [List.take_of_length_le (by omega)]
        exact List.map_congr_left (fun x hx => can_same (hlt x hx)))
      go_wp2_with (go_at_call 23; refine (sortf_any wr w.heap.size v _ HO.out (by simp; omega) HB.out.size).mono ?_; rintro e w2 ⟨l', rfl, hO2, hp, hs, hb2⟩)
      go_ret
      rw [HE.out] at hp
      refine ⟨_, rfl, ?_, HB.out.trans hb2⟩
      rw [← sortK_uniq hlt hp hs]
      exact hO2
end Go.Proofs.Ythkfjcfncobllaa
