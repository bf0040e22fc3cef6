import Derived.Test.YtfjnpiahloncmaaGreatCdcQ
import Derived.Test.YtfjnpiahloncmaaGreatTskV
namespace Go.Proofs.YtfjnpiahloncmaaGreat
open Go.RowKit Cdc
set_option linter.unusedVariables false
set_option linter.unusedSimpArgs false
attribute [local go_sem] run_store_float
def encS (s : ByteArray) : List UInt8 := encN s.size ++ s.data.toList
def encTags (l : List ByteArray) : List UInt8 := l.flatMap encS
def encTask (t : TASK.Ty) : List UInt8 :=
  encN t.1.toNat ++ encN t.2.1.toNat ++ encS t.2.2.1 ++ encN (if t.2.2.2.1 = true then 1 else 0) ++ be 8 (keyN t.2.2.2.2.1) ++ be 8 (keyN t.2.2.2.2.2.1) ++ encN t.2.2.2.2.2.2.1.length ++ encTags t.2.2.2.2.2.2.1
def encList (x : LIST.Ty) : List UInt8 := encN x.1.toNat ++ encS x.2.1
def encState (ls : List LIST.Ty) (ts : List TASK.Ty) : List UInt8 := encN ls.length ++ ls.flatMap encList ++ encN ts.length ++ ts.flatMap encTask
set_option maxRecDepth 20000 in
theorem szB {B : Nat} {w w' : World} (h : Below B w w') (hB : B ≤ w.heap.size) : B ≤ w'.heap.size := Nat.le_trans hB h.size
set_option maxRecDepth 20000 in
theorem not_mine_ge {w w' : World} {B g k : Nat} {xs : List UInt8} (h : Wr w B g xs) (hb : Below w.heap.size w w') (hk : w.heap.size ≤ k) : ¬ Mine w' g k := by
  obtain ⟨v, hB, hg, ho, hne⟩ := h
  rintro (rfl | ⟨v', t, f, hg', hv⟩)
  · have := blk_lt hg; omega
  · rw [blk_below hg hb (blk_lt hg)] at hg'
    injection hg' with hg'
    injection hg' with h1 h2
    simp at h1
    subst h1
    have := own_lt ho k hv
    omega
set_option maxRecDepth 20000 in
theorem Rows.belowB {w w' : World} {B n : Nat} {s : Sh} {A : Option Addr} {l : List s.Ty} (h : Rows w (fun k => k < B) s A n l) (hb : Below B w w') : Rows w' (fun k => k < B) s A n l :=
  h.of (fun a v hk hc => (hb.cell hk).trans hc) (fun k hk _ => hk)
set_option maxRecDepth 20000 in
theorem Rd.belowB {w w' : World} {B : Nat} {s : Sh} {x : s.Ty} {cs : List Value} (h : Rd w (fun k => k < B) s x cs) (hb : Below B w w') : Rd w' (fun k => k < B) s x cs :=
  h.of (fun a v hk hc => (hb.cell hk).trans hc) (fun k hk _ => hk)
set_option maxRecDepth 20000 in
theorem encS_le (s : ByteArray) : (encS s).length ≤ s.size + 9 := by
  have := encN_le s.size
  have : s.data.toList.length = s.size := rfl
  unfold encS
  rw [List.length_append]; omega
set_option maxRecDepth 20000 in
theorem encTags_snoc (l : List ByteArray) (x : ByteArray) : encTags (l ++ [x]) = encTags l ++ encS x := by simp [encTags]
set_option maxRecDepth 20000 in
theorem encTags_le {l : List ByteArray} (h : ∀ x ∈ l, x.size ≤ 1000) : (encTags l).length ≤ 1009 * l.length := by
  induction l with
  | nil => exact Nat.zero_le _
  | cons x l ih =>
    have h1 := encS_le x
    have h2 := h x List.mem_cons_self
    have h3 := ih (fun y hy => h y (List.mem_cons_of_mem _ hy))
    show (encS x ++ encTags l).length ≤ _
    rw [List.length_append, List.length_cons]; omega
set_option maxRecDepth 20000 in
theorem encNs_two (a b : Int) : encNs [a, b] = encN a.toNat ++ encN b.toNat := by simp [encNs]
set_option maxRecDepth 20000 in
theorem encNs_one (a : Int) : encNs [a] = encN a.toNat := by simp [encNs]
set_option maxHeartbeats 2000000 in
set_option maxRecDepth 20000 in
theorem puttask_any (w : World) (B g L : Nat) (z0 : List UInt8) (i1 l1 : Int) (t1 : ByteArray) (d1 : Bool) (r1 e1 : Nat) (A1 : Option Addr) (k1 c1 : Nat) (g1 : List ByteArray) (h : Wr w B g z0) (hB : B ≤ w.heap.size) (hok : TASKOk (i1, l1, t1, d1, r1, e1, g1, ())) (hg : Rows w (fun k => k < B) .str A1 k1 g1)
    (ht : t1.size ≤ 1000) (hk : k1 ≤ 1000) (hgs : ∀ x ∈ g1, x.size ≤ 1000) (hL0 : z0.length ≤ L) (hL : L ≤ 50000000) :
    Calls Tryz.prog 37 #[.pointer (some ⟨g, 0, none⟩), .agg #[Value.int .u64 i1, Value.int .u64 l1, Value.string t1, Value.bool d1, Value.float .f64 r1, Value.float .f64 e1, Value.slice A1 k1 c1]] w fun e w' => e = .returned noResult ∧ Wr w' B g (z0 ++ encTask (i1, l1, t1, d1, r1, e1, g1, ())) ∧ Fr w w' g ∧ Below B w w' := by
  obtain ⟨⟨oi0, oi1⟩, ⟨ol0, ol1⟩, ot, or1, oe1⟩ : (0 ≤ i1 ∧ i1 < 18446744073709551616) ∧ (0 ≤ l1 ∧ l1 < 18446744073709551616) ∧ t1.size ≤ 9223372036854775807 ∧ r1 < 18446744073709551616 ∧ e1 < 18446744073709551616 := hok
  have hq := heap_alloc_new w (.cells #[Value.int .u64 i1, Value.int .u64 l1, Value.string t1, Value.bool d1, Value.float .f64 r1, Value.float .f64 e1, Value.slice A1 k1 c1] 37)
  have hb1 := below_alloc1 w (.cells #[Value.int .u64 i1, Value.int .u64 l1, Value.string t1, Value.bool d1, Value.float .f64 r1, Value.float .f64 e1, Value.slice A1 k1 c1] 37)
  obtain ⟨v0, hv0⟩ : ∃ v0, w.alloc (.cells #[Value.int .u64 i1, Value.int .u64 l1, Value.string t1, Value.bool d1, Value.float .f64 r1, Value.float .f64 e1, Value.slice A1 k1 c1] 37) = v0 := ⟨_, rfl⟩
  rw [hv0] at hq hb1
  have HW0 := Lib.hid (h.below hb1)
  have HQ0 := Lib.hid (And.intro hq (not_mine_ge h hb1 (Nat.le_refl _)))
  have HB0 := Lib.hid (hb1.mono hB)
  have HF0 := Lib.hid (fr_below h hb1)
  have hs0 : B ≤ v0.heap.size := Nat.le_trans hB hb1.size
  have HL0 := Lib.hid hL0
  have HG := Lib.hid hg
  have HGS := Lib.hid hgs
  obtain ⟨c0, c1, c2, c3, c4, c5, c6⟩ := blk7 HQ0.out.1
  clear hq hb1 h hg hgs hL0
  go_enter Tryz.func37, Tryz.ntmps37
  go_wp2_with fail
  refine (wN_lit v0 B g z0 [i1, l1] 33 #[.int .u64 i1, .int .u64 l1] 2 2 HW0.out hs0 rfl (by intro x hx; simp at hx; rcases hx with rfl | rfl <;> omega) rfl (by omega) (by have := HL0.out; omega)).mono ?_
  rintro e v1 ⟨rfl, hW1, hF1, hb1⟩
  obtain ⟨z1, hz1⟩ : ∃ z, z0 ++ (encNs [i1, l1]) = z := ⟨_, rfl⟩
  have HW1 := Lib.hid (show Wr v1 B g z1 from hz1 ▸ hW1)
  have HL1 := Lib.hid (show z1.length ≤ L + 18 by have h0 := HL0.out; rw [← hz1, List.length_append]; rw [encNs_two, List.length_append]; have := encN_le i1.toNat; have := encN_le l1.toNat; omega)
  have HZ1 := Lib.hid hz1
  have HB1 := Lib.hid (HB0.out.trans hb1)
  have hs1 : B ≤ v1.heap.size := szB HB1.out hB
  have HF1 := Lib.hid (HF0.out.trans hF1)
  have HQ1 := Lib.hid (hF1 _ _ HQ0.out.1 HQ0.out.2)
  obtain ⟨c0, c1, c2, c3, c4, c5, c6⟩ := blk7 HQ1.out.1
  clear hW1 hF1 hb1 hz1
  go_wp2_with (refine wpL_bytes rfl _ _ _ _ rfl t1 rfl Tryz.underlying9 Tryz.underlying39 Tryz.underlying5 (by omega) ?_
               intro u1 cap1 hb1 hu1 _
               have HU1 := Lib.hid (And.intro hb1 (HW1.out.below hu1))
               clear hb1)
  refine (wB_any u1 B g z1 _ t1.size _ t1.data.toList HU1.out.2 (Nat.le_trans hs1 hu1.size) HU1.out.1 (fun ad e _ => by injection e with e; subst e; exact not_mine_ge HW1.out hu1 (Nat.le_refl _)) (by omega) (by have := HL1.out; omega) (by have := HL1.out; omega)).mono ?_
  rintro e v2 ⟨rfl, hW2, hF2, hb2⟩
  have hF2 := (fr_below HW1.out hu1).trans hF2
  have hb2 := (hu1.mono hs1).trans hb2
  obtain ⟨z2, hz2⟩ : ∃ z, z1 ++ (encN t1.size ++ t1.data.toList) = z := ⟨_, rfl⟩
  have HW2 := Lib.hid (show Wr v2 B g z2 from hz2 ▸ hW2)
  have HL2 := Lib.hid (show z2.length ≤ L + 1100 by have h0 := HL1.out; rw [← hz2, List.length_append]; rw [List.length_append]; have := encN_le t1.size; have : t1.data.toList.length = t1.size := rfl; omega)
  have HZ2 := Lib.hid hz2
  have HB2 := Lib.hid (HB1.out.trans hb2)
  have hs2 : B ≤ v2.heap.size := szB HB2.out hB
  have HF2 := Lib.hid (HF1.out.trans hF2)
  have HQ2 := Lib.hid (hF2 _ _ HQ1.out.1 HQ1.out.2)
  obtain ⟨c0, c1, c2, c3, c4, c5, c6⟩ := blk7 HQ2.out.1
  clear hW2 hF2 hb2 hz2 hu1 HU1
  go_wp2_with fail
  refine (wFlag_any v2 B g z2 d1 HW2.out hs2 (by have := HL2.out; omega)).mono ?_
  rintro e v3 ⟨rfl, hW3, hF3, hb3⟩
  obtain ⟨z3, hz3⟩ : ∃ z, z2 ++ (encN (if d1 = true then 1 else 0)) = z := ⟨_, rfl⟩
  have HW3 := Lib.hid (show Wr v3 B g z3 from hz3 ▸ hW3)
  have HL3 := Lib.hid (show z3.length ≤ L + 1200 by have h0 := HL2.out; rw [← hz3, List.length_append]; have := encN_le (if d1 = true then 1 else 0); omega)
  have HZ3 := Lib.hid hz3
  have HB3 := Lib.hid (HB2.out.trans hb3)
  have hs3 : B ≤ v3.heap.size := szB HB3.out hB
  have HF3 := Lib.hid (HF2.out.trans hF3)
  have HQ3 := Lib.hid (hF3 _ _ HQ2.out.1 HQ2.out.2)
  obtain ⟨c0, c1, c2, c3, c4, c5, c6⟩ := blk7 HQ3.out.1
  clear hW3 hF3 hb3 hz3
  go_wp2_with fail
  refine (wF_any v3 B g z3 r1 (by assumption) HW3.out hs3 (by have := HL3.out; omega)).mono ?_
  rintro e v4 ⟨rfl, hW4, hF4, hb4⟩
  obtain ⟨z4, hz4⟩ : ∃ z, z3 ++ (be 8 (keyF r1).toNat) = z := ⟨_, rfl⟩
  have HW4 := Lib.hid (show Wr v4 B g z4 from hz4 ▸ hW4)
  have HL4 := Lib.hid (show z4.length ≤ L + 1210 by have h0 := HL3.out; rw [← hz4, List.length_append]; rw [be_len]; omega)
  have HZ4 := Lib.hid hz4
  have HB4 := Lib.hid (HB3.out.trans hb4)
  have hs4 : B ≤ v4.heap.size := szB HB4.out hB
  have HF4 := Lib.hid (HF3.out.trans hF4)
  have HQ4 := Lib.hid (hF4 _ _ HQ3.out.1 HQ3.out.2)
  obtain ⟨c0, c1, c2, c3, c4, c5, c6⟩ := blk7 HQ4.out.1
  clear hW4 hF4 hb4 hz4
  go_wp2_with fail
  refine (wF_any v4 B g z4 e1 (by assumption) HW4.out hs4 (by have := HL4.out; omega)).mono ?_
  rintro e v5 ⟨rfl, hW5, hF5, hb5⟩
  obtain ⟨z5, hz5⟩ : ∃ z, z4 ++ (be 8 (keyF e1).toNat) = z := ⟨_, rfl⟩
  have HW5 := Lib.hid (show Wr v5 B g z5 from hz5 ▸ hW5)
  have HL5 := Lib.hid (show z5.length ≤ L + 1220 by have h0 := HL4.out; rw [← hz5, List.length_append]; rw [be_len]; omega)
  have HZ5 := Lib.hid hz5
  have HB5 := Lib.hid (HB4.out.trans hb5)
  have hs5 : B ≤ v5.heap.size := szB HB5.out hB
  have HF5 := Lib.hid (HF4.out.trans hF5)
  have HQ5 := Lib.hid (hF5 _ _ HQ4.out.1 HQ4.out.2)
  obtain ⟨c0, c1, c2, c3, c4, c5, c6⟩ := blk7 HQ5.out.1
  clear hW5 hF5 hb5 hz5
  have hw64 : IntKind.u64.wrap (k1 : Int) = (k1 : Int) := by rw [IntKind.wrap_u64]; omega
  go_wp2_with fail
  refine (wN_lit v5 B g z5 [(k1 : Int)] 33 #[.int .u64 (k1 : Int)] 1 1 HW5.out hs5 rfl (by intro x hx; simp at hx; subst hx; omega) rfl (by omega) (by have := HL5.out; omega)).mono ?_
  rintro e v6 ⟨rfl, hW6, hF6, hb6⟩
  obtain ⟨z6, hz6⟩ : ∃ z, z5 ++ (encNs [(k1 : Int)]) = z := ⟨_, rfl⟩
  have HW6 := Lib.hid (show Wr v6 B g z6 from hz6 ▸ hW6)
  have HL6 := Lib.hid (show z6.length ≤ L + 1230 by have h0 := HL5.out; rw [← hz6, List.length_append]; rw [encNs_one]; have := encN_le (k1 : Int).toNat; omega)
  have HZ6 := Lib.hid hz6
  have HB6 := Lib.hid (HB5.out.trans hb6)
  have hs6 : B ≤ v6.heap.size := szB HB6.out hB
  have HF6 := Lib.hid (HF5.out.trans hF6)
  have HQ6 := Lib.hid (hF6 _ _ HQ5.out.1 HQ5.out.2)
  obtain ⟨c0, c1, c2, c3, c4, c5, c6⟩ := blk7 HQ6.out.1
  clear hW6 hF6 hb6 hz6
  have HZ := Lib.hid (show z6 = z0 ++ (encN i1.toNat ++ encN l1.toNat ++ encS t1 ++ encN (if d1 = true then 1 else 0) ++ be 8 (keyN r1) ++ be 8 (keyN e1) ++ encN k1) by
    rw [← HZ6.out, ← HZ5.out, ← HZ4.out, ← HZ3.out, ← HZ2.out, ← HZ1.out, encNs_two, encNs_one, Int.toNat_natCast]
    simp only [List.append_assoc, encS])
  have hkl := HG.out.1
  go_wp2_with fail
  go_loopw [40] (fun s40 wr => ∃ i : Nat, i ≤ k1 ∧ s40 = .int .i64 i ∧ Wr wr B g (z6 ++ encTags (g1.take i)) ∧ Fr w wr g ∧ Below B w wr) (fun s40 _ => k1 - (intOf s40).toNat)
  case atStart => exact ⟨0, by omega, rfl, by simpa [encTags] using HW6.out, HF6.out, HB6.out⟩
  case round =>
    obtain ⟨i, hi, rfl, hW, hF, hbel⟩ := hrel
    have HB := Lib.hid hbel
    have HF := Lib.hid hF
    have HW := Lib.hid hW
    have hsr : B ≤ wr.heap.size := szB hbel hB
    by_cases hlt : i < k1
    · have i0 : (0 : Int) ≤ (i : Int) := by omega
      have i1' : (i : Int) < (k1 : Int) := by omega
      have hgr := HG.out.belowB hbel
      obtain ⟨ad, x, rfl, hx⟩ := hgr.some_at hlt
      obtain ⟨hc, hsz⟩ := str_at hgr hx
      have hx1 := HGS.out x (List.mem_of_getElem? hx)
      have hte := encTags_le (l := g1.take i) (fun y hy => HGS.out y (List.mem_of_mem_take hy))
      rw [List.length_take, Nat.min_eq_left (by omega)] at hte
      have HLz := Lib.hid (show (z6 ++ encTags (g1.take i)).length ≤ 60000000000 - 1009 by rw [List.length_append]; have := HL6.out; omega)
      have HN := Lib.hid (show z6 ++ encTags (g1.take (i + 1)) = (z6 ++ encTags (g1.take i)) ++ (encN x.size ++ x.data.toList) by rw [take_at hx, encTags_snoc, List.append_assoc]; rfl)
      clear hbel hF hW hgr hx hte hkl
      go_wp2_with (refine wpL_bytes rfl _ _ _ _ rfl x rfl Tryz.underlying9 Tryz.underlying39 Tryz.underlying5 (by omega) ?_
                   intro u1 cap1 hb1 hu1 _
                   have HU1 := Lib.hid (And.intro hb1 (HW.out.below hu1))
                   clear hb1)
      refine (wB_any u1 B g _ _ x.size _ x.data.toList HU1.out.2 (Nat.le_trans hsr hu1.size) HU1.out.1 (fun ad e _ => by injection e with e; subst e; exact not_mine_ge HW.out hu1 (Nat.le_refl _)) (by omega) (by have := HLz.out; omega) (by have := HLz.out; omega)).mono ?_
      rintro e w2 ⟨rfl, hW2, hF2, hb2⟩
      have HF2 := Lib.hid (HF.out.trans ((fr_below HW.out hu1).trans hF2))
      have HB2 := Lib.hid (HB.out.trans ((hu1.mono hsr).trans hb2))
      have HW2 := Lib.hid hW2
      clear hW2 hF2 hb2
      go_wp2_with fail
      go_roundw
      case measure => simp [intOf]; omega
      case rel => exact ⟨i + 1, by omega, by go_num, by rw [HN.out]; exact HW2.out, HF2.out, HB2.out⟩
    · obtain rfl : i = k1 := by omega
      have HE := Lib.hid (show z6 ++ encTags (g1.take i) = z0 ++ encTask (i1, l1, t1, d1, r1, e1, g1, ()) by
        rw [HZ.out, List.take_of_length_le (by omega)]
        unfold encTask
        simp only [List.append_assoc, hkl])
      go_wp2_with fail
      refine bodyPost_end (results_none rfl _ _ _) rfl ?_
      exact ⟨rfl, HE.out ▸ HW.out, HF.out, HB.out⟩
end Go.Proofs.YtfjnpiahloncmaaGreat
