import Derived.Test.YtfjnpiahloncmaaGreatCdcW
namespace Go.Proofs.YtfjnpiahloncmaaGreat
open Go.RowKit Cdc
set_option linter.unusedVariables false
set_option linter.unusedSimpArgs false
set_option maxRecDepth 20000 in
theorem cell_fr {w w' : World} {g : Nat} (hF : Fr w w' g) {a : Addr} {v : Value} (hm : ¬ Mine w g a.block) (hc : w.cell? a = some v) : w'.cell? a = some v := by
  have hlt := World.block_lt_of_cell? w _ hc
  have h := (hF a.block (w.heap[a.block]'hlt) (Array.getElem?_eq_getElem hlt) hm).1
  have h2 : w.heap[a.block]? = some (w.heap[a.block]'hlt) := Array.getElem?_eq_getElem hlt
  simp only [World.cell?] at hc ⊢
  rw [h]
  rw [h2] at hc
  exact hc
set_option maxRecDepth 20000 in
theorem blk_fr {w w' : World} {g k : Nat} {o : Obj} (hF : Fr w w' g) (hk : w.heap[k]? = some o) (hm : ¬ Mine w g k) : w'.heap[k]? = some o := (hF k o hk hm).1
def encNs (l : List Int) : List UInt8 := l.flatMap fun x => encN x.toNat
set_option maxRecDepth 20000 in
theorem encNs_snoc (l : List Int) (x : Int) : encNs (l ++ [x]) = encNs l ++ encN x.toNat := by simp [encNs]
set_option maxRecDepth 20000 in
theorem encN_le (n : Nat) : (encN n).length ≤ 9 := by
  unfold encN
  split
  · simp
  · have := (wide_pos n).2
    simp [be_len]; omega
set_option maxHeartbeats 4000000 in
set_option maxRecDepth 20000 in
theorem wN_any (w : World) (ok : Nat → Prop) (B g : Nat) (xs : List UInt8) (A : Option Addr) (n c : Nat) (l : List Int) (h : Wr w B g xs) (hB : B ≤ w.heap.size) (hl : Rows w ok (.int .u64) A n l) (hA : ∀ ad, A = some ad → ¬ Mine w g ad.block) (hn : n ≤ 1000) (hx : xs.length ≤ 60000000000) :
    Calls Tryz.prog 35 #[.pointer (some ⟨g, 0, none⟩), .slice A n c] w fun e w' => e = .returned noResult ∧ Wr w' B g (xs ++ encNs l) ∧ Fr w w' g ∧ Below B w w' := by
  go_enter Tryz.func35, Tryz.ntmps35
  go_wp2_with fail
  go_loopw [11] (fun s11 wr => ∃ i : Nat, i ≤ n ∧ s11 = .int .i64 i ∧ Wr wr B g (xs ++ encNs (l.take i)) ∧ Fr w wr g ∧ Below B w wr ∧ (encNs (l.take i)).length ≤ 9 * i) (fun s11 _ => n - (intOf s11).toNat)
  case atStart => exact ⟨0, by omega, rfl, by simpa [encNs] using h, Fr.refl _ _, Below.refl _ _, by simp [encNs]⟩
  case round =>
    obtain ⟨i, hi, rfl, hW, hF, hbel, hlen⟩ := hrel
    have hll := hl.1
    by_cases hlt : i < n
    · obtain ⟨x, hx1⟩ : ∃ x, l[i]? = some x := ⟨l[i]'(by omega), List.getElem?_eq_getElem (by omega)⟩
      obtain ⟨ad, rfl⟩ : ∃ ad, A = some ad := by cases A with
        | none => exact absurd (hl.2.1 rfl) (by omega)
        | some ad => exact ⟨ad, rfl⟩
      obtain ⟨cs, _, hat, hr⟩ := hl.2.2 ad rfl i x hx1
      obtain ⟨rfl, hwf⟩ := hr
      have hc0 := hat 0 _ rfl
      simp only [Sh.size, Nat.mul_one, Nat.add_zero] at hc0
      have cx := cell_fr hF (by rw [add_block]; exact hA ad rfl) hc0
      have hw2 : 0 ≤ x ∧ x < 18446744073709551616 := by
        have : 0 ≤ x ∧ x ≤ 2 ^ 64 - 1 := by simpa [Lit.wf, IntKind.min, IntKind.max, IntKind.bits, IntKind.signed] using hwf
        omega
      have i0 : (0 : Int) ≤ (i : Int) := by omega
      have i1 : (i : Int) < (n : Int) := by omega
      have HN := Lib.hid (show encNs (l.take (i + 1)) = encNs (l.take i) ++ encN x.toNat by rw [take_at hx1, encNs_snoc])
      obtain ⟨m, hm⟩ : ∃ m : Nat, x = (m : Int) := ⟨x.toNat, by omega⟩
      subst hm
      have hm64 : m < 18446744073709551616 := by omega
      obtain ⟨zs, hz⟩ : ∃ zs, xs ++ encNs (l.take i) = zs := ⟨_, rfl⟩
      have hzl : zs.length ≤ 60000009000 := by rw [← hz, List.length_append]; omega
      rw [hz] at hW
      have HZ := Lib.hid hz
      obtain ⟨A1, c1, hg0, hg, ho, hne⟩ := hW.open_
      have c0 := blk_at hg 0 _ rfl
      have f0 := blk_free hg 0
      have HG := Lib.hid hg
      have HO := Lib.hid ho
      have hbs := Nat.le_trans hB hbel.size
      have HLen := Lib.hid hlen
      have HEL := Lib.hid (encN_le m)
      have hb1 : ∀ q, Below wr.heap.size wr (wr.alloc (.cells #[.int .u8 q] 5)) := fun q => below_alloc1 wr _
      clear h hW hg ho hz hat hc0 hwf hlen hx1
      by_cases h128 : m < 128
      · have h128' : (m : Int) < 128 := by omega
        have hw8 : IntKind.u8.wrap (m : Int) = (m : Int) := IntWalk.u8_in _ (by omega)
        have HE := Lib.hid (show encN m = [UInt8.ofNat m] by unfold encN; rw [if_pos h128])
        have HQ := Lib.hid (show Value.int .u8 (m : Int) = encB (UInt8.ofNat m) from enc_of (by omega))
        go_wp2_with (at_builtin; refine wp_app (base := B) (w0 := wr) rfl (.tmp 21) (.tmp 24) rfl (HO.out.alloc _) (lit_rc wr 5 (0, 0) _ 1 rfl) ((Below.refl B wr).alloc hbs _) Tryz.underlying39 info_byte rfl rfl rfl (one_lit1 _) (by omega) (by omega) (by simp; omega) ?_; intro v3 w3 ho3 hq3 hgr hat; obtain ⟨A3, c3, rfl, _⟩ := own_rc ho3; have hW3 := wr_app (ys := [UInt8.ofNat m]) hg0 HG.out HO.out hne (hb1 _) (by rw [show (#[Value.int .u8 (m : Int)] : Array Value).toList = [UInt8.ofNat m].map encB from congrArg (· :: []) HQ.out, ← List.map_append] at ho3; exact ho3) hgr hat; have g3 := blk_grown (blk_below HG.out (hb1 _) (blk_lt HG.out)) hgr (fun e => hne e.symm); have s0 := blk_at g3 0 _ rfl; have s1 := blk_free g3 0; have HW3 := Lib.hid hW3; clear hW3 g3 ho3 hgr hat)
        go_roundw
        case measure => simp [intOf]; omega
        case rel =>
          refine ⟨i + 1, by omega, by go_num, ?_, hF.trans HW3.out.2.1, HW3.out.2.2 hbel hbs, ?_⟩
          · rw [HN.out, Int.toNat_natCast, HE.out, ← List.append_assoc, HZ.out]; exact HW3.out.1
          · rw [HN.out, Int.toNat_natCast, List.length_append]; have := HLen.out; have := HEL.out; omega
      · have h128' : ¬ (m : Int) < 128 := by omega
        obtain ⟨k, hk⟩ : ∃ k, wide m = k := ⟨_, rfl⟩
        have hk8 := wide_pos m
        rw [hk] at hk8
        have HK := Lib.hid hk
        have HE := Lib.hid (show encN m = [UInt8.ofNat (128 + k)] ++ be k m by unfold encN; rw [if_neg h128, hk]; rfl)
        have hw8 : IntKind.u8.wrap (128 + (k : Int)) = 128 + (k : Int) := IntWalk.u8_in _ (by omega)
        have HQ := Lib.hid (show Value.int .u8 (128 + (k : Int)) = encB (UInt8.ofNat (128 + k)) from enc_of (by omega))
        clear hk
        go_wp2_with (first
          | (go_at_call 55; refine (size_any m _ hm64).mono ?_; rintro e w2 ⟨rfl, rfl⟩; rw [HK.out])
          | (at_builtin; refine wp_app (base := B) (w0 := wr) rfl (.tmp 34) (.tmp 38) rfl (HO.out.alloc _) (lit_rc wr 5 (0, 0) _ 1 rfl) ((Below.refl B wr).alloc hbs _) Tryz.underlying39 info_byte rfl rfl rfl (one_lit1 _) (by omega) (by omega) (by simp; omega) ?_; intro v3 w3 ho3 hq3 hgr hat; obtain ⟨A3, c3, rfl, _⟩ := own_rc ho3; have hW3 := wr_app (ys := [UInt8.ofNat (128 + k)]) hg0 HG.out HO.out hne (hb1 _) (by rw [show (#[Value.int .u8 (128 + (k : Int))] : Array Value).toList = [UInt8.ofNat (128 + k)].map encB from congrArg (· :: []) HQ.out, ← List.map_append] at ho3; exact ho3) hgr hat; have g3 := blk_grown (blk_below HG.out (hb1 _) (blk_lt HG.out)) hgr (fun e => hne e.symm); have s0 := blk_at g3 0 _ rfl; have s1 := blk_free g3 0; have HW3 := Lib.hid hW3; clear hW3 g3 ho3 hgr hat)
          | (go_at_call 56; refine (wfixed_any _ B g _ m k HW3.out.1 (Nat.le_trans hbs (HW3.out.2.2 (Below.refl B wr) hbs).size) hm64 hk8.2 (by rw [List.length_append]; simp; omega)).mono ?_; rintro e w4 ⟨rfl, hW4, hF4, hb4⟩; have HW4 := Lib.hid hW4; have HF4 := Lib.hid (HW3.out.2.1.trans hF4); have HB4 := Lib.hid ((HW3.out.2.2 hbel hbs).trans hb4); clear hW4 hF4 hb4))
        go_roundw
        case measure => simp [intOf]; omega
        case rel =>
          refine ⟨i + 1, by omega, by go_num, ?_, hF.trans HF4.out, HB4.out, ?_⟩
          · rw [HN.out, Int.toNat_natCast, HE.out, ← List.append_assoc, HZ.out, ← List.append_assoc]; exact HW4.out
          · rw [HN.out, Int.toNat_natCast, List.length_append]; have := HLen.out; have := HEL.out; omega
    · obtain rfl : i = n := by omega
      have HE := Lib.hid (show encNs (l.take i) = encNs l by rw [List.take_of_length_le (by omega)])
      clear h hlen
      go_wp2_with fail
      refine bodyPost_end (results_none rfl _ _ _) rfl ?_
      exact ⟨rfl, HE.out ▸ hW, hF, hbel⟩
end Go.Proofs.YtfjnpiahloncmaaGreat
