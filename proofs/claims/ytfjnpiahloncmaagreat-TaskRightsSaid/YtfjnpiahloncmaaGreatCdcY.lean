import Derived.Test.YtfjnpiahloncmaaGreatCdcX
namespace Go.Proofs.YtfjnpiahloncmaaGreat
open Go.RowKit Cdc
set_option linter.unusedVariables false
set_option linter.unusedSimpArgs false
set_option maxRecDepth 20000 in
theorem one_bytes (w : World) (ok : Nat → Prop) : ∀ xs : List UInt8, RdL w ok .byte xs (xs.map encB)
  | [] => rfl
  | x :: xs => ⟨[encB x], xs.map encB, rfl, rfl, one_bytes w ok xs⟩
set_option maxRecDepth 20000 in
theorem not_mine_new {w : World} {B g : Nat} {xs : List UInt8} (h : Wr w B g xs) (o : Obj) : ¬ Mine (w.alloc o) g w.heap.size := by
  obtain ⟨v, hB, hg, ho, hne⟩ := h
  rintro (e | ⟨v', t, f, hg', hv⟩)
  · have := blk_lt hg; omega
  · rw [blk_alloc hg] at hg'
    injection hg' with e
    injection e with e _ _
    have : v = v' := by simpa using e
    subst this
    have := own_lt ho _ hv
    omega
set_option maxRecDepth 20000 in
theorem rows_u64 (w : World) (t : TypeId) (f : Nat × Nat) (ok : Nat → Prop) (hok : ok w.heap.size) (l : List Int) (hw : ∀ x ∈ l, 0 ≤ x ∧ x < 18446744073709551616) (cells : Array Value) (hc : cells.toList = l.map (Value.int .u64)) (n : Nat) (hn : n = l.length) : Rows (w.alloc (.cells cells t f)) ok (.int .u64) (some ⟨w.heap.size, 0, none⟩) n l := by
  subst hn
  refine ⟨rfl, (fun e => by cases e), fun ad e i x hx => ⟨[.int .u64 x], fun _ => by injection e with e; subst e; exact hok, fun j v hv => ?_, rfl, ?_⟩⟩
  · injection e with e
    subst e
    match j with
    | 0 =>
      simp at hv
      subst hv
      simp only [Sh.size, Nat.mul_one, Nat.add_zero]
      rw [add_plain, World.cell?_alloc_mark, ← Array.getElem?_toList, hc, List.getElem?_map, hx]; rfl
    | j + 1 => simp at hv
  · have := hw x (List.mem_of_getElem? hx)
    simp [Lit.wf, IntKind.min, IntKind.max, IntKind.bits, IntKind.signed]; omega
set_option maxRecDepth 20000 in
theorem wr_len {w : World} {B g : Nat} {xs : List UInt8} (h : Wr w B g xs) : g < w.heap.size := by
  obtain ⟨v, hB, hg, _⟩ := h
  exact blk_lt hg
set_option maxRecDepth 20000 in
/-- A call of N on a literal: what comes of it. -/
theorem wN_lit (w : World) (B g : Nat) (xs : List UInt8) (l : List Int) (t : TypeId) (cells : Array Value) (n c : Nat) (h : Wr w B g xs) (hB : B ≤ w.heap.size) (hc : cells.toList = l.map (Value.int .u64)) (hw : ∀ x ∈ l, 0 ≤ x ∧ x < 18446744073709551616) (hn : n = l.length) (hn2 : n ≤ 1000) (hx : xs.length ≤ 60000000000) :
    Calls Tryz.prog 35 #[.pointer (some ⟨g, 0, none⟩), .slice (some ⟨w.heap.size, 0, none⟩) n c] (w.alloc (.cells cells t)) fun e w' => e = .returned noResult ∧ Wr w' B g (xs ++ encNs l) ∧ Fr w w' g ∧ Below B w w' := by
  have hb := below_alloc1 w (.cells cells t)
  refine (wN_any _ anyB B g xs _ n c l (h.below hb) (Nat.le_trans hB hb.size) (rows_u64 w t (0, 0) anyB trivial l hw cells hc n hn) (fun ad e => by injection e with e; subst e; exact not_mine_new h _) hn2 hx).mono ?_
  rintro e w' ⟨he, hW, hF, hb2⟩
  exact ⟨he, hW, (fr_below h hb).trans hF, (hb.mono hB).trans hb2⟩
set_option maxRecDepth 20000 in
theorem wFlag_any (w : World) (B g : Nat) (xs : List UInt8) (q : Bool) (h : Wr w B g xs) (hB : B ≤ w.heap.size) (hx : xs.length ≤ 60000000000) :
    Calls Tryz.prog 57 #[.pointer (some ⟨g, 0, none⟩), .bool q] w fun e w' => e = .returned noResult ∧ Wr w' B g (xs ++ encN (if q = true then 1 else 0)) ∧ Fr w w' g ∧ Below B w w' := by
  cases q with
  | true =>
    have H := Lib.hid (wN_lit w B g xs [1] 33 #[.int .u64 1] 1 1 h hB rfl (by intro x hx; simp at hx; subst hx; omega) rfl (by omega) hx)
    clear h
    go_enter Tryz.func57, Tryz.ntmps57
    go_wp2_with (go_at_call 35; refine H.out.mono ?_; rintro e w2 ⟨rfl, hW, hF, hb⟩)
    refine bodyPost_ret (results_none rfl _ _ _) rfl ?_
    exact ⟨rfl, by simpa [encNs] using hW, hF, hb⟩
  | false =>
    have H := Lib.hid (wN_lit w B g xs [0] 33 #[.int .u64 0] 1 1 h hB rfl (by intro x hx; simp at hx; subst hx; omega) rfl (by omega) hx)
    clear h
    go_enter Tryz.func57, Tryz.ntmps57
    go_wp2_with (go_at_call 35; refine H.out.mono ?_; rintro e w2 ⟨rfl, hW, hF, hb⟩)
    refine bodyPost_end (results_none rfl _ _ _) rfl ?_
    exact ⟨rfl, by simpa [encNs] using hW, hF, hb⟩
set_option maxRecDepth 20000 in
theorem wF_any (w : World) (B g : Nat) (xs : List UInt8) (f : Nat) (hf : f < 18446744073709551616) (h : Wr w B g xs) (hB : B ≤ w.heap.size) (hx : xs.length ≤ 60000000000) :
    Calls Tryz.prog 58 #[.pointer (some ⟨g, 0, none⟩), .float .f64 f] w fun e w' => e = .returned noResult ∧ Wr w' B g (xs ++ be 8 (keyF f).toNat) ∧ Fr w w' g ∧ Below B w w' := by
  have hk := keyV_range f hf
  rw [← keyF_eq hf] at hk
  obtain ⟨K, hK⟩ : ∃ K : Nat, keyF f = (K : Int) := ⟨(keyF f).toNat, by omega⟩
  have HK := Lib.hid hK
  have HW := Lib.hid h
  have hK64 : K < 18446744073709551616 := by omega
  rw [hK]
  clear hK hk h
  go_enter Tryz.func58, Tryz.ntmps58
  go_wp2_with (first
    | (go_at_call 85; refine (key_any _ _).mono ?_; rintro e w' ⟨rfl, rfl⟩; rw [HK.out])
    | (go_at_call 56; refine (wfixed_any w B g xs K 8 HW.out hB hK64 (by omega) (by omega)).mono ?_; rintro e w2 ⟨rfl, hW, hF, hb⟩))
  refine bodyPost_end (results_none rfl _ _ _) rfl ?_
  exact ⟨rfl, hW, hF, hb⟩
set_option maxRecDepth 20000 in
theorem wB_any (w : World) (B g : Nat) (xs : List UInt8) (A : Option Addr) (n c : Nat) (bs : List UInt8) (h : Wr w B g xs) (hB : B ≤ w.heap.size) (hb : Bs w A n bs) (hA : ∀ ad, A = some ad → bs ≠ [] → ¬ Mine w g ad.block) (hn : n ≤ 60000000000) (hx : xs.length ≤ 60000000000) (hxn : xs.length + n ≤ 60000000000) :
    Calls Tryz.prog 36 #[.pointer (some ⟨g, 0, none⟩), .slice A n c] w fun e w' => e = .returned noResult ∧ Wr w' B g (xs ++ (encN n ++ bs)) ∧ Fr w w' g ∧ Below B w w' := by
  have hw64 : IntKind.u64.wrap (n : Int) = (n : Int) := by rw [IntKind.wrap_u64]; omega
  have H := Lib.hid (wN_lit w B g xs [(n : Int)] 33 #[.int .u64 n] 1 1 h hB rfl (by intro x hx; simp at hx; subst hx; omega) rfl (by omega) hx)
  have HW := Lib.hid h
  have HB := Lib.hid hb
  have hbl := hb.len
  clear h hb
  go_enter Tryz.func36, Tryz.ntmps36
  go_wp2_with fail
  refine H.out.mono ?_
  rintro e w2 ⟨rfl, hW, hF, hb2⟩
  rw [show encNs [(n : Int)] = encN n by simp [encNs]] at hW
  obtain ⟨zs, hz⟩ : ∃ zs, xs ++ encN n = zs := ⟨_, rfl⟩
  rw [hz] at hW
  have hzl : zs.length ≤ xs.length + 9 := by rw [← hz, List.length_append]; have := encN_le n; omega
  have HZ := Lib.hid hz
  obtain ⟨A1, c1, hg0, hg, ho, hne⟩ := hW.open_
  have c0 := blk_at hg 0 _ rfl
  have f0 := blk_free hg 0
  have HG := Lib.hid hg
  have HO := Lib.hid ho
  have hbs := Nat.le_trans hB hb2.size
  have HR := Lib.hid (show Rc w2 A n (bs.map encB) from ⟨by simpa using hbl, HB.out.2.2.1, fun ad e j u hu => by
    have hne' : bs ≠ [] := by intro e; subst e; simp at hu
    exact cell_fr hF (by rw [add_block]; exact hA ad e hne') (HB.out.2.2.2 ad e j u hu)⟩)
  have HF := Lib.hid hF
  have HZL := Lib.hid hzl
  clear hW hg ho hz hbl hF hzl
  go_wp2_with (at_builtin; refine wp_app (base := B) (w0 := w2) rfl (.tmp 16) (.tmp 17) rfl HO.out HR.out (Below.refl B w2) Tryz.underlying39 info_byte rfl rfl rfl (one_bs _) (by have := HZL.out; omega) (by have := HZL.out; omega) hbs ?_; intro v3 w3 ho3 hq3 hgr hat; obtain ⟨A3, c3, rfl, _⟩ := own_rc ho3; have hW3 := wr_app (ys := bs) hg0 HG.out HO.out hne (Below.refl _ _) (by rw [← List.map_append] at ho3; exact ho3) hgr hat; have g3 := blk_grown HG.out hgr (fun e => hne e.symm); have s0 := blk_at g3 0 _ rfl; have s1 := blk_free g3 0; have HW3 := Lib.hid hW3; clear hW3 g3 ho3 hgr hat)
  refine bodyPost_end (results_none rfl _ _ _) rfl ?_
  refine ⟨rfl, ?_, HF.out.trans HW3.out.2.1, HW3.out.2.2 hb2 hbs⟩
  rw [← List.append_assoc, HZ.out]
  exact HW3.out.1
set_option maxRecDepth 20000 in
theorem wBytes_any (w : World) (B g : Nat) (xs : List UInt8) (h : Wr w B g xs) (hB : B ≤ w.heap.size) (hx : xs.length ≤ 100000) :
    Calls Tryz.prog 38 #[.pointer (some ⟨g, 0, none⟩)] w fun e w' => ∃ v', e = .returned v' ∧ Rd w' (fun k => w.heap.size ≤ k) (.sl .byte) xs [v'] ∧ Below w.heap.size w w' := by
  obtain ⟨A1, c1, hg0, hg, ho, hne⟩ := h.open_
  have c0 := blk_at hg 0 _ rfl
  have hrd : Rd w anyB (.sl .byte) xs [.slice A1 xs.length c1] := by
    obtain ⟨A, c, e, h1, h2, h3, h4⟩ := OwnG.form (w := w) (base := B) (ok := anyB) (e := 5) (s := .byte) (v := .slice A1 xs.length c1) (l := xs) ⟨xs.map encB, ho, one_bytes _ _ xs⟩
    rw [e]
    exact rd_sl.2 ⟨A, _, c, rfl, h1, h2, h3, h4.any⟩
  have HR := Lib.hid hrd
  clear h hg ho hrd
  go_enter Tryz.func38, Tryz.ntmps38
  go_wp2_with (go_at_call 59; refine (clone_byte w anyB _ xs HR.out hx).mono ?_; rintro e w2 ⟨v', rfl, hr, hb⟩; have HR2 := Lib.hid hr; obtain ⟨A2, c2, rfl⟩ := rd_slice hr; clear hr)
  go_ret
  exact ⟨_, rfl, HR2.out, hb⟩
end Go.Proofs.YtfjnpiahloncmaaGreat
