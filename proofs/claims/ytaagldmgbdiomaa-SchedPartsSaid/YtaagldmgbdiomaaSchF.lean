import Derived.Test.YtaagldmgbdiomaaSchE
namespace Go.Proofs.Ytaagldmgbdiomaa
open Go.RowKit
set_option linter.unusedVariables false
set_option linter.unusedSimpArgs false
set_option maxRecDepth 20000 in
theorem light1 (mk mi ml : Int) (mt : ByteArray) (mf : Nat) (mb : Bool) (w : World) :
    Calls Try.prog 75 #[.agg #[Value.int IntKind.i64 mk, Value.int IntKind.u64 mi, Value.int IntKind.u64 ml, Value.string mt, Value.float FloatKind.f64 mf, Value.bool mb]] w fun e w' => e = .returned (.bool (decide ((mt.size : Int) ≤ 200))) ∧ Below w.heap.size w w' := by
  go_enter Try.func75, Try.ntmps75
  go_wp2_with fail
  go_ret
  exact ⟨ret_bool (by simp), (Below.refl _ _).alloc (Nat.le_refl _) _⟩
set_option maxRecDepth 20000 in
theorem light2 (ql qd : Int) (qt : ByteArray) (qs : Int) (qw : Bool) (qm : Int) (w : World) :
    Calls Try.prog 76 #[.agg #[Value.int IntKind.u64 ql, Value.int IntKind.i64 qd, Value.string qt, Value.int IntKind.i64 qs, Value.bool qw, Value.int IntKind.i64 qm]] w fun e w' => e = .returned (.bool (decide ((qt.size : Int) ≤ 100))) ∧ Below w.heap.size w w' := by
  go_enter Try.func76, Try.ntmps76
  go_wp2_with fail
  go_ret
  exact ⟨ret_bool (by simp), (Below.refl _ _).alloc (Nat.le_refl _) _⟩
def FewS (l : List STEP.Ty) : Prop := l.length ≤ 120 ∧ ∀ x ∈ l, (keepOf x).length ≤ 100 ∧ (dataOf x).length ≤ 300
/-- How 'few' ends: true only of steps that are few and small. -/
def FewPost (l : List STEP.Ty) (w : World) (e : Ending) (w' : World) : Prop := ∃ b, e = .returned (.bool b) ∧ (b = true → FewS l) ∧ Below w.heap.size w w'
set_option maxHeartbeats 4000000 in
set_option maxRecDepth 20000 in
theorem small_any (w : World) (ok : Nat → Prop) (A : Option Addr) (n ca : Nat) (l : List STEP.Ty) (ha : Rows w ok STEP A n l) (hn : n ≤ 9223372036854775807) (p q : Int) :
    Calls Try.prog 52 #[.agg #[.int .i64 p, .int .i64 q, .slice A n ca]] w (FewPost l w) := by
  have hb0 := below_alloc1 w (.cells #[.int .i64 p, .int .i64 q, .slice A n ca] 94)
  have hcp := blk_at (heap_alloc_new w (.cells #[.int .i64 p, .int .i64 q, .slice A n ca] 94)) 2 _ rfl
  have HCP := Lib.hid hcp
  clear hcp
  go_enter Try.func52, Try.ntmps52
  go_wp2_with fail
  have HB0 := Lib.hid hb0
  clear hb0
  go_loopw [8] (fun s8 wr => ∃ i : Nat, i ≤ n ∧ s8 = .int .i64 i ∧ (∀ x ∈ l.take i, (keepOf x).length ≤ 100 ∧ (dataOf x).length ≤ 300) ∧ Below (w.heap.size + 1) (w.alloc (.cells #[.int .i64 p, .int .i64 q, .slice A n ca] 94)) wr) (fun s8 _ => n - (intOf s8).toNat)
  case atStart => exact ⟨0, by omega, rfl, (fun x hx => by simp at hx), Below.refl _ _⟩
  case round =>
    obtain ⟨i, hi, rfl, hP, hbel⟩ := hrel
    have hl := ha.1
    have hbw := HB0.out.trans (hbel.mono (by omega))
    have HBW := Lib.hid hbw
    have hsz : (w.alloc (.cells #[.int .i64 p, .int .i64 q, .slice A n ca] 94)).heap.size = w.heap.size + 1 := by simp
    have cp := cell_below (hbel.mono (Nat.le_of_eq hsz)) HCP.out
    by_cases hlt : i < n
    · obtain ⟨x, hx⟩ : ∃ x, l[i]? = some x := ⟨l[i]'(by omega), List.getElem?_eq_getElem (by omega)⟩
      obtain ⟨ad, rfl⟩ : ∃ ad, A = some ad := by cases A with
        | none => exact absurd (ha.2.1 rfl) (by omega)
        | some ad => exact ⟨ad, rfl⟩
      obtain ⟨cs, _, hat, hrd⟩ := ha.2.2 ad rfl i x hx
      have i0 : (0 : Int) ≤ (i : Int) := by omega
      have i1 : (i : Int) < (n : Int) := by omega
      have HAt := Lib.hid (hat.add.below hbw)
      obtain ⟨kind, node, other, nn, mk, mi, ml, mt, mf, mb, ql, qd, qt, qs, qw, qm, kv, dv, rfl, hxx, hwf, h7, h8⟩ := rd_step hrd
      obtain ⟨K, kc, rfl, _, _, _⟩ := rd_row h7
      obtain ⟨D, dc, rfl, _, _, _⟩ := rd_row h8
      have HN := Lib.hid (fun (hk : (keepOf x).length ≤ 100) (hd : (dataOf x).length ≤ 300) => show ∀ x ∈ l.take (i + 1), (keepOf x).length ≤ 100 ∧ (dataOf x).length ≤ 300 from by
        rw [take_at hx]
        intro y hy
        rcases List.mem_append.1 hy with hy | hy
        · exact hP y hy
        · simp at hy
          subst hy
          exact ⟨hk, hd⟩)
      obtain ⟨kl, hkl⟩ : ∃ kl, kl = x.2.2.2.2.2.2.1 := ⟨_, rfl⟩
      obtain ⟨dl, hdl⟩ : ∃ dl, dl = x.2.2.2.2.2.2.2.1 := ⟨_, rfl⟩
      have HN2 := Lib.hid (fun (hk : kl.length ≤ 100) (hd : dl.length ≤ 300) => HN.out (by rw [hkl] at hk; exact hk) (by rw [hdl] at hd; exact hd))
      rw [← hkl, ← hdl] at HAt
      clear hat hrd hx hxx hwf h7 h8 HN hP hkl hdl
      unfold stepC at HAt
      by_cases t1 : (mt.size : Int) ≤ 200
      · by_cases t2 : (qt.size : Int) ≤ 100
        · by_cases t3 : (100 : Int) < (kl.length : Nat)
          · go_wp2_with (first
              | (refine wpL_load rfl 45 (.tmp 10) rfl _ rfl _ _ HAt.out Try.underlying45 rfl rfl ?_)
              | (refine wpL_store rfl 45 (.tmp 4) (.tmp 11) rfl wr.heap.size rfl _ _ 45 rfl (heap_alloc_new wr _) rfl rfl (by intro v hv; simp at hv; rcases hv with rfl | rfl | rfl | rfl | rfl | rfl | rfl | rfl | rfl | rfl | rfl | rfl | rfl | rfl | rfl | rfl | rfl | rfl <;> rfl) ?_; intro w1 hc1 hg1; have hbw1 : Below wr.heap.size wr w1 := (below_alloc1 wr _).grown hg1 (by simp) (fun k e => by cases e; exact Nat.le_refl _); obtain ⟨c0, c1, c2, c3, c4, c5, c6, c7, c8, c9, c10, c11, c12, c13, c14, c15, c16, c17⟩ := blk18 hc1; have HB1 := Lib.hid hbw1; have HC1 := Lib.hid hc1; clear hc1 hg1 hbw1)
              | (go_at_call 75; refine (light1 _ _ _ _ _ _ _).mono ?_; rintro e w2 ⟨rfl, hb2⟩; have g2 := blk_below HC1.out hb2 (blk_lt HC1.out); obtain ⟨d0, d1, d2, d3, d4, d5, d6, d7, d8, d9, d10, d11, d12, d13, d14, d15, d16, d17⟩ := blk18 g2; have HB2 := Lib.hid (HB1.out.trans (hb2.mono HB1.out.size)); have HC2 := Lib.hid g2; clear g2 hb2)
              | (go_at_call 76; refine (light2 _ _ _ _ _ _ _).mono ?_; rintro e w3 ⟨rfl, hb3⟩; have g3 := blk_below HC2.out hb3 (blk_lt HC2.out); obtain ⟨e0, e1, e2, e3, e4, e5, e6, e7, e8, e9, e10, e11, e12, e13, e14, e15, e16, e17⟩ := blk18 g3; have HBX := Lib.hid (HB2.out.trans (hb3.mono HB2.out.size)); have HB3 := Lib.hid (hbel.trans (HBX.out.mono (by have := hbel.size; omega))); clear g3 hb3))
            go_ret
            exact ⟨false, rfl, (fun h => by cases h), by first | exact HBW.out.trans (HBX.out.mono HBW.out.size) | exact HBW.out.trans (HB2.out.mono HBW.out.size)⟩
          · by_cases t4 : (300 : Int) < (dl.length : Nat)
            · go_wp2_with (first
                | (refine wpL_load rfl 45 (.tmp 10) rfl _ rfl _ _ HAt.out Try.underlying45 rfl rfl ?_)
                | (refine wpL_store rfl 45 (.tmp 4) (.tmp 11) rfl wr.heap.size rfl _ _ 45 rfl (heap_alloc_new wr _) rfl rfl (by intro v hv; simp at hv; rcases hv with rfl | rfl | rfl | rfl | rfl | rfl | rfl | rfl | rfl | rfl | rfl | rfl | rfl | rfl | rfl | rfl | rfl | rfl <;> rfl) ?_; intro w1 hc1 hg1; have hbw1 : Below wr.heap.size wr w1 := (below_alloc1 wr _).grown hg1 (by simp) (fun k e => by cases e; exact Nat.le_refl _); obtain ⟨c0, c1, c2, c3, c4, c5, c6, c7, c8, c9, c10, c11, c12, c13, c14, c15, c16, c17⟩ := blk18 hc1; have HB1 := Lib.hid hbw1; have HC1 := Lib.hid hc1; clear hc1 hg1 hbw1)
                | (go_at_call 75; refine (light1 _ _ _ _ _ _ _).mono ?_; rintro e w2 ⟨rfl, hb2⟩; have g2 := blk_below HC1.out hb2 (blk_lt HC1.out); obtain ⟨d0, d1, d2, d3, d4, d5, d6, d7, d8, d9, d10, d11, d12, d13, d14, d15, d16, d17⟩ := blk18 g2; have HB2 := Lib.hid (HB1.out.trans (hb2.mono HB1.out.size)); have HC2 := Lib.hid g2; clear g2 hb2)
                | (go_at_call 76; refine (light2 _ _ _ _ _ _ _).mono ?_; rintro e w3 ⟨rfl, hb3⟩; have g3 := blk_below HC2.out hb3 (blk_lt HC2.out); obtain ⟨e0, e1, e2, e3, e4, e5, e6, e7, e8, e9, e10, e11, e12, e13, e14, e15, e16, e17⟩ := blk18 g3; have HBX := Lib.hid (HB2.out.trans (hb3.mono HB2.out.size)); have HB3 := Lib.hid (hbel.trans (HBX.out.mono (by have := hbel.size; omega))); clear g3 hb3))
              go_ret
              exact ⟨false, rfl, (fun h => by cases h), by first | exact HBW.out.trans (HBX.out.mono HBW.out.size) | exact HBW.out.trans (HB2.out.mono HBW.out.size)⟩
            · go_wp2_with (first
                | (refine wpL_load rfl 45 (.tmp 10) rfl _ rfl _ _ HAt.out Try.underlying45 rfl rfl ?_)
                | (refine wpL_store rfl 45 (.tmp 4) (.tmp 11) rfl wr.heap.size rfl _ _ 45 rfl (heap_alloc_new wr _) rfl rfl (by intro v hv; simp at hv; rcases hv with rfl | rfl | rfl | rfl | rfl | rfl | rfl | rfl | rfl | rfl | rfl | rfl | rfl | rfl | rfl | rfl | rfl | rfl <;> rfl) ?_; intro w1 hc1 hg1; have hbw1 : Below wr.heap.size wr w1 := (below_alloc1 wr _).grown hg1 (by simp) (fun k e => by cases e; exact Nat.le_refl _); obtain ⟨c0, c1, c2, c3, c4, c5, c6, c7, c8, c9, c10, c11, c12, c13, c14, c15, c16, c17⟩ := blk18 hc1; have HB1 := Lib.hid hbw1; have HC1 := Lib.hid hc1; clear hc1 hg1 hbw1)
                | (go_at_call 75; refine (light1 _ _ _ _ _ _ _).mono ?_; rintro e w2 ⟨rfl, hb2⟩; have g2 := blk_below HC1.out hb2 (blk_lt HC1.out); obtain ⟨d0, d1, d2, d3, d4, d5, d6, d7, d8, d9, d10, d11, d12, d13, d14, d15, d16, d17⟩ := blk18 g2; have HB2 := Lib.hid (HB1.out.trans (hb2.mono HB1.out.size)); have HC2 := Lib.hid g2; clear g2 hb2)
                | (go_at_call 76; refine (light2 _ _ _ _ _ _ _).mono ?_; rintro e w3 ⟨rfl, hb3⟩; have g3 := blk_below HC2.out hb3 (blk_lt HC2.out); obtain ⟨e0, e1, e2, e3, e4, e5, e6, e7, e8, e9, e10, e11, e12, e13, e14, e15, e16, e17⟩ := blk18 g3; have HBX := Lib.hid (HB2.out.trans (hb3.mono HB2.out.size)); have HB3 := Lib.hid (hbel.trans (HBX.out.mono (by have := hbel.size; omega))); clear g3 hb3))
              go_roundw
              case measure => simp [intOf]; omega
              case rel => exact ⟨i + 1, by omega, by go_num, HN2.out (by omega) (by omega), HB3.out⟩
        · go_wp2_with (first
            | (refine wpL_load rfl 45 (.tmp 10) rfl _ rfl _ _ HAt.out Try.underlying45 rfl rfl ?_)
            | (refine wpL_store rfl 45 (.tmp 4) (.tmp 11) rfl wr.heap.size rfl _ _ 45 rfl (heap_alloc_new wr _) rfl rfl (by intro v hv; simp at hv; rcases hv with rfl | rfl | rfl | rfl | rfl | rfl | rfl | rfl | rfl | rfl | rfl | rfl | rfl | rfl | rfl | rfl | rfl | rfl <;> rfl) ?_; intro w1 hc1 hg1; have hbw1 : Below wr.heap.size wr w1 := (below_alloc1 wr _).grown hg1 (by simp) (fun k e => by cases e; exact Nat.le_refl _); obtain ⟨c0, c1, c2, c3, c4, c5, c6, c7, c8, c9, c10, c11, c12, c13, c14, c15, c16, c17⟩ := blk18 hc1; have HB1 := Lib.hid hbw1; have HC1 := Lib.hid hc1; clear hc1 hg1 hbw1)
            | (go_at_call 75; refine (light1 _ _ _ _ _ _ _).mono ?_; rintro e w2 ⟨rfl, hb2⟩; have g2 := blk_below HC1.out hb2 (blk_lt HC1.out); obtain ⟨d0, d1, d2, d3, d4, d5, d6, d7, d8, d9, d10, d11, d12, d13, d14, d15, d16, d17⟩ := blk18 g2; have HB2 := Lib.hid (HB1.out.trans (hb2.mono HB1.out.size)); have HC2 := Lib.hid g2; clear g2 hb2)
            | (go_at_call 76; refine (light2 _ _ _ _ _ _ _).mono ?_; rintro e w3 ⟨rfl, hb3⟩; have g3 := blk_below HC2.out hb3 (blk_lt HC2.out); obtain ⟨e0, e1, e2, e3, e4, e5, e6, e7, e8, e9, e10, e11, e12, e13, e14, e15, e16, e17⟩ := blk18 g3; have HBX := Lib.hid (HB2.out.trans (hb3.mono HB2.out.size)); have HB3 := Lib.hid (hbel.trans (HBX.out.mono (by have := hbel.size; omega))); clear g3 hb3))
          go_ret
          exact ⟨false, rfl, (fun h => by cases h), by first | exact HBW.out.trans (HBX.out.mono HBW.out.size) | exact HBW.out.trans (HB2.out.mono HBW.out.size)⟩
      · go_wp2_with (first
          | (refine wpL_load rfl 45 (.tmp 10) rfl _ rfl _ _ HAt.out Try.underlying45 rfl rfl ?_)
          | (refine wpL_store rfl 45 (.tmp 4) (.tmp 11) rfl wr.heap.size rfl _ _ 45 rfl (heap_alloc_new wr _) rfl rfl (by intro v hv; simp at hv; rcases hv with rfl | rfl | rfl | rfl | rfl | rfl | rfl | rfl | rfl | rfl | rfl | rfl | rfl | rfl | rfl | rfl | rfl | rfl <;> rfl) ?_; intro w1 hc1 hg1; have hbw1 : Below wr.heap.size wr w1 := (below_alloc1 wr _).grown hg1 (by simp) (fun k e => by cases e; exact Nat.le_refl _); obtain ⟨c0, c1, c2, c3, c4, c5, c6, c7, c8, c9, c10, c11, c12, c13, c14, c15, c16, c17⟩ := blk18 hc1; have HB1 := Lib.hid hbw1; have HC1 := Lib.hid hc1; clear hc1 hg1 hbw1)
          | (go_at_call 75; refine (light1 _ _ _ _ _ _ _).mono ?_; rintro e w2 ⟨rfl, hb2⟩; have g2 := blk_below HC1.out hb2 (blk_lt HC1.out); obtain ⟨d0, d1, d2, d3, d4, d5, d6, d7, d8, d9, d10, d11, d12, d13, d14, d15, d16, d17⟩ := blk18 g2; have HB2 := Lib.hid (HB1.out.trans (hb2.mono HB1.out.size)); have HC2 := Lib.hid g2; clear g2 hb2)
          | (go_at_call 76; refine (light2 _ _ _ _ _ _ _).mono ?_; rintro e w3 ⟨rfl, hb3⟩; have g3 := blk_below HC2.out hb3 (blk_lt HC2.out); obtain ⟨e0, e1, e2, e3, e4, e5, e6, e7, e8, e9, e10, e11, e12, e13, e14, e15, e16, e17⟩ := blk18 g3; have HBX := Lib.hid (HB2.out.trans (hb3.mono HB2.out.size)); have HB3 := Lib.hid (hbel.trans (HBX.out.mono (by have := hbel.size; omega))); clear g3 hb3))
        go_ret
        exact ⟨false, rfl, (fun h => by cases h), by first | exact HBW.out.trans (HBX.out.mono HBW.out.size) | exact HBW.out.trans (HB2.out.mono HBW.out.size)⟩
    · have hin : i = n := by omega
      subst hin
      have HF := Lib.hid (show (i : Int) ≤ 120 → FewS l from fun h => ⟨by omega, by have := hP; rwa [List.take_of_length_le (by omega)] at this⟩)
      clear hP
      go_wp2_with fail
      go_ret
      exact ⟨_, rfl, (fun h => HF.out (by simpa using h)), HBW.out⟩
set_option maxRecDepth 20000 in
theorem few_any (w : World) (ok : Nat → Prop) (A : Option Addr) (n ca : Nat) (l : List STEP.Ty) (ha : Rows w ok STEP A n l) (hn : n ≤ 9223372036854775807) :
    Calls Try.prog 18 #[.slice A n ca] w (FewPost l w) := by
  go_enter Try.func18, Try.ntmps18
  go_wp2_with (go_at_call 52; refine (small_any w ok A n ca l ha hn 0 0).mono ?_; rintro e w' ⟨b, rfl, hb, hbw⟩; have HB := Lib.hid hb; clear hb)
  go_ret
  exact ⟨b, rfl, HB.out, hbw⟩
end Go.Proofs.Ytaagldmgbdiomaa
