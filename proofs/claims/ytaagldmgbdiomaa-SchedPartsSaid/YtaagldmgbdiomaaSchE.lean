import Derived.Test.YtaagldmgbdiomaaFlk
import Derived.Test.YtaagldmgbdiomaaSchO
import Derived.Test.YtaagldmgbdiomaaSchR
namespace Go.Proofs.Ytaagldmgbdiomaa
open Go.RowKit
set_option linter.unusedVariables false
set_option linter.unusedSimpArgs false
set_option maxRecDepth 20000 in
theorem samemut_self (mk mi ml : Int) (mt : ByteArray) (mf : Nat) (mb : Bool) (w : World) :
    Calls Try.prog 63 #[.agg #[Value.int IntKind.i64 mk, Value.int IntKind.u64 mi, Value.int IntKind.u64 ml, Value.string mt, Value.float FloatKind.f64 mf, Value.bool mb], .agg #[Value.int IntKind.i64 mk, Value.int IntKind.u64 mi, Value.int IntKind.u64 ml, Value.string mt, Value.float FloatKind.f64 mf, Value.bool mb]] w fun e w' => e = .returned (.bool true) ∧ Below w.heap.size w w' := by
  go_enter Try.func63, Try.ntmps63
  go_wp2_with (go_at_call 83; refine (rsame_self _ _).mono ?_; rintro e w' ⟨rfl, rfl⟩)
  go_ret
  exact ⟨rfl, ((Below.refl _ _).alloc (Nat.le_refl _) _).alloc (by simp) _⟩
set_option maxRecDepth 20000 in
theorem bool_cell {w : World} {ok : Nat → Prop} {ad : Addr} {n : Nat} {l : List Bool} (h : Rows w ok .bool (some ad) n l) {i : Nat} {x : Bool} (hx : l[i]? = some x) : w.cell? (ad.add i) = some (.bool x) := by
  obtain ⟨cs, _, hat, hr⟩ := h.2.2 ad rfl i x hx
  obtain rfl : cs = [.bool x] := hr
  have := hat 0 _ rfl
  simpa [Sh.size] using this
set_option maxRecDepth 20000 in
theorem rd_bs {w : World} {ok : Nat → Prop} {l : List UInt8} {v : Value} (h : Rd w ok (.sl .byte) l [v]) : ∃ A c, v = .slice A l.length c ∧ l.length ≤ c ∧ c ≤ 9223372036854775807 ∧ Bs w A l.length l := by
  obtain ⟨A, n, c, h1, h2, h3, h4, h5⟩ := rd_sl.1 h
  simp at h1
  have hl := h5.1
  subst hl
  exact ⟨A, c, h1, h2, h3, rows_bytes (by omega) h5⟩
set_option maxRecDepth 20000 in
theorem rd_row {w : World} {ok : Nat → Prop} {e : Sh} {l : List e.Ty} {v : Value} (h : Rd w ok (.sl e) l [v]) : ∃ A c, v = .slice A l.length c ∧ l.length ≤ c ∧ c ≤ 9223372036854775807 ∧ Rows w ok e A l.length l := by
  obtain ⟨A, n, c, h1, h2, h3, h4, h5⟩ := rd_sl.1 h
  simp at h1
  have hl := h5.1
  subst hl
  exact ⟨A, c, h1, h2, h3, h5⟩
set_option maxRecDepth 20000 in
theorem rd_step2 {w : World} {ok ok' : Nat → Prop} {x : STEP.Ty} {cs ds : List Value} (h : Rd w ok STEP x cs) (h' : Rd w ok' STEP x ds) :
    ∃ kind node other n mk mi ml mt mf mb ql qd qt qs qw qm kv dv kv' dv' kl dl, cs = stepC kind node other n mk mi ml mt mf mb ql qd qt qs qw qm kv dv ∧ ds = stepC kind node other n mk mi ml mt mf mb ql qd qt qs qw qm kv' dv' ∧
      Rd w ok (.sl .bool) kl [kv] ∧ Rd w ok (.sl .byte) dl [dv] ∧ Rd w ok' (.sl .bool) kl [kv'] ∧ Rd w ok' (.sl .byte) dl [dv'] := by
  obtain ⟨kind, node, other, n, mk, mi, ml, mt, mf, mb, ql, qd, qt, qs, qw, qm, kv, dv, rfl, hx, hwf, h7, h8⟩ := rd_step h
  obtain ⟨kind', node', other', n', mk', mi', ml', mt', mf', mb', ql', qd', qt', qs', qw', qm', kv', dv', rfl, hx', hwf', h7', h8'⟩ := rd_step h'
  have e := hx.symm.trans hx'
  simp only [Prod.mk.injEq] at e
  obtain ⟨rfl, rfl, rfl, rfl, ⟨rfl, rfl, rfl, rfl, rfl, rfl, _⟩, ⟨rfl, rfl, rfl, rfl, rfl, rfl, _⟩, _⟩ := e
  exact ⟨kind, node, other, n, mk, mi, ml, mt, mf, mb, ql, qd, qt, qs, qw, qm, kv, dv, kv', dv', _, _, rfl, rfl, h7, h8, h7', h8'⟩
set_option maxHeartbeats 4000000 in
set_option maxRecDepth 20000 in
theorem samesteps_any (w : World) (ok ok' : Nat → Prop) (A B : Option Addr) (n ca cb : Nat) (l : List STEP.Ty) (ha : Rows w ok STEP A n l) (hb : Rows w ok' STEP B n l) (hn : n ≤ 9223372036854775807) :
    Calls Try.prog 22 #[.slice A n ca, .slice B n cb] w fun e w' => e = .returned (.bool true) ∧ Below w.heap.size w w' := by
  go_enter Try.func22, Try.ntmps22
  go_wp2_with fail
  go_loopw [16] (fun s16 wr => ∃ i : Nat, i ≤ n ∧ s16 = .int .i64 i ∧ Below w.heap.size w wr) (fun s16 _ => n - (intOf s16).toNat)
  case atStart => exact ⟨0, by omega, rfl, Below.refl _ _⟩
  case round =>
    obtain ⟨i, hi, rfl, hbel⟩ := hrel
    have hl := ha.1
    by_cases hlt : i < n
    · obtain ⟨x, hx⟩ : ∃ x, l[i]? = some x := ⟨l[i]'(by omega), List.getElem?_eq_getElem (by omega)⟩
      obtain ⟨ad, rfl⟩ : ∃ ad, A = some ad := by cases A with
        | none => exact absurd (ha.2.1 rfl) (by omega)
        | some ad => exact ⟨ad, rfl⟩
      obtain ⟨bd, rfl⟩ : ∃ bd, B = some bd := by cases B with
        | none => exact absurd (hb.2.1 rfl) (by omega)
        | some bd => exact ⟨bd, rfl⟩
      obtain ⟨csx, _, hatx, hrx⟩ := ha.2.2 ad rfl i x hx
      obtain ⟨csy, _, haty, hry⟩ := hb.2.2 bd rfl i x hx
      have i0 : (0 : Int) ≤ (i : Int) := by omega
      have i1 : (i : Int) < (n : Int) := by omega
      have HAx := Lib.hid (hatx.add.below hbel)
      have HAy := Lib.hid (haty.add.below hbel)
      have HRx := Lib.hid (hrx.below hbel)
      have HRy := Lib.hid (hry.below hbel)
      have hxl := hrx.len
      have hyl := hry.len
      have hxo := hrx.one
      have hyo := hry.one
      clear hatx haty hrx hry hx
      go_wp2_with fail
      refine wp_region_held_drew (S := fun W => Below wr.heap.size wr W) (by kernel_rfl) (Below.refl _ _).drew (fun hHeld => ?_)
      first
        | (refine take_in (i := 0) (v := ?_) rfl (by kernel_rfl) (by kernel_rfl) (by kernel_rfl) (fun _ _ _ h => h) (Or.inl ⟨by rfl, ?_⟩) hHeld ?_; rotate_left; (focus (intro w hSw; (try dsimp only at hSw); obtain hSw := hSw; go_simp; (try rfl); done)); (try simp only [Act.put, List.setIfInBounds_toArray, List.set_cons_zero, List.set_cons_succ]))
        | (refine take_in (i := 0) (v := undef) rfl (by kernel_rfl) (by kernel_rfl) (by kernel_rfl) (fun _ _ _ h => h) (Or.inr ⟨by rfl, rfl⟩) hHeld ?_; (try simp only [Act.put, List.setIfInBounds_toArray, List.set_cons_zero, List.set_cons_succ]))
      first
        | (refine take_in (i := 1) (v := ?_) rfl (by kernel_rfl) (by kernel_rfl) (by kernel_rfl) (fun _ _ _ h => h) (Or.inl ⟨by rfl, ?_⟩) hHeld ?_; rotate_left; (focus (intro w hSw; (try dsimp only at hSw); obtain hSw := hSw; go_simp; (try rfl); done)); (try simp only [Act.put, List.setIfInBounds_toArray, List.set_cons_zero, List.set_cons_succ]))
        | (refine take_in (i := 1) (v := undef) rfl (by kernel_rfl) (by kernel_rfl) (by kernel_rfl) (fun _ _ _ h => h) (Or.inr ⟨by rfl, rfl⟩) hHeld ?_; (try simp only [Act.put, List.setIfInBounds_toArray, List.set_cons_zero, List.set_cons_succ]))
      first
        | (refine take_in (i := 2) (v := ?_) rfl (by kernel_rfl) (by kernel_rfl) (by kernel_rfl) (fun _ _ _ h => h) (Or.inl ⟨by rfl, ?_⟩) hHeld ?_; rotate_left; (focus (intro w hSw; (try dsimp only at hSw); obtain hSw := hSw; go_simp; (try rfl); done)); (try simp only [Act.put, List.setIfInBounds_toArray, List.set_cons_zero, List.set_cons_succ]))
        | (refine take_in (i := 2) (v := undef) rfl (by kernel_rfl) (by kernel_rfl) (by kernel_rfl) (fun _ _ _ h => h) (Or.inr ⟨by rfl, rfl⟩) hHeld ?_; (try simp only [Act.put, List.setIfInBounds_toArray, List.set_cons_zero, List.set_cons_succ]))
      refine take_in (i := 3) (v := .agg csx.toArray) rfl (by kernel_rfl) (by kernel_rfl) (by kernel_rfl) (fun _ _ _ h => h) (yields_load (by rfl) 45 (.tmp 21) rfl _ rfl csx _ (fun _ h => HAx.out.below h) Try.underlying45 rfl (by rw [hxl]; rfl)) hHeld ?_
      (try simp only [Act.put, List.setIfInBounds_toArray, List.set_cons_zero, List.set_cons_succ])
      first
        | (refine take_in (i := 4) (v := ?_) rfl (by kernel_rfl) (by kernel_rfl) (by kernel_rfl) (fun _ _ _ h => h) (Or.inl ⟨by rfl, ?_⟩) hHeld ?_; rotate_left; (focus (intro w hSw; (try dsimp only at hSw); obtain hSw := hSw; go_simp; (try rfl); done)); (try simp only [Act.put, List.setIfInBounds_toArray, List.set_cons_zero, List.set_cons_succ]))
        | (refine take_in (i := 4) (v := undef) rfl (by kernel_rfl) (by kernel_rfl) (by kernel_rfl) (fun _ _ _ h => h) (Or.inr ⟨by rfl, rfl⟩) hHeld ?_; (try simp only [Act.put, List.setIfInBounds_toArray, List.set_cons_zero, List.set_cons_succ]))
      first
        | (refine take_in (i := 5) (v := ?_) rfl (by kernel_rfl) (by kernel_rfl) (by kernel_rfl) (fun _ _ _ h => h) (Or.inl ⟨by rfl, ?_⟩) hHeld ?_; rotate_left; (focus (intro w hSw; (try dsimp only at hSw); obtain hSw := hSw; go_simp; (try rfl); done)); (try simp only [Act.put, List.setIfInBounds_toArray, List.set_cons_zero, List.set_cons_succ]))
        | (refine take_in (i := 5) (v := undef) rfl (by kernel_rfl) (by kernel_rfl) (by kernel_rfl) (fun _ _ _ h => h) (Or.inr ⟨by rfl, rfl⟩) hHeld ?_; (try simp only [Act.put, List.setIfInBounds_toArray, List.set_cons_zero, List.set_cons_succ]))
      first
        | (refine take_in (i := 6) (v := ?_) rfl (by kernel_rfl) (by kernel_rfl) (by kernel_rfl) (fun _ _ _ h => h) (Or.inl ⟨by rfl, ?_⟩) hHeld ?_; rotate_left; (focus (intro w hSw; (try dsimp only at hSw); obtain hSw := hSw; go_simp; (try rfl); done)); (try simp only [Act.put, List.setIfInBounds_toArray, List.set_cons_zero, List.set_cons_succ]))
        | (refine take_in (i := 6) (v := undef) rfl (by kernel_rfl) (by kernel_rfl) (by kernel_rfl) (fun _ _ _ h => h) (Or.inr ⟨by rfl, rfl⟩) hHeld ?_; (try simp only [Act.put, List.setIfInBounds_toArray, List.set_cons_zero, List.set_cons_succ]))
      refine take_in (i := 7) (v := .agg csy.toArray) rfl (by kernel_rfl) (by kernel_rfl) (by kernel_rfl) (fun _ _ _ h => h) (yields_load (by rfl) 45 (.tmp 25) rfl _ rfl csy _ (fun _ h => HAy.out.below h) Try.underlying45 rfl (by rw [hyl]; rfl)) hHeld ?_
      (try simp only [Act.put, List.setIfInBounds_toArray, List.set_cons_zero, List.set_cons_succ])
      refine two_in (i := 8) (j := 9) rfl rfl (by kernel_rfl) (fun K hK => ?_) (fun K hK => ?_)
      · rw [if_pos (by rfl)]
        go_simp
        refine hK.out _ _ (hHeld.alloc hHeld.size _) (fun hHeld => ?_)
        (try simp only [Act.put, List.setIfInBounds_toArray, List.set_cons_zero, List.set_cons_succ])
        refine one_in (i := 9) rfl (by kernel_rfl) (fun K hK => ?_)
        rw [if_pos (by rfl)]
        go_simp
        refine hK.out _ _ (hHeld.alloc hHeld.size _) (fun hHeld => ?_)
        (try simp only [Act.put, List.setIfInBounds_toArray, List.set_cons_zero, List.set_cons_succ])
        refine one_in (i := 10) rfl (by kernel_rfl) (fun K hK => ?_)
        rw [if_pos (by rfl)]
        refine wpo_store 45 (.tmp 6) (.tmp 22) rfl (wr.heap.size) rfl csx.toArray _ 45 rfl (blk_alloc (heap_alloc_new wr.drew _) _) (by rw [List.size_toArray, hxl]; rfl) (by rw [List.size_toArray, hxl]; rfl) hxo ?_
        intro w1 hc6 hg1
        refine hK.out _ _ (hHeld.grown hg1 hHeld.size (fun k e => by injection e; omega)) (fun hHeld => ?_)
        (try simp only [Act.put, List.setIfInBounds_toArray, List.set_cons_zero, List.set_cons_succ])
        refine one_in (i := 11) rfl (by kernel_rfl) (fun K hK => ?_)
        rw [if_pos (by rfl)]
        refine wpo_store 45 (.tmp 7) (.tmp 26) rfl (wr.heap.size + 1) rfl csy.toArray _ 45 rfl (blk_grown (heap_alloc2_new wr.drew _ _) hg1 (by intro e; injection e; omega)) (by rw [List.size_toArray, hyl]; rfl) (by rw [List.size_toArray, hyl]; rfl) hyo ?_
        intro w2 hc7 hg2
        have hc6' := blk_grown hc6 hg2 (by intro e; injection e; omega)
        refine hK.out _ _ (hHeld.grown hg2 hHeld.size (fun k e => by injection e; omega)) (fun hHeld => ?_)
        (try simp only [Act.put, List.setIfInBounds_toArray, List.set_cons_zero, List.set_cons_succ])
        refine wpAnyH_done (by kernel_rfl) ?_ _
        clear hc6 hg1 hg2
        obtain ⟨b6, hb6⟩ : ∃ b6 : Nat, wr.heap.size = b6 := ⟨_, rfl⟩
        obtain ⟨b7, hb7⟩ : ∃ b7 : Nat, wr.heap.size + 1 = b7 := ⟨_, rfl⟩
        rw [hb7] at hc7 ⊢
        rw [hb6] at hc6' ⊢
        clear hb6 hb7
        have HW2 := Lib.hid hHeld
        clear hHeld
        obtain ⟨kind, node, other, nn, mk, mi, ml, mt, mf, mb, ql, qd, qt, qs, qw, qm, kvx, dvx, kvy, dvy, kl, dl, rfl, rfl, h7x, h8x, h7y, h8y⟩ := rd_step2 (HRx.out.below HW2.out) (HRy.out.below HW2.out)
        unfold stepC at hc6' hc7
        obtain ⟨c0, c1, c2, c3, c4, c5, c6, c7, c8, c9, c10, c11, c12, c13, c14, c15, c16, c17⟩ := blk18 hc6'
        obtain ⟨d0, d1, d2, d3, d4, d5, d6, d7, d8, d9, d10, d11, d12, d13, d14, d15, d16, d17⟩ := blk18 hc7
        obtain ⟨Ax, capx, rfl, _, _, hbx⟩ := rd_bs h8x
        obtain ⟨Ay, capy, rfl, _, _, hby⟩ := rd_bs h8y
        obtain ⟨Kx, kcx, rfl, hkl1, hkl2, hkx⟩ := rd_row h7x
        obtain ⟨Ky, kcy, rfl, _, _, hky⟩ := rd_row h7y
        have HKX := Lib.hid hkx
        have HKY := Lib.hid hky
        clear hc6' hc7 h7x h7y h8x h8y hkx hky
        have HBX := Lib.hid hbx
        have HBY := Lib.hid hby
        clear hbx hby
        go_wp2_with (go_at_call 63; refine (samemut_self _ _ _ _ _ _ _).mono ?_; rintro e w3 ⟨rfl, hb3⟩; have hb23 : Below w2.heap.size w2 w3 := (by first | exact hb3 | exact (Below.refl _ _).drew.trans hb3 | exact (Below.refl _ _).drew.drew.trans hb3); have e16 := cell_below hb23 c16; have e17 := cell_below hb23 c17; have g16 := cell_below hb23 d16; have g17 := cell_below hb23 d17; have cvx := conv_bs (c := capx) (HBX.out.below hb23); have cvy := conv_bs (c := capy) (HBY.out.below hb23); have HW3 := Lib.hid (HW2.out.trans (hb23.mono HW2.out.size)); have HKX3 := Lib.hid (HKX.out.below hb23); have HKY3 := Lib.hid (HKY.out.below hb23); have HB23 := Lib.hid hb23; clear hb23)
        go_loopw [89] (fun s89 W => ∃ j : Nat, j ≤ kl.length ∧ s89 = .int .i64 j ∧ Below w3.heap.size w3 W) (fun s89 _ => kl.length - (intOf s89).toNat)
        case atStart => exact ⟨0, by omega, rfl, Below.refl _ _⟩
        case round =>
          obtain ⟨j, hj, rfl, hbW⟩ := hrel
          by_cases hjk : j < kl.length
          · obtain ⟨q, hq⟩ : ∃ q, kl[j]? = some q := ⟨kl[j]'hjk, List.getElem?_eq_getElem hjk⟩
            obtain ⟨kdx, rfl⟩ : ∃ ad, Kx = some ad := by cases Kx with
              | none => exact absurd (HKX.out.2.1 rfl) (by omega)
              | some ad => exact ⟨ad, rfl⟩
            obtain ⟨kdy, rfl⟩ : ∃ ad, Ky = some ad := by cases Ky with
              | none => exact absurd (HKY.out.2.1 rfl) (by omega)
              | some ad => exact ⟨ad, rfl⟩
            have q1 := bool_cell (HKX3.out.below hbW) hq
            have q2 := bool_cell (HKY3.out.below hbW) hq
            have r16 := cell_below hbW e16
            have s16 := cell_below hbW g16
            have j0 : (0 : Int) ≤ (j : Int) := by omega
            have j1 : (j : Int) < ((kl.length : Nat) : Int) := by omega
            clear hq
            go_wp2_with fail
            go_region
            go_wp2_with fail
            go_roundw
            case measure => simp [intOf]; omega
            case rel => exact ⟨j + 1, by omega, by go_num, hbW.drew⟩
          · obtain rfl : j = kl.length := by omega
            have HBW := Lib.hid ((HW3.out.trans (hbW.mono HW3.out.size)))
            go_wp2_with fail
            go_roundw
            case measure => simp [intOf]; omega
            case rel => exact ⟨i + 1, by omega, by go_num, hbel.trans (HBW.out.mono hbel.size)⟩
      · rw [if_pos (by rfl)]
        go_simp
        refine hK.out _ _ (hHeld.alloc hHeld.size _) (fun hHeld => ?_)
        (try simp only [Act.put, List.setIfInBounds_toArray, List.set_cons_zero, List.set_cons_succ])
        refine one_in (i := 8) rfl (by kernel_rfl) (fun K hK => ?_)
        rw [if_pos (by rfl)]
        go_simp
        refine hK.out _ _ (hHeld.alloc hHeld.size _) (fun hHeld => ?_)
        (try simp only [Act.put, List.setIfInBounds_toArray, List.set_cons_zero, List.set_cons_succ])
        refine one_in (i := 10) rfl (by kernel_rfl) (fun K hK => ?_)
        rw [if_pos (by rfl)]
        refine wpo_store 45 (.tmp 6) (.tmp 22) rfl (wr.heap.size + 1) rfl csx.toArray _ 45 rfl (heap_alloc2_new wr.drew _ _) (by rw [List.size_toArray, hxl]; rfl) (by rw [List.size_toArray, hxl]; rfl) hxo ?_
        intro w1 hc6 hg1
        refine hK.out _ _ (hHeld.grown hg1 hHeld.size (fun k e => by injection e; omega)) (fun hHeld => ?_)
        (try simp only [Act.put, List.setIfInBounds_toArray, List.set_cons_zero, List.set_cons_succ])
        refine one_in (i := 11) rfl (by kernel_rfl) (fun K hK => ?_)
        rw [if_pos (by rfl)]
        refine wpo_store 45 (.tmp 7) (.tmp 26) rfl (wr.heap.size) rfl csy.toArray _ 45 rfl (blk_grown (blk_alloc (heap_alloc_new wr.drew _) _) hg1 (by intro e; injection e; omega)) (by rw [List.size_toArray, hyl]; rfl) (by rw [List.size_toArray, hyl]; rfl) hyo ?_
        intro w2 hc7 hg2
        have hc6' := blk_grown hc6 hg2 (by intro e; injection e; omega)
        refine hK.out _ _ (hHeld.grown hg2 hHeld.size (fun k e => by injection e; omega)) (fun hHeld => ?_)
        (try simp only [Act.put, List.setIfInBounds_toArray, List.set_cons_zero, List.set_cons_succ])
        refine wpAnyH_done (by kernel_rfl) ?_ _
        clear hc6 hg1 hg2
        obtain ⟨b6, hb6⟩ : ∃ b6 : Nat, wr.heap.size + 1 = b6 := ⟨_, rfl⟩
        obtain ⟨b7, hb7⟩ : ∃ b7 : Nat, wr.heap.size = b7 := ⟨_, rfl⟩
        rw [hb6] at hc6' ⊢
        rw [hb7] at hc7 ⊢
        clear hb6 hb7
        have HW2 := Lib.hid hHeld
        clear hHeld
        obtain ⟨kind, node, other, nn, mk, mi, ml, mt, mf, mb, ql, qd, qt, qs, qw, qm, kvx, dvx, kvy, dvy, kl, dl, rfl, rfl, h7x, h8x, h7y, h8y⟩ := rd_step2 (HRx.out.below HW2.out) (HRy.out.below HW2.out)
        unfold stepC at hc6' hc7
        obtain ⟨c0, c1, c2, c3, c4, c5, c6, c7, c8, c9, c10, c11, c12, c13, c14, c15, c16, c17⟩ := blk18 hc6'
        obtain ⟨d0, d1, d2, d3, d4, d5, d6, d7, d8, d9, d10, d11, d12, d13, d14, d15, d16, d17⟩ := blk18 hc7
        obtain ⟨Ax, capx, rfl, _, _, hbx⟩ := rd_bs h8x
        obtain ⟨Ay, capy, rfl, _, _, hby⟩ := rd_bs h8y
        obtain ⟨Kx, kcx, rfl, hkl1, hkl2, hkx⟩ := rd_row h7x
        obtain ⟨Ky, kcy, rfl, _, _, hky⟩ := rd_row h7y
        have HKX := Lib.hid hkx
        have HKY := Lib.hid hky
        clear hc6' hc7 h7x h7y h8x h8y hkx hky
        have HBX := Lib.hid hbx
        have HBY := Lib.hid hby
        clear hbx hby
        go_wp2_with (go_at_call 63; refine (samemut_self _ _ _ _ _ _ _).mono ?_; rintro e w3 ⟨rfl, hb3⟩; have hb23 : Below w2.heap.size w2 w3 := (by first | exact hb3 | exact (Below.refl _ _).drew.trans hb3 | exact (Below.refl _ _).drew.drew.trans hb3); have e16 := cell_below hb23 c16; have e17 := cell_below hb23 c17; have g16 := cell_below hb23 d16; have g17 := cell_below hb23 d17; have cvx := conv_bs (c := capx) (HBX.out.below hb23); have cvy := conv_bs (c := capy) (HBY.out.below hb23); have HW3 := Lib.hid (HW2.out.trans (hb23.mono HW2.out.size)); have HKX3 := Lib.hid (HKX.out.below hb23); have HKY3 := Lib.hid (HKY.out.below hb23); have HB23 := Lib.hid hb23; clear hb23)
        go_loopw [89] (fun s89 W => ∃ j : Nat, j ≤ kl.length ∧ s89 = .int .i64 j ∧ Below w3.heap.size w3 W) (fun s89 _ => kl.length - (intOf s89).toNat)
        case atStart => exact ⟨0, by omega, rfl, Below.refl _ _⟩
        case round =>
          obtain ⟨j, hj, rfl, hbW⟩ := hrel
          by_cases hjk : j < kl.length
          · obtain ⟨q, hq⟩ : ∃ q, kl[j]? = some q := ⟨kl[j]'hjk, List.getElem?_eq_getElem hjk⟩
            obtain ⟨kdx, rfl⟩ : ∃ ad, Kx = some ad := by cases Kx with
              | none => exact absurd (HKX.out.2.1 rfl) (by omega)
              | some ad => exact ⟨ad, rfl⟩
            obtain ⟨kdy, rfl⟩ : ∃ ad, Ky = some ad := by cases Ky with
              | none => exact absurd (HKY.out.2.1 rfl) (by omega)
              | some ad => exact ⟨ad, rfl⟩
            have q1 := bool_cell (HKX3.out.below hbW) hq
            have q2 := bool_cell (HKY3.out.below hbW) hq
            have r16 := cell_below hbW e16
            have s16 := cell_below hbW g16
            have j0 : (0 : Int) ≤ (j : Int) := by omega
            have j1 : (j : Int) < ((kl.length : Nat) : Int) := by omega
            clear hq
            go_wp2_with fail
            go_region
            go_wp2_with fail
            go_roundw
            case measure => simp [intOf]; omega
            case rel => exact ⟨j + 1, by omega, by go_num, hbW.drew⟩
          · obtain rfl : j = kl.length := by omega
            have HBW := Lib.hid ((HW3.out.trans (hbW.mono HW3.out.size)))
            go_wp2_with fail
            go_roundw
            case measure => simp [intOf]; omega
            case rel => exact ⟨i + 1, by omega, by go_num, hbel.trans (HBW.out.mono hbel.size)⟩
    · obtain rfl : i = n := by omega
      go_wp2_with fail
      go_ret
      exact ⟨rfl, hbel⟩
end Go.Proofs.Ytaagldmgbdiomaa
