import Derived.Test.YtapoechkbbklfaaNetK
namespace Go.Proofs.Ytapoechkbbklfaa
open Go.RowKit Go.Shelf
set_option linter.unusedVariables false
set_option linter.unusedSimpArgs false
attribute [local go_sem] Oper.semAt_some
set_option maxRecDepth 100000 in
theorem wpIn_load {F : Fence} {n : Nat} {P : Program} {ops : Array Oper} {rest : List Oper} {o : Oper} {a : Act} {Q : Exit → Act → World → Prop} {W : World} (hgd : o.guard = none) (ty : TypeId) (x : Operand) (ho : o.op = .load ty x) (ad : Addr) (hx : a.eval x = .pointer (some ad)) (cs : List Value) (d : TypeDesc) (hc : At W ad 0 cs)
    (hu : P.underlying ty = some d) (hd : d.isRow = true) (hi : (P.info? ty).map (·.size) = some cs.length)
    (h : wpListIn F n P ops Q rest (a.put o.dst (.agg cs.toArray)) W) : wpListIn F n P ops Q (o :: rest) a W := by
  refine wpListIn_plain hgd fun K hK => ?_
  unfold Oper.wpIn
  refine ⟨?_, ?_⟩
  · simp [Oper.about, ho]
  · rw [Oper.semAt_plain F _ _ (by rw [ho]; intro c hc'; cases hc')]
    simp only [execOp, ho, hx, Instr.loadAt, Instr.sureAddr, Sem.run_bind, Sem.run_pure, Result.andThen_ok, run_loadS hc hu hd hi]
    exact hK _ _ h
set_option maxRecDepth 100000 in
theorem grown_below {w w' : World} {r : Option Nat} (h : Below w.heap.size w w') : w.grownBy w' r := ⟨h.os, h.tape, h.output, h.size, fun k hk _ => h.block k hk⟩
/-- A packet that is handed over: its cells' values. -/
structure XP where
  t : Int
  f : Int
  A : Option Addr
  c : Nat
  d : List UInt8
def XP.pk (x : XP) : PKT.Ty := (x.t, x.f, x.d, ())
def encX (x : XP) : Array Value := #[.agg #[.int .i64 x.t, .int .i64 x.f, .slice x.A x.d.length x.c]]
/-- What is so of it in the world of that moment. -/
def VX (n₁ : Nat) (l : List PKT.Ty) (pre : List XP) (x : XP) (X : World) : Prop := OwnG X n₁ (fun _ => False) 5 .byte (.slice x.A x.d.length x.c) x.d ∧ n₁ ≤ X.heap.size ∧ PKTOk x.pk ∧ (pre ++ [x]).map XP.pk <+: l
/-- What a round may turn. -/
def pK (n₁ Bo r k : Nat) : Prop := k = Bo ∨ k = r ∨ n₁ ≤ k
set_option maxHeartbeats 4000000 in
set_option maxRecDepth 100000 in
theorem all1_seq (n : Nat) (w0 W : World) (b1 B Bo Bn r : Nat) (room : Int) (sv : Value) (l : List PKT.Ty) (hN : NetR w0 b1 B room sv l) (hb : Below w0.heap.size w0 W) (hd : ∀ p ∈ l, (dataP p).length ≤ 100000) (hBo : w0.heap.size ≤ Bo) (hr : Bo ≤ r) (hrW : r < W.heap.size)
    (hBn : W.cell? ⟨Bn, 0, none⟩ = some (.pointer (some ⟨b1, 0, none⟩))) :
    SeqV Fence.wide n Try.prog 41 #[.pointer (some ⟨Bn, 0, none⟩)] encX (VX (W.heap.size + 2) l) (Turn (pK (W.heap.size + 2) Bo r)) (fun xs => xs.map XP.pk = l) (fun pre => pre.map XP.pk <+: l) W := by
  intro ll J Jx hJ hJx hY h0
  obtain ⟨A2, cap2, rfl⟩ := hN.form
  obtain ⟨A', c', e1, hnc, hcm, hA0, hA, xs, hrl, hat⟩ := OwnG.rows hN.2.1
  have hlm := hN.2.2.2.2
  have h1 := (hN.below hb).1
  obtain ⟨q0, q1⟩ := blk2 h1
  obtain ⟨m, hm⟩ : ∃ m, l.length = m := ⟨_, rfl⟩
  have HRd := Lib.hid (show Rd W (fun k => k < w0.heap.size) (.sl PKT) l [.slice A2 m cap2] from by
    rw [← hm]
    exact (OwnG.rd hN.2.1).turn (ok' := fun k => k < w0.heap.size) (Turn.of_below (p := fun _ => False) hb) (fun k hk _ => ⟨id, hk⟩))
  rw [hm] at q1
  have HM := Lib.hid hm
  have hm4 : m ≤ 10000 := by omega
  have HN := Lib.hid hN
  clear h1 hA0 hA hrl hat e1 q0 hm hlm hnc hcm
  refine callsIn_of_wp Try.func41 rfl trivial ?_ rfl
  simp only [Try.ntmps41, List.size_toArray, List.length_cons, List.length_nil, Nat.reduceAdd, Nat.reduceSub, Array.replicate_succ, Array.replicate_zero, List.push_toArray, List.append_toArray, List.nil_append, List.cons_append]
  gi_wp2
  refine ⟨trivial, (fun h => by cases h), (callsIn_wide.2 (clone_pkt W (fun k => k < w0.heap.size) A2 m cap2 l HRd.out (by omega))).mono ?_⟩
  rintro e W2 ⟨A3, c3, rfl, ho, hb2, hg⟩
  obtain ⟨A', c', e1, hnc, hcm, hA0, hA, xs, hrl, hat⟩ := OwnG.rows ho
  injection e1 with e1 _ e3
  subst e1 e3
  have HO := Lib.hid (show RdL W2 (fun k => k < w0.heap.size) PKT l xs from hrl.of (fun _ _ _ h => h) (fun k h _ => h.1.1))
  have HA := Lib.hid (show ∀ ad, A3 = some ad → At W2 ad 0 xs ∧ W.heap.size ≤ ad.block ∧ ad.block < W.heap.size + 2 ∧ ad.block < W2.heap.size from fun ad e => ⟨hat ad e, by
    obtain ⟨g, e1, e2, e3, e4⟩ := hA ad e
    subst e1
    exact ⟨e3, hg _ e2, e4⟩⟩)
  have HA0 := Lib.hid (show A3 = none → m = 0 from fun e => by have := hA0 e; have := HM.out; omega)
  have HB2 := Lib.hid hb2
  have HJ2 := Lib.hid (hJ [] W W2 none h0 (grown_below hb2) (fun r e => by cases e))
  have hmc : m ≤ c3 := by have := HM.out; omega
  clear ho hb2 hg hnc hA0 hA hrl hat q1 hBn
  gi_wp2
  gi_loopw [13] (fun s13 wr => ∃ (i : Nat) (pre : List XP), i ≤ m ∧ s13 = .int .i64 i ∧ pre.length = i ∧ pre.map XP.pk = l.take i ∧ J pre wr ∧ Turn (pK (W.heap.size + 2) Bo r) W2 wr) (fun s13 _ => m - (intOf s13).toNat)
  case atStart => exact ⟨0, [], by omega, rfl, rfl, rfl, HJ2.out, Turn.refl _ _⟩
  case round =>
    obtain ⟨i, pre, hi, rfl, hpl, hpm, hJs, hT⟩ := hrel
    have HT := Lib.hid hT
    have HPM := Lib.hid hpm
    have HPL := Lib.hid hpl
    clear hpm hpl hT
    by_cases hlt : i < m
    · have i0 : (0 : Int) ≤ (i : Int) := by omega
      have i1 : (i : Int) < (m : Int) := by omega
      obtain ⟨ad, rfl⟩ : ∃ ad, A3 = some ad := by
        cases A3 with
        | none => have := HA0.out rfl; omega
        | some ad => exact ⟨ad, rfl⟩
      obtain ⟨hat, g1, g2, g3⟩ := HA.out ad rfl
      obtain ⟨x, hx⟩ : ∃ x, l[i]? = some x := ⟨l[i]'(by have := HM.out; omega), List.getElem?_eq_getElem (by have := HM.out; omega)⟩
      obtain ⟨cs, hcs, hrd⟩ := HO.out.get hx
      obtain ⟨pt, pf, pd, pA, pc, rfl, rfl, okp, hpd⟩ := rd_pkt hrd
      have hA1 : At W2 (ad.add (i * 3)) 0 [.int .i64 pt, .int .i64 pf, .slice pA pd.length pc] := fun j v hv => by
        rw [Nat.zero_add, add_add]
        have := hat (i * 3 + j) v (hcs j v hv)
        rwa [Nat.zero_add] at this
      have HAt := Lib.hid (hA1.turn HT.out (by rw [add_block]; intro e; rcases e with e | e | e <;> omega))
      have HPD := Lib.hid (hpd.turn (ok' := anyB) HT.out (fun k hk h => ⟨fun e => by rcases e with e | e | e <;> omega, trivial⟩))
      have HPd := Lib.hid (hd _ (List.mem_of_getElem? hx))
      have HOK := Lib.hid okp
      have HX := Lib.hid hx
      have hsz : W.heap.size + 1 ≤ wr.heap.size := by have := HT.out.size; omega
      clear hat hx hcs hrd okp hpd hA1
      gi_wp2_with (refine wpIn_load rfl 37 _ rfl _ rfl _ _ HAt.out Try.underlying37 rfl rfl ?_)
      refine ⟨trivial, (fun h => by cases h), (callsIn_wide.2 (copied_own _ anyB pt pf pA pc pd (HPD.out.below (below_alloc1 wr _)) HPd.out)).mono ?_⟩
      rintro e wy ⟨A4, c4, rfl, ho4, hb4, hs4⟩
      have hby : Below wr.heap.size wr wy := (below_alloc1 wr _).trans (hb4.mono (by simp))
      have hJy := hJ pre wr wy none hJs (grown_below hby) (fun r e => by cases e)
      rw [World.size_alloc] at hs4 ho4
      have hpre : (pre ++ [XP.mk pt pf A4 c4 pd]).map XP.pk = l.take (i + 1) := by rw [List.map_append, HPM.out, take_at HX.out]; rfl
      have HV := Lib.hid hpre
      obtain ⟨fn, tmps, assign, body, hy, hR⟩ := hY pre (XP.mk pt pf A4 c4 pd) wy hJy ⟨ho4.weak (by omega) (fun _ _ h => h), by omega, HOK.out, by rw [hpre]; exact List.take_prefix _ _⟩
      have HT4 := Lib.hid (HT.out.and_below hby)
      dsimp only [encX] at hy
      clear ho4 hb4 hby hpre
      gi_wp2
      refine ⟨(fun h => by cases h), hR.mono ?_⟩
      rintro e W3 (⟨rfl, hJ3, hk3⟩ | ⟨rfl, hJx3⟩)
      · have HT5 := Lib.hid (HT4.out.trans hk3 (fun _ _ h => h))
        gi_wp2
        go_roundw
        case rel => exact ⟨i + 1, pre ++ [XP.mk pt pf A4 c4 pd], by omega, by go_num, by simp [HPL.out], HV.out, hJ3, HT5.out⟩
        case measure => simp [intOf]; omega
      · gi_wp2
        refine bodyPost_ret (results_none rfl _ _ _) rfl ?_
        exact ⟨⟨_, rfl⟩, .inr ⟨pre ++ [XP.mk pt pf A4 c4 pd], by rw [HV.out]; exact List.take_prefix _ _, hJx3⟩⟩
    · obtain rfl : i = m := by omega
      gi_wp2
      go_end0
      exact ⟨⟨_, rfl⟩, .inl ⟨pre, by rw [HPM.out, List.take_of_length_le (by have := HM.out; omega)], hJs⟩⟩
end Go.Proofs.Ytapoechkbbklfaa
