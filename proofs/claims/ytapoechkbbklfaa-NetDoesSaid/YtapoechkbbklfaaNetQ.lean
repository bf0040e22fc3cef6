import Derived.Test.YtapoechkbbklfaaNetO
import Derived.Test.YtapoechkbbklfaaNetI
namespace Go.Proofs.Ytapoechkbbklfaa
open Go.RowKit
set_option linter.unusedVariables false
set_option linter.unusedSimpArgs false
abbrev DEED : Sh := .cons (.int .i64) (.cons (.sl (PKT)) (.cons (.int .i64) (.nil)))
def DEEDOk : DEED.Ty → Prop := fun (a0, a1, a2, _) => (-9223372036854775808 ≤ a0 ∧ a0 < 9223372036854775808) ∧ (-9223372036854775808 ≤ a2 ∧ a2 < 9223372036854775808)
set_option maxRecDepth 20000 in
theorem rd_deed {w : World} {ok : Nat → Prop} {x : DEED.Ty} {cs : List Value} (h : Rd w ok DEED x cs) :
    ∃ (a0 : Int) (a1 : List (Sh.Ty (PKT))) (a2 : Int) (A1 : Option Addr) (c1 : Nat), x = (a0, a1, a2, ()) ∧ cs = [.int .i64 a0, .slice A1 a1.length c1, .int .i64 a2] ∧ DEEDOk (a0, a1, a2, ()) ∧ Rd w ok (.sl (PKT)) a1 [.slice A1 a1.length c1] := by
  obtain ⟨a0, a1, a2, ⟨⟩⟩ := x
  obtain ⟨_, _, rfl, ⟨rfl, w0⟩, _, _, rfl, h1, _, _, rfl, ⟨rfl, w2⟩, rfl⟩ := h
  obtain ⟨A1, c1, rfl⟩ := rd_slv h1
  exact ⟨a0, a1, a2, A1, c1, rfl, rfl, ⟨i64_of w0, i64_of w2⟩, h1⟩
set_option maxRecDepth 20000 in
theorem rd_deed_mk {w : World} {ok : Nat → Prop} {a0 : Int} {a1 : List (Sh.Ty (PKT))} {a2 : Int} {A1 : Option Addr} {n1 c1 : Nat} (hx : DEEDOk (a0, a1, a2, ())) (h1 : Rd w ok (.sl (PKT)) a1 [.slice A1 n1 c1]) :
    Rd w ok DEED (a0, a1, a2, ()) [.int .i64 a0, .slice A1 n1 c1, .int .i64 a2] := by
  obtain ⟨g0, g2⟩ := hx
  exact ⟨[_], _, rfl, ⟨rfl, of_i64 g0⟩, [_], _, rfl, h1, [_], [], rfl, ⟨rfl, of_i64 g2⟩, rfl⟩
/-- X's blocks: none of the net's. -/
def okX (b1 b2 : Nat) (sv : Value) (k : Nat) : Prop := k ≠ b1 ∧ k ≠ b2 ∧ sv.ownBlock ≠ some k
set_option maxRecDepth 20000 in
theorem okx_new {u : World} {b1 b2 B : Nat} {r : Int} {sv : Value} {l : List PKT.Ty} (hN : NetR u b1 B r sv l) (hb2 : b2 < B) : OkX u b2 (okX b1 b2 sv) :=
  ⟨fun k h => h.2.1, fun k hk => ⟨by have := hN.2.2.1; have := hN.2.2.2.1; omega, by have := hN.2.2.2.1; omega, fun e => by have := (hN.own_ge e).2; omega⟩⟩
set_option maxRecDepth 20000 in
theorem xr_net {u u1 : World} {b1 b2 B : Nat} {r room : Int} {sv sv1 xv : Value} {l l' : List PKT.Ty} (hN : NetR u b1 B r sv l) (hX : XR u b2 (okX b1 b2 sv) room xv l') (hb : b1 ≠ b2) (hb2 : b2 < B) (hT : Turn (pN b1 sv) u u1) (hv : ∀ k, sv1.ownBlock = some k → sv.ownBlock = some k ∨ u.heap.size ≤ k) : XR u1 b2 (okX b1 b2 sv1) room xv l' := by
  refine ⟨hT.blk hX.1 (fun h => ?_), hX.2.1.turn hT (fun k hk h => ⟨fun e => ?_, h.1, h.2.1, fun e => ?_⟩), hX.2.2⟩
  · rcases h with h | h
    · exact hb h.symm
    · have := (hN.own_ge h).1; omega
  · rcases e with e | e
    · exact h.1 e
    · exact h.2.2 e
  · rcases hv k e with e | e
    · exact h.2.2 e
    · omega
set_option maxRecDepth 20000 in
theorem net_x {u u1 : World} {b1 b2 B : Nat} {r : Int} {sv : Value} {l : List PKT.Ty} (hN : NetR u b1 B r sv l) (hT : Turn (fun k => k = b2) u u1) (hb : b1 ≠ b2) (hb2 : b2 < B) : NetR u1 b1 B r sv l :=
  ⟨hT.blk hN.1 hb, OwnG.turn hN.2.1 hT (fun k e hk => by have := (hN.own_ge e).1; omega) (fun k _ hk hpk => by have hk : B ≤ k := hk; omega), hN.2.2.1, Nat.le_trans hN.2.2.2.1 hT.size, hN.2.2.2.2⟩
set_option maxRecDepth 20000 in
theorem sendF_max (room : Int) (a : List PKT.Ty × Nat) (p : PKT.Ty) : sendF (max room 0) a p = sendF room a p := by
  unfold sendF
  by_cases h : (a.1.length : Int) < room
  · rw [if_pos h, if_pos (by omega)]
  · rw [if_neg h, if_neg (by omega)]
set_option maxRecDepth 20000 in
theorem sendL_max (room : Int) (l L : List PKT.Ty) : sendL (max room 0) l L = sendL room l L := by
  unfold sendL
  congr 1
  funext a p
  exact sendF_max room a p
set_option maxRecDepth 20000 in
theorem doubleL_max (room : Int) (l : List PKT.Ty) (i : Int) : doubleL (max room 0) l i = doubleL room l i := by
  unfold doubleL
  split
  · rfl
  · by_cases h : (l.length : Int) < room
    · rw [if_pos h, if_pos (by omega)]
    · rw [if_neg h, if_neg (by omega)]
/-- All packets are small. -/
def Sm (l : List PKT.Ty) : Prop := ∀ p ∈ l, (dataP p).length ≤ 50
set_option maxRecDepth 20000 in
theorem sm_send {room : Int} {l L : List PKT.Ty} (h : Sm l) (hL : Sm L) : Sm (sendL room l L).1 := by
  unfold sendL
  suffices hs : ∀ (L : List PKT.Ty) (a : List PKT.Ty × Nat), Sm L → Sm a.1 → Sm (L.foldl (sendF room) a).1 from hs L (l, 0) hL h
  intro L
  induction L with
  | nil => intro a _ h; exact h
  | cons p L ih =>
    intro a hL ha
    refine ih _ (fun q hq => hL q (List.mem_cons_of_mem _ hq)) ?_
    unfold sendF
    split
    · intro q hq
      rcases List.mem_append.1 hq with hq | hq
      · exact ha q hq
      · rw [List.mem_singleton.1 hq]; exact hL p List.mem_cons_self
    · exact ha
set_option maxRecDepth 20000 in
theorem sm_take {l : List PKT.Ty} {i : Int} {p : PKT.Ty} {l' : List PKT.Ty} (h : Sm l) (e : takeL l i = some (p, l')) : Sm l' ∧ l'.length ≤ l.length := by
  unfold takeL at e
  split at e
  · cases e
  · injection e with e
    injection e with _ e
    subst e
    exact ⟨fun q hq => h q (List.mem_of_mem_eraseIdx hq), List.length_eraseIdx_le _ _⟩
set_option maxRecDepth 20000 in
theorem sm_double {room : Int} {l : List PKT.Ty} {i : Int} (h : Sm l) : Sm (doubleL room l i).1 ∧ (doubleL room l i).1.length ≤ l.length + 1 := by
  unfold doubleL
  split
  · exact ⟨h, by simp⟩
  · next p hp =>
    split
    · refine ⟨fun q hq => ?_, by simp⟩
      rcases List.mem_append.1 hq with hq | hq
      · exact h q hq
      · rw [List.mem_singleton.1 hq]; exact h p (List.mem_of_getElem? hp)
    · exact ⟨h, by simp⟩
/-- What Take tells, and what is left. -/
def takeV (l : List PKT.Ty) (i : Int) : PKT.Ty × Bool × List PKT.Ty := match takeL l i with
  | none => ((0, 0, [], ()), false, l)
  | some (p, l') => (p, true, l')
set_option maxRecDepth 20000 in
theorem lose_v (w : World) (b1 B : Nat) (room : Int) (sv : Value) (l : List PKT.Ty) (i : Int) (hN : NetR w b1 B room sv l) (hi : -9223372036854775808 ≤ i ∧ i < 9223372036854775808) :
    Calls Try.prog 17 #[.pointer (some ⟨b1, 0, none⟩), .int .i64 i] w fun e w' => e = .returned (.bool (takeV l i).2.1) ∧ NetTo w b1 B room sv (takeV l i).2.2 w' := by
  refine (lose_any w b1 B room sv l i hN hi).mono ?_
  intro e w' h
  unfold takeV
  cases ht : takeL l i with
  | none => rw [ht] at h; exact h
  | some x => rw [ht] at h; exact h
set_option maxRecDepth 20000 in
theorem sm_takeV {l : List PKT.Ty} {i : Int} (h : Sm l) : Sm (takeV l i).2.2 ∧ (takeV l i).2.2.length ≤ l.length := by
  unfold takeV
  cases ht : takeL l i with
  | none => exact ⟨h, Nat.le_refl _⟩
  | some x =>
    obtain ⟨p, l'⟩ := x
    exact sm_take h ht
def TakenV (w' : World) (ok : Nat → Prop) (v : PKT.Ty × Bool × List PKT.Ty) (e : Ending) : Prop :=
  ∃ (pt pf : Int) (pd : List UInt8) (pA : Option Addr) (pc : Nat), e = .returned (.tuple #[.agg #[.int .i64 pt, .int .i64 pf, .slice pA pd.length pc], .bool v.2.1]) ∧ v.1 = (pt, pf, pd, ()) ∧ Rd w' ok PKT (pt, pf, pd, ()) [.int .i64 pt, .int .i64 pf, .slice pA pd.length pc]
set_option maxRecDepth 20000 in
theorem take_v (w : World) (b1 B : Nat) (room : Int) (sv : Value) (l : List PKT.Ty) (i : Int) (hN : NetR w b1 B room sv l) (hi : -9223372036854775808 ≤ i ∧ i < 9223372036854775808) :
    Calls Try.prog 14 #[.pointer (some ⟨b1, 0, none⟩), .int .i64 i] w fun e w' => TakenV w' (fun k => B ≤ k) (takeV l i) e ∧ NetTo w b1 B room sv (takeV l i).2.2 w' := by
  refine (take_any w b1 B room sv l i hN hi).mono ?_
  intro e w' h
  unfold takeV
  cases ht : takeL l i with
  | none =>
    rw [ht] at h
    obtain ⟨rfl, h⟩ := h
    exact ⟨⟨0, 0, [], none, 0, rfl, rfl, rd_zeroP _ _⟩, h⟩
  | some x =>
    obtain ⟨p, l'⟩ := x
    rw [ht] at h
    obtain ⟨cs, rfl, hr, h⟩ := h
    have hr0 := hr
    obtain ⟨pt, pf, pd, pA, pc, rfl, rfl, _, _⟩ := rd_pkt hr
    exact ⟨⟨pt, pf, pd, pA, pc, rfl, rfl, hr0⟩, h⟩
set_option maxRecDepth 20000 in
theorem rtake_v (w : World) (b2 : Nat) (ok : Nat → Prop) (room : Int) (xv : Value) (l : List PKT.Ty) (i : Int) (hX : XR w b2 ok room xv l) (hOk : OkX w b2 ok) (hi : -9223372036854775808 ≤ i ∧ i < 9223372036854775808) :
    Calls Try.prog 15 #[.pointer (some ⟨b2, 0, none⟩), .int .i64 i] w fun e w' => TakenV w' ok (takeV l i) e ∧ XTo w b2 ok room (takeV l i).2.2 w' := by
  refine (rtake_any w b2 ok room xv l i hX hOk hi).mono ?_
  intro e w' h
  unfold takeV
  cases ht : takeL l i with
  | none =>
    rw [ht] at h
    obtain ⟨rfl, h⟩ := h
    exact ⟨⟨0, 0, [], none, 0, rfl, rfl, rd_zeroP _ _⟩, h⟩
  | some x =>
    obtain ⟨p, l'⟩ := x
    rw [ht] at h
    obtain ⟨cs, rfl, hr, h⟩ := h
    have hr0 := hr
    obtain ⟨pt, pf, pd, pA, pc, rfl, rfl, _, _⟩ := rd_pkt hr
    exact ⟨⟨pt, pf, pd, pA, pc, rfl, rfl, hr0⟩, h⟩
set_option maxRecDepth 20000 in
theorem fewL_sm {L : List PKT.Ty} (h : fewL L = true) : Sm L ∧ L.length ≤ 10 := by
  unfold fewL at h
  rw [Bool.and_eq_true, List.all_eq_true] at h
  exact ⟨fun p hp => by simpa using h.1 p hp, by simpa using h.2⟩
/-- The two nets, of the same packets. -/
def Both (w u : World) (b1 b2 B : Nat) (room : Int) (l : List PKT.Ty) : Prop :=
  ∃ sv xv, NetR u b1 B (max room 0) sv l ∧ XR u b2 (okX b1 b2 sv) room xv l ∧ Sm l ∧ Below w.heap.size w u
set_option maxRecDepth 20000 in
theorem Both.below {w u u1 : World} {b1 b2 B : Nat} {room : Int} {l : List PKT.Ty} (h : Both w u b1 b2 B room l) (hb : Below u.heap.size u u1) : Both w u1 b1 b2 B room l := by
  obtain ⟨sv, xv, h1, h2, h3, h4⟩ := h
  exact ⟨sv, xv, h1.below hb, h2.below hb, h3, h4.trans (hb.mono h4.size)⟩
set_option maxRecDepth 20000 in
theorem both_two {w u u1 u2 : World} {b1 b2 B : Nat} {room : Int} {sv sv1 xv2 : Value} {l l' : List PKT.Ty} (hN : NetR u b1 B (max room 0) sv l) (hb : b1 ≠ b2) (hb2 : b2 < B) (hw1 : w.heap.size ≤ b1) (hw2 : w.heap.size ≤ b2) (hB : Below w.heap.size w u) (hN1 : NetR u1 b1 B (max room 0) sv1 l') (hT1 : Turn (pN b1 sv) u u1)
    (hX : XR u2 b2 (okX b1 b2 sv1) room xv2 l') (hT2 : Turn (fun k => k = b2) u1 u2) (hs : Sm l') : Both w u2 b1 b2 B room l' := by
  refine ⟨sv1, xv2, net_x hN1 hT2 hb hb2, hX, hs, ?_⟩
  have h1 : Below w.heap.size w u1 := hB.trans (hT1.below hB.size (fun k _ e => by rcases e with e | e; omega; have := (hN.own_ge e).1; omega))
  exact h1.trans (hT2.below h1.size (fun k _ e => by omega))
set_option maxRecDepth 20000 in
theorem hb1_of {w u u1 u2 : World} {b1 b2 B : Nat} {r : Int} {sv : Value} {l : List PKT.Ty} (hB : Below w.heap.size w u) (hN : NetR u b1 B r sv l) (hS : w.heap.size ≤ b1 ∧ b2 = b1 + 1 ∧ B = b1 + 2) (hT : Turn (pN b1 sv) u u1) (hb : Below u1.heap.size u1 u2) : Below w.heap.size w u2 := by
  have h1 : Below w.heap.size w u1 := hB.trans (hT.below hB.size (fun k _ e => by rcases e with e | e; omega; have := (hN.own_ge e).1; omega))
  exact h1.trans (hb.mono h1.size)
set_option maxHeartbeats 8000000 in
set_option maxRecDepth 20000 in
theorem w_NetDoes (room : Int) (a : Option Addr) (n c : Nat) (l : List DEED.Ty) (to : Int) (w : World) (ha : Rd w anyB (.sl DEED) l [.slice a n c]) :
    Calls Try.prog 3 #[.int .i64 room, .slice a n c, .int .i64 to] w fun e w' => e = .returned (.bool true) ∧ Below w.heap.size w w' := by
  obtain ⟨hq1, hq2, hq3, hrow⟩ := rd_rowsN ha
  have HR := Lib.hid hrow
  have HLN := Lib.hid hrow.1
  have hn63 : n ≤ 9223372036854775807 := by omega
  clear ha hrow hq3
  go_enter Try.func3, Try.ntmps3
  go_wp2_with (go_at_call 9; refine (net_awake _).mono ?_; rintro e w2 ⟨rfl, hb12⟩; have HB2 := Lib.hid hb12; clear hb12)
  · go_ret
    exact ⟨rfl, HB2.out⟩
  rename_i hn40 _ _ _
  refine (new_any w2 room).mono ?_
  rintro e w3 ⟨rfl, h3⟩
  obtain ⟨w4, hw4⟩ : ∃ w4, w3.alloc (.cells #[.int .i64 room, .slice none 0 0] 29) = w4 := ⟨_, rfl⟩
  obtain ⟨b1, hb1⟩ : ∃ b1, w2.heap.size = b1 := ⟨_, rfl⟩
  obtain ⟨b2, hb2⟩ : ∃ b2, w3.heap.size = b2 := ⟨_, rfl⟩
  have e2 : b2 = b1 + 1 := by rw [← hb2, h3, ← hb1]; simp
  have hN3 := new_net (w := w2) (room := max room 0)
  rw [← h3, hb1] at hN3
  have hb34 : Below w3.heap.size w3 w4 := by rw [← hw4]; exact below_alloc1 w3 _
  have hz4 : w4.heap.size = b1 + 2 := by rw [← hw4]; simp; omega
  have hb23 : Below w2.heap.size w2 w3 := by rw [h3]; exact below_alloc1 w2 _
  have hX4 : w4.heap[b2]? = some (.cells #[.int .i64 room, .slice none 0 0] 29 (0, 0)) := by rw [← hw4, ← hb2]; exact heap_alloc_new w3 _
  have HI := Lib.hid (show Both w w4 b1 b2 w4.heap.size room [] from ⟨.slice none 0 0, .slice none 0 0, ⟨(hN3.below hb34).1, ⟨[], own_nil _ _ _ _, rfl⟩, by omega, Nat.le_refl _, by simp⟩, ⟨hX4, rd_sl.2 ⟨none, 0, 0, rfl, by omega, by omega, fun _ => rfl, rfl, fun _ => rfl, fun ad e => by cases e⟩, by simp⟩, (fun p hp => by cases hp), HB2.out.trans ((hb23.trans (hb34.mono hb23.size)).mono HB2.out.size)⟩)
  have HS := Lib.hid (show w.heap.size ≤ b1 ∧ b2 = b1 + 1 ∧ w4.heap.size = b1 + 2 from ⟨by rw [← hb1]; exact HB2.out.size, e2, hz4⟩)
  obtain ⟨B, hB⟩ : ∃ B, w4.heap.size = B := ⟨_, rfl⟩
  rw [hB] at HI HS
  clear hN3 hb34 hb23 hX4 h3 e2 hz4
  rw [hb1]
  go_wp2_with fail
  clear hb1 hb2 hw4 hB
  go_loopw [29] (fun s29 wr => ∃ (i : Nat) (q : List PKT.Ty), i ≤ n ∧ s29 = .int .i64 i ∧ q.length ≤ 10 * i ∧ Both w wr b1 b2 B room q) (fun s29 _ => n - (intOf s29).toNat)
  case atStart => exact ⟨0, [], by omega, rfl, by simp, HI.out⟩
  case round =>
    obtain ⟨i, q, hi, rfl, hql, hbo⟩ := hrel
    have HBo := Lib.hid hbo
    have HBel := Lib.hid (show Below w.heap.size w wr from by obtain ⟨_, _, _, _, _, h⟩ := hbo; exact h)
    clear hbo
    by_cases hlt : i < n
    case neg =>
      obtain rfl : i = n := by omega
      go_wp2_with fail
      go_ret
      exact ⟨rfl, HBel.out⟩
    have i0 : (0 : Int) ≤ (i : Int) := by omega
    have i1 : (i : Int) < (n : Int) := by omega
    obtain ⟨ad, x, cs, rfl, hx, hat, hrd⟩ := HR.out.get i hlt
    obtain ⟨kind, dl, num, dA, dc, rfl, rfl, okd, hdl⟩ := rd_deed hrd
    have HAt := Lib.hid (hat.below HBel.out)
    have HOK := Lib.hid okd
    obtain ⟨hk1, hk2⟩ := HOK.out
    have HDL := Lib.hid (hdl.turn (ok' := fun k => k < w.heap.size) (Turn.of_below (p := fun _ => False) HBel.out) (fun k hk _ => ⟨id, hk⟩))
    clear hx hat hrd okd hdl
    obtain ⟨kd, hkd⟩ : ∃ kd, wr.heap.size = kd := ⟨_, rfl⟩
    have HZ := Lib.hid (show B ≤ kd from by obtain ⟨sv, xv, h, _⟩ := HBo.out; rw [← hkd]; exact h.2.2.2.1)
    obtain ⟨w5, hw5⟩ : ∃ w5, wr.alloc (.cells #[Value.int .i64 kind, Value.slice dA dl.length dc, Value.int .i64 num] 31) = w5 := ⟨_, rfl⟩
    have hb5 : Below wr.heap.size wr w5 := by rw [← hw5]; exact below_alloc1 wr _
    have hD5 : w5.heap[kd]? = some (.cells #[Value.int .i64 kind, Value.slice dA dl.length dc, Value.int .i64 num] 31 (0, 0)) := by rw [← hw5, ← hkd]; exact heap_alloc_new wr _
    have HD5 := Lib.hid hD5
    have HB5 := Lib.hid hb5
    obtain ⟨c0, c1, c2⟩ := blk3 hD5
    clear hb5 hD5
    go_wp2_with (refine wpL_load rfl 31 _ rfl _ rfl _ _ HAt.out Try.underlying31 rfl rfl ?_)
    refine (few_any w5 _ dA dl.length dc dl (rd_rows (HDL.out.below HB5.out)) (by have := (rd_rowsN HDL.out).2.1; have := (rd_rowsN HDL.out).1; omega)).mono ?_
    rintro e w6 ⟨rfl, hb6⟩
    have HB6 := Lib.hid (HB5.out.trans (hb6.mono HB5.out.size))
    have HD6 := Lib.hid (blk_below HD5.out hb6 (blk_lt HD5.out))
    clear hb6 c0 c1 c2
    cases hf : fewL dl with
    | false =>
      clear hf
      go_wp2_with fail
      go_ret
      exact ⟨rfl, HBel.out.trans (HB6.out.mono HBel.out.size)⟩
    | true =>
    obtain ⟨hsm, hd10⟩ := fewL_sm hf
    have HSM := Lib.hid hsm
    clear hf hsm
    have HBo6 := Lib.hid (HBo.out.below HB6.out)
    have HDL6 := Lib.hid (HDL.out.below HB6.out)
    obtain ⟨sv, xv, hN, hX, hs, hB⟩ := HBo.out
    have hsv : ∀ k, sv.ownBlock = some k → k < kd := fun k e => by have := (hN.own_ge e).2; omega
    have hpn : ¬ pN b1 sv kd := fun h => by have := HS.out; have := HZ.out; rcases h with h | h; omega; have := hsv kd h; omega
    have HPN := Lib.hid hpn
    have HSV := Lib.hid hsv
    have HN6 := Lib.hid (hN.below HB6.out)
    have HX6 := Lib.hid (hX.below HB6.out)
    have HS6 := Lib.hid hs
    have HBw := Lib.hid (hB.trans (HB6.out.mono hB.size))
    have F1 : ∀ W : World, W.heap[kd]? = some (.cells #[Value.int .i64 kind, Value.slice dA dl.length dc, Value.int .i64 num] 31 (0, 0)) → W.cell? ⟨kd, 1, none⟩ = some (.slice dA dl.length dc) := fun W hW => blk_at hW 1 _ rfl
    have F2 : ∀ W : World, W.heap[kd]? = some (.cells #[Value.int .i64 kind, Value.slice dA dl.length dc, Value.int .i64 num] 31 (0, 0)) → W.cell? ⟨kd, 2, none⟩ = some (.int .i64 num) := fun W hW => blk_at hW 2 _ rfl
    obtain ⟨c0, c1, c2⟩ := blk3 HD6.out
    clear hN hX hs hB hsv hpn hkd hw5
    by_cases hk0 : kind = 0
    · have hkb : (kind == 0) = true := beq_iff_eq.2 hk0
      clear hk0 c1 c2 F2
      go_wp2_with fail
      refine wp_region_held_drew (S := fun W : World => W.heap[kd]? = some (.cells #[Value.int .i64 kind, Value.slice dA dl.length dc, Value.int .i64 num] 31 (0, 0))) (by kernel_rfl) (show w6.drew.heap[kd]? = _ from HD6.out) (fun hHeld => ?_)
      have hb60 := since_drew w6
      obtain ⟨x0, hx0⟩ : ∃ x0, w6.drew = x0 := ⟨_, rfl⟩
      rw [hx0] at hHeld hb60 ⊢
      have HB60 := Lib.hid hb60
      have HN0 := Lib.hid (HN6.out.below hb60)
      have HX0 := Lib.hid (HX6.out.below hb60)
      have HB0 := Lib.hid (HBw.out.trans (hb60.mono HBw.out.size))
      have HDL0 := Lib.hid (HDL6.out.below hb60)
      clear hx0 hb60 c0
      first
        | (refine take_in (i := 0) (v := ?_) rfl (by kernel_rfl) (by kernel_rfl) (by kernel_rfl) (fun _ _ _ h => h) (Or.inl ⟨by rfl, ?_⟩) hHeld ?_; rotate_left; (focus (intro W hSw; go_simp; (try rfl); done)); (try simp only [Act.put, List.setIfInBounds_toArray, List.set_cons_zero, List.set_cons_succ]))
        | (refine take_in (i := 0) (v := undef) rfl (by kernel_rfl) (by kernel_rfl) (by kernel_rfl) (fun _ _ _ h => h) (Or.inr ⟨by rfl, rfl⟩) hHeld ?_; (try simp only [Act.put, List.setIfInBounds_toArray, List.set_cons_zero, List.set_cons_succ]))
        | (fail "STAKE 0")
      first
        | (refine take_in (i := 1) (v := ?_) rfl (by kernel_rfl) (by kernel_rfl) (by kernel_rfl) (fun _ _ _ h => h) (Or.inl ⟨by rfl, ?_⟩) hHeld ?_; rotate_left; (focus (intro W hSw; have F1 := F1 W hSw; go_simp; (try rfl); done)); (try simp only [Act.put, List.setIfInBounds_toArray, List.set_cons_zero, List.set_cons_succ]))
        | (refine take_in (i := 1) (v := undef) rfl (by kernel_rfl) (by kernel_rfl) (by kernel_rfl) (fun _ _ _ h => h) (Or.inr ⟨by rfl, rfl⟩) hHeld ?_; (try simp only [Act.put, List.setIfInBounds_toArray, List.set_cons_zero, List.set_cons_succ]))
        | (fail "STAKE 1")
      first
        | (refine take_in (i := 2) (v := ?_) rfl (by kernel_rfl) (by kernel_rfl) (by kernel_rfl) (fun _ _ _ h => h) (Or.inl ⟨by rfl, ?_⟩) hHeld ?_; rotate_left; (focus (intro W hSw; have F1 := F1 W hSw; go_simp; (try rfl); done)); (try simp only [Act.put, List.setIfInBounds_toArray, List.set_cons_zero, List.set_cons_succ]))
        | (refine take_in (i := 2) (v := undef) rfl (by kernel_rfl) (by kernel_rfl) (by kernel_rfl) (fun _ _ _ h => h) (Or.inr ⟨by rfl, rfl⟩) hHeld ?_; (try simp only [Act.put, List.setIfInBounds_toArray, List.set_cons_zero, List.set_cons_succ]))
        | (fail "STAKE 2")
      first
        | (refine take_in (i := 4) (v := ?_) rfl (by kernel_rfl) (by kernel_rfl) (by kernel_rfl) (fun _ _ _ h => h) (Or.inl ⟨by rfl, ?_⟩) hHeld ?_; rotate_left; (focus (intro W hSw; have F1 := F1 W hSw; go_simp; (try rfl); done)); (try simp only [Act.put, List.setIfInBounds_toArray, List.set_cons_zero, List.set_cons_succ]))
        | (refine take_in (i := 4) (v := undef) rfl (by kernel_rfl) (by kernel_rfl) (by kernel_rfl) (fun _ _ _ h => h) (Or.inr ⟨by rfl, rfl⟩) hHeld ?_; (try simp only [Act.put, List.setIfInBounds_toArray, List.set_cons_zero, List.set_cons_succ]))
        | (fail "STAKE 4")
      first
        | (refine take_in (i := 5) (v := ?_) rfl (by kernel_rfl) (by kernel_rfl) (by kernel_rfl) (fun _ _ _ h => h) (Or.inl ⟨by rfl, ?_⟩) hHeld ?_; rotate_left; (focus (intro W hSw; have F1 := F1 W hSw; go_simp; (try rfl); done)); (try simp only [Act.put, List.setIfInBounds_toArray, List.set_cons_zero, List.set_cons_succ]))
        | (refine take_in (i := 5) (v := undef) rfl (by kernel_rfl) (by kernel_rfl) (by kernel_rfl) (fun _ _ _ h => h) (Or.inr ⟨by rfl, rfl⟩) hHeld ?_; (try simp only [Act.put, List.setIfInBounds_toArray, List.set_cons_zero, List.set_cons_succ]))
        | (fail "STAKE 5")
      first
        | (refine take_in (i := 6) (v := ?_) rfl (by kernel_rfl) (by kernel_rfl) (by kernel_rfl) (fun _ _ _ h => h) (Or.inl ⟨by rfl, ?_⟩) hHeld ?_; rotate_left; (focus (intro W hSw; have F1 := F1 W hSw; go_simp; (try rfl); done)); (try simp only [Act.put, List.setIfInBounds_toArray, List.set_cons_zero, List.set_cons_succ]))
        | (refine take_in (i := 6) (v := undef) rfl (by kernel_rfl) (by kernel_rfl) (by kernel_rfl) (fun _ _ _ h => h) (Or.inr ⟨by rfl, rfl⟩) hHeld ?_; (try simp only [Act.put, List.setIfInBounds_toArray, List.set_cons_zero, List.set_cons_succ]))
        | (fail "STAKE 6")
      have H0 := Lib.hid hHeld
      refine call_inS (i := 3) rfl (by kernel_rfl) (by kernel_rfl) (fun K hK => ?_)
      clear hHeld
      go_simp
      refine (send_any x0 b1 B (max room 0) sv q dl (fun k => k < w.heap.size) dA dl.length dc HN0.out (rd_rows HDL0.out) (fun k hk => ⟨by have := HS.out; omega, fun e => by have := (HN0.out.own_ge e).1; have := HS.out; omega⟩) (fun p hp => by have := HSM.out p hp; omega) (by omega)).mono ?_
      rintro e x1 ⟨rfl, sv1, hN1, hT1, hv1⟩
      rw [sendL_max] at hN1 ⊢
      have H1 := Lib.hid (hT1.blk H0.out HPN.out)
      have HN1 := Lib.hid hN1
      have HT1 := Lib.hid hT1
      have HV1 := Lib.hid hv1
      clear hN1 hT1 hv1
      have hHeld := H1.out
      refine hK.out (fun W : World => W.heap[kd]? = some (.cells #[Value.int .i64 kind, Value.slice dA dl.length dc, Value.int .i64 num] 31 (0, 0))) _ _ hHeld (fun _ h => h) ?_
      (try simp only [Act.put, List.setIfInBounds_toArray, List.set_cons_zero, List.set_cons_succ])
      refine call_inS (i := 7) rfl (by kernel_rfl) (by kernel_rfl) (fun K hK => ?_)
      clear hHeld
      go_simp
      have hX1 := xr_net HN0.out HX0.out (by have := HS.out; omega) (by have := HS.out; omega) HT1.out HV1.out
      have hok1 := okx_new HN1.out (b2 := b2) (by have := HS.out; omega)
      refine (rsend_any x1 b2 (okX b1 b2 sv1) room xv q dl dA dl.length dc hX1 hok1 ((rd_rows HDL0.out).turn HT1.out (fun k _ hk => ⟨fun e => by have := HS.out; rcases e with e | e; omega; have := (HN0.out.own_ge e).1; omega, by have := HS.out; omega, by have := HS.out; omega, fun e => by have := HS.out; rcases HV1.out k e with e | e; have := (HN0.out.own_ge e).1; omega; have := HB0.out.size; omega⟩)) (by omega)).mono ?_
      rintro e x2 ⟨rfl, xv2, hX2, hT2⟩
      have H2 := Lib.hid (hT2.blk H1.out (by have := HS.out; have := HZ.out; omega))
      obtain ⟨m2, hm2⟩ : ∃ m2, (sendL room q dl).2 = m2 := ⟨_, rfl⟩
      rw [hm2]
      have hbm : ((m2 : Int) != (m2 : Int)) = false := bne_self_eq_false _
      have hN1 := HN1.out
      have hT1 := HT1.out
      have HBn := Lib.hid (both_two (w := w) HN0.out (by have := HS.out; omega) (by have := HS.out; omega) HS.out.1 (by have := HS.out; omega) HB0.out hN1 hT1 hX2 hT2 (sm_send HS6.out HSM.out))
      obtain ⟨q1, hq1⟩ : ∃ q1, (sendL room q dl).1 = q1 := ⟨_, rfl⟩
      have hql1 : q1.length ≤ 10 * (i + 1) := by rw [← hq1]; have := (sendL_le room q dl).1; omega
      rw [hq1] at HBn
      clear hN1 hT1 hX2 hT2 hX1 hok1 hm2 hq1
      have hHeld := H2.out
      refine hK.out (fun W : World => W.heap[kd]? = some (.cells #[Value.int .i64 kind, Value.slice dA dl.length dc, Value.int .i64 num] 31 (0, 0))) _ _ hHeld (fun _ h => h) ?_
      (try simp only [Act.put, List.setIfInBounds_toArray, List.set_cons_zero, List.set_cons_succ])
      first
        | (refine take_in (i := 8) (v := ?_) rfl (by kernel_rfl) (by kernel_rfl) (by kernel_rfl) (fun _ _ _ h => h) (Or.inl ⟨by rfl, ?_⟩) hHeld ?_; rotate_left; (focus (intro W hSw; go_simp; (try rfl); done)); (try simp only [Act.put, List.setIfInBounds_toArray, List.set_cons_zero, List.set_cons_succ]))
        | (refine take_in (i := 8) (v := undef) rfl (by kernel_rfl) (by kernel_rfl) (by kernel_rfl) (fun _ _ _ h => h) (Or.inr ⟨by rfl, rfl⟩) hHeld ?_; (try simp only [Act.put, List.setIfInBounds_toArray, List.set_cons_zero, List.set_cons_succ]))
        | (fail "STAKE 8")
      refine wpAnyH_done (by kernel_rfl) ?_ _
      go_wp2_with fail
      refine region_in (by kernel_rfl) (fun x1 hx1 => ?_)
      obtain ⟨sv5, xv5, hN5, hX5, hs5, hB5⟩ := HBn.out.below hx1
      obtain ⟨Ax, cx, rfl, hxc, hxm, _, hxr⟩ := hX5.form
      obtain ⟨m, hm⟩ : ∃ m, q1.length = m := ⟨_, rfl⟩
      have hm100 : m ≤ 100000 := by have := hN5.2.2.2.2; omega
      have C1 : ∀ W, Below x1.heap.size x1 W → W.cell? ⟨b2, 1, none⟩ = some (.slice Ax m cx) := fun W hW => by rw [← hm]; exact cell_below hW (blk_at hX5.1 1 _ rfl)
      have HN5 := Lib.hid hN5
      have HX5 := Lib.hid hX5
      have HXR := Lib.hid hxr
      have HS5 := Lib.hid hs5
      have HB5 := Lib.hid hB5
      have HBx := Lib.hid (HBn.out.below hx1)
      clear hx1 hN5 hX5 hs5 hB5 hxr
      first
        | (refine take_in (i := 0) (v := ?_) rfl (by kernel_rfl) (by kernel_rfl) (by kernel_rfl) (fun _ _ _ h => h) (Or.inl ⟨by rfl, ?_⟩) (Below.refl _ _) ?_; rotate_left; (focus (intro W hSw; go_simp; (try rfl); done)); (try simp only [Act.put, List.setIfInBounds_toArray, List.set_cons_zero, List.set_cons_succ]))
        | (refine take_in (i := 0) (v := undef) rfl (by kernel_rfl) (by kernel_rfl) (by kernel_rfl) (fun _ _ _ h => h) (Or.inr ⟨by rfl, rfl⟩) (Below.refl _ _) ?_; (try simp only [Act.put, List.setIfInBounds_toArray, List.set_cons_zero, List.set_cons_succ]))
        | (fail "HTAKE 0")
      first
        | (refine take_in (i := 2) (v := ?_) rfl (by kernel_rfl) (by kernel_rfl) (by kernel_rfl) (fun _ _ _ h => h) (Or.inl ⟨by rfl, ?_⟩) (Below.refl _ _) ?_; rotate_left; (focus (intro W hSw; have C1 := C1 W hSw; go_simp; (try rfl); done)); (try simp only [Act.put, List.setIfInBounds_toArray, List.set_cons_zero, List.set_cons_succ]))
        | (refine take_in (i := 2) (v := undef) rfl (by kernel_rfl) (by kernel_rfl) (by kernel_rfl) (fun _ _ _ h => h) (Or.inr ⟨by rfl, rfl⟩) (Below.refl _ _) ?_; (try simp only [Act.put, List.setIfInBounds_toArray, List.set_cons_zero, List.set_cons_succ]))
        | (fail "HTAKE 2")
      first
        | (refine take_in (i := 3) (v := ?_) rfl (by kernel_rfl) (by kernel_rfl) (by kernel_rfl) (fun _ _ _ h => h) (Or.inl ⟨by rfl, ?_⟩) (Below.refl _ _) ?_; rotate_left; (focus (intro W hSw; have C1 := C1 W hSw; go_simp; (try rfl); done)); (try simp only [Act.put, List.setIfInBounds_toArray, List.set_cons_zero, List.set_cons_succ]))
        | (refine take_in (i := 3) (v := undef) rfl (by kernel_rfl) (by kernel_rfl) (by kernel_rfl) (fun _ _ _ h => h) (Or.inr ⟨by rfl, rfl⟩) (Below.refl _ _) ?_; (try simp only [Act.put, List.setIfInBounds_toArray, List.set_cons_zero, List.set_cons_succ]))
        | (fail "HTAKE 3")
      first
        | (refine take_in (i := 4) (v := ?_) rfl (by kernel_rfl) (by kernel_rfl) (by kernel_rfl) (fun _ _ _ h => h) (Or.inl ⟨by rfl, ?_⟩) (Below.refl _ _) ?_; rotate_left; (focus (intro W hSw; have C1 := C1 W hSw; go_simp; (try rfl); done)); (try simp only [Act.put, List.setIfInBounds_toArray, List.set_cons_zero, List.set_cons_succ]))
        | (refine take_in (i := 4) (v := undef) rfl (by kernel_rfl) (by kernel_rfl) (by kernel_rfl) (fun _ _ _ h => h) (Or.inr ⟨by rfl, rfl⟩) (Below.refl _ _) ?_; (try simp only [Act.put, List.setIfInBounds_toArray, List.set_cons_zero, List.set_cons_succ]))
        | (fail "HTAKE 4")
      first
        | (refine take_in (i := 5) (v := ?_) rfl (by kernel_rfl) (by kernel_rfl) (by kernel_rfl) (fun _ _ _ h => h) (Or.inl ⟨by rfl, ?_⟩) (Below.refl _ _) ?_; rotate_left; (focus (intro W hSw; have C1 := C1 W hSw; go_simp; (try rfl); done)); (try simp only [Act.put, List.setIfInBounds_toArray, List.set_cons_zero, List.set_cons_succ]))
        | (refine take_in (i := 5) (v := undef) rfl (by kernel_rfl) (by kernel_rfl) (by kernel_rfl) (fun _ _ _ h => h) (Or.inr ⟨by rfl, rfl⟩) (Below.refl _ _) ?_; (try simp only [Act.put, List.setIfInBounds_toArray, List.set_cons_zero, List.set_cons_succ]))
        | (fail "HTAKE 5")
      refine call_in (i := 1) rfl (by kernel_rfl) (by kernel_rfl) (fun K hK => ?_)
      go_simp
      refine (all_any x1 b1 B (max room 0) sv5 q1 HN5.out (fun p hp => by have := HS5.out p hp; omega)).mono ?_
      rintro e y1 ⟨A6, c6, rfl, hr6, hb6⟩
      have HR6 := Lib.hid (rd_rows hr6)
      have HB6 := Lib.hid hb6
      rw [hm] at HR6 ⊢
      clear hr6
      refine hK.out _ _ hb6 ?_
      (try simp only [Act.put, List.setIfInBounds_toArray, List.set_cons_zero, List.set_cons_succ])
      clear hb6
      refine call_in (i := 6) rfl (by kernel_rfl) (by kernel_rfl) (fun K hK => ?_)
      go_simp
      refine (same_any y1 _ _ A6 Ax m m c6 cx q1 q1 HR6.out (by rw [← hm]; exact HXR.out.below HB6.out) hm100).mono ?_
      rintro e y2 ⟨bb, rfl, hbb, hb7⟩
      obtain rfl : bb = true := hbb.2 rfl
      have hb8 := HB6.out.trans (hb7.mono HB6.out.size)
      have HB8 := Lib.hid hb8
      have C2 : ∀ W, Below y2.heap.size y2 W → W.cell? ⟨b2, 1, none⟩ = some (.slice Ax m cx) := fun W hW => C1 W (hb8.trans (hW.mono hb8.size))
      clear hbb hb8
      refine hK.out _ _ hb7 ?_
      (try simp only [Act.put, List.setIfInBounds_toArray, List.set_cons_zero, List.set_cons_succ])
      clear hb7
      first
        | (refine take_in (i := 7) (v := ?_) rfl (by kernel_rfl) (by kernel_rfl) (by kernel_rfl) (fun _ _ _ h => h) (Or.inl ⟨by rfl, ?_⟩) (Below.refl _ _) ?_; rotate_left; (focus (intro W hSw; go_simp; (try rfl); done)); (try simp only [Act.put, List.setIfInBounds_toArray, List.set_cons_zero, List.set_cons_succ]))
        | (refine take_in (i := 7) (v := undef) rfl (by kernel_rfl) (by kernel_rfl) (by kernel_rfl) (fun _ _ _ h => h) (Or.inr ⟨by rfl, rfl⟩) (Below.refl _ _) ?_; (try simp only [Act.put, List.setIfInBounds_toArray, List.set_cons_zero, List.set_cons_succ]))
        | (fail "HTAKE 7")
      first
        | (refine take_in (i := 8) (v := ?_) rfl (by kernel_rfl) (by kernel_rfl) (by kernel_rfl) (fun _ _ _ h => h) (Or.inl ⟨by rfl, ?_⟩) (Below.refl _ _) ?_; rotate_left; (focus (intro W hSw; go_simp; (try rfl); done)); (try simp only [Act.put, List.setIfInBounds_toArray, List.set_cons_zero, List.set_cons_succ]))
        | (refine take_in (i := 8) (v := undef) rfl (by kernel_rfl) (by kernel_rfl) (by kernel_rfl) (fun _ _ _ h => h) (Or.inr ⟨by rfl, rfl⟩) (Below.refl _ _) ?_; (try simp only [Act.put, List.setIfInBounds_toArray, List.set_cons_zero, List.set_cons_succ]))
        | (fail "HTAKE 8")
      first
        | (refine take_in (i := 9) (v := ?_) rfl (by kernel_rfl) (by kernel_rfl) (by kernel_rfl) (fun _ _ _ h => h) (Or.inl ⟨by rfl, ?_⟩) (Below.refl _ _) ?_; rotate_left; (focus (intro W hSw; go_simp; (try rfl); done)); (try simp only [Act.put, List.setIfInBounds_toArray, List.set_cons_zero, List.set_cons_succ]))
        | (refine take_in (i := 9) (v := undef) rfl (by kernel_rfl) (by kernel_rfl) (by kernel_rfl) (fun _ _ _ h => h) (Or.inr ⟨by rfl, rfl⟩) (Below.refl _ _) ?_; (try simp only [Act.put, List.setIfInBounds_toArray, List.set_cons_zero, List.set_cons_succ]))
        | (fail "HTAKE 9")
      first
        | (refine take_in (i := 11) (v := ?_) rfl (by kernel_rfl) (by kernel_rfl) (by kernel_rfl) (fun _ _ _ h => h) (Or.inl ⟨by rfl, ?_⟩) (Below.refl _ _) ?_; rotate_left; (focus (intro W hSw; have C2 := C2 W hSw; go_simp; (try rfl); done)); (try simp only [Act.put, List.setIfInBounds_toArray, List.set_cons_zero, List.set_cons_succ]))
        | (refine take_in (i := 11) (v := undef) rfl (by kernel_rfl) (by kernel_rfl) (by kernel_rfl) (fun _ _ _ h => h) (Or.inr ⟨by rfl, rfl⟩) (Below.refl _ _) ?_; (try simp only [Act.put, List.setIfInBounds_toArray, List.set_cons_zero, List.set_cons_succ]))
        | (fail "HTAKE 11")
      first
        | (refine take_in (i := 12) (v := ?_) rfl (by kernel_rfl) (by kernel_rfl) (by kernel_rfl) (fun _ _ _ h => h) (Or.inl ⟨by rfl, ?_⟩) (Below.refl _ _) ?_; rotate_left; (focus (intro W hSw; have C2 := C2 W hSw; go_simp; (try rfl); done)); (try simp only [Act.put, List.setIfInBounds_toArray, List.set_cons_zero, List.set_cons_succ]))
        | (refine take_in (i := 12) (v := undef) rfl (by kernel_rfl) (by kernel_rfl) (by kernel_rfl) (fun _ _ _ h => h) (Or.inr ⟨by rfl, rfl⟩) (Below.refl _ _) ?_; (try simp only [Act.put, List.setIfInBounds_toArray, List.set_cons_zero, List.set_cons_succ]))
        | (fail "HTAKE 12")
      first
        | (refine take_in (i := 13) (v := ?_) rfl (by kernel_rfl) (by kernel_rfl) (by kernel_rfl) (fun _ _ _ h => h) (Or.inl ⟨by rfl, ?_⟩) (Below.refl _ _) ?_; rotate_left; (focus (intro W hSw; have C2 := C2 W hSw; go_simp; (try rfl); done)); (try simp only [Act.put, List.setIfInBounds_toArray, List.set_cons_zero, List.set_cons_succ]))
        | (refine take_in (i := 13) (v := undef) rfl (by kernel_rfl) (by kernel_rfl) (by kernel_rfl) (fun _ _ _ h => h) (Or.inr ⟨by rfl, rfl⟩) (Below.refl _ _) ?_; (try simp only [Act.put, List.setIfInBounds_toArray, List.set_cons_zero, List.set_cons_succ]))
        | (fail "HTAKE 13")
      first
        | (refine take_in (i := 14) (v := ?_) rfl (by kernel_rfl) (by kernel_rfl) (by kernel_rfl) (fun _ _ _ h => h) (Or.inl ⟨by rfl, ?_⟩) (Below.refl _ _) ?_; rotate_left; (focus (intro W hSw; have C2 := C2 W hSw; go_simp; (try rfl); done)); (try simp only [Act.put, List.setIfInBounds_toArray, List.set_cons_zero, List.set_cons_succ]))
        | (refine take_in (i := 14) (v := undef) rfl (by kernel_rfl) (by kernel_rfl) (by kernel_rfl) (fun _ _ _ h => h) (Or.inr ⟨by rfl, rfl⟩) (Below.refl _ _) ?_; (try simp only [Act.put, List.setIfInBounds_toArray, List.set_cons_zero, List.set_cons_succ]))
        | (fail "HTAKE 14")
      first
        | (refine take_in (i := 15) (v := ?_) rfl (by kernel_rfl) (by kernel_rfl) (by kernel_rfl) (fun _ _ _ h => h) (Or.inl ⟨by rfl, ?_⟩) (Below.refl _ _) ?_; rotate_left; (focus (intro W hSw; have C2 := C2 W hSw; go_simp; (try rfl); done)); (try simp only [Act.put, List.setIfInBounds_toArray, List.set_cons_zero, List.set_cons_succ]))
        | (refine take_in (i := 15) (v := undef) rfl (by kernel_rfl) (by kernel_rfl) (by kernel_rfl) (fun _ _ _ h => h) (Or.inr ⟨by rfl, rfl⟩) (Below.refl _ _) ?_; (try simp only [Act.put, List.setIfInBounds_toArray, List.set_cons_zero, List.set_cons_succ]))
        | (fail "HTAKE 15")
      refine call_in (i := 10) rfl (by kernel_rfl) (by kernel_rfl) (fun K hK => ?_)
      go_simp
      refine (len_any y2 b1 B (max room 0) sv5 q1 (HN5.out.below HB8.out)).mono ?_
      rintro e y3 ⟨rfl, rfl⟩
      rw [hm]
      have hbl : ((m : Int) != (m : Int)) = false := bne_self_eq_false _
      refine hK.out _ _ (Below.refl _ _) ?_
      (try simp only [Act.put, List.setIfInBounds_toArray, List.set_cons_zero, List.set_cons_succ])
      first
        | (refine take_in (i := 16) (v := ?_) rfl (by kernel_rfl) (by kernel_rfl) (by kernel_rfl) (fun _ _ _ h => h) (Or.inl ⟨by rfl, ?_⟩) (Below.refl _ _) ?_; rotate_left; (focus (intro W hSw; go_simp; (try rfl); done)); (try simp only [Act.put, List.setIfInBounds_toArray, List.set_cons_zero, List.set_cons_succ]))
        | (refine take_in (i := 16) (v := undef) rfl (by kernel_rfl) (by kernel_rfl) (by kernel_rfl) (fun _ _ _ h => h) (Or.inr ⟨by rfl, rfl⟩) (Below.refl _ _) ?_; (try simp only [Act.put, List.setIfInBounds_toArray, List.set_cons_zero, List.set_cons_succ]))
        | (fail "HTAKE 16")
      first
        | (refine take_in (i := 17) (v := ?_) rfl (by kernel_rfl) (by kernel_rfl) (by kernel_rfl) (fun _ _ _ h => h) (Or.inl ⟨by rfl, ?_⟩) (Below.refl _ _) ?_; rotate_left; (focus (intro W hSw; go_simp; (try rfl); done)); (try simp only [Act.put, List.setIfInBounds_toArray, List.set_cons_zero, List.set_cons_succ]))
        | (refine take_in (i := 17) (v := undef) rfl (by kernel_rfl) (by kernel_rfl) (by kernel_rfl) (fun _ _ _ h => h) (Or.inr ⟨by rfl, rfl⟩) (Below.refl _ _) ?_; (try simp only [Act.put, List.setIfInBounds_toArray, List.set_cons_zero, List.set_cons_succ]))
        | (fail "HTAKE 17")
      first
        | (refine take_in (i := 18) (v := ?_) rfl (by kernel_rfl) (by kernel_rfl) (by kernel_rfl) (fun _ _ _ h => h) (Or.inl ⟨by rfl, ?_⟩) (Below.refl _ _) ?_; rotate_left; (focus (intro W hSw; go_simp; (try rfl); done)); (try simp only [Act.put, List.setIfInBounds_toArray, List.set_cons_zero, List.set_cons_succ]))
        | (refine take_in (i := 18) (v := undef) rfl (by kernel_rfl) (by kernel_rfl) (by kernel_rfl) (fun _ _ _ h => h) (Or.inr ⟨by rfl, rfl⟩) (Below.refl _ _) ?_; (try simp only [Act.put, List.setIfInBounds_toArray, List.set_cons_zero, List.set_cons_succ]))
        | (fail "HTAKE 18")
      first
        | (refine take_in (i := 19) (v := ?_) rfl (by kernel_rfl) (by kernel_rfl) (by kernel_rfl) (fun _ _ _ h => h) (Or.inl ⟨by rfl, ?_⟩) (Below.refl _ _) ?_; rotate_left; (focus (intro W hSw; go_simp; (try rfl); done)); (try simp only [Act.put, List.setIfInBounds_toArray, List.set_cons_zero, List.set_cons_succ]))
        | (refine take_in (i := 19) (v := undef) rfl (by kernel_rfl) (by kernel_rfl) (by kernel_rfl) (fun _ _ _ h => h) (Or.inr ⟨by rfl, rfl⟩) (Below.refl _ _) ?_; (try simp only [Act.put, List.setIfInBounds_toArray, List.set_cons_zero, List.set_cons_succ]))
        | (fail "HTAKE 19")
      first
        | (refine take_in (i := 20) (v := ?_) rfl (by kernel_rfl) (by kernel_rfl) (by kernel_rfl) (fun _ _ _ h => h) (Or.inl ⟨by rfl, ?_⟩) (Below.refl _ _) ?_; rotate_left; (focus (intro W hSw; go_simp; (try rfl); done)); (try simp only [Act.put, List.setIfInBounds_toArray, List.set_cons_zero, List.set_cons_succ]))
        | (refine take_in (i := 20) (v := undef) rfl (by kernel_rfl) (by kernel_rfl) (by kernel_rfl) (fun _ _ _ h => h) (Or.inr ⟨by rfl, rfl⟩) (Below.refl _ _) ?_; (try simp only [Act.put, List.setIfInBounds_toArray, List.set_cons_zero, List.set_cons_succ]))
        | (fail "HTAKE 20")
      first
        | (refine take_in (i := 22) (v := ?_) rfl (by kernel_rfl) (by kernel_rfl) (by kernel_rfl) (fun _ _ _ h => h) (Or.inl ⟨by rfl, ?_⟩) (Below.refl _ _) ?_; rotate_left; (focus (intro W hSw; go_simp; (try rfl); done)); (try simp only [Act.put, List.setIfInBounds_toArray, List.set_cons_zero, List.set_cons_succ]))
        | (refine take_in (i := 22) (v := undef) rfl (by kernel_rfl) (by kernel_rfl) (by kernel_rfl) (fun _ _ _ h => h) (Or.inr ⟨by rfl, rfl⟩) (Below.refl _ _) ?_; (try simp only [Act.put, List.setIfInBounds_toArray, List.set_cons_zero, List.set_cons_succ]))
        | (fail "HTAKE 22")
      first
        | (refine take_in (i := 23) (v := ?_) rfl (by kernel_rfl) (by kernel_rfl) (by kernel_rfl) (fun _ _ _ h => h) (Or.inl ⟨by rfl, ?_⟩) (Below.refl _ _) ?_; rotate_left; (focus (intro W hSw; go_simp; (try rfl); done)); (try simp only [Act.put, List.setIfInBounds_toArray, List.set_cons_zero, List.set_cons_succ]))
        | (refine take_in (i := 23) (v := undef) rfl (by kernel_rfl) (by kernel_rfl) (by kernel_rfl) (fun _ _ _ h => h) (Or.inr ⟨by rfl, rfl⟩) (Below.refl _ _) ?_; (try simp only [Act.put, List.setIfInBounds_toArray, List.set_cons_zero, List.set_cons_succ]))
        | (fail "HTAKE 23")
      refine call_in (i := 21) rfl (by kernel_rfl) (by kernel_rfl) (fun K hK => ?_)
      go_simp
      refine (for_any y2 b1 B (max room 0) sv5 q1 to (HN5.out.below HB8.out) (fun p hp => by have := HS5.out p hp; omega)).mono ?_
      rintro e y4 ⟨rfl, hb9⟩
      have hb10 := HB8.out.trans (hb9.mono HB8.out.size)
      have HB10 := Lib.hid hb10
      obtain ⟨fr, hfr⟩ : ∃ fr, forL q1 to = fr := ⟨_, rfl⟩
      rw [hfr]
      clear hb10
      refine hK.out _ _ hb9 ?_
      (try simp only [Act.put, List.setIfInBounds_toArray, List.set_cons_zero, List.set_cons_succ])
      clear hb9
      refine call_in (i := 24) rfl (by kernel_rfl) (by kernel_rfl) (fun K hK => ?_)
      go_simp
      refine (rfor_any y4 b2 (okX b1 b2 sv5) room _ q1 to (HX5.out.below HB10.out)).mono ?_
      rintro e y5 ⟨rfl, hb11⟩
      have HBz := Lib.hid (HBx.out.below (HB10.out.trans (hb11.mono HB10.out.size)))
      rw [hfr]
      have hbf : (fr != fr) = false := bne_self_eq_false _
      refine hK.out _ _ hb11 ?_
      (try simp only [Act.put, List.setIfInBounds_toArray, List.set_cons_zero, List.set_cons_succ])
      clear hb11 C1 C2
      first
        | (refine take_in (i := 25) (v := ?_) rfl (by kernel_rfl) (by kernel_rfl) (by kernel_rfl) (fun _ _ _ h => h) (Or.inl ⟨by rfl, ?_⟩) (Below.refl _ _) ?_; rotate_left; (focus (intro W hSw; go_simp; (try rfl); done)); (try simp only [Act.put, List.setIfInBounds_toArray, List.set_cons_zero, List.set_cons_succ]))
        | (refine take_in (i := 25) (v := undef) rfl (by kernel_rfl) (by kernel_rfl) (by kernel_rfl) (fun _ _ _ h => h) (Or.inr ⟨by rfl, rfl⟩) (Below.refl _ _) ?_; (try simp only [Act.put, List.setIfInBounds_toArray, List.set_cons_zero, List.set_cons_succ]))
        | (fail "HTAKE 25")
      first
        | (refine take_in (i := 26) (v := ?_) rfl (by kernel_rfl) (by kernel_rfl) (by kernel_rfl) (fun _ _ _ h => h) (Or.inl ⟨by rfl, ?_⟩) (Below.refl _ _) ?_; rotate_left; (focus (intro W hSw; go_simp; (try rfl); done)); (try simp only [Act.put, List.setIfInBounds_toArray, List.set_cons_zero, List.set_cons_succ]))
        | (refine take_in (i := 26) (v := undef) rfl (by kernel_rfl) (by kernel_rfl) (by kernel_rfl) (fun _ _ _ h => h) (Or.inr ⟨by rfl, rfl⟩) (Below.refl _ _) ?_; (try simp only [Act.put, List.setIfInBounds_toArray, List.set_cons_zero, List.set_cons_succ]))
        | (fail "HTAKE 26")
      refine wpAnyH_done (by kernel_rfl) ?_ _
      go_wp2_with fail
      go_roundw
      case measure => simp [intOf]; omega
      case rel => exact ⟨i + 1, q1, by omega, by go_num, by omega, HBz.out⟩
    have hkb0 : (kind == 0) = false := beq_eq_false_iff_ne.2 hk0
    clear hk0
    by_cases hk1' : kind = 1
    · have hkb : (kind == 1) = true := beq_iff_eq.2 hk1'
      clear hk1' c1 F1 F2
      go_wp2_with fail
      refine (take_v w6 b1 B (max room 0) sv q num HN6.out hk2).mono ?_
      rintro e x1 ⟨⟨pt, pf, pd, pA, pc, rfl, hv, hr1⟩, sv1, hN1, hT1, hv1⟩
      obtain ⟨bl, hbl⟩ : ∃ bl, (takeV q num).2.1 = bl := ⟨_, rfl⟩
      obtain ⟨x2, hx2⟩ : ∃ x2, x1.alloc (.cells #[.int .i64 pt, .int .i64 pf, .slice pA pd.length pc] 37) = x2 := ⟨_, rfl⟩
      have hb12 : Below x1.heap.size x1 x2 := by rw [← hx2]; exact below_alloc1 x1 _
      have ha2 : x2.heap[x1.heap.size]? = some (.cells #[.int .i64 pt, .int .i64 pf, .slice pA pd.length pc] 37 (0, 0)) := by rw [← hx2]; exact heap_alloc_new x1 _
      have HD1 := Lib.hid (blk_below (hT1.blk HD6.out HPN.out) hb12 (blk_lt (hT1.blk HD6.out HPN.out)))
      have hs61 := hT1.size
      have HT1 := Lib.hid (hT1.and_below hb12)
      have HV1 := Lib.hid hv1
      have HN1 := Lib.hid (hN1.below hb12)
      have HA2 := Lib.hid ha2
      have HP2 := Lib.hid (hr1.below hb12)
      have HV := Lib.hid hv
      have HB1 := Lib.hid (hb1_of HBw.out HN6.out HS.out hT1 hb12)
      rw [hbl]
      have HBL := Lib.hid hbl
      obtain ⟨c0', c1', c2'⟩ := blk3 HD1.out
      clear hr1 hN1 hT1 hv1 hv ha2 hb12 c0 c2 hbl
      go_wp2_with fail
      have hX2 := xr_net HN6.out HX6.out (by have := HS.out; omega) (by have := HS.out; omega) HT1.out HV1.out
      have hok2 := okx_new HN1.out (b2 := b2) (by have := HS.out; omega)
      refine (rtake_v x2 b2 (okX b1 b2 sv1) room xv q num hX2 hok2 hk2).mono ?_
      rintro e x3 ⟨⟨qt, qf, qd, qA, qc, rfl, hv2, hr3⟩, xv3, hX3, hT3⟩
      have he := HV.out.symm.trans hv2
      simp only [Prod.mk.injEq] at he
      obtain ⟨rfl, rfl, rfl, _⟩ := he
      rw [HBL.out]
      obtain ⟨x4, hx4⟩ : ∃ x4, x3.alloc (.cells #[.int .i64 pt, .int .i64 pf, .slice qA pd.length qc] 37) = x4 := ⟨_, rfl⟩
      obtain ⟨x5, hx5⟩ : ∃ x5, x4.alloc (.cells #[.int .i64 pt, .int .i64 pf, .slice pA pd.length pc] 37) = x5 := ⟨_, rfl⟩
      obtain ⟨x6, hx6⟩ : ∃ x6, x5.alloc (.cells #[.int .i64 pt, .int .i64 pf, .slice qA pd.length qc] 37) = x6 := ⟨_, rfl⟩
      have b34 : Below x3.heap.size x3 x4 := by rw [← hx4]; exact below_alloc1 x3 _
      have b45 : Below x4.heap.size x4 x5 := by rw [← hx5]; exact below_alloc1 x4 _
      have b56 : Below x5.heap.size x5 x6 := by rw [← hx6]; exact below_alloc1 x5 _
      have g4 : x4.heap[x3.heap.size]? = some (.cells #[.int .i64 pt, .int .i64 pf, .slice qA pd.length qc] 37 (0, 0)) := by rw [← hx4]; exact heap_alloc_new x3 _
      have g5 : x5.heap[x4.heap.size]? = some (.cells #[.int .i64 pt, .int .i64 pf, .slice pA pd.length pc] 37 (0, 0)) := by rw [← hx5]; exact heap_alloc_new x4 _
      have g6 : x6.heap[x5.heap.size]? = some (.cells #[.int .i64 pt, .int .i64 pf, .slice qA pd.length qc] 37 (0, 0)) := by rw [← hx6]; exact heap_alloc_new x5 _
      have b36 : Below x3.heap.size x3 x6 := b34.trans ((b45.trans (b56.mono b45.size)).mono b34.size)
      have hBs := HN1.out.2.2.2.1
      have hlt := blk_lt HA2.out
      have g3 : x3.heap[x1.heap.size]? = some (.cells #[.int .i64 pt, .int .i64 pf, .slice pA pd.length pc] 37 (0, 0)) := hT3.blk HA2.out (fun e => by have := HS.out; have := HN6.out.2.2.2.1; omega)
      have hp3 : Rd x3 (fun k => B ≤ k) PKT (pt, pf, pd, ()) [.int .i64 pt, .int .i64 pf, .slice pA pd.length pc] := HP2.out.turn hT3 (fun k _ h => ⟨by have := HS.out; omega, h⟩)
      have HA4 := Lib.hid (At.blk (blk_below g3 b34 (blk_lt g3)))
      have HQ5 := Lib.hid (At.blk (blk_below g4 b45 (blk_lt g4)))
      have HR1 := Lib.hid (rows_of (ad := ⟨x4.heap.size, 0, none⟩) (w := x6) (ok := anyB) (RdL.single (hp3.any.below b36)) (fun _ => trivial) (At.blk (blk_below g5 b56 (blk_lt g5))))
      have HR2 := Lib.hid (rows_of (ad := ⟨x5.heap.size, 0, none⟩) (w := x6) (ok := anyB) (RdL.single (hr3.any.below b36)) (fun _ => trivial) (At.blk g6))
      have hN1 := HN1.out
      have hT1 := HT1.out
      have HBn := Lib.hid (both_two (w := w) HN6.out (by have := HS.out; omega) (by have := HS.out; omega) HS.out.1 (by have := HS.out; omega) HBw.out hN1 hT1 hX3 hT3 (sm_takeV HS6.out).1)
      obtain ⟨q1, hq1⟩ : ∃ q1, (takeV q num).2.2 = q1 := ⟨_, rfl⟩
      have hql1 : q1.length ≤ 10 * (i + 1) := by rw [← hq1]; have := (sm_takeV (i := num) HS6.out).2; omega
      rw [hq1] at HBn
      have HBn6 := Lib.hid (HBn.out.below b36)
      clear b34 b45 b56 g3 g4 g5 g6 b36 hp3 hr3 hv2 hX3 hT3 hX2 hok2 hN1 hT1 c0' c1' c2' hq1 hlt hBs hs61
      go_wp2_with (first
        | (refine wpG_load (by kernel_rfl) 37 (.tmp 11) rfl ⟨x1.heap.size, 0, none⟩ rfl _ _ HA4.out Try.underlying37 rfl rfl ?_)
        | (refine wpG_lit1 (by kernel_rfl) (cs := [.int .i64 pt, .int .i64 pf, .slice pA pd.length pc]) (.tmp 79) rfl rfl Try.underlying27 info_pkt rfl (by decide) (by decide) rfl ?_; simp only [hx5])
        | (refine wpG_load (by kernel_rfl) 37 (.tmp 13) rfl ⟨x3.heap.size, 0, none⟩ rfl _ _ HQ5.out Try.underlying37 rfl rfl ?_)
        | (refine wpG_lit1 (by kernel_rfl) (cs := [.int .i64 pt, .int .i64 pf, .slice qA pd.length qc]) (.tmp 81) rfl rfl Try.underlying27 info_pkt rfl (by decide) (by decide) rfl ?_; simp only [hx6]))
      refine (same_any x6 anyB anyB (some ⟨x4.heap.size, 0, none⟩) (some ⟨x5.heap.size, 0, none⟩) 1 1 1 1 [(pt, pf, pd, ())] [(pt, pf, pd, ())] HR1.out HR2.out (by omega)).mono ?_
      rintro e x7 ⟨bb, rfl, hbb, hb67⟩
      obtain rfl : bb = true := hbb.2 rfl
      have HBn := Lib.hid (HBn6.out.below hb67)
      clear hbb hb67 hx4 hx5 hx6 hx2
      go_wp2_with fail
      refine region_in (by kernel_rfl) (fun x1 hx1 => ?_)
      obtain ⟨sv5, xv5, hN5, hX5, hs5, hB5⟩ := HBn.out.below hx1
      obtain ⟨Ax, cx, rfl, hxc, hxm, _, hxr⟩ := hX5.form
      obtain ⟨m, hm⟩ : ∃ m, q1.length = m := ⟨_, rfl⟩
      have hm100 : m ≤ 100000 := by have := hN5.2.2.2.2; omega
      have C1 : ∀ W, Below x1.heap.size x1 W → W.cell? ⟨b2, 1, none⟩ = some (.slice Ax m cx) := fun W hW => by rw [← hm]; exact cell_below hW (blk_at hX5.1 1 _ rfl)
      have HN5 := Lib.hid hN5
      have HX5 := Lib.hid hX5
      have HXR := Lib.hid hxr
      have HS5 := Lib.hid hs5
      have HB5 := Lib.hid hB5
      have HBx := Lib.hid (HBn.out.below hx1)
      clear hx1 hN5 hX5 hs5 hB5 hxr
      first
        | (refine take_in (i := 0) (v := ?_) rfl (by kernel_rfl) (by kernel_rfl) (by kernel_rfl) (fun _ _ _ h => h) (Or.inl ⟨by rfl, ?_⟩) (Below.refl _ _) ?_; rotate_left; (focus (intro W hSw; go_simp; (try rfl); done)); (try simp only [Act.put, List.setIfInBounds_toArray, List.set_cons_zero, List.set_cons_succ]))
        | (refine take_in (i := 0) (v := undef) rfl (by kernel_rfl) (by kernel_rfl) (by kernel_rfl) (fun _ _ _ h => h) (Or.inr ⟨by rfl, rfl⟩) (Below.refl _ _) ?_; (try simp only [Act.put, List.setIfInBounds_toArray, List.set_cons_zero, List.set_cons_succ]))
        | (fail "HTAKE 0")
      first
        | (refine take_in (i := 2) (v := ?_) rfl (by kernel_rfl) (by kernel_rfl) (by kernel_rfl) (fun _ _ _ h => h) (Or.inl ⟨by rfl, ?_⟩) (Below.refl _ _) ?_; rotate_left; (focus (intro W hSw; have C1 := C1 W hSw; go_simp; (try rfl); done)); (try simp only [Act.put, List.setIfInBounds_toArray, List.set_cons_zero, List.set_cons_succ]))
        | (refine take_in (i := 2) (v := undef) rfl (by kernel_rfl) (by kernel_rfl) (by kernel_rfl) (fun _ _ _ h => h) (Or.inr ⟨by rfl, rfl⟩) (Below.refl _ _) ?_; (try simp only [Act.put, List.setIfInBounds_toArray, List.set_cons_zero, List.set_cons_succ]))
        | (fail "HTAKE 2")
      first
        | (refine take_in (i := 3) (v := ?_) rfl (by kernel_rfl) (by kernel_rfl) (by kernel_rfl) (fun _ _ _ h => h) (Or.inl ⟨by rfl, ?_⟩) (Below.refl _ _) ?_; rotate_left; (focus (intro W hSw; have C1 := C1 W hSw; go_simp; (try rfl); done)); (try simp only [Act.put, List.setIfInBounds_toArray, List.set_cons_zero, List.set_cons_succ]))
        | (refine take_in (i := 3) (v := undef) rfl (by kernel_rfl) (by kernel_rfl) (by kernel_rfl) (fun _ _ _ h => h) (Or.inr ⟨by rfl, rfl⟩) (Below.refl _ _) ?_; (try simp only [Act.put, List.setIfInBounds_toArray, List.set_cons_zero, List.set_cons_succ]))
        | (fail "HTAKE 3")
      first
        | (refine take_in (i := 4) (v := ?_) rfl (by kernel_rfl) (by kernel_rfl) (by kernel_rfl) (fun _ _ _ h => h) (Or.inl ⟨by rfl, ?_⟩) (Below.refl _ _) ?_; rotate_left; (focus (intro W hSw; have C1 := C1 W hSw; go_simp; (try rfl); done)); (try simp only [Act.put, List.setIfInBounds_toArray, List.set_cons_zero, List.set_cons_succ]))
        | (refine take_in (i := 4) (v := undef) rfl (by kernel_rfl) (by kernel_rfl) (by kernel_rfl) (fun _ _ _ h => h) (Or.inr ⟨by rfl, rfl⟩) (Below.refl _ _) ?_; (try simp only [Act.put, List.setIfInBounds_toArray, List.set_cons_zero, List.set_cons_succ]))
        | (fail "HTAKE 4")
      first
        | (refine take_in (i := 5) (v := ?_) rfl (by kernel_rfl) (by kernel_rfl) (by kernel_rfl) (fun _ _ _ h => h) (Or.inl ⟨by rfl, ?_⟩) (Below.refl _ _) ?_; rotate_left; (focus (intro W hSw; have C1 := C1 W hSw; go_simp; (try rfl); done)); (try simp only [Act.put, List.setIfInBounds_toArray, List.set_cons_zero, List.set_cons_succ]))
        | (refine take_in (i := 5) (v := undef) rfl (by kernel_rfl) (by kernel_rfl) (by kernel_rfl) (fun _ _ _ h => h) (Or.inr ⟨by rfl, rfl⟩) (Below.refl _ _) ?_; (try simp only [Act.put, List.setIfInBounds_toArray, List.set_cons_zero, List.set_cons_succ]))
        | (fail "HTAKE 5")
      refine call_in (i := 1) rfl (by kernel_rfl) (by kernel_rfl) (fun K hK => ?_)
      go_simp
      refine (all_any x1 b1 B (max room 0) sv5 q1 HN5.out (fun p hp => by have := HS5.out p hp; omega)).mono ?_
      rintro e y1 ⟨A6, c6, rfl, hr6, hb6⟩
      have HR6 := Lib.hid (rd_rows hr6)
      have HB6 := Lib.hid hb6
      rw [hm] at HR6 ⊢
      clear hr6
      refine hK.out _ _ hb6 ?_
      (try simp only [Act.put, List.setIfInBounds_toArray, List.set_cons_zero, List.set_cons_succ])
      clear hb6
      refine call_in (i := 6) rfl (by kernel_rfl) (by kernel_rfl) (fun K hK => ?_)
      go_simp
      refine (same_any y1 _ _ A6 Ax m m c6 cx q1 q1 HR6.out (by rw [← hm]; exact HXR.out.below HB6.out) hm100).mono ?_
      rintro e y2 ⟨bb, rfl, hbb, hb7⟩
      obtain rfl : bb = true := hbb.2 rfl
      have hb8 := HB6.out.trans (hb7.mono HB6.out.size)
      have HB8 := Lib.hid hb8
      have C2 : ∀ W, Below y2.heap.size y2 W → W.cell? ⟨b2, 1, none⟩ = some (.slice Ax m cx) := fun W hW => C1 W (hb8.trans (hW.mono hb8.size))
      clear hbb hb8
      refine hK.out _ _ hb7 ?_
      (try simp only [Act.put, List.setIfInBounds_toArray, List.set_cons_zero, List.set_cons_succ])
      clear hb7
      first
        | (refine take_in (i := 7) (v := ?_) rfl (by kernel_rfl) (by kernel_rfl) (by kernel_rfl) (fun _ _ _ h => h) (Or.inl ⟨by rfl, ?_⟩) (Below.refl _ _) ?_; rotate_left; (focus (intro W hSw; go_simp; (try rfl); done)); (try simp only [Act.put, List.setIfInBounds_toArray, List.set_cons_zero, List.set_cons_succ]))
        | (refine take_in (i := 7) (v := undef) rfl (by kernel_rfl) (by kernel_rfl) (by kernel_rfl) (fun _ _ _ h => h) (Or.inr ⟨by rfl, rfl⟩) (Below.refl _ _) ?_; (try simp only [Act.put, List.setIfInBounds_toArray, List.set_cons_zero, List.set_cons_succ]))
        | (fail "HTAKE 7")
      first
        | (refine take_in (i := 8) (v := ?_) rfl (by kernel_rfl) (by kernel_rfl) (by kernel_rfl) (fun _ _ _ h => h) (Or.inl ⟨by rfl, ?_⟩) (Below.refl _ _) ?_; rotate_left; (focus (intro W hSw; go_simp; (try rfl); done)); (try simp only [Act.put, List.setIfInBounds_toArray, List.set_cons_zero, List.set_cons_succ]))
        | (refine take_in (i := 8) (v := undef) rfl (by kernel_rfl) (by kernel_rfl) (by kernel_rfl) (fun _ _ _ h => h) (Or.inr ⟨by rfl, rfl⟩) (Below.refl _ _) ?_; (try simp only [Act.put, List.setIfInBounds_toArray, List.set_cons_zero, List.set_cons_succ]))
        | (fail "HTAKE 8")
      first
        | (refine take_in (i := 9) (v := ?_) rfl (by kernel_rfl) (by kernel_rfl) (by kernel_rfl) (fun _ _ _ h => h) (Or.inl ⟨by rfl, ?_⟩) (Below.refl _ _) ?_; rotate_left; (focus (intro W hSw; go_simp; (try rfl); done)); (try simp only [Act.put, List.setIfInBounds_toArray, List.set_cons_zero, List.set_cons_succ]))
        | (refine take_in (i := 9) (v := undef) rfl (by kernel_rfl) (by kernel_rfl) (by kernel_rfl) (fun _ _ _ h => h) (Or.inr ⟨by rfl, rfl⟩) (Below.refl _ _) ?_; (try simp only [Act.put, List.setIfInBounds_toArray, List.set_cons_zero, List.set_cons_succ]))
        | (fail "HTAKE 9")
      first
        | (refine take_in (i := 11) (v := ?_) rfl (by kernel_rfl) (by kernel_rfl) (by kernel_rfl) (fun _ _ _ h => h) (Or.inl ⟨by rfl, ?_⟩) (Below.refl _ _) ?_; rotate_left; (focus (intro W hSw; have C2 := C2 W hSw; go_simp; (try rfl); done)); (try simp only [Act.put, List.setIfInBounds_toArray, List.set_cons_zero, List.set_cons_succ]))
        | (refine take_in (i := 11) (v := undef) rfl (by kernel_rfl) (by kernel_rfl) (by kernel_rfl) (fun _ _ _ h => h) (Or.inr ⟨by rfl, rfl⟩) (Below.refl _ _) ?_; (try simp only [Act.put, List.setIfInBounds_toArray, List.set_cons_zero, List.set_cons_succ]))
        | (fail "HTAKE 11")
      first
        | (refine take_in (i := 12) (v := ?_) rfl (by kernel_rfl) (by kernel_rfl) (by kernel_rfl) (fun _ _ _ h => h) (Or.inl ⟨by rfl, ?_⟩) (Below.refl _ _) ?_; rotate_left; (focus (intro W hSw; have C2 := C2 W hSw; go_simp; (try rfl); done)); (try simp only [Act.put, List.setIfInBounds_toArray, List.set_cons_zero, List.set_cons_succ]))
        | (refine take_in (i := 12) (v := undef) rfl (by kernel_rfl) (by kernel_rfl) (by kernel_rfl) (fun _ _ _ h => h) (Or.inr ⟨by rfl, rfl⟩) (Below.refl _ _) ?_; (try simp only [Act.put, List.setIfInBounds_toArray, List.set_cons_zero, List.set_cons_succ]))
        | (fail "HTAKE 12")
      first
        | (refine take_in (i := 13) (v := ?_) rfl (by kernel_rfl) (by kernel_rfl) (by kernel_rfl) (fun _ _ _ h => h) (Or.inl ⟨by rfl, ?_⟩) (Below.refl _ _) ?_; rotate_left; (focus (intro W hSw; have C2 := C2 W hSw; go_simp; (try rfl); done)); (try simp only [Act.put, List.setIfInBounds_toArray, List.set_cons_zero, List.set_cons_succ]))
        | (refine take_in (i := 13) (v := undef) rfl (by kernel_rfl) (by kernel_rfl) (by kernel_rfl) (fun _ _ _ h => h) (Or.inr ⟨by rfl, rfl⟩) (Below.refl _ _) ?_; (try simp only [Act.put, List.setIfInBounds_toArray, List.set_cons_zero, List.set_cons_succ]))
        | (fail "HTAKE 13")
      first
        | (refine take_in (i := 14) (v := ?_) rfl (by kernel_rfl) (by kernel_rfl) (by kernel_rfl) (fun _ _ _ h => h) (Or.inl ⟨by rfl, ?_⟩) (Below.refl _ _) ?_; rotate_left; (focus (intro W hSw; have C2 := C2 W hSw; go_simp; (try rfl); done)); (try simp only [Act.put, List.setIfInBounds_toArray, List.set_cons_zero, List.set_cons_succ]))
        | (refine take_in (i := 14) (v := undef) rfl (by kernel_rfl) (by kernel_rfl) (by kernel_rfl) (fun _ _ _ h => h) (Or.inr ⟨by rfl, rfl⟩) (Below.refl _ _) ?_; (try simp only [Act.put, List.setIfInBounds_toArray, List.set_cons_zero, List.set_cons_succ]))
        | (fail "HTAKE 14")
      first
        | (refine take_in (i := 15) (v := ?_) rfl (by kernel_rfl) (by kernel_rfl) (by kernel_rfl) (fun _ _ _ h => h) (Or.inl ⟨by rfl, ?_⟩) (Below.refl _ _) ?_; rotate_left; (focus (intro W hSw; have C2 := C2 W hSw; go_simp; (try rfl); done)); (try simp only [Act.put, List.setIfInBounds_toArray, List.set_cons_zero, List.set_cons_succ]))
        | (refine take_in (i := 15) (v := undef) rfl (by kernel_rfl) (by kernel_rfl) (by kernel_rfl) (fun _ _ _ h => h) (Or.inr ⟨by rfl, rfl⟩) (Below.refl _ _) ?_; (try simp only [Act.put, List.setIfInBounds_toArray, List.set_cons_zero, List.set_cons_succ]))
        | (fail "HTAKE 15")
      refine call_in (i := 10) rfl (by kernel_rfl) (by kernel_rfl) (fun K hK => ?_)
      go_simp
      refine (len_any y2 b1 B (max room 0) sv5 q1 (HN5.out.below HB8.out)).mono ?_
      rintro e y3 ⟨rfl, rfl⟩
      rw [hm]
      have hbl : ((m : Int) != (m : Int)) = false := bne_self_eq_false _
      refine hK.out _ _ (Below.refl _ _) ?_
      (try simp only [Act.put, List.setIfInBounds_toArray, List.set_cons_zero, List.set_cons_succ])
      first
        | (refine take_in (i := 16) (v := ?_) rfl (by kernel_rfl) (by kernel_rfl) (by kernel_rfl) (fun _ _ _ h => h) (Or.inl ⟨by rfl, ?_⟩) (Below.refl _ _) ?_; rotate_left; (focus (intro W hSw; go_simp; (try rfl); done)); (try simp only [Act.put, List.setIfInBounds_toArray, List.set_cons_zero, List.set_cons_succ]))
        | (refine take_in (i := 16) (v := undef) rfl (by kernel_rfl) (by kernel_rfl) (by kernel_rfl) (fun _ _ _ h => h) (Or.inr ⟨by rfl, rfl⟩) (Below.refl _ _) ?_; (try simp only [Act.put, List.setIfInBounds_toArray, List.set_cons_zero, List.set_cons_succ]))
        | (fail "HTAKE 16")
      first
        | (refine take_in (i := 17) (v := ?_) rfl (by kernel_rfl) (by kernel_rfl) (by kernel_rfl) (fun _ _ _ h => h) (Or.inl ⟨by rfl, ?_⟩) (Below.refl _ _) ?_; rotate_left; (focus (intro W hSw; go_simp; (try rfl); done)); (try simp only [Act.put, List.setIfInBounds_toArray, List.set_cons_zero, List.set_cons_succ]))
        | (refine take_in (i := 17) (v := undef) rfl (by kernel_rfl) (by kernel_rfl) (by kernel_rfl) (fun _ _ _ h => h) (Or.inr ⟨by rfl, rfl⟩) (Below.refl _ _) ?_; (try simp only [Act.put, List.setIfInBounds_toArray, List.set_cons_zero, List.set_cons_succ]))
        | (fail "HTAKE 17")
      first
        | (refine take_in (i := 18) (v := ?_) rfl (by kernel_rfl) (by kernel_rfl) (by kernel_rfl) (fun _ _ _ h => h) (Or.inl ⟨by rfl, ?_⟩) (Below.refl _ _) ?_; rotate_left; (focus (intro W hSw; go_simp; (try rfl); done)); (try simp only [Act.put, List.setIfInBounds_toArray, List.set_cons_zero, List.set_cons_succ]))
        | (refine take_in (i := 18) (v := undef) rfl (by kernel_rfl) (by kernel_rfl) (by kernel_rfl) (fun _ _ _ h => h) (Or.inr ⟨by rfl, rfl⟩) (Below.refl _ _) ?_; (try simp only [Act.put, List.setIfInBounds_toArray, List.set_cons_zero, List.set_cons_succ]))
        | (fail "HTAKE 18")
      first
        | (refine take_in (i := 19) (v := ?_) rfl (by kernel_rfl) (by kernel_rfl) (by kernel_rfl) (fun _ _ _ h => h) (Or.inl ⟨by rfl, ?_⟩) (Below.refl _ _) ?_; rotate_left; (focus (intro W hSw; go_simp; (try rfl); done)); (try simp only [Act.put, List.setIfInBounds_toArray, List.set_cons_zero, List.set_cons_succ]))
        | (refine take_in (i := 19) (v := undef) rfl (by kernel_rfl) (by kernel_rfl) (by kernel_rfl) (fun _ _ _ h => h) (Or.inr ⟨by rfl, rfl⟩) (Below.refl _ _) ?_; (try simp only [Act.put, List.setIfInBounds_toArray, List.set_cons_zero, List.set_cons_succ]))
        | (fail "HTAKE 19")
      first
        | (refine take_in (i := 20) (v := ?_) rfl (by kernel_rfl) (by kernel_rfl) (by kernel_rfl) (fun _ _ _ h => h) (Or.inl ⟨by rfl, ?_⟩) (Below.refl _ _) ?_; rotate_left; (focus (intro W hSw; go_simp; (try rfl); done)); (try simp only [Act.put, List.setIfInBounds_toArray, List.set_cons_zero, List.set_cons_succ]))
        | (refine take_in (i := 20) (v := undef) rfl (by kernel_rfl) (by kernel_rfl) (by kernel_rfl) (fun _ _ _ h => h) (Or.inr ⟨by rfl, rfl⟩) (Below.refl _ _) ?_; (try simp only [Act.put, List.setIfInBounds_toArray, List.set_cons_zero, List.set_cons_succ]))
        | (fail "HTAKE 20")
      first
        | (refine take_in (i := 22) (v := ?_) rfl (by kernel_rfl) (by kernel_rfl) (by kernel_rfl) (fun _ _ _ h => h) (Or.inl ⟨by rfl, ?_⟩) (Below.refl _ _) ?_; rotate_left; (focus (intro W hSw; go_simp; (try rfl); done)); (try simp only [Act.put, List.setIfInBounds_toArray, List.set_cons_zero, List.set_cons_succ]))
        | (refine take_in (i := 22) (v := undef) rfl (by kernel_rfl) (by kernel_rfl) (by kernel_rfl) (fun _ _ _ h => h) (Or.inr ⟨by rfl, rfl⟩) (Below.refl _ _) ?_; (try simp only [Act.put, List.setIfInBounds_toArray, List.set_cons_zero, List.set_cons_succ]))
        | (fail "HTAKE 22")
      first
        | (refine take_in (i := 23) (v := ?_) rfl (by kernel_rfl) (by kernel_rfl) (by kernel_rfl) (fun _ _ _ h => h) (Or.inl ⟨by rfl, ?_⟩) (Below.refl _ _) ?_; rotate_left; (focus (intro W hSw; go_simp; (try rfl); done)); (try simp only [Act.put, List.setIfInBounds_toArray, List.set_cons_zero, List.set_cons_succ]))
        | (refine take_in (i := 23) (v := undef) rfl (by kernel_rfl) (by kernel_rfl) (by kernel_rfl) (fun _ _ _ h => h) (Or.inr ⟨by rfl, rfl⟩) (Below.refl _ _) ?_; (try simp only [Act.put, List.setIfInBounds_toArray, List.set_cons_zero, List.set_cons_succ]))
        | (fail "HTAKE 23")
      refine call_in (i := 21) rfl (by kernel_rfl) (by kernel_rfl) (fun K hK => ?_)
      go_simp
      refine (for_any y2 b1 B (max room 0) sv5 q1 to (HN5.out.below HB8.out) (fun p hp => by have := HS5.out p hp; omega)).mono ?_
      rintro e y4 ⟨rfl, hb9⟩
      have hb10 := HB8.out.trans (hb9.mono HB8.out.size)
      have HB10 := Lib.hid hb10
      obtain ⟨fr, hfr⟩ : ∃ fr, forL q1 to = fr := ⟨_, rfl⟩
      rw [hfr]
      clear hb10
      refine hK.out _ _ hb9 ?_
      (try simp only [Act.put, List.setIfInBounds_toArray, List.set_cons_zero, List.set_cons_succ])
      clear hb9
      refine call_in (i := 24) rfl (by kernel_rfl) (by kernel_rfl) (fun K hK => ?_)
      go_simp
      refine (rfor_any y4 b2 (okX b1 b2 sv5) room _ q1 to (HX5.out.below HB10.out)).mono ?_
      rintro e y5 ⟨rfl, hb11⟩
      have HBz := Lib.hid (HBx.out.below (HB10.out.trans (hb11.mono HB10.out.size)))
      rw [hfr]
      have hbf : (fr != fr) = false := bne_self_eq_false _
      refine hK.out _ _ hb11 ?_
      (try simp only [Act.put, List.setIfInBounds_toArray, List.set_cons_zero, List.set_cons_succ])
      clear hb11 C1 C2
      first
        | (refine take_in (i := 25) (v := ?_) rfl (by kernel_rfl) (by kernel_rfl) (by kernel_rfl) (fun _ _ _ h => h) (Or.inl ⟨by rfl, ?_⟩) (Below.refl _ _) ?_; rotate_left; (focus (intro W hSw; go_simp; (try rfl); done)); (try simp only [Act.put, List.setIfInBounds_toArray, List.set_cons_zero, List.set_cons_succ]))
        | (refine take_in (i := 25) (v := undef) rfl (by kernel_rfl) (by kernel_rfl) (by kernel_rfl) (fun _ _ _ h => h) (Or.inr ⟨by rfl, rfl⟩) (Below.refl _ _) ?_; (try simp only [Act.put, List.setIfInBounds_toArray, List.set_cons_zero, List.set_cons_succ]))
        | (fail "HTAKE 25")
      first
        | (refine take_in (i := 26) (v := ?_) rfl (by kernel_rfl) (by kernel_rfl) (by kernel_rfl) (fun _ _ _ h => h) (Or.inl ⟨by rfl, ?_⟩) (Below.refl _ _) ?_; rotate_left; (focus (intro W hSw; go_simp; (try rfl); done)); (try simp only [Act.put, List.setIfInBounds_toArray, List.set_cons_zero, List.set_cons_succ]))
        | (refine take_in (i := 26) (v := undef) rfl (by kernel_rfl) (by kernel_rfl) (by kernel_rfl) (fun _ _ _ h => h) (Or.inr ⟨by rfl, rfl⟩) (Below.refl _ _) ?_; (try simp only [Act.put, List.setIfInBounds_toArray, List.set_cons_zero, List.set_cons_succ]))
        | (fail "HTAKE 26")
      refine wpAnyH_done (by kernel_rfl) ?_ _
      go_wp2_with fail
      go_roundw
      case measure => simp [intOf]; omega
      case rel => exact ⟨i + 1, q1, by omega, by go_num, by omega, HBz.out⟩
    have hkb1 : (kind == 1) = false := beq_eq_false_iff_ne.2 hk1'
    clear hk1'
    by_cases hk2' : kind = 2
    · have hkb : (kind == 2) = true := beq_iff_eq.2 hk2'
      clear hk2' c1 F1 F2
      go_wp2_with fail
      have hok2 := okx_new HN6.out (b2 := b2) (by have := HS.out; omega)
      refine (rtake_v w6 b2 (okX b1 b2 sv) room xv q num HX6.out hok2 hk2).mono ?_
      rintro e x1 ⟨⟨pt, pf, pd, pA, pc, rfl, hv, hr1⟩, xv1, hX1, hT1⟩
      obtain ⟨bl, hbl⟩ : ∃ bl, (takeV q num).2.1 = bl := ⟨_, rfl⟩
      obtain ⟨x2, hx2⟩ : ∃ x2, x1.alloc (.cells #[.int .i64 pt, .int .i64 pf, .slice pA pd.length pc] 37) = x2 := ⟨_, rfl⟩
      have hb12 : Below x1.heap.size x1 x2 := by rw [← hx2]; exact below_alloc1 x1 _
      have hT2 := hT1.and_below hb12
      have HD1 := Lib.hid (hT2.blk HD6.out (by have := HS.out; have := HZ.out; omega))
      have HN1 := Lib.hid (net_x HN6.out hT2 (by have := HS.out; omega) (by have := HS.out; omega))
      have HX1 := Lib.hid (hX1.below hb12)
      have HT2 := Lib.hid hT2
      rw [hbl]
      have HBL := Lib.hid hbl
      obtain ⟨c0', c1', c2'⟩ := blk3 HD1.out
      clear hr1 hX1 hT1 hv hb12 c0 c2 hbl hok2 hT2
      go_wp2_with fail
      refine (lose_v x2 b1 B (max room 0) sv q num HN1.out hk2).mono ?_
      rintro e x3 ⟨rfl, sv3, hN3, hT3, hv3⟩
      rw [HBL.out]
      have hX3 := xr_net HN1.out HX1.out (by have := HS.out; omega) (by have := HS.out; omega) hT3 hv3
      have hB3 : Below w.heap.size w x3 := by
        have h1 : Below w.heap.size w x2 := HBw.out.trans (HT2.out.below HBw.out.size (fun k _ e => by have := HS.out; omega))
        exact h1.trans (hT3.below h1.size (fun k _ e => by have := HS.out; rcases e with e | e; omega; have := (HN1.out.own_ge e).1; omega))
      have HBn := Lib.hid (show Both w x3 b1 b2 B room (takeV q num).2.2 from ⟨sv3, xv1, hN3, hX3, (sm_takeV HS6.out).1, hB3⟩)
      obtain ⟨q1, hq1⟩ : ∃ q1, (takeV q num).2.2 = q1 := ⟨_, rfl⟩
      have hql1 : q1.length ≤ 10 * (i + 1) := by rw [← hq1]; have := (sm_takeV (i := num) HS6.out).2; omega
      rw [hq1] at HBn
      have hbb : (bl != bl) = false := bne_self_eq_false _
      clear hN3 hT3 hv3 hX3 hB3 hq1 c0' c1' c2' hx2
      go_wp2_with fail
      refine region_in (by kernel_rfl) (fun x1 hx1 => ?_)
      obtain ⟨sv5, xv5, hN5, hX5, hs5, hB5⟩ := HBn.out.below hx1
      obtain ⟨Ax, cx, rfl, hxc, hxm, _, hxr⟩ := hX5.form
      obtain ⟨m, hm⟩ : ∃ m, q1.length = m := ⟨_, rfl⟩
      have hm100 : m ≤ 100000 := by have := hN5.2.2.2.2; omega
      have C1 : ∀ W, Below x1.heap.size x1 W → W.cell? ⟨b2, 1, none⟩ = some (.slice Ax m cx) := fun W hW => by rw [← hm]; exact cell_below hW (blk_at hX5.1 1 _ rfl)
      have HN5 := Lib.hid hN5
      have HX5 := Lib.hid hX5
      have HXR := Lib.hid hxr
      have HS5 := Lib.hid hs5
      have HB5 := Lib.hid hB5
      have HBx := Lib.hid (HBn.out.below hx1)
      clear hx1 hN5 hX5 hs5 hB5 hxr
      first
        | (refine take_in (i := 0) (v := ?_) rfl (by kernel_rfl) (by kernel_rfl) (by kernel_rfl) (fun _ _ _ h => h) (Or.inl ⟨by rfl, ?_⟩) (Below.refl _ _) ?_; rotate_left; (focus (intro W hSw; go_simp; (try rfl); done)); (try simp only [Act.put, List.setIfInBounds_toArray, List.set_cons_zero, List.set_cons_succ]))
        | (refine take_in (i := 0) (v := undef) rfl (by kernel_rfl) (by kernel_rfl) (by kernel_rfl) (fun _ _ _ h => h) (Or.inr ⟨by rfl, rfl⟩) (Below.refl _ _) ?_; (try simp only [Act.put, List.setIfInBounds_toArray, List.set_cons_zero, List.set_cons_succ]))
        | (fail "HTAKE 0")
      first
        | (refine take_in (i := 2) (v := ?_) rfl (by kernel_rfl) (by kernel_rfl) (by kernel_rfl) (fun _ _ _ h => h) (Or.inl ⟨by rfl, ?_⟩) (Below.refl _ _) ?_; rotate_left; (focus (intro W hSw; have C1 := C1 W hSw; go_simp; (try rfl); done)); (try simp only [Act.put, List.setIfInBounds_toArray, List.set_cons_zero, List.set_cons_succ]))
        | (refine take_in (i := 2) (v := undef) rfl (by kernel_rfl) (by kernel_rfl) (by kernel_rfl) (fun _ _ _ h => h) (Or.inr ⟨by rfl, rfl⟩) (Below.refl _ _) ?_; (try simp only [Act.put, List.setIfInBounds_toArray, List.set_cons_zero, List.set_cons_succ]))
        | (fail "HTAKE 2")
      first
        | (refine take_in (i := 3) (v := ?_) rfl (by kernel_rfl) (by kernel_rfl) (by kernel_rfl) (fun _ _ _ h => h) (Or.inl ⟨by rfl, ?_⟩) (Below.refl _ _) ?_; rotate_left; (focus (intro W hSw; have C1 := C1 W hSw; go_simp; (try rfl); done)); (try simp only [Act.put, List.setIfInBounds_toArray, List.set_cons_zero, List.set_cons_succ]))
        | (refine take_in (i := 3) (v := undef) rfl (by kernel_rfl) (by kernel_rfl) (by kernel_rfl) (fun _ _ _ h => h) (Or.inr ⟨by rfl, rfl⟩) (Below.refl _ _) ?_; (try simp only [Act.put, List.setIfInBounds_toArray, List.set_cons_zero, List.set_cons_succ]))
        | (fail "HTAKE 3")
      first
        | (refine take_in (i := 4) (v := ?_) rfl (by kernel_rfl) (by kernel_rfl) (by kernel_rfl) (fun _ _ _ h => h) (Or.inl ⟨by rfl, ?_⟩) (Below.refl _ _) ?_; rotate_left; (focus (intro W hSw; have C1 := C1 W hSw; go_simp; (try rfl); done)); (try simp only [Act.put, List.setIfInBounds_toArray, List.set_cons_zero, List.set_cons_succ]))
        | (refine take_in (i := 4) (v := undef) rfl (by kernel_rfl) (by kernel_rfl) (by kernel_rfl) (fun _ _ _ h => h) (Or.inr ⟨by rfl, rfl⟩) (Below.refl _ _) ?_; (try simp only [Act.put, List.setIfInBounds_toArray, List.set_cons_zero, List.set_cons_succ]))
        | (fail "HTAKE 4")
      first
        | (refine take_in (i := 5) (v := ?_) rfl (by kernel_rfl) (by kernel_rfl) (by kernel_rfl) (fun _ _ _ h => h) (Or.inl ⟨by rfl, ?_⟩) (Below.refl _ _) ?_; rotate_left; (focus (intro W hSw; have C1 := C1 W hSw; go_simp; (try rfl); done)); (try simp only [Act.put, List.setIfInBounds_toArray, List.set_cons_zero, List.set_cons_succ]))
        | (refine take_in (i := 5) (v := undef) rfl (by kernel_rfl) (by kernel_rfl) (by kernel_rfl) (fun _ _ _ h => h) (Or.inr ⟨by rfl, rfl⟩) (Below.refl _ _) ?_; (try simp only [Act.put, List.setIfInBounds_toArray, List.set_cons_zero, List.set_cons_succ]))
        | (fail "HTAKE 5")
      refine call_in (i := 1) rfl (by kernel_rfl) (by kernel_rfl) (fun K hK => ?_)
      go_simp
      refine (all_any x1 b1 B (max room 0) sv5 q1 HN5.out (fun p hp => by have := HS5.out p hp; omega)).mono ?_
      rintro e y1 ⟨A6, c6, rfl, hr6, hb6⟩
      have HR6 := Lib.hid (rd_rows hr6)
      have HB6 := Lib.hid hb6
      rw [hm] at HR6 ⊢
      clear hr6
      refine hK.out _ _ hb6 ?_
      (try simp only [Act.put, List.setIfInBounds_toArray, List.set_cons_zero, List.set_cons_succ])
      clear hb6
      refine call_in (i := 6) rfl (by kernel_rfl) (by kernel_rfl) (fun K hK => ?_)
      go_simp
      refine (same_any y1 _ _ A6 Ax m m c6 cx q1 q1 HR6.out (by rw [← hm]; exact HXR.out.below HB6.out) hm100).mono ?_
      rintro e y2 ⟨bb, rfl, hbb, hb7⟩
      obtain rfl : bb = true := hbb.2 rfl
      have hb8 := HB6.out.trans (hb7.mono HB6.out.size)
      have HB8 := Lib.hid hb8
      have C2 : ∀ W, Below y2.heap.size y2 W → W.cell? ⟨b2, 1, none⟩ = some (.slice Ax m cx) := fun W hW => C1 W (hb8.trans (hW.mono hb8.size))
      clear hbb hb8
      refine hK.out _ _ hb7 ?_
      (try simp only [Act.put, List.setIfInBounds_toArray, List.set_cons_zero, List.set_cons_succ])
      clear hb7
      first
        | (refine take_in (i := 7) (v := ?_) rfl (by kernel_rfl) (by kernel_rfl) (by kernel_rfl) (fun _ _ _ h => h) (Or.inl ⟨by rfl, ?_⟩) (Below.refl _ _) ?_; rotate_left; (focus (intro W hSw; go_simp; (try rfl); done)); (try simp only [Act.put, List.setIfInBounds_toArray, List.set_cons_zero, List.set_cons_succ]))
        | (refine take_in (i := 7) (v := undef) rfl (by kernel_rfl) (by kernel_rfl) (by kernel_rfl) (fun _ _ _ h => h) (Or.inr ⟨by rfl, rfl⟩) (Below.refl _ _) ?_; (try simp only [Act.put, List.setIfInBounds_toArray, List.set_cons_zero, List.set_cons_succ]))
        | (fail "HTAKE 7")
      first
        | (refine take_in (i := 8) (v := ?_) rfl (by kernel_rfl) (by kernel_rfl) (by kernel_rfl) (fun _ _ _ h => h) (Or.inl ⟨by rfl, ?_⟩) (Below.refl _ _) ?_; rotate_left; (focus (intro W hSw; go_simp; (try rfl); done)); (try simp only [Act.put, List.setIfInBounds_toArray, List.set_cons_zero, List.set_cons_succ]))
        | (refine take_in (i := 8) (v := undef) rfl (by kernel_rfl) (by kernel_rfl) (by kernel_rfl) (fun _ _ _ h => h) (Or.inr ⟨by rfl, rfl⟩) (Below.refl _ _) ?_; (try simp only [Act.put, List.setIfInBounds_toArray, List.set_cons_zero, List.set_cons_succ]))
        | (fail "HTAKE 8")
      first
        | (refine take_in (i := 9) (v := ?_) rfl (by kernel_rfl) (by kernel_rfl) (by kernel_rfl) (fun _ _ _ h => h) (Or.inl ⟨by rfl, ?_⟩) (Below.refl _ _) ?_; rotate_left; (focus (intro W hSw; go_simp; (try rfl); done)); (try simp only [Act.put, List.setIfInBounds_toArray, List.set_cons_zero, List.set_cons_succ]))
        | (refine take_in (i := 9) (v := undef) rfl (by kernel_rfl) (by kernel_rfl) (by kernel_rfl) (fun _ _ _ h => h) (Or.inr ⟨by rfl, rfl⟩) (Below.refl _ _) ?_; (try simp only [Act.put, List.setIfInBounds_toArray, List.set_cons_zero, List.set_cons_succ]))
        | (fail "HTAKE 9")
      first
        | (refine take_in (i := 11) (v := ?_) rfl (by kernel_rfl) (by kernel_rfl) (by kernel_rfl) (fun _ _ _ h => h) (Or.inl ⟨by rfl, ?_⟩) (Below.refl _ _) ?_; rotate_left; (focus (intro W hSw; have C2 := C2 W hSw; go_simp; (try rfl); done)); (try simp only [Act.put, List.setIfInBounds_toArray, List.set_cons_zero, List.set_cons_succ]))
        | (refine take_in (i := 11) (v := undef) rfl (by kernel_rfl) (by kernel_rfl) (by kernel_rfl) (fun _ _ _ h => h) (Or.inr ⟨by rfl, rfl⟩) (Below.refl _ _) ?_; (try simp only [Act.put, List.setIfInBounds_toArray, List.set_cons_zero, List.set_cons_succ]))
        | (fail "HTAKE 11")
      first
        | (refine take_in (i := 12) (v := ?_) rfl (by kernel_rfl) (by kernel_rfl) (by kernel_rfl) (fun _ _ _ h => h) (Or.inl ⟨by rfl, ?_⟩) (Below.refl _ _) ?_; rotate_left; (focus (intro W hSw; have C2 := C2 W hSw; go_simp; (try rfl); done)); (try simp only [Act.put, List.setIfInBounds_toArray, List.set_cons_zero, List.set_cons_succ]))
        | (refine take_in (i := 12) (v := undef) rfl (by kernel_rfl) (by kernel_rfl) (by kernel_rfl) (fun _ _ _ h => h) (Or.inr ⟨by rfl, rfl⟩) (Below.refl _ _) ?_; (try simp only [Act.put, List.setIfInBounds_toArray, List.set_cons_zero, List.set_cons_succ]))
        | (fail "HTAKE 12")
      first
        | (refine take_in (i := 13) (v := ?_) rfl (by kernel_rfl) (by kernel_rfl) (by kernel_rfl) (fun _ _ _ h => h) (Or.inl ⟨by rfl, ?_⟩) (Below.refl _ _) ?_; rotate_left; (focus (intro W hSw; have C2 := C2 W hSw; go_simp; (try rfl); done)); (try simp only [Act.put, List.setIfInBounds_toArray, List.set_cons_zero, List.set_cons_succ]))
        | (refine take_in (i := 13) (v := undef) rfl (by kernel_rfl) (by kernel_rfl) (by kernel_rfl) (fun _ _ _ h => h) (Or.inr ⟨by rfl, rfl⟩) (Below.refl _ _) ?_; (try simp only [Act.put, List.setIfInBounds_toArray, List.set_cons_zero, List.set_cons_succ]))
        | (fail "HTAKE 13")
      first
        | (refine take_in (i := 14) (v := ?_) rfl (by kernel_rfl) (by kernel_rfl) (by kernel_rfl) (fun _ _ _ h => h) (Or.inl ⟨by rfl, ?_⟩) (Below.refl _ _) ?_; rotate_left; (focus (intro W hSw; have C2 := C2 W hSw; go_simp; (try rfl); done)); (try simp only [Act.put, List.setIfInBounds_toArray, List.set_cons_zero, List.set_cons_succ]))
        | (refine take_in (i := 14) (v := undef) rfl (by kernel_rfl) (by kernel_rfl) (by kernel_rfl) (fun _ _ _ h => h) (Or.inr ⟨by rfl, rfl⟩) (Below.refl _ _) ?_; (try simp only [Act.put, List.setIfInBounds_toArray, List.set_cons_zero, List.set_cons_succ]))
        | (fail "HTAKE 14")
      first
        | (refine take_in (i := 15) (v := ?_) rfl (by kernel_rfl) (by kernel_rfl) (by kernel_rfl) (fun _ _ _ h => h) (Or.inl ⟨by rfl, ?_⟩) (Below.refl _ _) ?_; rotate_left; (focus (intro W hSw; have C2 := C2 W hSw; go_simp; (try rfl); done)); (try simp only [Act.put, List.setIfInBounds_toArray, List.set_cons_zero, List.set_cons_succ]))
        | (refine take_in (i := 15) (v := undef) rfl (by kernel_rfl) (by kernel_rfl) (by kernel_rfl) (fun _ _ _ h => h) (Or.inr ⟨by rfl, rfl⟩) (Below.refl _ _) ?_; (try simp only [Act.put, List.setIfInBounds_toArray, List.set_cons_zero, List.set_cons_succ]))
        | (fail "HTAKE 15")
      refine call_in (i := 10) rfl (by kernel_rfl) (by kernel_rfl) (fun K hK => ?_)
      go_simp
      refine (len_any y2 b1 B (max room 0) sv5 q1 (HN5.out.below HB8.out)).mono ?_
      rintro e y3 ⟨rfl, rfl⟩
      rw [hm]
      have hbl : ((m : Int) != (m : Int)) = false := bne_self_eq_false _
      refine hK.out _ _ (Below.refl _ _) ?_
      (try simp only [Act.put, List.setIfInBounds_toArray, List.set_cons_zero, List.set_cons_succ])
      first
        | (refine take_in (i := 16) (v := ?_) rfl (by kernel_rfl) (by kernel_rfl) (by kernel_rfl) (fun _ _ _ h => h) (Or.inl ⟨by rfl, ?_⟩) (Below.refl _ _) ?_; rotate_left; (focus (intro W hSw; go_simp; (try rfl); done)); (try simp only [Act.put, List.setIfInBounds_toArray, List.set_cons_zero, List.set_cons_succ]))
        | (refine take_in (i := 16) (v := undef) rfl (by kernel_rfl) (by kernel_rfl) (by kernel_rfl) (fun _ _ _ h => h) (Or.inr ⟨by rfl, rfl⟩) (Below.refl _ _) ?_; (try simp only [Act.put, List.setIfInBounds_toArray, List.set_cons_zero, List.set_cons_succ]))
        | (fail "HTAKE 16")
      first
        | (refine take_in (i := 17) (v := ?_) rfl (by kernel_rfl) (by kernel_rfl) (by kernel_rfl) (fun _ _ _ h => h) (Or.inl ⟨by rfl, ?_⟩) (Below.refl _ _) ?_; rotate_left; (focus (intro W hSw; go_simp; (try rfl); done)); (try simp only [Act.put, List.setIfInBounds_toArray, List.set_cons_zero, List.set_cons_succ]))
        | (refine take_in (i := 17) (v := undef) rfl (by kernel_rfl) (by kernel_rfl) (by kernel_rfl) (fun _ _ _ h => h) (Or.inr ⟨by rfl, rfl⟩) (Below.refl _ _) ?_; (try simp only [Act.put, List.setIfInBounds_toArray, List.set_cons_zero, List.set_cons_succ]))
        | (fail "HTAKE 17")
      first
        | (refine take_in (i := 18) (v := ?_) rfl (by kernel_rfl) (by kernel_rfl) (by kernel_rfl) (fun _ _ _ h => h) (Or.inl ⟨by rfl, ?_⟩) (Below.refl _ _) ?_; rotate_left; (focus (intro W hSw; go_simp; (try rfl); done)); (try simp only [Act.put, List.setIfInBounds_toArray, List.set_cons_zero, List.set_cons_succ]))
        | (refine take_in (i := 18) (v := undef) rfl (by kernel_rfl) (by kernel_rfl) (by kernel_rfl) (fun _ _ _ h => h) (Or.inr ⟨by rfl, rfl⟩) (Below.refl _ _) ?_; (try simp only [Act.put, List.setIfInBounds_toArray, List.set_cons_zero, List.set_cons_succ]))
        | (fail "HTAKE 18")
      first
        | (refine take_in (i := 19) (v := ?_) rfl (by kernel_rfl) (by kernel_rfl) (by kernel_rfl) (fun _ _ _ h => h) (Or.inl ⟨by rfl, ?_⟩) (Below.refl _ _) ?_; rotate_left; (focus (intro W hSw; go_simp; (try rfl); done)); (try simp only [Act.put, List.setIfInBounds_toArray, List.set_cons_zero, List.set_cons_succ]))
        | (refine take_in (i := 19) (v := undef) rfl (by kernel_rfl) (by kernel_rfl) (by kernel_rfl) (fun _ _ _ h => h) (Or.inr ⟨by rfl, rfl⟩) (Below.refl _ _) ?_; (try simp only [Act.put, List.setIfInBounds_toArray, List.set_cons_zero, List.set_cons_succ]))
        | (fail "HTAKE 19")
      first
        | (refine take_in (i := 20) (v := ?_) rfl (by kernel_rfl) (by kernel_rfl) (by kernel_rfl) (fun _ _ _ h => h) (Or.inl ⟨by rfl, ?_⟩) (Below.refl _ _) ?_; rotate_left; (focus (intro W hSw; go_simp; (try rfl); done)); (try simp only [Act.put, List.setIfInBounds_toArray, List.set_cons_zero, List.set_cons_succ]))
        | (refine take_in (i := 20) (v := undef) rfl (by kernel_rfl) (by kernel_rfl) (by kernel_rfl) (fun _ _ _ h => h) (Or.inr ⟨by rfl, rfl⟩) (Below.refl _ _) ?_; (try simp only [Act.put, List.setIfInBounds_toArray, List.set_cons_zero, List.set_cons_succ]))
        | (fail "HTAKE 20")
      first
        | (refine take_in (i := 22) (v := ?_) rfl (by kernel_rfl) (by kernel_rfl) (by kernel_rfl) (fun _ _ _ h => h) (Or.inl ⟨by rfl, ?_⟩) (Below.refl _ _) ?_; rotate_left; (focus (intro W hSw; go_simp; (try rfl); done)); (try simp only [Act.put, List.setIfInBounds_toArray, List.set_cons_zero, List.set_cons_succ]))
        | (refine take_in (i := 22) (v := undef) rfl (by kernel_rfl) (by kernel_rfl) (by kernel_rfl) (fun _ _ _ h => h) (Or.inr ⟨by rfl, rfl⟩) (Below.refl _ _) ?_; (try simp only [Act.put, List.setIfInBounds_toArray, List.set_cons_zero, List.set_cons_succ]))
        | (fail "HTAKE 22")
      first
        | (refine take_in (i := 23) (v := ?_) rfl (by kernel_rfl) (by kernel_rfl) (by kernel_rfl) (fun _ _ _ h => h) (Or.inl ⟨by rfl, ?_⟩) (Below.refl _ _) ?_; rotate_left; (focus (intro W hSw; go_simp; (try rfl); done)); (try simp only [Act.put, List.setIfInBounds_toArray, List.set_cons_zero, List.set_cons_succ]))
        | (refine take_in (i := 23) (v := undef) rfl (by kernel_rfl) (by kernel_rfl) (by kernel_rfl) (fun _ _ _ h => h) (Or.inr ⟨by rfl, rfl⟩) (Below.refl _ _) ?_; (try simp only [Act.put, List.setIfInBounds_toArray, List.set_cons_zero, List.set_cons_succ]))
        | (fail "HTAKE 23")
      refine call_in (i := 21) rfl (by kernel_rfl) (by kernel_rfl) (fun K hK => ?_)
      go_simp
      refine (for_any y2 b1 B (max room 0) sv5 q1 to (HN5.out.below HB8.out) (fun p hp => by have := HS5.out p hp; omega)).mono ?_
      rintro e y4 ⟨rfl, hb9⟩
      have hb10 := HB8.out.trans (hb9.mono HB8.out.size)
      have HB10 := Lib.hid hb10
      obtain ⟨fr, hfr⟩ : ∃ fr, forL q1 to = fr := ⟨_, rfl⟩
      rw [hfr]
      clear hb10
      refine hK.out _ _ hb9 ?_
      (try simp only [Act.put, List.setIfInBounds_toArray, List.set_cons_zero, List.set_cons_succ])
      clear hb9
      refine call_in (i := 24) rfl (by kernel_rfl) (by kernel_rfl) (fun K hK => ?_)
      go_simp
      refine (rfor_any y4 b2 (okX b1 b2 sv5) room _ q1 to (HX5.out.below HB10.out)).mono ?_
      rintro e y5 ⟨rfl, hb11⟩
      have HBz := Lib.hid (HBx.out.below (HB10.out.trans (hb11.mono HB10.out.size)))
      rw [hfr]
      have hbf : (fr != fr) = false := bne_self_eq_false _
      refine hK.out _ _ hb11 ?_
      (try simp only [Act.put, List.setIfInBounds_toArray, List.set_cons_zero, List.set_cons_succ])
      clear hb11 C1 C2
      first
        | (refine take_in (i := 25) (v := ?_) rfl (by kernel_rfl) (by kernel_rfl) (by kernel_rfl) (fun _ _ _ h => h) (Or.inl ⟨by rfl, ?_⟩) (Below.refl _ _) ?_; rotate_left; (focus (intro W hSw; go_simp; (try rfl); done)); (try simp only [Act.put, List.setIfInBounds_toArray, List.set_cons_zero, List.set_cons_succ]))
        | (refine take_in (i := 25) (v := undef) rfl (by kernel_rfl) (by kernel_rfl) (by kernel_rfl) (fun _ _ _ h => h) (Or.inr ⟨by rfl, rfl⟩) (Below.refl _ _) ?_; (try simp only [Act.put, List.setIfInBounds_toArray, List.set_cons_zero, List.set_cons_succ]))
        | (fail "HTAKE 25")
      first
        | (refine take_in (i := 26) (v := ?_) rfl (by kernel_rfl) (by kernel_rfl) (by kernel_rfl) (fun _ _ _ h => h) (Or.inl ⟨by rfl, ?_⟩) (Below.refl _ _) ?_; rotate_left; (focus (intro W hSw; go_simp; (try rfl); done)); (try simp only [Act.put, List.setIfInBounds_toArray, List.set_cons_zero, List.set_cons_succ]))
        | (refine take_in (i := 26) (v := undef) rfl (by kernel_rfl) (by kernel_rfl) (by kernel_rfl) (fun _ _ _ h => h) (Or.inr ⟨by rfl, rfl⟩) (Below.refl _ _) ?_; (try simp only [Act.put, List.setIfInBounds_toArray, List.set_cons_zero, List.set_cons_succ]))
        | (fail "HTAKE 26")
      refine wpAnyH_done (by kernel_rfl) ?_ _
      go_wp2_with fail
      go_roundw
      case measure => simp [intOf]; omega
      case rel => exact ⟨i + 1, q1, by omega, by go_num, by omega, HBz.out⟩
    have hkb2 : (kind == 2) = false := beq_eq_false_iff_ne.2 hk2'
    clear hk2' c1 F1
    go_wp2_with fail
    refine wp_region_held_drew (S := fun W : World => W.heap[kd]? = some (.cells #[Value.int .i64 kind, Value.slice dA dl.length dc, Value.int .i64 num] 31 (0, 0))) (by kernel_rfl) (show w6.drew.heap[kd]? = _ from HD6.out) (fun hHeld => ?_)
    have hb60 := since_drew w6
    obtain ⟨x0, hx0⟩ : ∃ x0, w6.drew = x0 := ⟨_, rfl⟩
    rw [hx0] at hHeld hb60 ⊢
    have HB60 := Lib.hid hb60
    have HN0 := Lib.hid (HN6.out.below hb60)
    have HX0 := Lib.hid (HX6.out.below hb60)
    have HB0 := Lib.hid (HBw.out.trans (hb60.mono HBw.out.size))
    clear hx0 hb60 c0 c2
    first
      | (refine take_in (i := 0) (v := ?_) rfl (by kernel_rfl) (by kernel_rfl) (by kernel_rfl) (fun _ _ _ h => h) (Or.inl ⟨by rfl, ?_⟩) hHeld ?_; rotate_left; (focus (intro W hSw; go_simp; (try rfl); done)); (try simp only [Act.put, List.setIfInBounds_toArray, List.set_cons_zero, List.set_cons_succ]))
      | (refine take_in (i := 0) (v := undef) rfl (by kernel_rfl) (by kernel_rfl) (by kernel_rfl) (fun _ _ _ h => h) (Or.inr ⟨by rfl, rfl⟩) hHeld ?_; (try simp only [Act.put, List.setIfInBounds_toArray, List.set_cons_zero, List.set_cons_succ]))
      | (fail "STAKE 0")
    first
      | (refine take_in (i := 1) (v := ?_) rfl (by kernel_rfl) (by kernel_rfl) (by kernel_rfl) (fun _ _ _ h => h) (Or.inl ⟨by rfl, ?_⟩) hHeld ?_; rotate_left; (focus (intro W hSw; have F2 := F2 W hSw; go_simp; (try rfl); done)); (try simp only [Act.put, List.setIfInBounds_toArray, List.set_cons_zero, List.set_cons_succ]))
      | (refine take_in (i := 1) (v := undef) rfl (by kernel_rfl) (by kernel_rfl) (by kernel_rfl) (fun _ _ _ h => h) (Or.inr ⟨by rfl, rfl⟩) hHeld ?_; (try simp only [Act.put, List.setIfInBounds_toArray, List.set_cons_zero, List.set_cons_succ]))
      | (fail "STAKE 1")
    first
      | (refine take_in (i := 2) (v := ?_) rfl (by kernel_rfl) (by kernel_rfl) (by kernel_rfl) (fun _ _ _ h => h) (Or.inl ⟨by rfl, ?_⟩) hHeld ?_; rotate_left; (focus (intro W hSw; have F2 := F2 W hSw; go_simp; (try rfl); done)); (try simp only [Act.put, List.setIfInBounds_toArray, List.set_cons_zero, List.set_cons_succ]))
      | (refine take_in (i := 2) (v := undef) rfl (by kernel_rfl) (by kernel_rfl) (by kernel_rfl) (fun _ _ _ h => h) (Or.inr ⟨by rfl, rfl⟩) hHeld ?_; (try simp only [Act.put, List.setIfInBounds_toArray, List.set_cons_zero, List.set_cons_succ]))
      | (fail "STAKE 2")
    first
      | (refine take_in (i := 4) (v := ?_) rfl (by kernel_rfl) (by kernel_rfl) (by kernel_rfl) (fun _ _ _ h => h) (Or.inl ⟨by rfl, ?_⟩) hHeld ?_; rotate_left; (focus (intro W hSw; have F2 := F2 W hSw; go_simp; (try rfl); done)); (try simp only [Act.put, List.setIfInBounds_toArray, List.set_cons_zero, List.set_cons_succ]))
      | (refine take_in (i := 4) (v := undef) rfl (by kernel_rfl) (by kernel_rfl) (by kernel_rfl) (fun _ _ _ h => h) (Or.inr ⟨by rfl, rfl⟩) hHeld ?_; (try simp only [Act.put, List.setIfInBounds_toArray, List.set_cons_zero, List.set_cons_succ]))
      | (fail "STAKE 4")
    first
      | (refine take_in (i := 5) (v := ?_) rfl (by kernel_rfl) (by kernel_rfl) (by kernel_rfl) (fun _ _ _ h => h) (Or.inl ⟨by rfl, ?_⟩) hHeld ?_; rotate_left; (focus (intro W hSw; have F2 := F2 W hSw; go_simp; (try rfl); done)); (try simp only [Act.put, List.setIfInBounds_toArray, List.set_cons_zero, List.set_cons_succ]))
      | (refine take_in (i := 5) (v := undef) rfl (by kernel_rfl) (by kernel_rfl) (by kernel_rfl) (fun _ _ _ h => h) (Or.inr ⟨by rfl, rfl⟩) hHeld ?_; (try simp only [Act.put, List.setIfInBounds_toArray, List.set_cons_zero, List.set_cons_succ]))
      | (fail "STAKE 5")
    first
      | (refine take_in (i := 6) (v := ?_) rfl (by kernel_rfl) (by kernel_rfl) (by kernel_rfl) (fun _ _ _ h => h) (Or.inl ⟨by rfl, ?_⟩) hHeld ?_; rotate_left; (focus (intro W hSw; have F2 := F2 W hSw; go_simp; (try rfl); done)); (try simp only [Act.put, List.setIfInBounds_toArray, List.set_cons_zero, List.set_cons_succ]))
      | (refine take_in (i := 6) (v := undef) rfl (by kernel_rfl) (by kernel_rfl) (by kernel_rfl) (fun _ _ _ h => h) (Or.inr ⟨by rfl, rfl⟩) hHeld ?_; (try simp only [Act.put, List.setIfInBounds_toArray, List.set_cons_zero, List.set_cons_succ]))
      | (fail "STAKE 6")
    have H0 := Lib.hid hHeld
    refine call_inS (i := 3) rfl (by kernel_rfl) (by kernel_rfl) (fun K hK => ?_)
    clear hHeld
    go_simp
    refine (double_any x0 b1 B (max room 0) sv q num HN0.out hk2 (fun p hp => by have := HS6.out p hp; omega) (by omega)).mono ?_
    rintro e x1 ⟨rfl, sv1, hN1, hT1, hv1⟩
    rw [doubleL_max] at hN1 ⊢
    have H1 := Lib.hid (hT1.blk H0.out HPN.out)
    have HN1 := Lib.hid hN1
    have HT1 := Lib.hid hT1
    have HV1 := Lib.hid hv1
    clear hN1 hT1 hv1
    have hHeld := H1.out
    refine hK.out (fun W : World => W.heap[kd]? = some (.cells #[Value.int .i64 kind, Value.slice dA dl.length dc, Value.int .i64 num] 31 (0, 0))) _ _ hHeld (fun _ h => h) ?_
    (try simp only [Act.put, List.setIfInBounds_toArray, List.set_cons_zero, List.set_cons_succ])
    refine call_inS (i := 7) rfl (by kernel_rfl) (by kernel_rfl) (fun K hK => ?_)
    clear hHeld
    go_simp
    have hX1 := xr_net HN0.out HX0.out (by have := HS.out; omega) (by have := HS.out; omega) HT1.out HV1.out
    have hok1 := okx_new HN1.out (b2 := b2) (by have := HS.out; omega)
    refine (rdouble_any x1 b2 (okX b1 b2 sv1) room xv q num hX1 hok1 hk2 (by omega)).mono ?_
    rintro e x2 ⟨rfl, xv2, hX2, hT2⟩
    have H2 := Lib.hid (hT2.blk H1.out (by have := HS.out; have := HZ.out; omega))
    obtain ⟨m2, hm2⟩ : ∃ m2, (doubleL room q num).2 = m2 := ⟨_, rfl⟩
    rw [hm2]
    have hbm : (m2 != m2) = false := bne_self_eq_false _
    have hN1 := HN1.out
    have hT1 := HT1.out
    have HBn := Lib.hid (both_two (w := w) HN0.out (by have := HS.out; omega) (by have := HS.out; omega) HS.out.1 (by have := HS.out; omega) HB0.out hN1 hT1 hX2 hT2 (sm_double HS6.out).1)
    obtain ⟨q1, hq1⟩ : ∃ q1, (doubleL room q num).1 = q1 := ⟨_, rfl⟩
    have hql1 : q1.length ≤ 10 * (i + 1) := by rw [← hq1]; have := (sm_double (room := room) (i := num) HS6.out).2; omega
    rw [hq1] at HBn
    clear hN1 hT1 hX2 hT2 hX1 hok1 hm2 hq1
    have hHeld := H2.out
    refine hK.out (fun W : World => W.heap[kd]? = some (.cells #[Value.int .i64 kind, Value.slice dA dl.length dc, Value.int .i64 num] 31 (0, 0))) _ _ hHeld (fun _ h => h) ?_
    (try simp only [Act.put, List.setIfInBounds_toArray, List.set_cons_zero, List.set_cons_succ])
    first
      | (refine take_in (i := 8) (v := ?_) rfl (by kernel_rfl) (by kernel_rfl) (by kernel_rfl) (fun _ _ _ h => h) (Or.inl ⟨by rfl, ?_⟩) hHeld ?_; rotate_left; (focus (intro W hSw; go_simp; (try rfl); done)); (try simp only [Act.put, List.setIfInBounds_toArray, List.set_cons_zero, List.set_cons_succ]))
      | (refine take_in (i := 8) (v := undef) rfl (by kernel_rfl) (by kernel_rfl) (by kernel_rfl) (fun _ _ _ h => h) (Or.inr ⟨by rfl, rfl⟩) hHeld ?_; (try simp only [Act.put, List.setIfInBounds_toArray, List.set_cons_zero, List.set_cons_succ]))
      | (fail "STAKE 8")
    refine wpAnyH_done (by kernel_rfl) ?_ _
    go_wp2_with fail
    refine region_in (by kernel_rfl) (fun x1 hx1 => ?_)
    obtain ⟨sv5, xv5, hN5, hX5, hs5, hB5⟩ := HBn.out.below hx1
    obtain ⟨Ax, cx, rfl, hxc, hxm, _, hxr⟩ := hX5.form
    obtain ⟨m, hm⟩ : ∃ m, q1.length = m := ⟨_, rfl⟩
    have hm100 : m ≤ 100000 := by have := hN5.2.2.2.2; omega
    have C1 : ∀ W, Below x1.heap.size x1 W → W.cell? ⟨b2, 1, none⟩ = some (.slice Ax m cx) := fun W hW => by rw [← hm]; exact cell_below hW (blk_at hX5.1 1 _ rfl)
    have HN5 := Lib.hid hN5
    have HX5 := Lib.hid hX5
    have HXR := Lib.hid hxr
    have HS5 := Lib.hid hs5
    have HB5 := Lib.hid hB5
    have HBx := Lib.hid (HBn.out.below hx1)
    clear hx1 hN5 hX5 hs5 hB5 hxr
    first
      | (refine take_in (i := 0) (v := ?_) rfl (by kernel_rfl) (by kernel_rfl) (by kernel_rfl) (fun _ _ _ h => h) (Or.inl ⟨by rfl, ?_⟩) (Below.refl _ _) ?_; rotate_left; (focus (intro W hSw; go_simp; (try rfl); done)); (try simp only [Act.put, List.setIfInBounds_toArray, List.set_cons_zero, List.set_cons_succ]))
      | (refine take_in (i := 0) (v := undef) rfl (by kernel_rfl) (by kernel_rfl) (by kernel_rfl) (fun _ _ _ h => h) (Or.inr ⟨by rfl, rfl⟩) (Below.refl _ _) ?_; (try simp only [Act.put, List.setIfInBounds_toArray, List.set_cons_zero, List.set_cons_succ]))
      | (fail "HTAKE 0")
    first
      | (refine take_in (i := 2) (v := ?_) rfl (by kernel_rfl) (by kernel_rfl) (by kernel_rfl) (fun _ _ _ h => h) (Or.inl ⟨by rfl, ?_⟩) (Below.refl _ _) ?_; rotate_left; (focus (intro W hSw; have C1 := C1 W hSw; go_simp; (try rfl); done)); (try simp only [Act.put, List.setIfInBounds_toArray, List.set_cons_zero, List.set_cons_succ]))
      | (refine take_in (i := 2) (v := undef) rfl (by kernel_rfl) (by kernel_rfl) (by kernel_rfl) (fun _ _ _ h => h) (Or.inr ⟨by rfl, rfl⟩) (Below.refl _ _) ?_; (try simp only [Act.put, List.setIfInBounds_toArray, List.set_cons_zero, List.set_cons_succ]))
      | (fail "HTAKE 2")
    first
      | (refine take_in (i := 3) (v := ?_) rfl (by kernel_rfl) (by kernel_rfl) (by kernel_rfl) (fun _ _ _ h => h) (Or.inl ⟨by rfl, ?_⟩) (Below.refl _ _) ?_; rotate_left; (focus (intro W hSw; have C1 := C1 W hSw; go_simp; (try rfl); done)); (try simp only [Act.put, List.setIfInBounds_toArray, List.set_cons_zero, List.set_cons_succ]))
      | (refine take_in (i := 3) (v := undef) rfl (by kernel_rfl) (by kernel_rfl) (by kernel_rfl) (fun _ _ _ h => h) (Or.inr ⟨by rfl, rfl⟩) (Below.refl _ _) ?_; (try simp only [Act.put, List.setIfInBounds_toArray, List.set_cons_zero, List.set_cons_succ]))
      | (fail "HTAKE 3")
    first
      | (refine take_in (i := 4) (v := ?_) rfl (by kernel_rfl) (by kernel_rfl) (by kernel_rfl) (fun _ _ _ h => h) (Or.inl ⟨by rfl, ?_⟩) (Below.refl _ _) ?_; rotate_left; (focus (intro W hSw; have C1 := C1 W hSw; go_simp; (try rfl); done)); (try simp only [Act.put, List.setIfInBounds_toArray, List.set_cons_zero, List.set_cons_succ]))
      | (refine take_in (i := 4) (v := undef) rfl (by kernel_rfl) (by kernel_rfl) (by kernel_rfl) (fun _ _ _ h => h) (Or.inr ⟨by rfl, rfl⟩) (Below.refl _ _) ?_; (try simp only [Act.put, List.setIfInBounds_toArray, List.set_cons_zero, List.set_cons_succ]))
      | (fail "HTAKE 4")
    first
      | (refine take_in (i := 5) (v := ?_) rfl (by kernel_rfl) (by kernel_rfl) (by kernel_rfl) (fun _ _ _ h => h) (Or.inl ⟨by rfl, ?_⟩) (Below.refl _ _) ?_; rotate_left; (focus (intro W hSw; have C1 := C1 W hSw; go_simp; (try rfl); done)); (try simp only [Act.put, List.setIfInBounds_toArray, List.set_cons_zero, List.set_cons_succ]))
      | (refine take_in (i := 5) (v := undef) rfl (by kernel_rfl) (by kernel_rfl) (by kernel_rfl) (fun _ _ _ h => h) (Or.inr ⟨by rfl, rfl⟩) (Below.refl _ _) ?_; (try simp only [Act.put, List.setIfInBounds_toArray, List.set_cons_zero, List.set_cons_succ]))
      | (fail "HTAKE 5")
    refine call_in (i := 1) rfl (by kernel_rfl) (by kernel_rfl) (fun K hK => ?_)
    go_simp
    refine (all_any x1 b1 B (max room 0) sv5 q1 HN5.out (fun p hp => by have := HS5.out p hp; omega)).mono ?_
    rintro e y1 ⟨A6, c6, rfl, hr6, hb6⟩
    have HR6 := Lib.hid (rd_rows hr6)
    have HB6 := Lib.hid hb6
    rw [hm] at HR6 ⊢
    clear hr6
    refine hK.out _ _ hb6 ?_
    (try simp only [Act.put, List.setIfInBounds_toArray, List.set_cons_zero, List.set_cons_succ])
    clear hb6
    refine call_in (i := 6) rfl (by kernel_rfl) (by kernel_rfl) (fun K hK => ?_)
    go_simp
    refine (same_any y1 _ _ A6 Ax m m c6 cx q1 q1 HR6.out (by rw [← hm]; exact HXR.out.below HB6.out) hm100).mono ?_
    rintro e y2 ⟨bb, rfl, hbb, hb7⟩
    obtain rfl : bb = true := hbb.2 rfl
    have hb8 := HB6.out.trans (hb7.mono HB6.out.size)
    have HB8 := Lib.hid hb8
    have C2 : ∀ W, Below y2.heap.size y2 W → W.cell? ⟨b2, 1, none⟩ = some (.slice Ax m cx) := fun W hW => C1 W (hb8.trans (hW.mono hb8.size))
    clear hbb hb8
    refine hK.out _ _ hb7 ?_
    (try simp only [Act.put, List.setIfInBounds_toArray, List.set_cons_zero, List.set_cons_succ])
    clear hb7
    first
      | (refine take_in (i := 7) (v := ?_) rfl (by kernel_rfl) (by kernel_rfl) (by kernel_rfl) (fun _ _ _ h => h) (Or.inl ⟨by rfl, ?_⟩) (Below.refl _ _) ?_; rotate_left; (focus (intro W hSw; go_simp; (try rfl); done)); (try simp only [Act.put, List.setIfInBounds_toArray, List.set_cons_zero, List.set_cons_succ]))
      | (refine take_in (i := 7) (v := undef) rfl (by kernel_rfl) (by kernel_rfl) (by kernel_rfl) (fun _ _ _ h => h) (Or.inr ⟨by rfl, rfl⟩) (Below.refl _ _) ?_; (try simp only [Act.put, List.setIfInBounds_toArray, List.set_cons_zero, List.set_cons_succ]))
      | (fail "HTAKE 7")
    first
      | (refine take_in (i := 8) (v := ?_) rfl (by kernel_rfl) (by kernel_rfl) (by kernel_rfl) (fun _ _ _ h => h) (Or.inl ⟨by rfl, ?_⟩) (Below.refl _ _) ?_; rotate_left; (focus (intro W hSw; go_simp; (try rfl); done)); (try simp only [Act.put, List.setIfInBounds_toArray, List.set_cons_zero, List.set_cons_succ]))
      | (refine take_in (i := 8) (v := undef) rfl (by kernel_rfl) (by kernel_rfl) (by kernel_rfl) (fun _ _ _ h => h) (Or.inr ⟨by rfl, rfl⟩) (Below.refl _ _) ?_; (try simp only [Act.put, List.setIfInBounds_toArray, List.set_cons_zero, List.set_cons_succ]))
      | (fail "HTAKE 8")
    first
      | (refine take_in (i := 9) (v := ?_) rfl (by kernel_rfl) (by kernel_rfl) (by kernel_rfl) (fun _ _ _ h => h) (Or.inl ⟨by rfl, ?_⟩) (Below.refl _ _) ?_; rotate_left; (focus (intro W hSw; go_simp; (try rfl); done)); (try simp only [Act.put, List.setIfInBounds_toArray, List.set_cons_zero, List.set_cons_succ]))
      | (refine take_in (i := 9) (v := undef) rfl (by kernel_rfl) (by kernel_rfl) (by kernel_rfl) (fun _ _ _ h => h) (Or.inr ⟨by rfl, rfl⟩) (Below.refl _ _) ?_; (try simp only [Act.put, List.setIfInBounds_toArray, List.set_cons_zero, List.set_cons_succ]))
      | (fail "HTAKE 9")
    first
      | (refine take_in (i := 11) (v := ?_) rfl (by kernel_rfl) (by kernel_rfl) (by kernel_rfl) (fun _ _ _ h => h) (Or.inl ⟨by rfl, ?_⟩) (Below.refl _ _) ?_; rotate_left; (focus (intro W hSw; have C2 := C2 W hSw; go_simp; (try rfl); done)); (try simp only [Act.put, List.setIfInBounds_toArray, List.set_cons_zero, List.set_cons_succ]))
      | (refine take_in (i := 11) (v := undef) rfl (by kernel_rfl) (by kernel_rfl) (by kernel_rfl) (fun _ _ _ h => h) (Or.inr ⟨by rfl, rfl⟩) (Below.refl _ _) ?_; (try simp only [Act.put, List.setIfInBounds_toArray, List.set_cons_zero, List.set_cons_succ]))
      | (fail "HTAKE 11")
    first
      | (refine take_in (i := 12) (v := ?_) rfl (by kernel_rfl) (by kernel_rfl) (by kernel_rfl) (fun _ _ _ h => h) (Or.inl ⟨by rfl, ?_⟩) (Below.refl _ _) ?_; rotate_left; (focus (intro W hSw; have C2 := C2 W hSw; go_simp; (try rfl); done)); (try simp only [Act.put, List.setIfInBounds_toArray, List.set_cons_zero, List.set_cons_succ]))
      | (refine take_in (i := 12) (v := undef) rfl (by kernel_rfl) (by kernel_rfl) (by kernel_rfl) (fun _ _ _ h => h) (Or.inr ⟨by rfl, rfl⟩) (Below.refl _ _) ?_; (try simp only [Act.put, List.setIfInBounds_toArray, List.set_cons_zero, List.set_cons_succ]))
      | (fail "HTAKE 12")
    first
      | (refine take_in (i := 13) (v := ?_) rfl (by kernel_rfl) (by kernel_rfl) (by kernel_rfl) (fun _ _ _ h => h) (Or.inl ⟨by rfl, ?_⟩) (Below.refl _ _) ?_; rotate_left; (focus (intro W hSw; have C2 := C2 W hSw; go_simp; (try rfl); done)); (try simp only [Act.put, List.setIfInBounds_toArray, List.set_cons_zero, List.set_cons_succ]))
      | (refine take_in (i := 13) (v := undef) rfl (by kernel_rfl) (by kernel_rfl) (by kernel_rfl) (fun _ _ _ h => h) (Or.inr ⟨by rfl, rfl⟩) (Below.refl _ _) ?_; (try simp only [Act.put, List.setIfInBounds_toArray, List.set_cons_zero, List.set_cons_succ]))
      | (fail "HTAKE 13")
    first
      | (refine take_in (i := 14) (v := ?_) rfl (by kernel_rfl) (by kernel_rfl) (by kernel_rfl) (fun _ _ _ h => h) (Or.inl ⟨by rfl, ?_⟩) (Below.refl _ _) ?_; rotate_left; (focus (intro W hSw; have C2 := C2 W hSw; go_simp; (try rfl); done)); (try simp only [Act.put, List.setIfInBounds_toArray, List.set_cons_zero, List.set_cons_succ]))
      | (refine take_in (i := 14) (v := undef) rfl (by kernel_rfl) (by kernel_rfl) (by kernel_rfl) (fun _ _ _ h => h) (Or.inr ⟨by rfl, rfl⟩) (Below.refl _ _) ?_; (try simp only [Act.put, List.setIfInBounds_toArray, List.set_cons_zero, List.set_cons_succ]))
      | (fail "HTAKE 14")
    first
      | (refine take_in (i := 15) (v := ?_) rfl (by kernel_rfl) (by kernel_rfl) (by kernel_rfl) (fun _ _ _ h => h) (Or.inl ⟨by rfl, ?_⟩) (Below.refl _ _) ?_; rotate_left; (focus (intro W hSw; have C2 := C2 W hSw; go_simp; (try rfl); done)); (try simp only [Act.put, List.setIfInBounds_toArray, List.set_cons_zero, List.set_cons_succ]))
      | (refine take_in (i := 15) (v := undef) rfl (by kernel_rfl) (by kernel_rfl) (by kernel_rfl) (fun _ _ _ h => h) (Or.inr ⟨by rfl, rfl⟩) (Below.refl _ _) ?_; (try simp only [Act.put, List.setIfInBounds_toArray, List.set_cons_zero, List.set_cons_succ]))
      | (fail "HTAKE 15")
    refine call_in (i := 10) rfl (by kernel_rfl) (by kernel_rfl) (fun K hK => ?_)
    go_simp
    refine (len_any y2 b1 B (max room 0) sv5 q1 (HN5.out.below HB8.out)).mono ?_
    rintro e y3 ⟨rfl, rfl⟩
    rw [hm]
    have hbl : ((m : Int) != (m : Int)) = false := bne_self_eq_false _
    refine hK.out _ _ (Below.refl _ _) ?_
    (try simp only [Act.put, List.setIfInBounds_toArray, List.set_cons_zero, List.set_cons_succ])
    first
      | (refine take_in (i := 16) (v := ?_) rfl (by kernel_rfl) (by kernel_rfl) (by kernel_rfl) (fun _ _ _ h => h) (Or.inl ⟨by rfl, ?_⟩) (Below.refl _ _) ?_; rotate_left; (focus (intro W hSw; go_simp; (try rfl); done)); (try simp only [Act.put, List.setIfInBounds_toArray, List.set_cons_zero, List.set_cons_succ]))
      | (refine take_in (i := 16) (v := undef) rfl (by kernel_rfl) (by kernel_rfl) (by kernel_rfl) (fun _ _ _ h => h) (Or.inr ⟨by rfl, rfl⟩) (Below.refl _ _) ?_; (try simp only [Act.put, List.setIfInBounds_toArray, List.set_cons_zero, List.set_cons_succ]))
      | (fail "HTAKE 16")
    first
      | (refine take_in (i := 17) (v := ?_) rfl (by kernel_rfl) (by kernel_rfl) (by kernel_rfl) (fun _ _ _ h => h) (Or.inl ⟨by rfl, ?_⟩) (Below.refl _ _) ?_; rotate_left; (focus (intro W hSw; go_simp; (try rfl); done)); (try simp only [Act.put, List.setIfInBounds_toArray, List.set_cons_zero, List.set_cons_succ]))
      | (refine take_in (i := 17) (v := undef) rfl (by kernel_rfl) (by kernel_rfl) (by kernel_rfl) (fun _ _ _ h => h) (Or.inr ⟨by rfl, rfl⟩) (Below.refl _ _) ?_; (try simp only [Act.put, List.setIfInBounds_toArray, List.set_cons_zero, List.set_cons_succ]))
      | (fail "HTAKE 17")
    first
      | (refine take_in (i := 18) (v := ?_) rfl (by kernel_rfl) (by kernel_rfl) (by kernel_rfl) (fun _ _ _ h => h) (Or.inl ⟨by rfl, ?_⟩) (Below.refl _ _) ?_; rotate_left; (focus (intro W hSw; go_simp; (try rfl); done)); (try simp only [Act.put, List.setIfInBounds_toArray, List.set_cons_zero, List.set_cons_succ]))
      | (refine take_in (i := 18) (v := undef) rfl (by kernel_rfl) (by kernel_rfl) (by kernel_rfl) (fun _ _ _ h => h) (Or.inr ⟨by rfl, rfl⟩) (Below.refl _ _) ?_; (try simp only [Act.put, List.setIfInBounds_toArray, List.set_cons_zero, List.set_cons_succ]))
      | (fail "HTAKE 18")
    first
      | (refine take_in (i := 19) (v := ?_) rfl (by kernel_rfl) (by kernel_rfl) (by kernel_rfl) (fun _ _ _ h => h) (Or.inl ⟨by rfl, ?_⟩) (Below.refl _ _) ?_; rotate_left; (focus (intro W hSw; go_simp; (try rfl); done)); (try simp only [Act.put, List.setIfInBounds_toArray, List.set_cons_zero, List.set_cons_succ]))
      | (refine take_in (i := 19) (v := undef) rfl (by kernel_rfl) (by kernel_rfl) (by kernel_rfl) (fun _ _ _ h => h) (Or.inr ⟨by rfl, rfl⟩) (Below.refl _ _) ?_; (try simp only [Act.put, List.setIfInBounds_toArray, List.set_cons_zero, List.set_cons_succ]))
      | (fail "HTAKE 19")
    first
      | (refine take_in (i := 20) (v := ?_) rfl (by kernel_rfl) (by kernel_rfl) (by kernel_rfl) (fun _ _ _ h => h) (Or.inl ⟨by rfl, ?_⟩) (Below.refl _ _) ?_; rotate_left; (focus (intro W hSw; go_simp; (try rfl); done)); (try simp only [Act.put, List.setIfInBounds_toArray, List.set_cons_zero, List.set_cons_succ]))
      | (refine take_in (i := 20) (v := undef) rfl (by kernel_rfl) (by kernel_rfl) (by kernel_rfl) (fun _ _ _ h => h) (Or.inr ⟨by rfl, rfl⟩) (Below.refl _ _) ?_; (try simp only [Act.put, List.setIfInBounds_toArray, List.set_cons_zero, List.set_cons_succ]))
      | (fail "HTAKE 20")
    first
      | (refine take_in (i := 22) (v := ?_) rfl (by kernel_rfl) (by kernel_rfl) (by kernel_rfl) (fun _ _ _ h => h) (Or.inl ⟨by rfl, ?_⟩) (Below.refl _ _) ?_; rotate_left; (focus (intro W hSw; go_simp; (try rfl); done)); (try simp only [Act.put, List.setIfInBounds_toArray, List.set_cons_zero, List.set_cons_succ]))
      | (refine take_in (i := 22) (v := undef) rfl (by kernel_rfl) (by kernel_rfl) (by kernel_rfl) (fun _ _ _ h => h) (Or.inr ⟨by rfl, rfl⟩) (Below.refl _ _) ?_; (try simp only [Act.put, List.setIfInBounds_toArray, List.set_cons_zero, List.set_cons_succ]))
      | (fail "HTAKE 22")
    first
      | (refine take_in (i := 23) (v := ?_) rfl (by kernel_rfl) (by kernel_rfl) (by kernel_rfl) (fun _ _ _ h => h) (Or.inl ⟨by rfl, ?_⟩) (Below.refl _ _) ?_; rotate_left; (focus (intro W hSw; go_simp; (try rfl); done)); (try simp only [Act.put, List.setIfInBounds_toArray, List.set_cons_zero, List.set_cons_succ]))
      | (refine take_in (i := 23) (v := undef) rfl (by kernel_rfl) (by kernel_rfl) (by kernel_rfl) (fun _ _ _ h => h) (Or.inr ⟨by rfl, rfl⟩) (Below.refl _ _) ?_; (try simp only [Act.put, List.setIfInBounds_toArray, List.set_cons_zero, List.set_cons_succ]))
      | (fail "HTAKE 23")
    refine call_in (i := 21) rfl (by kernel_rfl) (by kernel_rfl) (fun K hK => ?_)
    go_simp
    refine (for_any y2 b1 B (max room 0) sv5 q1 to (HN5.out.below HB8.out) (fun p hp => by have := HS5.out p hp; omega)).mono ?_
    rintro e y4 ⟨rfl, hb9⟩
    have hb10 := HB8.out.trans (hb9.mono HB8.out.size)
    have HB10 := Lib.hid hb10
    obtain ⟨fr, hfr⟩ : ∃ fr, forL q1 to = fr := ⟨_, rfl⟩
    rw [hfr]
    clear hb10
    refine hK.out _ _ hb9 ?_
    (try simp only [Act.put, List.setIfInBounds_toArray, List.set_cons_zero, List.set_cons_succ])
    clear hb9
    refine call_in (i := 24) rfl (by kernel_rfl) (by kernel_rfl) (fun K hK => ?_)
    go_simp
    refine (rfor_any y4 b2 (okX b1 b2 sv5) room _ q1 to (HX5.out.below HB10.out)).mono ?_
    rintro e y5 ⟨rfl, hb11⟩
    have HBz := Lib.hid (HBx.out.below (HB10.out.trans (hb11.mono HB10.out.size)))
    rw [hfr]
    have hbf : (fr != fr) = false := bne_self_eq_false _
    refine hK.out _ _ hb11 ?_
    (try simp only [Act.put, List.setIfInBounds_toArray, List.set_cons_zero, List.set_cons_succ])
    clear hb11 C1 C2
    first
      | (refine take_in (i := 25) (v := ?_) rfl (by kernel_rfl) (by kernel_rfl) (by kernel_rfl) (fun _ _ _ h => h) (Or.inl ⟨by rfl, ?_⟩) (Below.refl _ _) ?_; rotate_left; (focus (intro W hSw; go_simp; (try rfl); done)); (try simp only [Act.put, List.setIfInBounds_toArray, List.set_cons_zero, List.set_cons_succ]))
      | (refine take_in (i := 25) (v := undef) rfl (by kernel_rfl) (by kernel_rfl) (by kernel_rfl) (fun _ _ _ h => h) (Or.inr ⟨by rfl, rfl⟩) (Below.refl _ _) ?_; (try simp only [Act.put, List.setIfInBounds_toArray, List.set_cons_zero, List.set_cons_succ]))
      | (fail "HTAKE 25")
    first
      | (refine take_in (i := 26) (v := ?_) rfl (by kernel_rfl) (by kernel_rfl) (by kernel_rfl) (fun _ _ _ h => h) (Or.inl ⟨by rfl, ?_⟩) (Below.refl _ _) ?_; rotate_left; (focus (intro W hSw; go_simp; (try rfl); done)); (try simp only [Act.put, List.setIfInBounds_toArray, List.set_cons_zero, List.set_cons_succ]))
      | (refine take_in (i := 26) (v := undef) rfl (by kernel_rfl) (by kernel_rfl) (by kernel_rfl) (fun _ _ _ h => h) (Or.inr ⟨by rfl, rfl⟩) (Below.refl _ _) ?_; (try simp only [Act.put, List.setIfInBounds_toArray, List.set_cons_zero, List.set_cons_succ]))
      | (fail "HTAKE 26")
    refine wpAnyH_done (by kernel_rfl) ?_ _
    go_wp2_with fail
    go_roundw
    case measure => simp [intOf]; omega
    case rel => exact ⟨i + 1, q1, by omega, by go_num, by omega, HBz.out⟩
end Go.Proofs.Ytapoechkbbklfaa
