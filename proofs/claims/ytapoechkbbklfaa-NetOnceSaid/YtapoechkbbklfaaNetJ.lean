import Derived.Test.YtapoechkbbklfaaNetH
namespace Go.Proofs.Ytapoechkbbklfaa
open Go.RowKit
set_option linter.unusedVariables false
set_option linter.unusedSimpArgs false
set_option maxHeartbeats 4000000 in
set_option maxRecDepth 20000 in
theorem rdouble_any (w : World) (b2 : Nat) (ok : Nat → Prop) (room : Int) (xv : Value) (l : List PKT.Ty) (i : Int) (hX : XR w b2 ok room xv l) (hOk : OkX w b2 ok) (hi : -9223372036854775808 ≤ i ∧ i < 9223372036854775808) (hlm : l.length ≤ 4000) :
    Calls Try.prog 19 #[.pointer (some ⟨b2, 0, none⟩), .int .i64 i] w fun e w' => e = .returned (.bool (doubleL room l i).2) ∧ XTo w b2 ok room (doubleL room l i).1 w' := by
  have HP := Lib.hid (rplace_any w b2 ok room xv l i hX hi)
  have HN := Lib.hid hX
  by_cases h0 : l.length = 0
  · obtain rfl : l = [] := List.eq_nil_of_length_eq_zero h0
    have HP := Lib.hid (show Calls Try.prog 40 #[.pointer (some ⟨b2, 0, none⟩), .int .i64 i] w fun e w' => e = .returned (.int .i64 (-1)) ∧ w = w' from HP.out)
    rw [doubleL_nil]
    clear hX h0
    go_enter Try.func19, Try.ntmps19
    go_wp2_with (go_at_call 40; refine HP.out.mono ?_; rintro e w1 ⟨rfl, rfl⟩)
    go_ret
    exact ⟨rfl, XTo.refl HN.out⟩
  · obtain ⟨k, hk, hpk⟩ := place_lt i h0
    rw [doubleL_at hpk hk]
    rw [hpk] at HP
    obtain ⟨A2, cap2, rfl, hnc, hcm, hA0, hrows⟩ := hX.form
    obtain ⟨ad, rfl⟩ : ∃ ad, A2 = some ad := by
      cases A2 with
      | none => have := hA0 rfl; omega
      | some ad => exact ⟨ad, rfl⟩
    obtain ⟨xs, hr, hat⟩ := hrows.cells
    have hat := (hat ad rfl).2
    obtain ⟨cs, hcs, hrd⟩ := hr.get (List.getElem?_eq_getElem hk)
    have hrd0 := hrd
    obtain ⟨pt, pf, pd, pA, pc, hpe, rfl, okp, hpd⟩ := rd_pkt hrd
    rw [hpe] at hrd0 ⊢
    have HAt := Lib.hid (show At w (ad.add (k * 3)) 0 [.int .i64 pt, .int .i64 pf, .slice pA pd.length pc] from fun j v hv => by
      rw [Nat.zero_add, add_add]
      have := hat (k * 3 + j) v (hcs j v hv)
      rwa [Nat.zero_add] at this)
    obtain ⟨w1, hw1⟩ : ∃ w1, w.alloc (.cells #[Value.int .i64 pt, Value.int .i64 pf, Value.slice pA pd.length pc] 37) = w1 := ⟨_, rfl⟩
    have hb1 : Below w.heap.size w w1 := by rw [← hw1]; exact below_alloc1 w _
    have hblk : w1.heap[w.heap.size]? = some (.cells #[Value.int .i64 pt, Value.int .i64 pf, Value.slice pA pd.length pc] 37 (0, 0)) := by rw [← hw1]; exact heap_alloc_new w _
    have HR := Lib.hid (rows_of (w := w1) (ok := ok) (ad := ⟨w.heap.size, 0, none⟩) (RdL.single (hrd0.below hb1)) (fun _ => hOk.2 _ (Nat.le_refl _)) (At.blk hblk))
    have HS := Lib.hid (rsend_any w1 b2 ok room _ l [(pt, pf, pd, ())] (some ⟨w.heap.size, 0, none⟩) 1 1 (hX.below hb1) (hOk.later hb1.size) HR.out (by omega))
    have HB1 := Lib.hid hb1
    have h1 := hX.1
    obtain ⟨q0, q1⟩ := blk2 h1
    have i0 : (0 : Int) ≤ (k : Int) := by omega
    have i1 : (k : Int) < (l.length : Int) := by omega
    clear hX hi hpk hA0 hr hat hcs hrd hrd0 okp hpd h1 q0 h0 hb1 hblk hrows hOk
    go_enter Try.func19, Try.ntmps19
    go_wp2_with (first
      | (go_at_call 40; refine HP.out.mono ?_; rintro e w' ⟨rfl, rfl⟩)
      | (refine wpG_load (by rfl) 37 _ rfl _ rfl _ _ HAt.out Try.underlying37 rfl rfl ?_)
      | (refine wpG_lit1 (by rfl) (cs := [.int .i64 pt, .int .i64 pf, .slice pA pd.length pc]) (.tmp 19) rfl rfl Try.underlying27 info_pkt rfl (by decide) (by decide) rfl ?_; simp only [hw1])
      | (go_at_call 13; refine HS.out.mono ?_; rintro e w2 ⟨rfl, hN2⟩; have HN2 := Lib.hid hN2; clear hN2))
    go_ret
    exact ⟨ret_bool (int_one _), XTo.trans (Turn.of_below HB1.out) HN2.out⟩
/-- The first packet to a node: its place; -1. -/
def forL (l : List PKT.Ty) (to : Int) : Int := match l.findIdx? (fun p => p.1 == to) with | some i => i | none => -1
set_option maxRecDepth 20000 in
theorem forL_at {l : List PKT.Ty} {to : Int} {i : Nat} {x : PKT.Ty} (h : ∀ y ∈ l.take i, (y.1 == to) = false) (hx : l[i]? = some x) (he : (x.1 == to) = true) : forL l to = i := by
  unfold forL
  rw [List.findIdx?_eq_some_iff_getElem.2 ⟨(List.getElem?_eq_some_iff.1 hx).1, by rw [(List.getElem?_eq_some_iff.1 hx).2]; exact he, fun j hj => by
    have hl := (List.getElem?_eq_some_iff.1 hx).1
    have := h l[j] (List.mem_take_iff_getElem.2 ⟨j, by omega, rfl⟩)
    rw [this]
    exact Bool.false_ne_true⟩]
set_option maxRecDepth 20000 in
theorem forL_no {l : List PKT.Ty} {to : Int} (h : ∀ y ∈ l, (y.1 == to) = false) : forL l to = -1 := by
  unfold forL
  rw [List.findIdx?_eq_none_iff.2 h]
set_option maxRecDepth 20000 in
theorem take_allG {α : Type} {P : α → Prop} {l : List α} {i : Nat} {x : α} (h : ∀ y ∈ l.take i, P y) (hx : l[i]? = some x) (hp : P x) : ∀ y ∈ l.take (i + 1), P y := by
  intro y hy
  rw [take_at hx] at hy
  rcases List.mem_append.1 hy with hy | hy
  · exact h y hy
  · rw [List.mem_singleton.1 hy]; exact hp
set_option maxHeartbeats 1000000 in
set_option maxRecDepth 20000 in
theorem rfor_any (w : World) (b2 : Nat) (ok : Nat → Prop) (room : Int) (xv : Value) (l : List PKT.Ty) (to : Int) (hX : XR w b2 ok room xv l) :
    Calls Try.prog 23 #[.pointer (some ⟨b2, 0, none⟩), .int .i64 to] w fun e w' => e = .returned (.int .i64 (forL l to)) ∧ Below w.heap.size w w' := by
  obtain ⟨A2, cap2, rfl, hnc, hcm, hA0, hrows⟩ := hX.form
  obtain ⟨n, hn⟩ : ∃ n, l.length = n := ⟨_, rfl⟩
  have h1 := hX.1
  have hlm := hX.2.2
  rw [hn] at h1 hrows hnc hlm
  obtain ⟨q0, q1⟩ := blk2 h1
  have HR := Lib.hid hrows
  have HNN := Lib.hid hn
  clear hX h1 q0 hrows hn hA0
  go_enter Try.func23, Try.ntmps23
  go_wp2_with fail
  go_loopw [12] (fun s12 wr => ∃ i : Nat, i ≤ n ∧ s12 = .int .i64 i ∧ (∀ y ∈ l.take i, (y.1 == to) = false) ∧ Below w.heap.size w wr) (fun s12 _ => n - (intOf s12).toNat)
  case atStart => exact ⟨0, by omega, rfl, (fun y hy => by simp at hy), Below.refl _ _⟩
  case round =>
    obtain ⟨i, hi, rfl, hP, hbel⟩ := hrel
    have HP := Lib.hid hP
    have HB := Lib.hid hbel
    clear hP
    by_cases hlt : i < n
    · have i0 : (0 : Int) ≤ (i : Int) := by omega
      have i1 : (i : Int) < (n : Int) := by omega
      obtain ⟨ad, x, cs, rfl, hx, hat, hrd⟩ := (HR.out.below hbel).get i hlt
      obtain ⟨pt, pf, pd, pA, pc, rfl, rfl, okp, hpd⟩ := rd_pkt hrd
      have HAt := Lib.hid hat
      by_cases he : pt = to
      · have hb2 : (pt == to) = true := beq_iff_eq.2 he
        have HV := Lib.hid (forL_at HP.out hx hb2)
        clear hx hat hrd hpd okp hbel he
        go_wp2_with (refine wpL_load rfl 37 _ rfl _ rfl _ _ HAt.out Try.underlying37 rfl rfl ?_)
        go_ret
        exact ⟨ret_int HV.out.symm, HB.out.trans ((below_alloc1 wr _).mono HB.out.size)⟩
      · have hb2 : (pt == to) = false := beq_eq_false_iff_ne.2 he
        have HN := Lib.hid (take_allG (P := fun y : PKT.Ty => (y.1 == to) = false) HP.out hx hb2)
        clear hx hat hrd hpd okp hbel he
        go_wp2_with (refine wpL_load rfl 37 _ rfl _ rfl _ _ HAt.out Try.underlying37 rfl rfl ?_)
        go_roundw
        case measure => simp [intOf]; omega
        case rel => exact ⟨i + 1, by omega, by go_num, HN.out, HB.out.trans ((below_alloc1 wr _).mono HB.out.size)⟩
    · obtain rfl : i = n := by omega
      have HV := Lib.hid (forL_no (l := l) (to := to) (fun y hy => HP.out y (by rw [List.take_of_length_le (by have := HNN.out; omega)]; exact hy)))
      go_wp2_with fail
      go_ret
      exact ⟨ret_int HV.out.symm, HB.out⟩
/-- few: whether packets are few and small. -/
def fewL (l : List PKT.Ty) : Bool := l.all (fun p => decide ((dataP p).length ≤ 50)) && decide (l.length ≤ 10)
set_option maxHeartbeats 1000000 in
set_option maxRecDepth 20000 in
theorem few_any (w : World) (ok : Nat → Prop) (A : Option Addr) (n c : Nat) (l : List PKT.Ty) (hA : Rows w ok PKT A n l) (hn : n ≤ 9223372036854775807) :
    Calls Try.prog 11 #[.slice A n c] w fun e w' => e = .returned (.bool (fewL l)) ∧ Below w.heap.size w w' := by
  have HR := Lib.hid hA
  have HNN := Lib.hid hA.1
  clear hA
  go_enter Try.func11, Try.ntmps11
  go_wp2_with fail
  go_loopw [7] (fun s7 wr => ∃ i : Nat, i ≤ n ∧ s7 = .int .i64 i ∧ (∀ y ∈ l.take i, decide ((dataP y).length ≤ 50) = true) ∧ Below w.heap.size w wr) (fun s7 _ => n - (intOf s7).toNat)
  case atStart => exact ⟨0, by omega, rfl, (fun y hy => by simp at hy), Below.refl _ _⟩
  case round =>
    obtain ⟨i, hi, rfl, hP, hbel⟩ := hrel
    have HP := Lib.hid hP
    have HB := Lib.hid hbel
    clear hP
    by_cases hlt : i < n
    · have i0 : (0 : Int) ≤ (i : Int) := by omega
      have i1 : (i : Int) < (n : Int) := by omega
      obtain ⟨ad, x, cs, rfl, hx, hat, hrd⟩ := (HR.out.below hbel).get i hlt
      obtain ⟨pt, pf, pd, pA, pc, rfl, rfl, okp, hpd⟩ := rd_pkt hrd
      have HAt := Lib.hid hat
      by_cases he : pd.length ≤ 50
      · have hb2 : (pd.length : Int) ≤ 50 := by omega
        have HN := Lib.hid (take_allG (P := fun y : PKT.Ty => decide ((dataP y).length ≤ 50) = true) HP.out hx (decide_eq_true he))
        clear hx hat hrd hpd okp hbel he
        go_wp2_with (refine wpL_load rfl 37 _ rfl _ rfl _ _ HAt.out Try.underlying37 rfl rfl ?_)
        go_roundw
        case measure => simp [intOf]; omega
        case rel => exact ⟨i + 1, by omega, by go_num, HN.out, HB.out.trans ((below_alloc1 wr _).mono HB.out.size)⟩
      · have hb2 : (50 : Int) < (pd.length : Int) := by omega
        have HV := Lib.hid (show fewL l = false by
          unfold fewL
          rw [Bool.and_eq_false_iff, List.all_eq_false]
          exact .inl ⟨_, List.mem_of_getElem? hx, by simp only [decide_eq_true_eq]; exact he⟩)
        clear hx hat hrd hpd okp hbel he
        go_wp2_with (refine wpL_load rfl 37 _ rfl _ rfl _ _ HAt.out Try.underlying37 rfl rfl ?_)
        go_ret
        exact ⟨ret_bool HV.out.symm, HB.out.trans ((below_alloc1 wr _).mono HB.out.size)⟩
    · obtain rfl : i = n := by omega
      have HV := Lib.hid (show fewL l = decide ((i : Int) ≤ 10) by
        unfold fewL
        rw [List.all_eq_true.2 (fun y hy => HP.out y (by rw [List.take_of_length_le (by have := HNN.out; omega)]; exact hy)), Bool.true_and, HNN.out]
        exact decide_eq_decide.2 (by omega))
      go_wp2_with fail
      go_ret
      exact ⟨ret_bool HV.out.symm, HB.out⟩
end Go.Proofs.Ytapoechkbbklfaa
