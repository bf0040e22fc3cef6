import Derived.Test.YtfjnpiahloncmaaTskE
import Derived.Test.YtfjnpiahloncmaaFltL
import Derived.Test.YtfjnpiahloncmaaFltP2
namespace Go.Proofs.Ytfjnpiahloncmaa
open Go.RowKit Cdc
set_option linter.unusedVariables false
set_option linter.unusedSimpArgs false
attribute [local go_sem] run_store_float
/-- Tasks alike: floats by their keys. -/
def SameT (x y : TASK.Ty) : Prop := x.1 = y.1 ∧ x.2.1 = y.2.1 ∧ x.2.2.1 = y.2.2.1 ∧ x.2.2.2.1 = y.2.2.2.1 ∧ keyV x.2.2.2.2.1 = keyV y.2.2.2.2.1 ∧ keyV x.2.2.2.2.2.1 = keyV y.2.2.2.2.2.1 ∧ x.2.2.2.2.2.2.1 = y.2.2.2.2.2.2.1
set_option maxRecDepth 20000 in
theorem SameT.refl (x : TASK.Ty) : SameT x x := ⟨rfl, rfl, rfl, rfl, rfl, rfl, rfl⟩
def SameTs (l m : List TASK.Ty) : Prop := l.length = m.length ∧ ∀ (j : Nat) x y, l[j]? = some x → m[j]? = some y → SameT x y
set_option maxRecDepth 20000 in
theorem SameTs.refl (l : List TASK.Ty) : SameTs l l := ⟨rfl, fun j x y h1 h2 => by rw [h1] at h2; injection h2 with h2; subst h2; exact SameT.refl x⟩
set_option maxHeartbeats 2000000 in
set_option maxRecDepth 20000 in
theorem sametask_any (w : World) (i1 l1 i2 l2 : Int) (t1 t2 : ByteArray) (d1 d2 : Bool) (r1 e1 r2 e2 : Nat) (A B : Option Addr) (n m ca cb : Nat) (g1 g2 : List ByteArray) (hr1 : r1 < 18446744073709551616) (he1 : e1 < 18446744073709551616) (hr2 : r2 < 18446744073709551616) (he2 : e2 < 18446744073709551616)
    (ha : Rows w anyB .str A n g1) (hb : Rows w anyB .str B m g2) (hn : n ≤ 9223372036854775807) :
    Calls Try.prog 14 #[.agg #[Value.int .u64 i1, Value.int .u64 l1, Value.string t1, Value.bool d1, Value.float .f64 r1, Value.float .f64 e1, Value.slice A n ca], .agg #[Value.int .u64 i2, Value.int .u64 l2, Value.string t2, Value.bool d2, Value.float .f64 r2, Value.float .f64 e2, Value.slice B m cb]] w (IffB (SameT (i1, l1, t1, d1, r1, e1, g1, ()) (i2, l2, t2, d2, r2, e2, g2, ())) w) := by
  have h1 := blk_alloc (heap_alloc_new w (.cells #[Value.int .u64 i1, Value.int .u64 l1, Value.string t1, Value.bool d1, Value.float .f64 r1, Value.float .f64 e1, Value.slice A n ca] 41)) (.cells #[Value.int .u64 i2, Value.int .u64 l2, Value.string t2, Value.bool d2, Value.float .f64 r2, Value.float .f64 e2, Value.slice B m cb] 41)
  have h2 := heap_alloc2_new w (.cells #[Value.int .u64 i1, Value.int .u64 l1, Value.string t1, Value.bool d1, Value.float .f64 r1, Value.float .f64 e1, Value.slice A n ca] 41) (.cells #[Value.int .u64 i2, Value.int .u64 l2, Value.string t2, Value.bool d2, Value.float .f64 r2, Value.float .f64 e2, Value.slice B m cb] 41)
  obtain ⟨p0, p1, p2, p3, p4, p5, p6⟩ := blk7 h1
  obtain ⟨q0, q1, q2, q3, q4, q5, q6⟩ := blk7 h2
  have HW := Lib.hid ((below_alloc1 w (.cells #[Value.int .u64 i1, Value.int .u64 l1, Value.string t1, Value.bool d1, Value.float .f64 r1, Value.float .f64 e1, Value.slice A n ca] 41)).alloc (by simp) (.cells #[Value.int .u64 i2, Value.int .u64 l2, Value.string t2, Value.bool d2, Value.float .f64 r2, Value.float .f64 e2, Value.slice B m cb] 41))
  have kr1 := keyF_eq hr1
  have kr2 := keyF_eq hr2
  have ke1 := keyF_eq he1
  have ke2 := keyF_eq he2
  have HA := Lib.hid ha
  have HBr := Lib.hid hb
  clear ha hb h1 h2 hr1 he1 hr2 he2
  by_cases c0 : i1 = i2
  case neg =>
    have b0 : (i1 == i2) = false := beq_eq_false_iff_ne.2 c0
    have HF := Lib.hid (show ¬ SameT (i1, l1, t1, d1, r1, e1, g1, ()) (i2, l2, t2, d2, r2, e2, g2, ()) from fun h => absurd h.1 c0)
    clear c0
    go_enter Try.func14, Try.ntmps14
    go_wp2_with (go_at_call 30; refine (same_any _ _ _).mono ?_; rintro e w' ⟨rfl, rfl⟩; (try rw [b4]); (try rw [b5]))
    go_ret
    exact ⟨false, rfl, ⟨(fun e => by cases e), (fun e => absurd e HF.out)⟩, HW.out⟩
  have b0 : (i1 == i2) = true := beq_iff_eq.2 c0
  have C0 := Lib.hid c0
  clear c0
  by_cases c1 : l1 = l2
  case neg =>
    have b1 : (l1 == l2) = false := beq_eq_false_iff_ne.2 c1
    have HF := Lib.hid (show ¬ SameT (i1, l1, t1, d1, r1, e1, g1, ()) (i2, l2, t2, d2, r2, e2, g2, ()) from fun h => absurd h.2.1 c1)
    clear c1
    go_enter Try.func14, Try.ntmps14
    go_wp2_with (go_at_call 30; refine (same_any _ _ _).mono ?_; rintro e w' ⟨rfl, rfl⟩; (try rw [b4]); (try rw [b5]))
    go_ret
    exact ⟨false, rfl, ⟨(fun e => by cases e), (fun e => absurd e HF.out)⟩, HW.out⟩
  have b1 : (l1 == l2) = true := beq_iff_eq.2 c1
  have C1 := Lib.hid c1
  clear c1
  by_cases c2 : t1 = t2
  case neg =>
    have b2 : (ByteArray.toList t1 == ByteArray.toList t2) = false := eq_false_strL c2
    have HF := Lib.hid (show ¬ SameT (i1, l1, t1, d1, r1, e1, g1, ()) (i2, l2, t2, d2, r2, e2, g2, ()) from fun h => absurd h.2.2.1 c2)
    clear c2
    go_enter Try.func14, Try.ntmps14
    go_wp2_with (go_at_call 30; refine (same_any _ _ _).mono ?_; rintro e w' ⟨rfl, rfl⟩; (try rw [b4]); (try rw [b5]))
    go_ret
    exact ⟨false, rfl, ⟨(fun e => by cases e), (fun e => absurd e HF.out)⟩, HW.out⟩
  have b2 : (ByteArray.toList t1 == ByteArray.toList t2) = true := eq_true_strL c2
  have C2 := Lib.hid c2
  clear c2
  by_cases c3 : d1 = d2
  case neg =>
    have b3 : (d1 == d2) = false := beq_eq_false_iff_ne.2 c3
    have HF := Lib.hid (show ¬ SameT (i1, l1, t1, d1, r1, e1, g1, ()) (i2, l2, t2, d2, r2, e2, g2, ()) from fun h => absurd h.2.2.2.1 c3)
    clear c3
    go_enter Try.func14, Try.ntmps14
    go_wp2_with (go_at_call 30; refine (same_any _ _ _).mono ?_; rintro e w' ⟨rfl, rfl⟩; (try rw [b4]); (try rw [b5]))
    go_ret
    exact ⟨false, rfl, ⟨(fun e => by cases e), (fun e => absurd e HF.out)⟩, HW.out⟩
  have b3 : (d1 == d2) = true := beq_iff_eq.2 c3
  have C3 := Lib.hid c3
  clear c3
  by_cases c4 : keyV r1 = keyV r2
  case neg =>
    have b4 : (keyF r1 == keyF r2) = false := beq_eq_false_iff_ne.2 (by rw [kr1, kr2]; exact c4)
    have HF := Lib.hid (show ¬ SameT (i1, l1, t1, d1, r1, e1, g1, ()) (i2, l2, t2, d2, r2, e2, g2, ()) from fun h => absurd h.2.2.2.2.1 c4)
    clear c4
    go_enter Try.func14, Try.ntmps14
    go_wp2_with (go_at_call 30; refine (same_any _ _ _).mono ?_; rintro e w' ⟨rfl, rfl⟩; (try rw [b4]); (try rw [b5]))
    go_ret
    exact ⟨false, rfl, ⟨(fun e => by cases e), (fun e => absurd e HF.out)⟩, HW.out⟩
  have b4 : (keyF r1 == keyF r2) = true := beq_iff_eq.2 (by rw [kr1, kr2]; exact c4)
  have C4 := Lib.hid c4
  clear c4
  by_cases c5 : keyV e1 = keyV e2
  case neg =>
    have b5 : (keyF e1 == keyF e2) = false := beq_eq_false_iff_ne.2 (by rw [ke1, ke2]; exact c5)
    have HF := Lib.hid (show ¬ SameT (i1, l1, t1, d1, r1, e1, g1, ()) (i2, l2, t2, d2, r2, e2, g2, ()) from fun h => absurd h.2.2.2.2.2.1 c5)
    clear c5
    go_enter Try.func14, Try.ntmps14
    go_wp2_with (go_at_call 30; refine (same_any _ _ _).mono ?_; rintro e w' ⟨rfl, rfl⟩; (try rw [b4]); (try rw [b5]))
    go_ret
    exact ⟨false, rfl, ⟨(fun e => by cases e), (fun e => absurd e HF.out)⟩, HW.out⟩
  have b5 : (keyF e1 == keyF e2) = true := beq_iff_eq.2 (by rw [ke1, ke2]; exact c5)
  have C5 := Lib.hid c5
  clear c5
  go_enter Try.func14, Try.ntmps14
  go_wp2_with (first
    | (go_at_call 30; refine (same_any _ _ _).mono ?_; rintro e w' ⟨rfl, rfl⟩; (try rw [b4]); (try rw [b5]))
    | (go_at_call 31
       refine (equals_any _ A B n m ca cb g1 g2 (HA.out.below HW.out) (HBr.out.below HW.out) hn).mono ?_
       rintro e w3 ⟨b, rfl, hb, hw3⟩
       have HB := Lib.hid hb
       clear hb))
  go_ret
  refine ⟨b, rfl, ⟨fun e => ⟨C0.out, C1.out, C2.out, C3.out, C4.out, C5.out, HB.out.1 e⟩, fun h => HB.out.2 h.2.2.2.2.2.2⟩, HW.out.trans (hw3.mono (by simp; omega))⟩
set_option maxHeartbeats 2000000 in
set_option maxRecDepth 20000 in
theorem rsametask_any (w : World) (i1 l1 i2 l2 : Int) (t1 t2 : ByteArray) (d1 d2 : Bool) (r1 e1 r2 e2 : Nat) (A B : Option Addr) (n m ca cb : Nat) (g1 g2 : List ByteArray) (hr1 : r1 < 18446744073709551616) (he1 : e1 < 18446744073709551616) (hr2 : r2 < 18446744073709551616) (he2 : e2 < 18446744073709551616)
    (ha : Rows w anyB .str A n g1) (hb : Rows w anyB .str B m g2) (hn : n ≤ 9223372036854775807) :
    Calls Try.prog 20 #[.agg #[Value.int .u64 i1, Value.int .u64 l1, Value.string t1, Value.bool d1, Value.float .f64 r1, Value.float .f64 e1, Value.slice A n ca], .agg #[Value.int .u64 i2, Value.int .u64 l2, Value.string t2, Value.bool d2, Value.float .f64 r2, Value.float .f64 e2, Value.slice B m cb]] w (IffB (SameT (i1, l1, t1, d1, r1, e1, g1, ()) (i2, l2, t2, d2, r2, e2, g2, ())) w) := by
  have h1 := blk_alloc (heap_alloc_new w (.cells #[Value.int .u64 i1, Value.int .u64 l1, Value.string t1, Value.bool d1, Value.float .f64 r1, Value.float .f64 e1, Value.slice A n ca] 41)) (.cells #[Value.int .u64 i2, Value.int .u64 l2, Value.string t2, Value.bool d2, Value.float .f64 r2, Value.float .f64 e2, Value.slice B m cb] 41)
  have h2 := heap_alloc2_new w (.cells #[Value.int .u64 i1, Value.int .u64 l1, Value.string t1, Value.bool d1, Value.float .f64 r1, Value.float .f64 e1, Value.slice A n ca] 41) (.cells #[Value.int .u64 i2, Value.int .u64 l2, Value.string t2, Value.bool d2, Value.float .f64 r2, Value.float .f64 e2, Value.slice B m cb] 41)
  obtain ⟨p0, p1, p2, p3, p4, p5, p6⟩ := blk7 h1
  obtain ⟨q0, q1, q2, q3, q4, q5, q6⟩ := blk7 h2
  have HW := Lib.hid ((below_alloc1 w (.cells #[Value.int .u64 i1, Value.int .u64 l1, Value.string t1, Value.bool d1, Value.float .f64 r1, Value.float .f64 e1, Value.slice A n ca] 41)).alloc (by simp) (.cells #[Value.int .u64 i2, Value.int .u64 l2, Value.string t2, Value.bool d2, Value.float .f64 r2, Value.float .f64 e2, Value.slice B m cb] 41))
  have kr1 := rkeyF_eq hr1
  have kr2 := rkeyF_eq hr2
  have ke1 := rkeyF_eq he1
  have ke2 := rkeyF_eq he2
  have HA := Lib.hid ha
  have HBr := Lib.hid hb
  clear ha hb h1 h2 hr1 he1 hr2 he2
  by_cases c0 : i1 = i2
  case neg =>
    have b0 : (i1 == i2) = false := beq_eq_false_iff_ne.2 c0
    have HF := Lib.hid (show ¬ SameT (i1, l1, t1, d1, r1, e1, g1, ()) (i2, l2, t2, d2, r2, e2, g2, ()) from fun h => absurd h.1 c0)
    clear c0
    go_enter Try.func20, Try.ntmps20
    go_wp2_with (go_at_call 36; refine (rsame_any _ _ _).mono ?_; rintro e w' ⟨rfl, rfl⟩; (try rw [b4]); (try rw [b5]))
    go_ret
    exact ⟨false, rfl, ⟨(fun e => by cases e), (fun e => absurd e HF.out)⟩, HW.out⟩
  have b0 : (i1 == i2) = true := beq_iff_eq.2 c0
  have C0 := Lib.hid c0
  clear c0
  by_cases c1 : l1 = l2
  case neg =>
    have b1 : (l1 == l2) = false := beq_eq_false_iff_ne.2 c1
    have HF := Lib.hid (show ¬ SameT (i1, l1, t1, d1, r1, e1, g1, ()) (i2, l2, t2, d2, r2, e2, g2, ()) from fun h => absurd h.2.1 c1)
    clear c1
    go_enter Try.func20, Try.ntmps20
    go_wp2_with (go_at_call 36; refine (rsame_any _ _ _).mono ?_; rintro e w' ⟨rfl, rfl⟩; (try rw [b4]); (try rw [b5]))
    go_ret
    exact ⟨false, rfl, ⟨(fun e => by cases e), (fun e => absurd e HF.out)⟩, HW.out⟩
  have b1 : (l1 == l2) = true := beq_iff_eq.2 c1
  have C1 := Lib.hid c1
  clear c1
  by_cases c2 : t1 = t2
  case neg =>
    have b2 : (ByteArray.toList t1 == ByteArray.toList t2) = false := eq_false_strL c2
    have HF := Lib.hid (show ¬ SameT (i1, l1, t1, d1, r1, e1, g1, ()) (i2, l2, t2, d2, r2, e2, g2, ()) from fun h => absurd h.2.2.1 c2)
    clear c2
    go_enter Try.func20, Try.ntmps20
    go_wp2_with (go_at_call 36; refine (rsame_any _ _ _).mono ?_; rintro e w' ⟨rfl, rfl⟩; (try rw [b4]); (try rw [b5]))
    go_ret
    exact ⟨false, rfl, ⟨(fun e => by cases e), (fun e => absurd e HF.out)⟩, HW.out⟩
  have b2 : (ByteArray.toList t1 == ByteArray.toList t2) = true := eq_true_strL c2
  have C2 := Lib.hid c2
  clear c2
  by_cases c3 : d1 = d2
  case neg =>
    have b3 : (d1 == d2) = false := beq_eq_false_iff_ne.2 c3
    have HF := Lib.hid (show ¬ SameT (i1, l1, t1, d1, r1, e1, g1, ()) (i2, l2, t2, d2, r2, e2, g2, ()) from fun h => absurd h.2.2.2.1 c3)
    clear c3
    go_enter Try.func20, Try.ntmps20
    go_wp2_with (go_at_call 36; refine (rsame_any _ _ _).mono ?_; rintro e w' ⟨rfl, rfl⟩; (try rw [b4]); (try rw [b5]))
    go_ret
    exact ⟨false, rfl, ⟨(fun e => by cases e), (fun e => absurd e HF.out)⟩, HW.out⟩
  have b3 : (d1 == d2) = true := beq_iff_eq.2 c3
  have C3 := Lib.hid c3
  clear c3
  by_cases c4 : keyV r1 = keyV r2
  case neg =>
    have b4 : (rkeyF r1 == rkeyF r2) = false := beq_eq_false_iff_ne.2 (by rw [kr1, kr2]; exact c4)
    have HF := Lib.hid (show ¬ SameT (i1, l1, t1, d1, r1, e1, g1, ()) (i2, l2, t2, d2, r2, e2, g2, ()) from fun h => absurd h.2.2.2.2.1 c4)
    clear c4
    go_enter Try.func20, Try.ntmps20
    go_wp2_with (go_at_call 36; refine (rsame_any _ _ _).mono ?_; rintro e w' ⟨rfl, rfl⟩; (try rw [b4]); (try rw [b5]))
    go_ret
    exact ⟨false, rfl, ⟨(fun e => by cases e), (fun e => absurd e HF.out)⟩, HW.out⟩
  have b4 : (rkeyF r1 == rkeyF r2) = true := beq_iff_eq.2 (by rw [kr1, kr2]; exact c4)
  have C4 := Lib.hid c4
  clear c4
  by_cases c5 : keyV e1 = keyV e2
  case neg =>
    have b5 : (rkeyF e1 == rkeyF e2) = false := beq_eq_false_iff_ne.2 (by rw [ke1, ke2]; exact c5)
    have HF := Lib.hid (show ¬ SameT (i1, l1, t1, d1, r1, e1, g1, ()) (i2, l2, t2, d2, r2, e2, g2, ()) from fun h => absurd h.2.2.2.2.2.1 c5)
    clear c5
    go_enter Try.func20, Try.ntmps20
    go_wp2_with (go_at_call 36; refine (rsame_any _ _ _).mono ?_; rintro e w' ⟨rfl, rfl⟩; (try rw [b4]); (try rw [b5]))
    go_ret
    exact ⟨false, rfl, ⟨(fun e => by cases e), (fun e => absurd e HF.out)⟩, HW.out⟩
  have b5 : (rkeyF e1 == rkeyF e2) = true := beq_iff_eq.2 (by rw [ke1, ke2]; exact c5)
  have C5 := Lib.hid c5
  clear c5
  go_enter Try.func20, Try.ntmps20
  go_wp2_with (first
    | (go_at_call 36; refine (rsame_any _ _ _).mono ?_; rintro e w' ⟨rfl, rfl⟩; (try rw [b4]); (try rw [b5]))
    | (go_at_call 37
       refine (sametags_any _ A B n m ca cb g1 g2 (HA.out.below HW.out) (HBr.out.below HW.out) hn).mono ?_
       rintro e w3 ⟨b, rfl, hb, hw3⟩
       have HB := Lib.hid hb
       clear hb))
  go_ret
  refine ⟨b, rfl, ⟨fun e => ⟨C0.out, C1.out, C2.out, C3.out, C4.out, C5.out, HB.out.1 e⟩, fun h => HB.out.2 h.2.2.2.2.2.2⟩, HW.out.trans (hw3.mono (by simp; omega))⟩
end Go.Proofs.Ytfjnpiahloncmaa
