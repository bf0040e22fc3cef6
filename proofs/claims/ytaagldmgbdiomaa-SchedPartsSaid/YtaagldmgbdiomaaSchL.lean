import Derived.Test.YtaagldmgbdiomaaSchF
import Derived.Test.YtaagldmgbdiomaaSchG
namespace Go.Proofs.Ytaagldmgbdiomaa
open Go.RowKit Mixed
set_option linter.unusedVariables false
set_option linter.unusedSimpArgs false
set_option maxRecDepth 20000 in
theorem FewS.small {l : List STEP.Ty} (h : FewS l) : SmallS l := fun x hx => ⟨Nat.le_trans (h.2 x hx).1 (by omega), Nat.le_trans (h.2 x hx).2 (by omega)⟩
set_option maxRecDepth 20000 in
/-- Two slices that read the same. -/
theorem same_any {w : World} {b1 b2 : Nat} {ok1 ok2 : Nat → Prop} {e1 e2 : TypeId} {v1 v2 : Value} {l : List STEP.Ty} (h1 : OwnG w b1 ok1 e1 STEP v1 l) (h2 : OwnG w b2 ok2 e2 STEP v2 l) :
    Calls Try.prog 22 #[v1, v2] w fun e w' => e = .returned (.bool true) ∧ Below w.heap.size w w' := by
  obtain ⟨A1, c1, rfl, p1, q1, _, r1⟩ := h1.form
  obtain ⟨A2, c2, rfl, p2, q2, _, r2⟩ := h2.form
  exact samesteps_any w _ _ A1 A2 l.length c1 c2 l r1 r2 (by omega)
set_option maxRecDepth 20000 in
theorem same_row {w : World} {b1 : Nat} {ok1 ok2 : Nat → Prop} {e1 : TypeId} {v1 : Value} {l : List STEP.Ty} {A : Option Addr} {n c : Nat} (h1 : OwnG w b1 ok1 e1 STEP v1 l) (h2 : Rows w ok2 STEP A n l) :
    Calls Try.prog 22 #[v1, .slice A n c] w fun e w' => e = .returned (.bool true) ∧ Below w.heap.size w w' := by
  obtain ⟨A1, c1, rfl, p1, q1, _, r1⟩ := h1.form
  have hn := h2.1
  subst hn
  exact samesteps_any w _ _ A1 A l.length c1 c l r1 h2 (by omega)
set_option maxHeartbeats 4000000 in
set_option maxRecDepth 20000 in
theorem w_SchedMixes (a : Option Addr) (na ca : Nat) (la : List STEP.Ty) (b : Option Addr) (nb cb : Nat) (lb : List STEP.Ty) (f : Option Addr) (nf cf : Nat) (lf : List Bool) (k : Option Addr) (nk ck : Nat) (lk : List Int) (node : Int)
    (w : World) (ha1 : na ≤ ca) (ha2 : ca ≤ 9223372036854775807) (ha : Rows w anyB STEP a na la) (hb1 : nb ≤ cb) (hb2 : cb ≤ 9223372036854775807) (hb : Rows w anyB STEP b nb lb) (hf1 : nf ≤ cf) (hf2 : cf ≤ 9223372036854775807) (hf : Rows w anyB .bool f nf lf)
    (hk1 : nk ≤ ck) (hk2 : ck ≤ 9223372036854775807) (hk : Rows w anyB (.int .i64) k nk lk) :
    Calls Try.prog 5 #[.slice a na ca, .slice b nb cb, .slice f nf cf, .slice k nk ck, .int .i64 node] w fun e w' => e = .returned (.bool true) ∧ Below w.heap.size w w' := by
  have HA := Lib.hid ha
  have HB := Lib.hid hb
  have HF := Lib.hid hf
  have HK := Lib.hid hk
  clear ha hb hf hk
  go_enter Try.func5, Try.ntmps5
  go_wp2_with fail
  refine (sch_awake w).mono ?_
  rintro e w1 ⟨rfl, hw1⟩
  go_wp2_with fail
  refine (few_any w1 anyB a na ca la (HA.out.below hw1) (by omega)).mono ?_
  rintro e w2 ⟨p, rfl, hp, hw12⟩
  have hw2 := hw1.trans (hw12.mono hw1.size)
  cases p with
  | false =>
    clear hp
    go_wp2_with fail
    go_ret
    exact ⟨rfl, hw2⟩
  | true =>
  have hFA := hp rfl
  have hna : na ≤ 120 := by have := hFA.1; rw [HA.out.1] at this; exact this
  have HFA := Lib.hid hFA.small
  clear hp hFA
  go_wp2_with fail
  refine (few_any w2 anyB b nb cb lb (HB.out.below hw2) (by omega)).mono ?_
  rintro e w3 ⟨p, rfl, hp, hw23⟩
  have hw3 := hw2.trans (hw23.mono hw2.size)
  cases p with
  | false =>
    clear hp
    go_wp2_with fail
    go_ret
    exact ⟨rfl, hw3⟩
  | true =>
  have hFB := hp rfl
  have hnb : nb ≤ 120 := by have := hFB.1; rw [HB.out.1] at this; exact this
  have HFB := Lib.hid hFB.small
  clear hp hFB
  by_cases hnf : (300 : Int) < (nf : Nat)
  · go_wp2_with fail
    go_ret
    exact ⟨rfl, hw3⟩
  by_cases hnk : (20 : Int) < (nk : Nat)
  · go_wp2_with fail
    go_ret
    exact ⟨rfl, hw3⟩
  go_wp2_with fail
  refine (mix_any w3 anyB a b na nb ca cb la lb f nf cf lf (HA.out.below hw3) (HB.out.below hw3) (HF.out.below hw3) ha1 hb1 ha2 hb2 (by omega) (by omega) (by omega) HFA.out HFB.out).mono ?_
  rintro e w4 ⟨v4, rfl, hO4, hw34⟩
  have hw4 := hw3.trans (hw34.mono hw3.size)
  obtain ⟨A4, c4, rfl, _⟩ := hO4.form
  have HO4 := Lib.hid hO4
  clear hO4
  go_wp2_with fail
  refine (rmix_any w4 anyB a b na nb ca cb la lb f nf cf lf (HA.out.below hw4) (HB.out.below hw4) (HF.out.below hw4) ha1 hb1 ha2 hb2 (by omega) (by omega) (by omega)).mono ?_
  rintro e w5 ⟨v5, rfl, hO5, hw45⟩
  have hw5 := hw4.trans (hw45.mono hw4.size)
  obtain ⟨A5, c5, rfl, _⟩ := hO5.form
  have HO5 := Lib.hid hO5
  clear hO5
  go_wp2_with fail
  refine (same_any (HO4.out.below hw45) HO5.out).mono ?_
  rintro e w6 ⟨rfl, hw56⟩
  have hw6 := hw5.trans (hw56.mono hw5.size)
  go_wp2_with fail
  refine (only_any w6 anyB a na ca la k nk ck lk (HA.out.below hw6) ha1 ha2 (by omega) HFA.out (HK.out.below hw6) (by omega)).mono ?_
  rintro e w7 ⟨v7, rfl, hO7, hw67⟩
  have hw7 := hw6.trans (hw67.mono hw6.size)
  obtain ⟨A7, c7, rfl, _⟩ := hO7.form
  have HO7 := Lib.hid hO7
  clear hO7
  go_wp2_with fail
  refine (ronly_any w7 anyB a na ca la k nk ck lk true (HA.out.below hw7) ha1 ha2 (by omega) (HK.out.below hw7) (by omega)).mono ?_
  rintro e w8 ⟨v8, rfl, hO8, hw78⟩
  have hw8 := hw7.trans (hw78.mono hw7.size)
  rw [show (la.filter fun x => hasK lk (kindOf x) == true) = la.filter fun x => hasK lk (kindOf x) from List.filter_congr (fun x _ => by cases hasK lk (kindOf x) <;> rfl)] at hO8
  obtain ⟨A8, c8, rfl, _⟩ := hO8.form
  have HO8 := Lib.hid hO8
  clear hO8
  go_wp2_with fail
  refine (same_any (HO7.out.below hw78) HO8.out).mono ?_
  rintro e w9 ⟨rfl, hw89⟩
  have hw9 := hw8.trans (hw89.mono hw8.size)
  go_wp2_with fail
  refine (without_any w9 anyB a na ca la k nk ck lk (HA.out.below hw9) ha1 ha2 (by omega) HFA.out (HK.out.below hw9) (by omega)).mono ?_
  rintro e w10 ⟨v10, rfl, hO10, hw910⟩
  have hw10 := hw9.trans (hw910.mono hw9.size)
  obtain ⟨A10, c10, rfl, _⟩ := hO10.form
  have HO10 := Lib.hid hO10
  clear hO10
  go_wp2_with fail
  refine (ronly_any w10 anyB a na ca la k nk ck lk false (HA.out.below hw10) ha1 ha2 (by omega) (HK.out.below hw10) (by omega)).mono ?_
  rintro e w11 ⟨v11, rfl, hO11, hw1011⟩
  have hw11 := hw10.trans (hw1011.mono hw10.size)
  rw [show (la.filter fun x => hasK lk (kindOf x) == false) = la.filter fun x => !hasK lk (kindOf x) from List.filter_congr (fun x _ => by cases hasK lk (kindOf x) <;> rfl)] at hO11
  obtain ⟨A11, c11, rfl, _⟩ := hO11.form
  have HO11 := Lib.hid hO11
  clear hO11
  go_wp2_with fail
  refine (same_any (HO10.out.below hw1011) HO11.out).mono ?_
  rintro e w12 ⟨rfl, hw1112⟩
  have hw12' := hw11.trans (hw1112.mono hw11.size)
  go_wp2_with fail
  refine (of_any w12 anyB a na ca la node (HA.out.below hw12') ha1 ha2 (by omega) HFA.out).mono ?_
  rintro e w13 ⟨v13, rfl, hO13, hw1213⟩
  have hw13 := hw12'.trans (hw1213.mono hw12'.size)
  obtain ⟨A13, c13, rfl, _⟩ := hO13.form
  have HO13 := Lib.hid hO13
  clear hO13
  go_wp2_with fail
  refine (rof_any w13 anyB a na ca la node (HA.out.below hw13) ha1 ha2 (by omega)).mono ?_
  rintro e w14 ⟨v14, rfl, hO14, hw1314⟩
  have hw14 := hw13.trans (hw1314.mono hw13.size)
  obtain ⟨A14, c14, rfl, _⟩ := hO14.form
  have HO14 := Lib.hid hO14
  clear hO14
  go_wp2_with fail
  refine (same_any (HO13.out.below hw1314) HO14.out).mono ?_
  rintro e w15 ⟨rfl, hw1415⟩
  have hw15 := hw14.trans (hw1415.mono hw14.size)
  go_wp2_with fail
  go_ret
  exact ⟨rfl, hw15⟩
end Go.Proofs.Ytaagldmgbdiomaa
