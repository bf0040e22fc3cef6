import Derived.Test.YtaagldmgbdiomaaProg
import Derived.Test.YtaagldmgbdiomaaMem
import Derived.Maps.Own
import Derived.Maps.OwnOps
import Derived.Maps.Views
import Derived.WalkKit
import Derived.WalkLawsBesides
import Derived.WalkSpells
import Derived.KernelRfl
import Derived.Lib.Hide
import Derived.Outline
namespace Go.Proofs.Ytaagldmgbdiomaa
open Go.RowKit
open Go.Maps
theorem keyedU : Keyed Try.prog 23 := int_keyed Try.underlying23
theorem zeroU (w : World) : (zeroValue 23).run Try.prog w = .ok (.int .u64 0) w := by kernel_rfl
theorem neqMap (m : Option Nat) (w : World) : (binOp .neq 100 (.map m) (.map none)).run Try.prog w = .ok (.bool (!m.isNone)) w := run_neq_map_nil w _ _ _ m Try.underlying100
attribute [local go_sem] neqMap
/-- A table: a pointer to a map that reads as f. -/
def TabD (D : DataW Unit) (f : Int → Int) : Prop := ∀ x, D.atKey (.int .u64 x) (.lit (.int .u64 0)) = .lit (.int .u64 (f x))
def Tab (w : World) (v : Value) (B n : Nat) (f : Int → Int) : Prop :=
  ∃ sb bm D, v = .pointer (some ⟨sb, 0, none⟩) ∧ B ≤ sb ∧ B ≤ bm ∧ bm ≠ sb ∧ w.cell? ⟨sb, 0, none⟩ = some (.map (some bm)) ∧ w.ownsMap Try.prog 23 (plainElem Try.prog 23) bm n (D : DataW Unit) ∧ TabD D f
theorem TabD.put {D : DataW Unit} {f : Int → Int} (h : TabD D f) (hD : IsMap D) {k c : Int} (hk : WideAt.IsKeyLit (.int .u64 k)) : TabD (D.put (.int .u64 k) (.lit (.int .u64 c))) (fun x => if x = k then c else f x) := by
  intro x
  show _ = DataW.lit (Lit.int IntKind.u64 (if x = k then c else f x))
  by_cases hx : x = k
  · subst hx
    rw [if_pos rfl, atKey_put_same hD hk]
  · rw [if_neg hx, atKey_put_other (by intro e; injection e with _ e; exact hx e), h x]
set_option maxRecDepth 20000 in
theorem ok_any (w : World) (v : Value) (B n : Nat) (f : Int → Int) (h : Tab w v B n f) :
    Calls Try.prog 56 #[v] w fun e w' => e = .returned (.bool true) ∧ w = w' := by
  obtain ⟨sb, bm, D, rfl, h1, h2, hne, hc, hown, hf⟩ := h
  clear hown hf
  go_enter Try.func56, Try.ntmps56
  go_wp2_with fail
  go_ret
  exact ⟨rfl, rfl⟩
set_option maxRecDepth 20000 in
theorem last_any (w : World) (v : Value) (B n : Nat) (f : Int → Int) (h : Tab w v B n f) (k : Int) (hk : 0 ≤ k) (hk2 : k < 18446744073709551616) :
    Calls Try.prog 16 #[v, .int .u64 k] w fun e w' => e = .returned (.int .u64 (f k)) ∧ w = w' := by
  have hok := ok_any w v B n f h
  obtain ⟨sb, bm, D, rfl, h1, h2, hne, hc, hown, hf⟩ := h
  have HK := Lib.hid hok
  clear hok
  have hkey : keyOf Try.prog 23 (.int .u64 k) = some (.int .u64 k) := keyOf_int_mk Try.underlying23 (by simp [Lit.wf, IntKind.min, IntKind.max, IntKind.bits, IntKind.signed]; omega)
  go_enter Try.func16, Try.ntmps16
  go_wp2_with (first
    | (go_at_call 56; refine HK.out.mono ?_; rintro e w1 ⟨rfl, rfl⟩)
    | (at_lookup; refine wpList_lookup_own_int _ rfl _ _ 100 rfl 23 23 .u64 keyedU Try.underlying100 Try.underlying23 (zeroU _) bm n D rfl hown _ _ rfl hkey ?_; intro c hat hwc))
  go_ret
  have := (hf k).symm.trans hat
  injection this with this
  injection this with _ this
  subst this
  exact ⟨rfl, rfl⟩
/-- What Ask answers. -/
def askV (f : Int → Int) (i d : Int) : Int := if i = 0 ∨ d = 0 then 1 else if d ≤ f i then 161 else if d = f i + 1 then 0 else 160
set_option maxRecDepth 20000 in
theorem ask_any (w : World) (v : Value) (B n : Nat) (f : Int → Int) (h : Tab w v B n f) (k d : Int) (hk : 0 ≤ k) (hk2 : k < 18446744073709551616) (hd : 0 ≤ d) (hd2 : d < 18446744073709551616) (hf0 : 0 ≤ f k) (hf2 : f k < 18446744073709551616) :
    Calls Try.prog 44 #[v, .int .u64 k, .int .u64 d] w fun e w' => e = .returned (.int .i64 (askV f k d)) ∧ w = w' := by
  have HL := Lib.hid (last_any w v B n f h k hk hk2)
  have HK := Lib.hid (ok_any w v B n f h)
  clear h
  unfold askV
  generalize f k = c at *
  by_cases h1 : k = 0
  · subst h1
    rw [if_pos (Or.inl rfl)]
    go_enter Try.func44, Try.ntmps44
    go_wp2_with (first
      | (go_at_call 56; refine HK.out.mono ?_; rintro e w1 ⟨rfl, rfl⟩)
      | (go_at_call 16; refine HL.out.mono ?_; rintro e w1 ⟨rfl, rfl⟩))
    go_ret
    exact ⟨rfl, rfl⟩
  · have hk1 : (k == 0) = false := by rw [beq_eq_false_iff_ne]; exact h1
    by_cases h2 : d = 0
    · subst h2
      rw [if_pos (Or.inr rfl)]
      go_enter Try.func44, Try.ntmps44
      go_wp2_with (first
        | (go_at_call 56; refine HK.out.mono ?_; rintro e w1 ⟨rfl, rfl⟩)
        | (go_at_call 16; refine HL.out.mono ?_; rintro e w1 ⟨rfl, rfl⟩))
      go_ret
      exact ⟨rfl, rfl⟩
    · have hd1 : (d == 0) = false := by rw [beq_eq_false_iff_ne]; exact h2
      rw [if_neg (by omega)]
      by_cases h3 : d ≤ c
      · have h3' : ¬ c < d := by omega
        rw [if_pos h3]
        go_enter Try.func44, Try.ntmps44
        go_wp2_with (first
          | (go_at_call 56; refine HK.out.mono ?_; rintro e w1 ⟨rfl, rfl⟩)
          | (go_at_call 16; refine HL.out.mono ?_; rintro e w1 ⟨rfl, rfl⟩))
        go_ret
        exact ⟨rfl, rfl⟩
      · have h3' : c < d := by omega
        rw [if_neg h3]
        by_cases h4 : d = c + 1
        · have h4' : d - c ≤ 1 := by omega
          rw [if_pos h4]
          go_enter Try.func44, Try.ntmps44
          go_wp2_with (first
            | (go_at_call 56; refine HK.out.mono ?_; rintro e w1 ⟨rfl, rfl⟩)
            | (go_at_call 16; refine HL.out.mono ?_; rintro e w1 ⟨rfl, rfl⟩))
          go_ret
          exact ⟨rfl, rfl⟩
        · have h4' : 1 < d - c := by omega
          rw [if_neg h4]
          go_enter Try.func44, Try.ntmps44
          go_wp2_with (first
            | (go_at_call 56; refine HK.out.mono ?_; rintro e w1 ⟨rfl, rfl⟩)
            | (go_at_call 16; refine HL.out.mono ?_; rintro e w1 ⟨rfl, rfl⟩))
          go_ret
          exact ⟨rfl, rfl⟩
/-- Every cell that can be read is as it was. -/
def Keeps (w w' : World) : Prop := ∀ a u, w.cell? a = some u → w'.cell? a = some u
/-- The table behind Take. -/
def takeF (f : Int → Int) (i d : Int) : Int → Int := if askV f i d = 0 then fun x => if x = i then d else f x else f
theorem Tab.alloc {w : World} {v : Value} {B n : Nat} {f : Int → Int} (h : Tab w v B n f) (o : Obj) : Tab (w.alloc o) v B n f := by
  obtain ⟨sb, bm, D, rfl, h1, h2, hne, hc, hown, hf⟩ := h
  exact ⟨sb, bm, D, rfl, h1, h2, hne, cell_below (below_alloc1 w o) hc, hown.alloc o, hf⟩
set_option maxRecDepth 20000 in
theorem take_any (w : World) (v : Value) (B n : Nat) (f : Int → Int) (h : Tab w v B n f) (k d : Int) (hk : 0 ≤ k) (hk2 : k < 18446744073709551616) (hd : 0 ≤ d) (hd2 : d < 18446744073709551616) (hf0 : 0 ≤ f k) (hf2 : f k < 18446744073709551616) (hB : B ≤ w.heap.size) (hn : n < 9223372036854775807) :
    Calls Try.prog 15 #[v, .int .u64 k, .int .u64 d] w fun e w' => e = .returned (.int .i64 (askV f k d)) ∧ Tab w' v B (n + 1) (takeF f k d) ∧ Below B w w' ∧ Keeps w w' := by
  have HA := Lib.hid (ask_any w v B n f h k d hk hk2 hd hd2 hf0 hf2)
  unfold takeF
  generalize askV f k d = r at *
  obtain ⟨sb, bm, D, rfl, h1, h2, hne, hc, hown, hf⟩ := h
  have hkw : (Lit.int .u64 k).wf = true := by simp [Lit.wf, IntKind.min, IntKind.max, IntKind.bits, IntKind.signed]; omega
  have hdw : (Lit.int .u64 d).wf = true := by simp [Lit.wf, IntKind.min, IntKind.max, IntKind.bits, IntKind.signed]; omega
  have hkey : keyOf Try.prog 23 (.int .u64 k) = some (.int .u64 k) := keyOf_int_mk Try.underlying23 hkw
  by_cases hr : r = 0
  · subst hr
    rw [if_pos rfl]
    go_enter Try.func15, Try.ntmps15
    go_wp2_with (first
      | (go_at_call 44; refine HA.out.mono ?_; rintro e w1 ⟨rfl, rfl⟩)
      | (at_mapUpdate; refine wpList_mapUpdate_own _ rfl _ _ _ 100 rfl 23 23 keyedU Try.underlying100 _ bm n D rfl hown (by unfold maxLen; omega) _ _ _ rfl rfl hkey _ [] (plainElem_int Try.underlying23 hdw) ?_; intro w1 hown1 hgrow1))
    go_ret
    refine ⟨rfl, ⟨sb, bm, _, rfl, h1, h2, hne, cell_grown hgrow1 hc (fun e => hne (by injection e with e; exact e.symm)), hown1, hf.put hown.isMap trivial⟩, (Below.refl _ _).grown hgrow1 hB (fun j hj => by injection hj with hj; omega), ?_⟩
    intro a u hu
    refine cell_grown hgrow1 hu (fun e => ?_)
    injection e with e
    obtain ⟨es, clock, hb, _⟩ := hown
    simp [World.cell?, e, hb] at hu
  · have hr' : (r == 0) = false := by rw [beq_eq_false_iff_ne]; exact hr
    rw [if_neg hr]
    go_enter Try.func15, Try.ntmps15
    go_wp2_with (go_at_call 44; refine HA.out.mono ?_; rintro e w1 ⟨rfl, rfl⟩)
    go_ret
    exact ⟨rfl, ⟨sb, bm, D, rfl, h1, h2, hne, hc, hown.mono (by omega), hf⟩, Below.refl _ _, fun _ _ h => h⟩
end Go.Proofs.Ytaagldmgbdiomaa
