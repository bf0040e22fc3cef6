import Derived.Test.YtaagldmgbdiomaaDedN
import Derived.Deep.RegionWith
namespace Go.Proofs.Ytaagldmgbdiomaa
open Go.RowKit
open Go.Maps
def Bd (f : Int → Int) : Prop := ∀ x, 0 ≤ f x ∧ f x < 18446744073709551616
theorem Bd.take {f : Int → Int} (h : Bd f) {i d : Int} (h0 : 0 ≤ d) (h1 : d < 18446744073709551616) : Bd (takeF f i d) := by
  intro x
  unfold takeF
  split
  · show 0 ≤ (if x = i then d else f x) ∧ (if x = i then d else f x) < _
    split
    · exact ⟨h0, h1⟩
    · exact h x
  · exact h x
theorem take_bd (w : World) (v : Value) (B n : Nat) (f : Int → Int) (h : Tab w v B n f ∧ Bd f) (k d : Int) (hk : 0 ≤ k ∧ k < 18446744073709551616) (hd : 0 ≤ d ∧ d < 18446744073709551616) (hB : B ≤ w.heap.size) (hn : n < 9223372036854775807) (r : Int) (hr : askV f k d = r) :
    Calls Try.prog 15 #[v, .int .u64 k, .int .u64 d] w fun e w' => e = .returned (.int .i64 r) ∧ (Tab w' v B (n + 1) (takeF f k d) ∧ Bd (takeF f k d)) ∧ Below B w w' ∧ Keeps w w' := by
  subst hr
  refine (take_any w v B n f h.1 k d hk.1 hk.2 hd.1 hd.2 (h.2 k).1 (h.2 k).2 hB hn).mono ?_
  rintro e w' ⟨he, ht, hb, hk⟩
  exact ⟨he, ⟨ht, h.2.take hd.1 hd.2⟩, hb, hk⟩
def f0 : Int → Int := fun _ => 0
theorem f0_bd : Bd f0 := fun _ => ⟨Int.le_refl 0, (by decide : (0 : Int) < 18446744073709551616)⟩
theorem aw1 : askV f0 7 1 = 0 := by decide
theorem aw2 : askV (takeF f0 7 1) 7 1 = 161 := by decide
theorem aw3 : askV (takeF (takeF f0 7 1) 7 1) 7 3 = 160 := by decide
set_option maxRecDepth 20000 in
theorem ded_awake (w : World) :
    Calls Try.prog 13 #[] w fun e w' => e = .returned (.bool true) ∧ Below w.heap.size w w' := by
  go_enter Try.func13, Try.ntmps13
  go_wp2_with fail
  refine (new_nil w).mono ?_
  rintro e w1 ⟨v, rfl, ht1, hb1⟩
  have ht1' : Tab w1 v w.heap.size 0 f0 ∧ Bd f0 := ⟨ht1, f0_bd⟩
  go_wp2_with fail
  refine (take_bd _ _ _ _ _ ht1' 7 1 ⟨by decide, by decide⟩ ⟨by decide, by decide⟩ hb1.size (by decide) _ aw1).mono ?_
  rintro e w2 ⟨rfl, ht2, hb2, _⟩
  go_wp2_with fail
  refine (take_bd _ _ _ _ _ ht2 7 1 ⟨by decide, by decide⟩ ⟨by decide, by decide⟩ (hb1.trans hb2).size (by decide) _ aw2).mono ?_
  rintro e w3 ⟨rfl, ht3, hb3, _⟩
  go_wp2_with fail
  refine (take_bd _ _ _ _ _ ht3 7 3 ⟨by decide, by decide⟩ ⟨by decide, by decide⟩ ((hb1.trans hb2).trans hb3).size (by decide) _ aw3).mono ?_
  rintro e w4 ⟨rfl, ht4, hb4, _⟩
  go_wp2_with fail
  go_ret
  exact ⟨rfl, ((hb1.trans hb2).trans hb3).trans hb4⟩
end Go.Proofs.Ytaagldmgbdiomaa
