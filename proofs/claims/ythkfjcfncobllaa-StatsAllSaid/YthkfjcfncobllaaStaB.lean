import Derived.Test.YthkfjcfncobllaaStaA
import Derived.Test.YthkfjcfncobllaaIns
import Derived.Test.YthkfjcfncobllaaLay
namespace Go.Proofs.Ythkfjcfncobllaa
open Go.RowKit FP Go.Sort Go.Shelf
set_option linter.unusedVariables false
set_option linter.unusedSimpArgs false
set_option maxRecDepth 20000 in
theorem eqn_f64 (a : Option Addr) (n c : Nat) (w : World) : (binOp .eql 22 (.slice a n c) (.slice none 0 0)).run Try.prog w = .ok (.bool a.isNone) w := Lib.run_eql_slice_nil w _ _ a n c 0 0 Try.underlying22
section
attribute [local go_sem] eqn_f64
set_option maxRecDepth 20000 in
/-- slices.Clone: the same in a block of its own. -/
theorem clone_f64 (w : World) (ok : Nat → Prop) (v : Value) (l : List Nat) (h : Rd w ok (.sl .f64) l [v]) (hl : l.length ≤ 100000) :
    Calls Try.prog 50 #[v] w fun e w' => ∃ v', e = .returned v' ∧ Own w' w.heap.size 27 .f64 v' l ∧ Below w.heap.size w w' := by
  obtain ⟨A, n, c, hv, h1, h2, h3, h4⟩ := rd_sl.1 h
  simp at hv
  subst hv
  have hn := h4.1
  cases A with
  | none =>
    have hc := h3 rfl
    subst hc
    obtain rfl : n = 0 := by omega
    obtain rfl : l = [] := List.eq_nil_of_length_eq_zero hn
    go_enter Try.func50, Try.ntmps50
    go_wp2_with fail
    go_ret
    refine ⟨_, rfl, Own.nil _ _ _ _, Below.refl _ _⟩
  | some ad =>
    obtain ⟨ys, hy, hat⟩ := h4.cells
    have ha := (hat ad rfl).2
    have hyl := hy.len
    have hs1 : Sh.size .f64 = 1 := rfl
    have hz := lit_own w 27 #[] 0 rfl (by omega)
    have hbz := below_alloc1 w (.cells #[] 27)
    have ha' := ha.of (ok := anyB) (fun _ => trivial) (fun a v _ hc => cell_below hbz hc)
    go_enter Try.func50, Try.ntmps50
    go_wp2_with (at_builtin; refine wp_appS (A := some ad) (m := n) (n := 0) (xs := []) (ys := ys) rfl (.tmp 5) (.tmp 6) rfl hz (by rw [hyl, hs1, hn]) (fun e => by cases e) (fun ad' e => by cases e; exact ha') hbz Try.underlying22 info_f64 rfl (by decide) rfl rfl hy.one (by omega) (by omega) (by simp) ?_; intro v1 w1 h5 h6 _ _; rw [Nat.zero_add, List.nil_append] at h5; have hR : Own w1 w.heap.size 27 .f64 v1 l := ⟨ys, (by rw [hs1, hn]; exact h5), rdl_f64.2 (rdl_f64.1 hy)⟩; obtain ⟨A', c', rfl, _⟩ := own_rc h5)
    go_ret
    exact ⟨_, rfl, hR, h6⟩
end
def nanP (x : Nat) : Bool := FloatKind.f64.format.order x x != some .eq
set_option maxRecDepth 20000 in
theorem nanP_eq {x : Nat} (h : x < B64) : nanP x = fnan x := by
  have := eq_self x h
  unfold nanP bne
  rw [this, Bool.not_not]
set_option maxRecDepth 20000 in
theorem closeN (x : Nat) (W : World) : FnGives Try.prog 51 #[] #[encF x] (.bool (nanP x)) W := by
  show Calls Try.prog 51 #[.float .f64 x] W _
  go_enter Try.func51, Try.ntmps51
  go_wp2
  go_ret
  exact ⟨rfl, 0, rfl⟩
set_option maxRecDepth 20000 in
theorem del_eq {l : List Nat} (h : ∀ x ∈ l, x < B64) : l.filter (fun x => !nanP x) = knownL l := List.filter_congr (fun x hx => by rw [nanP_eq (h x hx)])
set_option maxRecDepth 20000 in
theorem egN : ∀ args w, (callFunc 51 args).run Try.prog w = .ok (.enter 51 args) w := enters_of Try.func51 (by kernel_rfl) rfl
set_option maxRecDepth 20000 in
theorem zerF : ∀ w, (zeroValue 27).run Try.prog w = .ok (encF 0) w := Try.zeroValue27
set_option maxHeartbeats 400000 in
set_option maxRecDepth 20000 in
theorem del_f64 (g cap : Nat) (l : List Nat) (w : World) (hH : Holds encF w g 0 l.toArray) (hlt : ∀ x ∈ l, x < B64) (hsz : l.length ≤ 9223372036854775807) (hcap : l.length ≤ cap) :
    Calls Try.prog 49 #[.slice (some ⟨g, 0, none⟩) l.length cap, .func (.func 51) #[] #[]] w fun e w' => e = .returned (.slice (some ⟨g, 0, none⟩) (knownL l).length cap) ∧ ∃ q, w' = putRow encF (Sort.ahead w q) g 0 (knownL l ++ List.replicate (l.length - (knownL l).length) 0).toArray := by
  have hcon := AnyE.slices_DeleteFunc (P := Try.prog) (ρ := Try.delF_ren) (α := Nat) Try.delF encF (fun _ => rfl) nanP 51 #[] egN 0 zerF g 0 cap l.toArray w
  have h1 : PredAt Try.prog 51 #[] encF nanP w := fun W x _ => closeN x W
  have h2 : PredOver Try.prog 51 #[] encF nanP g 0 l.toArray.size w := fun n os dk x _ => closeN x _
  have hcon := hcon h1 h2 hH (by simpa using hsz) (by simpa using hcap)
  change Calls Try.prog 49 _ _ _ at hcon
  simp only [List.size_toArray, del_eq hlt] at hcon
  exact hcon
set_option maxRecDepth 20000 in
theorem del_none (c : Nat) (fv : Value) (w : World) : Calls Try.prog 49 #[.slice none 0 c, fv] w fun e w' => e = .returned (.slice none 0 c) ∧ w = w' := by
  have hi := AnyE.slices_IndexFunc_empty Try.idxF none c fv w
  change Calls Try.prog 67 _ _ _ at hi
  go_enter Try.func49, Try.ntmps49
  go_wp2_with (go_at_call 67; refine hi.mono ?_; rintro e w' ⟨rfl, rfl⟩)
  go_ret
  exact ⟨rfl, rfl⟩
set_option maxRecDepth 20000 in
theorem del_any (w : World) (base : Nat) (v : Value) (l : List Nat) (h : Own w base 27 .f64 v l) (hl : l.length ≤ 100000) (hB : base ≤ w.heap.size) :
    Calls Try.prog 49 #[v, .func (.func 51) #[] #[]] w fun e w' => ∃ v', e = .returned v' ∧ Own w' base 27 .f64 v' (knownL l) ∧ Below base w w' := by
  rcases own_holds h with ⟨rfl, rfl⟩ | ⟨g, cap, cur, rfl, hg, hgb, hlc, hcm, hcs, hct, hlt, hH⟩
  · refine (del_none _ _ _).mono ?_
    rintro e w' ⟨rfl, rfl⟩
    exact ⟨_, rfl, Own.nil _ _ _ _, Below.refl _ _⟩
  · refine (del_f64 g cap l w hH hlt (by omega) hlc).mono ?_
    rintro e w2 ⟨rfl, q, hq⟩
    have hk : (knownL l).length ≤ l.length := List.length_filter_le _ _
    have hq' : w2 = sortWorld encF w g 0 q (knownL l ++ List.replicate (l.length - (knownL l).length) 0).toArray #[] := by rw [hq, sortWorld, grow_empty]
    have hgr : w.grownBy w2 (some g) := by rw [hq']; exact sorted_grown
    have hsz : (knownL l ++ List.replicate (l.length - (knownL l).length) 0).toArray.size = l.length := by simp; omega
    exact ⟨_, rfl, own_put (l := knownL l) hg hgb hcs (by omega) hcm (by omega) (by simp) (known_lt hlt) hq', below_grow2 (Below.refl _ _) hgr hB hg⟩
set_option maxHeartbeats 1000000 in
set_option maxRecDepth 20000 in
theorem known_any (w : World) (v : Value) (l : List Nat) (h : Rd w anyB (.sl .f64) l [v]) (hl : l.length ≤ 100000) :
    Calls Try.prog 29 #[v] w fun e w' => ∃ v', e = .returned v' ∧ Own w' w.heap.size 27 .f64 v' (knownL l) ∧ Below w.heap.size w w' := by
  obtain ⟨A, c, rfl⟩ : ∃ A c, v = .slice A l.length c := by
    obtain ⟨A, n, c, e, _, _, _, h4⟩ := rd_sl.1 h
    exact ⟨A, c, by have := h4.1; simp at e; rw [e, this]⟩
  go_enter Try.func29, Try.ntmps29
  go_wp2_with fail
  refine (clone_f64 w anyB _ l h hl).mono ?_
  rintro e w1 ⟨v1, rfl, hO, hb⟩
  go_wp2_with (go_at_call 49; refine (del_any w1 w.heap.size v1 l hO (by omega) hb.size).mono ?_; rintro e w2 ⟨v2, rfl, hO2, hb2⟩)
  go_ret
  exact ⟨_, rfl, hO2, hb.trans hb2⟩
end Go.Proofs.Ythkfjcfncobllaa
