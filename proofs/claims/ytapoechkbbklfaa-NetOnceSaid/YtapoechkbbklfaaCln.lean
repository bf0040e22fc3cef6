import Derived.Test.YtapoechkbbklfaaProg
import Derived.Test.YtapoechkbbklfaaRd
import Derived.WalkKit
import Derived.WalkMore
import Derived.WalkLawsBesides
import Derived.WalkSpells
import Derived.KernelRfl
import Derived.Lib.Hide
import Derived.Outline
namespace Go.Proofs.Ytapoechkbbklfaa
open Go.RowKit

theorem one_cells_bool {w w' : World} {ok ok' : Nat → Prop} : ∀ {l : List Bool} {cs : List Value}, RdL w ok .bool l cs → RdL w' ok' .bool l cs
  | [], _, h => h
  | x :: l, cs, h => by
    obtain ⟨c1, c2, h1, h2, h3⟩ := h
    exact ⟨c1, c2, h1, h2, one_cells_bool h3⟩

theorem one_cells_byte {w w' : World} {ok ok' : Nat → Prop} : ∀ {l : List UInt8} {cs : List Value}, RdL w ok .byte l cs → RdL w' ok' .byte l cs
  | [], _, h => h
  | x :: l, cs, h => by
    obtain ⟨c1, c2, h1, h2, h3⟩ := h
    exact ⟨c1, c2, h1, h2, one_cells_byte h3⟩

set_option maxRecDepth 20000 in
theorem info_bool : (Try.prog.info? 4).map (fun i => (i.zero, i.size, i.bytes)) = some (some (.bool false), 1, 1) := by kernel_rfl
set_option maxRecDepth 20000 in
theorem info_byte : (Try.prog.info? 5).map (fun i => (i.zero, i.size, i.bytes)) = some (some (.int .u8 0), 1, 1) := by kernel_rfl
set_option maxRecDepth 20000 in
theorem eqn_byte (a : Option Addr) (n c : Nat) (w : World) : (binOp .eql 35 (.slice a n c) (.slice none 0 0)).run Try.prog w = .ok (.bool a.isNone) w := Lib.run_eql_slice_nil w _ _ a n c 0 0 Try.underlying35
attribute [local go_sem] eqn_byte
set_option maxRecDepth 20000 in
/-- slices.Clone: the same in a block of its own. -/
theorem clone_byte (w : World) (ok : Nat → Prop) (v : Value) (l : List UInt8) (h : Rd w ok (.sl .byte) l [v]) (hl : l.length ≤ 100000) :
    Calls Try.prog 46 #[v] w fun e w' => ∃ v', e = .returned v' ∧ Rd w' (fun k => w.heap.size ≤ k) (.sl .byte) l [v'] ∧ Below w.heap.size w w' := by
  obtain ⟨A, n, c, hv, h1, h2, h3, h4⟩ := rd_sl.1 h
  simp at hv
  subst hv
  have hn := h4.1
  cases A with
  | none =>
    have hc := h3 rfl
    subst hc
    obtain rfl : n = 0 := by omega
    go_enter Try.func46, Try.ntmps46
    go_wp2_with fail
    go_ret
    refine ⟨_, rfl, rd_sl.2 ⟨none, 0, 0, rfl, by omega, by omega, fun _ => rfl, hn, fun _ => rfl, fun ad e => by cases e⟩, Below.refl _ _⟩
  | some ad =>
    obtain ⟨ys, hy, hat⟩ := h4.cells
    have ha := (hat ad rfl).2
    have hyl := hy.len
    have hs1 : Sh.size .byte = 1 := rfl
    have hz := lit_own w 5 #[] 0 rfl (by omega)
    have hbz := below_alloc1 w (.cells #[] 5)
    have ha' := ha.of (ok := anyB) (fun _ => trivial) (fun a v _ hc => cell_below hbz hc)
    go_enter Try.func46, Try.ntmps46
    go_wp2_with (at_builtin; refine wp_appS (A := some ad) (m := n) (n := 0) (xs := []) (ys := ys) rfl (.tmp 5) (.tmp 6) rfl hz (by rw [hyl, hs1, hn]) (fun e => by cases e) (fun ad' e => by cases e; exact ha') hbz Try.underlying35 info_byte rfl (by decide) rfl rfl hy.one (by omega) (by omega) (by simp) ?_; intro v1 w1 h5 h6 _ _; rw [Nat.zero_add, List.nil_append] at h5; have hR : Rd w1 (fun k => w.heap.size ≤ k) (.sl .byte) l [v1] := Own.rd (e := 5) ⟨ys, (by rw [hs1, hn]; exact h5), one_cells_byte hy⟩; obtain ⟨A', c', rfl, _⟩ := own_rc h5)
    go_ret
    exact ⟨_, rfl, hR, h6⟩
end Go.Proofs.Ytapoechkbbklfaa
