import Derived.Test.YtapoechkbbklfaaNetC
import Derived.Lib.AppendZeros
namespace Go.Proofs.Ytapoechkbbklfaa
open Go.RowKit
set_option linter.unusedVariables false
set_option linter.unusedSimpArgs false
set_option maxRecDepth 20000 in
theorem zeroCells_size (z : Array Value) (n : Nat) : (Builtin.zeroCells z n).size = n * z.size := by simp [Builtin.zeroCells]
set_option maxRecDepth 20000 in
/-- slices.Grow(nil, n): an empty row of its own. -/
theorem grow_any (w : World) (ok : Nat → Prop) (n : Nat) (hn : n ≤ 1000000) :
    Calls Try.prog 47 #[.slice none 0 0, .int .i64 n] w fun e w' => ∃ A c, e = .returned (.slice A 0 c) ∧ OwnG w' w.heap.size ok 37 PKT (.slice A 0 c) [] ∧ Below w.heap.size w w' := by
  by_cases h0 : n = 0
  · subst h0
    go_enter Try.func47, Try.ntmps47
    go_wp2_with fail
    go_ret
    exact ⟨_, _, rfl, ⟨[], own_nil _ _ _ _, rfl⟩, Below.refl _ _⟩
  · obtain ⟨i0, hi, hzz⟩ := Option.map_eq_some_iff.1 info_pkt
    simp only [Prod.mk.injEq] at hzz
    obtain ⟨hz0, hz1, hz2⟩ := hzz
    have hr := fun ty => Lib.run_append_nil_zeros (P := Try.prog) w 27 3 ty 37 i0 _ .i64 .i64 Try.underlying27 Try.underlying3 hi hz0 n (by omega) (by rw [hz1]; omega) (by omega) (by rw [hz2]; omega)
    have hge := grownCap_ge w n 0 37
    have hmx := grownCap_le_maxLen w n 0 37 (by simp only [maxLen]; omega)
    generalize grownCap w n 0 37 = cap at *
    have HRun := Lib.hid hr
    have HGE := Lib.hid hge
    have HMX := Lib.hid hmx
    have hcap : (0 : Nat) ≤ cap := by omega
    have hpos : 0 < n := by omega
    clear hr hi hz0 hz1 hz2
    go_enter Try.func47, Try.ntmps47
    go_wp2_with (at_builtin; refine Lib.wpList_append_run _ rfl _ _ _ _ rfl _ _ rfl rfl _ _ (HRun.out _) ?_)
    go_ret
    refine ⟨_, _, rfl, ⟨[], ⟨rfl, .inr ⟨w.heap.size, cap, _, rfl, Nat.le_refl _, heap_alloc_new w.drew _, Nat.zero_le _, HMX.out, ?_, by simp⟩⟩, rfl⟩, (Below.refl _ w).drew.alloc (Nat.le_refl _) _⟩
    have hge := HGE.out
    rw [Array.size_append, zeroCells_size, zeroCells_size]
    show n * 3 + (cap - n) * 3 = cap * 3
    omega
set_option maxHeartbeats 1000000 in
set_option maxRecDepth 20000 in
/-- slices.Concat of two rows: a row of its own; the data are theirs. -/
theorem concat_any (w : World) (ok : Nat → Prop) (g : Nat) (A1 A2 : Option Addr) (n1 n2 c1 c2 : Nat) (l1 l2 : List PKT.Ty) (x1 x2 : List Value)
    (hg : w.heap[g]? = some (.cells #[.slice A1 n1 c1, .slice A2 n2 c2] 27 (0, 0)))
    (hn1 : n1 = l1.length) (hA1 : A1 = none → n1 = 0) (ha1 : ∀ ad, A1 = some ad → At w ad 0 x1) (hr1 : RdL w ok PKT l1 x1)
    (hn2 : n2 = l2.length) (hA2 : A2 = none → n2 = 0) (ha2 : ∀ ad, A2 = some ad → At w ad 0 x2) (hr2 : RdL w ok PKT l2 x2) (hle : n1 + n2 ≤ 100000) :
    Calls Try.prog 39 #[.slice (some ⟨g, 0, none⟩) 2 2] w fun e w' => ∃ v, e = .returned v ∧ OwnG w' w.heap.size (fun k => ok k ∧ k < w.heap.size) 37 PKT v (l1 ++ l2) ∧ Below w.heap.size w w' := by
  obtain ⟨p0, p1⟩ := blk2 hg
  have HG := Lib.hid hg
  have HA1 := Lib.hid ha1
  have HA2 := Lib.hid ha2
  have HR1 := Lib.hid hr1
  have HR2 := Lib.hid hr2
  have HN := Lib.hid (And.intro hn1 hn2)
  have HZ := Lib.hid (And.intro hA1 hA2)
  clear ha1 ha2 hr1 hr2 hg hn1 hn2 hA1 hA2
  go_enter Try.func39, Try.ntmps39
  go_wp2_with fail
  go_loopw [3, 11] (fun s3 s11 wr => ∃ i k : Nat, i ≤ 2 ∧ s11 = .int .i64 i ∧ s3 = .int .i64 k ∧ (i = 0 ∧ k = 0 ∨ i = 1 ∧ k = n1 ∨ i = 2 ∧ k = n1 + n2) ∧ w = wr) (fun _ s11 _ => 2 - (intOf s11).toNat)
  case atStart => exact ⟨0, 0, by omega, rfl, rfl, by omega, rfl⟩
  case round =>
    obtain ⟨i, k, hi, rfl, rfl, hik, rfl⟩ := hrel
    rcases hik with ⟨rfl, rfl⟩ | ⟨rfl, rfl⟩ | ⟨rfl, hk⟩
    · go_wp2_with fail
      go_roundw
      case measure => simp [intOf]
      case rel => exact ⟨1, n1, by omega, rfl, by go_num, by omega, trivial⟩
    · go_wp2_with fail
      go_roundw
      case measure => simp [intOf]
      case rel => exact ⟨2, k + n2, by omega, rfl, by go_num, by omega, trivial⟩
    · have hk2 : k ≤ 100000 := by omega
      clear hk
      go_wp2_with fail
      refine (grow_any w (fun k => ok k ∧ k < w.heap.size) k (by omega)).mono ?_
      rintro e w2 ⟨Ag, cg, rfl, hog, hbg⟩
      have HOg := Lib.hid hog
      have HBg := Lib.hid hbg
      clear hog hbg
      go_wp2_with fail
      go_loopw [6, 27] (fun s6 s27 wr => ∃ (i : Nat) (v : Value) (acc : List PKT.Ty), i ≤ 2 ∧ v = s6 ∧ s27 = .int .i64 i ∧ OwnG wr w.heap.size (fun k => ok k ∧ k < w.heap.size) 37 PKT v acc ∧ Below w.heap.size w wr ∧ (i = 0 ∧ acc = [] ∨ i = 1 ∧ acc = l1 ∨ i = 2 ∧ acc = l1 ++ l2)) (fun _ s27 _ => 2 - (intOf s27).toNat)
      case atStart => exact ⟨0, _, [], by omega, rfl, rfl, HOg.out, HBg.out, .inl ⟨rfl, rfl⟩⟩
      case round =>
        obtain ⟨i, v, acc, hi, rfl, rfl, hO, hbel, hcase⟩ := hrel
        have HO := Lib.hid hO
        have HBel := Lib.hid hbel
        have q0 := cell_below hbel p0
        have q1 := cell_below hbel p1
        obtain ⟨Av, cv, rfl, _⟩ := OwnG.rows hO
        clear hO hbel
        rcases hcase with ⟨rfl, rfl⟩ | ⟨rfl, rfl⟩ | ⟨rfl, hacc⟩
        · go_wp2_with (at_builtin
                       refine wp_appO (w0 := wr) (A := A1) (m := n1) (r := l1) (ys := x1) rfl (.tmp 31) (.tmp 32) rfl HO.out HN.out.1 HZ.out.1 (fun ad e => (HA1.out ad e).below HBel.out) (HR1.out.of (fun a v _ hc => cell_below HBel.out hc) (fun k hk hlt => ⟨⟨hk, hlt⟩, fun e => by have := HO.out; obtain ⟨xs, ho, _⟩ := this; have := own_base ho k e; omega⟩)) (Below.refl _ _) Try.underlying27 info_pkt rfl (by decide) rfl rfl (by simp; omega) (by simp; omega) HBel.out.size ?_
                       intro v1 w1 h5 h6 h7 h8
                       have HO1 := Lib.hid h5
                       have HB1 := Lib.hid (HBel.out.trans h6)
                       obtain ⟨A', c', rfl, _⟩ := OwnG.rows h5
                       clear h5 h6 h7 h8)
          go_roundw
          case measure => simp [intOf]
          case rel => exact ⟨1, _, _, by omega, rfl, rfl, HO1.out, HB1.out, .inr (.inl ⟨rfl, rfl⟩)⟩
        · go_wp2_with (at_builtin
                       refine wp_appO (w0 := wr) (A := A2) (m := n2) (r := l2) (ys := x2) rfl (.tmp 31) (.tmp 32) rfl HO.out HN.out.2 HZ.out.2 (fun ad e => (HA2.out ad e).below HBel.out) (HR2.out.of (fun a v _ hc => cell_below HBel.out hc) (fun k hk hlt => ⟨⟨hk, hlt⟩, fun e => by have := HO.out; obtain ⟨xs, ho, _⟩ := this; have := own_base ho k e; omega⟩)) (Below.refl _ _) Try.underlying27 info_pkt rfl (by decide) rfl rfl (by have := HN.out.1; omega) (by have := HN.out.1; omega) HBel.out.size ?_
                       intro v1 w1 h5 h6 h7 h8
                       have HO1 := Lib.hid h5
                       have HB1 := Lib.hid (HBel.out.trans h6)
                       obtain ⟨A', c', rfl, _⟩ := OwnG.rows h5
                       clear h5 h6 h7 h8)
          go_roundw
          case measure => simp [intOf]
          case rel => exact ⟨2, _, _, by omega, rfl, rfl, (by have h := HO1.out; rw [List.length_append] at h; exact h), HB1.out, .inr (.inr ⟨rfl, rfl⟩)⟩
        · go_wp2_with fail
          go_ret
          exact ⟨_, rfl, hacc ▸ HO.out, HBel.out⟩
end Go.Proofs.Ytapoechkbbklfaa
