import Derived.Test.YtapoechkbbklfaaNetA
namespace Go.Proofs.Ytapoechkbbklfaa
open Go.RowKit
set_option linter.unusedVariables false
set_option linter.unusedSimpArgs false
set_option maxRecDepth 20000 in
theorem eqn_pkt (a : Option Addr) (n c : Nat) (w : World) : (binOp .eql 27 (.slice a n c) (.slice none 0 0)).run Try.prog w = .ok (.bool a.isNone) w := Lib.run_eql_slice_nil w _ _ a n c 0 0 Try.underlying27
attribute [local go_sem] eqn_pkt
set_option maxRecDepth 20000 in
/-- slices.Clone of packets: a row of its own; the data are those of the first row. -/
theorem clone_pkt (w : World) (ok : Nat → Prop) (A : Option Addr) (n c : Nat) (l : List PKT.Ty) (h : Rd w ok (.sl PKT) l [.slice A n c]) (hl : n ≤ 100000) :
    Calls Try.prog 42 #[.slice A n c] w fun e w' => ∃ A' c', e = .returned (.slice A' n c') ∧ OwnG w' w.heap.size (fun k => ok k ∧ k < w.heap.size) 37 PKT (.slice A' n c') l ∧ Below w.heap.size w w' ∧ (∀ k, (Value.slice A' n c').ownBlock = some k → k < w.heap.size + 2) := by
  obtain ⟨h1, h2, h3, h4⟩ := rd_rowsN h
  have hn := h4.1
  cases A with
  | none =>
    have hc := h3 rfl
    subst hc
    obtain rfl : n = 0 := by omega
    obtain rfl : l = [] := List.eq_nil_of_length_eq_zero hn
    go_enter Try.func42, Try.ntmps42
    go_wp2_with fail
    go_ret
    exact ⟨_, _, rfl, ⟨[], own_nil _ _ _ _, rfl⟩, Below.refl _ _, fun k e => by cases e⟩
  | some ad =>
    obtain ⟨ys, hy, hat⟩ := h4.cells
    have ha := (hat ad rfl).2
    have hz : OwnG (w.alloc (.cells #[] 37)) w.heap.size (fun k => ok k ∧ k < w.heap.size) 37 PKT (.slice (some ⟨w.heap.size, 0, none⟩) 0 0) [] := ⟨[], World.ownsRow_lit (base := w.heap.size) (e := 37) (size := 3) w #[] 0 (Nat.le_refl _) (by simp [maxLen]) rfl, rfl⟩
    have hbz := below_alloc1 w (.cells #[] 37)
    have HA := Lib.hid (ha.of (ok := anyB) (fun _ => trivial) (fun a v _ hc => cell_below hbz hc))
    have HY := Lib.hid (show RdL (w.alloc (.cells #[] 37)) (fun k => (ok k ∧ k < w.heap.size) ∧ (Value.slice (some ⟨w.heap.size, 0, none⟩) 0 0).ownBlock ≠ some k) PKT l ys from hy.of (fun a v _ hc => cell_below hbz hc) (fun k hk hlt => ⟨⟨hk, hlt⟩, fun e => by have e : some w.heap.size = some k := e; injection e with e; omega⟩))
    have HZ := Lib.hid hz
    have HN := Lib.hid hn
    clear h h4 hy hat ha hz hn
    go_enter Try.func42, Try.ntmps42
    go_wp2_with (at_builtin
                 refine wp_appO (A := some ad) (m := n) (r := l) (l := []) (ys := ys) (w0 := w) rfl (.tmp 5) (.tmp 6) rfl HZ.out HN.out.symm (fun e => by cases e) (fun ad' e => by cases e; exact HA.out) HY.out hbz Try.underlying27 info_pkt rfl (by decide) rfl rfl (by simp; omega) (by simp; omega) (by simp) ?_
                 intro v1 w1 h5 h6 h7 h8
                 rw [List.nil_append] at h5
                 have HO := Lib.hid h5
                 have HB := Lib.hid h6
                 have H8 := Lib.hid h8
                 obtain ⟨A', c', rfl, _⟩ := OwnG.rows h5
                 rw [HN.out] at HO H8 ⊢
                 clear h5 h6 h7 h8)
    go_ret
    refine ⟨A', c', rfl, HO.out, HB.out, fun k e => ?_⟩
    rcases H8.out with h | h
    · rw [h] at e; have e : some w.heap.size = some k := e; injection e; omega
    · rw [h] at e; injection e with e; simp at e; omega
/-- A net: the block b1 holds its room and its packets' row, which is its own, as are their data. -/
def NetR (w : World) (b1 B : Nat) (room : Int) (sv : Value) (l : List PKT.Ty) : Prop :=
  w.heap[b1]? = some (.cells #[.int .i64 room, sv] 76 (0, 0)) ∧ Own w B 37 PKT sv l ∧ b1 < B ∧ B ≤ w.heap.size ∧ l.length ≤ 10000
/-- What a net's methods may turn. -/
def pN (b1 : Nat) (sv : Value) (k : Nat) : Prop := k = b1 ∨ sv.ownBlock = some k
/-- The net behind a method. -/
def NetTo (w : World) (b1 B : Nat) (room : Int) (sv : Value) (l : List PKT.Ty) (w' : World) : Prop :=
  ∃ sv', NetR w' b1 B room sv' l ∧ Turn (pN b1 sv) w w' ∧ (∀ k, sv'.ownBlock = some k → sv.ownBlock = some k ∨ w.heap.size ≤ k)
set_option maxRecDepth 20000 in
theorem new_any (w : World) (room : Int) :
    Calls Try.prog 10 #[.int .i64 room] w fun e w' => e = .returned (.pointer (some ⟨w.heap.size, 0, none⟩)) ∧ w' = w.alloc (.cells #[.int .i64 (max room 0), .slice none 0 0] 76) := by
  go_enter Try.func10, Try.ntmps10
  go_wp2_with fail
  all_goals go_ret
  all_goals first
    | (rw [show max room 0 = 0 by omega]; exact ⟨rfl, rfl⟩)
    | (rw [show max room 0 = room by omega]; exact ⟨rfl, rfl⟩)
set_option maxRecDepth 20000 in
theorem NetR.form {w : World} {b1 B : Nat} {room : Int} {sv : Value} {l : List PKT.Ty} (h : NetR w b1 B room sv l) : ∃ A c, sv = .slice A l.length c := by
  obtain ⟨A, c, e, _⟩ := OwnG.rows h.2.1
  exact ⟨A, c, e⟩
set_option maxRecDepth 20000 in
theorem len_any (w : World) (b1 B : Nat) (room : Int) (sv : Value) (l : List PKT.Ty) (h : NetR w b1 B room sv l) :
    Calls Try.prog 21 #[.pointer (some ⟨b1, 0, none⟩)] w fun e w' => e = .returned (.int .i64 l.length) ∧ w = w' := by
  obtain ⟨A, c, rfl⟩ := h.form
  have h1 := h.1
  obtain ⟨p0, p1⟩ := blk2 h1
  clear h h1
  go_enter Try.func21, Try.ntmps21
  go_wp2_with fail
  go_ret
  exact ⟨rfl, rfl⟩
set_option maxRecDepth 20000 in
theorem len_nil (w : World) : Calls Try.prog 21 #[.pointer none] w fun e w' => e = .returned (.int .i64 0) ∧ w = w' := by
  go_enter Try.func21, Try.ntmps21
  go_wp2_with fail
  go_ret
  exact ⟨rfl, rfl⟩
set_option maxRecDepth 20000 in
theorem place_eq {n : Nat} {i : Int} (h0 : 0 < n) (hn : n ≤ 10000) : (wrap64 (i.tmod n + n)).tmod n = i % n := by
  have h1 : -(n : Int) < i.tmod n := by have := Int.lt_tmod_of_pos i (show (0 : Int) < n by omega); omega
  have h2 : i.tmod n < n := Int.tmod_lt_of_pos i (by omega)
  rw [IntWalk.wrap64_in _ (by omega), Int.tmod_eq_emod_of_nonneg (by omega), Int.add_emod_right, Int.tmod_def, Int.sub_mul_emod_self_left]
set_option maxRecDepth 20000 in
theorem ret_int {a b : Int} (h : a = b) : Ending.returned (.int .i64 a) = .returned (.int .i64 b) := by rw [h]
def placeZ (n : Nat) (i : Int) : Int := if n = 0 then -1 else i % (n : Int)
set_option maxRecDepth 20000 in
theorem place_any (w : World) (b1 B : Nat) (room : Int) (sv : Value) (l : List PKT.Ty) (i : Int) (h : NetR w b1 B room sv l) (hi : -9223372036854775808 ≤ i ∧ i < 9223372036854775808) :
    Calls Try.prog 38 #[.pointer (some ⟨b1, 0, none⟩), .int .i64 i] w fun e w' => e = .returned (.int .i64 (placeZ l.length i)) ∧ w = w' := by
  have HL := Lib.hid (len_any w b1 B room sv l h)
  have hl := h.2.2.2.2
  clear h
  generalize l.length = n at *
  unfold placeZ
  by_cases h0 : n = 0
  · subst h0
    rw [if_pos rfl]
    go_enter Try.func38, Try.ntmps38
    go_wp2_with (go_at_call 21; refine HL.out.mono ?_; rintro e w1 ⟨rfl, rfl⟩)
    go_ret
    exact ⟨rfl, rfl⟩
  · rw [if_neg h0]
    have hb : ((n : Int) == 0) = false := by rw [beq_eq_false_iff_ne]; omega
    go_enter Try.func38, Try.ntmps38
    go_wp2_with (go_at_call 21; refine HL.out.mono ?_; rintro e w1 ⟨rfl, rfl⟩)
    go_ret
    exact ⟨ret_int (place_eq (by omega) hl), rfl⟩
end Go.Proofs.Ytapoechkbbklfaa
