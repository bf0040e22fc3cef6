import Derived.Test.YtfjnpiahloncmaaGreatCdcI
namespace Go.Proofs.YtfjnpiahloncmaaGreat
open Go.RowKit Cdc
set_option linter.unusedVariables false
set_option linter.unusedSimpArgs false
abbrev PART : Sh := .cons (.int .i64) (.cons (.int .u64) (.cons (.int .i64) (.cons .f64 (.cons (.sl .byte) (.cons .bool .nil)))))
set_option maxRecDepth 20000 in
theorem rd_one {w : World} {ok : Nat → Prop} {e : Sh} {l : List e.Ty} {cs : List Value} (h : Rd w ok (.sl e) l cs) : ∃ v, cs = [v] := by
  obtain ⟨A, n, c, h, _⟩ := h
  exact ⟨_, h⟩
set_option maxRecDepth 20000 in
theorem i64_of {n : Int} (h : (Lit.int .i64 n).wf = true) : -9223372036854775808 ≤ n ∧ n < 9223372036854775808 := by
  have : -(2 ^ 63) ≤ n ∧ n ≤ 2 ^ 63 - 1 := by simpa [Lit.wf, IntKind.min, IntKind.max, IntKind.bits, IntKind.signed] using h
  omega
set_option maxRecDepth 20000 in
theorem u64_of {n : Int} (h : (Lit.int .u64 n).wf = true) : 0 ≤ n ∧ n < 18446744073709551616 := by
  have : 0 ≤ n ∧ n ≤ 2 ^ 64 - 1 := by simpa [Lit.wf, IntKind.min, IntKind.max, IntKind.bits, IntKind.signed] using h
  omega
set_option maxRecDepth 20000 in
theorem of_u64 {n : Int} (h : 0 ≤ n ∧ n < 18446744073709551616) : (Lit.int .u64 n).wf = true := by
  simp [Lit.wf, IntKind.min, IntKind.max, IntKind.bits, IntKind.signed]; omega
set_option maxRecDepth 20000 in
theorem of_i64 {n : Int} (h : -9223372036854775808 ≤ n ∧ n < 9223372036854775808) : (Lit.int .i64 n).wf = true := by
  simp [Lit.wf, IntKind.min, IntKind.max, IntKind.bits, IntKind.signed]; omega
set_option maxRecDepth 20000 in
theorem rd_part {w : World} {ok : Nat → Prop} {x : PART.Ty} {cs : List Value} (h : Rd w ok PART x cs) :
    ∃ (k n i : Int) (f : Nat) (b : List UInt8) (q : Bool) (bv : Value), cs = [.int .i64 k, .int .u64 n, .int .i64 i, .float .f64 f, bv, .bool q] ∧ x = (k, n, i, f, b, q, ()) ∧ (Lit.int .i64 k).wf = true ∧ PartOk (k, n, i, f, b, q, ()) ∧ Rd w ok (.sl .byte) b [bv] := by
  obtain ⟨k, n, i, f, b, q, ⟨⟩⟩ := x
  obtain ⟨_, _, rfl, ⟨rfl, w1⟩, _, _, rfl, ⟨rfl, w2⟩, _, _, rfl, ⟨rfl, w3⟩, _, _, rfl, ⟨rfl, w4⟩, c5, _, rfl, h5, _, _, rfl, rfl, rfl⟩ := h
  obtain ⟨bv, rfl⟩ := rd_one h5
  exact ⟨k, n, i, f, b, q, bv, rfl, rfl, w1, ⟨(u64_of w2).1, (u64_of w2).2, (i64_of w3).1, (i64_of w3).2, w4⟩, h5⟩
set_option maxRecDepth 20000 in
theorem rd_part_mk {w : World} {ok : Nat → Prop} {k n i : Int} {f : Nat} {b : List UInt8} {q : Bool} {bv : Value} (hk : (Lit.int .i64 k).wf = true) (hx : PartOk (k, n, i, f, b, q, ())) (h : Rd w ok (.sl .byte) b [bv]) :
    Rd w ok PART (k, n, i, f, b, q, ()) [.int .i64 k, .int .u64 n, .int .i64 i, .float .f64 f, bv, .bool q] := by
  obtain ⟨a1, a2, a3, a4, a5⟩ := hx
  exact ⟨[_], _, rfl, ⟨rfl, hk⟩, [_], _, rfl, ⟨rfl, of_u64 ⟨a1, a2⟩⟩, [_], _, rfl, ⟨rfl, of_i64 ⟨a3, a4⟩⟩, [_], _, rfl, ⟨rfl, a5⟩, [_], _, rfl, h, [_], [], rfl, rfl, rfl⟩
set_option maxRecDepth 20000 in
theorem rd_bs {w : World} {ok : Nat → Prop} {l : List UInt8} {v : Value} (h : Rd w ok (.sl .byte) l [v]) : ∃ A c, v = .slice A l.length c ∧ l.length ≤ c ∧ c ≤ 9223372036854775807 ∧ (A = none → c = 0) ∧ Bs w A l.length l := by
  obtain ⟨A, n, c, h1, h2, h3, h4, h5⟩ := rd_sl.1 h
  simp at h1
  have hl := h5.1
  subst hl
  exact ⟨A, c, h1, h2, h3, h4, rows_bytes (by omega) h5⟩
theorem blk6 {w : World} {b : Nat} {v0 v1 v2 v3 v4 v5 : Value} {t : TypeId} {f : Nat × Nat} (h : w.heap[b]? = some (.cells #[v0, v1, v2, v3, v4, v5] t f)) : w.cell? ⟨b, 0, none⟩ = some v0 ∧ w.cell? ⟨b, 1, none⟩ = some v1 ∧ w.cell? ⟨b, 2, none⟩ = some v2 ∧ w.cell? ⟨b, 3, none⟩ = some v3 ∧ w.cell? ⟨b, 4, none⟩ = some v4 ∧ w.cell? ⟨b, 5, none⟩ = some v5 := by
  refine ⟨?_, ?_, ?_, ?_, ?_, ?_⟩ <;> simp [World.cell?, h]
abbrev keyN (f : Nat) : Nat := (keyF f).toNat
set_option maxRecDepth 20000 in
theorem encPart_le (x : PartT) (hb : x.2.2.2.2.1.length ≤ 1000) : (encPart keyN x).length ≤ 1009 := by
  unfold encPart
  have h1 := encN_le x.2.1.toNat
  have h2 := encN_le (zig x.2.2.1)
  have h3 := encN_le x.2.2.2.2.1.length
  have h4 := encN_le (if x.2.2.2.2.2.1 = true then 1 else 0)
  have h5 := encN_le 1
  have h6 := encN_le 0
  (repeat' split) <;> simp [be_len] <;> omega
set_option maxRecDepth 20000 in
theorem encParts_snoc (l : List PartT) (x : PartT) : encParts keyN (l ++ [x]) = encParts keyN l ++ encPart keyN x := by
  induction l with
  | nil => simp [encParts]
  | cons y l ih => simp [encParts, ih]
set_option maxRecDepth 20000 in
theorem encParts_le : ∀ (l : List PartT), (∀ x ∈ l, x.2.2.2.2.1.length ≤ 1000) → (encParts keyN l).length ≤ 1009 * l.length
  | [], _ => by simp [encParts]
  | x :: l, h => by
    have h1 := encParts_le l (fun y hy => h y (List.mem_cons_of_mem _ hy))
    have h2 := encPart_le x (h x List.mem_cons_self)
    simp only [encParts, List.length_append, List.length_cons]
    omega
end Go.Proofs.YtfjnpiahloncmaaGreat
