import Derived.Test.YtfjnpiahloncmaaHel
import Derived.Test.YtfjnpiahloncmaaRdG
namespace Go.Proofs.Ytfjnpiahloncmaa
open Go.RowKit
set_option linter.unusedVariables false
set_option linter.unusedSimpArgs false
set_option maxRecDepth 20000 in
theorem run_store_float {P : Program} {w : World} {a : Addr} {m : Mode} (k : FloatKind) (x : Nat) : (store a (.float k x) m).run P w = stored P w a (.float k x) m := run_store P w a _ m rfl
set_option maxRecDepth 20000 in
theorem i64_of {n : Int} (h : (Lit.int .i64 n).wf = true) : -9223372036854775808 ≤ n ∧ n < 9223372036854775808 := by
  have : -(2 ^ 63) ≤ n ∧ n ≤ 2 ^ 63 - 1 := by simpa [Lit.wf, IntKind.min, IntKind.max, IntKind.bits, IntKind.signed] using h
  omega
set_option maxRecDepth 20000 in
theorem u64_of {n : Int} (h : (Lit.int .u64 n).wf = true) : 0 ≤ n ∧ n < 18446744073709551616 := by
  have : 0 ≤ n ∧ n ≤ 2 ^ 64 - 1 := by simpa [Lit.wf, IntKind.min, IntKind.max, IntKind.bits, IntKind.signed] using h
  omega
set_option maxRecDepth 20000 in
theorem of_u64 {n : Int} (h : 0 ≤ n ∧ n < 18446744073709551616) : (Lit.int .u64 n).wf = true := by
  simp [Lit.wf, IntKind.min, IntKind.max, IntKind.bits, IntKind.signed]; omega
set_option maxRecDepth 20000 in
theorem of_i64 {n : Int} (h : -9223372036854775808 ≤ n ∧ n < 9223372036854775808) : (Lit.int .i64 n).wf = true := by
  simp [Lit.wf, IntKind.min, IntKind.max, IntKind.bits, IntKind.signed]; omega
abbrev LIST : Sh := .cons (.int .u64) (.cons (.str) (.nil))
def LISTOk : LIST.Ty → Prop := fun (a0, a1, _) => (0 ≤ a0 ∧ a0 < 18446744073709551616) ∧ (a1.size ≤ 9223372036854775807)
set_option maxRecDepth 20000 in
theorem rd_lst {w : World} {ok : Nat → Prop} {x : LIST.Ty} {cs : List Value} (h : Rd w ok LIST x cs) :
    ∃ (a0 : Int) (a1 : ByteArray), x = (a0, a1, ()) ∧ cs = [.int .u64 a0, .string a1] ∧ LISTOk (a0, a1, ()) := by
  obtain ⟨a0, a1, ⟨⟩⟩ := x
  obtain ⟨_, _, rfl, ⟨rfl, w0⟩, _, _, rfl, ⟨rfl, w1⟩, rfl⟩ := h
  exact ⟨a0, a1, rfl, rfl, ⟨u64_of w0, w1⟩⟩
set_option maxRecDepth 20000 in
theorem rd_lst_mk {w : World} {ok : Nat → Prop} {a0 : Int} {a1 : ByteArray}  (hx : LISTOk (a0, a1, ()))  :
    Rd w ok LIST (a0, a1, ()) [.int .u64 a0, .string a1] := by
  obtain ⟨g0, g1⟩ := hx
  exact ⟨[_], _, rfl, ⟨rfl, of_u64 g0⟩, [_], [], rfl, ⟨rfl, g1⟩, rfl⟩
abbrev TASK : Sh := .cons (.int .u64) (.cons (.int .u64) (.cons (.str) (.cons (.bool) (.cons (.f64) (.cons (.f64) (.cons (.sl (.str)) (.nil)))))))
def TASKOk : TASK.Ty → Prop := fun (a0, a1, a2, a3, a4, a5, a6, _) => (0 ≤ a0 ∧ a0 < 18446744073709551616) ∧ (0 ≤ a1 ∧ a1 < 18446744073709551616) ∧ (a2.size ≤ 9223372036854775807) ∧ (a4 < 18446744073709551616) ∧ (a5 < 18446744073709551616)
set_option maxRecDepth 20000 in
theorem rd_task {w : World} {ok : Nat → Prop} {x : TASK.Ty} {cs : List Value} (h : Rd w ok TASK x cs) :
    ∃ (a0 : Int) (a1 : Int) (a2 : ByteArray) (a3 : Bool) (a4 : Nat) (a5 : Nat) (a6 : List (Sh.Ty (.str))) (A6 : Option Addr) (c6 : Nat), x = (a0, a1, a2, a3, a4, a5, a6, ()) ∧ cs = [.int .u64 a0, .int .u64 a1, .string a2, .bool a3, .float .f64 a4, .float .f64 a5, .slice A6 a6.length c6] ∧ TASKOk (a0, a1, a2, a3, a4, a5, a6, ()) ∧ Rd w ok (.sl (.str)) a6 [.slice A6 a6.length c6] := by
  obtain ⟨a0, a1, a2, a3, a4, a5, a6, ⟨⟩⟩ := x
  obtain ⟨_, _, rfl, ⟨rfl, w0⟩, _, _, rfl, ⟨rfl, w1⟩, _, _, rfl, ⟨rfl, w2⟩, _, _, rfl, rfl, _, _, rfl, ⟨rfl, w4⟩, _, _, rfl, ⟨rfl, w5⟩, _, _, rfl, h6, rfl⟩ := h
  obtain ⟨A6, c6, rfl⟩ := rd_slv h6
  exact ⟨a0, a1, a2, a3, a4, a5, a6, A6, c6, rfl, rfl, ⟨u64_of w0, u64_of w1, w2, w4, w5⟩, h6⟩
set_option maxRecDepth 20000 in
theorem rd_task_mk {w : World} {ok : Nat → Prop} {a0 : Int} {a1 : Int} {a2 : ByteArray} {a3 : Bool} {a4 : Nat} {a5 : Nat} {a6 : List (Sh.Ty (.str))} {A6 : Option Addr} {n6 c6 : Nat} (hx : TASKOk (a0, a1, a2, a3, a4, a5, a6, ())) (h6 : Rd w ok (.sl (.str)) a6 [.slice A6 n6 c6]) :
    Rd w ok TASK (a0, a1, a2, a3, a4, a5, a6, ()) [.int .u64 a0, .int .u64 a1, .string a2, .bool a3, .float .f64 a4, .float .f64 a5, .slice A6 n6 c6] := by
  obtain ⟨g0, g1, g2, g4, g5⟩ := hx
  exact ⟨[_], _, rfl, ⟨rfl, of_u64 g0⟩, [_], _, rfl, ⟨rfl, of_u64 g1⟩, [_], _, rfl, ⟨rfl, g2⟩, [_], _, rfl, rfl, [_], _, rfl, ⟨rfl, g4⟩, [_], _, rfl, ⟨rfl, g5⟩, [_], [], rfl, h6, rfl⟩
abbrev STATE : Sh := .cons (.sl (LIST)) (.cons (.sl (TASK)) (.nil))
def STATEOk : STATE.Ty → Prop := fun (a0, a1, _) => True
set_option maxRecDepth 20000 in
theorem rd_state {w : World} {ok : Nat → Prop} {x : STATE.Ty} {cs : List Value} (h : Rd w ok STATE x cs) :
    ∃ (a0 : List (Sh.Ty (LIST))) (a1 : List (Sh.Ty (TASK))) (A0 : Option Addr) (c0 : Nat) (A1 : Option Addr) (c1 : Nat), x = (a0, a1, ()) ∧ cs = [.slice A0 a0.length c0, .slice A1 a1.length c1] ∧ STATEOk (a0, a1, ()) ∧ Rd w ok (.sl (LIST)) a0 [.slice A0 a0.length c0] ∧ Rd w ok (.sl (TASK)) a1 [.slice A1 a1.length c1] := by
  obtain ⟨a0, a1, ⟨⟩⟩ := x
  obtain ⟨_, _, rfl, h0, _, _, rfl, h1, rfl⟩ := h
  obtain ⟨A0, c0, rfl⟩ := rd_slv h0
  obtain ⟨A1, c1, rfl⟩ := rd_slv h1
  exact ⟨a0, a1, A0, c0, A1, c1, rfl, rfl, trivial, h0, h1⟩
set_option maxRecDepth 20000 in
theorem rd_state_mk {w : World} {ok : Nat → Prop} {a0 : List (Sh.Ty (LIST))} {a1 : List (Sh.Ty (TASK))} {A0 : Option Addr} {n0 c0 : Nat} {A1 : Option Addr} {n1 c1 : Nat} (hx : STATEOk (a0, a1, ())) (h0 : Rd w ok (.sl (LIST)) a0 [.slice A0 n0 c0]) (h1 : Rd w ok (.sl (TASK)) a1 [.slice A1 n1 c1]) :
    Rd w ok STATE (a0, a1, ()) [.slice A0 n0 c0, .slice A1 n1 c1] := by
  exact ⟨[_], _, rfl, h0, [_], [], rfl, h1, rfl⟩
theorem blk2 {w : World} {b : Nat} {v0 v1 : Value} {t : TypeId} {f : Nat × Nat} (h : w.heap[b]? = some (.cells #[v0, v1] t f)) : w.cell? ⟨b, 0, none⟩ = some v0 ∧ w.cell? ⟨b, 1, none⟩ = some v1 := by
  refine ⟨?_, ?_⟩ <;> simp [World.cell?, h]
theorem blk7 {w : World} {b : Nat} {v0 v1 v2 v3 v4 v5 v6 : Value} {t : TypeId} {f : Nat × Nat} (h : w.heap[b]? = some (.cells #[v0, v1, v2, v3, v4, v5, v6] t f)) : w.cell? ⟨b, 0, none⟩ = some v0 ∧ w.cell? ⟨b, 1, none⟩ = some v1 ∧ w.cell? ⟨b, 2, none⟩ = some v2 ∧ w.cell? ⟨b, 3, none⟩ = some v3 ∧ w.cell? ⟨b, 4, none⟩ = some v4 ∧ w.cell? ⟨b, 5, none⟩ = some v5 ∧ w.cell? ⟨b, 6, none⟩ = some v6 := by
  refine ⟨?_, ?_, ?_, ?_, ?_, ?_, ?_⟩ <;> simp [World.cell?, h]
end Go.Proofs.Ytfjnpiahloncmaa
