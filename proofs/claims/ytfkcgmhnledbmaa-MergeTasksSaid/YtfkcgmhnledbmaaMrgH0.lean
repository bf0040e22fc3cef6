import Derived.Test.YtfkcgmhnledbmaaMrgG
import Derived.Test.YtfkcgmhnledbmaaTskE
namespace Go.Proofs.Ytfkcgmhnledbmaa
open Go.RowKit FP
set_option linter.unusedVariables false
set_option linter.unusedSimpArgs false
set_option maxRecDepth 20000 in
theorem info_task : (Try.prog.info? 26).map (fun i => (i.zero, i.size, i.bytes)) = some (some (.agg #[.int .u64 0, .int .u64 0, .string ⟨#[]⟩, .bool false, .float .f64 0, .float .f64 0, .slice none 0 0]), 7, (Try.prog.bytesOf 26)) := by kernel_rfl
set_option maxRecDepth 20000 in
theorem run_lit3 (w : World) (a0 a1 a2 a3 a4 a5 a6 b0 b1 b2 b3 b4 b5 b6 c0 c1 c2 c3 c4 c5 c6 : Value) :
    (Instr.buildSlice 29 3 #[(0, .agg #[a0, a1, a2, a3, a4, a5, a6]), (1, .agg #[b0, b1, b2, b3, b4, b5, b6]), (2, .agg #[c0, c1, c2, c3, c4, c5, c6])]).run Try.prog w =
      .ok (.slice (some ⟨w.heap.size, 0, none⟩) 3 3) (w.alloc (.cells #[a0, a1, a2, a3, a4, a5, a6, b0, b1, b2, b3, b4, b5, b6, c0, c1, c2, c3, c4, c5, c6] 26)) := by
  obtain ⟨ie, hi, hzz⟩ := Option.map_eq_some_iff.1 info_task
  simp only [Prod.mk.injEq] at hzz
  obtain ⟨hz0, hz1, hz2⟩ := hzz
  refine run_buildSlice w 29 26 3 _ _ ie _ Try.underlying29 hi hz0 (by omega) (by omega) ?_
  rw [hz1]
  kernel_rfl
section
variable {ops : Array Oper} {rest : List Oper} {o : Oper} {a : Act} {Q : Exit → Act → World → Prop}
set_option maxRecDepth 20000 in
theorem wpL_lit3 {W : World} {a0 a1 a2 a3 a4 a5 a6 b0 b1 b2 b3 b4 b5 b6 c0 c1 c2 c3 c4 c5 c6 : Value} (hgd : o.guard = none) (x y z : Operand) (ho : o.op = .buildSlice 29 3 #[(0, x), (1, y), (2, z)])
    (hx : a.eval x = .agg #[a0, a1, a2, a3, a4, a5, a6]) (hy : a.eval y = .agg #[b0, b1, b2, b3, b4, b5, b6]) (hz : a.eval z = .agg #[c0, c1, c2, c3, c4, c5, c6])
    (h : wpList Try.prog ops Q rest (a.put o.dst (.slice (some ⟨W.heap.size, 0, none⟩) 3 3)) (W.alloc (.cells #[a0, a1, a2, a3, a4, a5, a6, b0, b1, b2, b3, b4, b5, b6, c0, c1, c2, c3, c4, c5, c6] 26))) : wpList Try.prog ops Q (o :: rest) a W :=
  wpList_plain hgd fun _ hK => by
    unfold Oper.wp execOp
    simp only [ho, Sem.run_bind, List.map_toArray, List.map_cons, List.map_nil, hx, hy, hz, run_lit3, Result.andThen_ok]
    exact hK _ _ h
end
/-- Tasks of which nothing but tags is told. -/
def tk (g : List ByteArray) : TASK.Ty := (0, 0, ⟨#[]⟩, false, 0, 0, g, ())
def tkC (A : Option Addr) (n c : Nat) : List Value := [.int .u64 0, .int .u64 0, .string ⟨#[]⟩, .bool false, .float .f64 0, .float .f64 0, .slice A n c]
set_option maxRecDepth 20000 in
theorem rd_tk {w : World} {A : Option Addr} {n c : Nat} {g : List ByteArray} (h : Rd w anyB (.sl .str) g [.slice A n c]) : Rd w anyB TASK (tk g) (tkC A n c) :=
  rd_task_mk ⟨⟨by decide, by decide⟩, ⟨by decide, by decide⟩, by decide, by decide, by decide⟩ h
set_option maxRecDepth 20000 in
theorem rows_tk {w : World} {ad : Addr} {A B C : Option Addr} {n c m d k e : Nat} {g h l : List ByteArray} (hg : Rd w anyB (.sl .str) g [.slice A n c]) (hh : Rd w anyB (.sl .str) h [.slice B m d]) (hl : Rd w anyB (.sl .str) l [.slice C k e]) (hat : At w ad 0 (tkC A n c ++ (tkC B m d ++ tkC C k e))) :
    Rows w anyB TASK (some ad) 3 [tk g, tk h, tk l] := by
  refine rows_of (l := [tk g, tk h, tk l]) (cs := tkC A n c ++ (tkC B m d ++ tkC C k e)) ⟨_, _, rfl, rd_tk hg, ⟨_, _, rfl, rd_tk hh, RdL.single (rd_tk hl)⟩⟩ (fun _ => trivial) hat
end Go.Proofs.Ytfkcgmhnledbmaa
