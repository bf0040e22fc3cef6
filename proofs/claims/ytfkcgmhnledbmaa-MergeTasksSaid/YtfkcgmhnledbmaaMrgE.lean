import Derived.Test.YtfkcgmhnledbmaaMrgD
import Derived.Test.YtfkcgmhnledbmaaFltL
import Derived.Test.YtfkcgmhnledbmaaTskD
namespace Go.Proofs.Ytfkcgmhnledbmaa
open Go.RowKit FP
set_option linter.unusedVariables false
set_option linter.unusedSimpArgs false
/-- What comes of three values of a field, and whether they clash. -/
def pk {α : Type} (eb eab ea : Bool) (a b : α) : α × Bool := if eb || eab then (a, false) else if ea then (b, false) else (a, true)
set_option maxRecDepth 20000 in
theorem alike_u (a b : Int) (w : World) : Calls Try.prog 16 #[.int .u64 a, .int .u64 b] w fun e w' => e = .returned (.bool (a == b)) ∧ w = w' := by
  go_enter Try.func16, Try.ntmps16
  go_wp2
  go_ret
  exact ⟨rfl, rfl⟩
set_option maxRecDepth 20000 in
theorem alike_s (a b : ByteArray) (w : World) : Calls Try.prog 18 #[.string a, .string b] w fun e w' => e = .returned (.bool (a.toList == b.toList)) ∧ w = w' := by
  go_enter Try.func18, Try.ntmps18
  go_wp2
  go_ret
  exact ⟨rfl, rfl⟩
set_option maxRecDepth 20000 in
theorem alike_b (a b : Bool) (w : World) : Calls Try.prog 20 #[.bool a, .bool b] w fun e w' => e = .returned (.bool (a == b)) ∧ w = w' := by
  go_enter Try.func20, Try.ntmps20
  go_wp2
  go_ret
  exact ⟨rfl, rfl⟩
set_option maxHeartbeats 2000000 in
set_option maxRecDepth 20000 in
theorem pick_u (w : World) (o a b : Int) : Calls Try.prog 15 #[.int .u64 o, .int .u64 a, .int .u64 b, .func (.func 16) #[] #[]] w fun e w' => e = .returned (.tuple #[.int .u64 (pk (b == o) (a == b) (a == o) a b).1, .bool (pk (b == o) (a == b) (a == o) a b).2]) ∧ w = w' := by
  cases h1 : (b == o) with
  | true =>
    go_enter Try.func15, Try.ntmps15
    go_wp2_with (go_at_call 16; refine (alike_u _ _ _).mono ?_; rintro e w' ⟨rfl, rfl⟩)
    go_ret2
    exact ⟨rfl, rfl⟩
  | false =>
    cases h2 : (a == b) with
    | true =>
      go_enter Try.func15, Try.ntmps15
      go_wp2_with (go_at_call 16; refine (alike_u _ _ _).mono ?_; rintro e w' ⟨rfl, rfl⟩)
      go_ret2
      exact ⟨rfl, rfl⟩
    | false =>
      cases h3 : (a == o) with
      | true =>
        go_enter Try.func15, Try.ntmps15
        go_wp2_with (go_at_call 16; refine (alike_u _ _ _).mono ?_; rintro e w' ⟨rfl, rfl⟩)
        go_ret2
        exact ⟨rfl, rfl⟩
      | false =>
        go_enter Try.func15, Try.ntmps15
        go_wp2_with (go_at_call 16; refine (alike_u _ _ _).mono ?_; rintro e w' ⟨rfl, rfl⟩)
        go_ret2
        exact ⟨rfl, rfl⟩
set_option maxHeartbeats 2000000 in
set_option maxRecDepth 20000 in
theorem pick_s (w : World) (o a b : ByteArray) : Calls Try.prog 17 #[.string o, .string a, .string b, .func (.func 18) #[] #[]] w fun e w' => e = .returned (.tuple #[.string (pk (b.toList == o.toList) (a.toList == b.toList) (a.toList == o.toList) a b).1, .bool (pk (b.toList == o.toList) (a.toList == b.toList) (a.toList == o.toList) a b).2]) ∧ w = w' := by
  cases h1 : (b.toList == o.toList) with
  | true =>
    go_enter Try.func17, Try.ntmps17
    go_wp2_with (go_at_call 18; refine (alike_s _ _ _).mono ?_; rintro e w' ⟨rfl, rfl⟩)
    go_ret2
    exact ⟨rfl, rfl⟩
  | false =>
    cases h2 : (a.toList == b.toList) with
    | true =>
      go_enter Try.func17, Try.ntmps17
      go_wp2_with (go_at_call 18; refine (alike_s _ _ _).mono ?_; rintro e w' ⟨rfl, rfl⟩)
      go_ret2
      exact ⟨rfl, rfl⟩
    | false =>
      cases h3 : (a.toList == o.toList) with
      | true =>
        go_enter Try.func17, Try.ntmps17
        go_wp2_with (go_at_call 18; refine (alike_s _ _ _).mono ?_; rintro e w' ⟨rfl, rfl⟩)
        go_ret2
        exact ⟨rfl, rfl⟩
      | false =>
        go_enter Try.func17, Try.ntmps17
        go_wp2_with (go_at_call 18; refine (alike_s _ _ _).mono ?_; rintro e w' ⟨rfl, rfl⟩)
        go_ret2
        exact ⟨rfl, rfl⟩
set_option maxHeartbeats 2000000 in
set_option maxRecDepth 20000 in
theorem pick_b (w : World) (o a b : Bool) : Calls Try.prog 19 #[.bool o, .bool a, .bool b, .func (.func 20) #[] #[]] w fun e w' => e = .returned (.tuple #[.bool (pk (b == o) (a == b) (a == o) a b).1, .bool (pk (b == o) (a == b) (a == o) a b).2]) ∧ w = w' := by
  cases h1 : (b == o) with
  | true =>
    go_enter Try.func19, Try.ntmps19
    go_wp2_with (go_at_call 20; refine (alike_b _ _ _).mono ?_; rintro e w' ⟨rfl, rfl⟩)
    go_ret2
    exact ⟨rfl, rfl⟩
  | false =>
    cases h2 : (a == b) with
    | true =>
      go_enter Try.func19, Try.ntmps19
      go_wp2_with (go_at_call 20; refine (alike_b _ _ _).mono ?_; rintro e w' ⟨rfl, rfl⟩)
      go_ret2
      exact ⟨rfl, rfl⟩
    | false =>
      cases h3 : (a == o) with
      | true =>
        go_enter Try.func19, Try.ntmps19
        go_wp2_with (go_at_call 20; refine (alike_b _ _ _).mono ?_; rintro e w' ⟨rfl, rfl⟩)
        go_ret2
        exact ⟨rfl, rfl⟩
      | false =>
        go_enter Try.func19, Try.ntmps19
        go_wp2_with (go_at_call 20; refine (alike_b _ _ _).mono ?_; rintro e w' ⟨rfl, rfl⟩)
        go_ret2
        exact ⟨rfl, rfl⟩
set_option maxHeartbeats 2000000 in
set_option maxRecDepth 20000 in
theorem pick_f (w : World) (o a b : Nat) : Calls Try.prog 21 #[.float .f64 o, .float .f64 a, .float .f64 b, .func (.func 22) #[] #[]] w fun e w' => e = .returned (.tuple #[.float .f64 (pk (keyF b == keyF o) (keyF a == keyF b) (keyF a == keyF o) a b).1, .bool (pk (keyF b == keyF o) (keyF a == keyF b) (keyF a == keyF o) a b).2]) ∧ w = w' := by
  cases h1 : (keyF b == keyF o) with
  | true =>
    go_enter Try.func21, Try.ntmps21
    go_wp2_with (go_at_call 22; refine (same_any _ _ _).mono ?_; rintro e w' ⟨rfl, rfl⟩)
    go_ret2
    exact ⟨rfl, rfl⟩
  | false =>
    cases h2 : (keyF a == keyF b) with
    | true =>
      go_enter Try.func21, Try.ntmps21
      go_wp2_with (go_at_call 22; refine (same_any _ _ _).mono ?_; rintro e w' ⟨rfl, rfl⟩)
      go_ret2
      exact ⟨rfl, rfl⟩
    | false =>
      cases h3 : (keyF a == keyF o) with
      | true =>
        go_enter Try.func21, Try.ntmps21
        go_wp2_with (go_at_call 22; refine (same_any _ _ _).mono ?_; rintro e w' ⟨rfl, rfl⟩)
        go_ret2
        exact ⟨rfl, rfl⟩
      | false =>
        go_enter Try.func21, Try.ntmps21
        go_wp2_with (go_at_call 22; refine (same_any _ _ _).mono ?_; rintro e w' ⟨rfl, rfl⟩)
        go_ret2
        exact ⟨rfl, rfl⟩
set_option maxRecDepth 20000 in
theorem info_int : (Try.prog.info? 3).map (fun i => (i.zero, i.size, i.bytes)) = some (some (.int .i64 0), 1, 8) := by kernel_rfl
set_option maxRecDepth 20000 in
theorem result_pair {P : Program} {fn : Func} {p u : Tmp} {ty : TypeId} (h : fn.results = #[.cell p ty, .tmp u]) (tmps : Array Value) (w : World) (g : Nat) (t : TypeId) (cs : Array Value) (fr : Nat × Nat) (d : TypeDesc)
    (hp : tmps.getD p undef = .pointer (some ⟨g, 0, none⟩)) (hg : w.heap[g]? = some (.cells cs t fr))
    (hu : P.underlying ty = some d) (hd : (match d with | .struct _ | .array _ _ => true | _ => false) = true) (hi : (P.info? ty).map (·.size) = some cs.size) :
    (results fn tmps).run P w = .ok (.tuple #[.agg cs, tmps.getD u undef]) w := by
  rw [results_cell_tmp h, hp]
  simp [asAddr, run_loadVar_row w g t ty cs fr d hg hu hd hi, Result.andThen]
end Go.Proofs.Ytfkcgmhnledbmaa
