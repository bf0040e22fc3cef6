import Derived.Test.YtaagldmgbdiomaaDedO
import Derived.Test.YtaagldmgbdiomaaOpn
import Derived.ChangeArms
import Derived.ChangeSame
namespace Go.Proofs.Ytaagldmgbdiomaa
open Go.RowKit
section
variable {H : Type} {enc : TypeId × Value → H} {w : World} {base : Nat} {spare : Nat → Bool} {held : Bool}
theorem u64_of_wf {n : Int} (h : (Lit.int .u64 n).wf = true) : 0 ≤ n ∧ n < 18446744073709551616 := by
  have : 0 ≤ n ∧ n ≤ 2 ^ 64 - 1 := by simpa [Lit.wf, IntKind.min, IntKind.max, IntKind.bits, IntKind.signed] using h
  omega
set_option maxRecDepth 20000 in
theorem open_deeds {fuel : Nat} {cs : List Value} {x : DataW H × List MemPlace} (h : DataW.trod enc Try.prog w base spare held fuel 22 cs = some x) :
    ∃ (A : Option Addr) (n c : Nat) (l : List (Int × Int × Bool)), cs = [.slice A n c] ∧ n ≤ c ∧ c ≤ 9223372036854775807 ∧ Deeds w A n l := by
  have hc : Try.prog.cellsOf 28 = 3 := by kernel_rfl
  have hcu : Try.prog.cellsOf 23 = 1 := by kernel_rfl
  have hcb : Try.prog.cellsOf 4 = 1 := by kernel_rfl
  rcases DataW.trod_slice Try.underlying22 h with ⟨hcs, _⟩ | ⟨a, len, cap, elems, rest, n, _, hcs, _, _, hl, hm, hlen, hel, _, _⟩
  · exact ⟨none, 0, 0, [], hcs, by omega, by omega, rfl, fun _ => rfl, fun ad e => by cases e⟩
  · simp only [maxLen] at hm
    have each : ∀ i, i < len → ∃ p : Int × Int × Bool, w.cell? (a.add (i * 3)) = some (.int .u64 p.1) ∧ w.cell? ⟨(a.add (i * 3)).block, (a.add (i * 3)).off + 1, none⟩ = some (.int .u64 p.2.1) ∧ w.cell? ⟨(a.add (i * 3)).block, (a.add (i * 3)).off + 2, none⟩ = some (.bool p.2.2) ∧ (0 ≤ p.1 ∧ p.1 < 18446744073709551616) ∧ (0 ≤ p.2.1 ∧ p.2.1 < 18446744073709551616) := by
      intro i hi
      have h1 := hel i hi
      obtain ⟨y, hy⟩ : ∃ y, elems[i]? = some y := ⟨elems[i]'(by omega), List.getElem?_eq_getElem (by omega)⟩
      rw [hy, hc, Option.bind_eq_some_iff] at h1
      obtain ⟨c1, hc1, hy1⟩ := h1
      have hcell := World.cells?_some hc1
      obtain ⟨_, hl3, hat⟩ := hcell
      obtain ⟨xs, m, _, _, _, _, hf⟩ := DataW.trod_struct Try.underlying28 hy1
      match c1, hl3 with
      | [v0, v1, v2], _ =>
        have g0 : DataW.trod enc Try.prog w base spare held m 23 (List.take (Try.prog.cellsOf 23) (List.drop 0 [v0, v1, v2])) = xs[0]? := hf 0 _ rfl
        have g1 : DataW.trod enc Try.prog w base spare held m 23 (List.take (Try.prog.cellsOf 23) (List.drop 1 [v0, v1, v2])) = xs[1]? := hf 1 _ rfl
        have g2 : DataW.trod enc Try.prog w base spare held m 4 (List.take (Try.prog.cellsOf 4) (List.drop 2 [v0, v1, v2])) = xs[2]? := hf 2 _ rfl
        rw [hcu] at g0 g1
        rw [hcb] at g2
        have hs : ∀ j, j < 3 → ∃ y, xs[j]? = some y := by
          intro j hj
          exact ⟨xs[j]'(by simp_all), List.getElem?_eq_getElem _⟩
        obtain ⟨y0, e0⟩ := hs 0 (by omega)
        obtain ⟨y1, e1⟩ := hs 1 (by omega)
        obtain ⟨y2, e2⟩ := hs 2 (by omega)
        rw [e0] at g0
        rw [e1] at g1
        rw [e2] at g2
        obtain ⟨z0, q0, _, w0⟩ := DataW.trod_int Try.underlying23 g0
        obtain ⟨z1, q1, _, w1⟩ := DataW.trod_int Try.underlying23 g1
        obtain ⟨z2, q2, _⟩ := DataW.trod_bool Try.underlying4 g2
        injection q0 with q0
        injection q1 with q1
        injection q2 with q2
        refine ⟨(z0, z1, z2), ?_, ?_, ?_, u64_of_wf w0, u64_of_wf w1⟩
        · have := hat 0 (by omega); rw [← q0]; exact this
        · have := hat 1 (by omega); rw [← q1]; exact this
        · have := hat 2 (by omega); rw [← q2]; exact this
    obtain ⟨ps, hpl, hp⟩ := ex_list each
    refine ⟨some a, len, cap, ps, hcs, hl, by omega, hpl, (fun e => by cases e), ?_⟩
    intro ad e j i d b hj
    injection e with e
    subst e
    exact hp j (i, d, b) hj
end
end Go.Proofs.Ytaagldmgbdiomaa
