import Derived.Test.YtkfgfcgfpcocaaaFrmN
import Derived.Test.YtkfgfcgfpcocaaaLst
import Derived.WalkMore
namespace CrcM
/-- The bodies of the frames with which bytes begin, one behind the other. -/
def allF : Nat → List UInt8 → List (List UInt8)
  | 0, _ => []
  | f + 1, xs => match ofL xs with
    | none => []
    | some (y, m) => y :: allF f (xs.drop (7 + m))
theorem allF_eq : ∀ (f g : Nat) (xs : List UInt8), xs.length ≤ f → xs.length ≤ g → allF f xs = allF g xs
  | 0, 0, _, _, _ => rfl
  | 0, g + 1, xs, h, _ => by
    have : ofL xs = none := ofL_short (by omega)
    simp [allF, this]
  | f + 1, 0, xs, _, h => by
    have : ofL xs = none := ofL_short (by omega)
    simp [allF, this]
  | f + 1, g + 1, xs, h1, h2 => by
    unfold allF
    cases h : ofL xs with
    | none => rfl
    | some p =>
      obtain ⟨y, m⟩ := p
      have := ofL_len h
      simp only
      rw [allF_eq f g (xs.drop (7 + m)) (by rw [List.length_drop]; omega) (by rw [List.length_drop]; omega)]
def allL (xs : List UInt8) : List (List UInt8) := allF xs.length xs
theorem allL_none {xs : List UInt8} (h : ofL xs = none) : allL xs = [] := by
  unfold allL
  cases xs with
  | nil => rfl
  | cons x xs => simp [allF, h]
theorem allL_some {xs y : List UInt8} {m : Nat} (h : ofL xs = some (y, m)) : allL xs = y :: allL (xs.drop (7 + m)) := by
  have hl := ofL_len h
  rw [allL, allF_eq xs.length (xs.length + 1) xs (Nat.le_refl _) (by omega)]
  simp only [allF, h]
  rw [allL, allF_eq _ (xs.drop (7 + m)).length _ (by rw [List.length_drop]; omega) (Nat.le_refl _)]
theorem allL_len (xs : List UInt8) : ∀ f, 7 * (allF f xs).length ≤ xs.length := by
  intro f
  induction f generalizing xs with
  | zero => simp [allF]
  | succ f ih =>
    unfold allF
    cases h : ofL xs with
    | none => simp
    | some p =>
      obtain ⟨y, m⟩ := p
      have := ofL_len h
      have := ih (xs.drop (7 + m))
      rw [List.length_drop] at this
      simp only [List.length_cons]
      omega
end CrcM
namespace Go.Proofs.Ytkfgfcgfpcocaaa
open Go.RowKit
theorem infoS : (Try.prog.info? 23).map (fun i => (i.zero, i.size, i.bytes)) = some (some (.slice none 0 0), 1, 24) := by kernel_rfl
theorem frames_any (a : Option Addr) (n cap : Nat) (xs : List UInt8) (w : World) (hb : Bs w a n xs) (hcap : n ≤ cap) (hcm : cap ≤ 9223372036854775807) (hn : n ≤ 100000) :
    Calls Try.prog 24 #[.slice a n cap] w fun e w' => ∃ v vs, e = .returned v ∧ w'.ownsRow w.heap.size 23 1 v (CrcM.allL xs).length vs ∧ Txs w' vs (CrcM.allL xs) ∧ Below w.heap.size w w' := by
  go_enter Try.func24, Try.ntmps24
  go_wp2_with fail
  go_loopw [0, 3] (fun b o wr => ∃ (A : Option Addr) (k c : Nat) (r : List UInt8) (vs : List Value) (ds : List (List UInt8)), b = .slice A k c ∧ Bs wr A k r ∧ A.map (·.block) = a.map (·.block) ∧ k ≤ c ∧ c ≤ 9223372036854775807 ∧ 7 * ds.length + k ≤ n ∧ wr.ownsRow w.heap.size 23 1 o ds.length vs ∧ TxsA wr o.ownBlock vs ds ∧ Hid (CrcM.allL xs = ds ++ CrcM.allL r) ∧ Below w.heap.size w wr) (fun b _ _ => match b with | .slice _ k _ => k | _ => 0)
  case atStart => exact ⟨a, n, cap, xs, [], [], rfl, hb, rfl, hcap, hcm, by simp, own_nil _ _ _ _, TxsA.nil w _, Lib.hid rfl, Below.refl _ _⟩
  case round =>
    obtain ⟨A, k, c, r, vs, ds, rfl, hbr, hblk, hkc, hc, hlen, hown, htx, HA, hbel⟩ := hrel
    have hkl := hbr.len
    have hz := hbel.size
    obtain ⟨q, hq⟩ : ∃ q, CrcM.ofL r = q := ⟨_, rfl⟩
    cases q with
    | none =>
      have HA2 := Lib.hid (HA.out.trans (by rw [CrcM.allL_none hq]))
      clear HA
      go_wp2_with (go_at_call 19; refine (unf_none _ _ _ _ _ hbr hkc hc hq).mono ?_; rintro e w1 ⟨rfl, hq1⟩)
      go_ret
      refine ⟨_, vs, rfl, ?_, ?_, hbel.trans (hq1.mono hz)⟩
      · rw [HA2.out, List.append_nil]; exact own_below hown hq1
      · rw [HA2.out, List.append_nil]; exact (htx.below hq1).txs
    | some p =>
      obtain ⟨y, m⟩ := p
      have hml := CrcM.ofL_len hq
      have HA2 := Lib.hid (show CrcM.allL xs = (ds ++ [y]) ++ CrcM.allL (r.drop (7 + m)) from by rw [HA.out, CrcM.allL_some hq, List.append_assoc]; rfl)
      clear HA
      have HQ := Lib.hid hq
      clear hq
      go_wp2_with (first
        | (go_at_call 19; refine (unf_some _ _ _ _ _ hbr hkc hc HQ.out).mono ?_; rintro e w1 ⟨A1, c1, rfl, ⟨hy1, hA1, hmc, hc1⟩, hq1⟩; have hown1 := own_below hown hq1; have hz1 := hq1.size)
        | (at_builtin; refine wp_app (base := w.heap.size) rfl (.tmp 16) (.tmp 18) rfl (hown1.alloc _) (lit_rc w1 23 (0, 0) _ 1 rfl) (Below.refl w.heap.size _) Try.underlying41 infoS rfl rfl rfl (by intro u hu; simp at hu; subst hu; rfl) (by omega) (by omega) (by simp; omega) ?_; intro v2 w2 ho2 hq2 hg2 hb2))
      have hf := hbr.from_ hkc (7 + m) (by omega)
      have hxs : xs ≠ [] := by intro e; subst e; have := hb.len; simp at this; omega
      have htx1 : TxsA w1 u3.ownBlock (vs ++ [.slice A1 m c1]) (ds ++ [y]) := by
        refine (htx.below hq1).snoc ⟨⟨A1, m, c1, rfl, hmc, hc1, hy1⟩, fun _ e => ?_⟩
        have e1 : A1.map (·.block) = u3.ownBlock := by rw [← e]; cases A1 <;> rfl
        rw [hA1, hblk] at e1
        cases a with
        | none => exact hxs (List.eq_nil_of_length_eq_zero (by rw [hb.len, hb.2.2.1 rfl]))
        | some ad =>
          have := own_base hown ad.block e1.symm
          have := hb.lt hxs
          omega
      have hq0 := below_alloc1 w1 (.cells #[.slice A1 m c1] 23)
      refine ⟨⟨_, _, _, r.drop (7 + m), vs ++ [.slice A1 m c1], ds ++ [y], rfl, ?_, hf.2.trans hblk, by omega, by omega, by simp; omega, own_len ho2 (by simp), (htx1.below hq0).grown hg2 hb2, HA2, ?_⟩, ?_⟩
      · refine hf.1.old (B := w.heap.size) (fun _ q e => ?_) ((hq1.mono hz).trans ((hq0.mono (by omega)).trans hq2))
        rw [hf.2, hblk] at e
        cases a with
        | none => cases e
        | some ad =>
          have := hb.lt hxs
          have e : ad.block = q := by simpa using e
          omega
      · exact hbel.trans ((hq1.mono hz).trans ((hq0.mono (by omega)).trans hq2))
      · show k - (7 + m) < k
        omega
theorem all_any (a : Option Addr) (n cap : Nat) (xs : List UInt8) (w : World) (hb : Bs w a n xs) (hcap : n ≤ cap) (hcm : cap ≤ 9223372036854775807) (hn : n ≤ 100000) :
    Calls Try.prog 23 #[.slice a n cap] w fun e w' => ∃ v vs, e = .returned v ∧ w'.ownsRow w.heap.size 23 1 v (CrcM.allL xs).length vs ∧ Txs w' vs (CrcM.allL xs) ∧ Below w.heap.size w w' := by
  go_enter Try.func23, Try.ntmps23
  go_wp2_with fail
  go_step3
  go_wp2_with fail
  go_step3
  go_wp2_with fail
  go_loopw [0, 3] (fun b o wr => ∃ (A : Option Addr) (k c : Nat) (r : List UInt8) (vs : List Value) (ds : List (List UInt8)), b = .slice A k c ∧ Bs wr A k r ∧ A.map (·.block) = a.map (·.block) ∧ k ≤ c ∧ c ≤ 9223372036854775807 ∧ 7 * ds.length + k ≤ n ∧ wr.ownsRow w.heap.size 23 1 o ds.length vs ∧ TxsA wr o.ownBlock vs ds ∧ Hid (CrcM.allL xs = ds ++ CrcM.allL r) ∧ Below w.heap.size w wr) (fun b _ _ => match b with | .slice _ k _ => k | _ => 0)
  case atStart => exact ⟨a, n, cap, xs, [], [], rfl, hb, rfl, hcap, hcm, by simp, own_nil _ _ _ _, TxsA.nil w _, Lib.hid rfl, Below.refl _ _⟩
  case round =>
    obtain ⟨A, k, c, r, vs, ds, rfl, hbr, hblk, hkc, hc, hlen, hown, htx, HA, hbel⟩ := hrel
    have hkl := hbr.len
    have hz := hbel.size
    obtain ⟨q, hq⟩ : ∃ q, CrcM.ofL r = q := ⟨_, rfl⟩
    cases q with
    | none =>
      have HA2 := Lib.hid (HA.out.trans (by rw [CrcM.allL_none hq]))
      clear HA
      go_wp2_with (go_at_call 18; refine (of_none _ _ _ _ _ hbr hkc hq).mono ?_; rintro e w1 ⟨rfl, hq1⟩)
      rw [Exit.noGoto_ret]
      go_ret
      refine ⟨_, vs, rfl, ?_, ?_, hbel.trans (hq1.mono hz)⟩
      · rw [HA2.out, List.append_nil]; exact own_below hown hq1
      · rw [HA2.out, List.append_nil]; exact (htx.below hq1).txs
    | some p =>
      obtain ⟨y, m⟩ := p
      have hml := CrcM.ofL_len hq
      have HA2 := Lib.hid (show CrcM.allL xs = (ds ++ [y]) ++ CrcM.allL (r.drop (7 + m)) from by rw [HA.out, CrcM.allL_some hq, List.append_assoc]; rfl)
      clear HA
      have HQ := Lib.hid hq
      clear hq
      go_wp2_with (first
        | (go_at_call 18; refine (of_some _ _ _ _ _ hbr hkc HQ.out).mono ?_; rintro e w1 ⟨v1, rfl, hv1, hq1⟩; obtain ⟨A1, c1, hve, hmc, hy1⟩ := own_bs hv1; subst hve; have hown1 := own_below hown hq1; have hz1 := hq1.size)
        | (at_builtin; refine wp_app (base := w.heap.size) rfl (.tmp 15) (.tmp 17) rfl (hown1.alloc _) (lit_rc w1 23 (0, 0) _ 1 rfl) (Below.refl w.heap.size _) Try.underlying41 infoS rfl rfl rfl (by intro u hu; simp at hu; subst hu; rfl) (by omega) (by omega) (by simp; omega) ?_; intro v2 w2 ho2 hq2 hg2 hb2))
      have hf := hbr.from_ hkc (7 + m) (by omega)
      have hxs : xs ≠ [] := by intro e; subst e; have := hb.len; simp at this; omega
      have htx1 : TxsA w1 u3.ownBlock (vs ++ [.slice A1 m c1]) (ds ++ [y]) := by
        exact (htx.below hq1).snoc (own_txa hv1 (fun k hk => own_lt hown k hk))
      have hq0 := below_alloc1 w1 (.cells #[.slice A1 m c1] 23)
      refine ⟨⟨_, _, _, r.drop (7 + m), vs ++ [.slice A1 m c1], ds ++ [y], rfl, ?_, hf.2.trans hblk, by omega, by omega, by simp; omega, own_len ho2 (by simp), (htx1.below hq0).grown hg2 hb2, HA2, ?_⟩, ?_⟩
      · refine hf.1.old (B := w.heap.size) (fun _ q e => ?_) ((hq1.mono hz).trans ((hq0.mono (by omega)).trans hq2))
        rw [hf.2, hblk] at e
        cases a with
        | none => cases e
        | some ad =>
          have := hb.lt hxs
          have e : ad.block = q := by simpa using e
          omega
      · exact hbel.trans ((hq1.mono hz).trans ((hq0.mono (by omega)).trans hq2))
      · show k - (7 + m) < k
        omega
end Go.Proofs.Ytkfgfcgfpcocaaa
