import Derived.Test.YthkfjcfncobllaaStaT
import Derived.Test.YthkfjcfncobllaaPut
namespace Go.Proofs.Ythkfjcfncobllaa
open Go.RowKit FP
set_option linter.unusedVariables false
/-! Bins: plain. -/
abbrev BIN : Sh := .cons (.f64) (.cons (.f64) (.cons (.int .i64) (.nil)))
def BINOk : BIN.Ty → Prop := fun (a0, a1, a2, _) => (a0 < 18446744073709551616) ∧ (a1 < 18446744073709551616) ∧ (-9223372036854775808 ≤ a2 ∧ a2 < 9223372036854775808)
theorem rd_bin {w : World} {ok : Nat → Prop} {x : BIN.Ty} {cs : List Value} (h : Rd w ok BIN x cs) :
    ∃ (a0 : Nat) (a1 : Nat) (a2 : Int), x = (a0, a1, a2, ()) ∧ cs = [.float .f64 a0, .float .f64 a1, .int .i64 a2] ∧ BINOk (a0, a1, a2, ()) := by
  obtain ⟨a0, a1, a2, ⟨⟩⟩ := x
  obtain ⟨_, _, rfl, ⟨rfl, w0⟩, _, _, rfl, ⟨rfl, w1⟩, _, _, rfl, ⟨rfl, w2⟩, rfl⟩ := h
  exact ⟨a0, a1, a2, rfl, rfl, ⟨w0, w1, i64_of w2⟩⟩
theorem rd_bin_mk {w : World} {ok : Nat → Prop} {a0 : Nat} {a1 : Nat} {a2 : Int}  (hx : BINOk (a0, a1, a2, ()))  :
    Rd w ok BIN (a0, a1, a2, ()) [.float .f64 a0, .float .f64 a1, .int .i64 a2] := by
  obtain ⟨g0, g1, g2⟩ := hx
  exact ⟨[_], _, rfl, ⟨rfl, g0⟩, [_], _, rfl, ⟨rfl, g1⟩, [_], [], rfl, ⟨rfl, of_i64 g2⟩, rfl⟩
def loE (E : List Nat) (i : Nat) : Nat := if i = 0 then 18442240474082181120 else E.getD (i - 1) 0
def hiE (E : List Nat) (i : Nat) : Nat := if i < E.length then E.getD i 0 else (rcanF (endL .lt []))
def placeE (E : List Nat) (f : Nat) : Nat := E.findIdx (fun e => decide (keyV f < keyV e))
def cntE (E K : List Nat) (i : Nat) : Nat := K.countP (fun f => placeE E f == i)
def binE (E K : List Nat) (i : Nat) : BIN.Ty := (loE E i, hiE E i, (cntE E K i : Int), ())
def binsE (E K : List Nat) : List BIN.Ty := (List.range (E.length + 1)).map (binE E K)
theorem binsE_len (E K : List Nat) : (binsE E K).length = E.length + 1 := by simp [binsE]
theorem binsE_at {E K : List Nat} {i : Nat} (h : i ≤ E.length) : (binsE E K)[i]? = some (binE E K i) := by
  simp [binsE, List.getElem?_range (show i < E.length + 1 by omega)]
theorem binsE_edge (E : List Nat) (x : Nat) : binsE (E ++ [x]) [] = (binsE E []).set E.length (loE E E.length, x, 0, ()) ++ [(x, (rcanF (endL .lt [])), 0, ())] := by
  apply List.ext_getElem?
  intro i
  by_cases h1 : i < E.length
  · rw [binsE_at (by simp; omega), List.getElem?_append_left (by rw [List.length_set, binsE_len]; omega), List.getElem?_set_ne (by omega), binsE_at (by omega)]
    have e1 : loE (E ++ [x]) i = loE E i := by
      unfold loE
      split
      · rfl
      · rw [List.getD_eq_getElem?_getD, List.getD_eq_getElem?_getD, List.getElem?_append_left (by omega)]
    have e2 : hiE (E ++ [x]) i = hiE E i := by
      unfold hiE
      rw [if_pos h1, if_pos (by simp; omega), List.getD_eq_getElem?_getD, List.getD_eq_getElem?_getD, List.getElem?_append_left h1]
    unfold binE
    rw [e1, e2]
    rfl
  · by_cases h2 : i = E.length
    · subst h2
      rw [binsE_at (by simp), List.getElem?_append_left (by rw [List.length_set, binsE_len]; omega), List.getElem?_set_self (by rw [binsE_len]; omega)]
      have e1 : loE (E ++ [x]) E.length = loE E E.length := by
        unfold loE
        split
        · rfl
        · rw [List.getD_eq_getElem?_getD, List.getD_eq_getElem?_getD, List.getElem?_append_left (by omega)]
      have e2 : hiE (E ++ [x]) E.length = x := by
        unfold hiE
        rw [if_pos (by simp), List.getD_eq_getElem?_getD, List.getElem?_append_right (by omega)]
        simp
      unfold binE
      rw [e1, e2]
      rfl
    · by_cases h3 : i = E.length + 1
      · subst h3
        rw [binsE_at (by simp), List.getElem?_append_right (by rw [List.length_set, binsE_len]; omega), List.length_set, binsE_len]
        have e1 : loE (E ++ [x]) (E.length + 1) = x := by
          unfold loE
          rw [if_neg (by omega), List.getD_eq_getElem?_getD, List.getElem?_append_right (by omega)]
          simp
        have e2 : hiE (E ++ [x]) (E.length + 1) = (rcanF (endL .lt [])) := by
          unfold hiE
          rw [if_neg (by simp)]
        unfold binE
        rw [e1, e2]
        simp [cntE]
      · rw [List.getElem?_eq_none (by rw [binsE_len]; simp; omega), List.getElem?_eq_none (by rw [List.length_append, List.length_set, binsE_len]; simp; omega)]
theorem binsE_one (E K : List Nat) (f : Nat) (hp : placeE E f ≤ E.length) : binsE E (K ++ [f]) = (binsE E K).set (placeE E f) (loE E (placeE E f), hiE E (placeE E f), (cntE E K (placeE E f) : Int) + 1, ()) := by
  apply List.ext_getElem?
  intro i
  by_cases h1 : i ≤ E.length
  · rw [binsE_at h1]
    by_cases h2 : i = placeE E f
    · rw [h2, List.getElem?_set_self (by rw [binsE_len]; omega)]
      unfold binE
      simp [cntE, List.countP_append]
    · rw [List.getElem?_set_ne (by omega), binsE_at h1]
      unfold binE
      have : (placeE E f == i) = false := beq_false_of_ne (fun e => h2 e.symm)
      simp [cntE, List.countP_append, this]
  · rw [List.getElem?_eq_none (by rw [binsE_len]; omega), List.getElem?_eq_none (by rw [List.length_set, binsE_len]; omega)]
theorem place_le (E : List Nat) (f : Nat) : placeE E f ≤ E.length := List.findIdx_le_length
theorem place_before {E : List Nat} {f i e : Nat} (hi : i < placeE E f) (he : E[i]? = some e) : ¬ keyV f < keyV e := by
  have := List.not_of_lt_findIdx hi
  obtain ⟨h1, h2⟩ := List.getElem?_eq_some_iff.1 he
  simp only [h2] at this
  simpa using this
theorem place_at {E : List Nat} {f e : Nat} (he : E[placeE E f]? = some e) : keyV f < keyV e := by
  obtain ⟨h1, h2⟩ := List.getElem?_eq_some_iff.1 he
  have := List.findIdx_getElem (w := h1)
  unfold placeE at h2
  rw [h2] at this
  simpa using this
def UpE (E : List Nat) : Prop := E.Pairwise (fun x y => keyV x < keyV y)
theorem place_iff {E : List Nat} {f i : Nat} (hE : UpE E) (hf : f < B64) (hn : fnan f = false) (hi : i ≤ E.length) : placeE E f = i ↔ ¬ keyV f < keyV (loE E i) ∧ (i = E.length ∨ keyV f < keyV (hiE E i)) := by
  have hlo : ¬ keyV f < keyV 18442240474082181120 := by
    rcases keyV_cases f hf with ⟨h, _⟩ | ⟨_, h, _⟩
    · rw [hn] at h; cases h
    · rw [key_ninf]; omega
  constructor
  · rintro rfl
    constructor
    · unfold loE
      split
      · exact hlo
      · rename_i h0
        have hk : placeE E f - 1 < E.length := by omega
        rw [List.getD_eq_getElem?_getD, List.getElem?_eq_getElem hk]
        exact place_before (by omega) (List.getElem?_eq_getElem hk)
    · by_cases h : placeE E f < E.length
      · right
        unfold hiE
        rw [if_pos h, List.getD_eq_getElem?_getD, List.getElem?_eq_getElem h]
        exact place_at (List.getElem?_eq_getElem h)
      · left; omega
  · rintro ⟨h1, h2⟩
    have hle : i ≤ placeE E f := by
      refine Classical.byContradiction fun hc => ?_
      have hk : i - 1 < E.length := by omega
      have hp : placeE E f < E.length := by omega
      unfold loE at h1
      rw [if_neg (by omega), List.getD_eq_getElem?_getD, List.getElem?_eq_getElem hk] at h1
      have h3 := place_at (List.getElem?_eq_getElem hp)
      by_cases he : placeE E f = i - 1
      · have : E[i-1]? = some E[placeE E f] := by rw [← he]; exact List.getElem?_eq_getElem hp
        rw [List.getElem?_eq_getElem hk] at this
        injection this with this
        rw [← this] at h3
        exact h1 h3
      · have h4 := (List.pairwise_iff_getElem.1 hE) (placeE E f) (i - 1) hp hk (by omega)
        simp only [Option.getD_some] at h1
        omega
    rcases h2 with h2 | h2
    · have := place_le E f; omega
    · by_cases hlt : i < placeE E f
      · exfalso
        have hk : i < E.length := by have := place_le E f; omega
        unfold hiE at h2
        rw [if_pos hk, List.getD_eq_getElem?_getD, List.getElem?_eq_getElem hk] at h2
        exact place_before hlt (List.getElem?_eq_getElem hk) h2
      · omega
theorem cntE_snoc (E K : List Nat) (f i : Nat) : cntE E (K ++ [f]) i = cntE E K i + (if placeE E f = i then 1 else 0) := by
  unfold cntE
  rw [List.countP_append]
  by_cases h : placeE E f = i
  · simp [h]
  · simp [h]
theorem ded_up {l : List Nat} (hc : ∀ x ∈ l, CanN x) (hs : l.Pairwise leK) : UpE (ded l) := by
  suffices H : ∀ n, n ≤ l.length → UpE (ded (l.take n)) ∧ (∀ x ∈ ded (l.take n), ∃ z, l[n - 1]? = some z ∧ keyV x ≤ keyV z) ∧ (ded (l.take n)).getLast? = (if n = 0 then none else l[n - 1]?) by
    have := (H l.length (Nat.le_refl _)).1
    rwa [List.take_length] at this
  intro n
  induction n with
  | zero => intro _; exact ⟨List.Pairwise.nil, (fun x hx => by cases hx), rfl⟩
  | succ n ih =>
    intro hn
    obtain ⟨i1, i2, i3⟩ := ih (by omega)
    have hx : l[n]? = some (l[n]'(by omega)) := List.getElem?_eq_getElem (by omega)
    obtain ⟨x, hxe⟩ : ∃ x, l[n]'(by omega) = x := ⟨_, rfl⟩
    rw [hxe] at hx
    have hlast := ded_last (l.take n) x
    rw [take_at hx]
    rw [if_neg (by omega), Nat.add_sub_cancel, hx]
    refine ⟨?_, ?_, hlast⟩
    · rw [ded_snoc]
      unfold stepD
      split
      · exact i1
      · rename_i hne
        refine List.pairwise_append.2 ⟨i1, List.pairwise_singleton _ _, fun a ha b hb => ?_⟩
        rw [List.mem_singleton.1 hb]
        obtain ⟨z, hz, hle⟩ := i2 a ha
        by_cases h0 : n = 0
        · subst h0
          cases ha
        · rw [if_neg h0] at i3
          have hzl := (List.getElem?_eq_some_iff.1 hz)
          have hxl := (List.getElem?_eq_some_iff.1 hx)
          have h5 : leK z x := by
            have := (List.pairwise_iff_getElem.1 hs) (n - 1) n hzl.1 hxl.1 (by omega)
            rw [hzl.2, hxl.2] at this
            exact this
          have h6 : z ≠ x := fun e => hne (by rw [i3, hz, e])
          have h7 : keyV z ≠ keyV x := fun e => h6 (key_inj (hc z (List.mem_of_getElem? hz)) (hc x (List.mem_of_getElem? hx)) e)
          unfold leK at h5
          omega
    · intro a ha
      refine ⟨x, rfl, ?_⟩
      have ha2 := ded_lt (l := l.take n ++ [x]) (fun y hy => by
        rcases List.mem_append.1 hy with hy | hy
        · exact hc y (List.mem_of_mem_take hy)
        · rw [List.mem_singleton.1 hy]; exact hc x (List.mem_of_getElem? hx)) a ha
      rcases List.mem_append.1 ha2 with h | h
      · obtain ⟨j, hj, rfl⟩ := List.mem_iff_getElem.1 h
        rw [List.length_take] at hj
        rw [List.getElem_take]
        have hxl := (List.getElem?_eq_some_iff.1 hx)
        have := (List.pairwise_iff_getElem.1 hs) j n (by omega) hxl.1 (by omega)
        rw [hxl.2] at this
        exact this
      · rw [List.mem_singleton.1 h]; exact Int.le_refl _
end Go.Proofs.Ythkfjcfncobllaa
