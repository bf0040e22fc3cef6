import Derived.Test.YtnolhnlhohpkpaaCdcI
import Derived.Laws.Bits64b
namespace Go.Proofs.Ytnolhnlhohpkpaa
open Go.RowKit Cdc
set_option linter.unusedVariables false
set_option linter.unusedSimpArgs false
/-- A reader, in the block g: what is left of its bytes, and whether it has failed. -/
def RdAt (w : World) (g : Nat) (s : St) : Prop :=
  ∃ A c, w.heap[g]? = some (.cells #[.slice A s.1.length c, .bool s.2] 101 (0, 0)) ∧ s.1.length ≤ c ∧ c ≤ 9223372036854775807 ∧ (A = none → c = 0) ∧ Bs w A s.1.length s.1 ∧ (s.1 ≠ [] → ∀ ad, A = some ad → ad.block < g)
set_option maxRecDepth 20000 in
/-- Blocks below g are not g. -/
theorem lt_ne {A : Option Addr} {g : Nat} {p : Prop} (h : p → ∀ ad, A = some ad → ad.block < g) : p → A.map (·.block) ≠ some g := by
  intro hp e
  cases A with
  | none => cases e
  | some ad =>
    injection e with e
    have := h hp ad rfl
    exact absurd e (Nat.ne_of_lt this)
set_option maxRecDepth 20000 in
theorem RdAt.lt {w : World} {g : Nat} {s : St} (h : RdAt w g s) : g < w.heap.size := by
  obtain ⟨A, c, hg, _⟩ := h
  exact blk_lt hg
set_option maxRecDepth 20000 in
theorem RdAt.below {w w' : World} {g : Nat} {s : St} (h : RdAt w g s) (hb : Below w.heap.size w w') : RdAt w' g s := by
  obtain ⟨A, c, hg, h1, h2, h3, h4, h5⟩ := h
  exact ⟨A, c, blk_below hg hb (blk_lt hg), h1, h2, h3, h4.below hb, h5⟩
set_option maxRecDepth 20000 in
theorem RdAt.grown {w w' : World} {g k : Nat} {s : St} (h : RdAt w g s) (hb : w.grownBy w' (some k)) (hk : g < k) : RdAt w' g s := by
  obtain ⟨A, c, hg, h1, h2, h3, h4, h5⟩ := h
  refine ⟨A, c, (hb.block g (blk_lt hg) (by intro e; injection e; omega)).trans hg, h1, h2, h3, ⟨h4.1, h4.2.1, h4.2.2.1, fun ad e j u hu => ?_⟩, h5⟩
  have hn : s.1 ≠ [] := by intro e; rw [e] at hu; simp at hu
  have hlt := h5 hn ad e
  have hc := h4.2.2.2 ad e j u hu
  exact cell_grown hb hc (by rw [add_block]; intro e; injection e; omega)
set_option maxRecDepth 20000 in
theorem Bs.set {w : World} {A : Option Addr} {n : Nat} {xs : List UInt8} (h : Bs w A n xs) {g j : Nat} {v : Value} (hne : xs ≠ [] → A.map (·.block) ≠ some g) : Bs (w.setCell ⟨g, j, none⟩ v) A n xs := by
  refine ⟨h.1, h.2.1, h.2.2.1, fun ad e k u hu => ?_⟩
  subst e
  rw [World.cell?_setCell_far _ _ _ _ (by rw [add_block]; intro e; exact hne (by intro e; subst e; simp at hu) (congrArg some e.symm))]
  exact h.2.2.2 ad rfl k u hu
set_option maxRecDepth 20000 in
theorem grown_set {w w' : World} {g j : Nat} {v : Value} (h : w.grownBy w' (some g)) : w.grownBy (w'.setCell ⟨g, j, none⟩ v) (some g) :=
  ⟨h.os, h.tape, h.output, by simpa [World.setCell] using h.size, fun k hk hne => by rw [Below.heap_setCell _ _ _ _ (fun e => hne (by rw [e]))]; exact h.block k hk hne⟩
set_option maxRecDepth 20000 in
theorem grown_refl (w : World) (r : Option Nat) : w.grownBy w r := ⟨rfl, rfl, rfl, Nat.le_refl _, fun _ _ _ => rfl⟩
set_option maxRecDepth 20000 in
theorem grown_below {w w' : World} {r : Option Nat} (h : Below w.heap.size w w') : w.grownBy w' r := ⟨h.os, h.tape, h.output, h.size, fun k hk _ => h.block k hk⟩
set_option maxRecDepth 20000 in
theorem ok_any (w : World) (g : Nat) (s : St) (h : RdAt w g s) :
    Calls Try.prog 71 #[.pointer (some ⟨g, 0, none⟩)] w fun e w' => e = .returned (.bool (!s.2)) ∧ w = w' := by
  obtain ⟨A, c, hg, _⟩ := h
  have c1 := blk_at hg 1 _ rfl
  clear hg
  go_enter Try.func71, Try.ntmps71
  go_wp2_with fail
  go_ret
  exact ⟨rfl, rfl⟩
set_option maxRecDepth 20000 in
theorem fail_any (w : World) (g : Nat) (s : St) (h : RdAt w g s) :
    Calls Try.prog 69 #[.pointer (some ⟨g, 0, none⟩)] w fun e w' => e = .returned noResult ∧ RdAt w' g failed ∧ w.grownBy w' (some g) := by
  obtain ⟨A, c, hg, _⟩ := h
  have c0 := blk_at hg 0 _ rfl
  have c1 := blk_at hg 1 _ rfl
  have f0 := blk_free hg 0
  have f1 := blk_free hg 1
  have HG := Lib.hid hg
  clear hg
  go_enter Try.func69, Try.ntmps69
  go_wp2_with fail
  refine bodyPost_end (results_none rfl _ _ _) rfl ?_
  have q := blk_set (blk_set HG.out 1 (Value.bool true)) 0 (Value.slice none 0 0)
  exact ⟨rfl, ⟨none, 0, q, Nat.le_refl _, by omega, fun _ => rfl, ⟨by simp, rfl, fun _ => rfl, fun ad e => by cases e⟩, by simp⟩, grown_set (grown_set (grown_refl _ _))⟩
/-- How 'take' ends: of a reader that has failed, or holds too little, nothing. -/
def TakePost (w : World) (g n : Nat) (s : St) (e : Ending) (w' : World) : Prop :=
  (∃ A c, e = .returned (.slice A (if s.2 = true ∨ s.1.length < n then 0 else n) c) ∧ (if s.2 = true ∨ s.1.length < n then 0 else n) ≤ c ∧ c ≤ 9223372036854775807 ∧ (A = none → c = 0) ∧ Bs w' A (if s.2 = true ∨ s.1.length < n then 0 else n) (if s.2 = true ∨ s.1.length < n then [] else s.1.take n)) ∧
  RdAt w' g (if s.2 = true ∨ s.1.length < n then failed else (s.1.drop n, false)) ∧ w.grownBy w' (some g)
set_option maxRecDepth 20000 in
theorem take_fails {w w' : World} {g n : Nat} {s : St} (h : s.2 = true ∨ s.1.length < n) (hr : RdAt w' g failed) (hg : w.grownBy w' (some g)) : TakePost w g n s (.returned (.slice none 0 0)) w' := by
  unfold TakePost
  rw [if_pos h, if_pos h, if_pos h]
  exact ⟨⟨none, 0, rfl, Nat.le_refl _, by omega, fun _ => rfl, ⟨by omega, rfl, fun _ => rfl, fun ad e => by cases e⟩⟩, hr, hg⟩
set_option maxRecDepth 20000 in
theorem take_goes {w : World} {g n c m : Nat} {A A2 : Option Addr} {s : St} (h : ¬ (s.2 = true ∨ s.1.length < n)) (hg : w.heap[g]? = some (.cells #[.slice A s.1.length c, .bool s.2] 101 (0, 0)))
    (h1 : s.1.length ≤ c) (h2 : c ≤ 9223372036854775807) (h3 : A = none → c = 0) (h4 : Bs w A s.1.length s.1) (h5 : s.1 ≠ [] → ∀ ad, A = some ad → ad.block < g) (h6 : A2 = if c = n then A else A.map (fun x : Addr => x.add n)) (hm : m = s.1.length - n) :
    TakePost w g n s (.returned (.slice A n n)) (w.setCell ⟨g, 0, none⟩ (.slice A2 m (c - n))) := by
  unfold TakePost
  rw [if_neg h, if_neg h, if_neg h]
  have hs2 : s.2 = false := by cases hs : s.2 with | false => rfl | true => exact absurd (.inl hs) h
  have hle : n ≤ s.1.length := Nat.not_lt.1 (fun e => h (.inr e))
  obtain ⟨f1, f2⟩ := Bs.from_ h4 h1 n hle
  rw [← h6] at f1 f2
  subst hm
  have q := blk_set hg 0 (Value.slice A2 (s.1.length - n) (c - n))
  rw [hs2] at q
  refine ⟨⟨A, n, rfl, Nat.le_refl _, by omega, fun e => by have := h3 e; omega, ?_⟩, ⟨A2, c - n, ?_, ?_, by omega, ?_, ?_, ?_⟩, grown_set (grown_refl _ _)⟩
  · refine Bs.set ?_ (fun hn => lt_ne h5 (by intro e; rw [e] at hn; simp at hn))
    refine ⟨by omega, by simp; omega, fun e => by have := h3 e; omega, fun ad e j u hu => h4.2.2.2 ad e j u ?_⟩
    rw [List.getElem?_map, List.getElem?_take] at hu
    rw [List.getElem?_map]
    by_cases hj : j < n
    · rwa [if_pos hj] at hu
    · rw [if_neg hj] at hu; cases hu
  · show _ = some (Obj.cells #[.slice A2 (s.1.drop n).length (c - n), .bool false] _ _)
    rw [List.length_drop]; exact q
  · show (s.1.drop n).length ≤ c - n
    rw [List.length_drop]; omega
  · intro e
    rw [h6] at e
    by_cases hc : c = n
    · rw [if_pos hc] at e; have := h3 e; omega
    · rw [if_neg hc] at e
      cases A with
      | none => have := h3 rfl; omega
      | some ad => cases e
  · show Bs _ A2 (s.1.drop n).length (s.1.drop n)
    rw [List.length_drop]
    exact Bs.set f1 (fun hn => by rw [f2]; exact lt_ne h5 (by intro e; rw [e] at hn; simp at hn))
  · intro hn ad e
    have f3 : A.map (·.block) = some ad.block := by rw [← f2, e]; rfl
    rw [Option.map_eq_some_iff] at f3
    obtain ⟨ad', e', f4⟩ := f3
    rw [← f4]
    exact h5 (by intro e; apply hn; show s.1.drop n = []; rw [e]; simp) ad' e'
set_option maxRecDepth 20000 in
theorem take_any (w : World) (g n : Nat) (s : St) (h : RdAt w g s) (hn : n ≤ 9223372036854775807) :
    Calls Try.prog 76 #[.pointer (some ⟨g, 0, none⟩), .int .i64 n] w (TakePost w g n s) := by
  obtain ⟨A, c, hg, h1, h2, h3, h4, h5⟩ := id h
  have c0 := blk_at hg 0 _ rfl
  have c1 := blk_at hg 1 _ rfl
  have f0 := blk_free hg 0
  have HG := Lib.hid hg
  have H := Lib.hid h
  have H4 := Lib.hid h4
  by_cases hbad : s.2 = true
  · have HI := Lib.hid (show s.2 = true ∨ s.1.length < n from .inl hbad)
    have hb2 : (!s.2) = false := by rw [hbad]; rfl
    clear hg h h4 hbad
    go_enter Try.func76, Try.ntmps76
    go_wp2_with (first
      | (go_at_call 71; refine (ok_any w g s H.out).mono ?_; rintro e w2 ⟨rfl, rfl⟩; rw [hb2])
      | (go_at_call 69; refine (fail_any w g s H.out).mono ?_; rintro e w2 ⟨rfl, hr, hgr⟩))
    go_ret
    exact take_fails HI.out hr hgr
  · have hgood : s.2 = false := by simpa using hbad
    have hb2 : (!s.2) = true := by rw [hgood]; rfl
    by_cases hlt : s.1.length < n
    · have HI := Lib.hid (show s.2 = true ∨ s.1.length < n from .inr hlt)
      have hlt' : (s.1.length : Int) < (n : Int) := by omega
      clear hg h h4 hbad hgood
      go_enter Try.func76, Try.ntmps76
      go_wp2_with (first
        | (go_at_call 71; refine (ok_any w g s H.out).mono ?_; rintro e w2 ⟨rfl, rfl⟩; rw [hb2])
        | (go_at_call 69; refine (fail_any w g s H.out).mono ?_; rintro e w2 ⟨rfl, hr, hgr⟩))
      go_ret
      exact take_fails HI.out hr hgr
    · have HI := Lib.hid (show ¬ (s.2 = true ∨ s.1.length < n) by rw [hgood]; simp; omega)
      have hle : (n : Int) ≤ (s.1.length : Int) := by omega
      have hle2 : (n : Int) ≤ (c : Int) := by omega
      have n0 : (0 : Int) ≤ (n : Int) := by omega
      clear hg h h4 hbad hgood
      go_enter Try.func76, Try.ntmps76
      go_wp2_with (first
        | (go_at_call 71; refine (ok_any w g s H.out).mono ?_; rintro e w2 ⟨rfl, rfl⟩; rw [hb2]))
      · go_ret
        have hcn : c = n := by assumption
        have q := take_goes (A2 := A) (m := s.1.length - n) HI.out HG.out h1 h2 h3 H4.out h5 (if_pos hcn).symm rfl
        rw [show c - n = 0 by omega] at q
        exact q
      · go_ret
        have hcn : ¬ c = n := by assumption
        exact take_goes (A2 := A.map (fun x : Addr => x.add n)) (m := s.1.length - n) HI.out HG.out h1 h2 h3 H4.out h5 (if_neg hcn).symm rfl
set_option maxRecDepth 20000 in
theorem or_step {V : Nat} (hV : V < 72057594037927936) (x : UInt8) : bits .or .u64 ((V : Int) * 256) (IntKind.u64.wrap (x.toNat : Int)) = ((V * 256 + x.toNat : Nat) : Int) := by
  have hx := x.toNat_lt
  rw [IntKind.wrap_u64, show (x.toNat : Int) % 18446744073709551616 = (x.toNat : Int) by omega, show (V : Int) * 256 = ((V * 256 : Nat) : Int) by omega, bits_or_u64_nat _ _ (by omega) (by omega)]
  have := Nat.shiftLeft_add_eq_or_of_lt (i := 8) (b := x.toNat) (by omega) V
  rw [Nat.shiftLeft_eq] at this
  rw [← this]
/-- How a number of so many bytes is read. -/
def FxPost (w : World) (g k : Nat) (s : St) (e : Ending) (w' : World) : Prop :=
  e = .returned (.int .u64 (fx k s).1) ∧ RdAt w' g (fx k s).2 ∧ w.grownBy w' (some g)
set_option maxHeartbeats 4000000 in
set_option maxRecDepth 20000 in
theorem rfixed_any (w : World) (g k : Nat) (s : St) (h : RdAt w g s) (hk : k ≤ 8) :
    Calls Try.prog 68 #[.pointer (some ⟨g, 0, none⟩), .int .i64 k] w (FxPost w g k s) := by
  have HT := Lib.hid (take_any w g k s h (by omega))
  clear h
  go_enter Try.func68, Try.ntmps68
  go_wp2_with fail
  refine HT.out.mono ?_
  rintro e w2 ⟨⟨A, c, rfl, hc1, hc2, hc3, hbs⟩, hr, hgr⟩
  have HR := Lib.hid hr
  have HG := Lib.hid hgr
  obtain ⟨ys, hys⟩ : ∃ ys, (if s.2 = true ∨ s.1.length < k then [] else s.1.take k) = ys := ⟨_, rfl⟩
  obtain ⟨m, hm⟩ : ∃ m, (if s.2 = true ∨ s.1.length < k then 0 else k) = m := ⟨_, rfl⟩
  rw [hys, hm] at hbs
  rw [hm] at hc1 ⊢
  have hml : ys.length = m := hbs.len
  have hm8 : m ≤ 8 := by rw [← hm]; split <;> omega
  have HV := Lib.hid (show fx k s = (val ys, (if s.2 = true ∨ s.1.length < k then failed else (s.1.drop k, false))) by
    unfold fx
    rw [← hys]
    by_cases hi : s.2 = true ∨ s.1.length < k
    · rw [if_pos hi, if_pos hi, if_pos hi]; rfl
    · rw [if_neg hi, if_neg hi, if_neg hi])
  clear hys hm hr hgr
  go_wp2_with fail
  go_loop [5, 12] (fun s5 s12 => ∃ i : Nat, i ≤ m ∧ s12 = .int .i64 i ∧ s5 = .int .u64 (val (ys.take i))) (fun _ s12 => m - (intOf s12).toNat)
  case atStart => exact ⟨0, by omega, rfl, rfl⟩
  case round =>
    obtain ⟨i, hi, rfl, rfl⟩ := hrel
    by_cases hlt : i < m
    · obtain ⟨ad, x, rfl, hx, cx⟩ := hbs.at_ i hlt
      have i0 : (0 : Int) ≤ (i : Int) := by omega
      have i1 : (i : Int) < (m : Int) := by omega
      have hvl := val_lt (ys.take i)
      rw [List.length_take, Nat.min_eq_left (by omega)] at hvl
      have hv7 : val (ys.take i) < 72057594037927936 := Nat.lt_of_lt_of_le hvl (show 256 ^ i ≤ 256 ^ 7 from Nat.pow_le_pow_right (by omega) (by omega))
      have HN := Lib.hid (show val (ys.take (i + 1)) = val (ys.take i) * 256 + x.toNat by rw [take_at hx, val_snoc])
      clear hx hvl
      obtain ⟨V, hV⟩ : ∃ V, val (ys.take i) = V := ⟨_, rfl⟩
      rw [hV] at HN hv7 ⊢
      clear hV
      have HO := Lib.hid (or_step hv7 x)
      go_wp2_with fail
      go_round
      case rel => exact ⟨i + 1, by omega, by go_num, by rw [HN.out]; exact congrArg (Value.int .u64) HO.out⟩
      case measure => simp [intOf]; omega
    · obtain rfl : i = m := by omega
      have HE := Lib.hid (show val (ys.take i) = val ys by rw [List.take_of_length_le (by omega)])
      clear hbs
      go_wp2_with fail
      go_ret
      refine ⟨?_, ?_, HG.out⟩
      · rw [HV.out]
        show Ending.returned (Value.int .u64 (val (ys.take i))) = Ending.returned (Value.int .u64 (val ys))
        rw [HE.out]
      · rw [HV.out]; exact HR.out
end Go.Proofs.Ytnolhnlhohpkpaa
