import Derived.Test.YtfjnpiahloncmaaGreatTskG
namespace Go.Proofs.YtfjnpiahloncmaaGreat
open Go.RowKit Cdc
set_option linter.unusedVariables false
set_option linter.unusedSimpArgs false
attribute [local go_sem] run_store_float
/-- What is wrong with a state: the error's number. -/
def canB (f : Nat) : Bool := ubits (canF f) == ubits f
def tgE : Option ByteArray → List ByteArray → Int
  | _, [] => 0
  | p, x :: l => if tagB x = false ∨ (∃ q, p = some q ∧ Op.bytesLess q.toList x.toList = false) then 94 else tgE (some x) l
def tagsE (l : List ByteArray) : Int := if 4 < l.length then 95 else tgE none l
set_option maxRecDepth 20000 in
theorem tgE_at {l : List ByteArray} {i : Nat} {x : ByteArray} (p : Option ByteArray) (hx : l[i]? = some x) : tgE p (l.drop i) = if tagB x = false ∨ (∃ q, p = some q ∧ Op.bytesLess q.toList x.toList = false) then 94 else tgE (some x) (l.drop (i + 1)) := by
  have hl := (List.getElem?_eq_some_iff.1 hx).1
  have hg := (List.getElem?_eq_some_iff.1 hx).2
  rw [List.drop_eq_getElem_cons hl, hg]
  rfl
set_option maxRecDepth 20000 in
theorem bits_one (b : Nat) (w : World) : Calls Tryz.prog 80 #[.float .f64 b] w fun e w' => e = .returned (.int .u64 (ubits b)) ∧ w = w' := by
  go_enter Tryz.func80, Tryz.ntmps80
  have ht := run_tobits b
  go_wp2_with fail
  go_ret
  exact ⟨rfl, rfl⟩
set_option maxRecDepth 20000 in
theorem canon_one (b : Nat) (w : World) : Calls Tryz.prog 49 #[.float .f64 b] w fun e w' => e = .returned (.bool (canB b)) ∧ w = w' := by
  go_enter Tryz.func49, Tryz.ntmps49
  go_wp2_with (first
    | (go_at_call 41; refine (canon_any _ _).mono ?_; rintro e w' ⟨rfl, rfl⟩)
    | (go_at_call 80; refine (bits_one _ _).mono ?_; rintro e w' ⟨rfl, rfl⟩))
  go_ret
  exact ⟨rfl, rfl⟩
set_option maxHeartbeats 2000000 in
set_option maxRecDepth 20000 in
theorem tags_any (w : World) (A : Option Addr) (n ca : Nat) (l : List ByteArray) (ha : Rows w anyB .str A n l) (hn : n ≤ 9223372036854775807) :
    Calls Tryz.prog 50 #[.slice A n ca] w fun e w' => e = .returned (.int .i64 (tagsE l)) ∧ Below w.heap.size w w' := by
  have hl := ha.1
  by_cases h4 : (4 : Int) < (n : Int)
  · have HT := Lib.hid (show tagsE l = 95 by unfold tagsE; rw [if_pos (by omega)])
    go_enter Tryz.func50, Tryz.ntmps50
    go_wp2_with fail
    go_ret
    exact ⟨ret_int HT.out.symm, Below.refl _ _⟩
  have HT := Lib.hid (show tagsE l = tgE none l by unfold tagsE; rw [if_neg (by omega)])
  go_enter Tryz.func50, Tryz.ntmps50
  go_wp2_with fail
  go_loopw [10] (fun s10 wr => ∃ i : Nat, i ≤ n ∧ s10 = .int .i64 i ∧ tagsE l = tgE (if i = 0 then none else l[i - 1]?) (l.drop i) ∧ Below w.heap.size w wr) (fun s10 _ => n - (intOf s10).toNat)
  case atStart => exact ⟨0, by omega, rfl, by rw [HT.out]; rfl, Below.refl _ _⟩
  case round =>
    obtain ⟨i, hi, rfl, hP, hbel⟩ := hrel
    have HB := Lib.hid hbel
    by_cases hlt : i < n
    · have i0 : (0 : Int) ≤ (i : Int) := by omega
      have i1 : (i : Int) < (n : Int) := by omega
      obtain ⟨ad, x, rfl, hx⟩ := ha.some_at hlt
      obtain ⟨hc, hsz⟩ := str_at (ha.below hbel) hx
      rw [tgE_at _ hx] at hP
      have HSZ := Lib.hid hsz
      cases htg : tagB x with
      | false =>
        have HF := Lib.hid (show tagsE l = 94 by rw [hP, if_pos (.inl htg)])
        clear hP hx hsz hl
        have HTg := Lib.hid (tag_any wr x HSZ.out)
        rw [htg] at HTg
        clear htg
        go_wp2_with (go_at_call 81; refine HTg.out.mono ?_; rintro e w2 ⟨rfl, hw2⟩)
        go_ret
        exact ⟨ret_int HF.out.symm, HB.out.trans (hw2.mono HB.out.size)⟩
      | true =>
        have HTg := Lib.hid (tag_any wr x HSZ.out)
        by_cases h0 : i = 0
        · have j0 : ¬ (0 : Int) < (i : Int) := by omega
          have HN := Lib.hid (show tagsE l = tgE (if i + 1 = 0 then none else l[i + 1 - 1]?) (l.drop (i + 1)) by
            rw [hP, if_pos h0, if_neg (by rw [htg]; simp), if_neg (by omega), Nat.add_sub_cancel, hx])
          rw [htg] at HTg
          clear hP hx hsz htg hl h0
          go_wp2_with (go_at_call 81; refine HTg.out.mono ?_; rintro e w2 ⟨rfl, hw2⟩)
          go_roundw
          case measure => simp [intOf]; omega
          case rel => exact ⟨i + 1, by omega, by go_num, HN.out, HB.out.trans (hw2.mono HB.out.size)⟩
        · obtain ⟨y, hy⟩ : ∃ y, l[i - 1]? = some y := ⟨l[i - 1]'(by omega), List.getElem?_eq_getElem (by omega)⟩
          have hcy := (str_at (ha.below hbel) hy).1
          have j0 : (0 : Int) < (i : Int) := by omega
          have hw1 : IntKind.i64.wrap ((i : Int) - 1) = ((i - 1 : Nat) : Int) := by rw [IntWalk.i64_in _ (by omega)]; omega
          have j1 : (0 : Int) ≤ ((i - 1 : Nat) : Int) := by omega
          have j2 : ((i - 1 : Nat) : Int) < (n : Int) := by omega
          rw [if_neg h0, hy] at hP
          rw [htg] at HTg
          have HNx := Lib.hid (show (if i + 1 = 0 then none else l[i + 1 - 1]?) = some x by rw [if_neg (by omega), Nat.add_sub_cancel, hx])
          have HTG := Lib.hid htg
          clear hx hsz htg hl hy h0
          cases hlss : Op.bytesLess y.toList x.toList with
          | false =>
            have HF := Lib.hid (show tagsE l = 94 by rw [hP, if_pos (.inr ⟨y, rfl, hlss⟩)])
            clear hP
            go_wp2_with (go_at_call 81; refine HTg.out.mono ?_; rintro e w2 ⟨rfl, hw2⟩; have hcy2 := cell_below hw2 hcy)
            go_ret
            exact ⟨ret_int HF.out.symm, HB.out.trans (hw2.mono HB.out.size)⟩
          | true =>
            have HN := Lib.hid (show tagsE l = tgE (if i + 1 = 0 then none else l[i + 1 - 1]?) (l.drop (i + 1)) by
              rw [hP, if_neg (by rw [HTG.out]; simp [hlss]), HNx.out])
            clear hP
            go_wp2_with (go_at_call 81; refine HTg.out.mono ?_; rintro e w2 ⟨rfl, hw2⟩; have hcy2 := cell_below hw2 hcy)
            go_roundw
            case measure => simp [intOf]; omega
            case rel => exact ⟨i + 1, by omega, by go_num, HN.out, HB.out.trans (hw2.mono HB.out.size)⟩
    · obtain rfl : i = n := by omega
      have HE := Lib.hid (show tagsE l = 0 by rw [hP, List.drop_eq_nil_of_le (by omega)]; rfl)
      clear hP
      go_wp2_with fail
      go_ret
      exact ⟨ret_int HE.out.symm, HB.out⟩
end Go.Proofs.YtfjnpiahloncmaaGreat
