import Derived.Test.YtfjnpiahloncmaaGreatTskL
import Derived.Test.YtfjnpiahloncmaaGreatCdcM
namespace Go.Proofs.YtfjnpiahloncmaaGreat
open Go.RowKit Cdc
set_option linter.unusedVariables false
set_option linter.unusedSimpArgs false
def prnB (c : UInt8) : Bool := decide (32 ≤ c.toNat) && decide (c.toNat ≤ 126)
def titleB (s : ByteArray) : Bool := decide (1 ≤ s.size) && decide (s.size ≤ 60) && s.data.toList.all prnB
def tagcB (c : UInt8) : Bool := (decide (97 ≤ c.toNat) && decide (c.toNat ≤ 122)) || (decide (48 ≤ c.toNat) && decide (c.toNat ≤ 57)) || decide (c.toNat = 45)
def tagB (s : ByteArray) : Bool := decide (1 ≤ s.size) && decide (s.size ≤ 16) && s.data.toList.all tagcB
set_option maxRecDepth 20000 in
theorem ba_at {s : ByteArray} {i : Nat} (h : i < s.size) : ∃ c, s[i] = c ∧ s.data.toList[i]? = some c :=
  ⟨_, rfl, by rw [Array.getElem?_toList]; exact Array.getElem?_eq_getElem _⟩
set_option maxRecDepth 20000 in
theorem all_bad {α : Type} {p : α → Bool} {l : List α} {i : Nat} {x : α} (hx : l[i]? = some x) (hp : p x = false) : l.all p = false := by
  rw [List.all_eq_false]
  exact ⟨x, List.mem_of_getElem? hx, by rw [hp]; exact Bool.false_ne_true⟩
set_option maxRecDepth 20000 in
theorem all_good {α : Type} {p : α → Bool} {l : List α} (h : ∀ x ∈ l, p x = true) : l.all p = true := List.all_eq_true.2 h
set_option maxRecDepth 20000 in
theorem prn_cases (c : UInt8) : (prnB c = true ∧ ¬ (c.toNat : Int) < 32 ∧ ¬ (126 : Int) < c.toNat) ∨ (prnB c = false ∧ (c.toNat : Int) < 32) ∨ (prnB c = false ∧ ¬ (c.toNat : Int) < 32 ∧ (126 : Int) < c.toNat) := by
  unfold prnB
  by_cases h1 : 32 ≤ c.toNat <;> by_cases h2 : c.toNat ≤ 126 <;> simp [h1, h2] <;> omega
set_option maxHeartbeats 1000000 in
set_option maxRecDepth 20000 in
theorem rtitle_any (w : World) (s : ByteArray) (hs : s.size ≤ 9223372036854775807) :
    Calls Tryz.prog 22 #[.string s] w fun e w' => e = .returned (.bool (titleB s)) ∧ w = w' := by
  have hsl : s.data.toList.length = s.size := rfl
  go_enter Tryz.func22, Tryz.ntmps22
  go_wp2_with fail
  go_loopw [3] (fun s3 wr => ∃ i : Nat, i ≤ s.size ∧ s3 = .int .i64 i ∧ (∀ x ∈ s.data.toList.take i, prnB x = true) ∧ w = wr) (fun s3 _ => s.size - (intOf s3).toNat)
  case atStart => exact ⟨0, by omega, rfl, (fun x hx => by simp at hx), rfl⟩
  case round =>
    obtain ⟨i, hi, rfl, hP, rfl⟩ := hrel
    by_cases hlt : i < s.size
    · have i0 : (0 : Int) ≤ (i : Int) := by omega
      have i1 : (i : Int) < (s.size : Int) := by omega
      obtain ⟨c, hc, hx⟩ := ba_at hlt
      rcases prn_cases c with ⟨hp, g1, g2⟩ | ⟨hp, g1⟩ | ⟨hp, g1, g2⟩
      · have HN := Lib.hid (take_allG (P := fun x => prnB x = true) hP hx hp)
        clear hP hx hp
        go_wp2_with fail
        go_roundw
        case measure => simp [intOf]; omega
        case rel => exact ⟨i + 1, by omega, by go_num, HN.out, trivial⟩
      · have HF := Lib.hid (show titleB s = false by unfold titleB; rw [all_bad hx hp, Bool.and_false])
        clear hP hx hp
        go_wp2_with fail
        go_ret
        exact ⟨ret_bool HF.out.symm, rfl⟩
      · have HF := Lib.hid (show titleB s = false by unfold titleB; rw [all_bad hx hp, Bool.and_false])
        clear hP hx hp
        go_wp2_with fail
        go_ret
        exact ⟨ret_bool HF.out.symm, rfl⟩
    · obtain rfl : i = s.size := by omega
      have HT := Lib.hid (show titleB s = (decide ((1 : Int) ≤ (s.size : Int)) && decide ((s.size : Int) ≤ 60)) by
        unfold titleB
        rw [all_good (take_full hP hsl), Bool.and_true]
        congr 1 <;> (apply decide_eq_decide.2; omega))
      clear hP hsl
      by_cases h1 : (1 : Int) ≤ (s.size : Int)
      · go_wp2_with fail
        go_ret
        exact ⟨ret_bool (by rw [HT.out, decide_eq_true h1, Bool.true_and]), rfl⟩
      · go_wp2_with fail
        go_ret
        exact ⟨ret_bool (by rw [HT.out, decide_eq_false (Int.not_le.2 h1), Bool.false_and]), rfl⟩
set_option maxRecDepth 20000 in
theorem tagc_cases (c : UInt8) : (tagcB c = true ∧ ((97 : Int) ≤ c.toNat ∧ (c.toNat : Int) ≤ 122)) ∨ (tagcB c = true ∧ ¬ ((97 : Int) ≤ c.toNat) ∧ ((48 : Int) ≤ c.toNat ∧ (c.toNat : Int) ≤ 57)) ∨ (tagcB c = true ∧ ¬ ((97 : Int) ≤ c.toNat) ∧ ¬ ((48 : Int) ≤ c.toNat) ∧ (c.toNat : Int) = 45) ∨
    (tagcB c = false ∧ (¬ ((97 : Int) ≤ c.toNat) ∨ ¬ ((c.toNat : Int) ≤ 122)) ∧ (¬ ((48 : Int) ≤ c.toNat) ∨ ¬ ((c.toNat : Int) ≤ 57)) ∧ ¬ (c.toNat : Int) = 45) := by
  unfold tagcB
  by_cases h1 : 97 ≤ c.toNat <;> by_cases h2 : c.toNat ≤ 122 <;> by_cases h3 : 48 ≤ c.toNat <;> by_cases h4 : c.toNat ≤ 57 <;> by_cases h5 : c.toNat = 45 <;> simp [h1, h2, h3, h4, h5] <;> omega
set_option maxHeartbeats 1000000 in
set_option maxRecDepth 20000 in
theorem rtag_any (w : World) (s : ByteArray) (hs : s.size ≤ 9223372036854775807) :
    Calls Tryz.prog 25 #[.string s] w fun e w' => e = .returned (.bool (tagB s)) ∧ w = w' := by
  have hsl : s.data.toList.length = s.size := rfl
  go_enter Tryz.func25, Tryz.ntmps25
  go_wp2_with fail
  go_loopw [3] (fun s3 wr => ∃ i : Nat, i ≤ s.size ∧ s3 = .int .i64 i ∧ (∀ x ∈ s.data.toList.take i, tagcB x = true) ∧ w = wr) (fun s3 _ => s.size - (intOf s3).toNat)
  case atStart => exact ⟨0, by omega, rfl, (fun x hx => by simp at hx), rfl⟩
  case round =>
    obtain ⟨i, hi, rfl, hP, rfl⟩ := hrel
    by_cases hlt : i < s.size
    · have i0 : (0 : Int) ≤ (i : Int) := by omega
      have i1 : (i : Int) < (s.size : Int) := by omega
      obtain ⟨c, hc, hx⟩ := ba_at hlt
      have HX := Lib.hid hx
      have HP := Lib.hid hP
      clear hx hP
      cases hp : tagcB c with
      | true =>
        have HC := Lib.hid (tagc_cases c)
        have HN := Lib.hid (take_allG (P := fun x => tagcB x = true) HP.out HX.out hp)
        rw [hp] at HC
        clear hp
        go_wp2_with fail
        all_goals first
          | (go_roundw
             case measure => simp [intOf]; omega
             case rel => exact ⟨i + 1, by omega, by go_num, HN.out, trivial⟩)
          | (exfalso
             have := HC.out
             simp_all <;> omega)
      | false =>
        have HC := Lib.hid (tagc_cases c)
        have HF := Lib.hid (show tagB s = false by unfold tagB; rw [all_bad HX.out hp, Bool.and_false])
        rw [hp] at HC
        clear hp
        go_wp2_with fail
        all_goals first
          | (go_ret
             exact ⟨ret_bool HF.out.symm, rfl⟩)
          | (exfalso
             have := HC.out
             simp_all <;> omega)
    · obtain rfl : i = s.size := by omega
      have HT := Lib.hid (show tagB s = (decide ((1 : Int) ≤ (s.size : Int)) && decide ((s.size : Int) ≤ 16)) by
        unfold tagB
        rw [all_good (take_full hP hsl), Bool.and_true]
        congr 1 <;> (apply decide_eq_decide.2; omega))
      clear hP hsl
      by_cases h1 : (1 : Int) ≤ (s.size : Int)
      · go_wp2_with fail
        go_ret
        exact ⟨ret_bool (by rw [HT.out, decide_eq_true h1, Bool.true_and]), rfl⟩
      · go_wp2_with fail
        go_ret
        exact ⟨ret_bool (by rw [HT.out, decide_eq_false (Int.not_le.2 h1), Bool.false_and]), rfl⟩
set_option maxRecDepth 20000 in
theorem printable_any (w : World) (c : UInt8) : Calls Tryz.prog 34 #[.int .u8 c.toNat] w fun e w' => e = .returned (.bool (prnB c)) ∧ w = w' := by
  rcases prn_cases c with ⟨hp, g1, g2⟩ | ⟨hp, g1⟩ | ⟨hp, g1, g2⟩
  all_goals
    have HP := Lib.hid hp
    clear hp
    go_enter Tryz.func34, Tryz.ntmps34
    go_wp2_with fail
    go_ret
    exact ⟨ret_bool (by first | (rw [HP.out]; done) | (rw [HP.out]; simp; done) | (rw [HP.out]; simp; omega)), rfl⟩
set_option maxRecDepth 20000 in
theorem titlef_any (w : World) (c : UInt8) : Calls Tryz.prog 33 #[.int .u8 c.toNat] w fun e w' => e = .returned (.bool (!prnB c)) ∧ w = w' := by
  go_enter Tryz.func33, Tryz.ntmps33
  go_wp2_with (go_at_call 34; refine (printable_any _ _).mono ?_; rintro e w' ⟨rfl, rfl⟩)
  go_ret
  exact ⟨rfl, rfl⟩
set_option maxHeartbeats 1000000 in
set_option maxRecDepth 20000 in
theorem title_idx (w : World) (A : Option Addr) (n ca : Nat) (l : List UInt8) (h : Bs w A n l) :
    Calls Tryz.prog 54 #[.slice A n ca, .func (.func 33) #[] #[]] w fun e w' => (∃ r : Int, e = .returned (.int .i64 r) ∧ decide (r ≥ 0) = !(l.all prnB)) ∧ w = w' := by
  have hl := h.len
  have hn := h.1
  go_enter Tryz.func54, Tryz.ntmps54
  go_wp2_with fail
  go_loopw [8] (fun s8 wr => ∃ i : Nat, i ≤ n ∧ s8 = .int .i64 i ∧ (∀ x ∈ l.take i, prnB x = true) ∧ w = wr) (fun s8 _ => n - (intOf s8).toNat)
  case atStart => exact ⟨0, by omega, rfl, (fun x hx => by simp at hx), rfl⟩
  case round =>
    obtain ⟨i, hi, rfl, hP, rfl⟩ := hrel
    by_cases hlt : i < n
    · obtain ⟨ad, c, rfl, hx, hc⟩ := h.at_ i hlt
      have i0 : (0 : Int) ≤ (i : Int) := by omega
      have i1 : (i : Int) < (n : Int) := by omega
      have HX := Lib.hid hx
      have HP := Lib.hid hP
      clear hx hP h
      cases hp : prnB c with
      | true =>
        have HN := Lib.hid (take_allG (P := fun x => prnB x = true) HP.out HX.out hp)
        have HT := Lib.hid (titlef_any w c)
        rw [hp] at HT
        clear hp
        go_wp2_with (go_at_call 33; refine HT.out.mono ?_; rintro e w' ⟨rfl, rfl⟩)
        go_roundw
        case measure => simp [intOf]; omega
        case rel => exact ⟨i + 1, by omega, by go_num, HN.out, trivial⟩
      | false =>
        have HF := Lib.hid (all_bad HX.out hp)
        have HT := Lib.hid (titlef_any w c)
        rw [hp] at HT
        clear hp
        go_wp2_with (go_at_call 33; refine HT.out.mono ?_; rintro e w' ⟨rfl, rfl⟩)
        go_ret
        exact ⟨⟨i, rfl, by rw [HF.out]; simp⟩, rfl⟩
    · obtain rfl : i = n := by omega
      have HF := Lib.hid (all_good (take_full hP hl))
      clear hP
      go_wp2_with fail
      go_ret
      exact ⟨⟨-1, rfl, by rw [HF.out]; rfl⟩, rfl⟩
set_option maxRecDepth 20000 in
theorem title_has (w : World) (A : Option Addr) (n ca : Nat) (l : List UInt8) (h : Bs w A n l) :
    Calls Tryz.prog 32 #[.slice A n ca, .func (.func 33) #[] #[]] w fun e w' => e = .returned (.bool (!(l.all prnB))) ∧ w = w' := by
  go_enter Tryz.func32, Tryz.ntmps32
  go_wp2_with (go_at_call 54; refine (title_idx _ A n ca l h).mono ?_; rintro e w' ⟨⟨r, rfl, hr⟩, rfl⟩; have HR := Lib.hid hr; clear hr)
  go_ret
  exact ⟨ret_bool HR.out, rfl⟩
set_option maxHeartbeats 1000000 in
set_option maxRecDepth 20000 in
theorem title_any (w : World) (s : ByteArray) (hs : s.size ≤ 9223372036854775807) :
    Calls Tryz.prog 11 #[.string s] w fun e w' => e = .returned (.bool (titleB s)) ∧ Below w.heap.size w w' := by
  have hsl : s.data.toList.length = s.size := rfl
  by_cases h1 : (s.size : Int) < 1
  · have HT := Lib.hid (show titleB s = false by unfold titleB; rw [decide_eq_false (show ¬ 1 ≤ s.size by omega)]; rfl)
    go_enter Tryz.func11, Tryz.ntmps11
    go_wp2_with fail
    go_ret
    exact ⟨ret_bool HT.out.symm, Below.refl _ _⟩
  by_cases h2 : (60 : Int) < (s.size : Int)
  · have HT := Lib.hid (show titleB s = false by unfold titleB; rw [decide_eq_false (show ¬ s.size ≤ 60 by omega), Bool.and_false]; rfl)
    go_enter Tryz.func11, Tryz.ntmps11
    go_wp2_with fail
    go_ret
    exact ⟨ret_bool HT.out.symm, Below.refl _ _⟩
  have HT := Lib.hid (show titleB s = s.data.toList.all prnB by unfold titleB; rw [decide_eq_true (show 1 ≤ s.size by omega), decide_eq_true (show s.size ≤ 60 by omega)]; rfl)
  go_enter Tryz.func11, Tryz.ntmps11
  go_wp2_with (first
    | (refine wpL_bytes rfl _ _ _ _ rfl s rfl Tryz.underlying9 Tryz.underlying39 Tryz.underlying5 hs ?_
       intro w1 cap hb1 hw1 _
       have HB1 := Lib.hid hb1
       clear hb1)
    | (go_at_call 32; refine (title_has _ _ _ _ _ HB1.out).mono ?_; rintro e w' ⟨rfl, rfl⟩))
  go_ret
  exact ⟨ret_bool (by rw [HT.out]; simp), hw1⟩
set_option maxHeartbeats 1000000 in
set_option maxRecDepth 20000 in
theorem tag_any (w : World) (s : ByteArray) (hs : s.size ≤ 9223372036854775807) :
    Calls Tryz.prog 81 #[.string s] w fun e w' => e = .returned (.bool (tagB s)) ∧ Below w.heap.size w w' := by
  have hsl : s.data.toList.length = s.size := rfl
  by_cases h1 : (s.size : Int) < 1
  · have HT := Lib.hid (show tagB s = false by unfold tagB; rw [decide_eq_false (show ¬ 1 ≤ s.size by omega)]; rfl)
    go_enter Tryz.func81, Tryz.ntmps81
    go_wp2_with fail
    go_ret
    exact ⟨ret_bool HT.out.symm, Below.refl _ _⟩
  by_cases h2 : (16 : Int) < (s.size : Int)
  · have HT := Lib.hid (show tagB s = false by unfold tagB; rw [decide_eq_false (show ¬ s.size ≤ 16 by omega), Bool.and_false]; rfl)
    go_enter Tryz.func81, Tryz.ntmps81
    go_wp2_with fail
    go_ret
    exact ⟨ret_bool HT.out.symm, Below.refl _ _⟩
  have HT := Lib.hid (show tagB s = s.data.toList.all tagcB by unfold tagB; rw [decide_eq_true (show 1 ≤ s.size by omega), decide_eq_true (show s.size ≤ 16 by omega)]; rfl)
  go_enter Tryz.func81, Tryz.ntmps81
  go_wp2_with (first
    | (refine wpL_bytes rfl _ _ _ _ rfl s rfl Tryz.underlying9 Tryz.underlying39 Tryz.underlying5 hs ?_
       intro w1 cap hb1 hw1 _
       have HB1 := Lib.hid hb1
       clear hb1))
  go_loopw [18] (fun s18 wr => ∃ i : Nat, i ≤ s.size ∧ s18 = .int .i64 i ∧ (∀ x ∈ s.data.toList.take i, tagcB x = true) ∧ w1 = wr) (fun s18 _ => s.size - (intOf s18).toNat)
  case atStart => exact ⟨0, by omega, rfl, (fun x hx => by simp at hx), rfl⟩
  case round =>
    obtain ⟨i, hi, rfl, hP, rfl⟩ := hrel
    by_cases hlt : i < s.size
    · have i0 : (0 : Int) ≤ (i : Int) := by omega
      have i1 : (i : Int) < (s.size : Int) := by omega
      obtain ⟨ad, c, e0, hx, hc⟩ := HB1.out.at_ i hlt
      injection e0 with e0
      subst e0
      rw [add_plain] at hc
      have HX := Lib.hid hx
      have HP := Lib.hid hP
      clear hx hP
      cases hp : tagcB c with
      | true =>
        have HC := Lib.hid (tagc_cases c)
        have HN := Lib.hid (take_allG (P := fun x => tagcB x = true) HP.out HX.out hp)
        rw [hp] at HC
        clear hp
        go_wp2_with fail
        all_goals first
          | (go_roundw
             case measure => simp [intOf]; omega
             case rel => exact ⟨i + 1, by omega, by go_num, HN.out, by trivial⟩)
          | (exfalso
             have := HC.out
             simp_all <;> omega)
      | false =>
        have HC := Lib.hid (tagc_cases c)
        have HF := Lib.hid (show tagB s = false by rw [HT.out, all_bad HX.out hp])
        rw [hp] at HC
        clear hp
        go_wp2_with fail
        all_goals first
          | (go_ret
             exact ⟨ret_bool HF.out.symm, hw1⟩)
          | (exfalso
             have := HC.out
             simp_all <;> omega)
    · obtain rfl : i = s.size := by omega
      have HV := Lib.hid (show tagB s = true by rw [HT.out, all_good (take_full hP hsl)])
      clear hP hsl
      go_wp2_with fail
      go_ret
      exact ⟨ret_bool HV.out.symm, hw1⟩
end Go.Proofs.YtfjnpiahloncmaaGreat
