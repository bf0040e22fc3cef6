import Derived.Test.YtnolhnlhohpkpaaRcdS
namespace Go.Proofs.Ytnolhnlhohpkpaa
open Go.RowKit Cdc
set_option linter.unusedVariables false
set_option linter.unusedSimpArgs false
attribute [local go_sem] run_store_float
def FewP (n : Nat) (l : List PartT) : Prop := n ≤ 20 ∧ ∀ x ∈ l, x.2.2.2.2.1.length ≤ 200
def TellPost (p : Prop) (w : World) (e : Ending) (w' : World) : Prop := ∃ b, e = .returned (.bool b) ∧ (b = true → p) ∧ Below w.heap.size w w'
set_option maxRecDepth 20000 in
theorem take_all {P : PartT → Prop} {l : List PartT} {i : Nat} {x : PartT} (h : ∀ y ∈ l.take i, P y) (hx : l[i]? = some x) (hp : P x) : ∀ y ∈ l.take (i + 1), P y := by
  rw [take_at hx]
  intro y hy
  rcases List.mem_append.1 hy with hy | hy
  · exact h y hy
  · simp at hy; subst hy; exact hp
set_option maxHeartbeats 4000000 in
set_option maxRecDepth 20000 in
theorem few_any (w : World) (A : Option Addr) (n ca : Nat) (l : List PartT) (ha : Rows w anyB PART A n l) (hn : n ≤ 9223372036854775807) :
    Calls Try.prog 11 #[.slice A n ca] w (TellPost (FewP n l) w) := by
  go_enter Try.func11, Try.ntmps11
  go_wp2_with fail
  go_loopw [7] (fun s7 wr => ∃ i : Nat, i ≤ n ∧ s7 = .int .i64 i ∧ (∀ x ∈ l.take i, x.2.2.2.2.1.length ≤ 200) ∧ Below w.heap.size w wr) (fun s7 _ => n - (intOf s7).toNat)
  case atStart => exact ⟨0, by omega, rfl, (fun x hx => by simp at hx), Below.refl _ _⟩
  case round =>
    obtain ⟨i, hi, rfl, hP, hbel⟩ := hrel
    have hl := ha.1
    have HB := Lib.hid hbel
    by_cases hlt : i < n
    · obtain ⟨x, hx⟩ : ∃ x, l[i]? = some x := ⟨l[i]'(by omega), List.getElem?_eq_getElem (by omega)⟩
      obtain ⟨ad, rfl⟩ : ∃ ad, A = some ad := by cases A with
        | none => exact absurd (ha.2.1 rfl) (by omega)
        | some ad => exact ⟨ad, rfl⟩
      obtain ⟨cs, _, hat, hrd⟩ := ha.2.2 ad rfl i x hx
      have i0 : (0 : Int) ≤ (i : Int) := by omega
      have i1 : (i : Int) < (n : Int) := by omega
      have HAt := Lib.hid (hat.add.below hbel)
      obtain ⟨k, nn, ii, f, bs, q, bv, rfl, rfl, hk, hok, h5⟩ := rd_part hrd
      obtain ⟨Ab, cb, rfl, _, _, _, _⟩ := rd_bs h5
      have HN := Lib.hid (fun h : bs.length ≤ 200 => take_all (P := fun x => x.2.2.2.2.1.length ≤ 200) hP hx h)
      clear hat hrd hx hk h5 hP hok
      by_cases hs : bs.length ≤ 200
      · have hs2 : ¬ (200 : Int) < (bs.length : Int) := by omega
        have HS := Lib.hid hs
        clear hs
        go_wp2_with (first
          | (refine wpL_load rfl 39 (.tmp 9) rfl _ rfl _ _ HAt.out Try.underlying39 rfl rfl ?_)
          | (refine wpL_store rfl 39 (.tmp 4) (.tmp 10) rfl wr.heap.size rfl _ _ 39 rfl (heap_alloc_new wr _) rfl rfl (by intro v hv; simp at hv; rcases hv with rfl | rfl | rfl | rfl | rfl | rfl <;> rfl) ?_
             intro w1 hc1 hg1
             have hbw1 : Below wr.heap.size wr w1 := (below_alloc1 wr _).grown hg1 (by simp) (fun k e => by cases e; exact Nat.le_refl _)
             obtain ⟨c0, c1, c2, c3, c4, c5⟩ := blk6 hc1
             have HB1 := Lib.hid (HB.out.trans (hbw1.mono HB.out.size))
             clear hc1 hg1 hbw1))
        go_roundw
        case measure => simp [intOf]; omega
        case rel => exact ⟨i + 1, by omega, by go_num, HN.out HS.out, HB1.out⟩
      · have hs2 : (200 : Int) < (bs.length : Int) := by omega
        clear hs
        go_wp2_with (first
          | (refine wpL_load rfl 39 (.tmp 9) rfl _ rfl _ _ HAt.out Try.underlying39 rfl rfl ?_)
          | (refine wpL_store rfl 39 (.tmp 4) (.tmp 10) rfl wr.heap.size rfl _ _ 39 rfl (heap_alloc_new wr _) rfl rfl (by intro v hv; simp at hv; rcases hv with rfl | rfl | rfl | rfl | rfl | rfl <;> rfl) ?_
             intro w1 hc1 hg1
             have hbw1 : Below wr.heap.size wr w1 := (below_alloc1 wr _).grown hg1 (by simp) (fun k e => by cases e; exact Nat.le_refl _)
             obtain ⟨c0, c1, c2, c3, c4, c5⟩ := blk6 hc1
             have HB1 := Lib.hid (HB.out.trans (hbw1.mono HB.out.size))
             clear hc1 hg1 hbw1))
        go_ret
        exact ⟨false, rfl, (fun e => by cases e), HB1.out⟩
    · obtain rfl : i = n := by omega
      have HP := Lib.hid (show ∀ x ∈ l, x.2.2.2.2.1.length ≤ 200 by rw [List.take_of_length_le (by omega)] at hP; exact hP)
      clear hP
      go_wp2_with fail
      go_ret
      exact ⟨decide ((i : Int) ≤ 20), rfl, (fun e => ⟨by have := of_decide_eq_true e; omega, HP.out⟩), HB.out⟩
def KnownP (l : List PartT) : Prop := ∀ x ∈ l, 1 ≤ x.1 ∧ x.1 ≤ 5
set_option maxHeartbeats 4000000 in
set_option maxRecDepth 20000 in
theorem known_any (w : World) (A : Option Addr) (n ca : Nat) (l : List PartT) (ha : Rows w anyB PART A n l) (hn : n ≤ 9223372036854775807) :
    Calls Try.prog 17 #[.slice A n ca] w (TellPost (KnownP l) w) := by
  go_enter Try.func17, Try.ntmps17
  go_wp2_with fail
  go_loopw [7] (fun s7 wr => ∃ i : Nat, i ≤ n ∧ s7 = .int .i64 i ∧ (∀ x ∈ l.take i, 1 ≤ x.1 ∧ x.1 ≤ 5) ∧ Below w.heap.size w wr) (fun s7 _ => n - (intOf s7).toNat)
  case atStart => exact ⟨0, by omega, rfl, (fun x hx => by simp at hx), Below.refl _ _⟩
  case round =>
    obtain ⟨i, hi, rfl, hP, hbel⟩ := hrel
    have hl := ha.1
    have HB := Lib.hid hbel
    by_cases hlt : i < n
    · obtain ⟨x, hx⟩ : ∃ x, l[i]? = some x := ⟨l[i]'(by omega), List.getElem?_eq_getElem (by omega)⟩
      obtain ⟨ad, rfl⟩ : ∃ ad, A = some ad := by cases A with
        | none => exact absurd (ha.2.1 rfl) (by omega)
        | some ad => exact ⟨ad, rfl⟩
      obtain ⟨cs, _, hat, hrd⟩ := ha.2.2 ad rfl i x hx
      have i0 : (0 : Int) ≤ (i : Int) := by omega
      have i1 : (i : Int) < (n : Int) := by omega
      have HAt := Lib.hid (hat.add.below hbel)
      obtain ⟨k, nn, ii, f, bs, q, bv, rfl, rfl, hk, hok, h5⟩ := rd_part hrd
      obtain ⟨Ab, cb, rfl, _, _, _, _⟩ := rd_bs h5
      have HN := Lib.hid (fun h : 1 ≤ k ∧ k ≤ 5 => take_all (P := fun x => 1 ≤ x.1 ∧ x.1 ≤ 5) hP hx h)
      clear hat hrd hx hk h5 hP hok
      by_cases hk1 : k < 1
      · go_wp2_with (first
          | (refine wpL_load rfl 39 (.tmp 9) rfl _ rfl _ _ HAt.out Try.underlying39 rfl rfl ?_)
          | (refine wpL_store rfl 39 (.tmp 4) (.tmp 10) rfl wr.heap.size rfl _ _ 39 rfl (heap_alloc_new wr _) rfl rfl (by intro v hv; simp at hv; rcases hv with rfl | rfl | rfl | rfl | rfl | rfl <;> rfl) ?_
             intro w1 hc1 hg1
             have hbw1 : Below wr.heap.size wr w1 := (below_alloc1 wr _).grown hg1 (by simp) (fun k e => by cases e; exact Nat.le_refl _)
             obtain ⟨c0, c1, c2, c3, c4, c5⟩ := blk6 hc1
             have HB1 := Lib.hid (HB.out.trans (hbw1.mono HB.out.size))
             clear hc1 hg1 hbw1))
        go_ret
        exact ⟨false, rfl, (fun e => by cases e), HB1.out⟩
      · by_cases hk5 : 5 < k
        · go_wp2_with (first
            | (refine wpL_load rfl 39 (.tmp 9) rfl _ rfl _ _ HAt.out Try.underlying39 rfl rfl ?_)
            | (refine wpL_store rfl 39 (.tmp 4) (.tmp 10) rfl wr.heap.size rfl _ _ 39 rfl (heap_alloc_new wr _) rfl rfl (by intro v hv; simp at hv; rcases hv with rfl | rfl | rfl | rfl | rfl | rfl <;> rfl) ?_
               intro w1 hc1 hg1
               have hbw1 : Below wr.heap.size wr w1 := (below_alloc1 wr _).grown hg1 (by simp) (fun k e => by cases e; exact Nat.le_refl _)
               obtain ⟨c0, c1, c2, c3, c4, c5⟩ := blk6 hc1
               have HB1 := Lib.hid (HB.out.trans (hbw1.mono HB.out.size))
               clear hc1 hg1 hbw1))
          go_ret
          exact ⟨false, rfl, (fun e => by cases e), HB1.out⟩
        · have HS := Lib.hid (show 1 ≤ k ∧ k ≤ 5 by omega)
          go_wp2_with (first
            | (refine wpL_load rfl 39 (.tmp 9) rfl _ rfl _ _ HAt.out Try.underlying39 rfl rfl ?_)
            | (refine wpL_store rfl 39 (.tmp 4) (.tmp 10) rfl wr.heap.size rfl _ _ 39 rfl (heap_alloc_new wr _) rfl rfl (by intro v hv; simp at hv; rcases hv with rfl | rfl | rfl | rfl | rfl | rfl <;> rfl) ?_
               intro w1 hc1 hg1
               have hbw1 : Below wr.heap.size wr w1 := (below_alloc1 wr _).grown hg1 (by simp) (fun k e => by cases e; exact Nat.le_refl _)
               obtain ⟨c0, c1, c2, c3, c4, c5⟩ := blk6 hc1
               have HB1 := Lib.hid (HB.out.trans (hbw1.mono HB.out.size))
               clear hc1 hg1 hbw1))
          go_roundw
          case measure => simp [intOf]; omega
          case rel => exact ⟨i + 1, by omega, by go_num, HN.out HS.out, HB1.out⟩
    · obtain rfl : i = n := by omega
      have HP := Lib.hid (show ∀ x ∈ l, 1 ≤ x.1 ∧ x.1 ≤ 5 by rw [List.take_of_length_le (by omega)] at hP; exact hP)
      clear hP
      go_wp2_with fail
      go_ret
      exact ⟨true, rfl, (fun _ => HP.out), HB.out⟩
set_option maxRecDepth 20000 in
theorem info_i64 : (Try.prog.info? 3).map (fun i => (i.zero, i.size, i.bytes)) = some (some (.int .i64 0), 1, 8) := by kernel_rfl
set_option maxRecDepth 20000 in
theorem rows_ints {w : World} {ok : Nat → Prop} {A : Option Addr} {n : Nat} {ks : List Int} (h : Rc w A n (ks.map (Value.int .i64))) (hw : ∀ k ∈ ks, (Lit.int .i64 k).wf = true) (hk : ks ≠ [] → ∀ ad, A = some ad → ok ad.block) : Rows w ok (.int .i64) A n ks := by
  refine ⟨by simpa using h.1, h.2.1, fun ad e i x hx => ⟨[.int .i64 x], fun _ => hk (by intro e; subst e; simp at hx) ad e, fun j v hv => ?_, rfl, hw x (List.mem_of_getElem? hx)⟩⟩
  match j with
  | 0 =>
    simp at hv
    subst hv
    have := h.2.2 ad e i (.int .i64 x) (by rw [List.getElem?_map, hx]; rfl)
    simpa [Sh.size] using this
  | j + 1 => simp at hv
def KindsPost (w : World) (ks : List Int) (e : Ending) (w' : World) : Prop := ∃ A c, e = .returned (.slice A ks.length c) ∧ Rows w' anyB (.int .i64) A ks.length ks ∧ Below w.heap.size w w'
set_option maxHeartbeats 4000000 in
set_option maxRecDepth 20000 in
theorem kinds_any (w : World) (A : Option Addr) (n ca : Nat) (l : List PartT) (ha : Rows w anyB PART A n l) (hn : n ≤ 1000) :
    Calls Try.prog 19 #[.slice A n ca] w (KindsPost w (l.map fun x => x.1)) := by
  go_enter Try.func19, Try.ntmps19
  go_wp2_with fail
  go_loopw [3, 8] (fun s3 s8 wr => ∃ (i : Nat) (v : Value), i ≤ n ∧ v = s3 ∧ s8 = .int .i64 i ∧ wr.ownsRow w.heap.size 3 1 v i (((l.take i).map fun x => x.1).map (Value.int .i64)) ∧ (∀ k ∈ (l.take i).map (fun x => x.1), (Lit.int .i64 k).wf = true) ∧ Below w.heap.size w wr) (fun _ s8 _ => n - (intOf s8).toNat)
  case atStart => exact ⟨0, _, by omega, rfl, rfl, own_nil _ _ _ _, (fun k hk => by simp at hk), Below.refl _ _⟩
  case round =>
    obtain ⟨i, v, hi, rfl, rfl, hO, hW, hbel⟩ := hrel
    have hl := ha.1
    have HB := Lib.hid hbel
    have HO := Lib.hid hO
    by_cases hlt : i < n
    · obtain ⟨x, hx⟩ : ∃ x, l[i]? = some x := ⟨l[i]'(by omega), List.getElem?_eq_getElem (by omega)⟩
      obtain ⟨ad, rfl⟩ : ∃ ad, A = some ad := by cases A with
        | none => exact absurd (ha.2.1 rfl) (by omega)
        | some ad => exact ⟨ad, rfl⟩
      obtain ⟨cs, _, hat, hrd⟩ := ha.2.2 ad rfl i x hx
      have i0 : (0 : Int) ≤ (i : Int) := by omega
      have i1 : (i : Int) < (n : Int) := by omega
      have HAt := Lib.hid (hat.add.below hbel)
      obtain ⟨k, nn, ii, f, bs, q, bv, rfl, rfl, hk, hok, h5⟩ := rd_part hrd
      obtain ⟨Ab, cb, rfl, _, _, _, _⟩ := rd_bs h5
      have HN := Lib.hid (show (l.take (i + 1)).map (fun x => x.1) = (l.take i).map (fun x => x.1) ++ [k] by rw [take_at hx, List.map_append]; rfl)
      have HW := Lib.hid (show ∀ j ∈ (l.take i).map (fun x => x.1) ++ [k], (Lit.int .i64 j).wf = true from fun j hj => by
        rcases List.mem_append.1 hj with hj | hj
        · exact hW j hj
        · simp at hj; subst hj; exact hk)
      clear hat hrd hx hk h5 hok hO hW
      go_wp2_with (first
        | (refine wpL_load rfl 39 (.tmp 10) rfl _ rfl _ _ HAt.out Try.underlying39 rfl rfl ?_)
        | (refine wpL_store rfl 39 (.tmp 5) (.tmp 11) rfl wr.heap.size rfl _ _ 39 rfl (heap_alloc_new wr _) rfl rfl (by intro v hv; simp at hv; rcases hv with rfl | rfl | rfl | rfl | rfl | rfl <;> rfl) ?_
           intro w1 hc1 hg1
           have hbw1 : Below wr.heap.size wr w1 := (below_alloc1 wr _).grown hg1 (by simp) (fun k e => by cases e; exact Nat.le_refl _)
           obtain ⟨c0, c1, c2, c3, c4, c5⟩ := blk6 hc1
           have HB1 := Lib.hid (HB.out.trans (hbw1.mono HB.out.size))
           have HO1 := Lib.hid (own_below HO.out hbw1)
           clear hc1 hg1 hbw1)
        | (at_builtin
           refine wp_app (base := w.heap.size) (w0 := w1) rfl (.tmp 12) (.tmp 15) rfl (HO1.out.alloc _) (lit_rc w1 3 (0, 0) _ 1 rfl) ((Below.refl _ w1).alloc HB1.out.size _) Try.underlying24 info_i64 rfl rfl rfl (by intro u hu; simp at hu; subst hu; rfl) (by omega) (by omega) (by have := HB1.out.size; simp; omega) ?_
           intro v3 w3 ho3 hq3 _ _
           rw [show (#[Value.int .i64 k] : Array Value).toList = [k].map (Value.int .i64) from rfl, ← List.map_append] at ho3
           have HO3 := Lib.hid ho3
           have HB3 := Lib.hid hq3
           clear ho3 hq3))
      go_roundw
      case measure => simp [intOf]; omega
      case rel => exact ⟨i + 1, _, by omega, rfl, by go_num, by rw [HN.out]; exact HO3.out, by rw [HN.out]; exact HW.out, HB1.out.trans HB3.out⟩
    · obtain rfl : i = n := by omega
      have hall : l.take i = l := List.take_of_length_le (by omega)
      rw [hall] at HO hW
      have HW := Lib.hid hW
      clear hO hW hall
      go_wp2_with fail
      go_ret
      have hO := HO.out
      have hlen : (l.map fun x => x.1).length = i := by simp [hl]
      rcases hO.2 with ⟨rfl, hz⟩ | ⟨g, cap, cur, rfl, hg, hh, hnc, hcm, _⟩
      · subst hz
        exact ⟨none, 0, by rw [hlen]; rfl, by rw [hlen]; exact ⟨hlen, fun _ => rfl, fun ad e => by cases e⟩, HB.out⟩
      · obtain ⟨A', c', e, h1, h2, h3⟩ := own_rc hO
        injection e with e1 e2 e3
        subst e1
        exact ⟨some ⟨g, 0, none⟩, cap, by rw [hlen]; rfl, by rw [hlen]; exact rows_ints h3 HW.out (fun _ _ _ => trivial), HB.out⟩
end Go.Proofs.Ytnolhnlhohpkpaa
