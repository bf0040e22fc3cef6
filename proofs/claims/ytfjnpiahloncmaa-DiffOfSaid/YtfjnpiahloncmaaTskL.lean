import Derived.Test.YtfjnpiahloncmaaTskD
namespace Go.Proofs.Ytfjnpiahloncmaa
open Go.RowKit
set_option linter.unusedVariables false
set_option linter.unusedSimpArgs false
attribute [local go_sem] run_store_float
def TellB (p : Prop) (w : World) (e : Ending) (w' : World) : Prop := ∃ b, e = .returned (.bool b) ∧ (b = true → p) ∧ Below w.heap.size w w'
def TellR (p : Prop) (w : World) (e : Ending) (w' : World) : Prop := ∃ b, e = .returned (.bool b) ∧ (b = true → p) ∧ w = w'
set_option maxRecDepth 20000 in
theorem take_allG {α : Type} {P : α → Prop} {l : List α} {i : Nat} {x : α} (h : ∀ y ∈ l.take i, P y) (hx : l[i]? = some x) (hp : P x) : ∀ y ∈ l.take (i + 1), P y := by
  rw [take_at hx]
  intro y hy
  rcases List.mem_append.1 hy with hy | hy
  · exact h y hy
  · simp at hy; subst hy; exact hp
set_option maxRecDepth 20000 in
theorem take_full {α : Type} {P : α → Prop} {l : List α} {n : Nat} (h : ∀ y ∈ l.take n, P y) (hl : l.length = n) : ∀ y ∈ l, P y := by rwa [List.take_of_length_le (by omega)] at h
set_option maxRecDepth 20000 in
theorem str_at {w : World} {ok : Nat → Prop} {ad : Addr} {n i : Nat} {ks : List ByteArray} {k : ByteArray} (h : Rows w ok .str (some ad) n ks) (hx : ks[i]? = some k) : w.cell? (ad.add i) = some (.string k) ∧ k.size ≤ 9223372036854775807 := by
  obtain ⟨cs, _, hat, hrd⟩ := h.2.2 ad rfl i k hx
  obtain ⟨rfl, hw⟩ := hrd
  have := hat 0 _ rfl
  exact ⟨by simpa [Sh.size] using this, hw⟩
def TextsP (n : Nat) (l : List ByteArray) : Prop := n ≤ 8 ∧ ∀ x ∈ l, x.size ≤ 100
set_option maxHeartbeats 1000000 in
set_option maxRecDepth 20000 in
theorem texts_any (w : World) (A : Option Addr) (n ca : Nat) (l : List ByteArray) (ha : Rows w anyB .str A n l) (hn : n ≤ 9223372036854775807) :
    Calls Try.prog 10 #[.slice A n ca] w (TellR (TextsP n l) w) := by
  go_enter Try.func10, Try.ntmps10
  go_wp2_with fail
  go_loopw [7] (fun s7 wr => ∃ i : Nat, i ≤ n ∧ s7 = .int .i64 i ∧ (∀ x ∈ l.take i, x.size ≤ 100) ∧ w = wr) (fun s7 _ => n - (intOf s7).toNat)
  case atStart => exact ⟨0, by omega, rfl, (fun x hx => by simp at hx), rfl⟩
  case round =>
    obtain ⟨i, hi, rfl, hP, rfl⟩ := hrel
    have hl := ha.1
    by_cases hlt : i < n
    · obtain ⟨ad, x, rfl, hx⟩ := ha.some_at hlt
      obtain ⟨hc, hsz⟩ := str_at ha hx
      have i0 : (0 : Int) ≤ (i : Int) := by omega
      have i1 : (i : Int) < (n : Int) := by omega
      have HN := Lib.hid (fun h : x.size ≤ 100 => take_allG (P := fun x => x.size ≤ 100) hP hx h)
      clear hx hP ha
      by_cases hs : x.size ≤ 100
      · have hs2 : ¬ (100 : Int) < (x.size : Int) := by omega
        have HS := Lib.hid hs
        clear hs
        go_wp2_with fail
        go_roundw
        case measure => simp [intOf]; omega
        case rel => exact ⟨i + 1, by omega, by go_num, HN.out HS.out, trivial⟩
      · have hs2 : (100 : Int) < (x.size : Int) := by omega
        go_wp2_with fail
        go_ret
        exact ⟨false, rfl, (fun e => by cases e), rfl⟩
    · obtain rfl : i = n := by omega
      have HP := Lib.hid (take_full hP hl)
      clear hP
      go_wp2_with fail
      go_ret
      exact ⟨decide ((i : Int) ≤ 8), rfl, (fun e => ⟨by have := of_decide_eq_true e; omega, HP.out⟩), rfl⟩
/-- A task that is small. -/
def SmallT (t : TASK.Ty) : Prop := t.2.2.1.size ≤ 100 ∧ TextsP t.2.2.2.2.2.2.1.length t.2.2.2.2.2.2.1
def SmallL (x : LIST.Ty) : Prop := x.2.1.size ≤ 100
def LightP (ls : List LIST.Ty) (ts : List TASK.Ty) : Prop := ls.length ≤ 25 ∧ ts.length ≤ 70 ∧ (∀ x ∈ ls, SmallL x) ∧ ∀ t ∈ ts, SmallT t
set_option maxHeartbeats 1000000 in
set_option maxRecDepth 20000 in
theorem light_any (w : World) (A B : Option Addr) (n ca m cb : Nat) (ls : List LIST.Ty) (ts : List TASK.Ty) (ha : Rows w anyB LIST A n ls) (hb : Rows w anyB TASK B m ts) (hn : n ≤ 9223372036854775807) (hm : m ≤ 9223372036854775807) :
    Calls Try.prog 5 #[.agg #[Value.slice A n ca, Value.slice B m cb]] w (TellB (LightP ls ts) w) := by
  have h0 := heap_alloc_new w (.cells #[Value.slice A n ca, Value.slice B m cb] 25)
  obtain ⟨p0, p1⟩ := blk2 h0
  have HW := Lib.hid (below_alloc1 w (.cells #[Value.slice A n ca, Value.slice B m cb] 25))
  clear h0
  go_enter Try.func5, Try.ntmps5
  by_cases hn25 : (25 : Int) < (n : Int)
  · go_wp2_with fail
    go_ret
    exact ⟨false, rfl, (fun e => by cases e), HW.out⟩
  by_cases hm70 : (70 : Int) < (m : Int)
  · go_wp2_with fail
    go_ret
    exact ⟨false, rfl, (fun e => by cases e), HW.out⟩
  go_wp2_with fail
  obtain ⟨W, hW⟩ : ∃ W, w.alloc (.cells #[Value.slice A n ca, Value.slice B m cb] 25) = W := ⟨_, rfl⟩
  rw [hW] at p0 p1 HW ⊢
  go_loopw [20] (fun s20 wr => ∃ i : Nat, i ≤ n ∧ s20 = .int .i64 i ∧ (∀ x ∈ ls.take i, SmallL x) ∧ Below W.heap.size W wr) (fun s20 _ => n - (intOf s20).toNat)
  case atStart => exact ⟨0, by omega, rfl, (fun x hx => by simp at hx), Below.refl _ _⟩
  case round =>
    obtain ⟨i, hi, rfl, hP, hbel⟩ := hrel
    have hl := ha.1
    have HB := Lib.hid hbel
    have HWr := Lib.hid (HW.out.trans (hbel.mono HW.out.size))
    by_cases hlt : i < n
    · obtain ⟨ad, x, cs, rfl, hx, hat, hrd⟩ := ha.get i hlt
      have i0 : (0 : Int) ≤ (i : Int) := by omega
      have i1 : (i : Int) < (n : Int) := by omega
      have HAt := Lib.hid (hat.below HWr.out)
      obtain ⟨id, nm, rfl, rfl, hok⟩ := rd_lst hrd
      have HN := Lib.hid (fun h : nm.size ≤ 100 => take_allG (P := SmallL) hP hx h)
      clear hat hrd hx hP ha hok
      by_cases hs : nm.size ≤ 100
      · have hs2 : ¬ (100 : Int) < (nm.size : Int) := by omega
        have HS := Lib.hid hs
        clear hs
        go_wp2_with (first
          | (refine wpL_load rfl 37 _ rfl _ rfl _ _ HAt.out Try.underlying37 rfl rfl ?_)
          )
        go_roundw
        case measure => simp [intOf]; omega
        case rel => exact ⟨i + 1, by omega, by go_num, HN.out HS.out, HB.out.trans ((below_alloc1 wr _).mono HB.out.size)⟩
      · have hs2 : (100 : Int) < (nm.size : Int) := by omega
        clear hs
        go_wp2_with (first
          | (refine wpL_load rfl 37 _ rfl _ rfl _ _ HAt.out Try.underlying37 rfl rfl ?_)
          )
        go_ret
        exact ⟨false, rfl, (fun e => by cases e), HWr.out.trans ((below_alloc1 wr _).mono HWr.out.size)⟩
    · obtain rfl : i = n := by omega
      have HP := Lib.hid (take_full hP hl)
      have q1 := cell_below hbel p1
      clear hP hbel HB p0 p1
      go_wp2_with fail
      have HWW := Lib.hid HWr.out
      go_loopw [32] (fun s32 wz => ∃ j : Nat, j ≤ m ∧ s32 = .int .i64 j ∧ (∀ x ∈ ts.take j, SmallT x) ∧ Below wr.heap.size wr wz) (fun s32 _ => m - (intOf s32).toNat)
      case atStart => exact ⟨0, by omega, rfl, (fun x hx => by simp at hx), Below.refl _ _⟩
      case round =>
        obtain ⟨j, hj, rfl, hP, hbel⟩ := hrel
        have hl2 := hb.1
        have HB := Lib.hid hbel
        have HWz := Lib.hid (HWr.out.trans (hbel.mono HWr.out.size))
        by_cases hlt : j < m
        · obtain ⟨ad, x, cs, rfl, hx, hat, hrd⟩ := hb.get j hlt
          have i0 : (0 : Int) ≤ (j : Int) := by omega
          have i1 : (j : Int) < (m : Int) := by omega
          have HAt := Lib.hid (hat.below HWz.out)
          obtain ⟨id, li, ti, dn, rk, es, tg, At, ct, rfl, rfl, hok, htg⟩ := rd_task hrd
          have HN := Lib.hid (fun h : SmallT (id, li, ti, dn, rk, es, tg, ()) => take_allG (P := SmallT) hP hx h)
          have HT := Lib.hid (htg.below HWz.out)
          clear hat hrd hx hP hb hok htg
          by_cases hs : ti.size ≤ 100
          · have hs2 : ¬ (100 : Int) < (ti.size : Int) := by omega
            have HS := Lib.hid hs
            clear hs
            go_wp2_with (first
              | (refine wpL_load rfl 41 _ rfl _ rfl _ _ HAt.out Try.underlying41 rfl rfl ?_)
              )
            refine (texts_any _ At _ ct tg (rd_rows (HT.out.below (below_alloc1 wr _))) (by have := rd_rowsN HT.out; omega)).mono ?_
            rintro e w2 ⟨b, rfl, hb2, rfl⟩
            have HB2 := Lib.hid hb2
            clear hb2
            cases b with
            | true =>
              go_wp2_with fail
              go_roundw
              case measure => simp [intOf]; omega
              case rel => exact ⟨j + 1, by omega, by go_num, HN.out ⟨HS.out, HB2.out trivial⟩, HB.out.trans ((below_alloc1 wr _).mono HB.out.size)⟩
            | false =>
              go_wp2_with fail
              go_ret
              exact ⟨false, rfl, (fun e => by cases e), HWz.out.trans ((below_alloc1 wr _).mono HWz.out.size)⟩
          · have hs2 : (100 : Int) < (ti.size : Int) := by omega
            clear hs
            go_wp2_with (first
              | (refine wpL_load rfl 41 _ rfl _ rfl _ _ HAt.out Try.underlying41 rfl rfl ?_)
              )
            go_ret
            exact ⟨false, rfl, (fun e => by cases e), HWz.out.trans ((below_alloc1 wr _).mono HWz.out.size)⟩
        · obtain rfl : j = m := by omega
          have HP2 := Lib.hid (take_full hP hl2)
          clear hP
          go_wp2_with fail
          go_ret
          exact ⟨true, rfl, (fun _ => ⟨by omega, by omega, HP.out, HP2.out⟩), HWz.out⟩
end Go.Proofs.Ytfjnpiahloncmaa
