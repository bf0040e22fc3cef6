import Derived.Test.YtnolhnlhohpkpaaTskX
namespace Go.Proofs.Ytnolhnlhohpkpaa
open Go.RowKit Cdc
set_option linter.unusedVariables false
set_option linter.unusedSimpArgs false
/-! A state that is read: plain. -/
def rdMany {α : Type} (f : St → α × St) : Nat → St → List α × St
  | 0, s => ([], s)
  | n + 1, s => ((f s).1 :: (rdMany f n (f s).2).1, (rdMany f n (f s).2).2)
theorem rdMany_snoc {α : Type} (f : St → α × St) : ∀ (n : Nat) (s : St), rdMany f (n + 1) s = ((rdMany f n s).1 ++ [(f (rdMany f n s).2).1], (f (rdMany f n s).2).2)
  | 0, s => rfl
  | n + 1, s => by
    have h := rdMany_snoc f n (f s).2
    show (((f s).1 :: (rdMany f (n + 1) (f s).2).1 : List α), (rdMany f (n + 1) (f s).2).2) = _
    rw [h]
    rfl
theorem rdMany_len {α : Type} {f : St → α × St} (hf : ∀ s, (f s).2.1.length ≤ s.1.length) : ∀ (n : Nat) (s : St), (rdMany f n s).1.length = n ∧ (rdMany f n s).2.1.length ≤ s.1.length
  | 0, s => ⟨rfl, Nat.le_refl _⟩
  | n + 1, s => by
    obtain ⟨h1, h2⟩ := rdMany_len hf n (f s).2
    exact ⟨by show _ + 1 = _; rw [h1], Nat.le_trans h2 (hf s)⟩
theorem rdMany_enc {α : Type} {f : St → α × St} {enc : α → List UInt8} {P : α → Prop} (h : ∀ x r, P x → f (enc x ++ r, false) = (x, r, false)) : ∀ (l : List α) (r : List UInt8), (∀ x ∈ l, P x) → rdMany f l.length (l.flatMap enc ++ r, false) = (l, r, false)
  | [], r, _ => rfl
  | x :: l, r, hP => by
    have e : (x :: l).flatMap enc ++ r = enc x ++ (l.flatMap enc ++ r) := by simp
    have h1 := h x (l.flatMap enc ++ r) (hP x List.mem_cons_self)
    have h2 := rdMany_enc h l r (fun y hy => hP y (List.mem_cons_of_mem _ hy))
    rw [e]
    show (((f (enc x ++ (l.flatMap enc ++ r), false)).1 :: (rdMany f l.length (f (enc x ++ (l.flatMap enc ++ r), false)).2).1 : List α), (rdMany f l.length (f (enc x ++ (l.flatMap enc ++ r), false)).2).2) = _
    rw [h1, h2]
theorem rdTags_many : ∀ (n : Nat) (s : St), rdTags n s = rdMany (fun s => ((⟨(rdB 60 s).1.toArray⟩ : ByteArray), (rdB 60 s).2)) n s
  | 0, s => rfl
  | n + 1, s => by
    show ((⟨(rdB 60 s).1.toArray⟩ :: (rdTags n (rdB 60 s).2).1 : List ByteArray), (rdTags n (rdB 60 s).2).2) = _
    rw [rdTags_many n]
    rfl
theorem nat_of {i : Int} (h1 : 0 ≤ i) (h2 : i < 18446744073709551616) : ∃ k : Nat, i = (k : Int) ∧ k < 18446744073709551616 := ⟨i.toNat, by omega, by omega⟩
def rdList (s : St) : LIST.Ty × St := (((rdN FULL s).1, ⟨(rdB 60 (rdN FULL s).2).1.toArray⟩, ()), (rdB 60 (rdN FULL s).2).2)
theorem rdList_len (s : St) : (rdList s).2.1.length ≤ s.1.length := Nat.le_trans (rdB_len 60 _) (rdN_len FULL s)
theorem rdTask_len (s : St) : (rdTask s).2.1.length ≤ s.1.length := by
  have h1 := rdN_len FULL s
  have h2 := rdN_len FULL (rdN FULL s).2
  have h3 := rdB_len 60 (rdN FULL (rdN FULL s).2).2
  have h4 := rdN_len 1 (rdB 60 (rdN FULL (rdN FULL s).2).2).2
  have h5 := rdF_len (rdFlag (rdB 60 (rdN FULL (rdN FULL s).2).2).2).2
  have h6 := rdF_len (rdF ofN (rdFlag (rdB 60 (rdN FULL (rdN FULL s).2).2).2).2).2
  have h7 := rdN_len 60 (rdF ofN (rdF ofN (rdFlag (rdB 60 (rdN FULL (rdN FULL s).2).2).2).2).2).2
  exact Nat.le_trans (rdTags_len _ _).2 (Nat.le_trans h7 (Nat.le_trans h6 (Nat.le_trans h5 (Nat.le_trans h4 (Nat.le_trans h3 (Nat.le_trans h2 h1))))))
theorem rdB_enc {most : Nat} (s : ByteArray) (h : s.size ≤ most) (h2 : s.size < 18446744073709551616) (r : List UInt8) : rdB most (encS s ++ r, false) = (s.data.toList, r, false) := by
  have hl : s.data.toList.length = s.size := rfl
  unfold rdB
  rw [encS, List.append_assoc, rdN_enc h2 h]
  simp only []
  rw [if_neg (by simp [hl]), ← hl, List.take_left, List.drop_left]
theorem rdText (s : ByteArray) : (⟨s.data.toList.toArray⟩ : ByteArray) = s := rfl
theorem rdList_enc {x : LIST.Ty} (h : (0 ≤ x.1 ∧ x.1 < 18446744073709551616) ∧ x.2.1.size ≤ 60) (r : List UInt8) : rdList (encList x ++ r, false) = (x, r, false) := by
  obtain ⟨i, t, _⟩ := x
  obtain ⟨⟨h1, h2⟩, h3⟩ := h
  have h3 : t.size ≤ 60 := h3
  obtain ⟨i, rfl, hi⟩ := nat_of h1 h2
  unfold rdList encList
  simp only [Int.toNat_natCast]
  rw [List.append_assoc, rdN_enc hi (by unfold FULL; omega)]
  simp only []
  rw [rdB_enc t h3 (by omega)]
theorem rdFlag_enc (b : Bool) (r : List UInt8) : rdFlag (encN (if b = true then 1 else 0) ++ r, false) = (b, r, false) := by
  unfold rdFlag
  rw [rdN_enc (by split <;> omega) (by split <;> omega)]
  cases b <;> rfl
theorem rdF_enc {f : Nat} (h : keyN f < 18446744073709551616) (h2 : ofN (keyN f) = (f, true)) (r : List UInt8) : rdF ofN (be 8 (keyN f) ++ r, false) = (f, r, false) := by
  unfold rdF
  have e : fx 8 (be 8 (keyN f) ++ r, false) = (keyN f, r, false) := by
    have := fx_app (be 8 (keyN f)) r
    rw [be_len, val_be 8 _ (by omega)] at this
    exact this
  rw [e]
  simp only [h2]
  rfl
structure BackT (t : TASK.Ty) : Prop where
  id : 0 ≤ t.1 ∧ t.1 < 18446744073709551616
  list : 0 ≤ t.2.1 ∧ t.2.1 < 18446744073709551616
  title : t.2.2.1.size ≤ 60
  rank : keyN t.2.2.2.2.1 < 18446744073709551616 ∧ ofN (keyN t.2.2.2.2.1) = (t.2.2.2.2.1, true)
  hours : keyN t.2.2.2.2.2.1 < 18446744073709551616 ∧ ofN (keyN t.2.2.2.2.2.1) = (t.2.2.2.2.2.1, true)
  tags : t.2.2.2.2.2.2.1.length ≤ 60 ∧ ∀ x ∈ t.2.2.2.2.2.2.1, x.size ≤ 60
theorem rdTask_enc {t : TASK.Ty} (h : BackT t) (r : List UInt8) : rdTask (encTask t ++ r, false) = (t, r, false) := by
  obtain ⟨i, l, s, d, f, e, g, _⟩ := t
  obtain ⟨⟨a1, a2⟩, ⟨b1, b2⟩, h3, ⟨c1, c2⟩, ⟨d1, d2⟩, g1, g2⟩ := h
  simp only at h3 c1 c2 d1 d2 g1 g2
  obtain ⟨i, rfl, hi⟩ := nat_of a1 a2
  obtain ⟨l, rfl, hl⟩ := nat_of b1 b2
  have E1 := rdN_enc (most := FULL) (n := i) hi (by unfold FULL; omega)
  have E2 := rdN_enc (most := FULL) (n := l) hl (by unfold FULL; omega)
  have E3 := rdB_enc s h3 (by omega)
  have E4 := rdFlag_enc d
  have E5 := rdF_enc c1 c2
  have E6 := rdF_enc d1 d2
  have E7 := rdN_enc (most := 60) (n := g.length) (by omega) g1
  have E8 := rdMany_enc (f := fun s => ((⟨(rdB 60 s).1.toArray⟩ : ByteArray), (rdB 60 s).2)) (enc := encS) (P := fun x => x.size ≤ 60) (fun x r hx => by simp only [rdB_enc x hx (by omega)]) g r g2
  unfold rdTask encTask
  simp only [Int.toNat_natCast, List.append_assoc]
  simp only [E1, E2, E3, E4, E5, E6, E7, rdTags_many]
  rw [show encTags g = g.flatMap encS from rfl, E8]
def rdState (b : List UInt8) : (List LIST.Ty × List TASK.Ty) × St :=
  let a := rdN 60 (b, false)
  let l := rdMany rdList a.1 a.2
  let c := rdN 60 l.2
  let t := rdMany rdTask c.1 c.2
  ((l.1, t.1), t.2)
theorem rdState_enc {ls : List LIST.Ty} {ts : List TASK.Ty} (hl : ls.length ≤ 60) (ht : ts.length ≤ 60) (h1 : ∀ x ∈ ls, (0 ≤ x.1 ∧ x.1 < 18446744073709551616) ∧ x.2.1.size ≤ 60) (h2 : ∀ t ∈ ts, BackT t) : rdState (encState ls ts) = ((ls, ts), [], false) := by
  have E1 := rdN_enc (most := 60) (n := ls.length) (by omega) hl
  have E2 := rdMany_enc (f := rdList) (enc := encList) (P := fun x => (0 ≤ x.1 ∧ x.1 < 18446744073709551616) ∧ x.2.1.size ≤ 60) (fun x r hx => rdList_enc hx r) ls
  have E3 := rdN_enc (most := 60) (n := ts.length) (by omega) ht
  have E4 := rdMany_enc (f := rdTask) (enc := encTask) (P := BackT) (fun x r hx => rdTask_enc hx r) ts [] h2
  rw [List.append_nil] at E4
  unfold rdState encState
  simp only [List.append_assoc]
  simp only [E1, E2 _ h1, E3, E4]
end Go.Proofs.Ytnolhnlhohpkpaa
