import Derived.Test.YtnolhnlhohpkpaaTskX
import Derived.Test.YtnolhnlhohpkpaaTpa
import Derived.Test.YtnolhnlhohpkpaaTskA
import Derived.Test.YtnolhnlhohpkpaaGd
namespace Go.Proofs.Ytnolhnlhohpkpaa
open Go.RowKit Cdc
set_option linter.unusedVariables false
set_option linter.unusedSimpArgs false
/-! A state that is read: plain. -/
def rdMany {α : Type} (f : St → α × St) : Nat → St → List α × St
  | 0, s => ([], s)
  | n + 1, s => ((f s).1 :: (rdMany f n (f s).2).1, (rdMany f n (f s).2).2)
theorem rdMany_snoc {α : Type} (f : St → α × St) : ∀ (n : Nat) (s : St), rdMany f (n + 1) s = ((rdMany f n s).1 ++ [(f (rdMany f n s).2).1], (f (rdMany f n s).2).2)
  | 0, s => rfl
  | n + 1, s => by
    have h := rdMany_snoc f n (f s).2
    show (((f s).1 :: (rdMany f (n + 1) (f s).2).1 : List α), (rdMany f (n + 1) (f s).2).2) = _
    rw [h]
    rfl
theorem rdMany_len {α : Type} {f : St → α × St} (hf : ∀ s, (f s).2.1.length ≤ s.1.length) : ∀ (n : Nat) (s : St), (rdMany f n s).1.length = n ∧ (rdMany f n s).2.1.length ≤ s.1.length
  | 0, s => ⟨rfl, Nat.le_refl _⟩
  | n + 1, s => by
    obtain ⟨h1, h2⟩ := rdMany_len hf n (f s).2
    exact ⟨by show _ + 1 = _; rw [h1], Nat.le_trans h2 (hf s)⟩
theorem rdMany_enc {α : Type} {f : St → α × St} {enc : α → List UInt8} {P : α → Prop} (h : ∀ x r, P x → f (enc x ++ r, false) = (x, r, false)) : ∀ (l : List α) (r : List UInt8), (∀ x ∈ l, P x) → rdMany f l.length (l.flatMap enc ++ r, false) = (l, r, false)
  | [], r, _ => rfl
  | x :: l, r, hP => by
    have e : (x :: l).flatMap enc ++ r = enc x ++ (l.flatMap enc ++ r) := by simp
    have h1 := h x (l.flatMap enc ++ r) (hP x List.mem_cons_self)
    have h2 := rdMany_enc h l r (fun y hy => hP y (List.mem_cons_of_mem _ hy))
    rw [e]
    show (((f (enc x ++ (l.flatMap enc ++ r), false)).1 :: (rdMany f l.length (f (enc x ++ (l.flatMap enc ++ r), false)).2).1 : List α), (rdMany f l.length (f (enc x ++ (l.flatMap enc ++ r), false)).2).2) = _
    rw [h1, h2]
theorem rdTags_many : ∀ (n : Nat) (s : St), rdTags n s = rdMany (fun s => ((⟨(rdB 60 s).1.toArray⟩ : ByteArray), (rdB 60 s).2)) n s
  | 0, s => rfl
  | n + 1, s => by
    show ((⟨(rdB 60 s).1.toArray⟩ :: (rdTags n (rdB 60 s).2).1 : List ByteArray), (rdTags n (rdB 60 s).2).2) = _
    rw [rdTags_many n]
    rfl
theorem nat_of {i : Int} (h1 : 0 ≤ i) (h2 : i < 18446744073709551616) : ∃ k : Nat, i = (k : Int) ∧ k < 18446744073709551616 := ⟨i.toNat, by omega, by omega⟩
def rdList (s : St) : LIST.Ty × St := (((rdN FULL s).1, ⟨(rdB 60 (rdN FULL s).2).1.toArray⟩, ()), (rdB 60 (rdN FULL s).2).2)
theorem rdList_len (s : St) : (rdList s).2.1.length ≤ s.1.length := Nat.le_trans (rdB_len 60 _) (rdN_len FULL s)
theorem rdTask_len (s : St) : (rdTask s).2.1.length ≤ s.1.length := by
  have h1 := rdN_len FULL s
  have h2 := rdN_len FULL (rdN FULL s).2
  have h3 := rdB_len 60 (rdN FULL (rdN FULL s).2).2
  have h4 := rdN_len 1 (rdB 60 (rdN FULL (rdN FULL s).2).2).2
  have h5 := rdF_len (rdFlag (rdB 60 (rdN FULL (rdN FULL s).2).2).2).2
  have h6 := rdF_len (rdF ofN (rdFlag (rdB 60 (rdN FULL (rdN FULL s).2).2).2).2).2
  have h7 := rdN_len 60 (rdF ofN (rdF ofN (rdFlag (rdB 60 (rdN FULL (rdN FULL s).2).2).2).2).2).2
  exact Nat.le_trans (rdTags_len _ _).2 (Nat.le_trans h7 (Nat.le_trans h6 (Nat.le_trans h5 (Nat.le_trans h4 (Nat.le_trans h3 (Nat.le_trans h2 h1))))))
theorem rdB_enc {most : Nat} (s : ByteArray) (h : s.size ≤ most) (h2 : s.size < 18446744073709551616) (r : List UInt8) : rdB most (encS s ++ r, false) = (s.data.toList, r, false) := by
  have hl : s.data.toList.length = s.size := rfl
  unfold rdB
  rw [encS, List.append_assoc, rdN_enc h2 h]
  simp only []
  rw [if_neg (by simp [hl]), ← hl, List.take_left, List.drop_left]
theorem rdText (s : ByteArray) : (⟨s.data.toList.toArray⟩ : ByteArray) = s := rfl
theorem rdList_enc {x : LIST.Ty} (h : (0 ≤ x.1 ∧ x.1 < 18446744073709551616) ∧ x.2.1.size ≤ 60) (r : List UInt8) : rdList (encList x ++ r, false) = (x, r, false) := by
  obtain ⟨i, t, _⟩ := x
  obtain ⟨⟨h1, h2⟩, h3⟩ := h
  have h3 : t.size ≤ 60 := h3
  obtain ⟨i, rfl, hi⟩ := nat_of h1 h2
  unfold rdList encList
  simp only [Int.toNat_natCast]
  rw [List.append_assoc, rdN_enc hi (by unfold FULL; omega)]
  simp only []
  rw [rdB_enc t h3 (by omega)]
theorem rdFlag_enc (b : Bool) (r : List UInt8) : rdFlag (encN (if b = true then 1 else 0) ++ r, false) = (b, r, false) := by
  unfold rdFlag
  rw [rdN_enc (by split <;> omega) (by split <;> omega)]
  cases b <;> rfl
theorem rdF_enc {f : Nat} (h : keyN f < 18446744073709551616) (h2 : ofN (keyN f) = (f, true)) (r : List UInt8) : rdF ofN (be 8 (keyN f) ++ r, false) = (f, r, false) := by
  unfold rdF
  have e : fx 8 (be 8 (keyN f) ++ r, false) = (keyN f, r, false) := by
    have := fx_app (be 8 (keyN f)) r
    rw [be_len, val_be 8 _ (by omega)] at this
    exact this
  rw [e]
  simp only [h2]
  rfl
structure BackT (t : TASK.Ty) : Prop where
  id : 0 ≤ t.1 ∧ t.1 < 18446744073709551616
  list : 0 ≤ t.2.1 ∧ t.2.1 < 18446744073709551616
  title : t.2.2.1.size ≤ 60
  rank : keyN t.2.2.2.2.1 < 18446744073709551616 ∧ ofN (keyN t.2.2.2.2.1) = (t.2.2.2.2.1, true)
  hours : keyN t.2.2.2.2.2.1 < 18446744073709551616 ∧ ofN (keyN t.2.2.2.2.2.1) = (t.2.2.2.2.2.1, true)
  tags : t.2.2.2.2.2.2.1.length ≤ 60 ∧ ∀ x ∈ t.2.2.2.2.2.2.1, x.size ≤ 60
theorem rdTask_enc {t : TASK.Ty} (h : BackT t) (r : List UInt8) : rdTask (encTask t ++ r, false) = (t, r, false) := by
  obtain ⟨i, l, s, d, f, e, g, _⟩ := t
  obtain ⟨⟨a1, a2⟩, ⟨b1, b2⟩, h3, ⟨c1, c2⟩, ⟨d1, d2⟩, g1, g2⟩ := h
  simp only at h3 c1 c2 d1 d2 g1 g2
  obtain ⟨i, rfl, hi⟩ := nat_of a1 a2
  obtain ⟨l, rfl, hl⟩ := nat_of b1 b2
  have E1 := rdN_enc (most := FULL) (n := i) hi (by unfold FULL; omega)
  have E2 := rdN_enc (most := FULL) (n := l) hl (by unfold FULL; omega)
  have E3 := rdB_enc s h3 (by omega)
  have E4 := rdFlag_enc d
  have E5 := rdF_enc c1 c2
  have E6 := rdF_enc d1 d2
  have E7 := rdN_enc (most := 60) (n := g.length) (by omega) g1
  have E8 := rdMany_enc (f := fun s => ((⟨(rdB 60 s).1.toArray⟩ : ByteArray), (rdB 60 s).2)) (enc := encS) (P := fun x => x.size ≤ 60) (fun x r hx => by simp only [rdB_enc x hx (by omega)]) g r g2
  unfold rdTask encTask
  simp only [Int.toNat_natCast, List.append_assoc]
  simp only [E1, E2, E3, E4, E5, E6, E7, rdTags_many]
  rw [show encTags g = g.flatMap encS from rfl, E8]
def rdState (b : List UInt8) : (List LIST.Ty × List TASK.Ty) × St :=
  let a := rdN 60 (b, false)
  let l := rdMany rdList a.1 a.2
  let c := rdN 60 l.2
  let t := rdMany rdTask c.1 c.2
  ((l.1, t.1), t.2)
theorem rdState_enc {ls : List LIST.Ty} {ts : List TASK.Ty} (hl : ls.length ≤ 60) (ht : ts.length ≤ 60) (h1 : ∀ x ∈ ls, (0 ≤ x.1 ∧ x.1 < 18446744073709551616) ∧ x.2.1.size ≤ 60) (h2 : ∀ t ∈ ts, BackT t) : rdState (encState ls ts) = ((ls, ts), [], false) := by
  have E1 := rdN_enc (most := 60) (n := ls.length) (by omega) hl
  have E2 := rdMany_enc (f := rdList) (enc := encList) (P := fun x => (0 ≤ x.1 ∧ x.1 < 18446744073709551616) ∧ x.2.1.size ≤ 60) (fun x r hx => rdList_enc hx r) ls
  have E3 := rdN_enc (most := 60) (n := ts.length) (by omega) ht
  have E4 := rdMany_enc (f := rdTask) (enc := encTask) (P := BackT) (fun x r hx => rdTask_enc hx r) ts [] h2
  rw [List.append_nil] at E4
  unfold rdState encState
  simp only [List.append_assoc]
  simp only [E1, E2 _ h1, E3, E4]
end Go.Proofs.Ytnolhnlhohpkpaa
namespace Go.Proofs.Ytnolhnlhohpkpaa
open Go.RowKit Cdc
set_option linter.unusedVariables false
set_option linter.unusedSimpArgs false
attribute [local go_sem] run_store_float
set_option maxRecDepth 20000 in
theorem Own.keep {w w' : World} {base : Nat} {e : TypeId} {s : Sh} {v : Value} {l : List s.Ty} (h : Own w base e s v l) (hk : ∀ b, base ≤ b → b < w.heap.size → w'.heap[b]? = w.heap[b]?) : Own w' base e s v l := by
  obtain ⟨xs, ho, hr⟩ := h
  have hr2 := hr.of (w' := w) (ok' := fun k => (base ≤ k ∧ v.ownBlock ≠ some k) ∧ k < w.heap.size) (fun _ _ _ hc => hc) (fun k hk hlt => ⟨hk, hlt⟩)
  refine ⟨xs, ?_, hr2.of (fun a u hok hc => ?_) (fun _ h _ => h.1)⟩
  · obtain ⟨h1, h2 | ⟨g', cap, cur, hv, hg, hh, h3⟩⟩ := ho
    · exact ⟨h1, .inl h2⟩
    · exact ⟨h1, .inr ⟨g', cap, cur, hv, hg, (hk g' hg (Array.getElem?_eq_some_iff.1 hh).1).trans hh, h3⟩⟩
  · have := hk a.block hok.1.1 hok.2
    simpa [World.cell?, this] using hc
set_option maxRecDepth 20000 in
theorem rstart {wr w1 : World} {t : TypeId} {c0 : Array Value} (hg1 : (wr.alloc (.cells c0 t)).grownBy w1 (some wr.heap.size)) : Below wr.heap.size wr w1 ∧ wr.heap.size + 1 ≤ w1.heap.size :=
  ⟨(below_alloc1 wr _).grown hg1 (by simp) (fun k e => by injection e with e; omega), by have := hg1.size; simpa using this⟩
set_option maxRecDepth 20000 in
theorem rstep {wr w1 w2 : World} {M base g j : Nat} {t e : TypeId} {v vo : Value} {c : Array Value} {l : List PartT} {s1 : St} (hst : Below wr.heap.size wr w1 ∧ wr.heap.size + 1 ≤ w1.heap.size) (hc : w1.heap[wr.heap.size]? = some (.cells c t (0, 0))) (hgr : w1.grownBy w2 (some g)) (hgb : g < base) (hbw : base ≤ wr.heap.size) (hMg : M ≤ g) (hO : Own wr base e PART vo l) (hr : RfAt w2 M g s1) :
    (w2.setCell ⟨wr.heap.size, j, none⟩ v).heap[wr.heap.size]? = some (.cells (c.setIfInBounds j v) t (0, 0)) ∧ Own (w2.setCell ⟨wr.heap.size, j, none⟩ v) base e PART vo l ∧ RfAt (w2.setCell ⟨wr.heap.size, j, none⟩ v) M g s1 ∧
    (∀ {B w}, Below B w wr → B ≤ g → Below B w (w2.setCell ⟨wr.heap.size, j, none⟩ v)) ∧ wr.heap.size + 1 ≤ (w2.setCell ⟨wr.heap.size, j, none⟩ v).heap.size ∧
    (∀ {s : Sh} {x : s.Ty} {cs : List Value}, Rd w2 (fun b => w1.heap.size ≤ b) s x cs → Rd (w2.setCell ⟨wr.heap.size, j, none⟩ v) (fun b => wr.heap.size + 1 ≤ b) s x cs) := by
  have hsz : (w2.setCell ⟨wr.heap.size, j, none⟩ v).heap.size = w2.heap.size := by simp [World.setCell]
  have hkeep : ∀ b, b < wr.heap.size → b ≠ g → (w2.setCell ⟨wr.heap.size, j, none⟩ v).heap[b]? = wr.heap[b]? := fun b hb hne => by
    rw [Below.heap_setCell _ _ _ _ (show b ≠ wr.heap.size by omega)]
    exact (hgr.block b (by omega) (by intro e; injection e with e; exact hne e)).trans (hst.1.block b hb)
  refine ⟨blk_set (blk_grown hc hgr (by intro e; injection e with e; omega)) j v, hO.keep (fun b h1 h2 => hkeep b h2 (by omega)), hr.keep (fun b hb hlt => Below.heap_setCell _ _ _ _ (show b ≠ wr.heap.size by rcases hb with h | h <;> omega)), fun {B w} hb hB => ?_, by have := hgr.size; rw [hsz]; omega, fun {s x cs} h => ?_⟩
  · have h2 := hst.1.mono (show B ≤ wr.heap.size by omega)
    exact (((hb.trans h2).grown hgr (show B ≤ w1.heap.size by have := hst.2; omega) (fun k e => by injection e with e; omega))).setCell (show B ≤ wr.heap.size by omega) _
  · refine h.of (fun a u hk hc => ?_) (fun k hk _ => by have := hst.2; omega)
    rw [World.cell?_setCell_far _ _ _ _ (by have := hst.2; show wr.heap.size ≠ a.block; omega)]; exact hc
set_option maxHeartbeats 4000000 in
set_option maxRecDepth 20000 in
theorem rparts_any (w : World) (A : Option Addr) (n c : Nat) (xs : List UInt8) (h : Rd w anyB (.sl .byte) xs [.slice A n c]) (hn : xs.length ≤ 100000) (K : Option Addr) (m ck : Nat) (ks : List Int) (hk : Rows w anyB (.int .i64) K m ks) (hm : m ≤ 100) :
    Calls Try.prog 13 #[.slice A n c, .slice K m ck] w (PartsPost w xs ks) := by
  obtain ⟨A', c', e, h1, h2, h3, h4⟩ := rd_bs h
  injection e with e1 e2 e3
  subst e1 e2 e3
  have hR0 : RfAt (w.alloc (.cells #[.slice A xs.length c, .bool false] 47)) w.heap.size w.heap.size (xs, false) :=
    ⟨A, c, heap_alloc_new w _, h1, h2, h3, h4.below (below_alloc1 w _), fun hx ad e => by subst e; exact h4.lt hx, Nat.le_refl _, fun e => by cases e⟩
  have HR0 := Lib.hid hR0
  have HB0 := Lib.hid (below_alloc1 w (.cells #[.slice A xs.length c, .bool false] 47))
  clear h h4 hR0
  go_enter Try.func13, Try.ntmps13
  go_wp2_with fail
  go_loopw [7, 16] (fun s7 s16 wr => ∃ (i : Nat) (v : Value) (l : List PartT) (s : St), i ≤ m ∧ v = s7 ∧ s16 = .int .i64 i ∧ rdParts ofN (ks.take i) (xs, false) = some (l, s) ∧ Own wr (w.heap.size + 1) 39 PART v l ∧ RfAt wr w.heap.size w.heap.size s ∧ w.heap.size + 1 ≤ wr.heap.size ∧ Below w.heap.size w wr) (fun _ s16 _ => m - (intOf s16).toNat)
  case atStart => exact ⟨0, _, [], (xs, false), by omega, rfl, rfl, rfl, Own.nil _ _ _ _, HR0.out, by simp, HB0.out⟩
  case round =>
    obtain ⟨i, v, l, s, hi, rfl, rfl, hrp, hO, hR, hz, hbel⟩ := hrel
    have hkl := hk.1
    obtain ⟨Ao, co, rfl, _⟩ := (OwnG.form hO)
    have HR := Lib.hid hR
    have hll := (rdParts_len _ _ _ _ hrp)
    have hl1 : l.length = i := by rw [hll.1, List.length_take]; omega
    have hl2 : s.1.length ≤ 100000 := Nat.le_trans hll.2 hn
    have HP := Lib.hid hrp
    rw [hl1] at hO ⊢
    have HO := Lib.hid hO
    clear hO hR hrp hll
    by_cases hlti : i < m
    · obtain ⟨k, hx⟩ : ∃ k, ks[i]? = some k := ⟨ks[i]'(by omega), List.getElem?_eq_getElem (by omega)⟩
      obtain ⟨ad, rfl⟩ : ∃ ad, K = some ad := by cases K with
        | none => exact absurd (hk.2.1 rfl) (by omega)
        | some ad => exact ⟨ad, rfl⟩
      obtain ⟨hc, hwf⟩ := int_at (hk.below hbel) hx
      have i0 : (0 : Int) ≤ (i : Int) := by omega
      have i1 : (i : Int) < (m : Int) := by omega
      have HW := Lib.hid hwf
      have hgl := HR.out.lt
      by_cases k1 : k = 1
      · subst k1
        obtain ⟨n, s1, hns⟩ : ∃ n s1, rdN FULL s = (n, s1) := ⟨_, _, rfl⟩
        have HN := Lib.hid hns
        have HV := Lib.hid (show rdParts ofN (ks.take (i + 1)) (xs, false) = some (l ++ [(1, (n : Int), 0, 0, [], false, ())], s1) by rw [take_at hx, rdParts_snoc, HP.out]; simp only; unfold rdPart; simp only [hns]; rfl)
        have hlt := rdN_lt (most := FULL) (s := s) (by unfold FULL; omega)
        rw [hns] at hlt
        have HLT := Lib.hid hlt
        clear hlt
        clear hx hwf hns
        go_wp2_with (first
          | (refine wpL_store rfl 39 (.tmp 10) (.tmp 21) rfl wr.heap.size rfl _ _ 39 rfl (heap_alloc_new wr _) rfl rfl (by intro v hv; simp at hv; rcases hv with rfl | rfl | rfl | rfl | rfl | rfl <;> rfl) ?_
             intro w1 hc1 hg1
             have HC1 := Lib.hid hc1
             have HS := Lib.hid (rstart hg1)
             clear hc1 hg1)
          | (go_at_call 22
             refine (rrN_any w1 w.heap.size w.heap.size 18446744073709551615 s (HR.out.below HS.out.1)).mono ?_
             rintro e w2 ⟨rfl, hr, hgr⟩
             rw [show rdN 18446744073709551615 s = _ from HN.out] at hr ⊢
             have q1 := blk_grown HC1.out hgr (by intro e; injection e with e; omega)
             have c1 := blk_at q1 1 _ rfl
             have f1 := blk_free q1 1
             have HG := Lib.hid hgr
             have HR2 := Lib.hid hr
             clear q1 hr hgr)
          | (have F := Lib.hid (rstep (j := 1) (v := .int .u64 (n : Int)) HS.out HC1.out HG.out (Nat.lt_succ_self _) hz (Nat.le_refl _) HO.out HR2.out)
             have D := Lib.hid (F.out.2.2.2.2.2 (rd_part_nil HW.out (partOk_of (Int.natCast_nonneg _) (by have := HLT.out; omega) (by decide) (by decide) (by decide)) : Rd w2 (fun b => w1.heap.size ≤ b) PART (1, (n : Int), 0, 0, [], false, ()) [.int .i64 1, .int .u64 (n : Int), .int .i64 0, .float .f64 0, .slice none 0 0, .bool false]))
             have G := Lib.hid (F.out.2.2.2.1 hbel (Nat.le_refl _))
             obtain ⟨W, hW⟩ : ∃ W, w2.setCell ⟨wr.heap.size, 1, none⟩ (.int .u64 (n : Int)) = W := ⟨_, rfl⟩
             rw [hW] at F D G ⊢
             refine wpL_load rfl 39 (.tmp 10) rfl ⟨wr.heap.size, 0, none⟩ rfl [.int .i64 1, .int .u64 (n : Int), .int .i64 0, .float .f64 0, .slice none 0 0, .bool false] _ (At.blk F.out.1) Try.underlying39 rfl rfl ?_)
          | (refine wpL_lit1 rfl (cs := [.int .i64 1, .int .u64 (n : Int), .int .i64 0, .float .f64 0, .slice none 0 0, .bool false]) (.tmp 49) rfl rfl Try.underlying22 info_part rfl (by decide) (by decide) rfl ?_)
          | (at_builtin
             refine wp_appO (w0 := W.alloc (.cells ([.int .i64 1, .int .u64 (n : Int), .int .i64 0, .float .f64 0, .slice none 0 0, .bool false] : List Value).toArray 39)) (m := 1) (r := [(1, (n : Int), 0, 0, [], false, ())]) (ys := [.int .i64 1, .int .u64 (n : Int), .int .i64 0, .float .f64 0, .slice none 0 0, .bool false]) rfl (.tmp 48) (.tmp 50) rfl (OwnG.below F.out.2.1 (below_alloc1 W _)) rfl (fun e => by cases e) (fun ad' e => by cases e; exact At.blk (heap_alloc_new W _)) (RdL.single ?_) (Below.refl _ _) Try.underlying22 info_part rfl (by decide) rfl rfl (by rw [bytes_part]; omega) (by omega) ?_ ?_
             · exact HO.out.apart (B := wr.heap.size + 1) (Nat.le_succ _) (by omega) D.out (below_alloc1 W _)
             · have := F.out.2.2.2.2.1; simp; omega
             intro v7 w7 hO7 hb7 _ _
             have HO7 := Lib.hid hO7
             have HB7 := Lib.hid hb7
             obtain ⟨A7, c7, rfl, _⟩ := OwnG.form hO7
             clear hO7 hb7))
        go_roundw
        case measure => simp [intOf]; omega
        case rel =>
          have zW := F.out.2.2.2.2.1
          have z7 := HB7.out.size
          have za : (W.alloc (.cells ([.int .i64 1, .int .u64 (n : Int), .int .i64 0, .float .f64 0, .slice none 0 0, .bool false] : List Value).toArray 39)).heap.size = W.heap.size + 1 := by simp
          rw [za] at z7
          have hO7 := HO7.out
          have hlen : (l ++ [((1, (n : Int), 0, 0, [], false, ()) : PartT)]).length = i + 1 := by simp [hl1]
          rw [hlen] at hO7
          have hB7 := G.out.trans (((below_alloc1 W (.cells ([.int .i64 1, .int .u64 (n : Int), .int .i64 0, .float .f64 0, .slice none 0 0, .bool false] : List Value).toArray 39)).mono (by omega)).trans (HB7.out.mono (by omega)))
          exact ⟨i + 1, _, l ++ [(1, (n : Int), 0, 0, [], false, ())], s1, by omega, rfl, by go_num, HV.out, hO7, (F.out.2.2.1.below (below_alloc1 W _)).keep (fun b hb hlt => HB7.out.block b (by rcases hb with h | h <;> omega)), by omega, hB7⟩
      by_cases k2 : k = 2
      · subst k2
        obtain ⟨n, s1, hns⟩ : ∃ n s1, rdI s = (n, s1) := ⟨_, _, rfl⟩
        have HN := Lib.hid hns
        have HV := Lib.hid (show rdParts ofN (ks.take (i + 1)) (xs, false) = some (l ++ [(2, 0, n, 0, [], false, ())], s1) by rw [take_at hx, rdParts_snoc, HP.out]; simp only; unfold rdPart; simp only [hns]; rfl)
        have hlt := rdI_range s
        rw [hns] at hlt
        have HLT := Lib.hid hlt
        clear hlt
        clear hx hwf hns
        go_wp2_with (first
          | (refine wpL_store rfl 39 (.tmp 10) (.tmp 21) rfl wr.heap.size rfl _ _ 39 rfl (heap_alloc_new wr _) rfl rfl (by intro v hv; simp at hv; rcases hv with rfl | rfl | rfl | rfl | rfl | rfl <;> rfl) ?_
             intro w1 hc1 hg1
             have HC1 := Lib.hid hc1
             have HS := Lib.hid (rstart hg1)
             clear hc1 hg1)
          | (go_at_call 24
             refine (rrI_any w1 w.heap.size w.heap.size s (HR.out.below HS.out.1)).mono ?_
             rintro e w2 ⟨rfl, hr, hgr⟩
             rw [show rdI s = _ from HN.out] at hr ⊢
             have q1 := blk_grown HC1.out hgr (by intro e; injection e with e; omega)
             have c1 := blk_at q1 2 _ rfl
             have f1 := blk_free q1 2
             have HG := Lib.hid hgr
             have HR2 := Lib.hid hr
             clear q1 hr hgr)
          | (have F := Lib.hid (rstep (j := 2) (v := .int .i64 n) HS.out HC1.out HG.out (Nat.lt_succ_self _) hz (Nat.le_refl _) HO.out HR2.out)
             have D := Lib.hid (F.out.2.2.2.2.2 (rd_part_nil HW.out (partOk_of (by decide) (by decide) HLT.out.1 HLT.out.2 (by decide)) : Rd w2 (fun b => w1.heap.size ≤ b) PART (2, 0, n, 0, [], false, ()) [.int .i64 2, .int .u64 0, .int .i64 n, .float .f64 0, .slice none 0 0, .bool false]))
             have G := Lib.hid (F.out.2.2.2.1 hbel (Nat.le_refl _))
             obtain ⟨W, hW⟩ : ∃ W, w2.setCell ⟨wr.heap.size, 2, none⟩ (.int .i64 n) = W := ⟨_, rfl⟩
             rw [hW] at F D G ⊢
             refine wpL_load rfl 39 (.tmp 10) rfl ⟨wr.heap.size, 0, none⟩ rfl [.int .i64 2, .int .u64 0, .int .i64 n, .float .f64 0, .slice none 0 0, .bool false] _ (At.blk F.out.1) Try.underlying39 rfl rfl ?_)
          | (refine wpL_lit1 rfl (cs := [.int .i64 2, .int .u64 0, .int .i64 n, .float .f64 0, .slice none 0 0, .bool false]) (.tmp 49) rfl rfl Try.underlying22 info_part rfl (by decide) (by decide) rfl ?_)
          | (at_builtin
             refine wp_appO (w0 := W.alloc (.cells ([.int .i64 2, .int .u64 0, .int .i64 n, .float .f64 0, .slice none 0 0, .bool false] : List Value).toArray 39)) (m := 1) (r := [(2, 0, n, 0, [], false, ())]) (ys := [.int .i64 2, .int .u64 0, .int .i64 n, .float .f64 0, .slice none 0 0, .bool false]) rfl (.tmp 48) (.tmp 50) rfl (OwnG.below F.out.2.1 (below_alloc1 W _)) rfl (fun e => by cases e) (fun ad' e => by cases e; exact At.blk (heap_alloc_new W _)) (RdL.single ?_) (Below.refl _ _) Try.underlying22 info_part rfl (by decide) rfl rfl (by rw [bytes_part]; omega) (by omega) ?_ ?_
             · exact HO.out.apart (B := wr.heap.size + 1) (Nat.le_succ _) (by omega) D.out (below_alloc1 W _)
             · have := F.out.2.2.2.2.1; simp; omega
             intro v7 w7 hO7 hb7 _ _
             have HO7 := Lib.hid hO7
             have HB7 := Lib.hid hb7
             obtain ⟨A7, c7, rfl, _⟩ := OwnG.form hO7
             clear hO7 hb7))
        go_roundw
        case measure => simp [intOf]; omega
        case rel =>
          have zW := F.out.2.2.2.2.1
          have z7 := HB7.out.size
          have za : (W.alloc (.cells ([.int .i64 2, .int .u64 0, .int .i64 n, .float .f64 0, .slice none 0 0, .bool false] : List Value).toArray 39)).heap.size = W.heap.size + 1 := by simp
          rw [za] at z7
          have hO7 := HO7.out
          have hlen : (l ++ [((2, 0, n, 0, [], false, ()) : PartT)]).length = i + 1 := by simp [hl1]
          rw [hlen] at hO7
          have hB7 := G.out.trans (((below_alloc1 W (.cells ([.int .i64 2, .int .u64 0, .int .i64 n, .float .f64 0, .slice none 0 0, .bool false] : List Value).toArray 39)).mono (by omega)).trans (HB7.out.mono (by omega)))
          exact ⟨i + 1, _, l ++ [(2, 0, n, 0, [], false, ())], s1, by omega, rfl, by go_num, HV.out, hO7, (F.out.2.2.1.below (below_alloc1 W _)).keep (fun b hb hlt => HB7.out.block b (by rcases hb with h | h <;> omega)), by omega, hB7⟩
      by_cases k3 : k = 3
      · subst k3
        obtain ⟨n, s1, hns⟩ : ∃ n s1, rdF ofN s = (n, s1) := ⟨_, _, rfl⟩
        have HN := Lib.hid hns
        have HV := Lib.hid (show rdParts ofN (ks.take (i + 1)) (xs, false) = some (l ++ [(3, 0, 0, n, [], false, ())], s1) by rw [take_at hx, rdParts_snoc, HP.out]; simp only; unfold rdPart; simp only [hns]; rfl)
        have hlt := rdF_range s
        rw [hns] at hlt
        have HLT := Lib.hid hlt
        clear hlt
        clear hx hwf hns
        go_wp2_with (first
          | (refine wpL_store rfl 39 (.tmp 10) (.tmp 21) rfl wr.heap.size rfl _ _ 39 rfl (heap_alloc_new wr _) rfl rfl (by intro v hv; simp at hv; rcases hv with rfl | rfl | rfl | rfl | rfl | rfl <;> rfl) ?_
             intro w1 hc1 hg1
             have HC1 := Lib.hid hc1
             have HS := Lib.hid (rstart hg1)
             clear hc1 hg1)
          | (go_at_call 27
             refine (rrF_any w1 w.heap.size w.heap.size s (HR.out.below HS.out.1)).mono ?_
             rintro e w2 ⟨rfl, hr, hgr⟩
             rw [show rdF ofN s = _ from HN.out] at hr ⊢
             have q1 := blk_grown HC1.out hgr (by intro e; injection e with e; omega)
             have c1 := blk_at q1 3 _ rfl
             have f1 := blk_free q1 3
             have HG := Lib.hid hgr
             have HR2 := Lib.hid hr
             clear q1 hr hgr)
          | (have F := Lib.hid (rstep (j := 3) (v := .float .f64 n) HS.out HC1.out HG.out (Nat.lt_succ_self _) hz (Nat.le_refl _) HO.out HR2.out)
             have D := Lib.hid (F.out.2.2.2.2.2 (rd_part_nil HW.out (partOk_of (by decide) (by decide) (by decide) (by decide) HLT.out) : Rd w2 (fun b => w1.heap.size ≤ b) PART (3, 0, 0, n, [], false, ()) [.int .i64 3, .int .u64 0, .int .i64 0, .float .f64 n, .slice none 0 0, .bool false]))
             have G := Lib.hid (F.out.2.2.2.1 hbel (Nat.le_refl _))
             obtain ⟨W, hW⟩ : ∃ W, w2.setCell ⟨wr.heap.size, 3, none⟩ (.float .f64 n) = W := ⟨_, rfl⟩
             rw [hW] at F D G ⊢
             refine wpL_load rfl 39 (.tmp 10) rfl ⟨wr.heap.size, 0, none⟩ rfl [.int .i64 3, .int .u64 0, .int .i64 0, .float .f64 n, .slice none 0 0, .bool false] _ (At.blk F.out.1) Try.underlying39 rfl rfl ?_)
          | (refine wpL_lit1 rfl (cs := [.int .i64 3, .int .u64 0, .int .i64 0, .float .f64 n, .slice none 0 0, .bool false]) (.tmp 49) rfl rfl Try.underlying22 info_part rfl (by decide) (by decide) rfl ?_)
          | (at_builtin
             refine wp_appO (w0 := W.alloc (.cells ([.int .i64 3, .int .u64 0, .int .i64 0, .float .f64 n, .slice none 0 0, .bool false] : List Value).toArray 39)) (m := 1) (r := [(3, 0, 0, n, [], false, ())]) (ys := [.int .i64 3, .int .u64 0, .int .i64 0, .float .f64 n, .slice none 0 0, .bool false]) rfl (.tmp 48) (.tmp 50) rfl (OwnG.below F.out.2.1 (below_alloc1 W _)) rfl (fun e => by cases e) (fun ad' e => by cases e; exact At.blk (heap_alloc_new W _)) (RdL.single ?_) (Below.refl _ _) Try.underlying22 info_part rfl (by decide) rfl rfl (by rw [bytes_part]; omega) (by omega) ?_ ?_
             · exact HO.out.apart (B := wr.heap.size + 1) (Nat.le_succ _) (by omega) D.out (below_alloc1 W _)
             · have := F.out.2.2.2.2.1; simp; omega
             intro v7 w7 hO7 hb7 _ _
             have HO7 := Lib.hid hO7
             have HB7 := Lib.hid hb7
             obtain ⟨A7, c7, rfl, _⟩ := OwnG.form hO7
             clear hO7 hb7))
        go_roundw
        case measure => simp [intOf]; omega
        case rel =>
          have zW := F.out.2.2.2.2.1
          have z7 := HB7.out.size
          have za : (W.alloc (.cells ([.int .i64 3, .int .u64 0, .int .i64 0, .float .f64 n, .slice none 0 0, .bool false] : List Value).toArray 39)).heap.size = W.heap.size + 1 := by simp
          rw [za] at z7
          have hO7 := HO7.out
          have hlen : (l ++ [((3, 0, 0, n, [], false, ()) : PartT)]).length = i + 1 := by simp [hl1]
          rw [hlen] at hO7
          have hB7 := G.out.trans (((below_alloc1 W (.cells ([.int .i64 3, .int .u64 0, .int .i64 0, .float .f64 n, .slice none 0 0, .bool false] : List Value).toArray 39)).mono (by omega)).trans (HB7.out.mono (by omega)))
          exact ⟨i + 1, _, l ++ [(3, 0, 0, n, [], false, ())], s1, by omega, rfl, by go_num, HV.out, hO7, (F.out.2.2.1.below (below_alloc1 W _)).keep (fun b hb hlt => HB7.out.block b (by rcases hb with h | h <;> omega)), by omega, hB7⟩
      by_cases k4 : k = 4
      · subst k4
        obtain ⟨n, s1, hns⟩ : ∃ n s1, rdB 65536 s = (n, s1) := ⟨_, _, rfl⟩
        have HN := Lib.hid hns
        have HV := Lib.hid (show rdParts ofN (ks.take (i + 1)) (xs, false) = some (l ++ [(4, 0, 0, 0, n, false, ())], s1) by rw [take_at hx, rdParts_snoc, HP.out]; simp only; unfold rdPart; simp only [hns]; rfl)
        clear hx hwf hns
        go_wp2_with (first
          | (refine wpL_store rfl 39 (.tmp 10) (.tmp 21) rfl wr.heap.size rfl _ _ 39 rfl (heap_alloc_new wr _) rfl rfl (by intro v hv; simp at hv; rcases hv with rfl | rfl | rfl | rfl | rfl | rfl <;> rfl) ?_
             intro w1 hc1 hg1
             have HC1 := Lib.hid hc1
             have HS := Lib.hid (rstart hg1)
             clear hc1 hg1)
          | (go_at_call 29
             refine (rrB_any w1 w.heap.size w.heap.size 65536 s (HR.out.below HS.out.1) (by omega) (by omega)).mono ?_
             rintro e w2 ⟨v', rfl, hv, hr, hgr⟩
             rw [show rdB 65536 s = _ from HN.out] at hr hv
             have q1 := blk_grown HC1.out hgr (by intro e; injection e with e; omega)
             have c1 := blk_at q1 4 _ rfl
             have f1 := blk_free q1 4
             have HG := Lib.hid hgr
             have HR2 := Lib.hid hr
             have HVB := Lib.hid hv
             obtain ⟨Ab, cb, rfl⟩ := rd_slice hv
             clear hv
             clear q1 hr hgr)
          | (have F := Lib.hid (rstep (j := 4) (v := .slice Ab n.length cb) HS.out HC1.out HG.out (Nat.lt_succ_self _) hz (Nat.le_refl _) HO.out HR2.out)
             have D := Lib.hid (F.out.2.2.2.2.2 (rd_part_mk HW.out (partOk_of (by decide) (by decide) (by decide) (by decide) (by decide)) HVB.out : Rd w2 (fun b => w1.heap.size ≤ b) PART (4, 0, 0, 0, n, false, ()) [.int .i64 4, .int .u64 0, .int .i64 0, .float .f64 0, .slice Ab n.length cb, .bool false]))
             have G := Lib.hid (F.out.2.2.2.1 hbel (Nat.le_refl _))
             obtain ⟨W, hW⟩ : ∃ W, w2.setCell ⟨wr.heap.size, 4, none⟩ (.slice Ab n.length cb) = W := ⟨_, rfl⟩
             rw [hW] at F D G ⊢
             refine wpL_load rfl 39 (.tmp 10) rfl ⟨wr.heap.size, 0, none⟩ rfl [.int .i64 4, .int .u64 0, .int .i64 0, .float .f64 0, .slice Ab n.length cb, .bool false] _ (At.blk F.out.1) Try.underlying39 rfl rfl ?_)
          | (refine wpL_lit1 rfl (cs := [.int .i64 4, .int .u64 0, .int .i64 0, .float .f64 0, .slice Ab n.length cb, .bool false]) (.tmp 49) rfl rfl Try.underlying22 info_part rfl (by decide) (by decide) rfl ?_)
          | (at_builtin
             refine wp_appO (w0 := W.alloc (.cells ([.int .i64 4, .int .u64 0, .int .i64 0, .float .f64 0, .slice Ab n.length cb, .bool false] : List Value).toArray 39)) (m := 1) (r := [(4, 0, 0, 0, n, false, ())]) (ys := [.int .i64 4, .int .u64 0, .int .i64 0, .float .f64 0, .slice Ab n.length cb, .bool false]) rfl (.tmp 48) (.tmp 50) rfl (OwnG.below F.out.2.1 (below_alloc1 W _)) rfl (fun e => by cases e) (fun ad' e => by cases e; exact At.blk (heap_alloc_new W _)) (RdL.single ?_) (Below.refl _ _) Try.underlying22 info_part rfl (by decide) rfl rfl (by rw [bytes_part]; omega) (by omega) ?_ ?_
             · exact HO.out.apart (B := wr.heap.size + 1) (Nat.le_succ _) (by omega) D.out (below_alloc1 W _)
             · have := F.out.2.2.2.2.1; simp; omega
             intro v7 w7 hO7 hb7 _ _
             have HO7 := Lib.hid hO7
             have HB7 := Lib.hid hb7
             obtain ⟨A7, c7, rfl, _⟩ := OwnG.form hO7
             clear hO7 hb7))
        go_roundw
        case measure => simp [intOf]; omega
        case rel =>
          have zW := F.out.2.2.2.2.1
          have z7 := HB7.out.size
          have za : (W.alloc (.cells ([.int .i64 4, .int .u64 0, .int .i64 0, .float .f64 0, .slice Ab n.length cb, .bool false] : List Value).toArray 39)).heap.size = W.heap.size + 1 := by simp
          rw [za] at z7
          have hO7 := HO7.out
          have hlen : (l ++ [((4, 0, 0, 0, n, false, ()) : PartT)]).length = i + 1 := by simp [hl1]
          rw [hlen] at hO7
          have hB7 := G.out.trans (((below_alloc1 W (.cells ([.int .i64 4, .int .u64 0, .int .i64 0, .float .f64 0, .slice Ab n.length cb, .bool false] : List Value).toArray 39)).mono (by omega)).trans (HB7.out.mono (by omega)))
          exact ⟨i + 1, _, l ++ [(4, 0, 0, 0, n, false, ())], s1, by omega, rfl, by go_num, HV.out, hO7, (F.out.2.2.1.below (below_alloc1 W _)).keep (fun b hb hlt => HB7.out.block b (by rcases hb with h | h <;> omega)), by omega, hB7⟩
      by_cases k5 : k = 5
      · subst k5
        obtain ⟨n, s1, hns⟩ : ∃ n s1, rdFlag s = (n, s1) := ⟨_, _, rfl⟩
        have HN := Lib.hid hns
        have HV := Lib.hid (show rdParts ofN (ks.take (i + 1)) (xs, false) = some (l ++ [(5, 0, 0, 0, [], n, ())], s1) by rw [take_at hx, rdParts_snoc, HP.out]; simp only; unfold rdPart; simp only [hns]; rfl)
        clear hx hwf hns
        go_wp2_with (first
          | (refine wpL_store rfl 39 (.tmp 10) (.tmp 21) rfl wr.heap.size rfl _ _ 39 rfl (heap_alloc_new wr _) rfl rfl (by intro v hv; simp at hv; rcases hv with rfl | rfl | rfl | rfl | rfl | rfl <;> rfl) ?_
             intro w1 hc1 hg1
             have HC1 := Lib.hid hc1
             have HS := Lib.hid (rstart hg1)
             clear hc1 hg1)
          | (go_at_call 31
             refine (rrFlag_any w1 w.heap.size w.heap.size s (HR.out.below HS.out.1)).mono ?_
             rintro e w2 ⟨rfl, hr, hgr⟩
             rw [show rdFlag s = _ from HN.out] at hr ⊢
             have q1 := blk_grown HC1.out hgr (by intro e; injection e with e; omega)
             have c1 := blk_at q1 5 _ rfl
             have f1 := blk_free q1 5
             have HG := Lib.hid hgr
             have HR2 := Lib.hid hr
             clear q1 hr hgr)
          | (have F := Lib.hid (rstep (j := 5) (v := .bool n) HS.out HC1.out HG.out (Nat.lt_succ_self _) hz (Nat.le_refl _) HO.out HR2.out)
             have D := Lib.hid (F.out.2.2.2.2.2 (rd_part_nil HW.out (partOk_of (by decide) (by decide) (by decide) (by decide) (by decide)) : Rd w2 (fun b => w1.heap.size ≤ b) PART (5, 0, 0, 0, [], n, ()) [.int .i64 5, .int .u64 0, .int .i64 0, .float .f64 0, .slice none 0 0, .bool n]))
             have G := Lib.hid (F.out.2.2.2.1 hbel (Nat.le_refl _))
             obtain ⟨W, hW⟩ : ∃ W, w2.setCell ⟨wr.heap.size, 5, none⟩ (.bool n) = W := ⟨_, rfl⟩
             rw [hW] at F D G ⊢
             refine wpL_load rfl 39 (.tmp 10) rfl ⟨wr.heap.size, 0, none⟩ rfl [.int .i64 5, .int .u64 0, .int .i64 0, .float .f64 0, .slice none 0 0, .bool n] _ (At.blk F.out.1) Try.underlying39 rfl rfl ?_)
          | (refine wpL_lit1 rfl (cs := [.int .i64 5, .int .u64 0, .int .i64 0, .float .f64 0, .slice none 0 0, .bool n]) (.tmp 49) rfl rfl Try.underlying22 info_part rfl (by decide) (by decide) rfl ?_)
          | (at_builtin
             refine wp_appO (w0 := W.alloc (.cells ([.int .i64 5, .int .u64 0, .int .i64 0, .float .f64 0, .slice none 0 0, .bool n] : List Value).toArray 39)) (m := 1) (r := [(5, 0, 0, 0, [], n, ())]) (ys := [.int .i64 5, .int .u64 0, .int .i64 0, .float .f64 0, .slice none 0 0, .bool n]) rfl (.tmp 48) (.tmp 50) rfl (OwnG.below F.out.2.1 (below_alloc1 W _)) rfl (fun e => by cases e) (fun ad' e => by cases e; exact At.blk (heap_alloc_new W _)) (RdL.single ?_) (Below.refl _ _) Try.underlying22 info_part rfl (by decide) rfl rfl (by rw [bytes_part]; omega) (by omega) ?_ ?_
             · exact HO.out.apart (B := wr.heap.size + 1) (Nat.le_succ _) (by omega) D.out (below_alloc1 W _)
             · have := F.out.2.2.2.2.1; simp; omega
             intro v7 w7 hO7 hb7 _ _
             have HO7 := Lib.hid hO7
             have HB7 := Lib.hid hb7
             obtain ⟨A7, c7, rfl, _⟩ := OwnG.form hO7
             clear hO7 hb7))
        go_roundw
        case measure => simp [intOf]; omega
        case rel =>
          have zW := F.out.2.2.2.2.1
          have z7 := HB7.out.size
          have za : (W.alloc (.cells ([.int .i64 5, .int .u64 0, .int .i64 0, .float .f64 0, .slice none 0 0, .bool n] : List Value).toArray 39)).heap.size = W.heap.size + 1 := by simp
          rw [za] at z7
          have hO7 := HO7.out
          have hlen : (l ++ [((5, 0, 0, 0, [], n, ()) : PartT)]).length = i + 1 := by simp [hl1]
          rw [hlen] at hO7
          have hB7 := G.out.trans (((below_alloc1 W (.cells ([.int .i64 5, .int .u64 0, .int .i64 0, .float .f64 0, .slice none 0 0, .bool n] : List Value).toArray 39)).mono (by omega)).trans (HB7.out.mono (by omega)))
          exact ⟨i + 1, _, l ++ [(5, 0, 0, 0, [], n, ())], s1, by omega, rfl, by go_num, HV.out, hO7, (F.out.2.2.1.below (below_alloc1 W _)).keep (fun b hb hlt => HB7.out.block b (by rcases hb with h | h <;> omega)), by omega, hB7⟩
      have b1 : (k == 1) = false := beq_eq_false_iff_ne.2 k1
      have b2 : (k == 2) = false := beq_eq_false_iff_ne.2 k2
      have b3 : (k == 3) = false := beq_eq_false_iff_ne.2 k3
      have b4 : (k == 4) = false := beq_eq_false_iff_ne.2 k4
      have b5 : (k == 5) = false := beq_eq_false_iff_ne.2 k5
      have hcut : ks = ks.take (i + 1) ++ ks.drop (i + 1) := (List.take_append_drop _ _).symm
      have HN := Lib.hid (show partsL ofN xs ks = none by
          unfold partsL
          rw [hcut, rdParts_none _ _ _ (show rdParts ofN (ks.take (i + 1)) (xs, false) = none by rw [take_at hx, rdParts_snoc, HP.out]; simp only; unfold rdPart; rw [if_neg k1, if_neg k2, if_neg k3, if_neg k4, if_neg k5])])
      clear hx hwf hcut k1 k2 k3 k4 k5
      go_wp2_with (first
          | (refine wpL_store rfl 39 (.tmp 10) (.tmp 21) rfl wr.heap.size rfl _ _ 39 rfl (heap_alloc_new wr _) rfl rfl (by intro v hv; simp at hv; rcases hv with rfl | rfl | rfl | rfl | rfl | rfl <;> rfl) ?_
             intro w1 hc1 hg1
             have HC1 := Lib.hid hc1
             have HS := Lib.hid (rstart hg1)
             clear hc1 hg1))
      refine bodyPost_ret (results_tmp2 rfl _ _ _) rfl ?_
      exact parts_bad HN.out (hbel.trans (HS.out.1.mono (by omega)))
    · obtain rfl : i = m := by omega
      have hall : ks.take i = ks := List.take_of_length_le (by omega)
      rw [hall] at HP
      have hrd := HO.out
      rw [← hl1] at hrd
      have HRD := Lib.hid (hrd.rd)
      rw [hl1] at HRD
      clear hrd hall
      by_cases hbad : s.2 = true ∨ s.1 ≠ []
      · have HN := Lib.hid (show partsL ofN xs ks = none by unfold partsL; rw [HP.out]; simp only; rw [if_pos hbad])
        have HE := Lib.hid (show (if s.2 = true ∨ s.1 ≠ [] then 20 else 0 : Int) = 20 from if_pos hbad)
        clear hbad
        go_wp2_with (go_at_call 34; refine (rrEnd_any wr _ _ s HR.out).mono ?_; rintro e w10 ⟨rfl, rfl⟩; rw [HE.out])
        refine bodyPost_ret (results_tmp2 rfl _ _ _) rfl ?_
        exact parts_bad HN.out hbel
      · have HN := Lib.hid (show partsL ofN xs ks = some l by unfold partsL; rw [HP.out]; simp only; rw [if_neg hbad])
        have HE := Lib.hid (show (if s.2 = true ∨ s.1 ≠ [] then 20 else 0 : Int) = 0 from if_neg hbad)
        clear hbad
        go_wp2_with (go_at_call 34; refine (rrEnd_any wr _ _ s HR.out).mono ?_; rintro e w10 ⟨rfl, rfl⟩; rw [HE.out])
        refine bodyPost_ret (results_tmp2 rfl _ _ _) rfl ?_
        exact parts_good HN.out (HRD.out.weak (fun b hb _ => by omega)) hbel
end Go.Proofs.Ytnolhnlhohpkpaa
namespace Go.Proofs.Ytnolhnlhohpkpaa
open Go.RowKit Cdc
set_option linter.unusedVariables false
set_option linter.unusedSimpArgs false
attribute [local go_sem] run_store_float
set_option maxRecDepth 20000 in
theorem info_lst : (Try.prog.info? 67).map (fun i => (i.zero, i.size, i.bytes)) = some (some (.agg #[.int .u64 0, .string ⟨#[]⟩]), 2, (Try.prog.bytesOf 67)) := by kernel_rfl
set_option maxRecDepth 20000 in
theorem bytes_lst : Try.prog.bytesOf 67 = 24 := by kernel_rfl
set_option maxRecDepth 20000 in
theorem bytes_task : Try.prog.bytesOf 63 = 80 := by kernel_rfl
/-- A reader at work, the result's box and the state's box. -/
def OS (w W : World) (g b : Nat) (s : St) (c : Array Value) : Prop :=
  RdAt W g s ∧ w.heap.size < g ∧ g < b ∧ W.heap[w.heap.size]? = some (.cells #[Value.slice none 0 0, Value.slice none 0 0] 59 (0, 0)) ∧ W.heap[b]? = some (.cells c 59 (0, 0)) ∧ Below w.heap.size w W ∧ b < W.heap.size
set_option maxRecDepth 20000 in
theorem OS.read {w W W' : World} {g b : Nat} {s s' : St} {c : Array Value} (h : OS w W g b s c) (hg : W.grownBy W' (some g)) (hr : RdAt W' g s') : OS w W' g b s' c := by
  obtain ⟨h1, h2, h3, h4, h5, h6, h7⟩ := h
  exact ⟨hr, h2, h3, blk_grown h4 hg (by intro e; injection e; omega), blk_grown h5 hg (by intro e; injection e; omega), below_grown2 h6 hg h6.size (by omega), Nat.lt_of_lt_of_le h7 hg.size⟩
set_option maxRecDepth 20000 in
theorem OS.set {w W : World} {g b : Nat} {s : St} {c : Array Value} (h : OS w W g b s c) (j : Nat) (v : Value) : OS w (W.setCell ⟨b, j, none⟩ v) g b s (c.setIfInBounds j v) := by
  obtain ⟨h1, h2, h3, h4, h5, h6, h7⟩ := h
  have h0 : W.grownBy (W.setCell ⟨b, j, none⟩ v) (some b) := grown_set (grown_refl _ _)
  exact ⟨h1.grown h0 (by omega), h2, h3, blk_other h4 j v (by omega), blk_set h5 j v, below_grown2 h6 h0 h6.size (by omega), Nat.lt_of_lt_of_le h7 h0.size⟩
set_option maxRecDepth 20000 in
theorem OS.below {w W W' : World} {g b : Nat} {s : St} {c : Array Value} (h : OS w W g b s c) (hb : Below W.heap.size W W') : OS w W' g b s c := by
  obtain ⟨h1, h2, h3, h4, h5, h6, h7⟩ := h
  exact ⟨h1.below hb, h2, h3, blk_below h4 hb (blk_lt h4), blk_below h5 hb h7, h6.trans (hb.mono h6.size), Nat.lt_of_lt_of_le h7 hb.size⟩
set_option maxRecDepth 20000 in
theorem OS.app {w W W' : World} {g b : Nat} {s : St} {c : Array Value} {r : Option Nat} (h : OS w W g b s c) (hg : W.grownBy W' r) (hr : ∀ k, r = some k → b < k) : OS w W' g b s c := by
  obtain ⟨h1, h2, h3, h4, h5, h6, h7⟩ := h
  have ne : ∀ k, k ≤ b → some k ≠ r := fun k hk e => by have := hr k e.symm; omega
  refine ⟨?_, h2, h3, blk_grown h4 hg (ne _ (by omega)), blk_grown h5 hg (ne _ (Nat.le_refl _)), h6.grown hg h6.size (fun k e => by have := hr k e; omega), Nat.lt_of_lt_of_le h7 hg.size⟩
  obtain ⟨A, c, hq, q1, q2, q3, q4, q5⟩ := h1
  refine ⟨A, c, blk_grown hq hg (ne _ (by omega)), q1, q2, q3, q4.grown hg (fun hx e => ?_), q5⟩
  cases A with
  | none => have := q4.2.2.1 rfl; exact hx (List.eq_nil_of_length_eq_zero this)
  | some ad => exact ne ad.block (by have := q5 hx ad rfl; omega) e
set_option maxRecDepth 20000 in
theorem rdl_lst {w w' : World} {ok ok' : Nat → Prop} : ∀ {l : List LIST.Ty} {xs : List Value}, RdL w ok LIST l xs → RdL w' ok' LIST l xs
  | [], _, h => h
  | x :: l, xs, h => by
    obtain ⟨c1, c2, rfl, h1, h2⟩ := h
    obtain ⟨i, t, rfl, rfl, hok⟩ := rd_lst h1
    exact ⟨_, c2, rfl, rd_lst_mk hok, rdl_lst h2⟩
set_option maxRecDepth 20000 in
theorem Own.lst_grown {w w' : World} {base : Nat} {e : TypeId} {v : Value} {l : List LIST.Ty} {r : Option Nat} (h : Own w base e LIST v l) (hg : w.grownBy w' r) (hne : ∀ kb, v.ownBlock = some kb → r ≠ some kb) : Own w' base e LIST v l := by
  obtain ⟨xs, ho, hr⟩ := h
  refine ⟨xs, ?_, rdl_lst hr⟩
  obtain ⟨h1, h2 | ⟨g', cap, cur, hv, hg', hh, h3⟩⟩ := ho
  · exact ⟨h1, .inl h2⟩
  · exact ⟨h1, .inr ⟨g', cap, cur, hv, hg', (hg.block g' (Array.getElem?_eq_some_iff.1 hh).1 (fun e => hne g' (by rw [hv]; rfl) e.symm)).trans hh, h3⟩⟩
def ofState (b : List UInt8) : (List LIST.Ty × List TASK.Ty) × Int :=
  if (rdState b).2.2 = true ∨ (rdState b).2.1 ≠ [] ∨ rightE (rdState b).1.1 (rdState b).1.2 ≠ 0 then (([], []), 90) else ((rdState b).1, 0)
def OfPost (w : World) (xs : List UInt8) (e : Ending) (w' : World) : Prop :=
  ∃ cs : List Value, e = .returned (.tuple #[.agg cs.toArray, .int .i64 (ofState xs).2]) ∧ Rd w' (fun k => w.heap.size ≤ k) STATE ((ofState xs).1.1, (ofState xs).1.2, ()) cs ∧ Below w.heap.size w w'
set_option maxRecDepth 20000 in
theorem of_bad {w w' : World} {xs : List UInt8} (h : (rdState xs).2.2 = true ∨ (rdState xs).2.1 ≠ [] ∨ rightE (rdState xs).1.1 (rdState xs).1.2 ≠ 0) (hb : Below w.heap.size w w') : OfPost w xs (.returned (.tuple #[.agg #[Value.slice none 0 0, Value.slice none 0 0], .int .i64 90])) w' := by
  have e : ofState xs = (([], []), 90) := if_pos h
  unfold OfPost
  rw [e]
  exact ⟨[.slice none 0 0, .slice none 0 0], rfl, rd_state_mk trivial (rd_nil _ _ _) (rd_nil _ _ _), hb⟩
set_option maxRecDepth 20000 in
theorem of_good {w W w' : World} {g b k q : Nat} {Av Bv : Option Addr} {cv dv : Nat} {xs : List UInt8} {s : St} {l : List LIST.Ty} {t : List TASK.Ty} (hv : rdState xs = ((l, t), s)) (h1 : ¬ (s.2 = true ∨ s.1 ≠ [])) (h2 : rightE l t = 0)
    (hO : OS w W g b s #[.slice Av k cv, .slice Bv q dv]) (hl : Own W (b + 1) 67 LIST (.slice Av k cv) l) (ht : Own W (b + 1) 63 TASK (.slice Bv q dv) t) (hg : W.grownBy w' (some w.heap.size)) : OfPost w xs (.returned (.tuple #[.agg #[.slice Av k cv, .slice Bv q dv], .int .i64 0])) w' := by
  have e : ofState xs = ((l, t), 0) := by
    unfold ofState
    rw [hv]
    exact if_neg (fun h => h.elim (fun h => h1 (.inl h)) (fun h => h.elim (fun h => h1 (.inr h)) (fun h => h h2)))
  unfold OfPost
  rw [e]
  have hlt : w.heap.size < b + 1 := by have := hO.2.1; have := hO.2.2.1; omega
  have f1 := (Own.rd hl).of (w' := w') (ok' := fun kb => w.heap.size ≤ kb) (fun a u hk hc => cell_grown hg hc (by intro e; injection e with e; have h1 : b + 1 ≤ a.block := hk; omega)) (fun kb hk _ => by have h1 : b + 1 ≤ kb := hk; omega)
  have f2 := (Own.rd ht).of (w' := w') (ok' := fun kb => w.heap.size ≤ kb) (fun a u hk hc => cell_grown hg hc (by intro e; injection e with e; have h1 : b + 1 ≤ a.block := hk; omega)) (fun kb hk _ => by have h1 : b + 1 ≤ kb := hk; omega)
  exact ⟨[.slice Av k cv, .slice Bv q dv], rfl, rd_state_mk trivial f1 f2, below_grown2 hO.2.2.2.2.2.1 hg hO.2.2.2.2.2.1.size (Nat.le_refl _)⟩
set_option maxHeartbeats 2000000 in
set_option maxRecDepth 20000 in
theorem ofst_any (w : World) (A : Option Addr) (n c : Nat) (xs : List UInt8) (h : Rd w anyB (.sl .byte) xs [.slice A n c]) (hn : xs.length ≤ 100000) :
    Calls Try.prog 48 #[.slice A n c] w (OfPost w xs) := by
  have H := Lib.hid h
  have hb0 := below_alloc1 w (.cells #[Value.slice none 0 0, Value.slice none 0 0] 59)
  have HB0 := Lib.hid hb0
  have HZ0 := Lib.hid (heap_alloc_new w (.cells #[Value.slice none 0 0, Value.slice none 0 0] 59))
  have HR := Lib.hid (read_any (w.alloc (.cells #[Value.slice none 0 0, Value.slice none 0 0] 59)) A n c xs (H.out.of (fun _ _ _ hc => cell_below hb0 hc) (fun _ _ _ => trivial)) hn)
  clear h hb0
  go_enter Try.func48, Try.ntmps48
  go_wp2_with fail
  refine HR.out.mono ?_
  rintro e w1 ⟨g, rfl, hg, hr, hb⟩
  have hwg : w.heap.size < g := by simp at hg; omega
  have HG := Lib.hid hr
  have HB1 := Lib.hid hb
  clear hr hb hg
  go_wp2_with fail
  obtain ⟨v1, hv1⟩ : ∃ v, w1.alloc (.cells #[Value.slice none 0 0, Value.slice none 0 0] 59) = v := ⟨_, rfl⟩
  have O0 := Lib.hid (show OS w v1 g w1.heap.size (xs, false) #[Value.slice none 0 0, Value.slice none 0 0] from by
    rw [← hv1]
    have h1 := HG.out.lt
    exact ⟨HG.out.below (below_alloc1 _ _), hwg, h1, blk_alloc (blk_below HZ0.out HB1.out (by simp)) _, heap_alloc_new w1 _, (HB0.out.trans (HB1.out.mono (by simp))).trans ((below_alloc1 w1 _).mono (by have := HB1.out.size; simp at this; omega)), by simp⟩)
  rw [hv1]
  obtain ⟨b, hb⟩ : ∃ b, w1.heap.size = b := ⟨_, rfl⟩
  rw [hb] at O0 ⊢
  clear hv1 hb
  refine (rN_any v1 g 60 (xs, false) O0.out.1).mono ?_
  rintro e w2 ⟨rfl, hr, hg⟩
  obtain ⟨m, s1, e1⟩ : ∃ n s', rdN 60 (xs, false) = (n, s') := ⟨_, _, rfl⟩
  rw [e1] at hr ⊢
  have hm : m ≤ 60 := by have := rdN_most 60 (xs, false); rw [e1] at this; exact this
  have hs1 : s1.1.length ≤ xs.length := by have := rdN_len 60 (xs, false); rw [e1] at this; exact this
  have E1 := Lib.hid e1
  have O1 := Lib.hid (O0.out.read hg hr)
  clear hr hg e1 O0
  go_wp2_with fail
  go_loopw [6] (fun s6 wr => ∃ (k : Nat) (v : Value) (l : List LIST.Ty) (s' : St), k ≤ m ∧ s6 = .int .u64 ((m - k : Nat) : Int) ∧ rdMany rdList k s1 = (l, s') ∧ OS w wr g b s' #[v, .slice none 0 0] ∧ Own wr (b + 1) 67 LIST v l) (fun s6 _ => (intOf s6).toNat)
  case atStart => exact ⟨0, _, [], s1, by omega, rfl, rfl, O1.out, Own.nil _ _ _ _⟩
  case round =>
    obtain ⟨k, v, l, s', hk, rfl, hrt, hO, hOw⟩ := hrel
    have HO := Lib.hid hO
    have HW := Lib.hid hOw
    have HT := Lib.hid hrt
    have hb1 := hO.2.2.2.2.2.2
    have hl2 : s'.1.length ≤ s1.1.length := by have := rdMany_len rdList_len k s1; rw [hrt] at this; exact this.2
    have hlk : l.length = k := by have := rdMany_len rdList_len k s1; rw [hrt] at this; exact this.1
    clear hO hOw hrt
    by_cases hlt : k < m
    · have j0 : (0 : Int) < ((m - k : Nat) : Int) := by omega
      obtain ⟨i1, s2, e2⟩ : ∃ n t', rdN FULL s' = (n, t') := ⟨_, _, rfl⟩
      obtain ⟨b3, s3, e3⟩ : ∃ n s', rdB 60 s2 = (n, s') := ⟨_, _, rfl⟩
      have hs2 : s2.1.length ≤ s'.1.length := by have := rdN_len FULL s'; rw [e2] at this; exact this
      have hi1 : i1 < 18446744073709551616 := by have := rdN_lt (most := FULL) (s := s') (by unfold FULL; omega); rw [e2] at this; exact this
      have hb3 : (⟨b3.toArray⟩ : ByteArray).size ≤ 9223372036854775807 := by have := rdB_most 60 s2; rw [e3] at this; show b3.toArray.size ≤ _; simp only [List.size_toArray] at this ⊢; omega
      have HN := Lib.hid (show rdMany rdList (k + 1) s1 = (l ++ [((i1 : Int), ⟨b3.toArray⟩, ())], s3) by rw [rdMany_snoc, HT.out]; unfold rdList; simp only [e2, e3])
      have E2 := Lib.hid e2
      have E3 := Lib.hid e3
      obtain ⟨Av, cv, rfl, _⟩ := HW.out.form
      rw [hlk] at HW HO
      have HLK := Lib.hid hlk
      have hvb : ∀ kb, (Value.slice Av k cv).ownBlock = some kb → b + 1 ≤ kb := fun kb e => by obtain ⟨xs, ho, _⟩ := HW.out; exact own_base ho kb e
      clear e2 e3 hlk
      go_wp2_with fail
      refine (rN_any wr g 18446744073709551615 s' HO.out.1).mono ?_
      rintro e w3 ⟨rfl, hr, hg⟩
      rw [show rdN 18446744073709551615 s' = _ from E2.out] at hr ⊢
      have O3 := Lib.hid (HO.out.read hg hr)
      have W3 := Lib.hid (Own.grown HW.out hg (by have := HO.out.2.2.1; omega))
      clear hr hg
      go_wp2_with fail
      obtain ⟨v3, hv3⟩ : ∃ v, w3.alloc (.cells #[.int .u64 i1, .string ⟨#[]⟩] 67) = v := ⟨_, rfl⟩
      have hbw := below_alloc1 w3 (.cells #[.int .u64 i1, .string ⟨#[]⟩] 67)
      have hbn := heap_alloc_new w3 (.cells #[.int .u64 i1, .string ⟨#[]⟩] 67)
      rw [hv3] at hbw hbn ⊢
      have O4 := Lib.hid (O3.out.below hbw)
      have W4 := Lib.hid (W3.out.below hbw)
      have hd : b < w3.heap.size := O3.out.2.2.2.2.2.2
      obtain ⟨d, hdd⟩ : ∃ d, w3.heap.size = d := ⟨_, rfl⟩
      rw [hdd] at hbn hd ⊢
      have HD4 := Lib.hid hbn
      have HA4 := Lib.hid hbw
      have hz4 := hbw.size
      have hd3 : w3.heap.size ≤ d := by omega
      clear hv3 hbw hbn hdd
      refine (rB_any v3 g 60 s2 O4.out.1 (by omega) (by omega)).mono ?_
      rintro e w5 ⟨vD, rfl, hrd, hr, hg⟩
      obtain ⟨Ad, cd, rfl, _, _, _, hbs⟩ := rd_bs hrd
      rw [E3.out] at hr hbs ⊢
      have O5 := Lib.hid (O4.out.read hg hr)
      have W5 := Lib.hid (Own.grown W4.out hg (by have := O4.out.2.2.1; omega))
      have HD5 := Lib.hid (blk_grown HD4.out hg (by intro e; injection e; have := O4.out.2.2.1; omega))
      have HG5 := Lib.hid hg
      have hconv := conv_bs (c := cd) hbs
      have cx := blk_at HD5.out 1 _ rfl
      have fx := blk_free HD5.out 1
      clear hrd hr hg hbs
      have hgs : w5.grownBy (w5.setCell ⟨d, 1, none⟩ (.string ⟨b3.toArray⟩)) (some d) := grown_set (grown_refl _ _)
      have HD6 := Lib.hid (blk_set HD5.out 1 (.string ⟨b3.toArray⟩))
      obtain ⟨v6, hv6⟩ : ∃ v, w5.setCell ⟨d, 1, none⟩ (.string ⟨b3.toArray⟩) = v := ⟨_, rfl⟩
      rw [hv6] at hgs HD6
      have O6 := Lib.hid (O5.out.app hgs (fun k e => by injection e; omega))
      have W6 := Lib.hid (Own.keep W3.out (fun kb h1 h2 => ((hgs.block kb (by have := HG5.out.size; omega) (by intro e; injection e; omega)).trans ((HG5.out.block kb (by omega) (by intro e; injection e; have := O3.out.2.2.1; omega)).trans (HA4.out.block kb h2)))))
      have c6 := blk_at O6.out.2.2.2.2.1 0 _ rfl
      have HG6 := Lib.hid hgs
      have hi2 : ((i1 : Nat) : Int) < 18446744073709551616 := by omega
      have HLO := Lib.hid (show LISTOk ((i1 : Int), (⟨b3.toArray⟩ : ByteArray), ()) from ⟨⟨Int.natCast_nonneg _, hi2⟩, hb3⟩)
      have hkm : (k + 1) * 24 ≤ 140737488355328 := by omega
      have hbs6 : b + 1 ≤ (v6.alloc (.cells [Value.int .u64 (i1 : Int), Value.string ⟨b3.toArray⟩].toArray 67)).heap.size := by rw [show (v6.alloc (.cells [Value.int .u64 (i1 : Int), Value.string ⟨b3.toArray⟩].toArray 67)).heap.size = v6.heap.size + 1 by simp]; have : b < v6.heap.size := O6.out.2.2.2.2.2.2; omega
      have hdv : b < v6.heap.size := O6.out.2.2.2.2.2.2
      clear hgs
      go_wp2_with (first
        | (refine wpL_load rfl 67 (.tmp 7) rfl ⟨d, 0, none⟩ rfl [Value.int .u64 (i1 : Int), Value.string ⟨b3.toArray⟩] _ (At.blk HD6.out) Try.underlying67 rfl rfl ?_)
        | (refine wpL_lit1 rfl (cs := [Value.int .u64 (i1 : Int), Value.string ⟨b3.toArray⟩]) (.tmp 26) rfl rfl Try.underlying56 info_lst rfl (by decide) (by decide) rfl ?_)
        | (at_builtin
           go_loud (refine wp_appO (w0 := v6.alloc (.cells ([Value.int .u64 (i1 : Int), Value.string ⟨b3.toArray⟩]).toArray 67)) (m := 1) (S := LIST) (r := [((i1 : Int), (⟨b3.toArray⟩ : ByteArray), ())]) (ys := [Value.int .u64 (i1 : Int), Value.string ⟨b3.toArray⟩]) rfl (.tmp 25) (.tmp 27) rfl (W6.out.below (below_alloc1 v6 _)) rfl (fun e => by cases e) (fun ad' e => by cases e; exact At.blk (heap_alloc_new v6 _)) (RdL.single (rd_lst_mk HLO.out)) (Below.refl _ _) Try.underlying56 info_lst rfl (by decide) rfl rfl (by rw [bytes_lst, HLK.out]; exact hkm) (by rw [HLK.out]; omega) hbs6 ?_)
           intro v7 w7 hO7 hb7 hg7 _
           obtain ⟨A7, c7, rfl, _⟩ := hO7.form
           have hl7 : (l ++ [((i1 : Int), (⟨b3.toArray⟩ : ByteArray), ())]).length = k + 1 := by rw [List.length_append, HLK.out]; rfl
           rw [hl7] at hO7 ⊢
           clear hl7
           have X7 := Lib.hid ((O6.out.below (below_alloc1 v6 (.cells ([Value.int .u64 (i1 : Int), Value.string ⟨b3.toArray⟩]).toArray 67))).app hg7 (fun kb e => hvb kb e))
           have HO7 := Lib.hid hO7
           clear hO7 hb7 hg7
           have cx7 := blk_at X7.out.2.2.2.2.1 0 _ rfl
           have fx7 := blk_free X7.out.2.2.2.2.1 0))
      have X8 := Lib.hid (X7.out.set 0 (.slice A7 (k + 1) c7))
      have W8 := Lib.hid (Own.grown HO7.out (grown_set (j := 0) (v := .slice A7 (k + 1) c7) (grown_refl w7 (some b))) (Nat.lt_succ_self b))
      have hnk : IntKind.u64.wrap (((m - k : Nat) : Int) - 1) = ((m - (k + 1) : Nat) : Int) := by rw [IntKind.wrap_u64]; omega
      go_wp2_with fail
      go_roundw
      case measure => simp [intOf]; omega
      case rel => exact ⟨k + 1, _, _, s3, by omega, congrArg (Value.int IntKind.u64) (by omega), HN.out, X8.out, W8.out⟩
    · obtain rfl : k = m := by omega
      obtain ⟨m2, s2, e2⟩ : ∃ n t', rdN 60 s' = (n, t') := ⟨_, _, rfl⟩
      have hm2 : m2 ≤ 60 := by have := rdN_most 60 s'; rw [e2] at this; exact this
      have hs2 : s2.1.length ≤ s'.1.length := by have := rdN_len 60 s'; rw [e2] at this; exact this
      have E2 := Lib.hid e2
      obtain ⟨Av, cv, rfl, _⟩ := HW.out.form
      rw [hlk] at HW HO
      have HLK := Lib.hid hlk
      clear e2 hlk
      go_wp2_with fail
      refine (rN_any wr g 60 s' HO.out.1).mono ?_
      rintro e w3 ⟨rfl, hr, hg⟩
      rw [E2.out] at hr ⊢
      have O3 := Lib.hid (HO.out.read hg hr)
      have W3 := Lib.hid (Own.grown HW.out hg (by have := HO.out.2.2.1; omega))
      clear hr hg HO HW
      go_wp2_with fail
      go_loopw [8] (fun s8 wt => ∃ (q : Nat) (v : Value) (t : List TASK.Ty) (s' : St), q ≤ m2 ∧ s8 = .int .u64 ((m2 - q : Nat) : Int) ∧ rdMany rdTask q s2 = (t, s') ∧ OS w wt g b s' #[.slice Av k cv, v] ∧ Own wt (b + 1) 67 LIST (.slice Av k cv) l ∧ Own wt (b + 1) 63 TASK v t ∧ (∀ kb, (Value.slice Av k cv).ownBlock = some kb → v.ownBlock ≠ some kb)) (fun s8 _ => (intOf s8).toNat)
      case atStart => exact ⟨0, _, [], s2, by omega, rfl, rfl, O3.out, W3.out, Own.nil _ _ _ _, fun kb _ e => by cases e⟩
      case round =>
        obtain ⟨q, v, t, s4, hq, rfl, hrt2, hO, hOw, hOt, hne⟩ := hrel
        have HO := Lib.hid hO
        have HL := Lib.hid hOw
        have HK := Lib.hid hOt
        have HT2 := Lib.hid hrt2
        have HNE := Lib.hid hne
        have hb2 := hO.2.2.2.2.2.2
        have hl4 : s4.1.length ≤ s2.1.length := by have := rdMany_len rdTask_len q s2; rw [hrt2] at this; exact this.2
        have hlt4 : t.length = q := by have := rdMany_len rdTask_len q s2; rw [hrt2] at this; exact this.1
        clear hO hOw hOt hrt2 hne
        by_cases hlt : q < m2
        · have j0 : (0 : Int) < ((m2 - q : Nat) : Int) := by omega
          obtain ⟨y5, s5, e5⟩ : ∃ n t', rdTask s4 = (n, t') := ⟨_, _, rfl⟩
          have E5 := Lib.hid e5
          have HN2 := Lib.hid (show rdMany rdTask (q + 1) s2 = (t ++ [y5], s5) by rw [rdMany_snoc, HT2.out]; simp only [e5])
          have hvb : ∀ kb, v.ownBlock = some kb → b + 1 ≤ kb := fun kb e => by obtain ⟨xs, ho, _⟩ := HK.out; exact own_base ho kb e
          obtain ⟨Bv, dv, rfl, _⟩ := HK.out.form
          rw [hlt4] at HK HO HNE hvb
          have HLT := Lib.hid hlt4
          have hqm : (q + 1) * 80 ≤ 140737488355328 := by omega
          clear e5 hlt4
          go_wp2_with fail
          refine region_inU 5 (fun W => W.cell? ⟨b, 1, none⟩ = some (.slice Bv q dv)) (by kernel_rfl) (fun x1 hx1 heq => ?_)
          have X1 := Lib.hid (HO.out.below hx1)
          have L1 := Lib.hid (HL.out.below hx1)
          have K1 := Lib.hid (HK.out.below hx1)
          have hHeld := blk_at X1.out.2.2.2.2.1 1 _ rfl
          clear hx1 heq
          first
            | (refine takeT (i := 0) (v := ?_) rfl (by kernel_rfl) (by kernel_rfl) (by kernel_rfl) (fun _ _ _ h => h) (by kernel_rfl) (Or.inl ⟨by rfl, ?_⟩) (fun _ => hHeld) ?_; rotate_left; (focus (intro W hSw; go_simp; (try rfl); done)); (try simp only [Act.put, List.setIfInBounds_toArray, List.set_cons_zero, List.set_cons_succ]))
            | (fail "UTAKE 0")
          first
            | (refine takeU (i := 1) (v := ?_) rfl (by kernel_rfl) (by kernel_rfl) (by kernel_rfl) (fun _ _ _ h => h) (by kernel_rfl) (by kernel_rfl) (by kernel_rfl) (Or.inl ⟨by rfl, ?_⟩) hHeld ?_; rotate_left; (focus (intro W hSw; (try dsimp only at hSw); go_simp; (try rfl); done)); (try simp only [Act.put, List.setIfInBounds_toArray, List.set_cons_zero, List.set_cons_succ]))
            | (fail "UTAKE 1")
          first
            | (refine takeT (i := 2) (v := ?_) rfl (by kernel_rfl) (by kernel_rfl) (by kernel_rfl) (fun _ _ _ h => h) (by kernel_rfl) (Or.inl ⟨by rfl, ?_⟩) (fun _ => hHeld) ?_; rotate_left; (focus (intro W hSw; go_simp; (try rfl); done)); (try simp only [Act.put, List.setIfInBounds_toArray, List.set_cons_zero, List.set_cons_succ]))
            | (fail "UTAKE 2")
          refine callU (i := 3) rfl (by kernel_rfl) (by kernel_rfl) (fun K hK => ?_)
          (try clear hHeld)
          go_simp
          refine (oftask_any x1 g s4 X1.out.1 (by omega)).mono ?_
          rintro e x2 ⟨cs, rfl, hrd, hr, hg⟩
          rw [E5.out] at hrd hr
          have X2 := Lib.hid (X1.out.read hg hr)
          have L2 := Lib.hid (Own.grown L1.out hg (by have := X1.out.2.2.1; omega))
          have K2 := Lib.hid (Own.grown K1.out hg (by have := X1.out.2.2.1; omega))
          have R2 := Lib.hid hrd
          have hcl : cs.length = 7 := hrd.len
          have C2 := blk_at X2.out.2.2.2.2.1 1 _ rfl
          clear hrd hr hg
          have hHeld := C2
          refine hK.out (fun W => W.cell? ⟨b, 1, none⟩ = some (.slice Bv q dv)) _ _ (fun _ => hHeld) (fun _ h => h) ?_
          (try simp only [Act.put, List.setIfInBounds_toArray, List.set_cons_zero, List.set_cons_succ])
          refine callU (i := 4) rfl (by kernel_rfl) (by kernel_rfl) (fun K hK => ?_)
          clear hHeld
          refine wpo_lit1 (cs := cs) (.tmp 39) rfl rfl Try.underlying57 info_task rfl (by decide) (by decide) hcl ?_
          have hb3 := below_alloc1 x2 (.cells cs.toArray 63)
          have X3 := Lib.hid (X2.out.below hb3)
          have L3 := Lib.hid (L2.out.below hb3)
          have K3 := Lib.hid (K2.out.below hb3)
          have C3 := blk_at X3.out.2.2.2.2.1 1 _ rfl
          have AT3 := Lib.hid (At.blk (heap_alloc_new x2 (.cells cs.toArray 63)))
          have R3 := Lib.hid (Own.apart K1.out (Nat.le_refl _) (Nat.succ_le_of_lt X1.out.2.2.2.2.2.2) R2.out hb3)
          have hsz3 : b + 1 ≤ (x2.alloc (.cells cs.toArray 63)).heap.size := X3.out.2.2.2.2.2.2
          clear hb3
          have hHeld := C3
          refine hK.out (fun W => W.cell? ⟨b, 1, none⟩ = some (.slice Bv q dv)) _ _ (fun _ => hHeld) (fun _ h => h) ?_
          (try simp only [Act.put, List.setIfInBounds_toArray, List.set_cons_zero, List.set_cons_succ])
          refine callU (i := 5) rfl (by kernel_rfl) (by kernel_rfl) (fun K hK => ?_)
          clear hHeld
          refine wpo_appO (w0 := x2.alloc (.cells cs.toArray 63)) (m := 1) (S := TASK) (r := [y5]) (ys := cs) (.tmp 37) (.tmp 40) rfl K3.out rfl (fun e => by cases e) (fun ad' e => by cases e; exact AT3.out) (RdL.single R3.out) (Below.refl _ _) Try.underlying57 info_task rfl (by decide) rfl rfl (by rw [bytes_task, HLT.out]; exact hqm) (by rw [HLT.out]; omega) hsz3 ?_
          intro v7 x4 hO7 hb7 hg7 hfr
          have hne7 : ∀ kb, (Value.slice Av k cv).ownBlock = some kb → v7.ownBlock ≠ some kb := by
            intro kb e1 e2
            rcases hfr with h | h
            · exact HNE.out kb e1 (h ▸ e2)
            · have := OwnG.lt L3.out kb e1
              rw [h] at e2
              injection e2 with e2
              omega
          obtain ⟨A7, c7, rfl, _⟩ := hO7.form
          have hl7 : (t ++ [y5]).length = q + 1 := by rw [List.length_append, HLT.out]; rfl
          rw [hl7] at hO7 hne7 ⊢
          clear hl7
          have X4 := Lib.hid (X3.out.app hg7 (fun kb e => hvb kb e))
          have L4 := Lib.hid (Own.lst_grown L3.out hg7 (fun kb e => HNE.out kb e))
          have K4 := Lib.hid hO7
          have NE7 := Lib.hid hne7
          clear hO7 hb7 hg7 hfr hne7
          refine hK.out _ _ _ (offU (by kernel_rfl)) (fun _ h => h) ?_
          (try simp only [Act.put, List.setIfInBounds_toArray, List.set_cons_zero, List.set_cons_succ])
          first
            | (refine takeT (i := 6) (v := ?_) rfl (by kernel_rfl) (by kernel_rfl) (by kernel_rfl) (fun _ _ _ h => h) (by kernel_rfl) (Or.inl ⟨by rfl, ?_⟩) (offU (by kernel_rfl)) ?_; rotate_left; (focus (intro W hSw; go_simp; (try rfl); done)); (try simp only [Act.put, List.setIfInBounds_toArray, List.set_cons_zero, List.set_cons_succ]))
            | (fail "UTAKE 6")
          have cx := blk_at X4.out.2.2.2.2.1 1 _ rfl
          have fx := blk_free X4.out.2.2.2.2.1 1
          have hHeld := trivial
          refine callU (i := 7) rfl (by kernel_rfl) (by kernel_rfl) (fun K hK => ?_)
          (try clear hHeld)
          go_simp
          have X5 := Lib.hid (X4.out.set 1 (.slice A7 (q + 1) c7))
          have L5 := Lib.hid (Own.grown L4.out (grown_set (j := 1) (v := .slice A7 (q + 1) c7) (grown_refl x4 (some b))) (Nat.lt_succ_self b))
          have K5 := Lib.hid (Own.grown K4.out (grown_set (j := 1) (v := .slice A7 (q + 1) c7) (grown_refl x4 (some b))) (Nat.lt_succ_self b))
          refine hK.out _ _ _ (offU (by kernel_rfl)) (fun _ h => h) ?_
          (try simp only [Act.put, List.setIfInBounds_toArray, List.set_cons_zero, List.set_cons_succ])
          refine doneU (by kernel_rfl) ?_ _
          have hnk : IntKind.u64.wrap (((m2 - q : Nat) : Int) - 1) = ((m2 - (q + 1) : Nat) : Int) := by rw [IntKind.wrap_u64]; omega
          go_wp2_with fail
          go_roundw
          case measure => simp [intOf]; omega
          case rel => exact ⟨q + 1, _, _, s5, by omega, congrArg (Value.int IntKind.u64) (by omega), HN2.out, X5.out, L5.out, K5.out, NE7.out⟩
        · obtain rfl : q = m2 := by omega
          obtain ⟨Bv, dv, rfl, _⟩ := HK.out.form
          rw [hlt4] at HK HO
          have HV := Lib.hid (show rdState xs = ((l, t), s4) by unfold rdState; simp only [E1.out, HT.out, E2.out, HT2.out])
          have hr0 := HO.out.2.2.2.1
          have HRL := Lib.hid (show Rows wr anyB LIST Av k l by
            obtain ⟨A', c', hv, _, _, _, hr⟩ := HL.out.form
            injection hv with e1 e2 e3
            rw [← e1, ← e2] at hr
            exact hr.any)
          have HRK := Lib.hid (show Rows wr anyB TASK Bv q t by
            obtain ⟨A', c', hv, _, _, _, hr⟩ := HK.out.form
            injection hv with e1 e2 e3
            rw [← e1, ← e2] at hr
            exact hr.any)
          have HB := Lib.hid HO.out.2.2.2.2.2.1
          go_wp2_with fail
          refine (rEnd_any wr g s4 HO.out.1).mono ?_
          rintro e w5 ⟨rfl, rfl⟩
          by_cases hE : s4.2 = true ∨ s4.1 ≠ []
          · rw [if_pos hE]
            have HBAD := Lib.hid (show (rdState xs).2.2 = true ∨ (rdState xs).2.1 ≠ [] ∨ rightE (rdState xs).1.1 (rdState xs).1.2 ≠ 0 by
              rw [HV.out]
              exact hE.elim .inl (fun h => .inr (.inl h)))
            clear hE
            go_wp2_with (first
              | (refine wpL_store rfl 59 (.tmp 2) (.tmp 51) rfl w.heap.size rfl #[Value.slice none 0 0, Value.slice none 0 0] _ 59 rfl hr0 rfl rfl (by intro v hv; simp at hv; rcases hv with rfl | rfl <;> rfl) ?_
                 intro w6 hw6 hg6))
            refine bodyPost_ret (result_pair rfl _ _ w.heap.size 59 _ (0, 0) _ rfl hw6 Try.underlying59 rfl rfl) rfl ?_
            exact of_bad HBAD.out (below_grown2 HB.out hg6 HB.out.size (Nat.le_refl _))
          · rw [if_neg hE]
            have HE := Lib.hid hE
            clear hE
            go_wp2_with (refine wpG_load (by rfl) 59 (.tmp 5) rfl ⟨b, 0, none⟩ rfl [Value.slice Av k cv, Value.slice Bv q dv] _ (At.blk HO.out.2.2.2.2.1) Try.underlying59 rfl rfl ?_)
            refine (right_any wr Av Bv k cv q dv l t HRL.out HRK.out (by omega) (by omega)).mono ?_
            rintro e w6 ⟨rfl, hw6⟩
            have O6 := Lib.hid (HO.out.below hw6)
            have L6 := Lib.hid (HL.out.below hw6)
            have K6 := Lib.hid (HK.out.below hw6)
            have hr6 := O6.out.2.2.2.1
            have HB6 := Lib.hid O6.out.2.2.2.2.2.1
            clear hw6 hr0
            by_cases hR : rightE l t = 0
            · rw [hR]
              have HRE := Lib.hid hR
              clear hR
              go_wp2_with (first
                | (refine wpL_load rfl 59 (.tmp 5) rfl ⟨b, 0, none⟩ rfl [Value.slice Av k cv, Value.slice Bv q dv] _ (At.blk O6.out.2.2.2.2.1) Try.underlying59 rfl rfl ?_)
                | (refine wpL_store rfl 59 (.tmp 2) (.tmp 52) rfl w.heap.size rfl #[Value.slice Av k cv, Value.slice Bv q dv] _ 59 rfl hr6 rfl rfl (by intro v hv; simp at hv; rcases hv with rfl | rfl <;> rfl) ?_
                   intro w7 hw7 hg7))
              refine bodyPost_ret (result_pair rfl _ _ w.heap.size 59 _ (0, 0) _ rfl hw7 Try.underlying59 rfl rfl) rfl ?_
              exact of_good HV.out HE.out HRE.out O6.out L6.out K6.out hg7
            · have HBAD := Lib.hid (show (rdState xs).2.2 = true ∨ (rdState xs).2.1 ≠ [] ∨ rightE (rdState xs).1.1 (rdState xs).1.2 ≠ 0 by rw [HV.out]; exact .inr (.inr hR))
              obtain ⟨rr, hrr⟩ : ∃ r, rightE l t = r := ⟨_, rfl⟩
              rw [hrr] at hR ⊢
              clear hrr
              go_wp2_with (first
                | (refine wpL_store rfl 59 (.tmp 2) (.tmp 51) rfl w.heap.size rfl #[Value.slice none 0 0, Value.slice none 0 0] _ 59 rfl hr6 rfl rfl (by intro v hv; simp at hv; rcases hv with rfl | rfl <;> rfl) ?_
                   intro w7 hw7 hg7))
              refine bodyPost_ret (result_pair rfl _ _ w.heap.size 59 _ (0, 0) _ rfl hw7 Try.underlying59 rfl rfl) rfl ?_
              exact of_bad HBAD.out (below_grown2 HB6.out hg7 HB6.out.size (Nat.le_refl _))
end Go.Proofs.Ytnolhnlhohpkpaa
namespace Go.Proofs.Ytnolhnlhohpkpaa
open Go.RowKit Cdc
set_option linter.unusedVariables false
set_option linter.unusedSimpArgs false
attribute [local go_sem] run_store_float
/-- A reader at work, the result's box and the state's box. -/
def OSr (w W : World) (g b : Nat) (s : St) (c : Array Value) : Prop :=
  RfAt W w.heap.size g s ∧ w.heap.size < g ∧ g < b ∧ W.heap[w.heap.size]? = some (.cells #[Value.slice none 0 0, Value.slice none 0 0] 59 (0, 0)) ∧ W.heap[b]? = some (.cells c 59 (0, 0)) ∧ Below w.heap.size w W ∧ b < W.heap.size
set_option maxRecDepth 20000 in
theorem OSr.read {w W W' : World} {g b : Nat} {s s' : St} {c : Array Value} (h : OSr w W g b s c) (hg : W.grownBy W' (some g)) (hr : RfAt W' w.heap.size g s') : OSr w W' g b s' c := by
  obtain ⟨h1, h2, h3, h4, h5, h6, h7⟩ := h
  exact ⟨hr, h2, h3, blk_grown h4 hg (by intro e; injection e; omega), blk_grown h5 hg (by intro e; injection e; omega), below_grown2 h6 hg h6.size (by omega), Nat.lt_of_lt_of_le h7 hg.size⟩
set_option maxRecDepth 20000 in
theorem OSr.set {w W : World} {g b : Nat} {s : St} {c : Array Value} (h : OSr w W g b s c) (j : Nat) (v : Value) : OSr w (W.setCell ⟨b, j, none⟩ v) g b s (c.setIfInBounds j v) := by
  obtain ⟨h1, h2, h3, h4, h5, h6, h7⟩ := h
  have h0 : W.grownBy (W.setCell ⟨b, j, none⟩ v) (some b) := grown_set (grown_refl _ _)
  exact ⟨h1.grownO h0 (by omega) (by omega), h2, h3, blk_other h4 j v (by omega), blk_set h5 j v, below_grown2 h6 h0 h6.size (by omega), Nat.lt_of_lt_of_le h7 h0.size⟩
set_option maxRecDepth 20000 in
theorem OSr.below {w W W' : World} {g b : Nat} {s : St} {c : Array Value} (h : OSr w W g b s c) (hb : Below W.heap.size W W') : OSr w W' g b s c := by
  obtain ⟨h1, h2, h3, h4, h5, h6, h7⟩ := h
  exact ⟨h1.below hb, h2, h3, blk_below h4 hb (blk_lt h4), blk_below h5 hb h7, h6.trans (hb.mono h6.size), Nat.lt_of_lt_of_le h7 hb.size⟩
set_option maxRecDepth 20000 in
theorem OSr.app {w W W' : World} {g b : Nat} {s : St} {c : Array Value} {r : Option Nat} (h : OSr w W g b s c) (hg : W.grownBy W' r) (hr : ∀ k, r = some k → b < k) : OSr w W' g b s c := by
  obtain ⟨h1, h2, h3, h4, h5, h6, h7⟩ := h
  have ne : ∀ k, k ≤ b → some k ≠ r := fun k hk e => by have := hr k e.symm; omega
  exact ⟨h1.keep fun k hk hlt => hg.block k hlt (ne k (by rcases hk with hk | hk <;> omega)), h2, h3, blk_grown h4 hg (ne _ (by omega)), blk_grown h5 hg (ne _ (Nat.le_refl _)), h6.grown hg h6.size (fun k e => by have := hr k e; omega), Nat.lt_of_lt_of_le h7 hg.size⟩
set_option maxRecDepth 20000 in
theorem rof_good {w W w' : World} {g b k q : Nat} {Av Bv : Option Addr} {cv dv : Nat} {xs : List UInt8} {s : St} {l : List LIST.Ty} {t : List TASK.Ty} (hv : rdState xs = ((l, t), s)) (h1 : ¬ (s.2 = true ∨ s.1 ≠ [])) (h2 : rightE l t = 0)
    (hO : OSr w W g b s #[.slice Av k cv, .slice Bv q dv]) (hl : Own W (b + 1) 67 LIST (.slice Av k cv) l) (ht : Own W (b + 1) 63 TASK (.slice Bv q dv) t) (hg : W.grownBy w' (some w.heap.size)) : OfPost w xs (.returned (.tuple #[.agg #[.slice Av k cv, .slice Bv q dv], .int .i64 0])) w' := by
  have e : ofState xs = ((l, t), 0) := by
    unfold ofState
    rw [hv]
    exact if_neg (fun h => h.elim (fun h => h1 (.inl h)) (fun h => h.elim (fun h => h1 (.inr h)) (fun h => h h2)))
  unfold OfPost
  rw [e]
  have hlt : w.heap.size < b + 1 := by have := hO.2.1; have := hO.2.2.1; omega
  have f1 := (Own.rd hl).of (w' := w') (ok' := fun kb => w.heap.size ≤ kb) (fun a u hk hc => cell_grown hg hc (by intro e; injection e with e; have h1 : b + 1 ≤ a.block := hk; omega)) (fun kb hk _ => by have h1 : b + 1 ≤ kb := hk; omega)
  have f2 := (Own.rd ht).of (w' := w') (ok' := fun kb => w.heap.size ≤ kb) (fun a u hk hc => cell_grown hg hc (by intro e; injection e with e; have h1 : b + 1 ≤ a.block := hk; omega)) (fun kb hk _ => by have h1 : b + 1 ≤ kb := hk; omega)
  exact ⟨[.slice Av k cv, .slice Bv q dv], rfl, rd_state_mk trivial f1 f2, below_grown2 hO.2.2.2.2.2.1 hg hO.2.2.2.2.2.1.size (Nat.le_refl _)⟩
set_option maxHeartbeats 2000000 in
set_option maxRecDepth 20000 in
theorem rofst_any (w : World) (A : Option Addr) (n c : Nat) (xs : List UInt8) (h : Rd w anyB (.sl .byte) xs [.slice A n c]) (hn : xs.length ≤ 100000)
    (hRight : ∀ (w : World) (A B : Option Addr) (n ca m cb : Nat) (ls : List LIST.Ty) (ts : List TASK.Ty), Rows w anyB LIST A n ls → Rows w anyB TASK B m ts → n ≤ 9223372036854775807 → m ≤ 9223372036854775807 → Calls Try.prog 94 #[.agg #[.slice A n ca, .slice B m cb]] w fun e w' => e = .returned (.int .i64 (rightE ls ts)) ∧ Below w.heap.size w w') :
    Calls Try.prog 49 #[.slice A n c] w (OfPost w xs) := by
  have H := Lib.hid h
  clear h
  go_enter Try.func49, Try.ntmps49
  go_wp2_with fail
  obtain ⟨v1, hv1⟩ : ∃ v, ((w.alloc (.cells #[Value.slice none 0 0, Value.slice none 0 0] 59)).alloc (.cells #[.slice A n c, .bool false] 47)).alloc (.cells #[Value.slice none 0 0, Value.slice none 0 0] 59) = v := ⟨_, rfl⟩
  have O0 := Lib.hid (show OSr w v1 (w.heap.size + 1) (w.heap.size + 2) (xs, false) #[Value.slice none 0 0, Value.slice none 0 0] from by
    rw [← hv1]
    have hB1 := below_alloc1 w (.cells #[Value.slice none 0 0, Value.slice none 0 0] 59)
    have hB2 := hB1.alloc (by simp) (.cells #[.slice A n c, .bool false] 47)
    have hB3 := hB2.alloc (by simp; omega) (.cells #[Value.slice none 0 0, Value.slice none 0 0] 59)
    obtain ⟨A', c', hv, q1, q2, q3, q4⟩ := rd_bs H.out
    injection hv with e1 e2 e3
    subst e1 e2 e3
    have hg2 := blk_alloc (heap_alloc2_new w (.cells #[Value.slice none 0 0, Value.slice none 0 0] 59) (.cells #[.slice A xs.length c, .bool false] 47)) (.cells #[Value.slice none 0 0, Value.slice none 0 0] 59)
    refine ⟨⟨A, c, hg2, q1, q2, q3, q4.below hB3, fun hx ad e => by subst e; exact q4.lt hx, by omega, fun e => by cases e⟩, by omega, by omega, blk_alloc (blk_alloc (heap_alloc_new w _) _) _, ?_, hB3, by simp⟩
    · have := heap_alloc_new ((w.alloc (.cells #[Value.slice none 0 0, Value.slice none 0 0] 59)).alloc (.cells #[.slice A xs.length c, .bool false] 47)) (.cells #[Value.slice none 0 0, Value.slice none 0 0] 59)
      simpa using this)
  rw [hv1]
  obtain ⟨g, hgg⟩ : ∃ g, w.heap.size + 1 = g := ⟨_, rfl⟩
  obtain ⟨b, hb⟩ : ∃ x, g + 1 = x := ⟨_, rfl⟩
  have hb2 : w.heap.size + 2 = b := by omega
  rw [hgg, hb2] at O0
  rw [hgg]
  try rw [hb]
  try rw [hb2]
  clear hv1 hgg hb hb2
  refine (rrN_any v1 w.heap.size g 60 (xs, false) O0.out.1).mono ?_
  rintro e w2 ⟨rfl, hr, hg⟩
  obtain ⟨m, s1, e1⟩ : ∃ n s', rdN 60 (xs, false) = (n, s') := ⟨_, _, rfl⟩
  rw [e1] at hr ⊢
  have hm : m ≤ 60 := by have := rdN_most 60 (xs, false); rw [e1] at this; exact this
  have hs1 : s1.1.length ≤ xs.length := by have := rdN_len 60 (xs, false); rw [e1] at this; exact this
  have E1 := Lib.hid e1
  have O1 := Lib.hid (O0.out.read hg hr)
  clear hr hg e1 O0
  go_wp2_with fail
  go_loopw [7] (fun s7 wr => ∃ (k : Nat) (v : Value) (l : List LIST.Ty) (s' : St), k ≤ m ∧ s7 = .int .u64 (k : Int) ∧ rdMany rdList k s1 = (l, s') ∧ OSr w wr g b s' #[v, .slice none 0 0] ∧ Own wr (b + 1) 67 LIST v l) (fun s7 _ => m - (intOf s7).toNat)
  case atStart => exact ⟨0, _, [], s1, by omega, rfl, rfl, O1.out, Own.nil _ _ _ _⟩
  case round =>
    obtain ⟨k, v, l, s', hk, rfl, hrt, hO, hOw⟩ := hrel
    have HO := Lib.hid hO
    have HW := Lib.hid hOw
    have HT := Lib.hid hrt
    have hb1 := hO.2.2.2.2.2.2
    have hl2 : s'.1.length ≤ s1.1.length := by have := rdMany_len rdList_len k s1; rw [hrt] at this; exact this.2
    have hlk : l.length = k := by have := rdMany_len rdList_len k s1; rw [hrt] at this; exact this.1
    clear hO hOw hrt
    by_cases hlt : k < m
    · have j0 : (k : Int) < (m : Int) := by omega
      obtain ⟨i1, s2, e2⟩ : ∃ n t', rdN FULL s' = (n, t') := ⟨_, _, rfl⟩
      obtain ⟨b3, s3, e3⟩ : ∃ n s', rdB 60 s2 = (n, s') := ⟨_, _, rfl⟩
      have hs2 : s2.1.length ≤ s'.1.length := by have := rdN_len FULL s'; rw [e2] at this; exact this
      have hi1 : i1 < 18446744073709551616 := by have := rdN_lt (most := FULL) (s := s') (by unfold FULL; omega); rw [e2] at this; exact this
      have hb3 : (⟨b3.toArray⟩ : ByteArray).size ≤ 9223372036854775807 := by have := rdB_most 60 s2; rw [e3] at this; show b3.toArray.size ≤ _; simp only [List.size_toArray] at this ⊢; omega
      have HN := Lib.hid (show rdMany rdList (k + 1) s1 = (l ++ [((i1 : Int), ⟨b3.toArray⟩, ())], s3) by rw [rdMany_snoc, HT.out]; unfold rdList; simp only [e2, e3])
      have E2 := Lib.hid e2
      have E3 := Lib.hid e3
      obtain ⟨Av, cv, rfl, _⟩ := HW.out.form
      rw [hlk] at HW HO
      have HLK := Lib.hid hlk
      have hvb : ∀ kb, (Value.slice Av k cv).ownBlock = some kb → b + 1 ≤ kb := fun kb e => by obtain ⟨xs, ho, _⟩ := HW.out; exact own_base ho kb e
      clear e2 e3 hlk
      go_wp2_with fail
      refine (rrN_any wr w.heap.size g 18446744073709551615 s' HO.out.1).mono ?_
      rintro e w3 ⟨rfl, hr, hg⟩
      rw [show rdN 18446744073709551615 s' = _ from E2.out] at hr ⊢
      have O3 := Lib.hid (HO.out.read hg hr)
      have W3 := Lib.hid (Own.grown HW.out hg (by have := HO.out.2.2.1; omega))
      clear hr hg
      go_wp2_with fail
      obtain ⟨v3, hv3⟩ : ∃ v, w3.alloc (.cells #[.int .u64 i1, .string ⟨#[]⟩] 67) = v := ⟨_, rfl⟩
      have hbw := below_alloc1 w3 (.cells #[.int .u64 i1, .string ⟨#[]⟩] 67)
      have hbn := heap_alloc_new w3 (.cells #[.int .u64 i1, .string ⟨#[]⟩] 67)
      rw [hv3] at hbw hbn ⊢
      have O4 := Lib.hid (O3.out.below hbw)
      have W4 := Lib.hid (W3.out.below hbw)
      have hd : b < w3.heap.size := O3.out.2.2.2.2.2.2
      obtain ⟨d, hdd⟩ : ∃ d, w3.heap.size = d := ⟨_, rfl⟩
      rw [hdd] at hbn hd ⊢
      have HD4 := Lib.hid hbn
      have HA4 := Lib.hid hbw
      have hz4 := hbw.size
      have hd3 : w3.heap.size ≤ d := by omega
      clear hv3 hbw hbn hdd
      refine (rrB_any v3 w.heap.size g 60 s2 O4.out.1 (by omega) (by omega)).mono ?_
      rintro e w5 ⟨vD, rfl, hrd, hr, hg⟩
      obtain ⟨Ad, cd, rfl, _, _, _, hbs⟩ := rd_bs hrd
      rw [E3.out] at hr hbs ⊢
      have O5 := Lib.hid (O4.out.read hg hr)
      have W5 := Lib.hid (Own.grown W4.out hg (by have := O4.out.2.2.1; omega))
      have HD5 := Lib.hid (blk_grown HD4.out hg (by intro e; injection e; have := O4.out.2.2.1; omega))
      have HG5 := Lib.hid hg
      have hconv := conv_bs (c := cd) hbs
      have cx := blk_at HD5.out 1 _ rfl
      have fx := blk_free HD5.out 1
      clear hrd hr hg hbs
      have hgs : w5.grownBy (w5.setCell ⟨d, 1, none⟩ (.string ⟨b3.toArray⟩)) (some d) := grown_set (grown_refl _ _)
      have HD6 := Lib.hid (blk_set HD5.out 1 (.string ⟨b3.toArray⟩))
      obtain ⟨v6, hv6⟩ : ∃ v, w5.setCell ⟨d, 1, none⟩ (.string ⟨b3.toArray⟩) = v := ⟨_, rfl⟩
      rw [hv6] at hgs HD6
      have O6 := Lib.hid (O5.out.app hgs (fun k e => by injection e; omega))
      have W6 := Lib.hid (Own.keep W3.out (fun kb h1 h2 => ((hgs.block kb (by have := HG5.out.size; omega) (by intro e; injection e; omega)).trans ((HG5.out.block kb (by omega) (by intro e; injection e; have := O3.out.2.2.1; omega)).trans (HA4.out.block kb h2)))))
      have c6 := blk_at O6.out.2.2.2.2.1 0 _ rfl
      have HG6 := Lib.hid hgs
      have hi2 : ((i1 : Nat) : Int) < 18446744073709551616 := by omega
      have HLO := Lib.hid (show LISTOk ((i1 : Int), (⟨b3.toArray⟩ : ByteArray), ()) from ⟨⟨Int.natCast_nonneg _, hi2⟩, hb3⟩)
      have hkm : (k + 1) * 24 ≤ 140737488355328 := by omega
      have hbs6 : b + 1 ≤ (v6.alloc (.cells [Value.int .u64 (i1 : Int), Value.string ⟨b3.toArray⟩].toArray 67)).heap.size := by rw [show (v6.alloc (.cells [Value.int .u64 (i1 : Int), Value.string ⟨b3.toArray⟩].toArray 67)).heap.size = v6.heap.size + 1 by simp]; have : b < v6.heap.size := O6.out.2.2.2.2.2.2; omega
      have hdv : b < v6.heap.size := O6.out.2.2.2.2.2.2
      clear hgs
      go_wp2_with (first
        | (refine wpL_load rfl 67 (.tmp 8) rfl ⟨d, 0, none⟩ rfl [Value.int .u64 (i1 : Int), Value.string ⟨b3.toArray⟩] _ (At.blk HD6.out) Try.underlying67 rfl rfl ?_)
        | (refine wpL_lit1 rfl (cs := [Value.int .u64 (i1 : Int), Value.string ⟨b3.toArray⟩]) (.tmp 29) rfl rfl Try.underlying56 info_lst rfl (by decide) (by decide) rfl ?_)
        | (at_builtin
           go_loud (refine wp_appO (w0 := v6.alloc (.cells ([Value.int .u64 (i1 : Int), Value.string ⟨b3.toArray⟩]).toArray 67)) (m := 1) (S := LIST) (r := [((i1 : Int), (⟨b3.toArray⟩ : ByteArray), ())]) (ys := [Value.int .u64 (i1 : Int), Value.string ⟨b3.toArray⟩]) rfl (.tmp 28) (.tmp 30) rfl (W6.out.below (below_alloc1 v6 _)) rfl (fun e => by cases e) (fun ad' e => by cases e; exact At.blk (heap_alloc_new v6 _)) (RdL.single (rd_lst_mk HLO.out)) (Below.refl _ _) Try.underlying56 info_lst rfl (by decide) rfl rfl (by rw [bytes_lst, HLK.out]; exact hkm) (by rw [HLK.out]; omega) hbs6 ?_)
           intro v7 w7 hO7 hb7 hg7 _
           obtain ⟨A7, c7, rfl, _⟩ := hO7.form
           have hl7 : (l ++ [((i1 : Int), (⟨b3.toArray⟩ : ByteArray), ())]).length = k + 1 := by rw [List.length_append, HLK.out]; rfl
           rw [hl7] at hO7 ⊢
           clear hl7
           have X7 := Lib.hid ((O6.out.below (below_alloc1 v6 (.cells ([Value.int .u64 (i1 : Int), Value.string ⟨b3.toArray⟩]).toArray 67))).app hg7 (fun kb e => hvb kb e))
           have HO7 := Lib.hid hO7
           clear hO7 hb7 hg7
           have cx7 := blk_at X7.out.2.2.2.2.1 0 _ rfl
           have fx7 := blk_free X7.out.2.2.2.2.1 0))
      have X8 := Lib.hid (X7.out.set 0 (.slice A7 (k + 1) c7))
      have W8 := Lib.hid (Own.grown HO7.out (grown_set (j := 0) (v := .slice A7 (k + 1) c7) (grown_refl w7 (some b))) (Nat.lt_succ_self b))
      have hnk : IntKind.u64.wrap ((k : Int) + 1) = ((k + 1 : Nat) : Int) := by rw [IntKind.wrap_u64]; omega
      go_wp2_with fail
      go_roundw
      case measure => simp [intOf]; omega
      case rel => exact ⟨k + 1, _, _, s3, by omega, by go_num, HN.out, X8.out, W8.out⟩
    · obtain rfl : k = m := by omega
      obtain ⟨m2, s2, e2⟩ : ∃ n t', rdN 60 s' = (n, t') := ⟨_, _, rfl⟩
      have hm2 : m2 ≤ 60 := by have := rdN_most 60 s'; rw [e2] at this; exact this
      have hs2 : s2.1.length ≤ s'.1.length := by have := rdN_len 60 s'; rw [e2] at this; exact this
      have E2 := Lib.hid e2
      obtain ⟨Av, cv, rfl, _⟩ := HW.out.form
      rw [hlk] at HW HO
      have HLK := Lib.hid hlk
      clear e2 hlk
      go_wp2_with fail
      refine (rrN_any wr w.heap.size g 60 s' HO.out.1).mono ?_
      rintro e w3 ⟨rfl, hr, hg⟩
      rw [E2.out] at hr ⊢
      have O3 := Lib.hid (HO.out.read hg hr)
      have W3 := Lib.hid (Own.grown HW.out hg (by have := HO.out.2.2.1; omega))
      clear hr hg HO HW
      go_wp2_with fail
      go_loopw [9] (fun s9 wt => ∃ (q : Nat) (v : Value) (t : List TASK.Ty) (s' : St), q ≤ m2 ∧ s9 = .int .u64 (q : Int) ∧ rdMany rdTask q s2 = (t, s') ∧ OSr w wt g b s' #[.slice Av k cv, v] ∧ Own wt (b + 1) 67 LIST (.slice Av k cv) l ∧ Own wt (b + 1) 63 TASK v t ∧ (∀ kb, (Value.slice Av k cv).ownBlock = some kb → v.ownBlock ≠ some kb)) (fun s9 _ => m2 - (intOf s9).toNat)
      case atStart => exact ⟨0, _, [], s2, by omega, rfl, rfl, O3.out, W3.out, Own.nil _ _ _ _, fun kb _ e => by cases e⟩
      case round =>
        obtain ⟨q, v, t, s4, hq, rfl, hrt2, hO, hOw, hOt, hne⟩ := hrel
        have HO := Lib.hid hO
        have HL := Lib.hid hOw
        have HK := Lib.hid hOt
        have HT2 := Lib.hid hrt2
        have HNE := Lib.hid hne
        have hb2 := hO.2.2.2.2.2.2
        have hl4 : s4.1.length ≤ s2.1.length := by have := rdMany_len rdTask_len q s2; rw [hrt2] at this; exact this.2
        have hlt4 : t.length = q := by have := rdMany_len rdTask_len q s2; rw [hrt2] at this; exact this.1
        clear hO hOw hOt hrt2 hne
        by_cases hlt : q < m2
        · have j0 : (q : Int) < (m2 : Int) := by omega
          obtain ⟨y5, s5, e5⟩ : ∃ n t', rdTask s4 = (n, t') := ⟨_, _, rfl⟩
          have E5 := Lib.hid e5
          have HN2 := Lib.hid (show rdMany rdTask (q + 1) s2 = (t ++ [y5], s5) by rw [rdMany_snoc, HT2.out]; simp only [e5])
          have hvb : ∀ kb, v.ownBlock = some kb → b + 1 ≤ kb := fun kb e => by obtain ⟨xs, ho, _⟩ := HK.out; exact own_base ho kb e
          obtain ⟨Bv, dv, rfl, _⟩ := HK.out.form
          rw [hlt4] at HK HO HNE hvb
          have HLT := Lib.hid hlt4
          have hqm : (q + 1) * 80 ≤ 140737488355328 := by omega
          clear e5 hlt4
          go_wp2_with fail
          refine region_inU 5 (fun W => W.cell? ⟨b, 1, none⟩ = some (.slice Bv q dv)) (by kernel_rfl) (fun x1 hx1 heq => ?_)
          have X1 := Lib.hid (HO.out.below hx1)
          have L1 := Lib.hid (HL.out.below hx1)
          have K1 := Lib.hid (HK.out.below hx1)
          have hHeld := blk_at X1.out.2.2.2.2.1 1 _ rfl
          clear hx1 heq
          first
            | (refine takeT (i := 0) (v := ?_) rfl (by kernel_rfl) (by kernel_rfl) (by kernel_rfl) (fun _ _ _ h => h) (by kernel_rfl) (Or.inl ⟨by rfl, ?_⟩) (fun _ => hHeld) ?_; rotate_left; (focus (intro W hSw; go_simp; (try rfl); done)); (try simp only [Act.put, List.setIfInBounds_toArray, List.set_cons_zero, List.set_cons_succ]))
            | (fail "UTAKE 0")
          first
            | (refine takeU (i := 1) (v := ?_) rfl (by kernel_rfl) (by kernel_rfl) (by kernel_rfl) (fun _ _ _ h => h) (by kernel_rfl) (by kernel_rfl) (by kernel_rfl) (Or.inl ⟨by rfl, ?_⟩) hHeld ?_; rotate_left; (focus (intro W hSw; (try dsimp only at hSw); go_simp; (try rfl); done)); (try simp only [Act.put, List.setIfInBounds_toArray, List.set_cons_zero, List.set_cons_succ]))
            | (fail "UTAKE 1")
          first
            | (refine takeT (i := 2) (v := ?_) rfl (by kernel_rfl) (by kernel_rfl) (by kernel_rfl) (fun _ _ _ h => h) (by kernel_rfl) (Or.inl ⟨by rfl, ?_⟩) (fun _ => hHeld) ?_; rotate_left; (focus (intro W hSw; go_simp; (try rfl); done)); (try simp only [Act.put, List.setIfInBounds_toArray, List.set_cons_zero, List.set_cons_succ]))
            | (fail "UTAKE 2")
          refine callU (i := 3) rfl (by kernel_rfl) (by kernel_rfl) (fun K hK => ?_)
          (try clear hHeld)
          go_simp
          refine (taskof_any x1 w.heap.size g s4 X1.out.1 (by omega)).mono ?_
          rintro e x2 ⟨cs, rfl, hrd, hr, hg⟩
          rw [E5.out] at hrd hr
          have X2 := Lib.hid (X1.out.read hg hr)
          have L2 := Lib.hid (Own.grown L1.out hg (by have := X1.out.2.2.1; omega))
          have K2 := Lib.hid (Own.grown K1.out hg (by have := X1.out.2.2.1; omega))
          have R2 := Lib.hid hrd
          have hcl : cs.length = 7 := hrd.len
          have C2 := blk_at X2.out.2.2.2.2.1 1 _ rfl
          clear hrd hr hg
          have hHeld := C2
          refine hK.out (fun W => W.cell? ⟨b, 1, none⟩ = some (.slice Bv q dv)) _ _ (fun _ => hHeld) (fun _ h => h) ?_
          (try simp only [Act.put, List.setIfInBounds_toArray, List.set_cons_zero, List.set_cons_succ])
          refine callU (i := 4) rfl (by kernel_rfl) (by kernel_rfl) (fun K hK => ?_)
          clear hHeld
          refine wpo_lit1 (cs := cs) (.tmp 43) rfl rfl Try.underlying57 info_task rfl (by decide) (by decide) hcl ?_
          have hb3 := below_alloc1 x2 (.cells cs.toArray 63)
          have X3 := Lib.hid (X2.out.below hb3)
          have L3 := Lib.hid (L2.out.below hb3)
          have K3 := Lib.hid (K2.out.below hb3)
          have C3 := blk_at X3.out.2.2.2.2.1 1 _ rfl
          have AT3 := Lib.hid (At.blk (heap_alloc_new x2 (.cells cs.toArray 63)))
          have R3 := Lib.hid (Own.apart K1.out (Nat.le_refl _) (Nat.succ_le_of_lt X1.out.2.2.2.2.2.2) R2.out hb3)
          have hsz3 : b + 1 ≤ (x2.alloc (.cells cs.toArray 63)).heap.size := X3.out.2.2.2.2.2.2
          clear hb3
          have hHeld := C3
          refine hK.out (fun W => W.cell? ⟨b, 1, none⟩ = some (.slice Bv q dv)) _ _ (fun _ => hHeld) (fun _ h => h) ?_
          (try simp only [Act.put, List.setIfInBounds_toArray, List.set_cons_zero, List.set_cons_succ])
          refine callU (i := 5) rfl (by kernel_rfl) (by kernel_rfl) (fun K hK => ?_)
          clear hHeld
          refine wpo_appO (w0 := x2.alloc (.cells cs.toArray 63)) (m := 1) (S := TASK) (r := [y5]) (ys := cs) (.tmp 41) (.tmp 44) rfl K3.out rfl (fun e => by cases e) (fun ad' e => by cases e; exact AT3.out) (RdL.single R3.out) (Below.refl _ _) Try.underlying57 info_task rfl (by decide) rfl rfl (by rw [bytes_task, HLT.out]; exact hqm) (by rw [HLT.out]; omega) hsz3 ?_
          intro v7 x4 hO7 hb7 hg7 hfr
          have hne7 : ∀ kb, (Value.slice Av k cv).ownBlock = some kb → v7.ownBlock ≠ some kb := by
            intro kb e1 e2
            rcases hfr with h | h
            · exact HNE.out kb e1 (h ▸ e2)
            · have := OwnG.lt L3.out kb e1
              rw [h] at e2
              injection e2 with e2
              omega
          obtain ⟨A7, c7, rfl, _⟩ := hO7.form
          have hl7 : (t ++ [y5]).length = q + 1 := by rw [List.length_append, HLT.out]; rfl
          rw [hl7] at hO7 hne7 ⊢
          clear hl7
          have X4 := Lib.hid (X3.out.app hg7 (fun kb e => hvb kb e))
          have L4 := Lib.hid (Own.lst_grown L3.out hg7 (fun kb e => HNE.out kb e))
          have K4 := Lib.hid hO7
          have NE7 := Lib.hid hne7
          clear hO7 hb7 hg7 hfr hne7
          refine hK.out _ _ _ (offU (by kernel_rfl)) (fun _ h => h) ?_
          (try simp only [Act.put, List.setIfInBounds_toArray, List.set_cons_zero, List.set_cons_succ])
          first
            | (refine takeT (i := 6) (v := ?_) rfl (by kernel_rfl) (by kernel_rfl) (by kernel_rfl) (fun _ _ _ h => h) (by kernel_rfl) (Or.inl ⟨by rfl, ?_⟩) (offU (by kernel_rfl)) ?_; rotate_left; (focus (intro W hSw; go_simp; (try rfl); done)); (try simp only [Act.put, List.setIfInBounds_toArray, List.set_cons_zero, List.set_cons_succ]))
            | (fail "UTAKE 6")
          have cx := blk_at X4.out.2.2.2.2.1 1 _ rfl
          have fx := blk_free X4.out.2.2.2.2.1 1
          have hHeld := trivial
          refine callU (i := 7) rfl (by kernel_rfl) (by kernel_rfl) (fun K hK => ?_)
          (try clear hHeld)
          go_simp
          have X5 := Lib.hid (X4.out.set 1 (.slice A7 (q + 1) c7))
          have L5 := Lib.hid (Own.grown L4.out (grown_set (j := 1) (v := .slice A7 (q + 1) c7) (grown_refl x4 (some b))) (Nat.lt_succ_self b))
          have K5 := Lib.hid (Own.grown K4.out (grown_set (j := 1) (v := .slice A7 (q + 1) c7) (grown_refl x4 (some b))) (Nat.lt_succ_self b))
          refine hK.out _ _ _ (offU (by kernel_rfl)) (fun _ h => h) ?_
          (try simp only [Act.put, List.setIfInBounds_toArray, List.set_cons_zero, List.set_cons_succ])
          refine doneU (by kernel_rfl) ?_ _
          have hnk : IntKind.u64.wrap ((q : Int) + 1) = ((q + 1 : Nat) : Int) := by rw [IntKind.wrap_u64]; omega
          go_wp2_with fail
          go_roundw
          case measure => simp [intOf]; omega
          case rel => exact ⟨q + 1, _, _, s5, by omega, by go_num, HN2.out, X5.out, L5.out, K5.out, NE7.out⟩
        · obtain rfl : q = m2 := by omega
          obtain ⟨Bv, dv, rfl, _⟩ := HK.out.form
          rw [hlt4] at HK HO
          have HV := Lib.hid (show rdState xs = ((l, t), s4) by unfold rdState; simp only [E1.out, HT.out, E2.out, HT2.out])
          have hr0 := HO.out.2.2.2.1
          have HRL := Lib.hid (show Rows wr anyB LIST Av k l by
            obtain ⟨A', c', hv, _, _, _, hr⟩ := HL.out.form
            injection hv with e1 e2 e3
            rw [← e1, ← e2] at hr
            exact hr.any)
          have HRK := Lib.hid (show Rows wr anyB TASK Bv q t by
            obtain ⟨A', c', hv, _, _, _, hr⟩ := HK.out.form
            injection hv with e1 e2 e3
            rw [← e1, ← e2] at hr
            exact hr.any)
          have HB := Lib.hid HO.out.2.2.2.2.2.1
          go_wp2_with fail
          refine (rrEnd_any wr w.heap.size g s4 HO.out.1).mono ?_
          rintro e w5 ⟨rfl, rfl⟩
          by_cases hE : s4.2 = true ∨ s4.1 ≠ []
          · rw [if_pos hE]
            have HBAD := Lib.hid (show (rdState xs).2.2 = true ∨ (rdState xs).2.1 ≠ [] ∨ rightE (rdState xs).1.1 (rdState xs).1.2 ≠ 0 by
              rw [HV.out]
              exact hE.elim .inl (fun h => .inr (.inl h)))
            clear hE
            go_wp2_with (first
              | (refine wpL_store rfl 59 (.tmp 2) (.tmp 55) rfl w.heap.size rfl #[Value.slice none 0 0, Value.slice none 0 0] _ 59 rfl hr0 rfl rfl (by intro v hv; simp at hv; rcases hv with rfl | rfl <;> rfl) ?_
                 intro w6 hw6 hg6))
            refine bodyPost_ret (result_pair rfl _ _ w.heap.size 59 _ (0, 0) _ rfl hw6 Try.underlying59 rfl rfl) rfl ?_
            exact of_bad HBAD.out (below_grown2 HB.out hg6 HB.out.size (Nat.le_refl _))
          · rw [if_neg hE]
            have HE := Lib.hid hE
            clear hE
            go_wp2_with (refine wpG_load (by rfl) 59 (.tmp 5) rfl ⟨b, 0, none⟩ rfl [Value.slice Av k cv, Value.slice Bv q dv] _ (At.blk HO.out.2.2.2.2.1) Try.underlying59 rfl rfl ?_)
            refine (hRight wr Av Bv k cv q dv l t HRL.out HRK.out (by omega) (by omega)).mono ?_
            rintro e w6 ⟨rfl, hw6⟩
            have O6 := Lib.hid (HO.out.below hw6)
            have L6 := Lib.hid (HL.out.below hw6)
            have K6 := Lib.hid (HK.out.below hw6)
            have hr6 := O6.out.2.2.2.1
            have HB6 := Lib.hid O6.out.2.2.2.2.2.1
            clear hw6 hr0
            by_cases hR : rightE l t = 0
            · rw [hR]
              have HRE := Lib.hid hR
              clear hR
              go_wp2_with (first
                | (refine wpL_load rfl 59 (.tmp 5) rfl ⟨b, 0, none⟩ rfl [Value.slice Av k cv, Value.slice Bv q dv] _ (At.blk O6.out.2.2.2.2.1) Try.underlying59 rfl rfl ?_)
                | (refine wpL_store rfl 59 (.tmp 2) (.tmp 56) rfl w.heap.size rfl #[Value.slice Av k cv, Value.slice Bv q dv] _ 59 rfl hr6 rfl rfl (by intro v hv; simp at hv; rcases hv with rfl | rfl <;> rfl) ?_
                   intro w7 hw7 hg7))
              refine bodyPost_ret (result_pair rfl _ _ w.heap.size 59 _ (0, 0) _ rfl hw7 Try.underlying59 rfl rfl) rfl ?_
              exact rof_good HV.out HE.out HRE.out O6.out L6.out K6.out hg7
            · have HBAD := Lib.hid (show (rdState xs).2.2 = true ∨ (rdState xs).2.1 ≠ [] ∨ rightE (rdState xs).1.1 (rdState xs).1.2 ≠ 0 by rw [HV.out]; exact .inr (.inr hR))
              obtain ⟨rr, hrr⟩ : ∃ r, rightE l t = r := ⟨_, rfl⟩
              rw [hrr] at hR ⊢
              clear hrr
              go_wp2_with (first
                | (refine wpL_store rfl 59 (.tmp 2) (.tmp 55) rfl w.heap.size rfl #[Value.slice none 0 0, Value.slice none 0 0] _ 59 rfl hr6 rfl rfl (by intro v hv; simp at hv; rcases hv with rfl | rfl <;> rfl) ?_
                   intro w7 hw7 hg7))
              refine bodyPost_ret (result_pair rfl _ _ w.heap.size 59 _ (0, 0) _ rfl hw7 Try.underlying59 rfl rfl) rfl ?_
              exact of_bad HBAD.out (below_grown2 HB6.out hg7 HB6.out.size (Nat.le_refl _))
end Go.Proofs.Ytnolhnlhohpkpaa
namespace Go.Proofs.Ytnolhnlhohpkpaa
open Go.RowKit Cdc
set_option linter.unusedVariables false
set_option linter.unusedSimpArgs false
/-! What a state that is right is: plain. -/
theorem can_back {f : Nat} (h : f < 18446744073709551616) (hc : canB f = true) : keyN f < 18446744073709551616 ∧ ofN (keyN f) = (f, true) := by
  have hr := keyV_range f h
  have h2 := of_key h
  have e : rcanF f = f := by
    have h1 := can_same h
    unfold canB at hc
    have h3 := eq_of_beq hc
    unfold ubits at h3
    rw [← h1]; omega
  refine ⟨by rw [keyN, keyF_eq h]; omega, ?_⟩
  show ofF (((keyF f).toNat : Nat) : Int) = _
  rw [show (((keyF f).toNat : Nat) : Int) = keyF f by rw [keyF_eq h]; omega, h2, e]
theorem rcan_bits {f : Nat} (h : f < 18446744073709551616) : (ubits f == ubits (rcanF f)) = canB f := by
  unfold canB
  rw [can_same h, Bool.beq_comm]
theorem tgE_ok : ∀ {l : List ByteArray} {p : Option ByteArray}, tgE p l = 0 → ∀ x ∈ l, x.size ≤ 16
  | [], _, _ => fun x hx => by cases hx
  | y :: l, p, h => by
    unfold tgE at h
    split at h
    · cases h
    · rename_i hc
      intro x hx
      rcases List.mem_cons.1 hx with rfl | hx
      · by_cases ht : tagB x = false
        · exact absurd (.inl ht) hc
        · have : tagB x = true := by simpa using ht
          unfold tagB at this
          simp only [Bool.and_eq_true, decide_eq_true_eq] at this
          exact this.1.2
      · exact tgE_ok h x hx
theorem titleB_le {t : ByteArray} (h : ¬ titleB t = false) : t.size ≤ 60 := by
  have : titleB t = true := by simpa using h
  unfold titleB at this
  simp only [Bool.and_eq_true, decide_eq_true_eq] at this
  exact this.1.2
theorem lsE_ok : ∀ {l : List LIST.Ty} {a : Int}, lsE a l = 0 → ∀ x ∈ l, x.2.1.size ≤ 60
  | [], _, _ => fun x hx => by cases hx
  | y :: l, a, h => by
    unfold lsE at h
    split at h
    · cases h
    split at h
    · cases h
    · rename_i _ ht
      intro x hx
      rcases List.mem_cons.1 hx with rfl | hx
      · exact titleB_le ht
      · exact lsE_ok h x hx
theorem oneE_ok {ls : List LIST.Ty} {t : TASK.Ty} (hok : 0 ≤ t.1 ∧ t.1 < 18446744073709551616) (hl : 0 ≤ t.2.1 ∧ t.2.1 < 18446744073709551616) (hr : t.2.2.2.2.1 < 18446744073709551616) (he : t.2.2.2.2.2.1 < 18446744073709551616) (h : oneE ls t = 0) : BackT t := by
  unfold oneE at h
  split at h
  · cases h
  split at h
  · cases h
  rename_i _ ht
  split at h
  · cases h
  rename_i hn
  split at h
  · cases h
  rename_i hc
  unfold tagsE at h
  split at h
  · cases h
  rename_i h4
  have hx := tgE_ok h
  exact ⟨hok, hl, titleB_le ht, can_back hr (by cases hq : canB t.2.2.2.2.1 with | true => rfl | false => exact absurd (.inr hq) hn), can_back he (by simpa using hc), by omega, fun x hx' => by have := hx x hx'; omega⟩
theorem tsE_ok {ls : List LIST.Ty} : ∀ {l : List TASK.Ty} {a : Int}, tsE ls a l = 0 → ∀ t ∈ l, oneE ls t = 0
  | [], _, _ => fun x hx => by cases hx
  | y :: l, a, h => by
    unfold tsE at h
    split at h
    · cases h
    split at h
    · rename_i hne; exact absurd h hne
    · rename_i he
      intro x hx
      rcases List.mem_cons.1 hx with rfl | hx
      · exact Decidable.not_not.1 he
      · exact tsE_ok h x hx
theorem right_le {ls : List LIST.Ty} {ts : List TASK.Ty} (h : rightE ls ts = 0) : ls.length ≤ 20 ∧ ts.length ≤ 60 ∧ lsE 0 ls = 0 ∧ tsE ls 0 ts = 0 := by
  unfold rightE at h
  split at h
  · cases h
  rename_i h1
  split at h
  · rename_i h2; exact absurd h h2
  · rename_i h2
    exact ⟨by omega, by omega, Decidable.not_not.1 h2, h⟩
theorem right_back {ls : List LIST.Ty} {ts : List TASK.Ty} (hl : ∀ x ∈ ls, LISTOk x) (ht : ∀ t ∈ ts, TASKOk t) (h : rightE ls ts = 0) : rdState (encState ls ts) = ((ls, ts), [], false) := by
  obtain ⟨h1, h2, h3, h4⟩ := right_le h
  refine rdState_enc (by omega) h2 (fun x hx => ?_) (fun t ht' => ?_)
  · obtain ⟨i, s, _⟩ := x
    exact ⟨(hl _ hx).1, lsE_ok h3 _ hx⟩
  · have h5 := tsE_ok h4 t ht'
    have h6 := ht t ht'
    obtain ⟨i, l, s, d, f, e, g, _⟩ := t
    obtain ⟨o1, o2, o3, o4, o5⟩ := h6
    exact oneE_ok o1 o2 o4 o5 h5
/-- A state that is right is told again of its bytes. -/
theorem of_enc {ls : List LIST.Ty} {ts : List TASK.Ty} (hl : ∀ x ∈ ls, LISTOk x) (ht : ∀ t ∈ ts, TASKOk t) (h : rightE ls ts = 0) : ofState (encState ls ts) = ((ls, ts), 0) := by
  unfold ofState
  rw [right_back hl ht h, if_neg (by simp [h])]
theorem encTask_same {x y : TASK.Ty} (hx : TASKOk x) (hy : TASKOk y) (h : SameT x y) : encTask x = encTask y := by
  obtain ⟨i, l, s, d, f, e, g, _⟩ := x
  obtain ⟨i2, l2, s2, d2, f2, e2, g2, _⟩ := y
  obtain ⟨rfl, rfl, rfl, rfl, hf, he, rfl⟩ := h
  obtain ⟨_, _, _, o4, o5⟩ := hx
  obtain ⟨_, _, _, p4, p5⟩ := hy
  simp only at hf he
  unfold encTask
  simp only [keyN, keyF_eq o4, keyF_eq o5, keyF_eq p4, keyF_eq p5, hf, he]
theorem encTasks_same : ∀ {l m : List TASK.Ty}, (∀ x ∈ l, TASKOk x) → (∀ x ∈ m, TASKOk x) → SameTs l m → l.flatMap encTask = m.flatMap encTask
  | [], [], _, _, _ => rfl
  | [], y :: m, _, _, h => by have := h.1; simp at this
  | x :: l, [], _, _, h => by have := h.1; simp at this
  | x :: l, y :: m, hl, hm, h => by
    have h0 := h.2 0 x y rfl rfl
    have h1 := encTask_same (hl x List.mem_cons_self) (hm y List.mem_cons_self) h0
    have h2 : SameTs l m := ⟨by have := h.1; simpa using this, fun j a b ha hb => h.2 (j + 1) a b ha hb⟩
    have h3 := encTasks_same (fun z hz => hl z (List.mem_cons_of_mem _ hz)) (fun z hz => hm z (List.mem_cons_of_mem _ hz)) h2
    simp only [List.flatMap_cons, h1, h3]
/-- States that are right have the same bytes when they are alike, and only then. -/
theorem enc_iff {ls lo : List LIST.Ty} {ts tq : List TASK.Ty} (hl : ∀ x ∈ ls, LISTOk x) (ht : ∀ t ∈ ts, TASKOk t) (hlo : ∀ x ∈ lo, LISTOk x) (hto : ∀ t ∈ tq, TASKOk t) (h : rightE ls ts = 0) (h2 : rightE lo tq = 0) :
    encState ls ts = encState lo tq ↔ SameS (ls, ts, ()) (lo, tq, ()) := by
  constructor
  · intro e
    have h3 := right_back hl ht h
    rw [e, right_back hlo hto h2] at h3
    injection h3 with h3 _
    injection h3 with h3 h4
    subst h3 h4
    exact SameS.refl _
  · rintro ⟨h3, h4⟩
    simp only at h3 h4
    subst h3
    unfold encState
    rw [encTasks_same ht hto h4, h4.1]
end Go.Proofs.Ytnolhnlhohpkpaa
namespace Go.Proofs.Ytnolhnlhohpkpaa
open Go.RowKit Cdc
set_option linter.unusedVariables false
set_option linter.unusedSimpArgs false
attribute [local go_sem] run_store_float
attribute [local go_sem high] run_eq_list run_neq_list
set_option maxHeartbeats 4000000 in
set_option maxRecDepth 20000 in
theorem x_TaskPuts (ls : List LIST.Ty) (ts : List TASK.Ty) (A B b : Option Addr) (n ca m cb nb cbb : Nat) (xs : List UInt8) (w : World)
    (hs : Rd w anyB STATE (ls, ts, ()) [.slice A n ca, .slice B m cb]) (hbs : Rd w anyB (.sl .byte) xs [.slice b nb cbb]) (hRight : ∀ (w : World) (A B : Option Addr) (n ca m cb : Nat) (ls : List LIST.Ty) (ts : List TASK.Ty), Rows w anyB LIST A n ls → Rows w anyB TASK B m ts → n ≤ 9223372036854775807 → m ≤ 9223372036854775807 → Calls Try.prog 94 #[.agg #[.slice A n ca, .slice B m cb]] w fun e w' => e = .returned (.int .i64 (rightE ls ts)) ∧ Below w.heap.size w w') :
    Calls Try.prog 8 #[.agg #[Value.slice A n ca, Value.slice B m cb], .slice b nb cbb] w fun e w' => e = .returned (.bool true) ∧ Below w.heap.size w w' := by
  obtain ⟨ls', ts', A', ca', B', cb', e1, e2, _, h1, h2⟩ := rd_state hs
  obtain ⟨rfl, rfl⟩ : ls = ls' ∧ ts = ts' := by simpa using e1
  have hn := rd_rowsN h1
  have hm := rd_rowsN h2
  obtain ⟨⟨rfl, rfl, rfl⟩, rfl, rfl, rfl⟩ : (A = A' ∧ n = ls.length ∧ ca = ca') ∧ B = B' ∧ m = ts.length ∧ cb = cb' := by simpa using e2
  obtain ⟨n, hln⟩ : ∃ n, ls.length = n := ⟨_, rfl⟩
  obtain ⟨m, hlm⟩ : ∃ n, ts.length = n := ⟨_, rfl⟩
  rw [hln] at hn ⊢
  rw [hlm] at hm ⊢
  have HA := Lib.hid hn.2.2.2
  have HBr := Lib.hid hm.2.2.2
  have HXS := Lib.hid hbs
  have bn : n ≤ 9223372036854775807 := by omega
  have bm : m ≤ 9223372036854775807 := by omega
  have HNB := Lib.hid (rd_rows hbs).1
  have HR := Lib.hid hRight
  clear hs hbs h1 h2 hn hm e1 e2 hln hlm hRight
  have hp := heap_alloc_new w (.cells #[Value.slice A n ca, Value.slice B m cb] 59)
  have hw := below_alloc1 w (.cells #[Value.slice A n ca, Value.slice B m cb] 59)
  go_enter Try.func8, Try.ntmps8
  obtain ⟨v0, hv0⟩ : ∃ v0, w.alloc (.cells #[Value.slice A n ca, Value.slice B m cb] 59) = v0 := ⟨_, rfl⟩
  rw [hv0] at hp hw
  have HS := Lib.hid (At.blk hp)
  have HW := Lib.hid hw
  clear hp hw
  go_wp2_with fail
  refine (tsk_awake v0).mono ?_
  rintro e v1 ⟨rfl, hb⟩
  have HB1 := Lib.hid hb
  clear hb
  go_wp2_with (refine wpL_load rfl 59 _ rfl ⟨w.heap.size, 0, none⟩ rfl _ _ (HS.out.below HB1.out) Try.underlying59 rfl rfl ?_)
  refine (light_any v1 A B n ca m cb ls ts (HA.out.below (HW.out.trans (HB1.out.mono HW.out.size))) (HBr.out.below (HW.out.trans (HB1.out.mono HW.out.size))) bn bm).mono ?_
  rintro e v2 ⟨q, rfl, hq, hb2⟩
  have HB2 := Lib.hid (HB1.out.trans (hb2.mono HB1.out.size))
  cases q with
  | false =>
    clear hq hb2
    go_wp2_with fail
    go_ret
    exact ⟨rfl, HW.out.trans (HB2.out.mono HW.out.size)⟩
  | true =>
  have HL1 := Lib.hid (hq rfl)
  clear hq hb2
  by_cases h2000 : (2000 : Int) < (nb : Nat)
  · go_wp2_with fail
    go_ret
    exact ⟨rfl, HW.out.trans (HB2.out.mono HW.out.size)⟩
  have hnb : xs.length ≤ 100000 := by have := HNB.out; omega
  have HX2 := Lib.hid (HW.out.trans (HB2.out.mono HW.out.size))
  go_wp2_with fail
  refine (ofst_any v2 b nb cbb xs (HXS.out.below HX2.out) hnb).mono ?_
  rintro e v3 ⟨cs, rfl, hr3, hb3⟩
  obtain ⟨ls2, ts2, A2, ca2, B2, cb2, e1, rfl, _, h1, h2⟩ := rd_state hr3
  have HE1 := Lib.hid e1
  have HR1 := Lib.hid (And.intro h1 h2)
  obtain ⟨er, her⟩ : ∃ er, (ofState xs).2 = er := ⟨_, rfl⟩
  rw [her]
  have HB3 := Lib.hid (HB2.out.trans (hb3.mono HB2.out.size))
  have HB3a := Lib.hid (HB3.out.trans ((below_alloc1 v3 (.cells #[Value.slice A2 ls2.length ca2, Value.slice B2 ts2.length cb2] 59)).mono HB3.out.size))
  have HT1 := Lib.hid (At.blk (heap_alloc_new v3 (.cells #[Value.slice A2 ls2.length ca2, Value.slice B2 ts2.length cb2] 59)))
  have HX3 := Lib.hid (HW.out.trans (HB3a.out.mono HW.out.size))
  clear hr3 hb3 h1 h2 e1
  go_wp2_with fail
  refine (rofst_any _ b nb cbb xs (HXS.out.below HX3.out) hnb HR.out).mono ?_
  rintro e v4 ⟨cs, rfl, hr4, hb4⟩
  obtain ⟨ls3, ts3, A3, ca3, B3, cb3, e1, rfl, _, h1, h2⟩ := rd_state hr4
  have HE2 := Lib.hid e1
  rw [HE1.out] at e1
  obtain ⟨rfl, rfl⟩ : ls2 = ls3 ∧ ts2 = ts3 := by simpa using e1
  have HR2 := Lib.hid (And.intro h1 h2)
  rw [her]
  have HB4 := Lib.hid (HB3a.out.trans (hb4.mono HB3a.out.size))
  have HC4 := Lib.hid hb4
  have HT2 := Lib.hid (At.blk (heap_alloc_new v4 (.cells #[Value.slice A3 ls2.length ca3, Value.slice B3 ts2.length cb3] 59)))
  clear hr4 hb4 h1 h2 e1 her
  obtain ⟨v5, hv5⟩ : ∃ v5, v4.alloc (.cells #[Value.slice A3 ls2.length ca3, Value.slice B3 ts2.length cb3] 59) = v5 := ⟨_, rfl⟩
  have hb45 := below_alloc1 v4 (.cells #[Value.slice A3 ls2.length ca3, Value.slice B3 ts2.length cb3] 59)
  rw [hv5] at HT2 hb45
  have HB5 := Lib.hid (HB4.out.trans (hb45.mono HB4.out.size))
  have h3a5 := HC4.out.trans (hb45.mono HC4.out.size)
  have HU1 := Lib.hid (HT1.out.below h3a5)
  have HR1' := Lib.hid (And.intro (HR1.out.1.any.below ((below_alloc1 v3 (.cells #[Value.slice A2 ls2.length ca2, Value.slice B2 ts2.length cb2] 59)).trans (h3a5.mono (by simp)))) (HR1.out.2.any.below ((below_alloc1 v3 (.cells #[Value.slice A2 ls2.length ca2, Value.slice B2 ts2.length cb2] 59)).trans (h3a5.mono (by simp)))))
  have HR2' := Lib.hid (And.intro (HR2.out.1.any.below hb45) (HR2.out.2.any.below hb45))
  clear hb45 h3a5 HT1 HR1 HR2 HE1 HE2
  go_wp2_with fail
  refine region_in (by kernel_rfl) (fun v9 h59 => ?_)
  have HB9 := Lib.hid (HB5.out.trans (h59.mono HB5.out.size))
  have HX9 := Lib.hid (HW.out.trans (HB9.out.mono HW.out.size))
  refine take_in (i := 0) (v := _) rfl (by kernel_rfl) (by kernel_rfl) (by kernel_rfl) (fun _ _ _ h => h) (yields_load (by rfl) _ _ rfl _ rfl _ _ (fun W hW => (HS.out.below HB9.out).below hW) Try.underlying59 rfl rfl) (Below.refl _ _) ?_
  (try simp only [Act.put, List.setIfInBounds_toArray, List.set_cons_zero, List.set_cons_succ])
  refine take_in (i := 3) (v := _) rfl (by kernel_rfl) (by kernel_rfl) (by kernel_rfl) (fun _ _ _ h => h) (yields_load (by rfl) _ _ rfl _ rfl _ _ (fun W hW => (HS.out.below HB9.out).below hW) Try.underlying59 rfl rfl) (Below.refl _ _) ?_
  (try simp only [Act.put, List.setIfInBounds_toArray, List.set_cons_zero, List.set_cons_succ])
  refine call_in (i := 1) rfl (by kernel_rfl) (by kernel_rfl) (fun K hK => ?_)
  go_simp
  refine (put_state v9 A B n ca m cb ls ts (HA.out.below HX9.out) (HBr.out.below HX9.out) HL1.out).mono ?_
  rintro e v10 ⟨z6, rfl, hr6, h910⟩
  obtain ⟨A6, c6, rfl, _, _, _, hbs6⟩ := rd_bs hr6
  have C6 : ∀ W, Below v10.heap.size v10 W → (convert 23 9 (.slice A6 (encState ls ts).length c6)).run Try.prog W = .ok (.string ⟨(encState ls ts).toArray⟩) W := fun W hW => conv_bs (hbs6.below hW)
  have h510 := h59.trans (h910.mono h59.size)
  have HX10 := Lib.hid (HX9.out.trans (h910.mono HX9.out.size))
  clear hr6
  refine hK.out _ _ h910 ?_
  (try simp only [Act.put, List.setIfInBounds_toArray, List.set_cons_zero, List.set_cons_succ])
  first
    | (refine take_in (i := 2) (v := ?_) rfl (by kernel_rfl) (by kernel_rfl) (by kernel_rfl) (fun _ _ _ h => h) (Or.inl ⟨by rfl, ?_⟩) (Below.refl _ _) ?_; rotate_left; (focus (intro W hSw; have C6 := C6 W hSw; go_simp; (try rfl); done)); (try simp only [Act.put, List.setIfInBounds_toArray, List.set_cons_zero, List.set_cons_succ]))
    | (refine take_in (i := 2) (v := undef) rfl (by kernel_rfl) (by kernel_rfl) (by kernel_rfl) (fun _ _ _ h => h) (Or.inr ⟨by rfl, rfl⟩) (Below.refl _ _) ?_; (try simp only [Act.put, List.setIfInBounds_toArray, List.set_cons_zero, List.set_cons_succ]))
    | (fail "HTAKE 2")
  clear C6 hbs6
  refine call_in (i := 4) rfl (by kernel_rfl) (by kernel_rfl) (fun K hK => ?_)
  go_simp
  refine (rput_state v10 A B n ca m cb ls ts (HA.out.below HX10.out) (HBr.out.below HX10.out) HL1.out).mono ?_
  rintro e v11 ⟨z7, rfl, hr7, h1011⟩
  obtain ⟨A7, c7, rfl, _, hbs7⟩ := own_bs hr7
  have C7 : ∀ W, Below v11.heap.size v11 W → (convert 23 9 (.slice A7 (encState ls ts).length c7)).run Try.prog W = .ok (.string ⟨(encState ls ts).toArray⟩) W := fun W hW => conv_bs (hbs7.below hW)
  have h511 := h510.trans (h1011.mono h510.size)
  have HX11 := Lib.hid (HX10.out.trans (h1011.mono HX10.out.size))
  clear hr7
  refine hK.out _ _ h1011 ?_
  (try simp only [Act.put, List.setIfInBounds_toArray, List.set_cons_zero, List.set_cons_succ])
  first
    | (refine take_in (i := 5) (v := ?_) rfl (by kernel_rfl) (by kernel_rfl) (by kernel_rfl) (fun _ _ _ h => h) (Or.inl ⟨by rfl, ?_⟩) (Below.refl _ _) ?_; rotate_left; (focus (intro W hSw; have C7 := C7 W hSw; go_simp; (try rfl); done)); (try simp only [Act.put, List.setIfInBounds_toArray, List.set_cons_zero, List.set_cons_succ]))
    | (refine take_in (i := 5) (v := undef) rfl (by kernel_rfl) (by kernel_rfl) (by kernel_rfl) (fun _ _ _ h => h) (Or.inr ⟨by rfl, rfl⟩) (Below.refl _ _) ?_; (try simp only [Act.put, List.setIfInBounds_toArray, List.set_cons_zero, List.set_cons_succ]))
    | (fail "HTAKE 5")
  first
    | (refine take_in (i := 6) (v := ?_) rfl (by kernel_rfl) (by kernel_rfl) (by kernel_rfl) (fun _ _ _ h => h) (Or.inl ⟨by rfl, ?_⟩) (Below.refl _ _) ?_; rotate_left; (focus (intro W hSw; have C7 := C7 W hSw; go_simp; (try rfl); done)); (try simp only [Act.put, List.setIfInBounds_toArray, List.set_cons_zero, List.set_cons_succ]))
    | (refine take_in (i := 6) (v := undef) rfl (by kernel_rfl) (by kernel_rfl) (by kernel_rfl) (fun _ _ _ h => h) (Or.inr ⟨by rfl, rfl⟩) (Below.refl _ _) ?_; (try simp only [Act.put, List.setIfInBounds_toArray, List.set_cons_zero, List.set_cons_succ]))
    | (fail "HTAKE 6")
  first
    | (refine take_in (i := 7) (v := ?_) rfl (by kernel_rfl) (by kernel_rfl) (by kernel_rfl) (fun _ _ _ h => h) (Or.inl ⟨by rfl, ?_⟩) (Below.refl _ _) ?_; rotate_left; (focus (intro W hSw; have C7 := C7 W hSw; go_simp; (try rfl); done)); (try simp only [Act.put, List.setIfInBounds_toArray, List.set_cons_zero, List.set_cons_succ]))
    | (refine take_in (i := 7) (v := undef) rfl (by kernel_rfl) (by kernel_rfl) (by kernel_rfl) (fun _ _ _ h => h) (Or.inr ⟨by rfl, rfl⟩) (Below.refl _ _) ?_; (try simp only [Act.put, List.setIfInBounds_toArray, List.set_cons_zero, List.set_cons_succ]))
    | (fail "HTAKE 7")
  clear C7 hbs7
  refine take_in (i := 8) (v := _) rfl (by kernel_rfl) (by kernel_rfl) (by kernel_rfl) (fun _ _ _ h => h) (yields_load (by rfl) _ _ rfl _ rfl _ _ (fun W hW => (HU1.out.below h511).below hW) Try.underlying59 rfl rfl) (Below.refl _ _) ?_
  (try simp only [Act.put, List.setIfInBounds_toArray, List.set_cons_zero, List.set_cons_succ])
  refine take_in (i := 9) (v := _) rfl (by kernel_rfl) (by kernel_rfl) (by kernel_rfl) (fun _ _ _ h => h) (yields_load (by rfl) _ _ rfl _ rfl _ _ (fun W hW => (HT2.out.below h511).below hW) Try.underlying59 rfl rfl) (Below.refl _ _) ?_
  (try simp only [Act.put, List.setIfInBounds_toArray, List.set_cons_zero, List.set_cons_succ])
  refine call_in (i := 10) rfl (by kernel_rfl) (by kernel_rfl) (fun K hK => ?_)
  go_simp
  refine (rsame_state v11 A2 A3 B2 B3 ls2.length ls2.length ts2.length ts2.length ca2 ca3 cb2 cb3 ls2 ls2 ts2 ts2 (rd_rows (HR1'.out.1.below h511)) (rd_rows (HR2'.out.1.below h511)) (rd_rows (HR1'.out.2.below h511)) (rd_rows (HR2'.out.2.below h511)) (by have := rd_rowsN HR1'.out.1; omega) (by have := rd_rowsN HR1'.out.2; omega)).mono ?_
  rintro e v12 ⟨q, rfl, hq, h1112⟩
  obtain rfl : q = true := hq.2 (SameS.refl _)
  clear hq
  have HX12 := Lib.hid (HX11.out.trans (h1112.mono HX11.out.size))
  refine hK.out _ _ h1112 ?_
  (try simp only [Act.put, List.setIfInBounds_toArray, List.set_cons_zero, List.set_cons_succ])
  first
    | (refine take_in (i := 11) (v := ?_) rfl (by kernel_rfl) (by kernel_rfl) (by kernel_rfl) (fun _ _ _ h => h) (Or.inl ⟨by rfl, ?_⟩) (Below.refl _ _) ?_; rotate_left; (focus (intro W hSw; go_simp; (try rfl); done)); (try simp only [Act.put, List.setIfInBounds_toArray, List.set_cons_zero, List.set_cons_succ]))
    | (refine take_in (i := 11) (v := undef) rfl (by kernel_rfl) (by kernel_rfl) (by kernel_rfl) (fun _ _ _ h => h) (Or.inr ⟨by rfl, rfl⟩) (Below.refl _ _) ?_; (try simp only [Act.put, List.setIfInBounds_toArray, List.set_cons_zero, List.set_cons_succ]))
    | (fail "HTAKE 11")
  first
    | (refine take_in (i := 12) (v := ?_) rfl (by kernel_rfl) (by kernel_rfl) (by kernel_rfl) (fun _ _ _ h => h) (Or.inl ⟨by rfl, ?_⟩) (Below.refl _ _) ?_; rotate_left; (focus (intro W hSw; go_simp; (try rfl); done)); (try simp only [Act.put, List.setIfInBounds_toArray, List.set_cons_zero, List.set_cons_succ]))
    | (refine take_in (i := 12) (v := undef) rfl (by kernel_rfl) (by kernel_rfl) (by kernel_rfl) (fun _ _ _ h => h) (Or.inr ⟨by rfl, rfl⟩) (Below.refl _ _) ?_; (try simp only [Act.put, List.setIfInBounds_toArray, List.set_cons_zero, List.set_cons_succ]))
    | (fail "HTAKE 12")
  first
    | (refine take_in (i := 13) (v := ?_) rfl (by kernel_rfl) (by kernel_rfl) (by kernel_rfl) (fun _ _ _ h => h) (Or.inl ⟨by rfl, ?_⟩) (Below.refl _ _) ?_; rotate_left; (focus (intro W hSw; go_simp; (try rfl); done)); (try simp only [Act.put, List.setIfInBounds_toArray, List.set_cons_zero, List.set_cons_succ]))
    | (refine take_in (i := 13) (v := undef) rfl (by kernel_rfl) (by kernel_rfl) (by kernel_rfl) (fun _ _ _ h => h) (Or.inr ⟨by rfl, rfl⟩) (Below.refl _ _) ?_; (try simp only [Act.put, List.setIfInBounds_toArray, List.set_cons_zero, List.set_cons_succ]))
    | (fail "HTAKE 13")
  first
    | (refine take_in (i := 14) (v := ?_) rfl (by kernel_rfl) (by kernel_rfl) (by kernel_rfl) (fun _ _ _ h => h) (Or.inl ⟨by rfl, ?_⟩) (Below.refl _ _) ?_; rotate_left; (focus (intro W hSw; go_simp; (try rfl); done)); (try simp only [Act.put, List.setIfInBounds_toArray, List.set_cons_zero, List.set_cons_succ]))
    | (refine take_in (i := 14) (v := undef) rfl (by kernel_rfl) (by kernel_rfl) (by kernel_rfl) (fun _ _ _ h => h) (Or.inr ⟨by rfl, rfl⟩) (Below.refl _ _) ?_; (try simp only [Act.put, List.setIfInBounds_toArray, List.set_cons_zero, List.set_cons_succ]))
    | (fail "HTAKE 14")
  first
    | (refine take_in (i := 15) (v := ?_) rfl (by kernel_rfl) (by kernel_rfl) (by kernel_rfl) (fun _ _ _ h => h) (Or.inl ⟨by rfl, ?_⟩) (Below.refl _ _) ?_; rotate_left; (focus (intro W hSw; go_simp; (try rfl); done)); (try simp only [Act.put, List.setIfInBounds_toArray, List.set_cons_zero, List.set_cons_succ]))
    | (refine take_in (i := 15) (v := undef) rfl (by kernel_rfl) (by kernel_rfl) (by kernel_rfl) (fun _ _ _ h => h) (Or.inr ⟨by rfl, rfl⟩) (Below.refl _ _) ?_; (try simp only [Act.put, List.setIfInBounds_toArray, List.set_cons_zero, List.set_cons_succ]))
    | (fail "HTAKE 15")
  first
    | (refine take_in (i := 16) (v := ?_) rfl (by kernel_rfl) (by kernel_rfl) (by kernel_rfl) (fun _ _ _ h => h) (Or.inl ⟨by rfl, ?_⟩) (Below.refl _ _) ?_; rotate_left; (focus (intro W hSw; go_simp; (try rfl); done)); (try simp only [Act.put, List.setIfInBounds_toArray, List.set_cons_zero, List.set_cons_succ]))
    | (refine take_in (i := 16) (v := undef) rfl (by kernel_rfl) (by kernel_rfl) (by kernel_rfl) (fun _ _ _ h => h) (Or.inr ⟨by rfl, rfl⟩) (Below.refl _ _) ?_; (try simp only [Act.put, List.setIfInBounds_toArray, List.set_cons_zero, List.set_cons_succ]))
    | (fail "HTAKE 16")
  first
    | (refine take_in (i := 17) (v := ?_) rfl (by kernel_rfl) (by kernel_rfl) (by kernel_rfl) (fun _ _ _ h => h) (Or.inl ⟨by rfl, ?_⟩) (Below.refl _ _) ?_; rotate_left; (focus (intro W hSw; go_simp; (try rfl); done)); (try simp only [Act.put, List.setIfInBounds_toArray, List.set_cons_zero, List.set_cons_succ]))
    | (refine take_in (i := 17) (v := undef) rfl (by kernel_rfl) (by kernel_rfl) (by kernel_rfl) (fun _ _ _ h => h) (Or.inr ⟨by rfl, rfl⟩) (Below.refl _ _) ?_; (try simp only [Act.put, List.setIfInBounds_toArray, List.set_cons_zero, List.set_cons_succ]))
    | (fail "HTAKE 17")
  refine wpAnyH_done (by kernel_rfl) ?_ _
  go_wp2_with fail
  go_ret
  exact ⟨rfl, HX12.out⟩
end Go.Proofs.Ytnolhnlhohpkpaa
