import Derived.Test.YtfjnpiahloncmaaCanF
import Derived.Test.YtfjnpiahloncmaaTwo
namespace Go.Proofs.Ytfjnpiahloncmaa
open Go.RowKit FP
set_option linter.unusedVariables false
set_option linter.unusedSimpArgs false
attribute [local go_sem] run_store_float
def neL (x y : LIST.Ty) : Bool := !(x.1 == y.1 && x.2.1 == y.2.1)
set_option maxRecDepth 20000 in
theorem filt_step {α : Type} {p : α → Bool} {l : List α} {i : Nat} {x : α} (hx : l[i]? = some x) : (l.take (i + 1)).filter p = (l.take i).filter p ++ (if p x = true then [x] else []) := by
  rw [take_at hx, List.filter_append]
  by_cases h : p x = true
  · simp [h]
  · simp [h]
set_option maxRecDepth 20000 in
theorem gone_step {α : Type} {f : α → Int} {p : α → Bool} {l : List α} {i : Nat} {x : α} (hx : l[i]? = some x) : ((l.take (i + 1)).filter p).map f = ((l.take i).filter p).map f ++ (if p x = true then [f x] else []) := by
  rw [filt_step hx, List.map_append]
  by_cases h : p x = true
  · simp [h]
  · simp [h]
set_option maxRecDepth 20000 in
theorem info_u64 : (Try.prog.info? 35).map (fun i => (i.zero, i.size, i.bytes)) = some (some (.int .u64 0), 1, 8) := by kernel_rfl
set_option maxRecDepth 20000 in
theorem fun_id {k : Int} (h : (Lit.int .u64 k).wf = true) {w : World} {ok : Nat → Prop} : Rd w ok (.int .u64) k [.int .u64 k] := ⟨rfl, h⟩
set_option maxRecDepth 20000 in
theorem ownG_base {w : World} {base : Nat} {ok : Nat → Prop} {e : TypeId} {s : Sh} {v : Value} {l : List s.Ty} (h : OwnG w base ok e s v l) (k : Nat) (hk : v.ownBlock = some k) : base ≤ k := by
  obtain ⟨xs, ho, _⟩ := h
  exact own_base ho k hk
set_option maxRecDepth 20000 in
theorem ownG_other {w w' : World} {base g : Nat} {ok : Nat → Prop} {e : TypeId} {s : Sh} {v : Value} {l : List s.Ty} (h : OwnG w base ok e s v l) (hb : w.grownBy w' (some g)) (hg : g < base) (hok : ∀ k, ok k → k ≠ g) : OwnG w' base ok e s v l := by
  obtain ⟨xs, ⟨h1, h2⟩, h3⟩ := h
  refine ⟨xs, ⟨h1, ?_⟩, h3.of (fun a u ha hu => cell_grown hb hu (fun e => by injection e with e; exact hok _ ha.1 e)) (fun k hk _ => hk)⟩
  rcases h2 with h2 | ⟨b, cap, cur, e, hb2, hh, hr2⟩
  · exact .inl h2
  · exact .inr ⟨b, cap, cur, e, hb2, blk_grown hh hb (fun e => by injection e with e; omega), hr2⟩
def CanS (ls : List LIST.Ty) (ts : List TASK.Ty) (eL : List LIST.Ty) (eT : List TASK.Ty) : Prop := Firsts (fun x : LIST.Ty => x.1) ls eL ∧ Rises (fun x : LIST.Ty => x.1) eL ∧ Firsts (fun x : TASK.Ty => x.1) (ts.map ownT) eT ∧ Rises (fun x : TASK.Ty => x.1) eT
def DifQ (sB : TASK.Ty → TASK.Ty → Bool) (w w' : World) (l1 l2 : List LIST.Ty) (t1 t2 : List TASK.Ty) (A0 A1 A2 A3 : Option Addr) (n0 n1 n2 n3 : Nat) : Prop :=
  ∃ aL aT bL bT, CanS l1 t1 aL aT ∧ CanS l2 t2 bL bT ∧ Rows w' anyB LIST A0 n0 (bL.filter fun y => !(findL aL y.1).2 || neL (findL aL y.1).1 y) ∧ Rows w' anyB TASK A1 n1 (bT.filter fun y => !(findT aT y.1).2 || !sB (findT aT y.1).1 y) ∧
    Rows w' anyB (.int .u64) A2 n2 ((aL.filter fun y => !(findL bL y.1).2).map fun y => y.1) ∧ Rows w' anyB (.int .u64) A3 n3 ((aT.filter fun y => !(findT bT y.1).2).map fun y => y.1) ∧ Below w.heap.size w w'
def DifPost (sB : TASK.Ty → TASK.Ty → Bool) (w : World) (l1 l2 : List LIST.Ty) (t1 t2 : List TASK.Ty) (e : Ending) (w' : World) : Prop :=
  ∃ A0 A1 A2 A3 n0 n1 n2 n3 c0 c1 c2 c3, e = .returned (.agg #[.slice A0 n0 c0, .slice A1 n1 c1, .slice A2 n2 c2, .slice A3 n3 c3]) ∧ DifQ sB w w' l1 l2 t1 t2 A0 A1 A2 A3 n0 n1 n2 n3
set_option maxRecDepth 20000 in
theorem rows_grown {w w' : World} {ok : Nat → Prop} {e : Sh} {A : Option Addr} {n g : Nat} {l : List e.Ty} (h : Rows w ok e A n l) (hg : w.grownBy w' (some g)) (hk : ∀ k, ok k → k ≠ g) : Rows w' ok e A n l :=
  h.of (fun a v ha hc => cell_grown hg hc (fun e => by injection e with e; exact hk _ ha e)) (fun k h _ => h)
set_option maxHeartbeats 8000000 in
set_option maxRecDepth 20000 in
theorem diff_any (sB : TASK.Ty → TASK.Ty → Bool) (hsB : ∀ x y, sB x y = true ↔ SameT x y) (w : World) (A B C D : Option Addr) (n ca m cb k cc q cd : Nat) (l1 l2 : List LIST.Ty) (t1 t2 : List TASK.Ty) (ha : Rows w anyB LIST A n l1) (hb : Rows w anyB TASK B m t1) (hc : Rows w anyB LIST C k l2) (hd : Rows w anyB TASK D q t2) (hn : n ≤ 1000) (hm : m ≤ 1000) (hk : k ≤ 1000) (hq : q ≤ 1000) (hsx : ∀ t ∈ t1, t.2.2.2.2.2.2.1.length ≤ 100000) (hsy : ∀ t ∈ t2, t.2.2.2.2.2.2.1.length ≤ 100000) :
    Calls Try.prog 6 #[.agg #[Value.slice A n ca, Value.slice B m cb], .agg #[Value.slice C k cc, Value.slice D q cd]] w (DifPost sB w l1 l2 t1 t2) := by
  obtain ⟨W, hW⟩ : ∃ W, ((w.alloc (.cells #[Value.slice A n ca, Value.slice B m cb] 25)).alloc (.cells #[Value.slice C k cc, Value.slice D q cd] 25)).alloc (.cells #[Value.slice none 0 0, Value.slice none 0 0, Value.slice none 0 0, Value.slice none 0 0] 30) = W := ⟨_, rfl⟩
  have hs0 : W.heap.size = w.heap.size + 3 := by rw [← hW]; simp
  have h0 : W.heap[w.heap.size]? = some (.cells #[Value.slice A n ca, Value.slice B m cb] 25 (0, 0)) := by rw [← hW]; exact blk_alloc (blk_alloc (heap_alloc_new w _) _) _
  have h1 : W.heap[w.heap.size + 1]? = some (.cells #[Value.slice C k cc, Value.slice D q cd] 25 (0, 0)) := by rw [← hW]; exact blk_alloc (heap_alloc2_new w _ _) _
  have h2 : W.heap[w.heap.size + 2]? = some (.cells #[Value.slice none 0 0, Value.slice none 0 0, Value.slice none 0 0, Value.slice none 0 0] 30 (0, 0)) := by
    rw [← hW]
    have := heap_alloc_new ((w.alloc (.cells #[Value.slice A n ca, Value.slice B m cb] 25)).alloc (.cells #[Value.slice C k cc, Value.slice D q cd] 25)) (.cells #[Value.slice none 0 0, Value.slice none 0 0, Value.slice none 0 0, Value.slice none 0 0] 30)
    simpa using this
  have hb0 : Below w.heap.size w W := by rw [← hW]; exact (((Below.refl _ _).alloc (Nat.le_refl _) _).alloc (by simp) _).alloc (by simp; omega) _
  have HA := Lib.hid ha
  have HBt := Lib.hid hb
  have HC := Lib.hid hc
  have HD := Lib.hid hd
  have HS := Lib.hid hs0
  have H0 := Lib.hid h0
  have H1 := Lib.hid h1
  have H2 := Lib.hid h2
  have HW := Lib.hid hb0
  have HN := Lib.hid hW
  clear ha hb hc hd hs0 h0 h1 h2 hb0 hW
  go_enter Try.func6, Try.ntmps6
  have hW := HN.out
  go_upto_region 1 with fail
  clear hW
  go_cut [] from 22 to 25 (fun wc => ∃ (aL bL : List LIST.Ty) (aT bT : List TASK.Ty) (aA aB bA bB : Option Addr) (an ac am ad bn bc bm bd : Nat), CanS l1 t1 aL aT ∧ CanS l2 t2 bL bT ∧ wc.heap[w.heap.size]? = some (.cells #[Value.slice aA an ac, Value.slice aB am ad] 25 (0, 0)) ∧ wc.heap[w.heap.size + 1]? = some (.cells #[Value.slice bA bn bc, Value.slice bB bm bd] 25 (0, 0)) ∧ wc.heap[w.heap.size + 2]? = some (.cells #[Value.slice none 0 0, Value.slice none 0 0, Value.slice none 0 0, Value.slice none 0 0] 30 (0, 0)) ∧ Rows wc (fun k => w.heap.size + 3 ≤ k) LIST aA an aL ∧ Rows wc (fun k => w.heap.size + 3 ≤ k) TASK aB am aT ∧ Rows wc (fun k => w.heap.size + 3 ≤ k) LIST bA bn bL ∧ Rows wc (fun k => w.heap.size + 3 ≤ k) TASK bB bm bT ∧ an ≤ 1000 ∧ am ≤ 1000 ∧ bn ≤ 1000 ∧ bm ≤ 1000 ∧ Below w.heap.size w wc)
  case first =>
    refine region_inV (by kernel_rfl) (fun x1 hx1 => ?_)
    have hsW := HS.out
    have HXc := Lib.hid (blk_below H0.out hx1 (blk_lt H0.out))
    have HYc := Lib.hid (blk_below H1.out hx1 (blk_lt H1.out))
    have HZc := Lib.hid (blk_below H2.out hx1 (blk_lt H2.out))
    have HBc := Lib.hid (HW.out.trans (hx1.mono HW.out.size))
    have HZs := Lib.hid (show w.heap.size + 3 ≤ x1.heap.size by have := hx1.size; omega)
    clear hx1
    refine callV2 (i := 0) (j := 2) rfl rfl (by kernel_rfl) (by kernel_rfl) (by kernel_rfl) (fun K hK => ?_) (fun K hK => ?_)
    · refine wpo_load 25 (.tmp 2) rfl ⟨w.heap.size, 0, none⟩ rfl _ _ (At.blk HXc.out) Try.underlying25 rfl rfl ?_
      refine hK.out _ _ ?_
      (try simp only [Act.put, List.setIfInBounds_toArray, List.set_cons_zero, List.set_cons_succ])
      refine callV2 (i := 1) (j := 2) rfl rfl (by kernel_rfl) (by kernel_rfl) (by kernel_rfl) (fun K hK => ?_) (fun K hK => ?_)
      · go_simp
        refine (tcanon_any _ A B n ca m cb l1 t1 (HA.out.below HBc.out) (HBt.out.below HBc.out) hn hm hsx).mono ?_
        rintro e x2 ⟨vL0, vT0, aL, aT, rfl, hOL, hOT, hFL, hRL, hlL, hFT, hRT, hlT, hb2⟩
        have hz2 := HZs.out
        obtain ⟨aA, ac, rfl, _, _, _, hr1⟩ := Own.form hOL
        obtain ⟨aB, ad, rfl, _, _, _, hr2⟩ := Own.form hOT
        obtain ⟨an, han⟩ : ∃ n, aL.length = n := ⟨_, rfl⟩
        obtain ⟨am, ham⟩ : ∃ n, aT.length = n := ⟨_, rfl⟩
        rw [han] at hr1 hlL ⊢
        rw [ham] at hr2 hlT ⊢
        have HRL0 := Lib.hid (hr1.weak (ok' := fun k => w.heap.size + 3 ≤ k) (fun k hk _ => Nat.le_trans HZs.out hk))
        have HRT0 := Lib.hid (hr2.weak (ok' := fun k => w.heap.size + 3 ≤ k) (fun k hk _ => Nat.le_trans HZs.out hk))
        have HCS0 := Lib.hid (show CanS l1 t1 aL aT from ⟨hFL, hRL, hFT, hRT⟩)
        have HLN0 := Lib.hid (show an ≤ 1000 ∧ am ≤ 1000 from ⟨by omega, by omega⟩)
        have HXc := Lib.hid (blk_below HXc.out hb2 (blk_lt HXc.out))
        have HYc := Lib.hid (blk_below HYc.out hb2 (blk_lt HYc.out))
        have HZc := Lib.hid (blk_below HZc.out hb2 (blk_lt HZc.out))
        have HBc := Lib.hid (HBc.out.trans (hb2.mono HBc.out.size))
        have HZs := Lib.hid (Nat.le_trans HZs.out hb2.size)
        clear hOL hOT hFL hRL hFT hRT hr1 hr2 hb2 hz2
        refine hK.out _ _ ?_
        (try simp only [Act.put, List.setIfInBounds_toArray, List.set_cons_zero, List.set_cons_succ])
        refine callV (i := 2) rfl (by kernel_rfl) (by kernel_rfl) (fun K hK => ?_)
        refine wpo_load 25 (.tmp 3) rfl ⟨w.heap.size + 1, 0, none⟩ rfl _ _ (At.blk HYc.out) Try.underlying25 rfl rfl ?_
        refine hK.out _ _ ?_
        (try simp only [Act.put, List.setIfInBounds_toArray, List.set_cons_zero, List.set_cons_succ])
        refine callV (i := 3) rfl (by kernel_rfl) (by kernel_rfl) (fun K hK => ?_)
        go_simp
        refine (tcanon_any _ C D k cc q cd l2 t2 (HC.out.below HBc.out) (HD.out.below HBc.out) hk hq hsy).mono ?_
        rintro e x3 ⟨vL1, vT1, bL, bT, rfl, hOL, hOT, hFL, hRL, hlL, hFT, hRT, hlT, hb2⟩
        have hz3 := HZs.out
        obtain ⟨bA, bc, rfl, _, _, _, hr1⟩ := Own.form hOL
        obtain ⟨bB, bd, rfl, _, _, _, hr2⟩ := Own.form hOT
        obtain ⟨bn, hbn⟩ : ∃ n, bL.length = n := ⟨_, rfl⟩
        obtain ⟨bm, hbm⟩ : ∃ n, bT.length = n := ⟨_, rfl⟩
        rw [hbn] at hr1 hlL ⊢
        rw [hbm] at hr2 hlT ⊢
        have HRL1 := Lib.hid (hr1.weak (ok' := fun k => w.heap.size + 3 ≤ k) (fun k hk _ => Nat.le_trans HZs.out hk))
        have HRT1 := Lib.hid (hr2.weak (ok' := fun k => w.heap.size + 3 ≤ k) (fun k hk _ => Nat.le_trans HZs.out hk))
        have HCS1 := Lib.hid (show CanS l2 t2 bL bT from ⟨hFL, hRL, hFT, hRT⟩)
        have HLN1 := Lib.hid (show bn ≤ 1000 ∧ bm ≤ 1000 from ⟨by omega, by omega⟩)
        have HRL0 := Lib.hid (HRL0.out.below hb2)
        have HRT0 := Lib.hid (HRT0.out.below hb2)
        have HXc := Lib.hid (blk_below HXc.out hb2 (blk_lt HXc.out))
        have HYc := Lib.hid (blk_below HYc.out hb2 (blk_lt HYc.out))
        have HZc := Lib.hid (blk_below HZc.out hb2 (blk_lt HZc.out))
        have HBc := Lib.hid (HBc.out.trans (hb2.mono HBc.out.size))
        have HZs := Lib.hid (Nat.le_trans HZs.out hb2.size)
        clear hOL hOT hFL hRL hFT hRT hr1 hr2 hb2 hz3
        refine hK.out _ _ ?_
        (try simp only [Act.put, List.setIfInBounds_toArray, List.set_cons_zero, List.set_cons_succ])
        refine callV (i := 4) rfl (by kernel_rfl) (by kernel_rfl) (fun K hK => ?_)
        refine wpo_store 25 (.tmp 2) (.tmp 23) rfl (w.heap.size) rfl _ _ 25 rfl HXc.out rfl rfl (by intro v hv; simp at hv; rcases hv with rfl | rfl <;> rfl) ?_
        intro x4 hx4 hg4
        have HRL0 := Lib.hid (rows_grown HRL0.out hg4 (fun k hk => by omega))
        have HRT0 := Lib.hid (rows_grown HRT0.out hg4 (fun k hk => by omega))
        have HRL1 := Lib.hid (rows_grown HRL1.out hg4 (fun k hk => by omega))
        have HRT1 := Lib.hid (rows_grown HRT1.out hg4 (fun k hk => by omega))
        have HYc := Lib.hid (blk_grown HYc.out hg4 (by intro e; injection e; omega))
        have HXc := Lib.hid hx4
        have HZc := Lib.hid (blk_grown HZc.out hg4 (by intro e; injection e; omega))
        have HBc := Lib.hid (HBc.out.grown hg4 HBc.out.size (fun k e => by injection e; omega))
        clear hx4 hg4
        refine hK.out _ _ ?_
        (try simp only [Act.put, List.setIfInBounds_toArray, List.set_cons_zero, List.set_cons_succ])
        refine callV (i := 5) rfl (by kernel_rfl) (by kernel_rfl) (fun K hK => ?_)
        refine wpo_store 25 (.tmp 3) (.tmp 25) rfl (w.heap.size + 1) rfl _ _ 25 rfl HYc.out rfl rfl (by intro v hv; simp at hv; rcases hv with rfl | rfl <;> rfl) ?_
        intro x5 hx4 hg4
        have HRL0 := Lib.hid (rows_grown HRL0.out hg4 (fun k hk => by omega))
        have HRT0 := Lib.hid (rows_grown HRT0.out hg4 (fun k hk => by omega))
        have HRL1 := Lib.hid (rows_grown HRL1.out hg4 (fun k hk => by omega))
        have HRT1 := Lib.hid (rows_grown HRT1.out hg4 (fun k hk => by omega))
        have HXc := Lib.hid (blk_grown HXc.out hg4 (by intro e; injection e; omega))
        have HYc := Lib.hid hx4
        have HZc := Lib.hid (blk_grown HZc.out hg4 (by intro e; injection e; omega))
        have HBc := Lib.hid (HBc.out.grown hg4 HBc.out.size (fun k e => by injection e; omega))
        clear hx4 hg4
        refine hK.out _ _ ?_
        (try simp only [Act.put, List.setIfInBounds_toArray, List.set_cons_zero, List.set_cons_succ])
        refine doneV (by kernel_rfl) ?_ _
        go_wp2_with fail
        go_meet
        case rel => exact ⟨aL, bL, aT, bT, aA, aB, bA, bB, an, ac, am, ad, bn, bc, bm, bd, HCS0.out, HCS1.out, HXc.out, HYc.out, HZc.out, HRL0.out, HRT0.out, HRL1.out, HRT1.out, HLN0.out.1, HLN0.out.2, HLN1.out.1, HLN1.out.2, HBc.out⟩
      · refine wpo_load 25 (.tmp 3) rfl ⟨w.heap.size + 1, 0, none⟩ rfl _ _ (At.blk HYc.out) Try.underlying25 rfl rfl ?_
        refine hK.out _ _ ?_
        (try simp only [Act.put, List.setIfInBounds_toArray, List.set_cons_zero, List.set_cons_succ])
        refine callV (i := 1) rfl (by kernel_rfl) (by kernel_rfl) (fun K hK => ?_)
        go_simp
        refine (tcanon_any _ A B n ca m cb l1 t1 (HA.out.below HBc.out) (HBt.out.below HBc.out) hn hm hsx).mono ?_
        rintro e x2 ⟨vL0, vT0, aL, aT, rfl, hOL, hOT, hFL, hRL, hlL, hFT, hRT, hlT, hb2⟩
        have hz2 := HZs.out
        obtain ⟨aA, ac, rfl, _, _, _, hr1⟩ := Own.form hOL
        obtain ⟨aB, ad, rfl, _, _, _, hr2⟩ := Own.form hOT
        obtain ⟨an, han⟩ : ∃ n, aL.length = n := ⟨_, rfl⟩
        obtain ⟨am, ham⟩ : ∃ n, aT.length = n := ⟨_, rfl⟩
        rw [han] at hr1 hlL ⊢
        rw [ham] at hr2 hlT ⊢
        have HRL0 := Lib.hid (hr1.weak (ok' := fun k => w.heap.size + 3 ≤ k) (fun k hk _ => Nat.le_trans HZs.out hk))
        have HRT0 := Lib.hid (hr2.weak (ok' := fun k => w.heap.size + 3 ≤ k) (fun k hk _ => Nat.le_trans HZs.out hk))
        have HCS0 := Lib.hid (show CanS l1 t1 aL aT from ⟨hFL, hRL, hFT, hRT⟩)
        have HLN0 := Lib.hid (show an ≤ 1000 ∧ am ≤ 1000 from ⟨by omega, by omega⟩)
        have HXc := Lib.hid (blk_below HXc.out hb2 (blk_lt HXc.out))
        have HYc := Lib.hid (blk_below HYc.out hb2 (blk_lt HYc.out))
        have HZc := Lib.hid (blk_below HZc.out hb2 (blk_lt HZc.out))
        have HBc := Lib.hid (HBc.out.trans (hb2.mono HBc.out.size))
        have HZs := Lib.hid (Nat.le_trans HZs.out hb2.size)
        clear hOL hOT hFL hRL hFT hRT hr1 hr2 hb2 hz2
        refine hK.out _ _ ?_
        (try simp only [Act.put, List.setIfInBounds_toArray, List.set_cons_zero, List.set_cons_succ])
        refine callV (i := 3) rfl (by kernel_rfl) (by kernel_rfl) (fun K hK => ?_)
        go_simp
        refine (tcanon_any _ C D k cc q cd l2 t2 (HC.out.below HBc.out) (HD.out.below HBc.out) hk hq hsy).mono ?_
        rintro e x3 ⟨vL1, vT1, bL, bT, rfl, hOL, hOT, hFL, hRL, hlL, hFT, hRT, hlT, hb2⟩
        have hz3 := HZs.out
        obtain ⟨bA, bc, rfl, _, _, _, hr1⟩ := Own.form hOL
        obtain ⟨bB, bd, rfl, _, _, _, hr2⟩ := Own.form hOT
        obtain ⟨bn, hbn⟩ : ∃ n, bL.length = n := ⟨_, rfl⟩
        obtain ⟨bm, hbm⟩ : ∃ n, bT.length = n := ⟨_, rfl⟩
        rw [hbn] at hr1 hlL ⊢
        rw [hbm] at hr2 hlT ⊢
        have HRL1 := Lib.hid (hr1.weak (ok' := fun k => w.heap.size + 3 ≤ k) (fun k hk _ => Nat.le_trans HZs.out hk))
        have HRT1 := Lib.hid (hr2.weak (ok' := fun k => w.heap.size + 3 ≤ k) (fun k hk _ => Nat.le_trans HZs.out hk))
        have HCS1 := Lib.hid (show CanS l2 t2 bL bT from ⟨hFL, hRL, hFT, hRT⟩)
        have HLN1 := Lib.hid (show bn ≤ 1000 ∧ bm ≤ 1000 from ⟨by omega, by omega⟩)
        have HRL0 := Lib.hid (HRL0.out.below hb2)
        have HRT0 := Lib.hid (HRT0.out.below hb2)
        have HXc := Lib.hid (blk_below HXc.out hb2 (blk_lt HXc.out))
        have HYc := Lib.hid (blk_below HYc.out hb2 (blk_lt HYc.out))
        have HZc := Lib.hid (blk_below HZc.out hb2 (blk_lt HZc.out))
        have HBc := Lib.hid (HBc.out.trans (hb2.mono HBc.out.size))
        have HZs := Lib.hid (Nat.le_trans HZs.out hb2.size)
        clear hOL hOT hFL hRL hFT hRT hr1 hr2 hb2 hz3
        refine hK.out _ _ ?_
        (try simp only [Act.put, List.setIfInBounds_toArray, List.set_cons_zero, List.set_cons_succ])
        refine callV (i := 4) rfl (by kernel_rfl) (by kernel_rfl) (fun K hK => ?_)
        refine wpo_store 25 (.tmp 2) (.tmp 23) rfl (w.heap.size) rfl _ _ 25 rfl HXc.out rfl rfl (by intro v hv; simp at hv; rcases hv with rfl | rfl <;> rfl) ?_
        intro x4 hx4 hg4
        have HRL0 := Lib.hid (rows_grown HRL0.out hg4 (fun k hk => by omega))
        have HRT0 := Lib.hid (rows_grown HRT0.out hg4 (fun k hk => by omega))
        have HRL1 := Lib.hid (rows_grown HRL1.out hg4 (fun k hk => by omega))
        have HRT1 := Lib.hid (rows_grown HRT1.out hg4 (fun k hk => by omega))
        have HYc := Lib.hid (blk_grown HYc.out hg4 (by intro e; injection e; omega))
        have HXc := Lib.hid hx4
        have HZc := Lib.hid (blk_grown HZc.out hg4 (by intro e; injection e; omega))
        have HBc := Lib.hid (HBc.out.grown hg4 HBc.out.size (fun k e => by injection e; omega))
        clear hx4 hg4
        refine hK.out _ _ ?_
        (try simp only [Act.put, List.setIfInBounds_toArray, List.set_cons_zero, List.set_cons_succ])
        refine callV (i := 5) rfl (by kernel_rfl) (by kernel_rfl) (fun K hK => ?_)
        refine wpo_store 25 (.tmp 3) (.tmp 25) rfl (w.heap.size + 1) rfl _ _ 25 rfl HYc.out rfl rfl (by intro v hv; simp at hv; rcases hv with rfl | rfl <;> rfl) ?_
        intro x5 hx4 hg4
        have HRL0 := Lib.hid (rows_grown HRL0.out hg4 (fun k hk => by omega))
        have HRT0 := Lib.hid (rows_grown HRT0.out hg4 (fun k hk => by omega))
        have HRL1 := Lib.hid (rows_grown HRL1.out hg4 (fun k hk => by omega))
        have HRT1 := Lib.hid (rows_grown HRT1.out hg4 (fun k hk => by omega))
        have HXc := Lib.hid (blk_grown HXc.out hg4 (by intro e; injection e; omega))
        have HYc := Lib.hid hx4
        have HZc := Lib.hid (blk_grown HZc.out hg4 (by intro e; injection e; omega))
        have HBc := Lib.hid (HBc.out.grown hg4 HBc.out.size (fun k e => by injection e; omega))
        clear hx4 hg4
        refine hK.out _ _ ?_
        (try simp only [Act.put, List.setIfInBounds_toArray, List.set_cons_zero, List.set_cons_succ])
        refine doneV (by kernel_rfl) ?_ _
        go_wp2_with fail
        go_meet
        case rel => exact ⟨aL, bL, aT, bT, aA, aB, bA, bB, an, ac, am, ad, bn, bc, bm, bd, HCS0.out, HCS1.out, HXc.out, HYc.out, HZc.out, HRL0.out, HRT0.out, HRL1.out, HRT1.out, HLN0.out.1, HLN0.out.2, HLN1.out.1, HLN1.out.2, HBc.out⟩
    · refine wpo_load 25 (.tmp 3) rfl ⟨w.heap.size + 1, 0, none⟩ rfl _ _ (At.blk HYc.out) Try.underlying25 rfl rfl ?_
      refine hK.out _ _ ?_
      (try simp only [Act.put, List.setIfInBounds_toArray, List.set_cons_zero, List.set_cons_succ])
      refine callV (i := 0) rfl (by kernel_rfl) (by kernel_rfl) (fun K hK => ?_)
      refine wpo_load 25 (.tmp 2) rfl ⟨w.heap.size, 0, none⟩ rfl _ _ (At.blk HXc.out) Try.underlying25 rfl rfl ?_
      refine hK.out _ _ ?_
      (try simp only [Act.put, List.setIfInBounds_toArray, List.set_cons_zero, List.set_cons_succ])
      refine callV (i := 1) rfl (by kernel_rfl) (by kernel_rfl) (fun K hK => ?_)
      go_simp
      refine (tcanon_any _ A B n ca m cb l1 t1 (HA.out.below HBc.out) (HBt.out.below HBc.out) hn hm hsx).mono ?_
      rintro e x2 ⟨vL0, vT0, aL, aT, rfl, hOL, hOT, hFL, hRL, hlL, hFT, hRT, hlT, hb2⟩
      have hz2 := HZs.out
      obtain ⟨aA, ac, rfl, _, _, _, hr1⟩ := Own.form hOL
      obtain ⟨aB, ad, rfl, _, _, _, hr2⟩ := Own.form hOT
      obtain ⟨an, han⟩ : ∃ n, aL.length = n := ⟨_, rfl⟩
      obtain ⟨am, ham⟩ : ∃ n, aT.length = n := ⟨_, rfl⟩
      rw [han] at hr1 hlL ⊢
      rw [ham] at hr2 hlT ⊢
      have HRL0 := Lib.hid (hr1.weak (ok' := fun k => w.heap.size + 3 ≤ k) (fun k hk _ => Nat.le_trans HZs.out hk))
      have HRT0 := Lib.hid (hr2.weak (ok' := fun k => w.heap.size + 3 ≤ k) (fun k hk _ => Nat.le_trans HZs.out hk))
      have HCS0 := Lib.hid (show CanS l1 t1 aL aT from ⟨hFL, hRL, hFT, hRT⟩)
      have HLN0 := Lib.hid (show an ≤ 1000 ∧ am ≤ 1000 from ⟨by omega, by omega⟩)
      have HXc := Lib.hid (blk_below HXc.out hb2 (blk_lt HXc.out))
      have HYc := Lib.hid (blk_below HYc.out hb2 (blk_lt HYc.out))
      have HZc := Lib.hid (blk_below HZc.out hb2 (blk_lt HZc.out))
      have HBc := Lib.hid (HBc.out.trans (hb2.mono HBc.out.size))
      have HZs := Lib.hid (Nat.le_trans HZs.out hb2.size)
      clear hOL hOT hFL hRL hFT hRT hr1 hr2 hb2 hz2
      refine hK.out _ _ ?_
      (try simp only [Act.put, List.setIfInBounds_toArray, List.set_cons_zero, List.set_cons_succ])
      refine callV (i := 3) rfl (by kernel_rfl) (by kernel_rfl) (fun K hK => ?_)
      go_simp
      refine (tcanon_any _ C D k cc q cd l2 t2 (HC.out.below HBc.out) (HD.out.below HBc.out) hk hq hsy).mono ?_
      rintro e x3 ⟨vL1, vT1, bL, bT, rfl, hOL, hOT, hFL, hRL, hlL, hFT, hRT, hlT, hb2⟩
      have hz3 := HZs.out
      obtain ⟨bA, bc, rfl, _, _, _, hr1⟩ := Own.form hOL
      obtain ⟨bB, bd, rfl, _, _, _, hr2⟩ := Own.form hOT
      obtain ⟨bn, hbn⟩ : ∃ n, bL.length = n := ⟨_, rfl⟩
      obtain ⟨bm, hbm⟩ : ∃ n, bT.length = n := ⟨_, rfl⟩
      rw [hbn] at hr1 hlL ⊢
      rw [hbm] at hr2 hlT ⊢
      have HRL1 := Lib.hid (hr1.weak (ok' := fun k => w.heap.size + 3 ≤ k) (fun k hk _ => Nat.le_trans HZs.out hk))
      have HRT1 := Lib.hid (hr2.weak (ok' := fun k => w.heap.size + 3 ≤ k) (fun k hk _ => Nat.le_trans HZs.out hk))
      have HCS1 := Lib.hid (show CanS l2 t2 bL bT from ⟨hFL, hRL, hFT, hRT⟩)
      have HLN1 := Lib.hid (show bn ≤ 1000 ∧ bm ≤ 1000 from ⟨by omega, by omega⟩)
      have HRL0 := Lib.hid (HRL0.out.below hb2)
      have HRT0 := Lib.hid (HRT0.out.below hb2)
      have HXc := Lib.hid (blk_below HXc.out hb2 (blk_lt HXc.out))
      have HYc := Lib.hid (blk_below HYc.out hb2 (blk_lt HYc.out))
      have HZc := Lib.hid (blk_below HZc.out hb2 (blk_lt HZc.out))
      have HBc := Lib.hid (HBc.out.trans (hb2.mono HBc.out.size))
      have HZs := Lib.hid (Nat.le_trans HZs.out hb2.size)
      clear hOL hOT hFL hRL hFT hRT hr1 hr2 hb2 hz3
      refine hK.out _ _ ?_
      (try simp only [Act.put, List.setIfInBounds_toArray, List.set_cons_zero, List.set_cons_succ])
      refine callV (i := 4) rfl (by kernel_rfl) (by kernel_rfl) (fun K hK => ?_)
      refine wpo_store 25 (.tmp 2) (.tmp 23) rfl (w.heap.size) rfl _ _ 25 rfl HXc.out rfl rfl (by intro v hv; simp at hv; rcases hv with rfl | rfl <;> rfl) ?_
      intro x4 hx4 hg4
      have HRL0 := Lib.hid (rows_grown HRL0.out hg4 (fun k hk => by omega))
      have HRT0 := Lib.hid (rows_grown HRT0.out hg4 (fun k hk => by omega))
      have HRL1 := Lib.hid (rows_grown HRL1.out hg4 (fun k hk => by omega))
      have HRT1 := Lib.hid (rows_grown HRT1.out hg4 (fun k hk => by omega))
      have HYc := Lib.hid (blk_grown HYc.out hg4 (by intro e; injection e; omega))
      have HXc := Lib.hid hx4
      have HZc := Lib.hid (blk_grown HZc.out hg4 (by intro e; injection e; omega))
      have HBc := Lib.hid (HBc.out.grown hg4 HBc.out.size (fun k e => by injection e; omega))
      clear hx4 hg4
      refine hK.out _ _ ?_
      (try simp only [Act.put, List.setIfInBounds_toArray, List.set_cons_zero, List.set_cons_succ])
      refine callV (i := 5) rfl (by kernel_rfl) (by kernel_rfl) (fun K hK => ?_)
      refine wpo_store 25 (.tmp 3) (.tmp 25) rfl (w.heap.size + 1) rfl _ _ 25 rfl HYc.out rfl rfl (by intro v hv; simp at hv; rcases hv with rfl | rfl <;> rfl) ?_
      intro x5 hx4 hg4
      have HRL0 := Lib.hid (rows_grown HRL0.out hg4 (fun k hk => by omega))
      have HRT0 := Lib.hid (rows_grown HRT0.out hg4 (fun k hk => by omega))
      have HRL1 := Lib.hid (rows_grown HRL1.out hg4 (fun k hk => by omega))
      have HRT1 := Lib.hid (rows_grown HRT1.out hg4 (fun k hk => by omega))
      have HXc := Lib.hid (blk_grown HXc.out hg4 (by intro e; injection e; omega))
      have HYc := Lib.hid hx4
      have HZc := Lib.hid (blk_grown HZc.out hg4 (by intro e; injection e; omega))
      have HBc := Lib.hid (HBc.out.grown hg4 HBc.out.size (fun k e => by injection e; omega))
      clear hx4 hg4
      refine hK.out _ _ ?_
      (try simp only [Act.put, List.setIfInBounds_toArray, List.set_cons_zero, List.set_cons_succ])
      refine doneV (by kernel_rfl) ?_ _
      go_wp2_with fail
      go_meet
      case rel => exact ⟨aL, bL, aT, bT, aA, aB, bA, bB, an, ac, am, ad, bn, bc, bm, bd, HCS0.out, HCS1.out, HXc.out, HYc.out, HZc.out, HRL0.out, HRT0.out, HRL1.out, HRT1.out, HLN0.out.1, HLN0.out.2, HLN1.out.1, HLN1.out.2, HBc.out⟩
  case rest =>
  obtain ⟨aL, bL, aT, bT, aA, aB, bA, bB, an, ac, am, aw, bn, bc, bm, bw, hca, hcb, hx0, hx1, hx2, hr0, hr1, hr2, hr3, han, ham, hbn, hbm, hbw⟩ := hcut
  have hsb : ∀ t ∈ bT, t.2.2.2.2.2.2.1.length ≤ 100000 := fun t ht => by
    obtain ⟨t', ht', rfl⟩ := List.mem_map.1 (hcb.2.2.1.mem ht)
    exact Nat.le_trans (tidy_le _) (hsy t' ht')
  have hsa : ∀ t ∈ aT, t.2.2.2.2.2.2.1.length ≤ 100000 := fun t ht => by
    obtain ⟨t', ht', rfl⟩ := List.mem_map.1 (hca.2.2.1.mem ht)
    exact Nat.le_trans (tidy_le _) (hsx t' ht')
  obtain ⟨bp, hbp⟩ : ∃ b, wc.heap.size = b := ⟨_, rfl⟩
  have HR0 := Lib.hid (hr0.weak (ok' := fun k => w.heap.size + 3 ≤ k ∧ k < bp) (fun k h1 hk => ⟨h1, by omega⟩))
  have HR1 := Lib.hid (hr1.weak (ok' := fun k => w.heap.size + 3 ≤ k ∧ k < bp) (fun k h1 hk => ⟨h1, by omega⟩))
  have HR2 := Lib.hid (hr2.weak (ok' := fun k => w.heap.size + 3 ≤ k ∧ k < bp) (fun k h1 hk => ⟨h1, by omega⟩))
  have HR3 := Lib.hid (hr3.weak (ok' := fun k => w.heap.size + 3 ≤ k ∧ k < bp) (fun k h1 hk => ⟨h1, by omega⟩))
  have HX0 := Lib.hid hx0
  have HX1 := Lib.hid hx1
  have HX2 := Lib.hid hx2
  have HBW := Lib.hid hbw
  have HCA := Lib.hid hca
  have HCB := Lib.hid hcb
  clear hr0 hr1 hr2 hr3 hx0 hx1 hx2 hbw hca hcb HA HBt HC HD HW H0 H1 H2 HN
  obtain ⟨W1, hW1⟩ : ∃ x, wc.alloc (.cells #[Value.slice none 0 0, Value.slice none 0 0, Value.slice none 0 0, Value.slice none 0 0] 30) = x := ⟨_, rfl⟩
  have HP0 := Lib.hid (show W1.heap[bp]? = some (.cells #[Value.slice none 0 0, Value.slice none 0 0, Value.slice none 0 0, Value.slice none 0 0] 30 (0, 0)) by rw [← hW1, ← hbp]; exact heap_alloc_new wc _)
  have HC0 := Lib.hid (show Below wc.heap.size wc W1 by rw [← hW1]; exact below_alloc1 wc _)
  have hs1 : bp < W1.heap.size := by rw [← hW1]; simp; omega
  have q0 : W1.cell? ⟨w.heap.size, 0, none⟩ = _ := cell_below HC0.out (blk_at HX0.out 0 _ rfl)
  go_wp2_with fail
  clear q0
  obtain ⟨WBn1, hWBn1⟩ : ∃ b, W1.heap.size = b := ⟨_, rfl⟩
  go_loopw [29] (fun sc wr => ∃ (i : Nat) (v : Value), i ≤ an ∧ sc = .int .i64 i ∧ wr.heap[bp]? = some (.cells #[Value.slice none 0 0, Value.slice none 0 0, v, Value.slice none 0 0] 30 (0, 0)) ∧ OwnG wr WBn1 (fun k => w.heap.size + 3 ≤ k ∧ k < bp) 35 (.int .u64) v (((aL.take i).filter (fun y => !(findL bL y.1).2)).map (fun y => y.1)) ∧ W1.grownBy wr (some bp) ∧ Below wc.heap.size wc wr) (fun sc _ => an - (intOf sc).toNat)
  case atStart => exact ⟨0, _, by omega, rfl, HP0.out, OwnG.nil _ _ _ _ _, grown_none _ _, HC0.out⟩
  case round =>
    obtain ⟨i, v, hi, rfl, hp, hO, hG, hC⟩ := hrel
    have HP := Lib.hid hp
    have HOn1 := Lib.hid hO
    have HG := Lib.hid hG
    have HC := Lib.hid hC
    have hgs := hG.size
    obtain ⟨Avn1, cvn1, rfl, _⟩ := OwnG.form hO
    have hql : (((aL.take i).filter (fun y => !(findL bL y.1).2)).map (fun y => y.1)).length ≤ i := by rw [List.length_map]; exact Nat.le_trans (List.length_filter_le _ _) (by rw [List.length_take]; omega)
    obtain ⟨qn1, hqn1⟩ : ∃ qn1, (((aL.take i).filter (fun y => !(findL bL y.1).2)).map (fun y => y.1)).length = qn1 := ⟨_, rfl⟩
    rw [hqn1] at hql HP HOn1
    clear hp hO hG
    by_cases hlt : i < an
    · obtain ⟨ad, x, cs, rfl, hx, hat, hrd⟩ := (HR0.out.below hC).get i hlt
      obtain ⟨k1, s1, rfl, rfl, ok1⟩ := rd_lst hrd
      have HAt := Lib.hid hat
      have HFx := Lib.hid hx
      have HRx := Lib.hid hrd
      have i0 : (0 : Int) ≤ (i : Int) := by omega
      have i1 : (i : Int) < (an : Int) := by omega
      have HYo := Lib.hid (blk_below HX1.out hC (blk_lt HX1.out))
      clear hx hat hrd hC
      go_wp2_with (first
        | (refine wpL_load rfl 37 _ rfl _ rfl _ _ HAt.out Try.underlying37 rfl rfl ?_)
        | (refine wpL_store rfl 37 (.tmp 7) _ rfl wr.heap.size rfl _ _ 37 rfl (heap_alloc_new wr _) rfl rfl (by intro v hv; simp at hv; rcases hv with rfl | rfl <;> rfl) ?_; intro w3 hx3 hg3; have HB3 := Lib.hid ((below_alloc1 wr _).grown hg3 (by simp) (fun k e => by cases e; exact Nat.le_refl _) : Below wr.heap.size wr w3); have HX3 := Lib.hid hx3; have HY3 := Lib.hid (blk_below HYo.out HB3.out (blk_lt HYo.out)); have z0 := blk_at hx3 0 _ rfl; clear hx3 hg3)
        | (refine wpL_load rfl 25 _ rfl _ rfl _ _ (At.blk HY3.out) Try.underlying25 rfl rfl ?_))
      refine (lists_any w3 bA bB bn bc bm bw bL k1 ((HR2.out.below (HC.out.trans (HB3.out.mono HC.out.size))).any) (by omega)).mono ?_
      rintro e' w4 ⟨cs4, rfl, hrd4, hb4⟩
      obtain ⟨k4, s4, hx4, rfl, ok4⟩ := rd_lst hrd4
      have HB4 := Lib.hid (HB3.out.trans (hb4.mono HB3.out.size))
      have HX4 := Lib.hid (blk_below HX3.out hb4 (blk_lt HX3.out))
      have HV4 := Lib.hid hx4
      have HR4 := Lib.hid hrd4
      obtain ⟨th, hth⟩ : ∃ th, (findL bL k1).2 = th := ⟨_, rfl⟩
      rw [hth]
      have HTH := Lib.hid hth
      clear hb4 z0 hth hx4 hrd4
      cases th with
      | true =>
        have HN := Lib.hid (show ((aL.take (i + 1)).filter (fun y => !(findL bL y.1).2)).map (fun y => y.1) = ((aL.take i).filter (fun y => !(findL bL y.1).2)).map (fun y => y.1) by rw [gone_step HFx.out, if_neg (by simp [HTH.out]), List.append_nil])
        go_wp2_with (first
          | (refine wpL_store rfl 37 (.tmp 8) _ rfl w4.heap.size rfl _ _ 37 rfl (heap_alloc_new w4 _) rfl rfl (by intro v hv; simp at hv; rcases hv with rfl | rfl <;> rfl) ?_; intro w5 hx5 hg5; have hb5 : Below w4.heap.size w4 w5 := ((below_alloc1 w4 _).grown hg5 (by simp) (fun k e => by cases e; exact Nat.le_refl _)); have HB5 := Lib.hid (HB4.out.trans (hb5.mono HB4.out.size)); have HX5 := Lib.hid (blk_below HX4.out hb5 (blk_lt HX4.out)); have HW5 := Lib.hid hx5; have HP5 := Lib.hid (blk_below HP.out HB5.out (blk_lt HP.out)); have y0 := blk_at HP5.out 2 _ rfl; have z5 := blk_at HX5.out 0 _ rfl; have HA5 := Lib.hid (show Below wr.heap.size wr (w5.alloc (.cells #[Value.int .u64 k1] 35)) from HB5.out.alloc HB5.out.size _); have HP6 := Lib.hid (blk_alloc HP5.out (.cells #[Value.int .u64 k1] 35)); clear hx5 hg5 hb5)
          | fail)
        go_roundw
        case measure => simp [intOf]; omega
        case rel => exact ⟨i + 1, _, by omega, by go_num, HP5.out, by rw [HN.out]; exact HOn1.out.below HB5.out, gb_below HG.out HB5.out, HC.out.trans (HB5.out.mono HC.out.size)⟩
      | false =>
        have HID := Lib.hid (fun (W : World) (ok : Nat → Prop) => (fun_id (of_u64 ok1.1) : Rd W ok (.int .u64) k1 [.int .u64 k1]))
        have HN := Lib.hid (show ((aL.take (i + 1)).filter (fun y => !(findL bL y.1).2)).map (fun y => y.1) = ((aL.take i).filter (fun y => !(findL bL y.1).2)).map (fun y => y.1) ++ [(k1 : Int)] by rw [gone_step HFx.out, if_pos (by simp [HTH.out])])
        go_wp2_with (first
          | (refine wpL_store rfl 37 (.tmp 8) _ rfl w4.heap.size rfl _ _ 37 rfl (heap_alloc_new w4 _) rfl rfl (by intro v hv; simp at hv; rcases hv with rfl | rfl <;> rfl) ?_; intro w5 hx5 hg5; have hb5 : Below w4.heap.size w4 w5 := ((below_alloc1 w4 _).grown hg5 (by simp) (fun k e => by cases e; exact Nat.le_refl _)); have HB5 := Lib.hid (HB4.out.trans (hb5.mono HB4.out.size)); have HX5 := Lib.hid (blk_below HX4.out hb5 (blk_lt HX4.out)); have HW5 := Lib.hid hx5; have HP5 := Lib.hid (blk_below HP.out HB5.out (blk_lt HP.out)); have y0 := blk_at HP5.out 2 _ rfl; have z5 := blk_at HX5.out 0 _ rfl; have HA5 := Lib.hid (show Below wr.heap.size wr (w5.alloc (.cells #[Value.int .u64 k1] 35)) from HB5.out.alloc HB5.out.size _); have HP6 := Lib.hid (blk_alloc HP5.out (.cells #[Value.int .u64 k1] 35)); clear hx5 hg5 hb5)
          | (at_builtin; go_loud (refine wp_appO (w0 := w5.alloc (.cells #[Value.int .u64 k1] 35)) (m := 1) (S := .int .u64) (r := [(k1 : Int)]) (ys := [.int .u64 k1]) rfl (.tmp 43) (.tmp 46) rfl (HOn1.out.below HA5.out) rfl (fun e => by cases e) (fun ad' e => by cases e; exact At.blk (heap_alloc_new w5 _)) (RdL.single (HID.out _ _)) (Below.refl _ _) Try.underlying28 info_u64 rfl (by decide) rfl rfl (by rw [hqn1]; omega) (by rw [hqn1]; omega) (by have := HA5.out.size; omega) ?_; intro v6 w6 hO6 _ hg6 _; have HG6 := Lib.hid (gb_grown (gb_below HG.out HA5.out) hg6 (fun g e => by have := ownG_base HOn1.out g e; omega)); have HC6 := Lib.hid ((HC.out.trans (HA5.out.mono HC.out.size)).grown hg6 (Nat.le_trans HC.out.size HA5.out.size) (fun k e => by have := ownG_base HOn1.out k e; omega)); have HP7 := Lib.hid (blk_app HP6.out hg6 (fun g e => ownG_base HOn1.out g e) (by omega)); obtain ⟨A6, c6, rfl, _⟩ := OwnG.form hO6; have hl6 : (((aL.take i).filter (fun y => !(findL bL y.1).2)).map (fun y => y.1) ++ [(k1 : Int)]).length = qn1 + 1 := (by rw [List.length_append, hqn1]; rfl); rw [hl6] at hO6 ⊢; have HO6 := Lib.hid hO6; have y6 := blk_at HP7.out 2 _ rfl; have f6 := blk_free HP7.out 2; clear hl6 hO6 hg6)))
        go_roundw
        case measure => simp [intOf]; omega
        case rel => exact ⟨i + 1, _, by omega, by go_num, blk_set HP7.out 2 _, by rw [HN.out]; exact ownG_other HO6.out (grown_one (grown_none w6 _)) (by omega) (fun k hk => by omega), gb_set HG6.out 2 _, HC6.out.setCell (p := ⟨bp, 2, none⟩) (by show wc.heap.size ≤ bp; omega) _⟩
    · obtain rfl : an = i := by omega
      rw [List.take_of_length_le (by have := HR0.out.1; omega)] at HOn1 hqn1
      obtain ⟨W2, hWW⟩ : ∃ x, x = wr := ⟨_, rfl⟩
      subst hWW
      have HP0 := HP
      have HC0 := Lib.hid hC
      have hs2 : bp < W2.heap.size := blk_lt HP.out
      have q0 : W2.cell? ⟨w.heap.size, 1, none⟩ = _ := cell_below HC0.out (blk_at HX0.out 1 _ rfl)
      clear hC hlt
      go_wp2_with fail
      clear q0
      obtain ⟨WBn2, hWBn2⟩ : ∃ b, W2.heap.size = b := ⟨_, rfl⟩
      go_loopw [53] (fun sc wr => ∃ (i : Nat) (v : Value), i ≤ am ∧ sc = .int .i64 i ∧ wr.heap[bp]? = some (.cells #[Value.slice none 0 0, Value.slice none 0 0, Value.slice Avn1 qn1 cvn1, v] 30 (0, 0)) ∧ OwnG wr WBn2 (fun k => w.heap.size + 3 ≤ k ∧ k < bp) 35 (.int .u64) v (((aT.take i).filter (fun y => !(findT bT y.1).2)).map (fun y => y.1)) ∧ W2.grownBy wr (some bp) ∧ Below wc.heap.size wc wr) (fun sc _ => am - (intOf sc).toNat)
      case atStart => exact ⟨0, _, by omega, rfl, HP0.out, OwnG.nil _ _ _ _ _, grown_none _ _, HC0.out⟩
      case round =>
        obtain ⟨i, v, hi, rfl, hp, hO, hG, hC⟩ := hrel
        have HP := Lib.hid hp
        have HOn2 := Lib.hid hO
        have HG := Lib.hid hG
        have HC := Lib.hid hC
        have hgs := hG.size
        obtain ⟨Avn2, cvn2, rfl, _⟩ := OwnG.form hO
        have hql : (((aT.take i).filter (fun y => !(findT bT y.1).2)).map (fun y => y.1)).length ≤ i := by rw [List.length_map]; exact Nat.le_trans (List.length_filter_le _ _) (by rw [List.length_take]; omega)
        obtain ⟨qn2, hqn2⟩ : ∃ qn2, (((aT.take i).filter (fun y => !(findT bT y.1).2)).map (fun y => y.1)).length = qn2 := ⟨_, rfl⟩
        rw [hqn2] at hql HP HOn2
        clear hp hO hG
        by_cases hlt : i < am
        · obtain ⟨ad, x, cs, rfl, hx, hat, hrd⟩ := (HR1.out.below hC).get i hlt
          obtain ⟨k1, l1, s1, d1, r1, e1, g1, A1, c1, rfl, rfl, ok1, hg1⟩ := rd_task hrd
          have HAt := Lib.hid hat
          have HFx := Lib.hid hx
          have HRx := Lib.hid hrd
          have i0 : (0 : Int) ≤ (i : Int) := by omega
          have i1 : (i : Int) < (am : Int) := by omega
          have HYo := Lib.hid (blk_below HX1.out hC (blk_lt HX1.out))
          clear hx hat hrd hC
          go_wp2_with (first
            | (refine wpL_load rfl 41 _ rfl _ rfl _ _ HAt.out Try.underlying41 rfl rfl ?_)
            | (refine wpL_store rfl 41 (.tmp 11) _ rfl wr.heap.size rfl _ _ 41 rfl (heap_alloc_new wr _) rfl rfl (by intro v hv; simp at hv; rcases hv with rfl | rfl | rfl | rfl | rfl | rfl | rfl <;> rfl) ?_; intro w3 hx3 hg3; have HB3 := Lib.hid ((below_alloc1 wr _).grown hg3 (by simp) (fun k e => by cases e; exact Nat.le_refl _) : Below wr.heap.size wr w3); have HX3 := Lib.hid hx3; have HY3 := Lib.hid (blk_below HYo.out HB3.out (blk_lt HYo.out)); have z0 := blk_at hx3 0 _ rfl; clear hx3 hg3)
            | (refine wpL_load rfl 25 _ rfl _ rfl _ _ (At.blk HY3.out) Try.underlying25 rfl rfl ?_))
          refine (find_any w3 bA bB bn bc bm bw bT k1 ((HR3.out.below (HC.out.trans (HB3.out.mono HC.out.size))).any) (by omega) hsb).mono ?_
          rintro e' w4 ⟨cs4, rfl, hrd4, hb4⟩
          obtain ⟨k4, l4, s4, d4, r4, e4, g4, A4, c4, hx4, rfl, ok4, hg4⟩ := rd_task hrd4
          have HB4 := Lib.hid (HB3.out.trans (hb4.mono HB3.out.size))
          have HX4 := Lib.hid (blk_below HX3.out hb4 (blk_lt HX3.out))
          have HV4 := Lib.hid hx4
          have HR4 := Lib.hid hrd4
          obtain ⟨th, hth⟩ : ∃ th, (findT bT k1).2 = th := ⟨_, rfl⟩
          rw [hth]
          have HTH := Lib.hid hth
          clear hb4 z0 hth hx4 hrd4
          cases th with
          | true =>
            have HN := Lib.hid (show ((aT.take (i + 1)).filter (fun y => !(findT bT y.1).2)).map (fun y => y.1) = ((aT.take i).filter (fun y => !(findT bT y.1).2)).map (fun y => y.1) by rw [gone_step HFx.out, if_neg (by simp [HTH.out]), List.append_nil])
            go_wp2_with (first
              | (refine wpL_store rfl 41 (.tmp 12) _ rfl w4.heap.size rfl _ _ 41 rfl (heap_alloc_new w4 _) rfl rfl (by intro v hv; simp at hv; rcases hv with rfl | rfl | rfl | rfl | rfl | rfl | rfl <;> rfl) ?_; intro w5 hx5 hg5; have hb5 : Below w4.heap.size w4 w5 := ((below_alloc1 w4 _).grown hg5 (by simp) (fun k e => by cases e; exact Nat.le_refl _)); have HB5 := Lib.hid (HB4.out.trans (hb5.mono HB4.out.size)); have HX5 := Lib.hid (blk_below HX4.out hb5 (blk_lt HX4.out)); have HW5 := Lib.hid hx5; have HP5 := Lib.hid (blk_below HP.out HB5.out (blk_lt HP.out)); have y0 := blk_at HP5.out 3 _ rfl; have z5 := blk_at HX5.out 0 _ rfl; have HA5 := Lib.hid (show Below wr.heap.size wr (w5.alloc (.cells #[Value.int .u64 k1] 35)) from HB5.out.alloc HB5.out.size _); have HP6 := Lib.hid (blk_alloc HP5.out (.cells #[Value.int .u64 k1] 35)); clear hx5 hg5 hb5)
              | fail)
            go_roundw
            case measure => simp [intOf]; omega
            case rel => exact ⟨i + 1, _, by omega, by go_num, HP5.out, by rw [HN.out]; exact HOn2.out.below HB5.out, gb_below HG.out HB5.out, HC.out.trans (HB5.out.mono HC.out.size)⟩
          | false =>
            have HID := Lib.hid (fun (W : World) (ok : Nat → Prop) => (fun_id (of_u64 ok1.1) : Rd W ok (.int .u64) k1 [.int .u64 k1]))
            have HN := Lib.hid (show ((aT.take (i + 1)).filter (fun y => !(findT bT y.1).2)).map (fun y => y.1) = ((aT.take i).filter (fun y => !(findT bT y.1).2)).map (fun y => y.1) ++ [(k1 : Int)] by rw [gone_step HFx.out, if_pos (by simp [HTH.out])])
            go_wp2_with (first
              | (refine wpL_store rfl 41 (.tmp 12) _ rfl w4.heap.size rfl _ _ 41 rfl (heap_alloc_new w4 _) rfl rfl (by intro v hv; simp at hv; rcases hv with rfl | rfl | rfl | rfl | rfl | rfl | rfl <;> rfl) ?_; intro w5 hx5 hg5; have hb5 : Below w4.heap.size w4 w5 := ((below_alloc1 w4 _).grown hg5 (by simp) (fun k e => by cases e; exact Nat.le_refl _)); have HB5 := Lib.hid (HB4.out.trans (hb5.mono HB4.out.size)); have HX5 := Lib.hid (blk_below HX4.out hb5 (blk_lt HX4.out)); have HW5 := Lib.hid hx5; have HP5 := Lib.hid (blk_below HP.out HB5.out (blk_lt HP.out)); have y0 := blk_at HP5.out 3 _ rfl; have z5 := blk_at HX5.out 0 _ rfl; have HA5 := Lib.hid (show Below wr.heap.size wr (w5.alloc (.cells #[Value.int .u64 k1] 35)) from HB5.out.alloc HB5.out.size _); have HP6 := Lib.hid (blk_alloc HP5.out (.cells #[Value.int .u64 k1] 35)); clear hx5 hg5 hb5)
              | (at_builtin; go_loud (refine wp_appO (w0 := w5.alloc (.cells #[Value.int .u64 k1] 35)) (m := 1) (S := .int .u64) (r := [(k1 : Int)]) (ys := [.int .u64 k1]) rfl (.tmp 67) (.tmp 70) rfl (HOn2.out.below HA5.out) rfl (fun e => by cases e) (fun ad' e => by cases e; exact At.blk (heap_alloc_new w5 _)) (RdL.single (HID.out _ _)) (Below.refl _ _) Try.underlying28 info_u64 rfl (by decide) rfl rfl (by rw [hqn2]; omega) (by rw [hqn2]; omega) (by have := HA5.out.size; omega) ?_; intro v6 w6 hO6 _ hg6 _; have HG6 := Lib.hid (gb_grown (gb_below HG.out HA5.out) hg6 (fun g e => by have := ownG_base HOn2.out g e; omega)); have HC6 := Lib.hid ((HC.out.trans (HA5.out.mono HC.out.size)).grown hg6 (Nat.le_trans HC.out.size HA5.out.size) (fun k e => by have := ownG_base HOn2.out k e; omega)); have HP7 := Lib.hid (blk_app HP6.out hg6 (fun g e => ownG_base HOn2.out g e) (by omega)); obtain ⟨A6, c6, rfl, _⟩ := OwnG.form hO6; have hl6 : (((aT.take i).filter (fun y => !(findT bT y.1).2)).map (fun y => y.1) ++ [(k1 : Int)]).length = qn2 + 1 := (by rw [List.length_append, hqn2]; rfl); rw [hl6] at hO6 ⊢; have HO6 := Lib.hid hO6; have y6 := blk_at HP7.out 3 _ rfl; have f6 := blk_free HP7.out 3; clear hl6 hO6 hg6)))
            go_roundw
            case measure => simp [intOf]; omega
            case rel => exact ⟨i + 1, _, by omega, by go_num, blk_set HP7.out 3 _, by rw [HN.out]; exact ownG_other HO6.out (grown_one (grown_none w6 _)) (by omega) (fun k hk => by omega), gb_set HG6.out 3 _, HC6.out.setCell (p := ⟨bp, 3, none⟩) (by show wc.heap.size ≤ bp; omega) _⟩
        · obtain rfl : am = i := by omega
          rw [List.take_of_length_le (by have := HR1.out.1; omega)] at HOn2 hqn2
          obtain ⟨W3, hWW⟩ : ∃ x, x = wr := ⟨_, rfl⟩
          subst hWW
          have HOn1 := Lib.hid (ownG_other HOn1.out HG.out (by omega) (fun k hk => by omega))
          have HP0 := HP
          have HC0 := Lib.hid hC
          have hs3 : bp < W3.heap.size := blk_lt HP.out
          have q0 : W3.cell? ⟨w.heap.size + 1, 0, none⟩ = _ := cell_below HC0.out (blk_at HX1.out 0 _ rfl)
          clear hC hlt
          go_wp2_with fail
          clear q0
          obtain ⟨WBn3, hWBn3⟩ : ∃ b, W3.heap.size = b := ⟨_, rfl⟩
          go_loopw [77] (fun sc wr => ∃ (i : Nat) (v : Value), i ≤ bn ∧ sc = .int .i64 i ∧ wr.heap[bp]? = some (.cells #[v, Value.slice none 0 0, Value.slice Avn1 qn1 cvn1, Value.slice Avn2 qn2 cvn2] 30 (0, 0)) ∧ OwnG wr WBn3 (fun k => w.heap.size + 3 ≤ k ∧ k < bp) 37 LIST v ((bL.take i).filter (fun y => !(findL aL y.1).2 || neL (findL aL y.1).1 y)) ∧ W3.grownBy wr (some bp) ∧ Below wc.heap.size wc wr) (fun sc _ => bn - (intOf sc).toNat)
          case atStart => exact ⟨0, _, by omega, rfl, HP0.out, OwnG.nil _ _ _ _ _, grown_none _ _, HC0.out⟩
          case round =>
            obtain ⟨i, v, hi, rfl, hp, hO, hG, hC⟩ := hrel
            have HP := Lib.hid hp
            have HOn3 := Lib.hid hO
            have HG := Lib.hid hG
            have HC := Lib.hid hC
            have hgs := hG.size
            obtain ⟨Avn3, cvn3, rfl, _⟩ := OwnG.form hO
            have hql : ((bL.take i).filter (fun y => !(findL aL y.1).2 || neL (findL aL y.1).1 y)).length ≤ i := by exact Nat.le_trans (List.length_filter_le _ _) (by rw [List.length_take]; omega)
            obtain ⟨qn3, hqn3⟩ : ∃ qn3, ((bL.take i).filter (fun y => !(findL aL y.1).2 || neL (findL aL y.1).1 y)).length = qn3 := ⟨_, rfl⟩
            rw [hqn3] at hql HP HOn3
            clear hp hO hG
            by_cases hlt : i < bn
            · obtain ⟨ad, x, cs, rfl, hx, hat, hrd⟩ := (HR2.out.below hC).get i hlt
              obtain ⟨k1, s1, rfl, rfl, ok1⟩ := rd_lst hrd
              have HAt := Lib.hid hat
              have HFx := Lib.hid hx
              have HRx := Lib.hid hrd
              have i0 : (0 : Int) ≤ (i : Int) := by omega
              have i1 : (i : Int) < (bn : Int) := by omega
              have HYo := Lib.hid (blk_below HX0.out hC (blk_lt HX0.out))
              clear hx hat hrd hC
              go_wp2_with (first
                | (refine wpL_load rfl 37 _ rfl _ rfl _ _ HAt.out Try.underlying37 rfl rfl ?_)
                | (refine wpL_store rfl 37 (.tmp 15) _ rfl wr.heap.size rfl _ _ 37 rfl (heap_alloc_new wr _) rfl rfl (by intro v hv; simp at hv; rcases hv with rfl | rfl <;> rfl) ?_; intro w3 hx3 hg3; have HB3 := Lib.hid ((below_alloc1 wr _).grown hg3 (by simp) (fun k e => by cases e; exact Nat.le_refl _) : Below wr.heap.size wr w3); have HX3 := Lib.hid hx3; have HY3 := Lib.hid (blk_below HYo.out HB3.out (blk_lt HYo.out)); have z0 := blk_at hx3 0 _ rfl; clear hx3 hg3)
                | (refine wpL_load rfl 25 _ rfl _ rfl _ _ (At.blk HY3.out) Try.underlying25 rfl rfl ?_))
              refine (lists_any w3 aA aB an ac am aw aL k1 ((HR0.out.below (HC.out.trans (HB3.out.mono HC.out.size))).any) (by omega)).mono ?_
              rintro e' w4 ⟨cs4, rfl, hrd4, hb4⟩
              obtain ⟨k4, s4, hx4, rfl, ok4⟩ := rd_lst hrd4
              have HB4 := Lib.hid (HB3.out.trans (hb4.mono HB3.out.size))
              have HX4 := Lib.hid (blk_below HX3.out hb4 (blk_lt HX3.out))
              have HV4 := Lib.hid hx4
              have HR4 := Lib.hid hrd4
              obtain ⟨th, hth⟩ : ∃ th, (findL aL k1).2 = th := ⟨_, rfl⟩
              rw [hth]
              have HTH := Lib.hid hth
              clear hb4 z0 hth hx4 hrd4
              cases th with
              | false =>
                have HN := Lib.hid (show (bL.take (i + 1)).filter (fun y => !(findL aL y.1).2 || neL (findL aL y.1).1 y) = (bL.take i).filter (fun y => !(findL aL y.1).2 || neL (findL aL y.1).1 y) ++ [((k1 : Int), s1, ())] by rw [filt_step HFx.out, if_pos (by simp [HTH.out])])
                go_wp2_with (first
                  | (refine wpL_store rfl 37 (.tmp 16) _ rfl w4.heap.size rfl _ _ 37 rfl (heap_alloc_new w4 _) rfl rfl (by intro v hv; simp at hv; rcases hv with rfl | rfl <;> rfl) ?_; intro w5 hx5 hg5; have hb5 : Below w4.heap.size w4 w5 := ((below_alloc1 w4 _).grown hg5 (by simp) (fun k e => by cases e; exact Nat.le_refl _)); have HB5 := Lib.hid (HB4.out.trans (hb5.mono HB4.out.size)); have HX5 := Lib.hid (blk_below HX4.out hb5 (blk_lt HX4.out)); have HW5 := Lib.hid hx5; have HP5 := Lib.hid (blk_below HP.out HB5.out (blk_lt HP.out)); have y0 := blk_at HP5.out 0 _ rfl; have z5 := blk_at HX5.out 0 _ rfl; have HA5 := Lib.hid (show Below wr.heap.size wr (w5.alloc (.cells ([Value.int .u64 k1, Value.string s1]).toArray 37)) from HB5.out.alloc HB5.out.size _); have HP6 := Lib.hid (blk_alloc HP5.out (.cells ([Value.int .u64 k1, Value.string s1]).toArray 37)); have b0 := blk_at hx5 0 _ rfl; have zz0 := blk_at HX5.out 0 _ rfl; have b1 := blk_at hx5 1 _ rfl; have zz1 := blk_at HX5.out 1 _ rfl; clear hx5 hg5 hb5)
                  | (refine wpL_load rfl 37 _ rfl _ rfl _ _ (At.blk HX5.out) Try.underlying37 rfl rfl ?_)
                  | (refine wpL_lit1 rfl (cs := [Value.int .u64 k1, Value.string s1]) (.tmp 97) rfl rfl Try.underlying22 info_lst2 rfl (by decide) (by decide) rfl ?_)
                  | (at_builtin; go_loud (refine wp_appO (w0 := w5.alloc (.cells ([Value.int .u64 k1, Value.string s1]).toArray 37)) (m := 1) (S := LIST) (r := [((k1 : Int), s1, ())]) (ys := [Value.int .u64 k1, Value.string s1]) rfl (.tmp 96) (.tmp 98) rfl (HOn3.out.below HA5.out) rfl (fun e => by cases e) (fun ad' e => by cases e; exact At.blk (heap_alloc_new w5 _)) (RdL.single ((HRx.out.below HA5.out).weak (fun k hk _ => ⟨hk, fun e => by have := ownG_base HOn3.out k e; omega⟩))) (Below.refl _ _) Try.underlying22 info_lst2 rfl (by decide) rfl rfl (by rw [hqn3, bytes_lst2]; omega) (by rw [hqn3]; omega) (by have := HA5.out.size; omega) ?_; intro v6 w6 hO6 _ hg6 _; have HG6 := Lib.hid (gb_grown (gb_below HG.out HA5.out) hg6 (fun g e => by have := ownG_base HOn3.out g e; omega)); have HC6 := Lib.hid ((HC.out.trans (HA5.out.mono HC.out.size)).grown hg6 (Nat.le_trans HC.out.size HA5.out.size) (fun k e => by have := ownG_base HOn3.out k e; omega)); have HP7 := Lib.hid (blk_app HP6.out hg6 (fun g e => ownG_base HOn3.out g e) (by omega)); obtain ⟨A6, c6, rfl, _⟩ := OwnG.form hO6; have hl6 : ((bL.take i).filter (fun y => !(findL aL y.1).2 || neL (findL aL y.1).1 y) ++ [((k1 : Int), s1, ())]).length = qn3 + 1 := (by rw [List.length_append, hqn3]; rfl); rw [hl6] at hO6 ⊢; have HO6 := Lib.hid hO6; have y6 := blk_at HP7.out 0 _ rfl; have f6 := blk_free HP7.out 0; clear hl6 hO6 hg6)) 
                  | (refine wpL_load rfl 37 _ rfl _ rfl _ _ (At.blk HW5.out) Try.underlying37 rfl rfl ?_))
                go_roundw
                case measure => simp [intOf]; omega
                case rel => exact ⟨i + 1, _, by omega, by go_num, blk_set HP7.out 0 _, by rw [HN.out]; exact ownG_other HO6.out (grown_one (grown_none w6 _)) (by omega) (fun k hk => by omega), gb_set HG6.out 0 _, HC6.out.setCell (p := ⟨bp, 0, none⟩) (by show wc.heap.size ≤ bp; omega) _⟩
              | true =>
                cases hne : (k4 == k1 && s4 == s1) with
                | true =>
                  have hrn : ∀ W : World, (binOp .neq 37 (.agg #[.int .u64 k4, .string s4]) (.agg #[.int .u64 k1, .string s1])).run Try.prog W = .ok (.bool false) W := fun W => by rw [run_neq_list, hne]; rfl
                  have HN := Lib.hid (show (bL.take (i + 1)).filter (fun y => !(findL aL y.1).2 || neL (findL aL y.1).1 y) = (bL.take i).filter (fun y => !(findL aL y.1).2 || neL (findL aL y.1).1 y) by rw [filt_step HFx.out, if_neg (by show ¬ ((!(findL aL k1).2 || neL (findL aL k1).1 (k1, s1, ())) = true); rw [HTH.out, HV4.out]; show ¬ ((!true || !(k4 == k1 && s4 == s1)) = true); rw [hne]; decide), List.append_nil])
                  go_wp2_with (first
                    | (refine wpL_store rfl 37 (.tmp 16) _ rfl w4.heap.size rfl _ _ 37 rfl (heap_alloc_new w4 _) rfl rfl (by intro v hv; simp at hv; rcases hv with rfl | rfl <;> rfl) ?_; intro w5 hx5 hg5; have hb5 : Below w4.heap.size w4 w5 := ((below_alloc1 w4 _).grown hg5 (by simp) (fun k e => by cases e; exact Nat.le_refl _)); have HB5 := Lib.hid (HB4.out.trans (hb5.mono HB4.out.size)); have HX5 := Lib.hid (blk_below HX4.out hb5 (blk_lt HX4.out)); have HW5 := Lib.hid hx5; have HP5 := Lib.hid (blk_below HP.out HB5.out (blk_lt HP.out)); have y0 := blk_at HP5.out 0 _ rfl; have z5 := blk_at HX5.out 0 _ rfl; have HA5 := Lib.hid (show Below wr.heap.size wr (w5.alloc (.cells ([Value.int .u64 k1, Value.string s1]).toArray 37)) from HB5.out.alloc HB5.out.size _); have HP6 := Lib.hid (blk_alloc HP5.out (.cells ([Value.int .u64 k1, Value.string s1]).toArray 37)); have b0 := blk_at hx5 0 _ rfl; have zz0 := blk_at HX5.out 0 _ rfl; have b1 := blk_at hx5 1 _ rfl; have zz1 := blk_at HX5.out 1 _ rfl; clear hx5 hg5 hb5)
                    | (refine wpL_load rfl 37 _ rfl _ rfl _ _ (At.blk HX5.out) Try.underlying37 rfl rfl ?_)
                    | (refine wpL_load rfl 37 _ rfl _ rfl _ _ (At.blk HW5.out) Try.underlying37 rfl rfl ?_))
                  go_roundw
                  case measure => simp [intOf]; omega
                  case rel => exact ⟨i + 1, _, by omega, by go_num, HP5.out, by rw [HN.out]; exact HOn3.out.below HB5.out, gb_below HG.out HB5.out, HC.out.trans (HB5.out.mono HC.out.size)⟩
                | false =>
                  have hrn : ∀ W : World, (binOp .neq 37 (.agg #[.int .u64 k4, .string s4]) (.agg #[.int .u64 k1, .string s1])).run Try.prog W = .ok (.bool true) W := fun W => by rw [run_neq_list, hne]; rfl
                  have HN := Lib.hid (show (bL.take (i + 1)).filter (fun y => !(findL aL y.1).2 || neL (findL aL y.1).1 y) = (bL.take i).filter (fun y => !(findL aL y.1).2 || neL (findL aL y.1).1 y) ++ [((k1 : Int), s1, ())] by rw [filt_step HFx.out, if_pos (by show (!(findL aL k1).2 || neL (findL aL k1).1 (k1, s1, ())) = true; rw [HTH.out, HV4.out]; show (!true || !(k4 == k1 && s4 == s1)) = true; rw [hne]; rfl)])
                  go_wp2_with (first
                    | (refine wpL_store rfl 37 (.tmp 16) _ rfl w4.heap.size rfl _ _ 37 rfl (heap_alloc_new w4 _) rfl rfl (by intro v hv; simp at hv; rcases hv with rfl | rfl <;> rfl) ?_; intro w5 hx5 hg5; have hb5 : Below w4.heap.size w4 w5 := ((below_alloc1 w4 _).grown hg5 (by simp) (fun k e => by cases e; exact Nat.le_refl _)); have HB5 := Lib.hid (HB4.out.trans (hb5.mono HB4.out.size)); have HX5 := Lib.hid (blk_below HX4.out hb5 (blk_lt HX4.out)); have HW5 := Lib.hid hx5; have HP5 := Lib.hid (blk_below HP.out HB5.out (blk_lt HP.out)); have y0 := blk_at HP5.out 0 _ rfl; have z5 := blk_at HX5.out 0 _ rfl; have HA5 := Lib.hid (show Below wr.heap.size wr (w5.alloc (.cells ([Value.int .u64 k1, Value.string s1]).toArray 37)) from HB5.out.alloc HB5.out.size _); have HP6 := Lib.hid (blk_alloc HP5.out (.cells ([Value.int .u64 k1, Value.string s1]).toArray 37)); have b0 := blk_at hx5 0 _ rfl; have zz0 := blk_at HX5.out 0 _ rfl; have b1 := blk_at hx5 1 _ rfl; have zz1 := blk_at HX5.out 1 _ rfl; clear hx5 hg5 hb5)
                    | (refine wpL_load rfl 37 _ rfl _ rfl _ _ (At.blk HX5.out) Try.underlying37 rfl rfl ?_)
                    | (refine wpL_lit1 rfl (cs := [Value.int .u64 k1, Value.string s1]) (.tmp 97) rfl rfl Try.underlying22 info_lst2 rfl (by decide) (by decide) rfl ?_)
                    | (at_builtin; go_loud (refine wp_appO (w0 := w5.alloc (.cells ([Value.int .u64 k1, Value.string s1]).toArray 37)) (m := 1) (S := LIST) (r := [((k1 : Int), s1, ())]) (ys := [Value.int .u64 k1, Value.string s1]) rfl (.tmp 96) (.tmp 98) rfl (HOn3.out.below HA5.out) rfl (fun e => by cases e) (fun ad' e => by cases e; exact At.blk (heap_alloc_new w5 _)) (RdL.single ((HRx.out.below HA5.out).weak (fun k hk _ => ⟨hk, fun e => by have := ownG_base HOn3.out k e; omega⟩))) (Below.refl _ _) Try.underlying22 info_lst2 rfl (by decide) rfl rfl (by rw [hqn3, bytes_lst2]; omega) (by rw [hqn3]; omega) (by have := HA5.out.size; omega) ?_; intro v6 w6 hO6 _ hg6 _; have HG6 := Lib.hid (gb_grown (gb_below HG.out HA5.out) hg6 (fun g e => by have := ownG_base HOn3.out g e; omega)); have HC6 := Lib.hid ((HC.out.trans (HA5.out.mono HC.out.size)).grown hg6 (Nat.le_trans HC.out.size HA5.out.size) (fun k e => by have := ownG_base HOn3.out k e; omega)); have HP7 := Lib.hid (blk_app HP6.out hg6 (fun g e => ownG_base HOn3.out g e) (by omega)); obtain ⟨A6, c6, rfl, _⟩ := OwnG.form hO6; have hl6 : ((bL.take i).filter (fun y => !(findL aL y.1).2 || neL (findL aL y.1).1 y) ++ [((k1 : Int), s1, ())]).length = qn3 + 1 := (by rw [List.length_append, hqn3]; rfl); rw [hl6] at hO6 ⊢; have HO6 := Lib.hid hO6; have y6 := blk_at HP7.out 0 _ rfl; have f6 := blk_free HP7.out 0; clear hl6 hO6 hg6)) 
                    | (refine wpL_load rfl 37 _ rfl _ rfl _ _ (At.blk HW5.out) Try.underlying37 rfl rfl ?_))
                  go_roundw
                  case measure => simp [intOf]; omega
                  case rel => exact ⟨i + 1, _, by omega, by go_num, blk_set HP7.out 0 _, by rw [HN.out]; exact ownG_other HO6.out (grown_one (grown_none w6 _)) (by omega) (fun k hk => by omega), gb_set HG6.out 0 _, HC6.out.setCell (p := ⟨bp, 0, none⟩) (by show wc.heap.size ≤ bp; omega) _⟩
            · obtain rfl : bn = i := by omega
              rw [List.take_of_length_le (by have := HR2.out.1; omega)] at HOn3 hqn3
              obtain ⟨W4, hWW⟩ : ∃ x, x = wr := ⟨_, rfl⟩
              subst hWW
              have HOn1 := Lib.hid (ownG_other HOn1.out HG.out (by omega) (fun k hk => by omega))
              have HOn2 := Lib.hid (ownG_other HOn2.out HG.out (by omega) (fun k hk => by omega))
              have HP0 := HP
              have HC0 := Lib.hid hC
              have hs4 : bp < W4.heap.size := blk_lt HP.out
              have q0 : W4.cell? ⟨w.heap.size + 1, 1, none⟩ = _ := cell_below HC0.out (blk_at HX1.out 1 _ rfl)
              clear hC hlt
              go_wp2_with fail
              clear q0
              obtain ⟨WBn4, hWBn4⟩ : ∃ b, W4.heap.size = b := ⟨_, rfl⟩
              go_loopw [105] (fun sc wr => ∃ (i : Nat) (v : Value), i ≤ bm ∧ sc = .int .i64 i ∧ wr.heap[bp]? = some (.cells #[Value.slice Avn3 qn3 cvn3, v, Value.slice Avn1 qn1 cvn1, Value.slice Avn2 qn2 cvn2] 30 (0, 0)) ∧ OwnG wr WBn4 (fun k => w.heap.size + 3 ≤ k ∧ k < bp) 41 TASK v ((bT.take i).filter (fun y => !(findT aT y.1).2 || !sB (findT aT y.1).1 y)) ∧ W4.grownBy wr (some bp) ∧ Below wc.heap.size wc wr) (fun sc _ => bm - (intOf sc).toNat)
              case atStart => exact ⟨0, _, by omega, rfl, HP0.out, OwnG.nil _ _ _ _ _, grown_none _ _, HC0.out⟩
              case round =>
                obtain ⟨i, v, hi, rfl, hp, hO, hG, hC⟩ := hrel
                have HP := Lib.hid hp
                have HOn4 := Lib.hid hO
                have HG := Lib.hid hG
                have HC := Lib.hid hC
                have hgs := hG.size
                obtain ⟨Avn4, cvn4, rfl, _⟩ := OwnG.form hO
                have hql : ((bT.take i).filter (fun y => !(findT aT y.1).2 || !sB (findT aT y.1).1 y)).length ≤ i := by exact Nat.le_trans (List.length_filter_le _ _) (by rw [List.length_take]; omega)
                obtain ⟨qn4, hqn4⟩ : ∃ qn4, ((bT.take i).filter (fun y => !(findT aT y.1).2 || !sB (findT aT y.1).1 y)).length = qn4 := ⟨_, rfl⟩
                rw [hqn4] at hql HP HOn4
                clear hp hO hG
                by_cases hlt : i < bm
                · obtain ⟨ad, x, cs, rfl, hx, hat, hrd⟩ := (HR3.out.below hC).get i hlt
                  obtain ⟨k1, l1, s1, d1, r1, e1, g1, A1, c1, rfl, rfl, ok1, hg1⟩ := rd_task hrd
                  have HAt := Lib.hid hat
                  have HFx := Lib.hid hx
                  have HRx := Lib.hid hrd
                  have i0 : (0 : Int) ≤ (i : Int) := by omega
                  have i1 : (i : Int) < (bm : Int) := by omega
                  have HYo := Lib.hid (blk_below HX0.out hC (blk_lt HX0.out))
                  clear hx hat hrd hC
                  go_wp2_with (first
                    | (refine wpL_load rfl 41 _ rfl _ rfl _ _ HAt.out Try.underlying41 rfl rfl ?_)
                    | (refine wpL_store rfl 41 (.tmp 19) _ rfl wr.heap.size rfl _ _ 41 rfl (heap_alloc_new wr _) rfl rfl (by intro v hv; simp at hv; rcases hv with rfl | rfl | rfl | rfl | rfl | rfl | rfl <;> rfl) ?_; intro w3 hx3 hg3; have HB3 := Lib.hid ((below_alloc1 wr _).grown hg3 (by simp) (fun k e => by cases e; exact Nat.le_refl _) : Below wr.heap.size wr w3); have HX3 := Lib.hid hx3; have HY3 := Lib.hid (blk_below HYo.out HB3.out (blk_lt HYo.out)); have z0 := blk_at hx3 0 _ rfl; clear hx3 hg3)
                    | (refine wpL_load rfl 25 _ rfl _ rfl _ _ (At.blk HY3.out) Try.underlying25 rfl rfl ?_))
                  refine (find_any w3 aA aB an ac am aw aT k1 ((HR1.out.below (HC.out.trans (HB3.out.mono HC.out.size))).any) (by omega) hsa).mono ?_
                  rintro e' w4 ⟨cs4, rfl, hrd4, hb4⟩
                  obtain ⟨k4, l4, s4, d4, r4, e4, g4, A4, c4, hx4, rfl, ok4, hg4⟩ := rd_task hrd4
                  have HB4 := Lib.hid (HB3.out.trans (hb4.mono HB3.out.size))
                  have HX4 := Lib.hid (blk_below HX3.out hb4 (blk_lt HX3.out))
                  have HV4 := Lib.hid hx4
                  have HR4 := Lib.hid hrd4
                  obtain ⟨th, hth⟩ : ∃ th, (findT aT k1).2 = th := ⟨_, rfl⟩
                  rw [hth]
                  have HTH := Lib.hid hth
                  clear hb4 z0 hth hx4 hrd4
                  cases th with
                  | false =>
                    have HN := Lib.hid (show (bT.take (i + 1)).filter (fun y => !(findT aT y.1).2 || !sB (findT aT y.1).1 y) = (bT.take i).filter (fun y => !(findT aT y.1).2 || !sB (findT aT y.1).1 y) ++ [((k1 : Int), (l1 : Int), s1, d1, r1, e1, g1, ())] by rw [filt_step HFx.out, if_pos (by simp [HTH.out])])
                    go_wp2_with (first
                      | (refine wpL_store rfl 41 (.tmp 20) _ rfl w4.heap.size rfl _ _ 41 rfl (heap_alloc_new w4 _) rfl rfl (by intro v hv; simp at hv; rcases hv with rfl | rfl | rfl | rfl | rfl | rfl | rfl <;> rfl) ?_; intro w5 hx5 hg5; have hb5 : Below w4.heap.size w4 w5 := ((below_alloc1 w4 _).grown hg5 (by simp) (fun k e => by cases e; exact Nat.le_refl _)); have HB5 := Lib.hid (HB4.out.trans (hb5.mono HB4.out.size)); have HX5 := Lib.hid (blk_below HX4.out hb5 (blk_lt HX4.out)); have HW5 := Lib.hid hx5; have HP5 := Lib.hid (blk_below HP.out HB5.out (blk_lt HP.out)); have y0 := blk_at HP5.out 1 _ rfl; have z5 := blk_at HX5.out 0 _ rfl; have HA5 := Lib.hid (show Below wr.heap.size wr (w5.alloc (.cells ([Value.int .u64 k1, Value.int .u64 l1, Value.string s1, Value.bool d1, Value.float .f64 r1, Value.float .f64 e1, Value.slice A1 g1.length c1]).toArray 41)) from HB5.out.alloc HB5.out.size _); have HP6 := Lib.hid (blk_alloc HP5.out (.cells ([Value.int .u64 k1, Value.int .u64 l1, Value.string s1, Value.bool d1, Value.float .f64 r1, Value.float .f64 e1, Value.slice A1 g1.length c1]).toArray 41)); have b0 := blk_at hx5 0 _ rfl; have zz0 := blk_at HX5.out 0 _ rfl; have b1 := blk_at hx5 1 _ rfl; have zz1 := blk_at HX5.out 1 _ rfl; have b2 := blk_at hx5 2 _ rfl; have zz2 := blk_at HX5.out 2 _ rfl; have b3 := blk_at hx5 3 _ rfl; have zz3 := blk_at HX5.out 3 _ rfl; have b4 := blk_at hx5 4 _ rfl; have zz4 := blk_at HX5.out 4 _ rfl; have b5 := blk_at hx5 5 _ rfl; have zz5 := blk_at HX5.out 5 _ rfl; have b6 := blk_at hx5 6 _ rfl; have zz6 := blk_at HX5.out 6 _ rfl; have HB45 := Lib.hid hb5; clear hx5 hg5 hb5)
                      | (refine wpL_load rfl 41 _ rfl _ rfl _ _ (At.blk HX5.out) Try.underlying41 rfl rfl ?_)
                      | (refine wpL_lit1 rfl (cs := [Value.int .u64 k1, Value.int .u64 l1, Value.string s1, Value.bool d1, Value.float .f64 r1, Value.float .f64 e1, Value.slice A1 g1.length c1]) (.tmp 126) rfl rfl Try.underlying23 info_task2 rfl (by decide) (by decide) rfl ?_)
                      | (at_builtin; go_loud (refine wp_appO (w0 := w5.alloc (.cells ([Value.int .u64 k1, Value.int .u64 l1, Value.string s1, Value.bool d1, Value.float .f64 r1, Value.float .f64 e1, Value.slice A1 g1.length c1]).toArray 41)) (m := 1) (S := TASK) (r := [((k1 : Int), (l1 : Int), s1, d1, r1, e1, g1, ())]) (ys := [Value.int .u64 k1, Value.int .u64 l1, Value.string s1, Value.bool d1, Value.float .f64 r1, Value.float .f64 e1, Value.slice A1 g1.length c1]) rfl (.tmp 125) (.tmp 127) rfl (HOn4.out.below HA5.out) rfl (fun e => by cases e) (fun ad' e => by cases e; exact At.blk (heap_alloc_new w5 _)) (RdL.single ((HRx.out.below HA5.out).weak (fun k hk _ => ⟨hk, fun e => by have := ownG_base HOn4.out k e; omega⟩))) (Below.refl _ _) Try.underlying23 info_task2 rfl (by decide) rfl rfl (by rw [hqn4, bytes_task2]; omega) (by rw [hqn4]; omega) (by have := HA5.out.size; omega) ?_; intro v6 w6 hO6 _ hg6 _; have HG6 := Lib.hid (gb_grown (gb_below HG.out HA5.out) hg6 (fun g e => by have := ownG_base HOn4.out g e; omega)); have HC6 := Lib.hid ((HC.out.trans (HA5.out.mono HC.out.size)).grown hg6 (Nat.le_trans HC.out.size HA5.out.size) (fun k e => by have := ownG_base HOn4.out k e; omega)); have HP7 := Lib.hid (blk_app HP6.out hg6 (fun g e => ownG_base HOn4.out g e) (by omega)); obtain ⟨A6, c6, rfl, _⟩ := OwnG.form hO6; have hl6 : ((bT.take i).filter (fun y => !(findT aT y.1).2 || !sB (findT aT y.1).1 y) ++ [((k1 : Int), (l1 : Int), s1, d1, r1, e1, g1, ())]).length = qn4 + 1 := (by rw [List.length_append, hqn4]; rfl); rw [hl6] at hO6 ⊢; have HO6 := Lib.hid hO6; have y6 := blk_at HP7.out 1 _ rfl; have f6 := blk_free HP7.out 1; clear hl6 hO6 hg6)))
                    go_roundw
                    case measure => simp [intOf]; omega
                    case rel => exact ⟨i + 1, _, by omega, by go_num, blk_set HP7.out 1 _, by rw [HN.out]; exact ownG_other HO6.out (grown_one (grown_none w6 _)) (by omega) (fun k hk => by omega), gb_set HG6.out 1 _, HC6.out.setCell (p := ⟨bp, 1, none⟩) (by show wc.heap.size ≤ bp; omega) _⟩
                  | true =>
                    go_wp2_with (refine wpL_store rfl 41 (.tmp 20) _ rfl w4.heap.size rfl _ _ 41 rfl (heap_alloc_new w4 _) rfl rfl (by intro v hv; simp at hv; rcases hv with rfl | rfl | rfl | rfl | rfl | rfl | rfl <;> rfl) ?_; intro w5 hx5 hg5; have hb5 : Below w4.heap.size w4 w5 := ((below_alloc1 w4 _).grown hg5 (by simp) (fun k e => by cases e; exact Nat.le_refl _)); have HB5 := Lib.hid (HB4.out.trans (hb5.mono HB4.out.size)); have HX5 := Lib.hid (blk_below HX4.out hb5 (blk_lt HX4.out)); have HW5 := Lib.hid hx5; have HP5 := Lib.hid (blk_below HP.out HB5.out (blk_lt HP.out)); have y0 := blk_at HP5.out 1 _ rfl; have z5 := blk_at HX5.out 0 _ rfl; have HA5 := Lib.hid (show Below wr.heap.size wr (w5.alloc (.cells ([Value.int .u64 k1, Value.int .u64 l1, Value.string s1, Value.bool d1, Value.float .f64 r1, Value.float .f64 e1, Value.slice A1 g1.length c1]).toArray 41)) from HB5.out.alloc HB5.out.size _); have HP6 := Lib.hid (blk_alloc HP5.out (.cells ([Value.int .u64 k1, Value.int .u64 l1, Value.string s1, Value.bool d1, Value.float .f64 r1, Value.float .f64 e1, Value.slice A1 g1.length c1]).toArray 41)); have b0 := blk_at hx5 0 _ rfl; have zz0 := blk_at HX5.out 0 _ rfl; have b1 := blk_at hx5 1 _ rfl; have zz1 := blk_at HX5.out 1 _ rfl; have b2 := blk_at hx5 2 _ rfl; have zz2 := blk_at HX5.out 2 _ rfl; have b3 := blk_at hx5 3 _ rfl; have zz3 := blk_at HX5.out 3 _ rfl; have b4 := blk_at hx5 4 _ rfl; have zz4 := blk_at HX5.out 4 _ rfl; have b5 := blk_at hx5 5 _ rfl; have zz5 := blk_at HX5.out 5 _ rfl; have b6 := blk_at hx5 6 _ rfl; have zz6 := blk_at HX5.out 6 _ rfl; have HB45 := Lib.hid hb5; clear hx5 hg5 hb5)
                    refine (sametask_any w5 k4 l4 k1 l1 s4 s1 d4 d1 r4 e4 r1 e1 A4 A1 g4.length g1.length c4 c1 g4 g1 ok4.2.2.2.1 ok4.2.2.2.2 ok1.2.2.2.1 ok1.2.2.2.2 (rd_rows (hg4.below HB45.out)) (rd_rows (hg1.any.below HB5.out)) (by have h1 := (rd_rowsN hg4).1; have h2 := (rd_rowsN hg4).2.1; omega)).mono ?_
                    rintro e' w7 ⟨b7, rfl, hb7, hbw7⟩
                    have HBS := Lib.hid (show b7 = sB (findT aT k1).1 ((k1 : Int), (l1 : Int), s1, d1, r1, e1, g1, ()) by rw [HV4.out]; exact Bool.eq_iff_iff.2 (hb7.trans (hsB _ _).symm))
                    have HX5 := Lib.hid (blk_below HX5.out hbw7 (blk_lt HX5.out))
                    have HP5 := Lib.hid (blk_below HP5.out hbw7 (blk_lt HP5.out))
                    have HB5 := Lib.hid (HB5.out.trans (hbw7.mono HB5.out.size))
                    have HA5 := Lib.hid (show Below wr.heap.size wr (w7.alloc (.cells ([Value.int .u64 k1, Value.int .u64 l1, Value.string s1, Value.bool d1, Value.float .f64 r1, Value.float .f64 e1, Value.slice A1 g1.length c1]).toArray 41)) from HB5.out.alloc HB5.out.size _)
                    have HP6 := Lib.hid (blk_alloc HP5.out (.cells ([Value.int .u64 k1, Value.int .u64 l1, Value.string s1, Value.bool d1, Value.float .f64 r1, Value.float .f64 e1, Value.slice A1 g1.length c1]).toArray 41))
                    have y0 := blk_at HP5.out 1 _ rfl
                    clear hb7 hbw7 z5 b0 zz0 b1 zz1 b2 zz2 b3 zz3 b4 zz4 b5 zz5 b6 zz6
                    cases b7 with
                    | true =>
                      have HN := Lib.hid (show (bT.take (i + 1)).filter (fun y => !(findT aT y.1).2 || !sB (findT aT y.1).1 y) = (bT.take i).filter (fun y => !(findT aT y.1).2 || !sB (findT aT y.1).1 y) by rw [filt_step HFx.out, if_neg (by show ¬ ((!(findT aT k1).2 || !sB (findT aT k1).1 ((k1 : Int), (l1 : Int), s1, d1, r1, e1, g1, ())) = true); rw [HTH.out, ← HBS.out]; decide), List.append_nil])
                      go_wp2_with fail
                      go_roundw
                      case measure => simp [intOf]; omega
                      case rel => exact ⟨i + 1, _, by omega, by go_num, HP5.out, by rw [HN.out]; exact HOn4.out.below HB5.out, gb_below HG.out HB5.out, HC.out.trans (HB5.out.mono HC.out.size)⟩
                    | false =>
                      have HN := Lib.hid (show (bT.take (i + 1)).filter (fun y => !(findT aT y.1).2 || !sB (findT aT y.1).1 y) = (bT.take i).filter (fun y => !(findT aT y.1).2 || !sB (findT aT y.1).1 y) ++ [((k1 : Int), (l1 : Int), s1, d1, r1, e1, g1, ())] by rw [filt_step HFx.out, if_pos (by show (!(findT aT k1).2 || !sB (findT aT k1).1 ((k1 : Int), (l1 : Int), s1, d1, r1, e1, g1, ())) = true; rw [HTH.out, ← HBS.out]; rfl)])
                      go_wp2_with (first
                        | (refine wpL_load rfl 41 _ rfl _ rfl _ _ (At.blk HX5.out) Try.underlying41 rfl rfl ?_)
                        | (refine wpL_lit1 rfl (cs := [Value.int .u64 k1, Value.int .u64 l1, Value.string s1, Value.bool d1, Value.float .f64 r1, Value.float .f64 e1, Value.slice A1 g1.length c1]) (.tmp 126) rfl rfl Try.underlying23 info_task2 rfl (by decide) (by decide) rfl ?_)
                        | (at_builtin; go_loud (refine wp_appO (w0 := w7.alloc (.cells ([Value.int .u64 k1, Value.int .u64 l1, Value.string s1, Value.bool d1, Value.float .f64 r1, Value.float .f64 e1, Value.slice A1 g1.length c1]).toArray 41)) (m := 1) (S := TASK) (r := [((k1 : Int), (l1 : Int), s1, d1, r1, e1, g1, ())]) (ys := [Value.int .u64 k1, Value.int .u64 l1, Value.string s1, Value.bool d1, Value.float .f64 r1, Value.float .f64 e1, Value.slice A1 g1.length c1]) rfl (.tmp 125) (.tmp 127) rfl (HOn4.out.below HA5.out) rfl (fun e => by cases e) (fun ad' e => by cases e; exact At.blk (heap_alloc_new w7 _)) (RdL.single ((HRx.out.below HA5.out).weak (fun k hk _ => ⟨hk, fun e => by have := ownG_base HOn4.out k e; omega⟩))) (Below.refl _ _) Try.underlying23 info_task2 rfl (by decide) rfl rfl (by rw [hqn4, bytes_task2]; omega) (by rw [hqn4]; omega) (by have := HA5.out.size; omega) ?_; intro v6 w6 hO6 _ hg6 _; have HG6 := Lib.hid (gb_grown (gb_below HG.out HA5.out) hg6 (fun g e => by have := ownG_base HOn4.out g e; omega)); have HC6 := Lib.hid ((HC.out.trans (HA5.out.mono HC.out.size)).grown hg6 (Nat.le_trans HC.out.size HA5.out.size) (fun k e => by have := ownG_base HOn4.out k e; omega)); have HP7 := Lib.hid (blk_app HP6.out hg6 (fun g e => ownG_base HOn4.out g e) (by omega)); obtain ⟨A6, c6, rfl, _⟩ := OwnG.form hO6; have hl6 : ((bT.take i).filter (fun y => !(findT aT y.1).2 || !sB (findT aT y.1).1 y) ++ [((k1 : Int), (l1 : Int), s1, d1, r1, e1, g1, ())]).length = qn4 + 1 := (by rw [List.length_append, hqn4]; rfl); rw [hl6] at hO6 ⊢; have HO6 := Lib.hid hO6; have y6 := blk_at HP7.out 1 _ rfl; have f6 := blk_free HP7.out 1; clear hl6 hO6 hg6)))
                      go_roundw
                      case measure => simp [intOf]; omega
                      case rel => exact ⟨i + 1, _, by omega, by go_num, blk_set HP7.out 1 _, by rw [HN.out]; exact ownG_other HO6.out (grown_one (grown_none w6 _)) (by omega) (fun k hk => by omega), gb_set HG6.out 1 _, HC6.out.setCell (p := ⟨bp, 1, none⟩) (by show wc.heap.size ≤ bp; omega) _⟩
                · obtain rfl : bm = i := by omega
                  rw [List.take_of_length_le (by have := HR3.out.1; omega)] at HOn4 hqn4
                  obtain ⟨W5, hWW⟩ : ∃ x, x = wr := ⟨_, rfl⟩
                  subst hWW
                  have HOn1 := Lib.hid (ownG_other HOn1.out HG.out (by omega) (fun k hk => by omega))
                  have HOn2 := Lib.hid (ownG_other HOn2.out HG.out (by omega) (fun k hk => by omega))
                  have HOn3 := Lib.hid (ownG_other HOn3.out HG.out (by omega) (fun k hk => by omega))
                  have HP0 := HP
                  have HC0 := Lib.hid hC
                  have hs5 : bp < W5.heap.size := blk_lt HP.out
                  clear hC hlt
                  have hx2l := blk_lt HX2.out
                  have HZ5 := Lib.hid (blk_below HX2.out HC0.out (by omega))
                  have HB5 := Lib.hid (HBW.out.trans (HC0.out.mono HBW.out.size))
                  go_wp2_with (first
                    | (refine wpL_load rfl 30 _ rfl _ rfl _ _ (At.blk HP0.out) Try.underlying30 rfl rfl ?_)
                    | (refine wpL_store rfl 30 (.tmp 4) _ rfl (w.heap.size + 2) rfl _ _ 30 rfl HZ5.out rfl rfl (by intro v hv; simp at hv; rcases hv with rfl | rfl | rfl | rfl <;> rfl) ?_; intro w8 hw8 hg8))
                  refine bodyPost_ret (results_cell_row rfl _ _ (w.heap.size + 2) 30 _ (0, 0) _ rfl hw8 Try.underlying30 rfl rfl) rfl ?_
                  have r1 := rd_rows (OwnG.rd (ownG_other HOn1.out hg8 (by omega) (fun k hk => by omega)))
                  have r2 := rd_rows (OwnG.rd (ownG_other HOn2.out hg8 (by omega) (fun k hk => by omega)))
                  have r3 := rd_rows (OwnG.rd (ownG_other HOn3.out hg8 (by omega) (fun k hk => by omega)))
                  have r4 := rd_rows (OwnG.rd (ownG_other HOn4.out hg8 (by omega) (fun k hk => by omega)))
                  have hbw8 : Below w.heap.size w w8 := HB5.out.grown hg8 HB5.out.size (fun k e => by injection e; omega)
                  exact ⟨_, _, _, _, _, _, _, _, _, _, _, _, rfl, aL, aT, bL, bT, HCA.out, HCB.out, r3, r4, r1, r2, hbw8⟩
end Go.Proofs.Ytfjnpiahloncmaa
