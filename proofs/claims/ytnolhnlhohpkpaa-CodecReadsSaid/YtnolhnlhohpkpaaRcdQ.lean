import Derived.Test.YtnolhnlhohpkpaaRcdP
namespace Go.Proofs.Ytnolhnlhohpkpaa
open Go.RowKit Cdc
set_option linter.unusedVariables false
set_option linter.unusedSimpArgs false
attribute [local go_sem] run_store_float
set_option maxRecDepth 20000 in
theorem Own.keep {w w' : World} {base : Nat} {e : TypeId} {s : Sh} {v : Value} {l : List s.Ty} (h : Own w base e s v l) (hk : ∀ b, base ≤ b → b < w.heap.size → w'.heap[b]? = w.heap[b]?) : Own w' base e s v l := by
  obtain ⟨xs, ho, hr⟩ := h
  have hr2 := hr.of (w' := w) (ok' := fun k => (base ≤ k ∧ v.ownBlock ≠ some k) ∧ k < w.heap.size) (fun _ _ _ hc => hc) (fun k hk hlt => ⟨hk, hlt⟩)
  refine ⟨xs, ?_, hr2.of (fun a u hok hc => ?_) (fun _ h _ => h.1)⟩
  · obtain ⟨h1, h2 | ⟨g', cap, cur, hv, hg, hh, h3⟩⟩ := ho
    · exact ⟨h1, .inl h2⟩
    · exact ⟨h1, .inr ⟨g', cap, cur, hv, hg, (hk g' hg (Array.getElem?_eq_some_iff.1 hh).1).trans hh, h3⟩⟩
  · have := hk a.block hok.1.1 hok.2
    simpa [World.cell?, this] using hc
set_option maxRecDepth 20000 in
theorem rstart {wr w1 : World} {t : TypeId} {c0 : Array Value} (hg1 : (wr.alloc (.cells c0 t)).grownBy w1 (some wr.heap.size)) : Below wr.heap.size wr w1 ∧ wr.heap.size + 1 ≤ w1.heap.size :=
  ⟨(below_alloc1 wr _).grown hg1 (by simp) (fun k e => by injection e with e; omega), by have := hg1.size; simpa using this⟩
set_option maxRecDepth 20000 in
theorem rstep {wr w1 w2 : World} {M base g j : Nat} {t e : TypeId} {v vo : Value} {c : Array Value} {l : List PartT} {s1 : St} (hst : Below wr.heap.size wr w1 ∧ wr.heap.size + 1 ≤ w1.heap.size) (hc : w1.heap[wr.heap.size]? = some (.cells c t (0, 0))) (hgr : w1.grownBy w2 (some g)) (hgb : g < base) (hbw : base ≤ wr.heap.size) (hMg : M ≤ g) (hO : Own wr base e PART vo l) (hr : RfAt w2 M g s1) :
    (w2.setCell ⟨wr.heap.size, j, none⟩ v).heap[wr.heap.size]? = some (.cells (c.setIfInBounds j v) t (0, 0)) ∧ Own (w2.setCell ⟨wr.heap.size, j, none⟩ v) base e PART vo l ∧ RfAt (w2.setCell ⟨wr.heap.size, j, none⟩ v) M g s1 ∧
    (∀ {B w}, Below B w wr → B ≤ g → Below B w (w2.setCell ⟨wr.heap.size, j, none⟩ v)) ∧ wr.heap.size + 1 ≤ (w2.setCell ⟨wr.heap.size, j, none⟩ v).heap.size ∧
    (∀ {s : Sh} {x : s.Ty} {cs : List Value}, Rd w2 (fun b => w1.heap.size ≤ b) s x cs → Rd (w2.setCell ⟨wr.heap.size, j, none⟩ v) (fun b => wr.heap.size + 1 ≤ b) s x cs) := by
  have hsz : (w2.setCell ⟨wr.heap.size, j, none⟩ v).heap.size = w2.heap.size := by simp [World.setCell]
  have hkeep : ∀ b, b < wr.heap.size → b ≠ g → (w2.setCell ⟨wr.heap.size, j, none⟩ v).heap[b]? = wr.heap[b]? := fun b hb hne => by
    rw [Below.heap_setCell _ _ _ _ (show b ≠ wr.heap.size by omega)]
    exact (hgr.block b (by omega) (by intro e; injection e with e; exact hne e)).trans (hst.1.block b hb)
  refine ⟨blk_set (blk_grown hc hgr (by intro e; injection e with e; omega)) j v, hO.keep (fun b h1 h2 => hkeep b h2 (by omega)), hr.keep (fun b hb hlt => Below.heap_setCell _ _ _ _ (show b ≠ wr.heap.size by rcases hb with h | h <;> omega)), fun {B w} hb hB => ?_, by have := hgr.size; rw [hsz]; omega, fun {s x cs} h => ?_⟩
  · have h2 := hst.1.mono (show B ≤ wr.heap.size by omega)
    exact (((hb.trans h2).grown hgr (show B ≤ w1.heap.size by have := hst.2; omega) (fun k e => by injection e with e; omega))).setCell (show B ≤ wr.heap.size by omega) _
  · refine h.of (fun a u hk hc => ?_) (fun k hk _ => by have := hst.2; omega)
    rw [World.cell?_setCell_far _ _ _ _ (by have := hst.2; show wr.heap.size ≠ a.block; omega)]; exact hc
set_option maxHeartbeats 4000000 in
set_option maxRecDepth 20000 in
theorem rparts_any (w : World) (A : Option Addr) (n c : Nat) (xs : List UInt8) (h : Rd w anyB (.sl .byte) xs [.slice A n c]) (hn : xs.length ≤ 100000) (K : Option Addr) (m ck : Nat) (ks : List Int) (hk : Rows w anyB (.int .i64) K m ks) (hm : m ≤ 100) :
    Calls Try.prog 13 #[.slice A n c, .slice K m ck] w (PartsPost w xs ks) := by
  obtain ⟨A', c', e, h1, h2, h3, h4⟩ := rd_bs h
  injection e with e1 e2 e3
  subst e1 e2 e3
  have hR0 : RfAt (w.alloc (.cells #[.slice A xs.length c, .bool false] 47)) w.heap.size w.heap.size (xs, false) :=
    ⟨A, c, heap_alloc_new w _, h1, h2, h3, h4.below (below_alloc1 w _), fun hx ad e => by subst e; exact h4.lt hx, Nat.le_refl _, fun e => by cases e⟩
  have HR0 := Lib.hid hR0
  have HB0 := Lib.hid (below_alloc1 w (.cells #[.slice A xs.length c, .bool false] 47))
  clear h h4 hR0
  go_enter Try.func13, Try.ntmps13
  go_wp2_with fail
  go_loopw [7, 16] (fun s7 s16 wr => ∃ (i : Nat) (v : Value) (l : List PartT) (s : St), i ≤ m ∧ v = s7 ∧ s16 = .int .i64 i ∧ rdParts ofN (ks.take i) (xs, false) = some (l, s) ∧ Own wr (w.heap.size + 1) 39 PART v l ∧ RfAt wr w.heap.size w.heap.size s ∧ w.heap.size + 1 ≤ wr.heap.size ∧ Below w.heap.size w wr) (fun _ s16 _ => m - (intOf s16).toNat)
  case atStart => exact ⟨0, _, [], (xs, false), by omega, rfl, rfl, rfl, Own.nil _ _ _ _, HR0.out, by simp, HB0.out⟩
  case round =>
    obtain ⟨i, v, l, s, hi, rfl, rfl, hrp, hO, hR, hz, hbel⟩ := hrel
    have hkl := hk.1
    obtain ⟨Ao, co, rfl, _⟩ := (OwnG.form hO)
    have HR := Lib.hid hR
    have hll := (rdParts_len _ _ _ _ hrp)
    have hl1 : l.length = i := by rw [hll.1, List.length_take]; omega
    have hl2 : s.1.length ≤ 100000 := Nat.le_trans hll.2 hn
    have HP := Lib.hid hrp
    rw [hl1] at hO ⊢
    have HO := Lib.hid hO
    clear hO hR hrp hll
    by_cases hlti : i < m
    · obtain ⟨k, hx⟩ : ∃ k, ks[i]? = some k := ⟨ks[i]'(by omega), List.getElem?_eq_getElem (by omega)⟩
      obtain ⟨ad, rfl⟩ : ∃ ad, K = some ad := by cases K with
        | none => exact absurd (hk.2.1 rfl) (by omega)
        | some ad => exact ⟨ad, rfl⟩
      obtain ⟨hc, hwf⟩ := int_at (hk.below hbel) hx
      have i0 : (0 : Int) ≤ (i : Int) := by omega
      have i1 : (i : Int) < (m : Int) := by omega
      have HW := Lib.hid hwf
      have hgl := HR.out.lt
      by_cases k1 : k = 1
      · subst k1
        obtain ⟨n, s1, hns⟩ : ∃ n s1, rdN FULL s = (n, s1) := ⟨_, _, rfl⟩
        have HN := Lib.hid hns
        have HV := Lib.hid (show rdParts ofN (ks.take (i + 1)) (xs, false) = some (l ++ [(1, (n : Int), 0, 0, [], false, ())], s1) by rw [take_at hx, rdParts_snoc, HP.out]; simp only; unfold rdPart; simp only [hns]; rfl)
        have hlt := rdN_lt (most := FULL) (s := s) (by unfold FULL; omega)
        rw [hns] at hlt
        have HLT := Lib.hid hlt
        clear hlt
        clear hx hwf hns
        go_wp2_with (first
          | (refine wpL_store rfl 39 (.tmp 10) (.tmp 21) rfl wr.heap.size rfl _ _ 39 rfl (heap_alloc_new wr _) rfl rfl (by intro v hv; simp at hv; rcases hv with rfl | rfl | rfl | rfl | rfl | rfl <;> rfl) ?_
             intro w1 hc1 hg1
             have HC1 := Lib.hid hc1
             have HS := Lib.hid (rstart hg1)
             clear hc1 hg1)
          | (go_at_call 22
             refine (rrN_any w1 w.heap.size w.heap.size 18446744073709551615 s (HR.out.below HS.out.1)).mono ?_
             rintro e w2 ⟨rfl, hr, hgr⟩
             rw [show rdN 18446744073709551615 s = _ from HN.out] at hr ⊢
             have q1 := blk_grown HC1.out hgr (by intro e; injection e with e; omega)
             have c1 := blk_at q1 1 _ rfl
             have f1 := blk_free q1 1
             have HG := Lib.hid hgr
             have HR2 := Lib.hid hr
             clear q1 hr hgr)
          | (have F := Lib.hid (rstep (j := 1) (v := .int .u64 (n : Int)) HS.out HC1.out HG.out (Nat.lt_succ_self _) hz (Nat.le_refl _) HO.out HR2.out)
             have D := Lib.hid (F.out.2.2.2.2.2 (rd_part_nil HW.out (partOk_of (Int.natCast_nonneg _) (by have := HLT.out; omega) (by decide) (by decide) (by decide)) : Rd w2 (fun b => w1.heap.size ≤ b) PART (1, (n : Int), 0, 0, [], false, ()) [.int .i64 1, .int .u64 (n : Int), .int .i64 0, .float .f64 0, .slice none 0 0, .bool false]))
             have G := Lib.hid (F.out.2.2.2.1 hbel (Nat.le_refl _))
             obtain ⟨W, hW⟩ : ∃ W, w2.setCell ⟨wr.heap.size, 1, none⟩ (.int .u64 (n : Int)) = W := ⟨_, rfl⟩
             rw [hW] at F D G ⊢
             refine wpL_load rfl 39 (.tmp 10) rfl ⟨wr.heap.size, 0, none⟩ rfl [.int .i64 1, .int .u64 (n : Int), .int .i64 0, .float .f64 0, .slice none 0 0, .bool false] _ (At.blk F.out.1) Try.underlying39 rfl rfl ?_)
          | (refine wpL_lit1 rfl (cs := [.int .i64 1, .int .u64 (n : Int), .int .i64 0, .float .f64 0, .slice none 0 0, .bool false]) (.tmp 49) rfl rfl Try.underlying22 info_part rfl (by decide) (by decide) rfl ?_)
          | (at_builtin
             refine wp_appO (w0 := W.alloc (.cells ([.int .i64 1, .int .u64 (n : Int), .int .i64 0, .float .f64 0, .slice none 0 0, .bool false] : List Value).toArray 39)) (m := 1) (r := [(1, (n : Int), 0, 0, [], false, ())]) (ys := [.int .i64 1, .int .u64 (n : Int), .int .i64 0, .float .f64 0, .slice none 0 0, .bool false]) rfl (.tmp 48) (.tmp 50) rfl (OwnG.below F.out.2.1 (below_alloc1 W _)) rfl (fun e => by cases e) (fun ad' e => by cases e; exact At.blk (heap_alloc_new W _)) (RdL.single ?_) (Below.refl _ _) Try.underlying22 info_part rfl (by decide) rfl rfl (by rw [bytes_part]; omega) (by omega) ?_ ?_
             · exact HO.out.apart (B := wr.heap.size + 1) (Nat.le_succ _) (by omega) D.out (below_alloc1 W _)
             · have := F.out.2.2.2.2.1; simp; omega
             intro v7 w7 hO7 hb7 _ _
             have HO7 := Lib.hid hO7
             have HB7 := Lib.hid hb7
             obtain ⟨A7, c7, rfl, _⟩ := OwnG.form hO7
             clear hO7 hb7))
        go_roundw
        case measure => simp [intOf]; omega
        case rel =>
          have zW := F.out.2.2.2.2.1
          have z7 := HB7.out.size
          have za : (W.alloc (.cells ([.int .i64 1, .int .u64 (n : Int), .int .i64 0, .float .f64 0, .slice none 0 0, .bool false] : List Value).toArray 39)).heap.size = W.heap.size + 1 := by simp
          rw [za] at z7
          have hO7 := HO7.out
          have hlen : (l ++ [((1, (n : Int), 0, 0, [], false, ()) : PartT)]).length = i + 1 := by simp [hl1]
          rw [hlen] at hO7
          have hB7 := G.out.trans (((below_alloc1 W (.cells ([.int .i64 1, .int .u64 (n : Int), .int .i64 0, .float .f64 0, .slice none 0 0, .bool false] : List Value).toArray 39)).mono (by omega)).trans (HB7.out.mono (by omega)))
          exact ⟨i + 1, _, l ++ [(1, (n : Int), 0, 0, [], false, ())], s1, by omega, rfl, by go_num, HV.out, hO7, (F.out.2.2.1.below (below_alloc1 W _)).keep (fun b hb hlt => HB7.out.block b (by rcases hb with h | h <;> omega)), by omega, hB7⟩
      by_cases k2 : k = 2
      · subst k2
        obtain ⟨n, s1, hns⟩ : ∃ n s1, rdI s = (n, s1) := ⟨_, _, rfl⟩
        have HN := Lib.hid hns
        have HV := Lib.hid (show rdParts ofN (ks.take (i + 1)) (xs, false) = some (l ++ [(2, 0, n, 0, [], false, ())], s1) by rw [take_at hx, rdParts_snoc, HP.out]; simp only; unfold rdPart; simp only [hns]; rfl)
        have hlt := rdI_range s
        rw [hns] at hlt
        have HLT := Lib.hid hlt
        clear hlt
        clear hx hwf hns
        go_wp2_with (first
          | (refine wpL_store rfl 39 (.tmp 10) (.tmp 21) rfl wr.heap.size rfl _ _ 39 rfl (heap_alloc_new wr _) rfl rfl (by intro v hv; simp at hv; rcases hv with rfl | rfl | rfl | rfl | rfl | rfl <;> rfl) ?_
             intro w1 hc1 hg1
             have HC1 := Lib.hid hc1
             have HS := Lib.hid (rstart hg1)
             clear hc1 hg1)
          | (go_at_call 24
             refine (rrI_any w1 w.heap.size w.heap.size s (HR.out.below HS.out.1)).mono ?_
             rintro e w2 ⟨rfl, hr, hgr⟩
             rw [show rdI s = _ from HN.out] at hr ⊢
             have q1 := blk_grown HC1.out hgr (by intro e; injection e with e; omega)
             have c1 := blk_at q1 2 _ rfl
             have f1 := blk_free q1 2
             have HG := Lib.hid hgr
             have HR2 := Lib.hid hr
             clear q1 hr hgr)
          | (have F := Lib.hid (rstep (j := 2) (v := .int .i64 n) HS.out HC1.out HG.out (Nat.lt_succ_self _) hz (Nat.le_refl _) HO.out HR2.out)
             have D := Lib.hid (F.out.2.2.2.2.2 (rd_part_nil HW.out (partOk_of (by decide) (by decide) HLT.out.1 HLT.out.2 (by decide)) : Rd w2 (fun b => w1.heap.size ≤ b) PART (2, 0, n, 0, [], false, ()) [.int .i64 2, .int .u64 0, .int .i64 n, .float .f64 0, .slice none 0 0, .bool false]))
             have G := Lib.hid (F.out.2.2.2.1 hbel (Nat.le_refl _))
             obtain ⟨W, hW⟩ : ∃ W, w2.setCell ⟨wr.heap.size, 2, none⟩ (.int .i64 n) = W := ⟨_, rfl⟩
             rw [hW] at F D G ⊢
             refine wpL_load rfl 39 (.tmp 10) rfl ⟨wr.heap.size, 0, none⟩ rfl [.int .i64 2, .int .u64 0, .int .i64 n, .float .f64 0, .slice none 0 0, .bool false] _ (At.blk F.out.1) Try.underlying39 rfl rfl ?_)
          | (refine wpL_lit1 rfl (cs := [.int .i64 2, .int .u64 0, .int .i64 n, .float .f64 0, .slice none 0 0, .bool false]) (.tmp 49) rfl rfl Try.underlying22 info_part rfl (by decide) (by decide) rfl ?_)
          | (at_builtin
             refine wp_appO (w0 := W.alloc (.cells ([.int .i64 2, .int .u64 0, .int .i64 n, .float .f64 0, .slice none 0 0, .bool false] : List Value).toArray 39)) (m := 1) (r := [(2, 0, n, 0, [], false, ())]) (ys := [.int .i64 2, .int .u64 0, .int .i64 n, .float .f64 0, .slice none 0 0, .bool false]) rfl (.tmp 48) (.tmp 50) rfl (OwnG.below F.out.2.1 (below_alloc1 W _)) rfl (fun e => by cases e) (fun ad' e => by cases e; exact At.blk (heap_alloc_new W _)) (RdL.single ?_) (Below.refl _ _) Try.underlying22 info_part rfl (by decide) rfl rfl (by rw [bytes_part]; omega) (by omega) ?_ ?_
             · exact HO.out.apart (B := wr.heap.size + 1) (Nat.le_succ _) (by omega) D.out (below_alloc1 W _)
             · have := F.out.2.2.2.2.1; simp; omega
             intro v7 w7 hO7 hb7 _ _
             have HO7 := Lib.hid hO7
             have HB7 := Lib.hid hb7
             obtain ⟨A7, c7, rfl, _⟩ := OwnG.form hO7
             clear hO7 hb7))
        go_roundw
        case measure => simp [intOf]; omega
        case rel =>
          have zW := F.out.2.2.2.2.1
          have z7 := HB7.out.size
          have za : (W.alloc (.cells ([.int .i64 2, .int .u64 0, .int .i64 n, .float .f64 0, .slice none 0 0, .bool false] : List Value).toArray 39)).heap.size = W.heap.size + 1 := by simp
          rw [za] at z7
          have hO7 := HO7.out
          have hlen : (l ++ [((2, 0, n, 0, [], false, ()) : PartT)]).length = i + 1 := by simp [hl1]
          rw [hlen] at hO7
          have hB7 := G.out.trans (((below_alloc1 W (.cells ([.int .i64 2, .int .u64 0, .int .i64 n, .float .f64 0, .slice none 0 0, .bool false] : List Value).toArray 39)).mono (by omega)).trans (HB7.out.mono (by omega)))
          exact ⟨i + 1, _, l ++ [(2, 0, n, 0, [], false, ())], s1, by omega, rfl, by go_num, HV.out, hO7, (F.out.2.2.1.below (below_alloc1 W _)).keep (fun b hb hlt => HB7.out.block b (by rcases hb with h | h <;> omega)), by omega, hB7⟩
      by_cases k3 : k = 3
      · subst k3
        obtain ⟨n, s1, hns⟩ : ∃ n s1, rdF ofN s = (n, s1) := ⟨_, _, rfl⟩
        have HN := Lib.hid hns
        have HV := Lib.hid (show rdParts ofN (ks.take (i + 1)) (xs, false) = some (l ++ [(3, 0, 0, n, [], false, ())], s1) by rw [take_at hx, rdParts_snoc, HP.out]; simp only; unfold rdPart; simp only [hns]; rfl)
        have hlt := rdF_range s
        rw [hns] at hlt
        have HLT := Lib.hid hlt
        clear hlt
        clear hx hwf hns
        go_wp2_with (first
          | (refine wpL_store rfl 39 (.tmp 10) (.tmp 21) rfl wr.heap.size rfl _ _ 39 rfl (heap_alloc_new wr _) rfl rfl (by intro v hv; simp at hv; rcases hv with rfl | rfl | rfl | rfl | rfl | rfl <;> rfl) ?_
             intro w1 hc1 hg1
             have HC1 := Lib.hid hc1
             have HS := Lib.hid (rstart hg1)
             clear hc1 hg1)
          | (go_at_call 27
             refine (rrF_any w1 w.heap.size w.heap.size s (HR.out.below HS.out.1)).mono ?_
             rintro e w2 ⟨rfl, hr, hgr⟩
             rw [show rdF ofN s = _ from HN.out] at hr ⊢
             have q1 := blk_grown HC1.out hgr (by intro e; injection e with e; omega)
             have c1 := blk_at q1 3 _ rfl
             have f1 := blk_free q1 3
             have HG := Lib.hid hgr
             have HR2 := Lib.hid hr
             clear q1 hr hgr)
          | (have F := Lib.hid (rstep (j := 3) (v := .float .f64 n) HS.out HC1.out HG.out (Nat.lt_succ_self _) hz (Nat.le_refl _) HO.out HR2.out)
             have D := Lib.hid (F.out.2.2.2.2.2 (rd_part_nil HW.out (partOk_of (by decide) (by decide) (by decide) (by decide) HLT.out) : Rd w2 (fun b => w1.heap.size ≤ b) PART (3, 0, 0, n, [], false, ()) [.int .i64 3, .int .u64 0, .int .i64 0, .float .f64 n, .slice none 0 0, .bool false]))
             have G := Lib.hid (F.out.2.2.2.1 hbel (Nat.le_refl _))
             obtain ⟨W, hW⟩ : ∃ W, w2.setCell ⟨wr.heap.size, 3, none⟩ (.float .f64 n) = W := ⟨_, rfl⟩
             rw [hW] at F D G ⊢
             refine wpL_load rfl 39 (.tmp 10) rfl ⟨wr.heap.size, 0, none⟩ rfl [.int .i64 3, .int .u64 0, .int .i64 0, .float .f64 n, .slice none 0 0, .bool false] _ (At.blk F.out.1) Try.underlying39 rfl rfl ?_)
          | (refine wpL_lit1 rfl (cs := [.int .i64 3, .int .u64 0, .int .i64 0, .float .f64 n, .slice none 0 0, .bool false]) (.tmp 49) rfl rfl Try.underlying22 info_part rfl (by decide) (by decide) rfl ?_)
          | (at_builtin
             refine wp_appO (w0 := W.alloc (.cells ([.int .i64 3, .int .u64 0, .int .i64 0, .float .f64 n, .slice none 0 0, .bool false] : List Value).toArray 39)) (m := 1) (r := [(3, 0, 0, n, [], false, ())]) (ys := [.int .i64 3, .int .u64 0, .int .i64 0, .float .f64 n, .slice none 0 0, .bool false]) rfl (.tmp 48) (.tmp 50) rfl (OwnG.below F.out.2.1 (below_alloc1 W _)) rfl (fun e => by cases e) (fun ad' e => by cases e; exact At.blk (heap_alloc_new W _)) (RdL.single ?_) (Below.refl _ _) Try.underlying22 info_part rfl (by decide) rfl rfl (by rw [bytes_part]; omega) (by omega) ?_ ?_
             · exact HO.out.apart (B := wr.heap.size + 1) (Nat.le_succ _) (by omega) D.out (below_alloc1 W _)
             · have := F.out.2.2.2.2.1; simp; omega
             intro v7 w7 hO7 hb7 _ _
             have HO7 := Lib.hid hO7
             have HB7 := Lib.hid hb7
             obtain ⟨A7, c7, rfl, _⟩ := OwnG.form hO7
             clear hO7 hb7))
        go_roundw
        case measure => simp [intOf]; omega
        case rel =>
          have zW := F.out.2.2.2.2.1
          have z7 := HB7.out.size
          have za : (W.alloc (.cells ([.int .i64 3, .int .u64 0, .int .i64 0, .float .f64 n, .slice none 0 0, .bool false] : List Value).toArray 39)).heap.size = W.heap.size + 1 := by simp
          rw [za] at z7
          have hO7 := HO7.out
          have hlen : (l ++ [((3, 0, 0, n, [], false, ()) : PartT)]).length = i + 1 := by simp [hl1]
          rw [hlen] at hO7
          have hB7 := G.out.trans (((below_alloc1 W (.cells ([.int .i64 3, .int .u64 0, .int .i64 0, .float .f64 n, .slice none 0 0, .bool false] : List Value).toArray 39)).mono (by omega)).trans (HB7.out.mono (by omega)))
          exact ⟨i + 1, _, l ++ [(3, 0, 0, n, [], false, ())], s1, by omega, rfl, by go_num, HV.out, hO7, (F.out.2.2.1.below (below_alloc1 W _)).keep (fun b hb hlt => HB7.out.block b (by rcases hb with h | h <;> omega)), by omega, hB7⟩
      by_cases k4 : k = 4
      · subst k4
        obtain ⟨n, s1, hns⟩ : ∃ n s1, rdB 65536 s = (n, s1) := ⟨_, _, rfl⟩
        have HN := Lib.hid hns
        have HV := Lib.hid (show rdParts ofN (ks.take (i + 1)) (xs, false) = some (l ++ [(4, 0, 0, 0, n, false, ())], s1) by rw [take_at hx, rdParts_snoc, HP.out]; simp only; unfold rdPart; simp only [hns]; rfl)
        clear hx hwf hns
        go_wp2_with (first
          | (refine wpL_store rfl 39 (.tmp 10) (.tmp 21) rfl wr.heap.size rfl _ _ 39 rfl (heap_alloc_new wr _) rfl rfl (by intro v hv; simp at hv; rcases hv with rfl | rfl | rfl | rfl | rfl | rfl <;> rfl) ?_
             intro w1 hc1 hg1
             have HC1 := Lib.hid hc1
             have HS := Lib.hid (rstart hg1)
             clear hc1 hg1)
          | (go_at_call 29
             refine (rrB_any w1 w.heap.size w.heap.size 65536 s (HR.out.below HS.out.1) (by omega) (by omega)).mono ?_
             rintro e w2 ⟨v', rfl, hv, hr, hgr⟩
             rw [show rdB 65536 s = _ from HN.out] at hr hv
             have q1 := blk_grown HC1.out hgr (by intro e; injection e with e; omega)
             have c1 := blk_at q1 4 _ rfl
             have f1 := blk_free q1 4
             have HG := Lib.hid hgr
             have HR2 := Lib.hid hr
             have HVB := Lib.hid hv
             obtain ⟨Ab, cb, rfl⟩ := rd_slice hv
             clear hv
             clear q1 hr hgr)
          | (have F := Lib.hid (rstep (j := 4) (v := .slice Ab n.length cb) HS.out HC1.out HG.out (Nat.lt_succ_self _) hz (Nat.le_refl _) HO.out HR2.out)
             have D := Lib.hid (F.out.2.2.2.2.2 (rd_part_mk HW.out (partOk_of (by decide) (by decide) (by decide) (by decide) (by decide)) HVB.out : Rd w2 (fun b => w1.heap.size ≤ b) PART (4, 0, 0, 0, n, false, ()) [.int .i64 4, .int .u64 0, .int .i64 0, .float .f64 0, .slice Ab n.length cb, .bool false]))
             have G := Lib.hid (F.out.2.2.2.1 hbel (Nat.le_refl _))
             obtain ⟨W, hW⟩ : ∃ W, w2.setCell ⟨wr.heap.size, 4, none⟩ (.slice Ab n.length cb) = W := ⟨_, rfl⟩
             rw [hW] at F D G ⊢
             refine wpL_load rfl 39 (.tmp 10) rfl ⟨wr.heap.size, 0, none⟩ rfl [.int .i64 4, .int .u64 0, .int .i64 0, .float .f64 0, .slice Ab n.length cb, .bool false] _ (At.blk F.out.1) Try.underlying39 rfl rfl ?_)
          | (refine wpL_lit1 rfl (cs := [.int .i64 4, .int .u64 0, .int .i64 0, .float .f64 0, .slice Ab n.length cb, .bool false]) (.tmp 49) rfl rfl Try.underlying22 info_part rfl (by decide) (by decide) rfl ?_)
          | (at_builtin
             refine wp_appO (w0 := W.alloc (.cells ([.int .i64 4, .int .u64 0, .int .i64 0, .float .f64 0, .slice Ab n.length cb, .bool false] : List Value).toArray 39)) (m := 1) (r := [(4, 0, 0, 0, n, false, ())]) (ys := [.int .i64 4, .int .u64 0, .int .i64 0, .float .f64 0, .slice Ab n.length cb, .bool false]) rfl (.tmp 48) (.tmp 50) rfl (OwnG.below F.out.2.1 (below_alloc1 W _)) rfl (fun e => by cases e) (fun ad' e => by cases e; exact At.blk (heap_alloc_new W _)) (RdL.single ?_) (Below.refl _ _) Try.underlying22 info_part rfl (by decide) rfl rfl (by rw [bytes_part]; omega) (by omega) ?_ ?_
             · exact HO.out.apart (B := wr.heap.size + 1) (Nat.le_succ _) (by omega) D.out (below_alloc1 W _)
             · have := F.out.2.2.2.2.1; simp; omega
             intro v7 w7 hO7 hb7 _ _
             have HO7 := Lib.hid hO7
             have HB7 := Lib.hid hb7
             obtain ⟨A7, c7, rfl, _⟩ := OwnG.form hO7
             clear hO7 hb7))
        go_roundw
        case measure => simp [intOf]; omega
        case rel =>
          have zW := F.out.2.2.2.2.1
          have z7 := HB7.out.size
          have za : (W.alloc (.cells ([.int .i64 4, .int .u64 0, .int .i64 0, .float .f64 0, .slice Ab n.length cb, .bool false] : List Value).toArray 39)).heap.size = W.heap.size + 1 := by simp
          rw [za] at z7
          have hO7 := HO7.out
          have hlen : (l ++ [((4, 0, 0, 0, n, false, ()) : PartT)]).length = i + 1 := by simp [hl1]
          rw [hlen] at hO7
          have hB7 := G.out.trans (((below_alloc1 W (.cells ([.int .i64 4, .int .u64 0, .int .i64 0, .float .f64 0, .slice Ab n.length cb, .bool false] : List Value).toArray 39)).mono (by omega)).trans (HB7.out.mono (by omega)))
          exact ⟨i + 1, _, l ++ [(4, 0, 0, 0, n, false, ())], s1, by omega, rfl, by go_num, HV.out, hO7, (F.out.2.2.1.below (below_alloc1 W _)).keep (fun b hb hlt => HB7.out.block b (by rcases hb with h | h <;> omega)), by omega, hB7⟩
      by_cases k5 : k = 5
      · subst k5
        obtain ⟨n, s1, hns⟩ : ∃ n s1, rdFlag s = (n, s1) := ⟨_, _, rfl⟩
        have HN := Lib.hid hns
        have HV := Lib.hid (show rdParts ofN (ks.take (i + 1)) (xs, false) = some (l ++ [(5, 0, 0, 0, [], n, ())], s1) by rw [take_at hx, rdParts_snoc, HP.out]; simp only; unfold rdPart; simp only [hns]; rfl)
        clear hx hwf hns
        go_wp2_with (first
          | (refine wpL_store rfl 39 (.tmp 10) (.tmp 21) rfl wr.heap.size rfl _ _ 39 rfl (heap_alloc_new wr _) rfl rfl (by intro v hv; simp at hv; rcases hv with rfl | rfl | rfl | rfl | rfl | rfl <;> rfl) ?_
             intro w1 hc1 hg1
             have HC1 := Lib.hid hc1
             have HS := Lib.hid (rstart hg1)
             clear hc1 hg1)
          | (go_at_call 31
             refine (rrFlag_any w1 w.heap.size w.heap.size s (HR.out.below HS.out.1)).mono ?_
             rintro e w2 ⟨rfl, hr, hgr⟩
             rw [show rdFlag s = _ from HN.out] at hr ⊢
             have q1 := blk_grown HC1.out hgr (by intro e; injection e with e; omega)
             have c1 := blk_at q1 5 _ rfl
             have f1 := blk_free q1 5
             have HG := Lib.hid hgr
             have HR2 := Lib.hid hr
             clear q1 hr hgr)
          | (have F := Lib.hid (rstep (j := 5) (v := .bool n) HS.out HC1.out HG.out (Nat.lt_succ_self _) hz (Nat.le_refl _) HO.out HR2.out)
             have D := Lib.hid (F.out.2.2.2.2.2 (rd_part_nil HW.out (partOk_of (by decide) (by decide) (by decide) (by decide) (by decide)) : Rd w2 (fun b => w1.heap.size ≤ b) PART (5, 0, 0, 0, [], n, ()) [.int .i64 5, .int .u64 0, .int .i64 0, .float .f64 0, .slice none 0 0, .bool n]))
             have G := Lib.hid (F.out.2.2.2.1 hbel (Nat.le_refl _))
             obtain ⟨W, hW⟩ : ∃ W, w2.setCell ⟨wr.heap.size, 5, none⟩ (.bool n) = W := ⟨_, rfl⟩
             rw [hW] at F D G ⊢
             refine wpL_load rfl 39 (.tmp 10) rfl ⟨wr.heap.size, 0, none⟩ rfl [.int .i64 5, .int .u64 0, .int .i64 0, .float .f64 0, .slice none 0 0, .bool n] _ (At.blk F.out.1) Try.underlying39 rfl rfl ?_)
          | (refine wpL_lit1 rfl (cs := [.int .i64 5, .int .u64 0, .int .i64 0, .float .f64 0, .slice none 0 0, .bool n]) (.tmp 49) rfl rfl Try.underlying22 info_part rfl (by decide) (by decide) rfl ?_)
          | (at_builtin
             refine wp_appO (w0 := W.alloc (.cells ([.int .i64 5, .int .u64 0, .int .i64 0, .float .f64 0, .slice none 0 0, .bool n] : List Value).toArray 39)) (m := 1) (r := [(5, 0, 0, 0, [], n, ())]) (ys := [.int .i64 5, .int .u64 0, .int .i64 0, .float .f64 0, .slice none 0 0, .bool n]) rfl (.tmp 48) (.tmp 50) rfl (OwnG.below F.out.2.1 (below_alloc1 W _)) rfl (fun e => by cases e) (fun ad' e => by cases e; exact At.blk (heap_alloc_new W _)) (RdL.single ?_) (Below.refl _ _) Try.underlying22 info_part rfl (by decide) rfl rfl (by rw [bytes_part]; omega) (by omega) ?_ ?_
             · exact HO.out.apart (B := wr.heap.size + 1) (Nat.le_succ _) (by omega) D.out (below_alloc1 W _)
             · have := F.out.2.2.2.2.1; simp; omega
             intro v7 w7 hO7 hb7 _ _
             have HO7 := Lib.hid hO7
             have HB7 := Lib.hid hb7
             obtain ⟨A7, c7, rfl, _⟩ := OwnG.form hO7
             clear hO7 hb7))
        go_roundw
        case measure => simp [intOf]; omega
        case rel =>
          have zW := F.out.2.2.2.2.1
          have z7 := HB7.out.size
          have za : (W.alloc (.cells ([.int .i64 5, .int .u64 0, .int .i64 0, .float .f64 0, .slice none 0 0, .bool n] : List Value).toArray 39)).heap.size = W.heap.size + 1 := by simp
          rw [za] at z7
          have hO7 := HO7.out
          have hlen : (l ++ [((5, 0, 0, 0, [], n, ()) : PartT)]).length = i + 1 := by simp [hl1]
          rw [hlen] at hO7
          have hB7 := G.out.trans (((below_alloc1 W (.cells ([.int .i64 5, .int .u64 0, .int .i64 0, .float .f64 0, .slice none 0 0, .bool n] : List Value).toArray 39)).mono (by omega)).trans (HB7.out.mono (by omega)))
          exact ⟨i + 1, _, l ++ [(5, 0, 0, 0, [], n, ())], s1, by omega, rfl, by go_num, HV.out, hO7, (F.out.2.2.1.below (below_alloc1 W _)).keep (fun b hb hlt => HB7.out.block b (by rcases hb with h | h <;> omega)), by omega, hB7⟩
      have b1 : (k == 1) = false := beq_eq_false_iff_ne.2 k1
      have b2 : (k == 2) = false := beq_eq_false_iff_ne.2 k2
      have b3 : (k == 3) = false := beq_eq_false_iff_ne.2 k3
      have b4 : (k == 4) = false := beq_eq_false_iff_ne.2 k4
      have b5 : (k == 5) = false := beq_eq_false_iff_ne.2 k5
      have hcut : ks = ks.take (i + 1) ++ ks.drop (i + 1) := (List.take_append_drop _ _).symm
      have HN := Lib.hid (show partsL ofN xs ks = none by
          unfold partsL
          rw [hcut, rdParts_none _ _ _ (show rdParts ofN (ks.take (i + 1)) (xs, false) = none by rw [take_at hx, rdParts_snoc, HP.out]; simp only; unfold rdPart; rw [if_neg k1, if_neg k2, if_neg k3, if_neg k4, if_neg k5])])
      clear hx hwf hcut k1 k2 k3 k4 k5
      go_wp2_with (first
          | (refine wpL_store rfl 39 (.tmp 10) (.tmp 21) rfl wr.heap.size rfl _ _ 39 rfl (heap_alloc_new wr _) rfl rfl (by intro v hv; simp at hv; rcases hv with rfl | rfl | rfl | rfl | rfl | rfl <;> rfl) ?_
             intro w1 hc1 hg1
             have HC1 := Lib.hid hc1
             have HS := Lib.hid (rstart hg1)
             clear hc1 hg1))
      refine bodyPost_ret (results_tmp2 rfl _ _ _) rfl ?_
      exact parts_bad HN.out (hbel.trans (HS.out.1.mono (by omega)))
    · obtain rfl : i = m := by omega
      have hall : ks.take i = ks := List.take_of_length_le (by omega)
      rw [hall] at HP
      have hrd := HO.out
      rw [← hl1] at hrd
      have HRD := Lib.hid (hrd.rd)
      rw [hl1] at HRD
      clear hrd hall
      by_cases hbad : s.2 = true ∨ s.1 ≠ []
      · have HN := Lib.hid (show partsL ofN xs ks = none by unfold partsL; rw [HP.out]; simp only; rw [if_pos hbad])
        have HE := Lib.hid (show (if s.2 = true ∨ s.1 ≠ [] then 20 else 0 : Int) = 20 from if_pos hbad)
        clear hbad
        go_wp2_with (go_at_call 34; refine (rrEnd_any wr _ _ s HR.out).mono ?_; rintro e w10 ⟨rfl, rfl⟩; rw [HE.out])
        refine bodyPost_ret (results_tmp2 rfl _ _ _) rfl ?_
        exact parts_bad HN.out hbel
      · have HN := Lib.hid (show partsL ofN xs ks = some l by unfold partsL; rw [HP.out]; simp only; rw [if_neg hbad])
        have HE := Lib.hid (show (if s.2 = true ∨ s.1 ≠ [] then 20 else 0 : Int) = 0 from if_neg hbad)
        clear hbad
        go_wp2_with (go_at_call 34; refine (rrEnd_any wr _ _ s HR.out).mono ?_; rintro e w10 ⟨rfl, rfl⟩; rw [HE.out])
        refine bodyPost_ret (results_tmp2 rfl _ _ _) rfl ?_
        exact parts_good HN.out (HRD.out.weak (fun b hb _ => by omega)) hbel
end Go.Proofs.Ytnolhnlhohpkpaa
