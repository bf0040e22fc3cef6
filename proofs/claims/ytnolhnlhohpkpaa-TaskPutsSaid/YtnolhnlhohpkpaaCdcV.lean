import Derived.Test.YtnolhnlhohpkpaaCdcU
namespace Go.Proofs.Ytnolhnlhohpkpaa
open Go.RowKit Cdc
set_option linter.unusedVariables false
set_option linter.unusedSimpArgs false
set_option maxRecDepth 20000 in
theorem Own.grown {w w' : World} {base g : Nat} {e : TypeId} {s : Sh} {v : Value} {l : List s.Ty} (h : Own w base e s v l) (hb : w.grownBy w' (some g)) (hlt : g < base) : Own w' base e s v l := by
  obtain ⟨xs, ho, hr⟩ := h
  refine ⟨xs, ?_, hr.of (fun a u hk hc => cell_grown hb hc (by intro e; injection e with e; have := hk.1; omega)) (fun _ h _ => h)⟩
  obtain ⟨h1, h2 | ⟨g', cap, cur, hv, hg, hh, h3⟩⟩ := ho
  · exact ⟨h1, .inl h2⟩
  · exact ⟨h1, .inr ⟨g', cap, cur, hv, hg, (hb.block g' (Array.getElem?_eq_some_iff.1 hh).1 (by intro e; injection e; omega)).trans hh, h3⟩⟩
set_option maxRecDepth 20000 in
theorem info_part : (Try.prog.info? 39).map (fun i => (i.zero, i.size, i.bytes)) = some (some (.agg Z6), 6, (Try.prog.bytesOf 39)) := by kernel_rfl
set_option maxRecDepth 20000 in
theorem bytes_part : Try.prog.bytesOf 39 = 64 := by kernel_rfl
set_option maxRecDepth 20000 in
theorem rdParts_snoc : ∀ (ks : List Int) (k : Int) (s : St), rdParts ofN (ks ++ [k]) s = match rdParts ofN ks s with
    | none => none
    | some (l, s') => match rdPart ofN k s' with
      | none => none
      | some (x, s2) => some (l ++ [x], s2)
  | [], k, s => by
    simp only [List.nil_append, rdParts]
    cases rdPart ofN k s with
    | none => rfl
    | some p => rfl
  | k0 :: ks, k, s => by
    simp only [List.cons_append, rdParts]
    cases rdPart ofN k0 s with
    | none => rfl
    | some p =>
      obtain ⟨x, s1⟩ := p
      simp only
      rw [rdParts_snoc ks k s1]
      cases rdParts ofN ks s1 with
      | none => rfl
      | some q =>
        obtain ⟨l, s2⟩ := q
        simp only
        cases rdPart ofN k s2 with
        | none => rfl
        | some r => rfl
set_option maxRecDepth 20000 in
theorem rdParts_none : ∀ (ks js : List Int) (s : St), rdParts ofN ks s = none → rdParts ofN (ks ++ js) s = none
  | [], js, s, h => by simp [rdParts] at h
  | k :: ks, js, s, h => by
    simp only [List.cons_append, rdParts] at h ⊢
    cases hp : rdPart ofN k s with
    | none => rfl
    | some p =>
      obtain ⟨x, s1⟩ := p
      rw [hp] at h
      simp only at h ⊢
      cases hq : rdParts ofN ks s1 with
      | none => rw [rdParts_none ks js s1 hq]
      | some q => rw [hq] at h; simp at h
set_option maxRecDepth 20000 in
theorem rdB_len (m : Nat) (s : St) : (rdB m s).2.1.length ≤ s.1.length := by
  have := rdN_len m s
  unfold rdB
  split
  · simp
  · simp; omega
set_option maxRecDepth 20000 in
theorem rdF_len (s : St) : (rdF ofN s).2.1.length ≤ s.1.length := by
  have := fx_len 8 s
  unfold rdF
  split
  · simp
  · split
    · exact this
    · simp
set_option maxRecDepth 20000 in
theorem rdPart_len {k : Int} {s s' : St} {x : PartT} (h : rdPart ofN k s = some (x, s')) : s'.1.length ≤ s.1.length := by
  unfold rdPart at h
  repeat' split at h
  all_goals first
    | cases h
    | (injection h with h; injection h with h1 h2; subst h2)
  · exact rdN_len _ _
  · exact rdN_len _ _
  · exact rdF_len _
  · exact rdB_len _ _
  · exact rdN_len _ _
set_option maxRecDepth 20000 in
theorem rdParts_len : ∀ (ks : List Int) (s : St) (l : List PartT) (s' : St), rdParts ofN ks s = some (l, s') → l.length = ks.length ∧ s'.1.length ≤ s.1.length
  | [], s, l, s', h => by
    simp only [rdParts, Option.some.injEq, Prod.mk.injEq] at h
    obtain ⟨rfl, rfl⟩ := h
    exact ⟨rfl, Nat.le_refl _⟩
  | k :: ks, s, l, s', h => by
    simp only [rdParts] at h
    split at h
    · cases h
    · next x s1 h1 =>
      split at h
      · cases h
      · next l2 s2 h3 =>
        simp only [Option.some.injEq, Prod.mk.injEq] at h
        obtain ⟨rfl, rfl⟩ := h
        obtain ⟨i1, i2⟩ := rdParts_len ks s1 l2 _ h3
        have := rdPart_len h1
        exact ⟨by simp [i1], by omega⟩
def PartsPost (w : World) (xs : List UInt8) (ks : List Int) (e : Ending) (w' : World) : Prop :=
  match partsL ofN xs ks with
  | none => e = .returned (.tuple #[.slice none 0 0, .int .i64 20]) ∧ Below w.heap.size w w'
  | some l => ∃ v, e = .returned (.tuple #[v, .int .i64 0]) ∧ Rd w' (fun b => w.heap.size ≤ b) (.sl PART) l [v] ∧ Below w.heap.size w w'
set_option maxRecDepth 20000 in
theorem parts_bad {w w' : World} {xs : List UInt8} {ks : List Int} (h : partsL ofN xs ks = none) (hb : Below w.heap.size w w') : PartsPost w xs ks (.returned (.tuple #[.slice none 0 0, .int .i64 20])) w' := by
  unfold PartsPost
  rw [h]
  exact ⟨rfl, hb⟩
set_option maxRecDepth 20000 in
theorem parts_good {w w' : World} {xs : List UInt8} {ks : List Int} {l : List PartT} {v : Value} (h : partsL ofN xs ks = some l) (hr : Rd w' (fun b => w.heap.size ≤ b) (.sl PART) l [v]) (hb : Below w.heap.size w w') : PartsPost w xs ks (.returned (.tuple #[v, .int .i64 0])) w' := by
  unfold PartsPost
  rw [h]
  exact ⟨_, rfl, hr, hb⟩
set_option maxRecDepth 20000 in
theorem int_at {w : World} {ad : Addr} {n i : Nat} {ks : List Int} {k : Int} (h : Rows w anyB (.int .i64) (some ad) n ks) (hx : ks[i]? = some k) : w.cell? (ad.add i) = some (.int .i64 k) ∧ (Lit.int .i64 k).wf = true := by
  obtain ⟨cs, _, hat, hrd⟩ := h.2.2 ad rfl i k hx
  obtain ⟨rfl, hw⟩ := hrd
  have := hat 0 _ rfl
  exact ⟨by simpa [Sh.size] using this, hw⟩
set_option maxRecDepth 20000 in
theorem RdAt.belowB {w w' : World} {B g : Nat} {s : St} (h : RdAt w g s) (hb : Below B w w') (hk : g < B) : RdAt w' g s := by
  obtain ⟨A, c, hg, h1, h2, h3, h4, h5⟩ := h
  refine ⟨A, c, blk_below hg hb hk, h1, h2, h3, ⟨h4.1, h4.2.1, h4.2.2.1, fun ad e j u hu => ?_⟩, h5⟩
  have hn : s.1 ≠ [] := by intro e; rw [e] at hu; simp at hu
  have hlt := h5 hn ad e
  have hc := h4.2.2.2 ad e j u hu
  have := hb.block (ad.add j).block (by rw [add_block]; omega)
  simpa [World.cell?, this] using hc
set_option maxRecDepth 20000 in
theorem below_grown2 {w0 w w' : World} {B g : Nat} (h : Below B w0 w) (hg : w.grownBy w' (some g)) (hB : B ≤ w.heap.size) (hk : B ≤ g) : Below B w0 w' := h.grown hg hB (fun k e => by injection e with e; omega)
set_option maxHeartbeats 4000000 in
set_option maxRecDepth 20000 in
theorem parts_any (w : World) (A : Option Addr) (n c : Nat) (xs : List UInt8) (h : Rd w anyB (.sl .byte) xs [.slice A n c]) (hn : xs.length ≤ 100000) (K : Option Addr) (m ck : Nat) (ks : List Int) (hk : Rows w anyB (.int .i64) K m ks) (hm : m ≤ 100) :
    Calls Try.prog 12 #[.slice A n c, .slice K m ck] w (PartsPost w xs ks) := by
  have HR0 := Lib.hid (read_any w A n c xs h hn)
  clear h
  go_enter Try.func12, Try.ntmps12
  go_wp2_with fail
  refine HR0.out.mono ?_
  rintro e w2 ⟨g, rfl, hg, hr, hb⟩
  have hlt := hr.lt
  have H2 := Lib.hid hr
  have HB2 := Lib.hid hb
  clear hr hb
  go_wp2_with fail
  go_loopw [7, 17] (fun s7 s17 wr => ∃ (i : Nat) (v : Value) (l : List PartT) (s : St), i ≤ m ∧ s7 = v ∧ s17 = .int .i64 i ∧ rdParts ofN (ks.take i) (xs, false) = some (l, s) ∧ Own wr w2.heap.size 39 PART v l ∧ RdAt wr g s ∧ w2.heap.size ≤ wr.heap.size ∧ Below w.heap.size w wr) (fun _ s17 _ => m - (intOf s17).toNat)
  case atStart => exact ⟨0, _, [], (xs, false), by omega, rfl, rfl, rfl, Own.nil _ _ _ _, H2.out, Nat.le_refl _, HB2.out⟩
  case round =>
    obtain ⟨i, v, l, s, hi, rfl, rfl, hrp, hO, hR, hz, hbel⟩ := hrel
    have hkl := hk.1
    obtain ⟨Ao, co, rfl, _⟩ := (OwnG.form hO)
    have HR := Lib.hid hR
    have hll := (rdParts_len _ _ _ _ hrp)
    have hl1 : l.length = i := by rw [hll.1, List.length_take]; omega
    have hl2 : s.1.length ≤ 100000 := Nat.le_trans hll.2 hn
    have HP := Lib.hid hrp
    rw [hl1] at hO ⊢
    have HO := Lib.hid hO
    clear hO hR hrp hll
    by_cases hlti : i < m
    · obtain ⟨k, hx⟩ : ∃ k, ks[i]? = some k := ⟨ks[i]'(by omega), List.getElem?_eq_getElem (by omega)⟩
      obtain ⟨ad, rfl⟩ : ∃ ad, K = some ad := by cases K with
        | none => exact absurd (hk.2.1 rfl) (by omega)
        | some ad => exact ⟨ad, rfl⟩
      obtain ⟨hc, hwf⟩ := int_at (hk.below hbel) hx
      have i0 : (0 : Int) ≤ (i : Int) := by omega
      have i1 : (i : Int) < (m : Int) := by omega
      have HPP := Lib.hid (part_any wr g k s HR.out hwf (by omega))
      have hcut : ks = ks.take (i + 1) ++ ks.drop (i + 1) := (List.take_append_drop _ _).symm
      cases hp : rdPart ofN k s with
      | none =>
        have HN := Lib.hid (show partsL ofN xs ks = none by
          unfold partsL
          rw [hcut, rdParts_none _ _ _ (show rdParts ofN (ks.take (i + 1)) (xs, false) = none by rw [take_at hx, rdParts_snoc, HP.out]; simp only; rw [hp])])
        have HPN := Lib.hid hp
        clear hx hwf hcut hp
        go_wp2_with (first
          | (go_at_call 53
             refine HPP.out.mono ?_
             intro e w5 hpost
             unfold PartPost at hpost
             rw [HPN.out] at hpost
             obtain ⟨rfl, hg5⟩ := hpost
             have HG5 := Lib.hid hg5
             clear hg5)
          | (refine wpL_store rfl 39 (.tmp 10) (.tmp 25) rfl w5.heap.size rfl Z6 _ 39 rfl (heap_alloc_new w5 _) rfl rfl (by intro v hv; simp at hv; rcases hv with rfl | rfl | rfl | rfl | rfl | rfl <;> rfl) ?_
             intro w6 hc6 hg6
             have hb6 : Below w5.heap.size w5 w6 := (below_alloc1 w5 _).grown hg6 (by simp) (fun k e => by cases e; exact Nat.le_refl _)
             have HC6 := Lib.hid hc6
             have HB6 := Lib.hid hb6
             clear hc6 hg6 hb6))
        refine bodyPost_ret (results_tmp2 rfl _ _ _) rfl ?_
        exact parts_bad HN.out ((below_grown2 hbel HG5.out hbel.size hg).trans (HB6.out.mono (Nat.le_trans hbel.size HG5.out.size)))
      | some p =>
        obtain ⟨x, s2⟩ := p
        have HN := Lib.hid (show rdParts ofN (ks.take (i + 1)) (xs, false) = some (l ++ [x], s2) by rw [take_at hx, rdParts_snoc, HP.out]; simp only; rw [hp])
        have HPN := Lib.hid hp
        clear hx hwf hcut hp
        go_wp2_with (first
          | (go_at_call 53
             refine HPP.out.mono ?_
             intro e w5 hpost
             unfold PartPost at hpost
             rw [HPN.out] at hpost
             obtain ⟨cs5, rfl, hrd5, hr5, hg5⟩ := hpost
             have hl5 : cs5.size = 6 := by have := hrd5.len; rw [Array.length_toList] at this; exact this
             have ho5 := hrd5.one
             have HO5 := Lib.hid (HO.out.grown hg5 (by omega))
             have HRD := Lib.hid hrd5
             have HR5 := Lib.hid hr5
             have HG5 := Lib.hid hg5
             clear hrd5 hr5 hg5)
          | (refine wpL_store rfl 39 (.tmp 10) (.tmp 25) rfl w5.heap.size rfl cs5 _ 39 rfl (heap_alloc_new w5 _) (by rw [hl5]; rfl) (by rw [hl5]; rfl) ho5 ?_
             intro w6 hc6 hg6
             have hb6 : Below w5.heap.size w5 w6 := (below_alloc1 w5 _).grown hg6 (by simp) (fun k e => by cases e; exact Nat.le_refl _)
             have HC6 := Lib.hid hc6
             have HB6 := Lib.hid hb6
             have HO6 := Lib.hid (HO5.out.below hb6)
             clear hc6 hg6 hb6)
          | (refine wpL_load rfl 39 (.tmp 10) rfl ⟨w5.heap.size, 0, none⟩ rfl cs5.toList _ (At.blk HC6.out) Try.underlying39 rfl (by rw [Array.length_toList, hl5]; rfl) ?_)
          | (refine wpL_lit1 rfl (cs := cs5.toList) (.tmp 30) rfl rfl Try.underlying22 info_part rfl (by decide) (by decide) (by rw [Array.length_toList, hl5]) ?_)
          | (at_builtin
             refine wp_appO (w0 := w6.alloc (.cells cs5.toList.toArray 39)) (m := 1) (r := [x]) (ys := cs5.toList) rfl (.tmp 29) (.tmp 31) rfl (HO6.out.below (below_alloc1 w6 _)) rfl (fun e => by cases e) (fun ad' e => by cases e; exact At.blk (heap_alloc_new w6 _)) (RdL.single ?_) (Below.refl _ _) Try.underlying22 info_part rfl (by decide) rfl rfl (by rw [bytes_part]; omega) (by omega) ?_ ?_
             · exact HO.out.apart (B := wr.heap.size) (Nat.le_refl _) hz HRD.out (HB6.out.trans ((below_alloc1 w6 _).mono HB6.out.size))
             · have := HB6.out.size; have := HG5.out.size; simp; omega
             intro v7 w7 hO7 hb7 _ _
             have HO7 := Lib.hid hO7
             have HB7 := Lib.hid hb7
             obtain ⟨A7, c7, rfl, _⟩ := OwnG.form hO7
             clear hO7 hb7))
        go_roundw
        case measure => simp [intOf]; omega
        case rel =>
          have z5 := HG5.out.size
          have z6 := HB6.out.size
          have z7 := HB7.out.size
          have za : (w6.alloc (.cells cs5.toList.toArray 39)).heap.size = w6.heap.size + 1 := by simp
          rw [za] at z7
          have b67 : Below w6.heap.size w6 (w6.alloc (.cells cs5.toList.toArray 39)) := below_alloc1 w6 _
          have hO7 := HO7.out
          rw [show (l ++ [x]).length = i + 1 by simp [hl1]] at hO7
          refine ⟨i + 1, _, l ++ [x], s2, by omega, rfl, by go_num, HN.out, hO7, (((HR5.out.below HB6.out).below b67).belowB HB7.out hlt), by omega, ?_⟩
          exact (((below_grown2 hbel HG5.out hbel.size hg).trans (HB6.out.mono (by have := hbel.size; omega))).trans (b67.mono (by have := hbel.size; omega))).trans (HB7.out.mono HB2.out.size)
    · obtain rfl : i = m := by omega
      have hall : ks.take i = ks := List.take_of_length_le (by omega)
      rw [hall] at HP
      have hrd := HO.out
      rw [← hl1] at hrd
      have HRD := Lib.hid (hrd.rd)
      rw [hl1] at HRD
      clear hrd hall
      by_cases hbad : s.2 = true ∨ s.1 ≠ []
      · have HN := Lib.hid (show partsL ofN xs ks = none by unfold partsL; rw [HP.out]; simp only; rw [if_pos hbad])
        have HE := Lib.hid (show (if s.2 = true ∨ s.1 ≠ [] then 20 else 0 : Int) = 20 from if_pos hbad)
        clear hbad
        go_wp2_with (go_at_call 33; refine (rEnd_any wr g s HR.out).mono ?_; rintro e w10 ⟨rfl, rfl⟩; rw [HE.out])
        refine bodyPost_ret (results_tmp2 rfl _ _ _) rfl ?_
        exact parts_bad HN.out hbel
      · have HN := Lib.hid (show partsL ofN xs ks = some l by unfold partsL; rw [HP.out]; simp only; rw [if_neg hbad])
        have HE := Lib.hid (show (if s.2 = true ∨ s.1 ≠ [] then 20 else 0 : Int) = 0 from if_neg hbad)
        clear hbad
        go_wp2_with (go_at_call 33; refine (rEnd_any wr g s HR.out).mono ?_; rintro e w10 ⟨rfl, rfl⟩; rw [HE.out])
        refine bodyPost_ret (results_tmp2 rfl _ _ _) rfl ?_
        exact parts_good HN.out (HRD.out.weak (fun b hb _ => Nat.le_trans HB2.out.size hb)) hbel
end Go.Proofs.Ytnolhnlhohpkpaa
