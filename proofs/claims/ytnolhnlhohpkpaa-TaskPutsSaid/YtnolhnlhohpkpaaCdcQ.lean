import Derived.Test.YtnolhnlhohpkpaaCdcI
namespace Go.Proofs.Ytnolhnlhohpkpaa
open Go.RowKit Cdc
set_option linter.unusedVariables false
set_option linter.unusedSimpArgs false
abbrev PART : Sh := .cons (.int .i64) (.cons (.int .u64) (.cons (.int .i64) (.cons .f64 (.cons (.sl .byte) (.cons .bool .nil)))))
set_option maxRecDepth 20000 in
theorem rd_one {w : World} {ok : Nat → Prop} {e : Sh} {l : List e.Ty} {cs : List Value} (h : Rd w ok (.sl e) l cs) : ∃ v, cs = [v] := by
  obtain ⟨A, n, c, h, _⟩ := h
  exact ⟨_, h⟩
set_option maxRecDepth 20000 in
theorem i64_of {n : Int} (h : (Lit.int .i64 n).wf = true) : -9223372036854775808 ≤ n ∧ n < 9223372036854775808 := by
  have : -(2 ^ 63) ≤ n ∧ n ≤ 2 ^ 63 - 1 := by simpa [Lit.wf, IntKind.min, IntKind.max, IntKind.bits, IntKind.signed] using h
  omega
set_option maxRecDepth 20000 in
theorem u64_of {n : Int} (h : (Lit.int .u64 n).wf = true) : 0 ≤ n ∧ n < 18446744073709551616 := by
  have : 0 ≤ n ∧ n ≤ 2 ^ 64 - 1 := by simpa [Lit.wf, IntKind.min, IntKind.max, IntKind.bits, IntKind.signed] using h
  omega
set_option maxRecDepth 20000 in
theorem of_u64 {n : Int} (h : 0 ≤ n ∧ n < 18446744073709551616) : (Lit.int .u64 n).wf = true := by
  simp [Lit.wf, IntKind.min, IntKind.max, IntKind.bits, IntKind.signed]; omega
set_option maxRecDepth 20000 in
theorem of_i64 {n : Int} (h : -9223372036854775808 ≤ n ∧ n < 9223372036854775808) : (Lit.int .i64 n).wf = true := by
  simp [Lit.wf, IntKind.min, IntKind.max, IntKind.bits, IntKind.signed]; omega
set_option maxRecDepth 20000 in
theorem rd_part {w : World} {ok : Nat → Prop} {x : PART.Ty} {cs : List Value} (h : Rd w ok PART x cs) :
    ∃ (k n i : Int) (f : Nat) (b : List UInt8) (q : Bool) (bv : Value), cs = [.int .i64 k, .int .u64 n, .int .i64 i, .float .f64 f, bv, .bool q] ∧ x = (k, n, i, f, b, q, ()) ∧ (Lit.int .i64 k).wf = true ∧ PartOk (k, n, i, f, b, q, ()) ∧ Rd w ok (.sl .byte) b [bv] := by
  obtain ⟨k, n, i, f, b, q, ⟨⟩⟩ := x
  obtain ⟨_, _, rfl, ⟨rfl, w1⟩, _, _, rfl, ⟨rfl, w2⟩, _, _, rfl, ⟨rfl, w3⟩, _, _, rfl, ⟨rfl, w4⟩, c5, _, rfl, h5, _, _, rfl, rfl, rfl⟩ := h
  obtain ⟨bv, rfl⟩ := rd_one h5
  exact ⟨k, n, i, f, b, q, bv, rfl, rfl, w1, ⟨(u64_of w2).1, (u64_of w2).2, (i64_of w3).1, (i64_of w3).2, w4⟩, h5⟩
set_option maxRecDepth 20000 in
theorem rd_part_mk {w : World} {ok : Nat → Prop} {k n i : Int} {f : Nat} {b : List UInt8} {q : Bool} {bv : Value} (hk : (Lit.int .i64 k).wf = true) (hx : PartOk (k, n, i, f, b, q, ())) (h : Rd w ok (.sl .byte) b [bv]) :
    Rd w ok PART (k, n, i, f, b, q, ()) [.int .i64 k, .int .u64 n, .int .i64 i, .float .f64 f, bv, .bool q] := by
  obtain ⟨a1, a2, a3, a4, a5⟩ := hx
  exact ⟨[_], _, rfl, ⟨rfl, hk⟩, [_], _, rfl, ⟨rfl, of_u64 ⟨a1, a2⟩⟩, [_], _, rfl, ⟨rfl, of_i64 ⟨a3, a4⟩⟩, [_], _, rfl, ⟨rfl, a5⟩, [_], _, rfl, h, [_], [], rfl, rfl, rfl⟩
set_option maxRecDepth 20000 in
theorem rd_bs {w : World} {ok : Nat → Prop} {l : List UInt8} {v : Value} (h : Rd w ok (.sl .byte) l [v]) : ∃ A c, v = .slice A l.length c ∧ l.length ≤ c ∧ c ≤ 9223372036854775807 ∧ (A = none → c = 0) ∧ Bs w A l.length l := by
  obtain ⟨A, n, c, h1, h2, h3, h4, h5⟩ := rd_sl.1 h
  simp at h1
  have hl := h5.1
  subst hl
  exact ⟨A, c, h1, h2, h3, h4, rows_bytes (by omega) h5⟩
theorem blk6 {w : World} {b : Nat} {v0 v1 v2 v3 v4 v5 : Value} {t : TypeId} {f : Nat × Nat} (h : w.heap[b]? = some (.cells #[v0, v1, v2, v3, v4, v5] t f)) : w.cell? ⟨b, 0, none⟩ = some v0 ∧ w.cell? ⟨b, 1, none⟩ = some v1 ∧ w.cell? ⟨b, 2, none⟩ = some v2 ∧ w.cell? ⟨b, 3, none⟩ = some v3 ∧ w.cell? ⟨b, 4, none⟩ = some v4 ∧ w.cell? ⟨b, 5, none⟩ = some v5 := by
  refine ⟨?_, ?_, ?_, ?_, ?_, ?_⟩ <;> simp [World.cell?, h]
abbrev keyN (f : Nat) : Nat := (keyF f).toNat
set_option maxRecDepth 20000 in
theorem encPart_le (x : PartT) (hb : x.2.2.2.2.1.length ≤ 1000) : (encPart keyN x).length ≤ 1009 := by
  unfold encPart
  have h1 := encN_le x.2.1.toNat
  have h2 := encN_le (zig x.2.2.1)
  have h3 := encN_le x.2.2.2.2.1.length
  have h4 := encN_le (if x.2.2.2.2.2.1 = true then 1 else 0)
  have h5 := encN_le 1
  have h6 := encN_le 0
  (repeat' split) <;> simp [be_len] <;> omega
set_option maxRecDepth 20000 in
theorem encParts_snoc (l : List PartT) (x : PartT) : encParts keyN (l ++ [x]) = encParts keyN l ++ encPart keyN x := by
  induction l with
  | nil => simp [encParts]
  | cons y l ih => simp [encParts, ih]
set_option maxRecDepth 20000 in
theorem encParts_le : ∀ (l : List PartT), (∀ x ∈ l, x.2.2.2.2.1.length ≤ 1000) → (encParts keyN l).length ≤ 1009 * l.length
  | [], _ => by simp [encParts]
  | x :: l, h => by
    have h1 := encParts_le l (fun y hy => h y (List.mem_cons_of_mem _ hy))
    have h2 := encPart_le x (h x List.mem_cons_self)
    simp only [encParts, List.length_append, List.length_cons]
    omega
set_option maxHeartbeats 4000000 in
set_option maxRecDepth 20000 in
theorem put_any (w : World) (A : Option Addr) (n c : Nat) (l : List PartT) (hl : Rows w anyB PART A n l) (hn : n ≤ 90) (hb : ∀ x ∈ l, x.2.2.2.2.1.length ≤ 1000) :
    Calls Try.prog 14 #[.slice A n c] w fun e w' => ∃ v', e = .returned v' ∧ Rd w' (fun k => w.heap.size ≤ k) (.sl .byte) (encParts keyN l) [v'] ∧ Below w.heap.size w w' := by
  have hb0 := below_alloc1 w (.cells #[.slice none 0 0] 85)
  have hW0 : Wr (w.alloc (.cells #[.slice none 0 0] 85)) w.heap.size w.heap.size [] := ⟨_, Nat.le_refl _, heap_alloc_new w _, own_nil _ _ _ _, fun e => by simp [Value.ownBlock] at e⟩
  have H0 := Lib.hid hW0
  have HB0 := Lib.hid hb0
  clear hW0 hb0
  go_enter Try.func14, Try.ntmps14
  go_wp2_with fail
  go_loopw [10] (fun s10 wr => ∃ i : Nat, i ≤ n ∧ s10 = .int .i64 i ∧ Wr wr w.heap.size w.heap.size (encParts keyN (l.take i)) ∧ Below w.heap.size w wr) (fun s10 _ => n - (intOf s10).toNat)
  case atStart => exact ⟨0, by omega, rfl, H0.out, HB0.out⟩
  case round =>
    obtain ⟨i, hi, rfl, hW, hbel⟩ := hrel
    have hll := hl.1
    have hel := encParts_le (l.take i) (fun x hx => hb x (List.mem_of_mem_take hx))
    rw [List.length_take, Nat.min_eq_left (by omega)] at hel
    by_cases hlt : i < n
    · obtain ⟨x, hx⟩ : ∃ x, l[i]? = some x := ⟨l[i]'(by omega), List.getElem?_eq_getElem (by omega)⟩
      obtain ⟨ad, rfl⟩ : ∃ ad, A = some ad := by cases A with
        | none => exact absurd (hl.2.1 rfl) (by omega)
        | some ad => exact ⟨ad, rfl⟩
      obtain ⟨cs, _, hat, hrd⟩ := hl.2.2 ad rfl i x hx
      have i0 : (0 : Int) ≤ (i : Int) := by omega
      have i1 : (i : Int) < (n : Int) := by omega
      have HAt := Lib.hid (hat.add.below hbel)
      have hbx := hb x (List.mem_of_getElem? hx)
      have HN := Lib.hid (show encParts keyN (l.take (i + 1)) = encParts keyN (l.take i) ++ encPart keyN x by rw [take_at hx, encParts_snoc])
      obtain ⟨k, nn, ii, f, bs, q, bv, rfl, rfl, hk, hok, h5⟩ := rd_part hrd
      obtain ⟨Ab, cb, rfl, _, _, _, hbs⟩ := rd_bs h5
      have HBs := Lib.hid hbs
      have HW := Lib.hid hW
      have hwz := hbel.size
      have hbl : bs.length ≤ 1000 := hbx
      obtain ⟨o1, o2, o3, o4, o5⟩ := hok
      simp only at o1 o2 o3 o4 o5
      obtain ⟨zs, hz⟩ : ∃ zs, encParts keyN (l.take i) = zs := ⟨_, rfl⟩
      rw [hz] at HW HN hel
      have HEL := Lib.hid hel
      clear hat hrd hx hk h5 hbs hW hz hbx hel H0
      by_cases k1 : k = 1
      · subst k1
        have HE := Lib.hid (show encPart keyN (1, nn, ii, f, bs, q, ()) = encN nn.toNat from rfl)
        go_wp2_with (first
          | (refine wpL_load rfl 39 (.tmp 12) rfl _ rfl _ _ HAt.out Try.underlying39 rfl rfl ?_)
          | (refine wpL_store rfl 39 (.tmp 5) (.tmp 13) rfl wr.heap.size rfl _ _ 39 rfl (heap_alloc_new wr _) rfl rfl (by intro v hv; simp at hv; rcases hv with rfl | rfl | rfl | rfl | rfl | rfl <;> rfl) ?_; intro w1 hc1 hg1; have hbw1 : Below wr.heap.size wr w1 := (below_alloc1 wr _).grown hg1 (by simp) (fun k e => by cases e; exact Nat.le_refl _); obtain ⟨c0, c1, c2, c3, c4, c5⟩ := blk6 hc1; have HW1 := Lib.hid (HW.out.below hbw1); have HB1 := Lib.hid (hbel.trans (hbw1.mono hwz)); have HBs1 := Lib.hid ((HBs.out.below hbel).below hbw1); have hs1 := HB1.out.size; clear hc1 hg1 hbw1)
          | (go_at_call 54; refine (wN_lit w1 _ _ zs [nn] 36 #[.int .u64 nn] 1 1 HW1.out hs1 rfl (by intro x hx; simp at hx; subst hx; omega) rfl (by omega) (by have := HEL.out; omega)).mono ?_; rw [show encNs [nn] = encN nn.toNat by simp [encNs]]; rintro e w2 ⟨rfl, hW2, _, hb2⟩; have HW2 := Lib.hid hW2; have HB2 := Lib.hid (HB1.out.trans hb2); clear hW2 hb2))
        go_roundw
        case measure => simp [intOf]; omega
        case rel => exact ⟨i + 1, by omega, by go_num, by rw [HN.out, HE.out]; exact HW2.out, HB2.out⟩
      by_cases k2 : k = 2
      · subst k2
        have HE := Lib.hid (show encPart keyN (2, nn, ii, f, bs, q, ()) = encN (zig ii) from rfl)
        go_wp2_with (first
          | (refine wpL_load rfl 39 (.tmp 12) rfl _ rfl _ _ HAt.out Try.underlying39 rfl rfl ?_)
          | (refine wpL_store rfl 39 (.tmp 5) (.tmp 13) rfl wr.heap.size rfl _ _ 39 rfl (heap_alloc_new wr _) rfl rfl (by intro v hv; simp at hv; rcases hv with rfl | rfl | rfl | rfl | rfl | rfl <;> rfl) ?_; intro w1 hc1 hg1; have hbw1 : Below wr.heap.size wr w1 := (below_alloc1 wr _).grown hg1 (by simp) (fun k e => by cases e; exact Nat.le_refl _); obtain ⟨c0, c1, c2, c3, c4, c5⟩ := blk6 hc1; have HW1 := Lib.hid (HW.out.below hbw1); have HB1 := Lib.hid (hbel.trans (hbw1.mono hwz)); have HBs1 := Lib.hid ((HBs.out.below hbel).below hbw1); have hs1 := HB1.out.size; clear hc1 hg1 hbw1)
          | (go_at_call 55; refine (wI_any w1 _ _ zs ii HW1.out hs1 o3 o4 (by have := HEL.out; omega)).mono ?_; rintro e w2 ⟨rfl, hW2, _, hb2⟩; have HW2 := Lib.hid hW2; have HB2 := Lib.hid (HB1.out.trans hb2); clear hW2 hb2))
        go_roundw
        case measure => simp [intOf]; omega
        case rel => exact ⟨i + 1, by omega, by go_num, by rw [HN.out, HE.out]; exact HW2.out, HB2.out⟩
      by_cases k3 : k = 3
      · subst k3
        have HE := Lib.hid (show encPart keyN (3, nn, ii, f, bs, q, ()) = be 8 (keyF f).toNat from rfl)
        go_wp2_with (first
          | (refine wpL_load rfl 39 (.tmp 12) rfl _ rfl _ _ HAt.out Try.underlying39 rfl rfl ?_)
          | (refine wpL_store rfl 39 (.tmp 5) (.tmp 13) rfl wr.heap.size rfl _ _ 39 rfl (heap_alloc_new wr _) rfl rfl (by intro v hv; simp at hv; rcases hv with rfl | rfl | rfl | rfl | rfl | rfl <;> rfl) ?_; intro w1 hc1 hg1; have hbw1 : Below wr.heap.size wr w1 := (below_alloc1 wr _).grown hg1 (by simp) (fun k e => by cases e; exact Nat.le_refl _); obtain ⟨c0, c1, c2, c3, c4, c5⟩ := blk6 hc1; have HW1 := Lib.hid (HW.out.below hbw1); have HB1 := Lib.hid (hbel.trans (hbw1.mono hwz)); have HBs1 := Lib.hid ((HBs.out.below hbel).below hbw1); have hs1 := HB1.out.size; clear hc1 hg1 hbw1)
          | (go_at_call 56; refine (wF_any w1 _ _ zs f o5 HW1.out hs1 (by have := HEL.out; omega)).mono ?_; rintro e w2 ⟨rfl, hW2, _, hb2⟩; have HW2 := Lib.hid hW2; have HB2 := Lib.hid (HB1.out.trans hb2); clear hW2 hb2))
        go_roundw
        case measure => simp [intOf]; omega
        case rel => exact ⟨i + 1, by omega, by go_num, by rw [HN.out, HE.out]; exact HW2.out, HB2.out⟩
      by_cases k4 : k = 4
      · subst k4
        have HE := Lib.hid (show encPart keyN (4, nn, ii, f, bs, q, ()) = encN bs.length ++ bs from rfl)
        go_wp2_with (first
          | (refine wpL_load rfl 39 (.tmp 12) rfl _ rfl _ _ HAt.out Try.underlying39 rfl rfl ?_)
          | (refine wpL_store rfl 39 (.tmp 5) (.tmp 13) rfl wr.heap.size rfl _ _ 39 rfl (heap_alloc_new wr _) rfl rfl (by intro v hv; simp at hv; rcases hv with rfl | rfl | rfl | rfl | rfl | rfl <;> rfl) ?_; intro w1 hc1 hg1; have hbw1 : Below wr.heap.size wr w1 := (below_alloc1 wr _).grown hg1 (by simp) (fun k e => by cases e; exact Nat.le_refl _); obtain ⟨c0, c1, c2, c3, c4, c5⟩ := blk6 hc1; have HW1 := Lib.hid (HW.out.below hbw1); have HB1 := Lib.hid (hbel.trans (hbw1.mono hwz)); have HBs1 := Lib.hid ((HBs.out.below hbel).below hbw1); have hs1 := HB1.out.size; clear hc1 hg1 hbw1)
          | (go_at_call 57; refine (wB_any w1 _ _ zs Ab bs.length cb bs HW1.out hs1 HBs1.out (fun ad e hne hm => by subst e; have h1 := HW1.out.mine hm; have h2 := HBs.out.lt hne; omega) (by omega) (by have := HEL.out; omega) (by have := HEL.out; omega)).mono ?_; rintro e w2 ⟨rfl, hW2, _, hb2⟩; have HW2 := Lib.hid hW2; have HB2 := Lib.hid (HB1.out.trans hb2); clear hW2 hb2))
        go_roundw
        case measure => simp [intOf]; omega
        case rel => exact ⟨i + 1, by omega, by go_num, by rw [HN.out, HE.out]; exact HW2.out, HB2.out⟩
      by_cases k5 : k = 5
      · subst k5
        have HE := Lib.hid (show encPart keyN (5, nn, ii, f, bs, q, ()) = encN (if q = true then 1 else 0) from rfl)
        go_wp2_with (first
          | (refine wpL_load rfl 39 (.tmp 12) rfl _ rfl _ _ HAt.out Try.underlying39 rfl rfl ?_)
          | (refine wpL_store rfl 39 (.tmp 5) (.tmp 13) rfl wr.heap.size rfl _ _ 39 rfl (heap_alloc_new wr _) rfl rfl (by intro v hv; simp at hv; rcases hv with rfl | rfl | rfl | rfl | rfl | rfl <;> rfl) ?_; intro w1 hc1 hg1; have hbw1 : Below wr.heap.size wr w1 := (below_alloc1 wr _).grown hg1 (by simp) (fun k e => by cases e; exact Nat.le_refl _); obtain ⟨c0, c1, c2, c3, c4, c5⟩ := blk6 hc1; have HW1 := Lib.hid (HW.out.below hbw1); have HB1 := Lib.hid (hbel.trans (hbw1.mono hwz)); have HBs1 := Lib.hid ((HBs.out.below hbel).below hbw1); have hs1 := HB1.out.size; clear hc1 hg1 hbw1)
          | (go_at_call 58; refine (wFlag_any w1 _ _ zs q HW1.out hs1 (by have := HEL.out; omega)).mono ?_; rintro e w2 ⟨rfl, hW2, _, hb2⟩; have HW2 := Lib.hid hW2; have HB2 := Lib.hid (HB1.out.trans hb2); clear hW2 hb2))
        go_roundw
        case measure => simp [intOf]; omega
        case rel => exact ⟨i + 1, by omega, by go_num, by rw [HN.out, HE.out]; exact HW2.out, HB2.out⟩
      have HE := Lib.hid (show encPart keyN (k, nn, ii, f, bs, q, ()) = [] by unfold encPart; rw [if_neg k1, if_neg k2, if_neg k3, if_neg k4, if_neg k5])
      have b1 : (k == 1) = false := beq_eq_false_iff_ne.2 k1
      have b2 : (k == 2) = false := beq_eq_false_iff_ne.2 k2
      have b3 : (k == 3) = false := beq_eq_false_iff_ne.2 k3
      have b4 : (k == 4) = false := beq_eq_false_iff_ne.2 k4
      have b5 : (k == 5) = false := beq_eq_false_iff_ne.2 k5
      go_wp2_with (first
        | (refine wpL_load rfl 39 (.tmp 12) rfl _ rfl _ _ HAt.out Try.underlying39 rfl rfl ?_)
        | (refine wpL_store rfl 39 (.tmp 5) (.tmp 13) rfl wr.heap.size rfl _ _ 39 rfl (heap_alloc_new wr _) rfl rfl (by intro v hv; simp at hv; rcases hv with rfl | rfl | rfl | rfl | rfl | rfl <;> rfl) ?_; intro w1 hc1 hg1; have hbw1 : Below wr.heap.size wr w1 := (below_alloc1 wr _).grown hg1 (by simp) (fun k e => by cases e; exact Nat.le_refl _); obtain ⟨c0, c1, c2, c3, c4, c5⟩ := blk6 hc1; have HW1 := Lib.hid (HW.out.below hbw1); have HB1 := Lib.hid (hbel.trans (hbw1.mono hwz)); have HBs1 := Lib.hid ((HBs.out.below hbel).below hbw1); have hs1 := HB1.out.size; clear hc1 hg1 hbw1))
      go_roundw
      case measure => simp [intOf]; omega
      case rel => exact ⟨i + 1, by omega, by go_num, by rw [HN.out, HE.out, List.append_nil]; exact HW1.out, HB1.out⟩
    · obtain rfl : i = n := by omega
      have HE := Lib.hid (show encParts keyN (l.take i) = encParts keyN l by rw [List.take_of_length_le (by omega)])
      have HW := Lib.hid hW
      have HEL := Lib.hid hel
      clear hW hel H0
      go_wp2_with (go_at_call 59; refine (wBytes_any wr _ _ _ HW.out hbel.size (by have := HEL.out; omega)).mono ?_; rintro e w2 ⟨v', rfl, hr, hb2⟩; have HR2 := Lib.hid hr; obtain ⟨A2, c2, rfl⟩ := rd_slice hr; clear hr)
      go_ret
      exact ⟨_, rfl, HE.out ▸ (HR2.out.weak (fun k hk _ => Nat.le_trans hbel.size hk)), hbel.trans (hb2.mono hbel.size)⟩
end Go.Proofs.Ytnolhnlhohpkpaa
