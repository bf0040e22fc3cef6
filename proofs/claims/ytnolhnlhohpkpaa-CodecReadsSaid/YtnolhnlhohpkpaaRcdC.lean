import Derived.Test.YtnolhnlhohpkpaaRcdB
namespace Go.Proofs.Ytnolhnlhohpkpaa
open Go.RowKit Cdc
set_option linter.unusedVariables false
set_option linter.unusedSimpArgs false
set_option maxRecDepth 20000 in
theorem rows_ok {w : World} {ok : Nat → Prop} {A : Option Addr} {n : Nat} {l : List PartT} (h : Rows w ok PART A n l) : ∀ x ∈ l, PartOk x := by
  intro x hx
  obtain ⟨i, hi⟩ := List.mem_iff_getElem?.1 hx
  cases A with
  | none =>
    have := h.2.1 rfl
    have hl := h.1
    have := (List.getElem?_eq_some_iff.1 hi).1
    omega
  | some ad =>
    obtain ⟨cs, _, _, hrd⟩ := h.2.2 ad rfl i x hi
    obtain ⟨k, nn, ii, f, bs, q, bv, rfl, rfl, hk, hok, h5⟩ := rd_part hrd
    exact hok
set_option maxRecDepth 20000 in
theorem enc_same {x y : PartT} (hx : PartOk x) (hy : PartOk y) (h : sameP x y = true) : encPart keyN x = encPart keyN y := by
  unfold sameP at h
  simp only [Bool.and_eq_true, beq_iff_eq] at h
  obtain ⟨⟨⟨⟨⟨h1, h2⟩, h3⟩, h4⟩, h5⟩, h6⟩ := h
  have hk : keyN x.2.2.2.1 = keyN y.2.2.2.1 := by
    show (keyF _).toNat = (keyF _).toNat
    rw [key_same hx.2.2.2.2, key_same hy.2.2.2.2, h4]
  unfold encPart
  rw [h1, h2, h3, hk, h5, h6]
set_option maxRecDepth 20000 in
theorem encs_same : ∀ {l m : List PartT}, (∀ x ∈ l, PartOk x) → (∀ x ∈ m, PartOk x) → sameL l m = true → encParts keyN l = encParts keyN m
  | [], [], _, _, _ => rfl
  | x :: l, y :: m, hl, hm, h => by
    simp only [sameL, Bool.and_eq_true] at h
    simp only [encParts]
    rw [enc_same (hl x List.mem_cons_self) (hm y List.mem_cons_self) h.1, encs_same (fun z hz => hl z (List.mem_cons_of_mem _ hz)) (fun z hz => hm z (List.mem_cons_of_mem _ hz)) h.2]
  | [], _ :: _, _, _, h => by simp [sameL] at h
  | _ :: _, [], _, _, h => by simp [sameL] at h
set_option maxRecDepth 20000 in
theorem key_ofN (k : Nat) (hk : k < 18446744073709551616) (h : (ofN k).2 = true) : keyN (ofN k).1 = k := by
  have := key_of (k := (k : Int)) (by omega) (by omega) h
  show (keyF _).toNat = k
  rw [this]; rfl
set_option maxRecDepth 20000 in
theorem once_same {b c : List UInt8} {ks : List Int} {l m : List PartT} (hb : partsL ofN b ks = some l) (hc : partsL ofN c ks = some m) (hl : ∀ x ∈ l, PartOk x) (hm : ∀ x ∈ m, PartOk x) : sameL l m = decide (b = c) := by
  by_cases h : b = c
  · subst h
    rw [hb] at hc
    injection hc with hc
    subst hc
    rw [sameL_refl, decide_eq_true rfl]
  · rw [decide_eq_false h]
    cases hs : sameL l m with
    | false => rfl
    | true =>
      have := encs_same hl hm hs
      rw [enc_parts (of := ofN) key_ofN hb, enc_parts (of := ofN) key_ofN hc] at this
      exact absurd this h
set_option maxRecDepth 20000 in
theorem rdPart_blen {k : Int} {s s' : St} {x : PartT} (h : rdPart ofN k s = some (x, s')) : x.2.2.2.2.1.length ≤ s.1.length := by
  unfold rdPart at h
  repeat' split at h
  all_goals first
    | (cases h; done)
    | (cases h; show ([] : List UInt8).length ≤ _; exact Nat.zero_le _)
    | skip
  cases h
  show (rdB 65536 s).1.length ≤ _
  have := rdN_len 65536 s
  unfold rdB
  split
  · simp
  · simp; omega
set_option maxRecDepth 20000 in
theorem rdParts_blen : ∀ (ks : List Int) (s : St) (l : List PartT) (s' : St), rdParts ofN ks s = some (l, s') → ∀ x ∈ l, x.2.2.2.2.1.length ≤ s.1.length
  | [], s, l, s', h => by
    simp only [rdParts, Option.some.injEq, Prod.mk.injEq] at h
    obtain ⟨rfl, rfl⟩ := h
    intro x hx; cases hx
  | k :: ks, s, l, s', h => by
    simp only [rdParts] at h
    split at h
    · cases h
    · next x s1 h1 =>
      split at h
      · cases h
      · next l2 s2 h3 =>
        simp only [Option.some.injEq, Prod.mk.injEq] at h
        obtain ⟨rfl, rfl⟩ := h
        intro y hy
        rcases List.mem_cons.1 hy with rfl | hy
        · exact rdPart_blen h1
        · exact Nat.le_trans (rdParts_blen ks s1 l2 _ h3 y hy) (rdPart_len h1)
set_option maxRecDepth 20000 in
theorem parts_blen {b : List UInt8} {ks : List Int} {l : List PartT} (h : partsL ofN b ks = some l) : ∀ x ∈ l, x.2.2.2.2.1.length ≤ b.length := by
  unfold partsL at h
  split at h
  · cases h
  · next l' s h1 =>
    split at h
    · cases h
    · injection h with h; subst h
      exact rdParts_blen ks _ _ _ h1
set_option maxRecDepth 20000 in
theorem rows_len {w : World} {ok : Nat → Prop} {e : Sh} {A : Option Addr} {n : Nat} {l : List e.Ty} (h : Rows w ok e A n l) : l.length = n := h.1
set_option maxHeartbeats 4000000 in
set_option maxRecDepth 20000 in
theorem w_CodecOnce (a : Option Addr) (na ca : Nat) (xs : List UInt8) (b : Option Addr) (nb cb : Nat) (ys : List UInt8) (k : Option Addr) (nk ck : Nat) (ks : List Int)
    (w : World) (ha : Rd w anyB (.sl .byte) xs [.slice a na ca]) (hb : Rd w anyB (.sl .byte) ys [.slice b nb cb]) (hk : Rd w anyB (.sl (.int .i64)) ks [.slice k nk ck]) :
    Calls Try.prog 5 #[.slice a na ca, .slice b nb cb, .slice k nk ck] w fun e w' => e = .returned (.bool true) ∧ Below w.heap.size w w' := by
  have HA := Lib.hid ha
  have HB := Lib.hid hb
  have hna : xs.length = na := rows_len (rd_rows ha).2.2.2
  have hnb : ys.length = nb := rows_len (rd_rows hb).2.2.2
  have HK := Lib.hid (rd_rows hk).2.2.2
  have hnk : ks.length = nk := rows_len (rd_rows hk).2.2.2
  subst hna hnb
  clear ha hb hk
  go_enter Try.func5, Try.ntmps5
  go_wp2_with fail
  refine (cdc_awake w).mono ?_
  rintro e w1 ⟨rfl, hw1⟩
  by_cases ha500 : (500 : Int) < (xs.length : Nat)
  · go_wp2_with fail
    go_ret
    exact ⟨rfl, hw1⟩
  by_cases hb500 : (500 : Int) < (ys.length : Nat)
  · go_wp2_with fail
    go_ret
    exact ⟨rfl, hw1⟩
  by_cases hk20 : (20 : Int) < (nk : Nat)
  · go_wp2_with fail
    go_ret
    exact ⟨rfl, hw1⟩
  go_wp2_with fail
  refine (parts_any w1 a _ ca xs (HA.out.below hw1) (by omega) k nk ck ks (HK.out.below hw1) (by omega)).mono ?_
  intro e w3 h3
  unfold PartsPost at h3
  have key : ∃ (A3 : Option Addr) (n3 c3 : Nat) (L : List PartT) (e3 : Int), e = .returned (.tuple #[.slice A3 n3 c3, .int .i64 e3]) ∧ Rd w3 anyB (.sl PART) L [.slice A3 n3 c3] ∧ (e3 = 0 → partsL ofN xs ks = some L) ∧ Below w1.heap.size w1 w3 := by
    cases hp : partsL ofN xs ks with
    | none =>
      rw [hp] at h3
      obtain ⟨rfl, h⟩ := h3
      exact ⟨none, 0, 0, [], 20, rfl, rd_sl.2 ⟨none, 0, 0, rfl, by omega, by omega, fun _ => rfl, rows_nil _ _⟩, (fun e => by cases e), h⟩
    | some L =>
      rw [hp] at h3
      obtain ⟨v3, rfl, hr3, h⟩ := h3
      obtain ⟨A3, n3, c3, e3, _⟩ := rd_sl.1 hr3
      obtain rfl : v3 = .slice A3 n3 c3 := by simpa using e3
      exact ⟨A3, n3, c3, L, 0, rfl, hr3.any, (fun _ => rfl), h⟩
  clear h3
  obtain ⟨A3, n3, c3, L, e3, rfl, hr3, hL, hw13⟩ := key
  have hw3 := hw1.trans (hw13.mono hw1.size)
  have HR3 := Lib.hid hr3
  have HL := Lib.hid hL
  clear hr3 hL
  go_wp2_with fail
  refine (parts_any w3 b _ cb ys (HB.out.below hw3) (by omega) k nk ck ks (HK.out.below hw3) (by omega)).mono ?_
  intro e w4 h4
  unfold PartsPost at h4
  have key : ∃ (A4 : Option Addr) (n4 c4 : Nat) (M : List PartT) (e4 : Int), e = .returned (.tuple #[.slice A4 n4 c4, .int .i64 e4]) ∧ Rd w4 anyB (.sl PART) M [.slice A4 n4 c4] ∧ (e4 = 0 → partsL ofN ys ks = some M) ∧ Below w3.heap.size w3 w4 := by
    cases hp : partsL ofN ys ks with
    | none =>
      rw [hp] at h4
      obtain ⟨rfl, h⟩ := h4
      exact ⟨none, 0, 0, [], 20, rfl, rd_sl.2 ⟨none, 0, 0, rfl, by omega, by omega, fun _ => rfl, rows_nil _ _⟩, (fun e => by cases e), h⟩
    | some L =>
      rw [hp] at h4
      obtain ⟨v3, rfl, hr3, h⟩ := h4
      obtain ⟨A3, n3, c3, e3, _⟩ := rd_sl.1 hr3
      obtain rfl : v3 = .slice A3 n3 c3 := by simpa using e3
      exact ⟨A3, n3, c3, L, 0, rfl, hr3.any, (fun _ => rfl), h⟩
  clear h4
  obtain ⟨A4, n4, c4, M, e4, rfl, hr4, hM, hw34⟩ := key
  have hw4 := hw3.trans (hw34.mono hw3.size)
  have HR4 := Lib.hid hr4
  have HM := Lib.hid hM
  clear hr4 hM
  by_cases he3 : e3 = 0
  case neg =>
    have hb3 : (e3 != 0) = true := bne_iff_ne.2 he3
    go_wp2_with fail
    go_ret
    exact ⟨rfl, hw4⟩
  by_cases he4 : e4 = 0
  case neg =>
    have hb4 : (e4 != 0) = true := bne_iff_ne.2 he4
    go_wp2_with fail
    go_ret
    exact ⟨rfl, hw4⟩
  have HL2 := Lib.hid (HL.out he3)
  have HM2 := Lib.hid (HM.out he4)
  subst he3 he4
  have HPL := Lib.hid (parts_len HL2.out)
  have HBL := Lib.hid (parts_blen HL2.out)
  have HE := Lib.hid (enc_parts (of := ofN) key_ofN HL2.out)
  have HS := Lib.hid (once_same HL2.out HM2.out (rows_ok (rd_rows HR3.out).2.2.2) (rows_ok (rd_rows HR4.out).2.2.2))
  have hn3 : L.length = n3 := rows_len (rd_rows HR3.out).2.2.2
  go_wp2_with fail
  refine region_in (by kernel_rfl) (fun w5 hw45 => ?_)
  have hw5 := hw4.trans (hw45.mono hw4.size)
  have hb35 := hw34.trans (hw45.mono hw34.size)
  have X5 : ∀ W, Below w5.heap.size w5 W → (convert 23 9 (.slice a xs.length ca)).run Try.prog W = .ok (.string ⟨xs.toArray⟩) W := fun W hW => by
    have h0 := (rows_bytes (by omega) (rd_rows HA.out).2.2.2).below hw5
    exact conv_bs (h0.below hW)
  have Y5 : ∀ W, Below w5.heap.size w5 W → (convert 23 9 (.slice b ys.length cb)).run Try.prog W = .ok (.string ⟨ys.toArray⟩) W := fun W hW => by
    have h0 := (rows_bytes (by omega) (rd_rows HB.out).2.2.2).below hw5
    exact conv_bs (h0.below hW)
  first
    | (refine take_in (i := 0) (v := ?_) rfl (by kernel_rfl) (by kernel_rfl) (by kernel_rfl) (fun _ _ _ h => h) (Or.inl ⟨by rfl, ?_⟩) (Below.refl _ _) ?_; rotate_left; (focus (intro W hSw; go_simp; (try rfl); done)); (try simp only [Act.put, List.setIfInBounds_toArray, List.set_cons_zero, List.set_cons_succ]))
    | (refine take_in (i := 0) (v := undef) rfl (by kernel_rfl) (by kernel_rfl) (by kernel_rfl) (fun _ _ _ h => h) (Or.inr ⟨by rfl, rfl⟩) (Below.refl _ _) ?_; (try simp only [Act.put, List.setIfInBounds_toArray, List.set_cons_zero, List.set_cons_succ]))
    | (fail "HTAKE 0")
  first
    | (refine take_in (i := 3) (v := ?_) rfl (by kernel_rfl) (by kernel_rfl) (by kernel_rfl) (fun _ _ _ h => h) (Or.inl ⟨by rfl, ?_⟩) (Below.refl _ _) ?_; rotate_left; (focus (intro W hSw; have X5 := X5 W hSw; go_simp; (try rfl); done)); (try simp only [Act.put, List.setIfInBounds_toArray, List.set_cons_zero, List.set_cons_succ]))
    | (refine take_in (i := 3) (v := undef) rfl (by kernel_rfl) (by kernel_rfl) (by kernel_rfl) (fun _ _ _ h => h) (Or.inr ⟨by rfl, rfl⟩) (Below.refl _ _) ?_; (try simp only [Act.put, List.setIfInBounds_toArray, List.set_cons_zero, List.set_cons_succ]))
    | (fail "HTAKE 3")
  first
    | (refine take_in (i := 4) (v := ?_) rfl (by kernel_rfl) (by kernel_rfl) (by kernel_rfl) (fun _ _ _ h => h) (Or.inl ⟨by rfl, ?_⟩) (Below.refl _ _) ?_; rotate_left; (focus (intro W hSw; have X5 := X5 W hSw; go_simp; (try rfl); done)); (try simp only [Act.put, List.setIfInBounds_toArray, List.set_cons_zero, List.set_cons_succ]))
    | (refine take_in (i := 4) (v := undef) rfl (by kernel_rfl) (by kernel_rfl) (by kernel_rfl) (fun _ _ _ h => h) (Or.inr ⟨by rfl, rfl⟩) (Below.refl _ _) ?_; (try simp only [Act.put, List.setIfInBounds_toArray, List.set_cons_zero, List.set_cons_succ]))
    | (fail "HTAKE 4")
  refine call_in (i := 1) rfl (by kernel_rfl) (by kernel_rfl) (fun K hK => ?_)
  go_simp
  refine (put_any w5 A3 n3 c3 L ((rd_rows HR3.out).2.2.2.below hb35) (by have := HPL.out; omega) (fun x hx => by have := HBL.out x hx; omega)).mono ?_
  rintro e w6 ⟨v6, rfl, hr6, hw56⟩
  have hw6 := hw5.trans (hw56.mono hw5.size)
  rw [HE.out] at hr6
  obtain ⟨A6, c6, rfl, _, _, _, hbs6⟩ := rd_bs hr6
  have C6 : ∀ W, Below w6.heap.size w6 W → (convert 23 9 (.slice A6 xs.length c6)).run Try.prog W = .ok (.string ⟨xs.toArray⟩) W := fun W hW => conv_bs (hbs6.below hW)
  have X6 : ∀ W, Below w6.heap.size w6 W → (convert 23 9 (.slice a xs.length ca)).run Try.prog W = .ok (.string ⟨xs.toArray⟩) W := fun W hW => X5 W (hw56.trans (hW.mono hw56.size))
  have Y6 : ∀ W, Below w6.heap.size w6 W → (convert 23 9 (.slice b ys.length cb)).run Try.prog W = .ok (.string ⟨ys.toArray⟩) W := fun W hW => Y5 W (hw56.trans (hW.mono hw56.size))
  refine hK.out _ _ hw56 ?_
  (try simp only [Act.put, List.setIfInBounds_toArray, List.set_cons_zero, List.set_cons_succ])
  first
    | (refine take_in (i := 2) (v := ?_) rfl (by kernel_rfl) (by kernel_rfl) (by kernel_rfl) (fun _ _ _ h => h) (Or.inl ⟨by rfl, ?_⟩) (Below.refl _ _) ?_; rotate_left; (focus (intro W hSw; have C6 := C6 W hSw; go_simp; (try rfl); done)); (try simp only [Act.put, List.setIfInBounds_toArray, List.set_cons_zero, List.set_cons_succ]))
    | (refine take_in (i := 2) (v := undef) rfl (by kernel_rfl) (by kernel_rfl) (by kernel_rfl) (fun _ _ _ h => h) (Or.inr ⟨by rfl, rfl⟩) (Below.refl _ _) ?_; (try simp only [Act.put, List.setIfInBounds_toArray, List.set_cons_zero, List.set_cons_succ]))
    | (fail "HTAKE 2")
  first
    | (refine take_in (i := 5) (v := ?_) rfl (by kernel_rfl) (by kernel_rfl) (by kernel_rfl) (fun _ _ _ h => h) (Or.inl ⟨by rfl, ?_⟩) (Below.refl _ _) ?_; rotate_left; (focus (intro W hSw; go_simp; (try rfl); done)); (try simp only [Act.put, List.setIfInBounds_toArray, List.set_cons_zero, List.set_cons_succ]))
    | (refine take_in (i := 5) (v := undef) rfl (by kernel_rfl) (by kernel_rfl) (by kernel_rfl) (fun _ _ _ h => h) (Or.inr ⟨by rfl, rfl⟩) (Below.refl _ _) ?_; (try simp only [Act.put, List.setIfInBounds_toArray, List.set_cons_zero, List.set_cons_succ]))
    | (fail "HTAKE 5")
  first
    | (refine take_in (i := 6) (v := ?_) rfl (by kernel_rfl) (by kernel_rfl) (by kernel_rfl) (fun _ _ _ h => h) (Or.inl ⟨by rfl, ?_⟩) (Below.refl _ _) ?_; rotate_left; (focus (intro W hSw; go_simp; (try rfl); done)); (try simp only [Act.put, List.setIfInBounds_toArray, List.set_cons_zero, List.set_cons_succ]))
    | (refine take_in (i := 6) (v := undef) rfl (by kernel_rfl) (by kernel_rfl) (by kernel_rfl) (fun _ _ _ h => h) (Or.inr ⟨by rfl, rfl⟩) (Below.refl _ _) ?_; (try simp only [Act.put, List.setIfInBounds_toArray, List.set_cons_zero, List.set_cons_succ]))
    | (fail "HTAKE 6")
  first
    | (refine take_in (i := 7) (v := ?_) rfl (by kernel_rfl) (by kernel_rfl) (by kernel_rfl) (fun _ _ _ h => h) (Or.inl ⟨by rfl, ?_⟩) (Below.refl _ _) ?_; rotate_left; (focus (intro W hSw; go_simp; (try rfl); done)); (try simp only [Act.put, List.setIfInBounds_toArray, List.set_cons_zero, List.set_cons_succ]))
    | (refine take_in (i := 7) (v := undef) rfl (by kernel_rfl) (by kernel_rfl) (by kernel_rfl) (fun _ _ _ h => h) (Or.inr ⟨by rfl, rfl⟩) (Below.refl _ _) ?_; (try simp only [Act.put, List.setIfInBounds_toArray, List.set_cons_zero, List.set_cons_succ]))
    | (fail "HTAKE 7")
  first
    | (refine take_in (i := 8) (v := ?_) rfl (by kernel_rfl) (by kernel_rfl) (by kernel_rfl) (fun _ _ _ h => h) (Or.inl ⟨by rfl, ?_⟩) (Below.refl _ _) ?_; rotate_left; (focus (intro W hSw; go_simp; (try rfl); done)); (try simp only [Act.put, List.setIfInBounds_toArray, List.set_cons_zero, List.set_cons_succ]))
    | (refine take_in (i := 8) (v := undef) rfl (by kernel_rfl) (by kernel_rfl) (by kernel_rfl) (fun _ _ _ h => h) (Or.inr ⟨by rfl, rfl⟩) (Below.refl _ _) ?_; (try simp only [Act.put, List.setIfInBounds_toArray, List.set_cons_zero, List.set_cons_succ]))
    | (fail "HTAKE 8")
  first
    | (refine take_in (i := 10) (v := ?_) rfl (by kernel_rfl) (by kernel_rfl) (by kernel_rfl) (fun _ _ _ h => h) (Or.inl ⟨by rfl, ?_⟩) (Below.refl _ _) ?_; rotate_left; (focus (intro W hSw; have X6 := X6 W hSw; have Y6 := Y6 W hSw; go_simp; (try rfl); done)); (try simp only [Act.put, List.setIfInBounds_toArray, List.set_cons_zero, List.set_cons_succ]))
    | (refine take_in (i := 10) (v := undef) rfl (by kernel_rfl) (by kernel_rfl) (by kernel_rfl) (fun _ _ _ h => h) (Or.inr ⟨by rfl, rfl⟩) (Below.refl _ _) ?_; (try simp only [Act.put, List.setIfInBounds_toArray, List.set_cons_zero, List.set_cons_succ]))
    | (fail "HTAKE 10")
  first
    | (refine take_in (i := 11) (v := ?_) rfl (by kernel_rfl) (by kernel_rfl) (by kernel_rfl) (fun _ _ _ h => h) (Or.inl ⟨by rfl, ?_⟩) (Below.refl _ _) ?_; rotate_left; (focus (intro W hSw; have X6 := X6 W hSw; have Y6 := Y6 W hSw; go_simp; (try rfl); done)); (try simp only [Act.put, List.setIfInBounds_toArray, List.set_cons_zero, List.set_cons_succ]))
    | (refine take_in (i := 11) (v := undef) rfl (by kernel_rfl) (by kernel_rfl) (by kernel_rfl) (fun _ _ _ h => h) (Or.inr ⟨by rfl, rfl⟩) (Below.refl _ _) ?_; (try simp only [Act.put, List.setIfInBounds_toArray, List.set_cons_zero, List.set_cons_succ]))
    | (fail "HTAKE 11")
  first
    | (refine take_in (i := 12) (v := ?_) rfl (by kernel_rfl) (by kernel_rfl) (by kernel_rfl) (fun _ _ _ h => h) (Or.inl ⟨by rfl, ?_⟩) (Below.refl _ _) ?_; rotate_left; (focus (intro W hSw; have X6 := X6 W hSw; have Y6 := Y6 W hSw; go_simp; (try rfl); done)); (try simp only [Act.put, List.setIfInBounds_toArray, List.set_cons_zero, List.set_cons_succ]))
    | (refine take_in (i := 12) (v := undef) rfl (by kernel_rfl) (by kernel_rfl) (by kernel_rfl) (fun _ _ _ h => h) (Or.inr ⟨by rfl, rfl⟩) (Below.refl _ _) ?_; (try simp only [Act.put, List.setIfInBounds_toArray, List.set_cons_zero, List.set_cons_succ]))
    | (fail "HTAKE 12")
  first
    | (refine take_in (i := 13) (v := ?_) rfl (by kernel_rfl) (by kernel_rfl) (by kernel_rfl) (fun _ _ _ h => h) (Or.inl ⟨by rfl, ?_⟩) (Below.refl _ _) ?_; rotate_left; (focus (intro W hSw; have X6 := X6 W hSw; have Y6 := Y6 W hSw; go_simp; (try rfl); done)); (try simp only [Act.put, List.setIfInBounds_toArray, List.set_cons_zero, List.set_cons_succ]))
    | (refine take_in (i := 13) (v := undef) rfl (by kernel_rfl) (by kernel_rfl) (by kernel_rfl) (fun _ _ _ h => h) (Or.inr ⟨by rfl, rfl⟩) (Below.refl _ _) ?_; (try simp only [Act.put, List.setIfInBounds_toArray, List.set_cons_zero, List.set_cons_succ]))
    | (fail "HTAKE 13")
  first
    | (refine take_in (i := 14) (v := ?_) rfl (by kernel_rfl) (by kernel_rfl) (by kernel_rfl) (fun _ _ _ h => h) (Or.inl ⟨by rfl, ?_⟩) (Below.refl _ _) ?_; rotate_left; (focus (intro W hSw; have X6 := X6 W hSw; have Y6 := Y6 W hSw; go_simp; (try rfl); done)); (try simp only [Act.put, List.setIfInBounds_toArray, List.set_cons_zero, List.set_cons_succ]))
    | (refine take_in (i := 14) (v := undef) rfl (by kernel_rfl) (by kernel_rfl) (by kernel_rfl) (fun _ _ _ h => h) (Or.inr ⟨by rfl, rfl⟩) (Below.refl _ _) ?_; (try simp only [Act.put, List.setIfInBounds_toArray, List.set_cons_zero, List.set_cons_succ]))
    | (fail "HTAKE 14")
  refine call_in (i := 9) rfl (by kernel_rfl) (by kernel_rfl) (fun K hK => ?_)
  go_simp
  refine (rsameparts_any w6 A3 A4 n3 n4 c3 c4 L M ((rd_rows HR3.out).2.2.2.below (hb35.trans (hw56.mono hb35.size))) ((rd_rows HR4.out).2.2.2.below (hw45.trans (hw56.mono hw45.size))) (by have := HPL.out; omega)).mono ?_
  rintro e w8 ⟨rfl, hw78⟩
  have hw8 := hw6.trans (hw78.mono hw6.size)
  rw [HS.out]
  refine hK.out _ _ hw78 ?_
  (try simp only [Act.put, List.setIfInBounds_toArray, List.set_cons_zero, List.set_cons_succ])
  first
    | (refine take_in (i := 15) (v := ?_) rfl (by kernel_rfl) (by kernel_rfl) (by kernel_rfl) (fun _ _ _ h => h) (Or.inl ⟨by rfl, ?_⟩) (Below.refl _ _) ?_; rotate_left; (focus (intro W hSw; go_simp; (try rfl); done)); (try simp only [Act.put, List.setIfInBounds_toArray, List.set_cons_zero, List.set_cons_succ]))
    | (refine take_in (i := 15) (v := undef) rfl (by kernel_rfl) (by kernel_rfl) (by kernel_rfl) (fun _ _ _ h => h) (Or.inr ⟨by rfl, rfl⟩) (Below.refl _ _) ?_; (try simp only [Act.put, List.setIfInBounds_toArray, List.set_cons_zero, List.set_cons_succ]))
    | (fail "HTAKE 15")
  first
    | (refine take_in (i := 16) (v := ?_) rfl (by kernel_rfl) (by kernel_rfl) (by kernel_rfl) (fun _ _ _ h => h) (Or.inl ⟨by rfl, ?_⟩) (Below.refl _ _) ?_; rotate_left; (focus (intro W hSw; go_simp; (try rfl); done)); (try simp only [Act.put, List.setIfInBounds_toArray, List.set_cons_zero, List.set_cons_succ]))
    | (refine take_in (i := 16) (v := undef) rfl (by kernel_rfl) (by kernel_rfl) (by kernel_rfl) (fun _ _ _ h => h) (Or.inr ⟨by rfl, rfl⟩) (Below.refl _ _) ?_; (try simp only [Act.put, List.setIfInBounds_toArray, List.set_cons_zero, List.set_cons_succ]))
    | (fail "HTAKE 16")
  first
    | (refine take_in (i := 17) (v := ?_) rfl (by kernel_rfl) (by kernel_rfl) (by kernel_rfl) (fun _ _ _ h => h) (Or.inl ⟨by rfl, ?_⟩) (Below.refl _ _) ?_; rotate_left; (focus (intro W hSw; go_simp; (try rfl); done)); (try simp only [Act.put, List.setIfInBounds_toArray, List.set_cons_zero, List.set_cons_succ]))
    | (refine take_in (i := 17) (v := undef) rfl (by kernel_rfl) (by kernel_rfl) (by kernel_rfl) (fun _ _ _ h => h) (Or.inr ⟨by rfl, rfl⟩) (Below.refl _ _) ?_; (try simp only [Act.put, List.setIfInBounds_toArray, List.set_cons_zero, List.set_cons_succ]))
    | (fail "HTAKE 17")
  refine wpAnyH_done (by kernel_rfl) ?_ _
  go_wp2_with fail
  go_ret
  exact ⟨ret_bool (by by_cases h : xs = ys <;> simp [h]), hw8⟩
end Go.Proofs.Ytnolhnlhohpkpaa
