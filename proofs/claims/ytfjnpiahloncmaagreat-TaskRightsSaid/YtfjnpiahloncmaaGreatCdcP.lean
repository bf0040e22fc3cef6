import Derived.Test.YtfjnpiahloncmaaGreatCdcM
/-! Parts: their bytes, and what is read of bytes. 'key' and 'of': a float's key, and the float of a key. -/
namespace Cdc
abbrev PartT := Int × Int × Int × Nat × List UInt8 × Bool × Unit
section
variable (key : Nat → Nat) (of : Nat → Nat × Bool)
def encPart (x : PartT) : List UInt8 :=
  if x.1 = 1 then encN x.2.1.toNat
  else if x.1 = 2 then encN (zig x.2.2.1)
  else if x.1 = 3 then be 8 (key x.2.2.2.1)
  else if x.1 = 4 then encN x.2.2.2.2.1.length ++ x.2.2.2.2.1
  else if x.1 = 5 then encN (if x.2.2.2.2.2.1 = true then 1 else 0)
  else []
def encParts : List PartT → List UInt8
  | [] => []
  | x :: l => encPart key x ++ encParts l
abbrev FULL : Nat := 18446744073709551615
def rdI (s : St) : Int × St := (unzig (rdN FULL s).1, (rdN FULL s).2)
def rdF (s : St) : Nat × St :=
  if (fx 8 s).2.2 = true then (0, failed) else if (of (fx 8 s).1).2 = true then ((of (fx 8 s).1).1, (fx 8 s).2) else (0, failed)
def rdB (most : Nat) (s : St) : List UInt8 × St :=
  if (rdN most s).2.2 = true ∨ (rdN most s).2.1.length < (rdN most s).1 then ([], failed) else ((rdN most s).2.1.take (rdN most s).1, (rdN most s).2.1.drop (rdN most s).1, false)
def rdFlag (s : St) : Bool × St := ((rdN 1 s).1 == 1, (rdN 1 s).2)
def rdPart (k : Int) (s : St) : Option (PartT × St) :=
  if k = 1 then some ((k, ((rdN FULL s).1 : Int), 0, 0, [], false, ()), (rdN FULL s).2)
  else if k = 2 then some ((k, 0, (rdI s).1, 0, [], false, ()), (rdI s).2)
  else if k = 3 then some ((k, 0, 0, (rdF of s).1, [], false, ()), (rdF of s).2)
  else if k = 4 then some ((k, 0, 0, 0, (rdB 65536 s).1, false, ()), (rdB 65536 s).2)
  else if k = 5 then some ((k, 0, 0, 0, [], (rdFlag s).1, ()), (rdFlag s).2)
  else none
def rdParts : List Int → St → Option (List PartT × St)
  | [], s => some ([], s)
  | k :: ks, s => match rdPart of k s with
    | none => none
    | some (x, s') => match rdParts ks s' with
      | none => none
      | some (l, s'') => some (x :: l, s'')
/-- What Parts tells: none where it tells an error. -/
def partsL (b : List UInt8) (ks : List Int) : Option (List PartT) :=
  match rdParts of ks (b, false) with
  | none => none
  | some (l, s) => if s.2 = true ∨ s.1 ≠ [] then none else some l
def ownP (can : Nat → Nat) (x : PartT) : PartT :=
  if x.1 = 1 then (x.1, x.2.1, 0, 0, [], false, ())
  else if x.1 = 2 then (x.1, 0, x.2.2.1, 0, [], false, ())
  else if x.1 = 3 then (x.1, 0, 0, can x.2.2.2.1, [], false, ())
  else if x.1 = 4 then (x.1, 0, 0, 0, x.2.2.2.2.1, false, ())
  else if x.1 = 5 then (x.1, 0, 0, 0, [], x.2.2.2.2.2.1, ())
  else (x.1, 0, 0, 0, [], false, ())
def PartOk (x : PartT) : Prop := 0 ≤ x.2.1 ∧ x.2.1 < 18446744073709551616 ∧ -9223372036854775808 ≤ x.2.2.1 ∧ x.2.2.1 < 9223372036854775808 ∧ x.2.2.2.1 < 18446744073709551616
variable {key of}
theorem rdPart_enc {can : Nat → Nat} (hkey : ∀ f, f < 18446744073709551616 → key f < 18446744073709551616) (hof : ∀ f, f < 18446744073709551616 → of (key f) = (can f, true)) {x : PartT} (hx : PartOk x) (hl : x.2.2.2.2.1.length ≤ 65536) (hk : 1 ≤ x.1 ∧ x.1 ≤ 5) (r : List UInt8) :
    rdPart of x.1 (encPart key x ++ r, false) = some (ownP can x, r, false) := by
  obtain ⟨k, n, i, f, b, q, ⟨⟩⟩ := x
  obtain ⟨n0, n1, i0, i1, f1⟩ := hx
  simp only at n0 n1 i0 i1 f1 hl hk
  have hk' : k = 1 ∨ k = 2 ∨ k = 3 ∨ k = 4 ∨ k = 5 := by omega
  rcases hk' with rfl | rfl | rfl | rfl | rfl
  · show some (((1 : Int), ((rdN FULL (encN n.toNat ++ r, false)).1 : Int), (0 : Int), 0, [], false, ()), (rdN FULL (encN n.toNat ++ r, false)).2) = some ((1, n, 0, 0, [], false, ()), r, false)
    rw [rdN_enc (by omega) (by unfold FULL; omega), Int.toNat_of_nonneg n0]
  · show some (((2 : Int), (0 : Int), unzig (rdN FULL (encN (zig i) ++ r, false)).1, 0, [], false, ()), (rdN FULL (encN (zig i) ++ r, false)).2) = some ((2, 0, i, 0, [], false, ()), r, false)
    have := zig_lt i0 i1
    rw [rdN_enc this (by unfold FULL; omega), unzig_zig]
  · have hkf := hkey _ f1
    have e : fx 8 (be 8 (key f) ++ r, false) = (key f, r, false) := by
      have := fx_app (be 8 (key f)) r
      rwa [be_len, val_be _ _ (by omega)] at this
    show some (((3 : Int), (0 : Int), (0 : Int), (rdF of (be 8 (key f) ++ r, false)).1, [], false, ()), (rdF of (be 8 (key f) ++ r, false)).2) = some ((3, 0, 0, can f, [], false, ()), r, false)
    unfold rdF
    rw [e, hof _ f1]
    rfl
  · show some (((4 : Int), (0 : Int), (0 : Int), 0, (rdB 65536 ((encN b.length ++ b) ++ r, false)).1, false, ()), (rdB 65536 ((encN b.length ++ b) ++ r, false)).2) = some ((4, 0, 0, 0, b, false, ()), r, false)
    unfold rdB
    rw [List.append_assoc, rdN_enc (by omega) (by omega), if_neg (by simp), List.take_left, List.drop_left]
  · show some (((5 : Int), (0 : Int), (0 : Int), 0, [], (rdN 1 (encN (if q = true then 1 else 0) ++ r, false)).1 == 1, ()), (rdN 1 (encN (if q = true then 1 else 0) ++ r, false)).2) = some ((5, 0, 0, 0, [], q, ()), r, false)
    cases q with
    | true => rw [if_pos rfl, rdN_enc (by omega) (by omega)]; rfl
    | false => rw [if_neg Bool.false_ne_true, rdN_enc (by omega) (by omega)]; rfl
theorem rdParts_enc {can : Nat → Nat} (hkey : ∀ f, f < 18446744073709551616 → key f < 18446744073709551616) (hof : ∀ f, f < 18446744073709551616 → of (key f) = (can f, true)) : ∀ (l : List PartT) (r : List UInt8), (∀ x ∈ l, PartOk x ∧ x.2.2.2.2.1.length ≤ 65536 ∧ 1 ≤ x.1 ∧ x.1 ≤ 5) →
    rdParts of (l.map fun x => x.1) (encParts key l ++ r, false) = some (l.map (ownP can), r, false)
  | [], r, _ => rfl
  | x :: l, r, h => by
    obtain ⟨h1, h2, h3⟩ := h x List.mem_cons_self
    simp only [List.map_cons, rdParts, encParts, List.append_assoc]
    rw [rdPart_enc hkey hof h1 h2 h3]
    simp only
    rw [rdParts_enc hkey hof l r (fun y hy => h y (List.mem_cons_of_mem _ hy))]
/-- What is written is read as it was. -/
theorem parts_back {can : Nat → Nat} (hkey : ∀ f, f < 18446744073709551616 → key f < 18446744073709551616) (hof : ∀ f, f < 18446744073709551616 → of (key f) = (can f, true)) (l : List PartT) (h : ∀ x ∈ l, PartOk x ∧ x.2.2.2.2.1.length ≤ 65536 ∧ 1 ≤ x.1 ∧ x.1 ≤ 5) :
    partsL of (encParts key l) (l.map fun x => x.1) = some (l.map (ownP can)) := by
  have := rdParts_enc hkey hof l [] h
  rw [List.append_nil] at this
  unfold partsL
  rw [this]
  simp
theorem rdF_ok {s : St} (h : (rdF of s).2.2 = false) : s.2 = false := by
  cases hs : s.2 with
  | false => rfl
  | true =>
    have e : fx 8 s = (0, failed) := fx_bad (.inl hs)
    unfold rdF at h
    rw [e] at h
    simp at h
theorem rdB_ok {m : Nat} {s : St} (h : (rdB m s).2.2 = false) : s.2 = false := by
  unfold rdB at h
  split at h
  · simp at h
  · next hq =>
    simp only [not_or, Bool.not_eq_true] at hq
    exact rdN_ok hq.1
theorem rdPart_ok {k : Int} {s : St} {x : PartT} {s' : St} (h : rdPart of k s = some (x, s')) (h2 : s'.2 = false) : s.2 = false := by
  unfold rdPart at h
  repeat' split at h
  all_goals first
    | cases h
    | (injection h with h; injection h with h3 h4; subst h4)
  · exact rdN_ok h2
  · exact rdN_ok h2
  · exact rdF_ok h2
  · exact rdB_ok h2
  · exact rdN_ok h2
theorem rdParts_ok : ∀ (ks : List Int) (s : St) (l : List PartT) (s' : St), rdParts of ks s = some (l, s') → s'.2 = false → s.2 = false
  | [], s, l, s', h, h2 => by
    simp only [rdParts, Option.some.injEq, Prod.mk.injEq] at h
    obtain ⟨_, rfl⟩ := h
    exact h2
  | k :: ks, s, l, s', h, h2 => by
    simp only [rdParts] at h
    split at h
    · cases h
    · next x s1 h1 =>
      split at h
      · cases h
      · next l2 s2 h3 =>
        simp only [Option.some.injEq, Prod.mk.injEq] at h
        obtain ⟨_, rfl⟩ := h
        exact rdPart_ok h1 (rdParts_ok ks s1 l2 _ h3 h2)
/-- What was read, written again, is what it was read of. -/
theorem enc_rdPart (hko : ∀ k, k < 18446744073709551616 → (of k).2 = true → key (of k).1 = k) {k : Int} {s r : List UInt8} {x : PartT} (h : rdPart of k (s, false) = some (x, r, false)) : s = encPart key x ++ r := by
  unfold rdPart at h
  split at h
  · next hk =>
    subst hk
    injection h with h
    injection h with h3 h4
    subst h3
    have := rdN_inv (n := (rdN FULL (s, false)).1) (most := FULL) (r := r) (s := s) (by rw [← h4])
    show s = encN (Int.toNat ((rdN FULL (s, false)).1 : Int)) ++ r
    rw [Int.toNat_natCast]
    exact this.1
  · split at h
    · next hk =>
      subst hk
      injection h with h
      injection h with h3 h4
      subst h3
      have := rdN_inv (n := (rdN FULL (s, false)).1) (most := FULL) (r := r) (s := s) (by rw [← (show (rdI (s, false)).2 = (r, false) from h4)]; rfl)
      show s = encN (zig (unzig (rdN FULL (s, false)).1)) ++ r
      rw [zig_unzig]
      exact this.1
    · split at h
      · next hk =>
        subst hk
        injection h with h
        injection h with h3 h4
        subst h3
        show s = be 8 (key (rdF of (s, false)).1) ++ r
        unfold rdF at h4 ⊢
        by_cases hl : s.length < 8
        · rw [fx_bad (.inr hl)] at h4; simp at h4
        · rw [fx_ok (by omega)] at h4 ⊢
          simp only [Bool.false_eq_true, if_false] at h4 ⊢
          have hv := val_lt (s.take 8)
          have hl8 : (s.take 8).length = 8 := by rw [List.length_take]; omega
          rw [hl8] at hv
          have hb := be_val (s.take 8)
          rw [hl8] at hb
          split at h4
          · next hof =>
            rw [if_pos hof]
            simp only [Prod.mk.injEq] at h4
            rw [hko _ (by omega) hof, hb, ← h4.1, List.take_append_drop]
          · simp at h4
      · split at h
        · next hk =>
          subst hk
          injection h with h
          injection h with h3 h4
          subst h3
          show s = encN (rdB 65536 (s, false)).1.length ++ (rdB 65536 (s, false)).1 ++ r
          unfold rdB at h4 ⊢
          by_cases hq : (rdN 65536 (s, false)).2.2 = true ∨ (rdN 65536 (s, false)).2.1.length < (rdN 65536 (s, false)).1
          · rw [if_pos hq] at h4; simp at h4
          · rw [if_neg hq]
            have hq2 := hq
            simp only [not_or, Bool.not_eq_true, Nat.not_lt] at hq2
            obtain ⟨q1, q2⟩ := hq2
            rw [if_neg hq] at h4
            have := rdN_inv (n := (rdN 65536 (s, false)).1) (most := 65536) (r := (rdN 65536 (s, false)).2.1) (s := s) (by revert q1; generalize rdN 65536 (s, false) = p; obtain ⟨a, b, c⟩ := p; intro q1; simp only at q1; subst q1; rfl)
            simp only [Prod.mk.injEq] at h4
            show s = encN ((rdN 65536 (s, false)).2.1.take (rdN 65536 (s, false)).1).length ++ (rdN 65536 (s, false)).2.1.take (rdN 65536 (s, false)).1 ++ r
            rw [List.length_take, Nat.min_eq_left q2, ← h4.1, List.append_assoc, List.take_append_drop]
            exact this.1
        · split at h
          · next hk =>
            subst hk
            injection h with h
            injection h with h3 h4
            subst h3
            have := rdN_inv (n := (rdN 1 (s, false)).1) (most := 1) (r := r) (s := s) (by rw [← (show (rdFlag (s, false)).2 = (r, false) from h4)]; rfl)
            show s = encN (if (rdFlag (s, false)).1 = true then 1 else 0) ++ r
            rw [show (if (rdFlag (s, false)).1 = true then 1 else 0) = (rdN 1 (s, false)).1 from by
              unfold rdFlag
              have h1 := this.2.1
              by_cases h0 : (rdN 1 (s, false)).1 = 1
              · rw [h0]; rfl
              · rw [show (rdN 1 (s, false)).1 = 0 by omega]; rfl]
            exact this.1
          · cases h
theorem enc_rdParts (hko : ∀ k, k < 18446744073709551616 → (of k).2 = true → key (of k).1 = k) : ∀ (ks : List Int) (s r : List UInt8) (l : List PartT), rdParts of ks (s, false) = some (l, r, false) → s = encParts key l ++ r
  | [], s, r, l, h => by
    simp only [rdParts, Option.some.injEq, Prod.mk.injEq] at h
    obtain ⟨rfl, rfl, _⟩ := h
    rfl
  | k :: ks, s, r, l, h => by
    simp only [rdParts] at h
    split at h
    · cases h
    · next x s1 h1 =>
      split at h
      · cases h
      · next l2 s2 h3 =>
        simp only [Option.some.injEq, Prod.mk.injEq] at h
        obtain ⟨rfl, rfl⟩ := h
        have hb := rdParts_ok ks s1 l2 _ h3 rfl
        obtain ⟨s1, b1⟩ := s1
        simp only at hb
        subst hb
        have e1 := enc_rdPart hko h1
        have e2 := enc_rdParts hko ks s1 r l2 h3
        rw [e1, e2]
        simp [encParts]
theorem enc_parts (hko : ∀ k, k < 18446744073709551616 → (of k).2 = true → key (of k).1 = k) {ks : List Int} {b : List UInt8} {l : List PartT} (h : partsL of b ks = some l) : encParts key l = b := by
  unfold partsL at h
  split at h
  · cases h
  · next l' s h1 =>
    split at h
    · cases h
    · next hq =>
      injection h with h
      subst h
      simp only [not_or, Bool.not_eq_true, Decidable.not_not, ne_eq] at hq
      obtain ⟨r, b'⟩ := s
      obtain ⟨q1, q2⟩ := hq
      simp only at q1 q2
      subst q1 q2
      have := enc_rdParts hko ks b [] l' h1
      rw [this, List.append_nil]
end
end Cdc
