import Derived.Test.YtaagldmgbdiomaaSchX
namespace Go.Proofs.Ytaagldmgbdiomaa
open Go.RowKit Mixed
set_option linter.unusedVariables false
set_option linter.unusedSimpArgs false
/-- Whether a number is among others. -/
def hasK (l : List Int) (k : Int) : Bool := l.any (fun y => y == k)
set_option maxRecDepth 20000 in
theorem hasK_snoc (l : List Int) (x k : Int) : hasK (l ++ [x]) k = (hasK l k || x == k) := by simp [hasK]
set_option maxRecDepth 20000 in
theorem int_cell {w : World} {ok : Nat → Prop} {k : IntKind} {ad : Addr} {n : Nat} {l : List Int} (h : Rows w ok (.int k) (some ad) n l) {i : Nat} {x : Int} (hx : l[i]? = some x) : w.cell? (ad.add i) = some (.int k x) := by
  obtain ⟨cs, _, hat, hr⟩ := h.2.2 ad rfl i x hx
  obtain ⟨rfl, _⟩ := hr
  have := hat 0 _ rfl
  simpa [Sh.size] using this
set_option maxRecDepth 20000 in
theorem index_any (w : World) (ok : Nat → Prop) (A : Option Addr) (n c : Nat) (l : List Int) (k : Int) (h : Rows w ok (.int .i64) A n l) (hn : n ≤ 9223372036854775807) :
    Calls Try.prog 82 #[.slice A n c, .int .i64 k] w fun e w' => ∃ r : Int, e = .returned (.int .i64 r) ∧ decide (0 ≤ r) = hasK l k ∧ w' = w := by
  go_enter Try.func82, Try.ntmps82
  go_wp2_with fail
  go_loop [8] (fun s8 => ∃ i : Nat, i ≤ n ∧ s8 = .int .i64 i ∧ Hid (hasK (l.take i) k = false)) (fun s8 => n - (intOf s8).toNat)
  case atStart => exact ⟨0, by omega, rfl, Lib.hid rfl⟩
  case round =>
    obtain ⟨i, hi, rfl, HK⟩ := hrel
    have hl := h.1
    by_cases hlt : i < n
    · obtain ⟨x, hx⟩ : ∃ x, l[i]? = some x := ⟨l[i]'(by omega), List.getElem?_eq_getElem (by omega)⟩
      obtain ⟨ad, rfl⟩ : ∃ ad, A = some ad := by cases A with
        | none => exact absurd (h.2.1 rfl) (by omega)
        | some ad => exact ⟨ad, rfl⟩
      have c0 := int_cell h hx
      have i0 : (0 : Int) ≤ (i : Int) := by omega
      have i1 : (i : Int) < (n : Int) := by omega
      have HN := Lib.hid (show hasK (l.take (i + 1)) k = (x == k) by rw [take_at hx, hasK_snoc, HK.out]; rfl)
      have HX := Lib.hid hx
      clear hx
      by_cases hk : k = x
      · subst hk
        have HF := Lib.hid (show hasK l k = true by unfold hasK; rw [List.any_eq_true]; exact ⟨k, List.mem_of_getElem? HX.out, by simp⟩)
        go_wp2_with fail
        go_ret
        exact ⟨i, rfl, by rw [HF.out]; simp, rfl⟩
      · have hkb : (k == x) = false := by rw [beq_eq_false_iff_ne]; exact hk
        have HN2 := Lib.hid (show hasK (l.take (i + 1)) k = false by rw [HN.out, beq_eq_false_iff_ne]; exact fun e => hk e.symm)
        go_wp2_with fail
        go_round
        case rel => exact ⟨i + 1, by omega, by go_num, HN2⟩
        case measure => simp [intOf]; omega
    · obtain rfl : i = n := by omega
      have HF := Lib.hid (show hasK l k = false by have := HK.out; rwa [List.take_of_length_le (by omega)] at this)
      go_wp2_with fail
      go_ret
      exact ⟨-1, rfl, by rw [HF.out]; rfl, rfl⟩
set_option maxRecDepth 20000 in
theorem contains_any (w : World) (ok : Nat → Prop) (A : Option Addr) (n c : Nat) (l : List Int) (k : Int) (h : Rows w ok (.int .i64) A n l) (hn : n ≤ 9223372036854775807) :
    Calls Try.prog 60 #[.slice A n c, .int .i64 k] w fun e w' => e = .returned (.bool (hasK l k)) ∧ w' = w := by
  go_enter Try.func60, Try.ntmps60
  go_wp2_with (go_at_call 82; refine (index_any _ ok A n c l k h hn).mono ?_; rintro e w' ⟨r, rfl, hr, rfl⟩)
  go_ret
  exact ⟨rfl, rfl⟩
/-- Whether a step's kind names a node. -/
def namesK (k : Int) : Bool := !(k == 4 || k == 5 || k == 6 || k == 13) && (decide (1 ≤ k) && decide (k ≤ 14))
set_option maxRecDepth 20000 in
theorem names_any (w : World) (k : Int) :
    Calls Try.prog 65 #[.int .i64 k] w fun e w' => e = .returned (.bool (namesK k)) ∧ w' = w := by
  by_cases h4 : k = 4
  · subst h4
    go_enter Try.func65, Try.ntmps65
    go_wp2_with fail
    go_ret
    exact ⟨rfl, rfl⟩
  by_cases h5 : k = 5
  · subst h5
    go_enter Try.func65, Try.ntmps65
    go_wp2_with fail
    go_ret
    exact ⟨rfl, rfl⟩
  by_cases h6 : k = 6
  · subst h6
    go_enter Try.func65, Try.ntmps65
    go_wp2_with fail
    go_ret
    exact ⟨rfl, rfl⟩
  by_cases h13 : k = 13
  · subst h13
    go_enter Try.func65, Try.ntmps65
    go_wp2_with fail
    go_ret
    exact ⟨rfl, rfl⟩
  have b4 : (k == 4) = false := beq_eq_false_iff_ne.2 h4
  have b5 : (k == 5) = false := beq_eq_false_iff_ne.2 h5
  have b6 : (k == 6) = false := beq_eq_false_iff_ne.2 h6
  have b13 : (k == 13) = false := beq_eq_false_iff_ne.2 h13
  have HN := Lib.hid (show namesK k = (decide (1 ≤ k) && decide (k ≤ 14)) by unfold namesK; rw [b4, b5, b6, b13]; rfl)
  by_cases hl : 1 ≤ k
  · have HV := Lib.hid (show namesK k = decide (k ≤ 14) by rw [HN.out, decide_eq_true hl]; rfl)
    go_enter Try.func65, Try.ntmps65
    go_wp2_with fail
    go_ret
    exact ⟨ret_bool HV.out.symm, rfl⟩
  · have HV := Lib.hid (show namesK k = false by rw [HN.out, decide_eq_false hl]; rfl)
    go_enter Try.func65, Try.ntmps65
    go_wp2_with fail
    go_ret
    exact ⟨ret_bool HV.out.symm, rfl⟩
set_option maxRecDepth 20000 in
theorem chosen_any (w : World) (ok : Nat → Prop) (A : Option Addr) (n ca : Nat) (la : List STEP.Ty) (g : Nat) (cap : Value) (p : STEP.Ty → Bool) (ha : Rows w ok STEP A n la) (hna : n ≤ ca) (hca : ca ≤ 9223372036854775807) (hn : n ≤ 1000) (hsa : SmallS la)
    (hg : ∀ (args : Array Value) (W : World), (callFunc g args).run Try.prog W = .ok (.enter g args) W)
    (HG : ∀ (W : World) (x : STEP.Ty) (cs : List Value), Below w.heap.size w W → Rd W ok STEP x cs → Calls Try.prog g #[.agg cs.toArray, cap] W fun e w' => e = .returned (.bool (p x)) ∧ Below W.heap.size W w') :
    Calls Try.prog 58 #[.slice A n ca, .func (.func g) #[] #[cap]] w fun e w' => ∃ v, e = .returned v ∧ Own w' w.heap.size 45 STEP v (la.filter p) ∧ Below w.heap.size w w' := by
  go_enter Try.func58, Try.ntmps58
  go_wp2_with fail
  go_step3
  go_wp2_with fail
  go_step3
  go_wp2_with fail
  go_loopw [5, 10] (fun s5 s10 wr => ∃ (i : Nat) (v : Value), i ≤ n ∧ s5 = v ∧ s10 = .int .i64 i ∧ Own wr w.heap.size 45 STEP v ((la.take i).filter p) ∧ Below w.heap.size w wr) (fun _ s10 _ => n - (intOf s10).toNat)
  case atStart => exact ⟨0, _, by omega, rfl, rfl, Own.nil _ _ _ _, Below.refl _ _⟩
  case round =>
    obtain ⟨i, v, hi, rfl, rfl, hO, hbel⟩ := hrel
    have hl := ha.1
    obtain ⟨Ao, co, rfl, _⟩ := hO.form
    have HO := Lib.hid hO
    clear hO
    by_cases hlt : i < n
    · obtain ⟨x, hx⟩ : ∃ x, la[i]? = some x := ⟨la[i]'(by omega), List.getElem?_eq_getElem (by omega)⟩
      obtain ⟨ad, rfl⟩ : ∃ ad, A = some ad := by cases A with
        | none => exact absurd (ha.2.1 rfl) (by omega)
        | some ad => exact ⟨ad, rfl⟩
      obtain ⟨cs, _, hat, hrd⟩ := ha.2.2 ad rfl i x hx
      have i0 : (0 : Int) ≤ (i : Int) := by omega
      have i1 : (i : Int) < (n : Int) := by omega
      have HAt := Lib.hid (hat.add.below hbel)
      clear hat
      have hcl := hrd.len
      have hco := hrd.one
      have hsx := hsa x (List.mem_of_getElem? hx)
      have hRd := Lib.hid (hrd.below hbel)
      have HF := Lib.hid (show (la.take (i + 1)).filter p = if p x = true then (la.take i).filter p ++ [x] else (la.take i).filter p by rw [take_at hx, List.filter_append, List.filter_cons]; cases p x <;> simp)
      clear hrd hx
      have HGx := Lib.hid HG
      clear HG
      cases hp : p x with
      | false =>
        rw [hp] at HF
        go_wp2_with (first
          | (refine wpL_load rfl 45 (.tmp 12) rfl _ rfl _ _ HAt.out Try.underlying45 rfl (by rw [hcl]; rfl) ?_)
          | (refine wpL_store rfl 45 (.tmp 7) (.tmp 13) rfl wr.heap.size rfl cs.toArray _ 45 rfl (heap_alloc_new wr _) (by rw [List.size_toArray, hcl]; rfl) (by rw [List.size_toArray, hcl]; rfl) hco ?_; intro w1 hc1 hg1; have hbw1 : Below wr.heap.size wr w1 := (below_alloc1 wr _).grown hg1 (by simp) (fun k e => by cases e; exact Nat.le_refl _))
          | (refine wpL_load rfl 45 (.tmp 7) rfl ⟨wr.heap.size, 0, none⟩ rfl cs _ (At.blk hc1) Try.underlying45 rfl (by rw [hcl]; rfl) ?_))
        refine (HGx.out w1 x cs (hbel.trans (hbw1.mono hbel.size)) (hRd.out.below hbw1)).mono ?_
        rintro e w2 ⟨rfl, hb2⟩
        rw [hp]
        have hbw2 := hbw1.trans (hb2.mono hbw1.size)
        have HO2 := Lib.hid (HO.out.below hbw2)
        go_wp2_with fail
        go_roundw
        case measure => simp [intOf]; omega
        case rel => exact ⟨i + 1, _, by omega, rfl, by go_num, (by have h := HF.out; rw [if_neg Bool.false_ne_true] at h; rw [h]; exact HO2.out), hbel.trans (hbw2.mono hbel.size)⟩
      | true =>
        rw [hp] at HF
        go_wp2_with (first
          | (refine wpL_load rfl 45 (.tmp 12) rfl _ rfl _ _ HAt.out Try.underlying45 rfl (by rw [hcl]; rfl) ?_)
          | (refine wpL_store rfl 45 (.tmp 7) (.tmp 13) rfl wr.heap.size rfl cs.toArray _ 45 rfl (heap_alloc_new wr _) (by rw [List.size_toArray, hcl]; rfl) (by rw [List.size_toArray, hcl]; rfl) hco ?_; intro w1 hc1 hg1; have hbw1 : Below wr.heap.size wr w1 := (below_alloc1 wr _).grown hg1 (by simp) (fun k e => by cases e; exact Nat.le_refl _))
          | (refine wpL_load rfl 45 (.tmp 7) rfl ⟨wr.heap.size, 0, none⟩ rfl cs _ (At.blk hc1) Try.underlying45 rfl (by rw [hcl]; rfl) ?_))
        refine (HGx.out w1 x cs (hbel.trans (hbw1.mono hbel.size)) (hRd.out.below hbw1)).mono ?_
        rintro e w2 ⟨rfl, hb2⟩
        rw [hp]
        have hbw2 := hbw1.trans (hb2.mono hbw1.size)
        have HO2 := Lib.hid (HO.out.below hbw2)
        have hc2 := blk_below hc1 hb2 (blk_lt hc1)
        have hRd2 := Lib.hid (hRd.out.below hbw2)
        have HB2 := Lib.hid (hbel.trans (hbw2.mono hbel.size))
        have hfl : ((la.take i).filter p).length ≤ n := Nat.le_trans (List.length_filter_le _ _) (by rw [List.length_take]; omega)
        go_wp2_with (first
          | (refine wpL_load rfl 45 (.tmp 7) rfl ⟨wr.heap.size, 0, none⟩ rfl cs _ (At.blk hc2) Try.underlying45 rfl (by rw [hcl]; rfl) ?_)
          | (go_at_call 62; refine (own_any _ ok x cs hRd2.out hsx.1 hsx.2).mono ?_; rintro e w3 ⟨cs', rfl, R3, hb3⟩; have HO3 := Lib.hid (HO2.out.below hb3); have HR3 := Lib.hid R3; have hl3 := R3.len; have hb3w := HB2.out.trans (hb3.mono HB2.out.size); clear R3)
          | (refine wpL_lit1 rfl (cs := cs') (.tmp 20) rfl rfl Try.underlying33 info_step rfl (by decide) (by decide) (by rw [hl3]; rfl) ?_)
          | (at_builtin; refine wp_appO (m := 1) (r := [x]) (ys := cs') rfl (.tmp 18) (.tmp 21) rfl (HO3.out.below (below_alloc1 w3 _)) rfl (fun e => by cases e) (fun ad' e => by cases e; exact At.blk (heap_alloc_new w3 _)) (RdL.single (HO2.out.apart (Nat.le_refl _) HB2.out.size HR3.out (below_alloc1 w3 _))) (hb3w.alloc hb3w.size _) Try.underlying33 info_step rfl (by decide) rfl rfl (by rw [bytes_step]; omega) (by omega) (by have := hb3w.size; simp; omega) ?_; intro v4 w4 hO4 hb4 _ _; have HO4 := Lib.hid hO4; obtain ⟨A4, c4, rfl, _⟩ := hO4.form; clear hO4))
        go_roundw
        case measure => simp [intOf]; omega
        case rel => exact ⟨i + 1, _, by omega, rfl, by go_num, (by have h := HF.out; rw [if_pos trivial] at h; rw [h]; have h5 := HO4.out; rw [show ((la.take i).filter p ++ [x]).length = ((la.take i).filter p).length + 1 by simp] at h5; exact h5), hb4⟩
    · obtain rfl : i = n := by omega
      have HF := Lib.hid (show (la.take i).filter p = la.filter p by rw [List.take_of_length_le (by omega)])
      clear HG
      go_wp2_with fail
      rw [Exit.noGoto_ret]
      go_ret
      exact ⟨_, rfl, HF.out ▸ HO.out, hbel⟩
/-- What a closure holds: a row of numbers, in a block of its own. -/
def KindsAt (w : World) (b : Nat) (ks : List Int) : Prop := ∃ A n c, w.cell? ⟨b, 0, none⟩ = some (.slice A n c) ∧ n ≤ 9223372036854775807 ∧ Rows w anyB (.int .i64) A n ks
set_option maxRecDepth 20000 in
theorem KindsAt.below {w w' : World} {b : Nat} {ks : List Int} (h : KindsAt w b ks) (hb : Below w.heap.size w w') : KindsAt w' b ks := by
  obtain ⟨A, n, c, h1, h2, h3⟩ := h
  exact ⟨A, n, c, cell_below hb h1, h2, h3.below hb⟩
abbrev kindOf (x : STEP.Ty) : Int := x.1
abbrev nodeOf (x : STEP.Ty) : Int := x.2.1
set_option maxRecDepth 20000 in
theorem only1_any (w : World) (ok : Nat → Prop) (b : Nat) (ks : List Int) (x : STEP.Ty) (cs : List Value) (hk : KindsAt w b ks) (h : Rd w ok STEP x cs) :
    Calls Try.prog 59 #[.agg cs.toArray, .pointer (some ⟨b, 0, none⟩)] w fun e w' => e = .returned (.bool (hasK ks (kindOf x))) ∧ Below w.heap.size w w' := by
  obtain ⟨kind, node, other, n, mk, mi, ml, mt, mf, mb, ql, qd, qt, qs, qw, qm, kv, dv, rfl, hx, hwf, h7, h8⟩ := rd_step h
  rw [hx]
  unfold stepC
  obtain ⟨A, m, c, hc, hm, hr⟩ := hk.below (below_alloc1 w (.cells #[Value.int IntKind.i64 kind, Value.int IntKind.i64 node, Value.int IntKind.i64 other, Value.int IntKind.i64 n, Value.int IntKind.i64 mk, Value.int IntKind.u64 mi, Value.int IntKind.u64 ml, Value.string mt, Value.float FloatKind.f64 mf, Value.bool mb, Value.int IntKind.u64 ql, Value.int IntKind.i64 qd, Value.string qt, Value.int IntKind.i64 qs, Value.bool qw, Value.int IntKind.i64 qm, kv, dv] 45))
  clear h h7 h8 hx hwf hk
  go_enter Try.func59, Try.ntmps59
  go_wp2_with (go_at_call 60; refine (contains_any _ anyB A m c ks kind hr hm).mono ?_; rintro e w' ⟨rfl, rfl⟩)
  go_ret
  exact ⟨rfl, below_alloc1 w _⟩
set_option maxRecDepth 20000 in
theorem without1_any (w : World) (ok : Nat → Prop) (b : Nat) (ks : List Int) (x : STEP.Ty) (cs : List Value) (hk : KindsAt w b ks) (h : Rd w ok STEP x cs) :
    Calls Try.prog 61 #[.agg cs.toArray, .pointer (some ⟨b, 0, none⟩)] w fun e w' => e = .returned (.bool (!hasK ks (kindOf x))) ∧ Below w.heap.size w w' := by
  obtain ⟨kind, node, other, n, mk, mi, ml, mt, mf, mb, ql, qd, qt, qs, qw, qm, kv, dv, rfl, hx, hwf, h7, h8⟩ := rd_step h
  rw [hx]
  unfold stepC
  obtain ⟨A, m, c, hc, hm, hr⟩ := hk.below (below_alloc1 w (.cells #[Value.int IntKind.i64 kind, Value.int IntKind.i64 node, Value.int IntKind.i64 other, Value.int IntKind.i64 n, Value.int IntKind.i64 mk, Value.int IntKind.u64 mi, Value.int IntKind.u64 ml, Value.string mt, Value.float FloatKind.f64 mf, Value.bool mb, Value.int IntKind.u64 ql, Value.int IntKind.i64 qd, Value.string qt, Value.int IntKind.i64 qs, Value.bool qw, Value.int IntKind.i64 qm, kv, dv] 45))
  clear h h7 h8 hx hwf hk
  go_enter Try.func61, Try.ntmps61
  go_wp2_with (go_at_call 60; refine (contains_any _ anyB A m c ks kind hr hm).mono ?_; rintro e w' ⟨rfl, rfl⟩)
  go_ret
  exact ⟨rfl, below_alloc1 w _⟩
set_option maxRecDepth 20000 in
theorem of1_any (w : World) (ok : Nat → Prop) (b : Nat) (m : Int) (x : STEP.Ty) (cs : List Value) (hc : w.cell? ⟨b, 0, none⟩ = some (.int .i64 m)) (h : Rd w ok STEP x cs) :
    Calls Try.prog 64 #[.agg cs.toArray, .pointer (some ⟨b, 0, none⟩)] w fun e w' => e = .returned (.bool (namesK (kindOf x) && nodeOf x == m)) ∧ Below w.heap.size w w' := by
  obtain ⟨kind, node, other, n, mk, mi, ml, mt, mf, mb, ql, qd, qt, qs, qw, qm, kv, dv, rfl, hx, hwf, h7, h8⟩ := rd_step h
  rw [hx]
  unfold stepC
  replace hc := cell_below (below_alloc1 w (.cells #[Value.int IntKind.i64 kind, Value.int IntKind.i64 node, Value.int IntKind.i64 other, Value.int IntKind.i64 n, Value.int IntKind.i64 mk, Value.int IntKind.u64 mi, Value.int IntKind.u64 ml, Value.string mt, Value.float FloatKind.f64 mf, Value.bool mb, Value.int IntKind.u64 ql, Value.int IntKind.i64 qd, Value.string qt, Value.int IntKind.i64 qs, Value.bool qw, Value.int IntKind.i64 qm, kv, dv] 45)) hc
  clear h h7 h8 hx hwf
  cases hn : namesK kind with
  | true =>
    have HV := Lib.hid (show (namesK kind && node == m) = (node == m) by rw [hn]; rfl)
    go_enter Try.func64, Try.ntmps64
    go_wp2_with (go_at_call 65; refine (names_any _ kind).mono ?_; rintro e w' ⟨rfl, rfl⟩)
    go_ret
    exact ⟨rfl, below_alloc1 w _⟩
  | false =>
    have HV := Lib.hid (show (namesK kind && node == m) = false by rw [hn]; rfl)
    go_enter Try.func64, Try.ntmps64
    go_wp2_with (go_at_call 65; refine (names_any _ kind).mono ?_; rintro e w' ⟨rfl, rfl⟩)
    go_ret
    exact ⟨rfl, below_alloc1 w _⟩
set_option maxRecDepth 20000 in
theorem only_any (w : World) (ok : Nat → Prop) (A : Option Addr) (n ca : Nat) (la : List STEP.Ty) (K : Option Addr) (m ck : Nat) (ks : List Int) (ha : Rows w ok STEP A n la) (hna : n ≤ ca) (hca : ca ≤ 9223372036854775807) (hn : n ≤ 1000) (hsa : SmallS la) (hk : Rows w ok (.int .i64) K m ks) (hm : m ≤ 9223372036854775807) :
    Calls Try.prog 19 #[.slice A n ca, .slice K m ck] w fun e w' => ∃ v, e = .returned v ∧ Own w' w.heap.size 45 STEP v (la.filter fun x => hasK ks (kindOf x)) ∧ Below w.heap.size w w' := by
  have hb1 := below_alloc1 w (.cells #[Value.slice K m ck] 34)
  have hka : KindsAt (w.alloc (.cells #[Value.slice K m ck] 34)) w.heap.size ks := ⟨K, m, ck, blk_at (heap_alloc_new w _) 0 _ rfl, hm, (hk.below hb1).any⟩
  have HA := Lib.hid (ha.below hb1)
  clear ha hk
  go_enter Try.func19, Try.ntmps19
  go_wp2_with (go_at_call 58; refine (chosen_any _ ok A n ca la 59 (.pointer (some ⟨w.heap.size, 0, none⟩)) (fun x => hasK ks (kindOf x)) HA.out hna hca hn hsa (fun _ _ => rfl) (fun W x cs hW hr => only1_any W ok _ ks x cs (hka.below hW) hr)).mono ?_; rintro e w2 ⟨v, rfl, hO, hb2⟩; have hb := hb1.trans (hb2.mono (by simp)); have HO := Lib.hid hO; obtain ⟨A2, c2, rfl, _⟩ := hO.form; clear hO)
  go_ret
  exact ⟨_, rfl, HO.out.base (by simp), hb⟩
set_option maxRecDepth 20000 in
theorem without_any (w : World) (ok : Nat → Prop) (A : Option Addr) (n ca : Nat) (la : List STEP.Ty) (K : Option Addr) (m ck : Nat) (ks : List Int) (ha : Rows w ok STEP A n la) (hna : n ≤ ca) (hca : ca ≤ 9223372036854775807) (hn : n ≤ 1000) (hsa : SmallS la) (hk : Rows w ok (.int .i64) K m ks) (hm : m ≤ 9223372036854775807) :
    Calls Try.prog 20 #[.slice A n ca, .slice K m ck] w fun e w' => ∃ v, e = .returned v ∧ Own w' w.heap.size 45 STEP v (la.filter fun x => !hasK ks (kindOf x)) ∧ Below w.heap.size w w' := by
  have hb1 := below_alloc1 w (.cells #[Value.slice K m ck] 34)
  have hka : KindsAt (w.alloc (.cells #[Value.slice K m ck] 34)) w.heap.size ks := ⟨K, m, ck, blk_at (heap_alloc_new w _) 0 _ rfl, hm, (hk.below hb1).any⟩
  have HA := Lib.hid (ha.below hb1)
  clear ha hk
  go_enter Try.func20, Try.ntmps20
  go_wp2_with (go_at_call 58; refine (chosen_any _ ok A n ca la 61 (.pointer (some ⟨w.heap.size, 0, none⟩)) (fun x => !hasK ks (kindOf x)) HA.out hna hca hn hsa (fun _ _ => rfl) (fun W x cs hW hr => without1_any W ok _ ks x cs (hka.below hW) hr)).mono ?_; rintro e w2 ⟨v, rfl, hO, hb2⟩; have hb := hb1.trans (hb2.mono (by simp)); have HO := Lib.hid hO; obtain ⟨A2, c2, rfl, _⟩ := hO.form; clear hO)
  go_ret
  exact ⟨_, rfl, HO.out.base (by simp), hb⟩
set_option maxRecDepth 20000 in
theorem of_any (w : World) (ok : Nat → Prop) (A : Option Addr) (n ca : Nat) (la : List STEP.Ty) (m : Int) (ha : Rows w ok STEP A n la) (hna : n ≤ ca) (hca : ca ≤ 9223372036854775807) (hn : n ≤ 1000) (hsa : SmallS la) :
    Calls Try.prog 25 #[.slice A n ca, .int .i64 m] w fun e w' => ∃ v, e = .returned v ∧ Own w' w.heap.size 45 STEP v (la.filter fun x => namesK (kindOf x) && nodeOf x == m) ∧ Below w.heap.size w w' := by
  have hb1 := below_alloc1 w (.cells #[Value.int .i64 m] 3)
  have hka := blk_at (heap_alloc_new w (.cells #[Value.int .i64 m] 3)) 0 _ rfl
  have HA := Lib.hid (ha.below hb1)
  clear ha
  go_enter Try.func25, Try.ntmps25
  go_wp2_with (go_at_call 58; refine (chosen_any _ ok A n ca la 64 (.pointer (some ⟨w.heap.size, 0, none⟩)) (fun x => namesK (kindOf x) && nodeOf x == m) HA.out hna hca hn hsa (fun _ _ => rfl) (fun W x cs hW hr => of1_any W ok _ m x cs (cell_below hW hka) hr)).mono ?_; rintro e w2 ⟨v, rfl, hO, hb2⟩; have hb := hb1.trans (hb2.mono (by simp)); have HO := Lib.hid hO; obtain ⟨A2, c2, rfl, _⟩ := hO.form; clear hO)
  go_ret
  exact ⟨_, rfl, HO.out.base (by simp), hb⟩
end Go.Proofs.Ytaagldmgbdiomaa
