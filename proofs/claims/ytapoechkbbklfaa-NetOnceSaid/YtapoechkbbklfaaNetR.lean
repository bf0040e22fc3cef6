import Derived.Test.YtapoechkbbklfaaNetO
import Derived.Test.YtapoechkbbklfaaNetI
namespace Go.Proofs.Ytapoechkbbklfaa
open Go.RowKit
set_option linter.unusedVariables false
set_option linter.unusedSimpArgs false
section
variable {P : Program} {o : Oper} {a : Act}
set_option maxRecDepth 20000 in
theorem run_slice_mid (w : World) {t e : TypeId} {A : Option Addr} {n c lo hi size : Nat} {k k' : IntKind} (hu : P.underlying t = some (.slice e)) (hs : (P.info? e).map (·.size) = some size) (h1 : lo ≤ hi) (h : hi ≤ c) :
    (Instr.slice t (.slice A n c) (some (.int k lo)) (some (.int k' hi)) none).run P w = .ok (.slice (if c = lo then A else A.map (fun x : Addr => x.add (lo * size))) (hi - lo) (c - lo)) w := by
  obtain ⟨ie, hi', hzz⟩ := Option.map_eq_some_iff.1 hs
  subst hzz
  simp [Instr.slice, run_underlying hu, Instr.sliceBounds, Instr.sliceBound, asIntOf, sizeOf, typeInfo, hi', h, h1]
set_option maxRecDepth 20000 in
theorem yields_midB {ops : Array Oper} {S : World → Prop} (hw : Region.wanted o (yielded ops a.tmps) = true) {t e : TypeId} {A B : Option Addr} {n c size : Nat} {k k' : IntKind} (lo hi : Nat) (x y z : Operand) (ho : o.op = .slice t x (some y) (some z) none)
    (hx : a.eval x = .slice A n c) (hy : a.eval y = .int k lo) (hz : a.eval z = .int k' hi) (hu : P.underlying t = some (.slice e)) (hs : (P.info? e).map (·.size) = some size) (h1 : lo ≤ hi) (h : hi ≤ c) (hB : (if c = lo then A else A.map (fun x : Addr => x.add (lo * size))) = B) : YieldsIf P ops S o (.slice B (hi - lo) (c - lo)) a :=
  .inl ⟨hw, fun w _ => by
    unfold execOp
    have hr := run_slice_mid (P := P) w (A := A) (n := n) (c := c) (k := k) (k' := k') hu hs h1 h
    rw [hB] at hr
    simp only [ho, hx, hy, hz, Option.map_some, Option.map_none, Instr.sliceAt, run_underlying hu, hr, Sem.run_bind, Sem.run_pure, Result.andThen_ok]⟩
end
set_option maxRecDepth 20000 in
theorem netR_turn {w w' : World} {b1 B : Nat} {room : Int} {sv : Value} {l : List PKT.Ty} {p : Nat → Prop} (h : NetR w b1 B room sv l) (hT : Turn p w w') (h1 : ¬ p b1) (hp : ∀ k, p k → k < B) : NetR w' b1 B room sv l :=
  ⟨hT.blk h.1 h1, OwnG.turn h.2.1 hT (fun k e hk => by have := (h.own_ge e).1; have := hp k hk; omega) (fun k _ hk hpk => by have := hp k hpk; have hk : B ≤ k := hk; omega), h.2.2.1, Nat.le_trans h.2.2.2.1 hT.size, h.2.2.2.2⟩
set_option maxRecDepth 20000 in
theorem sendL_all {room : Int} {L : List PKT.Ty} (h : (L.length : Int) ≤ room) : sendL room [] L = (L, L.length) := by
  unfold sendL
  suffices hs : ∀ (L : List PKT.Ty) (a : List PKT.Ty × Nat), ((a.1.length + L.length : Nat) : Int) ≤ room → L.foldl (sendF room) a = (a.1 ++ L, a.2 + L.length) by
    have := hs L ([], 0) (by simpa using h)
    simpa using this
  intro L
  induction L with
  | nil => intro a _; simp
  | cons p L ih =>
    intro a ha
    rw [List.length_cons] at ha
    rw [List.foldl_cons]
    have e : sendF room a p = (a.1 ++ [p], a.2 + 1) := by unfold sendF; rw [if_pos (by omega)]
    rw [e, ih _ (by simp; omega)]
    simp
    omega
set_option maxRecDepth 20000 in
theorem fewL_sm {L : List PKT.Ty} (h : fewL L = true) : (∀ p ∈ L, (dataP p).length ≤ 50) ∧ L.length ≤ 10 := by
  unfold fewL at h
  rw [Bool.and_eq_true, List.all_eq_true] at h
  exact ⟨fun p hp => by simpa using h.1 p hp, by simpa using h.2⟩
set_option maxRecDepth 20000 in
theorem perm_at {α : Type} (l : List α) (k : Nat) (h : k < l.length) : l.Perm (l[k] :: l.eraseIdx k) := by
  have e : l = l.take k ++ l[k] :: l.drop (k + 1) := by rw [← List.drop_eq_getElem_cons h, List.take_append_drop]
  rw [List.eraseIdx_eq_take_drop_succ]
  refine List.Perm.trans ?_ List.perm_middle
  rw [← e]
set_option maxRecDepth 20000 in
/-- What is left, and what is under way, with one less. -/
theorem perm_step {f q q' : List PKT.Ty} {p : PKT.Ty} {i : Int} {k : Nat} (h : f.Perm q) (ht : takeL q i = some (p, q')) (hk : k < f.length) (hp : f[k] = p) : (f.take k ++ f.drop (k + 1)).Perm q' := by
  unfold takeL at ht
  split at ht
  · cases ht
  · next p' hp' =>
    injection ht with ht
    injection ht with e1 e2
    subst e1
    subst e2
    obtain ⟨hlt, hg⟩ := List.getElem?_eq_some_iff.1 hp'
    rw [← List.eraseIdx_eq_take_drop_succ]
    have h1 : f.Perm (f[k] :: f.eraseIdx k) := perm_at f k hk
    have h2 : q.Perm (q[(placeZ q.length i).toNat] :: q.eraseIdx (placeZ q.length i).toNat) := perm_at q _ hlt
    rw [hp] at h1
    rw [hg] at h2
    exact ((h1.symm.trans h).trans h2).cons_inv
set_option maxRecDepth 20000 in
theorem take_mem {q q' : List PKT.Ty} {p : PKT.Ty} {i : Int} (ht : takeL q i = some (p, q')) : p ∈ q := by
  unfold takeL at ht
  split at ht
  · cases ht
  · next p' hp' =>
    injection ht with ht
    injection ht with e1 e2
    subst e1
    exact List.mem_of_getElem? hp'
set_option maxRecDepth 20000 in
theorem take_none {q : List PKT.Ty} {i : Int} (ht : takeL q i = none) : q = [] := by
  by_cases h0 : q.length = 0
  · exact List.eq_nil_of_length_eq_zero h0
  · obtain ⟨k, hk, hpk⟩ := place_lt i h0
    rw [takeL_at hpk hk] at ht
    cases ht
set_option maxHeartbeats 8000000 in
set_option maxRecDepth 20000 in
theorem w_NetOnce (a : Option Addr) (n c : Nat) (l : List PKT.Ty) (t : Option Addr) (m d : Nat) (ts : List Int) (w : World) (ha : Rd w anyB (.sl PKT) l [.slice a n c]) (hb : Rd w anyB (.sl (.int .i64)) ts [.slice t m d]) :
    Calls Try.prog 5 #[.slice a n c, .slice t m d] w fun e w' => e = .returned (.bool true) ∧ Below w.heap.size w w' := by
  obtain ⟨hq1, hq2, _, hrow⟩ := rd_rowsN ha
  obtain ⟨hr1, hr2, _, hrot⟩ := rd_rowsN hb
  have HR := Lib.hid hrow
  have HT := Lib.hid hrot
  have hln := hrow.1
  have HLN := Lib.hid hln
  have hn63 : n ≤ 9223372036854775807 := by omega
  have hm63 : m ≤ 9223372036854775807 := by omega
  clear ha hb hrow hrot
  go_enter Try.func5, Try.ntmps5
  go_wp2_with fail
  refine (net_awake w).mono ?_
  rintro e w1 ⟨rfl, hb1⟩
  have HB1 := Lib.hid hb1
  clear hb1
  go_wp2_with fail
  refine (few_any w1 anyB a n c l (HR.out.below HB1.out) hn63).mono ?_
  rintro e w2 ⟨rfl, hb2⟩
  have HB2 := Lib.hid (HB1.out.trans (hb2.mono HB1.out.size))
  clear hb2
  cases hf : fewL l with
  | false =>
    clear hf
    go_wp2_with fail
    go_ret
    exact ⟨rfl, HB2.out⟩
  | true =>
  obtain ⟨hsm, hd10⟩ := fewL_sm hf
  have HSM := Lib.hid hsm
  clear hf hsm
  rw [hln] at hd10
  by_cases h20 : 20 < m
  case pos =>
    have h20' : (20 : Int) < (m : Int) := by omega
    clear h20
    go_wp2_with fail
    go_ret
    exact ⟨rfl, HB2.out⟩
  have h20' : (m : Int) ≤ 20 := by omega
  clear h20 hln
  go_wp2_with fail
  refine (new_any w2 100).mono ?_
  rintro e w3 ⟨rfl, h3⟩
  obtain ⟨b1, hb1⟩ : ∃ b1, w2.heap.size = b1 := ⟨_, rfl⟩
  have hN3 := new_net (w := w2) (room := max 100 0)
  have hb23 : Below w2.heap.size w2 w3 := by rw [h3]; exact below_alloc1 w2 _
  rw [← h3, hb1] at hN3
  rw [hb1]
  have HB3 := Lib.hid (HB2.out.trans (hb23.mono HB2.out.size))
  have hwb : w.heap.size ≤ b1 := by rw [← hb1]; exact HB2.out.size
  have hR3 : Rows w3 (fun k => k < w.heap.size) PKT a n l := HR.out.turn (Turn.of_below (p := fun _ => False) HB3.out) (fun k hk _ => ⟨id, hk⟩)
  have HR3 := Lib.hid hR3
  clear h3 hb23 hb1 hR3
  go_wp2_with fail
  refine (send_any w3 b1 (b1 + 1) (max 100 0) (.slice none 0 0) [] l (fun k => k < w.heap.size) a n c hN3 HR3.out (fun k hk => ⟨by omega, fun e => by cases e⟩) (fun p hp => by have := HSM.out p hp; omega) (by simp; omega)).mono ?_
  rintro e w4 ⟨rfl, hN4⟩
  rw [show sendL (max 100 0) [] l = (l, l.length) from sendL_all (by have := HLN.out; omega)] at hN4 ⊢
  obtain ⟨sv4, hN4, hT4, hv4⟩ := hN4
  have HN4 := Lib.hid hN4
  have hsv : ∀ k, sv4.ownBlock = some k → b1 < k ∧ k < w4.heap.size := fun k e => by have := hN4.own_ge e; omega
  have HSV := Lib.hid hsv
  have HB4 := Lib.hid (HB3.out.trans (hT4.below HB3.out.size (fun k _ e => by rcases e with e | e; omega; cases e)))
  have HR4 := Lib.hid (HR3.out.turn hT4 (ok' := fun k => k < w.heap.size) (fun k _ hk => ⟨(fun e => by rcases e with e | e; omega; cases e), hk⟩))
  have hbn : ((n : Int) != (n : Int)) = false := bne_self_eq_false _
  simp only []
  rw [HLN.out]
  clear hN3 hN4 hT4 hv4 hsv
  obtain ⟨ys, hy, hat⟩ := HR4.out.cells
  have HY := Lib.hid (And.intro HR4.out.2.1 (And.intro hy hat))
  clear hy hat
  go_wp2_with (at_builtin
               refine wp_appO (w0 := w4) (base := w4.heap.size) (ok := fun k => k < w.heap.size) (S := PKT) (A := a) (m := n) (l := []) (r := l) (ys := ys) rfl (.const (.slice none 0 0)) (.tmp 33) rfl ⟨[], own_nil _ _ _ _, rfl⟩ HLN.out.symm HY.out.1 (fun ad e => (HY.out.2.2 ad e).2) (HY.out.2.1.of (fun _ _ _ h => h) (fun k hk _ => ⟨hk, fun e => by cases e⟩)) (Below.refl _ _) Try.underlying27 info_pkt rfl (by decide) rfl rfl (by simp; omega) (by simp; omega) (Nat.le_refl _) ?_
               intro v5 w5 ho5 hb5 _ _
               rw [List.nil_append] at ho5
               have HO5 := Lib.hid ho5
               have HN5 := Lib.hid (HN4.out.below hb5)
               have HB5 := Lib.hid (HB4.out.trans (hb5.mono HB4.out.size))
               obtain ⟨A5, c5, rfl, _⟩ := OwnG.rows ho5
               rw [HLN.out] at HO5 ⊢
               clear ho5 hb5)
  go_loopw [6, 37] (fun s6 s37 wr => ∃ (i : Nat) (q f : List PKT.Ty) (sv v : Value), i ≤ m ∧ s37 = .int .i64 i ∧ v = s6 ∧ NetR wr b1 (b1 + 1) (max 100 0) sv q ∧ OwnG wr (b1 + 1) (fun k => k < w.heap.size) 37 PKT v f ∧ (∀ k, v.ownBlock = some k → sv.ownBlock ≠ some k) ∧ f.Perm q ∧ f.length ≤ n ∧ Below w.heap.size w wr) (fun _ s37 _ => m - (intOf s37).toNat)
  case atStart =>
    refine ⟨0, l, l, sv4, _, by omega, rfl, rfl, HN5.out, HO5.out.weak (by have := HN4.out.2.2.2.1; omega) (fun _ _ h => h), fun k e e' => ?_, List.Perm.refl _, by have := HLN.out; omega, HB5.out⟩
    obtain ⟨zs, hz, _⟩ := HO5.out
    have h1 := own_base hz k e
    have h2 := HSV.out k e'
    omega
  case round =>
    obtain ⟨i, q, f, sv, v, hi, rfl, rfl, hN, hO, hne, hpm, hfl, hbel⟩ := hrel
    have HN := Lib.hid hN
    have HO := Lib.hid hO
    have HNE := Lib.hid hne
    have HPM := Lib.hid hpm
    have HBel := Lib.hid hbel
    clear hN hO hne hpm hbel
    obtain ⟨Af, cf, rfl, hfc, hfm, _⟩ := OwnG.rows HO.out
    by_cases hlt : i < m
    case neg =>
      obtain rfl : i = m := by omega
      obtain ⟨k, hk⟩ : ∃ k, f.length = k := ⟨_, rfl⟩
      have hqk : q.length = k := by rw [← hk]; exact HPM.out.length_eq.symm
      have HQK := Lib.hid hqk
      rw [hk]
      clear hk hqk HO
      go_wp2_with fail
      refine (take_nil wr 0).mono ?_
      rintro e x1 ⟨rfl, hx1⟩
      have HN1 := Lib.hid (HN.out.below (hx1.trans ((below_alloc1 x1 (.cells #[.int .i64 0, .int .i64 0, .slice none 0 0] 37)).mono hx1.size)))
      have hbx := HBel.out.trans ((hx1.trans ((below_alloc1 x1 (.cells #[.int .i64 0, .int .i64 0, .slice none 0 0] 37)).mono hx1.size)).mono HBel.out.size)
      have hkk : ((k : Int) == (k : Int)) = true := beq_self_eq_true _
      have HXb := Lib.hid hbx
      clear hx1 hbx
      go_wp2_with fail
      have hbx := HXb.out
      obtain ⟨x2, hx2⟩ : ∃ x2, x1.alloc (.cells #[.int .i64 0, .int .i64 0, .slice none 0 0] 37) = x2 := ⟨_, rfl⟩
      rw [hx2] at HN1 hbx ⊢
      have HX2 := Lib.hid hbx
      clear hbx hx2 HXb
      refine (len_any x2 b1 (b1 + 1) (max 100 0) sv q HN1.out).mono ?_
      rintro e x3 ⟨rfl, rfl⟩
      rw [HQK.out]
      go_wp2_with (first
        | (go_at_call 12; refine (send_nil x2 a n c l (HR.out.below HX2.out) (by omega)).mono ?_; rintro e x4 ⟨rfl, hb4⟩; have HX4 := Lib.hid (HX2.out.trans (hb4.mono HX2.out.size)); clear hb4)
        | (go_at_call 21; refine (len_nil x4).mono ?_; rintro e x5 ⟨rfl, rfl⟩)
        | (go_at_call 22; refine (for_none x4 0).mono ?_; rintro e x6 ⟨rfl, hb6⟩; have HX6 := Lib.hid (HX4.out.trans (hb6.mono HX4.out.size)); clear hb6)
        | (go_at_call 18; refine (double_nil x6 0).mono ?_; rintro e x7 ⟨rfl, rfl⟩)
        | (go_at_call 17; refine (lose_nil x6 1).mono ?_; rintro e x8 ⟨rfl, hb8⟩; have HX8 := Lib.hid (HX6.out.trans (hb8.mono HX6.out.size)); clear hb8)
        | (go_at_call 20; refine (all_none x8).mono ?_; rintro e x9 ⟨rfl, hb9⟩; have HX9 := Lib.hid (HX8.out.trans (hb9.mono HX8.out.size)); clear hb9))
      go_ret
      exact ⟨rfl, HX9.out⟩
    have i0 : (0 : Int) ≤ (i : Int) := by omega
    have i1 : (i : Int) < (m : Int) := by omega
    obtain ⟨td, x, cs, rfl, hx, hat, hrd⟩ := (HT.out.below HBel.out).get i hlt
    obtain ⟨rfl, hwf⟩ : cs = [.int .i64 x] ∧ (Lit.int .i64 x).wf = true := hrd
    have hxr := i64_of hwf
    have hcx : wr.cell? (td.add i) = some (.int .i64 x) := by
      have := hat 0 _ rfl
      rw [Nat.zero_add, add_zero'] at this
      rwa [show i * Sh.size (.int .i64) = i from by show i * 1 = i; omega] at this
    have hown : ∀ k, (Value.slice Af f.length cf).ownBlock = some k → b1 < k ∧ k < wr.heap.size := fun k e => by obtain ⟨zs, hz, _⟩ := HO.out; have := own_base hz k e; have := own_lt hz k e; omega
    have HOwn := Lib.hid hown
    have HTK := Lib.hid (take_any wr b1 (b1 + 1) (max 100 0) sv q x HN.out hxr)
    clear hx hat hwf hown
    cases htk : takeL q x with
    | none =>
      rw [htk] at HTK
      obtain rfl := take_none htk
      obtain rfl : f = [] := List.Perm.eq_nil HPM.out
      clear htk
      go_wp2_with fail
      refine HTK.out.mono ?_
      rintro e w6 ⟨rfl, sv6, hN6, hT6, hv6⟩
      have hO6 := HO.out.turn hT6 (fun k e h => by have := HOwn.out k e; rcases h with h | h; omega; exact HNE.out k e h) (fun k _ hk h => by rcases h with h | h; omega; have := (HN.out.own_ge h).1; omega)
      have hne6 : ∀ k, (Value.slice Af ([] : List PKT.Ty).length cf).ownBlock = some k → sv6.ownBlock ≠ some k := fun k e h => by rcases hv6 k h with h | h; exact HNE.out k e h; have := HOwn.out k e; omega
      have hb6 := HBel.out.trans (hT6.below HBel.out.size (fun k _ h => by rcases h with h | h; omega; have := (HN.out.own_ge h).1; omega))
      have HE := Lib.hid (And.intro hN6 (And.intro hO6 (And.intro hne6 hb6)))
      clear hcx hN6 hT6 hv6 hO6 hne6 hb6
      go_wp2_with fail
      go_roundw
      case measure => simp [intOf]; omega
      case rel =>
        have hal := below_alloc1 w6 (.cells #[.int .i64 0, .int .i64 0, .slice none 0 0] 37)
        exact ⟨i + 1, [], [], sv6, _, by omega, by go_num, rfl, HE.out.1.below hal, HE.out.2.1.below hal, HE.out.2.2.1, List.Perm.refl _, by simp, HE.out.2.2.2.trans (hal.mono HE.out.2.2.2.size)⟩
    | some pq =>
    obtain ⟨pk, q'⟩ := pq
    rw [htk] at HTK
    have hmem : pk ∈ f := HPM.out.mem_iff.2 (take_mem htk)
    have HTQ := Lib.hid htk
    clear htk
    go_wp2_with fail
    refine HTK.out.mono ?_
    rintro e w6 ⟨cs, rfl, hr6, sv6, hN6, hT6, hv6⟩
    have hr60 := hr6
    obtain ⟨pt, pf, pd, pA, pc, rfl, rfl, okp, hpd⟩ := rd_pkt hr6
    have hO6 := HO.out.turn hT6 (fun k e h => by have := HOwn.out k e; rcases h with h | h; omega; exact HNE.out k e h) (fun k _ hk h => by rcases h with h | h; omega; have := (HN.out.own_ge h).1; omega)
    have hb6 := HBel.out.trans (hT6.below HBel.out.size (fun k _ h => by rcases h with h | h; omega; have := (HN.out.own_ge h).1; omega))
    have hal := below_alloc1 w6 (.cells #[Value.int .i64 pt, Value.int .i64 pf, Value.slice pA pd.length pc] 37)
    obtain ⟨w7, hw7⟩ : ∃ w7, w6.alloc (.cells #[Value.int .i64 pt, Value.int .i64 pf, Value.slice pA pd.length pc] 37) = w7 := ⟨_, rfl⟩
    have hg7 : w7.heap[w6.heap.size]? = some (.cells #[Value.int .i64 pt, Value.int .i64 pf, Value.slice pA pd.length pc] 37 (0, 0)) := by rw [← hw7]; exact heap_alloc_new w6 _
    have hal7 : Below w6.heap.size w6 w7 := by rw [← hw7]; exact hal
    have HN7 := Lib.hid (hN6.below hal7)
    have HO7 := Lib.hid (hO6.below hal7)
    have HP7 := Lib.hid (hr60.below hal7)
    have HA7 := Lib.hid (At.blk hg7)
    have HB7 := Lib.hid (hb6.trans (hal7.mono hb6.size))
    obtain ⟨fl, hfln⟩ : ∃ fl, f.length = fl := ⟨_, rfl⟩
    have HFL := Lib.hid hfln
    rw [hfln] at HO7 hfc hfl ⊢
    have hmem' := HFL.out
    have HMem := Lib.hid hmem
    clear hcx hN6 hT6 hv6 hO6 hb6 hal hal7 hr60 hr6 okp hpd hg7 hfln hmem hmem'
    go_wp2_with fail
    clear hw7
    go_loopw [11, 54] (fun s11 s54 X => ∃ (k : Nat) (g : Int), k ≤ fl ∧ s54 = .int .i64 k ∧ s11 = .int .i64 g ∧ (g = -1 ∧ (∀ j, j < k → f[j]? ≠ some (pt, pf, pd, ())) ∨ ∃ j : Nat, g = j ∧ j < k ∧ f[j]? = some (pt, pf, pd, ())) ∧ Below w7.heap.size w7 X) (fun _ s54 _ => fl - (intOf s54).toNat)
    case atStart => exact ⟨0, -1, by omega, rfl, rfl, .inl ⟨rfl, fun j hj => by omega⟩, Below.refl _ _⟩
    case round =>
      obtain ⟨k, g, hk, rfl, rfl, hg, hbX⟩ := hrel
      have HG := Lib.hid hg
      have HBX := Lib.hid hbX
      clear hg hbX
      by_cases hkl : k < fl
      · have k0 : (0 : Int) ≤ (k : Int) := by omega
        have k1 : (k : Int) < (fl : Int) := by omega
        obtain ⟨y, hy⟩ : ∃ y, f[k]? = some y := ⟨f[k]'(by have := HFL.out; omega), List.getElem?_eq_getElem _⟩
        obtain ⟨A', c', e1, hA1, hA2, hA3, hrows⟩ := OwnG.form HO7.out
        injection e1 with e1 e2 e3
        subst e1 e3
        have hrow1 := rows_to (rows_from hrows hA1 k (by have := HFL.out; omega)) 1 (by have := HFL.out; omega)
        rw [show (f.drop k).take 1 = [y] from by rw [List.drop_eq_getElem_cons (by have := HFL.out; omega), List.take_succ_cons, List.take_zero, (List.getElem?_eq_some_iff.1 hy).2]] at hrow1
        obtain ⟨B2, hB2⟩ : ∃ B2, (if cf = k then Af else Option.map (fun x : Addr => x.add (k * 3)) Af) = B2 := ⟨_, rfl⟩
        have HRow := Lib.hid (show Rows w7 _ PKT B2 1 [y] from hB2 ▸ hrow1)
        have HY := Lib.hid hy
        clear hrows hrow1 hy hA3 e2
        go_wp2_with fail
        refine region_in (by kernel_rfl) (fun y1 hy1 => ?_)
        have HA1 := Lib.hid (HA7.out.below (HBX.out.trans (hy1.mono HBX.out.size)))
        have HBY := Lib.hid (HBX.out.trans (hy1.mono HBX.out.size))
        clear hy1
        refine take_in (i := 0) (v := _) rfl (by kernel_rfl) (by kernel_rfl) (by kernel_rfl) (fun _ _ _ h => h) (yields_load (by rfl) _ _ rfl _ rfl _ _ (fun W hW => (HA1.out).below hW) Try.underlying37 rfl rfl) (Below.refl _ _) ?_
        (try simp only [Act.put, List.setIfInBounds_toArray, List.set_cons_zero, List.set_cons_succ])
        first
          | (refine take_in (i := 2) (v := ?_) rfl (by kernel_rfl) (by kernel_rfl) (by kernel_rfl) (fun _ _ _ h => h) (Or.inl ⟨by rfl, ?_⟩) (Below.refl _ _) ?_; rotate_left; (focus (intro W hSw; go_simp; (try rfl); done)); (try simp only [Act.put, List.setIfInBounds_toArray, List.set_cons_zero, List.set_cons_succ]))
          | (refine take_in (i := 2) (v := undef) rfl (by kernel_rfl) (by kernel_rfl) (by kernel_rfl) (fun _ _ _ h => h) (Or.inr ⟨by rfl, rfl⟩) (Below.refl _ _) ?_; (try simp only [Act.put, List.setIfInBounds_toArray, List.set_cons_zero, List.set_cons_succ]))
          | (fail "HTAKE 2")
        first
          | (refine take_in (i := 3) (v := ?_) rfl (by kernel_rfl) (by kernel_rfl) (by kernel_rfl) (fun _ _ _ h => h) (Or.inl ⟨by rfl, ?_⟩) (Below.refl _ _) ?_; rotate_left; (focus (intro W hSw; go_simp; (try rfl); done)); (try simp only [Act.put, List.setIfInBounds_toArray, List.set_cons_zero, List.set_cons_succ]))
          | (refine take_in (i := 3) (v := undef) rfl (by kernel_rfl) (by kernel_rfl) (by kernel_rfl) (fun _ _ _ h => h) (Or.inr ⟨by rfl, rfl⟩) (Below.refl _ _) ?_; (try simp only [Act.put, List.setIfInBounds_toArray, List.set_cons_zero, List.set_cons_succ]))
          | (fail "HTAKE 3")
        first
          | (refine take_in (i := 4) (v := ?_) rfl (by kernel_rfl) (by kernel_rfl) (by kernel_rfl) (fun _ _ _ h => h) (Or.inl ⟨by rfl, ?_⟩) (Below.refl _ _) ?_; rotate_left; (focus (intro W hSw; go_simp; (try rfl); done)); (try simp only [Act.put, List.setIfInBounds_toArray, List.set_cons_zero, List.set_cons_succ]))
          | (refine take_in (i := 4) (v := undef) rfl (by kernel_rfl) (by kernel_rfl) (by kernel_rfl) (fun _ _ _ h => h) (Or.inr ⟨by rfl, rfl⟩) (Below.refl _ _) ?_; (try simp only [Act.put, List.setIfInBounds_toArray, List.set_cons_zero, List.set_cons_succ]))
          | (fail "HTAKE 4")
        first
          | (refine take_in (i := 5) (v := ?_) rfl (by kernel_rfl) (by kernel_rfl) (by kernel_rfl) (fun _ _ _ h => h) (Or.inl ⟨by rfl, ?_⟩) (Below.refl _ _) ?_; rotate_left; (focus (intro W hSw; go_simp; (try rfl); done)); (try simp only [Act.put, List.setIfInBounds_toArray, List.set_cons_zero, List.set_cons_succ]))
          | (refine take_in (i := 5) (v := undef) rfl (by kernel_rfl) (by kernel_rfl) (by kernel_rfl) (fun _ _ _ h => h) (Or.inr ⟨by rfl, rfl⟩) (Below.refl _ _) ?_; (try simp only [Act.put, List.setIfInBounds_toArray, List.set_cons_zero, List.set_cons_succ]))
          | (fail "HTAKE 5")
        have hk1 : IntKind.i64.wrap ((k : Int) + 1) = ((k + 1 : Nat) : Int) := by rw [IntKind.wrap_i64]; omega
        rw [hk1]
        clear hk1
        refine take_in (i := 6) (v := _) rfl (by kernel_rfl) (by kernel_rfl) (by kernel_rfl) (fun _ _ _ h => h) ((yields_midB (by rfl) k (k + 1) (.tmp 59) (.tmp 60) (.tmp 62) rfl rfl rfl rfl Try.underlying27 (by kernel_rfl : (Try.prog.info? 37).map (·.size) = some 3) (by omega) (by omega) hB2)) (Below.refl _ _) ?_
        (try simp only [Act.put, List.setIfInBounds_toArray, List.set_cons_zero, List.set_cons_succ])
        rw [show k + 1 - k = 1 by omega]
        refine call_in (i := 1) rfl (by kernel_rfl) (by kernel_rfl) (fun K hK => ?_)
        refine wpo_lit1 (cs := [.int .i64 pt, .int .i64 pf, .slice pA pd.length pc]) (.tmp 57) rfl rfl Try.underlying27 info_pkt rfl (by decide) (by decide) rfl ?_
        have hal := below_alloc1 y1 (.cells [Value.int .i64 pt, Value.int .i64 pf, Value.slice pA pd.length pc].toArray 37)
        have HL := Lib.hid (rows_of (w := y1.alloc (.cells [Value.int .i64 pt, Value.int .i64 pf, Value.slice pA pd.length pc].toArray 37)) (ok := anyB) (ad := ⟨y1.heap.size, 0, none⟩) (RdL.single ((HP7.out.any.below HBY.out).below hal)) (fun _ => trivial) (At.blk (heap_alloc_new y1 _)))
        have HB2 := Lib.hid ((HRow.out.below HBY.out).below hal)
        have HBZ := Lib.hid (HBY.out.trans (hal.mono HBY.out.size))
        refine hK.out _ _ hal ?_
        (try simp only [Act.put, List.setIfInBounds_toArray, List.set_cons_zero, List.set_cons_succ])
        clear hal hB2
        refine call_in (i := 7) rfl (by kernel_rfl) (by kernel_rfl) (fun K hK => ?_)
        go_simp
        refine (same_any _ anyB _ (some ⟨y1.heap.size, 0, none⟩) B2 1 1 1 (cf - k) [(pt, pf, pd, ())] [y] HL.out HB2.out (by omega)).mono ?_
        rintro e y2 ⟨bb, rfl, hbb, hb12⟩
        have HBB := Lib.hid hbb
        have HB12 := Lib.hid (HBZ.out.trans (hb12.mono HBZ.out.size))
        clear hbb
        refine hK.out _ _ hb12 ?_
        (try simp only [Act.put, List.setIfInBounds_toArray, List.set_cons_zero, List.set_cons_succ])
        clear hb12
        refine wpAnyH_done (by kernel_rfl) ?_ _
        cases bb with
        | true =>
          go_wp2_with fail
          go_roundw
          case measure => simp [intOf]; omega
          case rel => exact ⟨k + 1, k, by omega, by go_num, rfl, .inr ⟨k, rfl, by omega, by rw [HY.out]; have := HBB.out.1 rfl; injection this with this; rw [this]⟩, HB12.out⟩
        | false =>
          have HG2 := Lib.hid (show g = -1 ∧ (∀ j, j < k + 1 → f[j]? ≠ some (pt, pf, pd, ())) ∨ ∃ j : Nat, g = j ∧ j < k + 1 ∧ f[j]? = some (pt, pf, pd, ()) from by
            rcases HG.out with ⟨h1, h2⟩ | ⟨j, h1, h2, h3⟩
            · refine .inl ⟨h1, fun j hj e => ?_⟩
              by_cases hjk : j = k
              · subst hjk
                rw [HY.out] at e
                injection e with e
                have := HBB.out.2 (by rw [e])
                cases this
              · exact h2 j (by omega) e
            · exact .inr ⟨j, h1, by omega, h3⟩)
          go_wp2_with fail
          go_roundw
          case measure => simp [intOf]; omega
          case rel => exact ⟨k + 1, g, by omega, by go_num, rfl, HG2.out, HB12.out⟩
      · obtain rfl : k = fl := by omega
        obtain ⟨j, rfl, hjk, hfj⟩ : ∃ j : Nat, g = j ∧ j < k ∧ f[j]? = some (pt, pf, pd, ()) := by
          rcases HG.out with ⟨h1, h2⟩ | h
          · obtain ⟨j, hj, hfj⟩ := List.getElem_of_mem HMem.out
            exact absurd (by rw [List.getElem?_eq_getElem hj, hfj]) (h2 j (by have := HFL.out; omega))
          · exact h
        have j0 : (0 : Int) ≤ (j : Int) := by omega
        have HFJ := Lib.hid hfj
        clear hfj
        obtain ⟨A', c', e1, hA1, hA2, hA3, hA4, xs, hxr, hxa⟩ := OwnG.rows HO7.out
        injection e1 with e1 e2 e3
        subst e1 e3
        obtain ⟨ad, rfl⟩ : ∃ ad, Af = some ad := by
          cases Af with
          | none => have := hA3 rfl; omega
          | some ad => exact ⟨ad, rfl⟩
        have HXS := Lib.hid (And.intro (hxr.of (ok' := fun k => k < w.heap.size) (fun _ _ _ h => h) (fun _ h _ => h.1)) (hxa ad rfl))
        clear e2 hA3 hA4 hxr hxa
        go_wp2_with fail
        refine region_inS (by kernel_rfl) (fun y1 hy1 heq => ?_)
        have hHeld : True := trivial
        have HBY := Lib.hid (HBX.out.trans (hy1.mono HBX.out.size))
        clear hy1 heq
        first
          | (refine take_in (i := 0) (v := ?_) rfl (by kernel_rfl) (by kernel_rfl) (by kernel_rfl) (fun _ _ _ h => h) (Or.inl ⟨by rfl, ?_⟩) hHeld ?_; rotate_left; (focus (intro W hSw; go_simp; (try rfl); done)); (try simp only [Act.put, List.setIfInBounds_toArray, List.set_cons_zero, List.set_cons_succ]))
          | (refine take_in (i := 0) (v := undef) rfl (by kernel_rfl) (by kernel_rfl) (by kernel_rfl) (fun _ _ _ h => h) (Or.inr ⟨by rfl, rfl⟩) hHeld ?_; (try simp only [Act.put, List.setIfInBounds_toArray, List.set_cons_zero, List.set_cons_succ]))
          | (fail "STAKE 0")
        first
          | (refine take_in (i := 1) (v := ?_) rfl (by kernel_rfl) (by kernel_rfl) (by kernel_rfl) (fun _ _ _ h => h) (Or.inl ⟨by rfl, ?_⟩) hHeld ?_; rotate_left; (focus (intro W hSw; go_simp; (try rfl); done)); (try simp only [Act.put, List.setIfInBounds_toArray, List.set_cons_zero, List.set_cons_succ]))
          | (refine take_in (i := 1) (v := undef) rfl (by kernel_rfl) (by kernel_rfl) (by kernel_rfl) (fun _ _ _ h => h) (Or.inr ⟨by rfl, rfl⟩) hHeld ?_; (try simp only [Act.put, List.setIfInBounds_toArray, List.set_cons_zero, List.set_cons_succ]))
          | (fail "STAKE 1")
        refine take_in (i := 2) (v := _) rfl (by kernel_rfl) (by kernel_rfl) (by kernel_rfl) (fun _ _ _ h => h) (yields_hi (by rfl) j (.tmp 69) (.tmp 70) rfl rfl rfl Try.underlying27 (by kernel_rfl : (Try.prog.info? 37).map (·.size) = some 3) (by omega)) hHeld ?_
        (try simp only [Act.put, List.setIfInBounds_toArray, List.set_cons_zero, List.set_cons_succ])
        first
          | (refine take_in (i := 4) (v := ?_) rfl (by kernel_rfl) (by kernel_rfl) (by kernel_rfl) (fun _ _ _ h => h) (Or.inl ⟨by rfl, ?_⟩) hHeld ?_; rotate_left; (focus (intro W hSw; go_simp; (try rfl); done)); (try simp only [Act.put, List.setIfInBounds_toArray, List.set_cons_zero, List.set_cons_succ]))
          | (refine take_in (i := 4) (v := undef) rfl (by kernel_rfl) (by kernel_rfl) (by kernel_rfl) (fun _ _ _ h => h) (Or.inr ⟨by rfl, rfl⟩) hHeld ?_; (try simp only [Act.put, List.setIfInBounds_toArray, List.set_cons_zero, List.set_cons_succ]))
          | (fail "STAKE 4")
        first
          | (refine take_in (i := 5) (v := ?_) rfl (by kernel_rfl) (by kernel_rfl) (by kernel_rfl) (fun _ _ _ h => h) (Or.inl ⟨by rfl, ?_⟩) hHeld ?_; rotate_left; (focus (intro W hSw; go_simp; (try rfl); done)); (try simp only [Act.put, List.setIfInBounds_toArray, List.set_cons_zero, List.set_cons_succ]))
          | (refine take_in (i := 5) (v := undef) rfl (by kernel_rfl) (by kernel_rfl) (by kernel_rfl) (fun _ _ _ h => h) (Or.inr ⟨by rfl, rfl⟩) hHeld ?_; (try simp only [Act.put, List.setIfInBounds_toArray, List.set_cons_zero, List.set_cons_succ]))
          | (fail "STAKE 5")
        first
          | (refine take_in (i := 6) (v := ?_) rfl (by kernel_rfl) (by kernel_rfl) (by kernel_rfl) (fun _ _ _ h => h) (Or.inl ⟨by rfl, ?_⟩) hHeld ?_; rotate_left; (focus (intro W hSw; go_simp; (try rfl); done)); (try simp only [Act.put, List.setIfInBounds_toArray, List.set_cons_zero, List.set_cons_succ]))
          | (refine take_in (i := 6) (v := undef) rfl (by kernel_rfl) (by kernel_rfl) (by kernel_rfl) (fun _ _ _ h => h) (Or.inr ⟨by rfl, rfl⟩) hHeld ?_; (try simp only [Act.put, List.setIfInBounds_toArray, List.set_cons_zero, List.set_cons_succ]))
          | (fail "STAKE 6")
        have hk1 : IntKind.i64.wrap ((j : Int) + 1) = ((j + 1 : Nat) : Int) := by rw [IntKind.wrap_i64]; omega
        rw [hk1]
        clear hk1
        obtain ⟨B2, hB2⟩ : ∃ B2, (if cf = j + 1 then some ad else Option.map (fun x : Addr => x.add ((j + 1) * 3)) (some ad)) = B2 := ⟨_, rfl⟩
        refine take_in (i := 7) (v := _) rfl (by kernel_rfl) (by kernel_rfl) (by kernel_rfl) (fun _ _ _ h => h) (yields_fromB (by rfl) (j + 1) (.tmp 73) (.tmp 75) rfl rfl rfl Try.underlying27 (by kernel_rfl : (Try.prog.info? 37).map (·.size) = some 3) (by omega) hB2) hHeld ?_
        (try simp only [Act.put, List.setIfInBounds_toArray, List.set_cons_zero, List.set_cons_succ])
        have HB2 := Lib.hid hB2
        clear hB2
        have hfk : f.length = k := HFL.out
        refine call_inS (i := 3) rfl (by kernel_rfl) (by kernel_rfl) (fun K hK => ?_)
        clear hHeld
        have hrd := HXS.out.1.take_drop j (by omega)
        have hrd2 := HXS.out.1.take_drop (j + 1) (by omega)
        have hle : w.heap.size ≤ y1.heap.size := by have := HB7.out.size; have := HBY.out.size; omega
        refine wpo_appO (w0 := y1) (base := y1.heap.size) (ok := fun k => k < w.heap.size) (m := j) (A := some ad) (l := []) (r := f.take j) (ys := xs.take (j * 3)) (.const (.slice none 0 0)) (.tmp 71) rfl ⟨[], own_nil _ _ _ _, rfl⟩ (by rw [List.length_take]; omega) (fun e => by cases e) (fun ad' e => by cases e; exact (HXS.out.2.take _).below HBY.out) (hrd.1.turn (Turn.of_below (p := fun _ => False) HBY.out) (fun _ _ h => ⟨id, h, fun e => by cases e⟩)) (Below.refl _ _) Try.underlying27 info_pkt rfl (by decide) rfl rfl (by simp; omega) (by simp; omega) (Nat.le_refl _) ?_
        intro v5 y5 ho5 hb5 hg5 hv5
        rw [List.nil_append] at ho5
        have HBY5 := Lib.hid (HBY.out.trans (hb5.mono HBY.out.size))
        have HB15 := Lib.hid hb5
        have HO5 := Lib.hid ho5
        have HGE := Lib.hid (show ∀ z, v5.ownBlock = some z → y1.heap.size ≤ z from fun z e => by obtain ⟨zs, hz, _⟩ := ho5; exact own_base hz z e)
        clear ho5 hb5 hg5 hv5
        have hHeld := trivial
        refine hK.out (fun _ => True) _ _ hHeld (fun _ h => h) ?_
        (try simp only [Act.put, List.setIfInBounds_toArray, List.set_cons_zero, List.set_cons_succ])
        refine call_inS (i := 8) rfl (by kernel_rfl) (by kernel_rfl) (fun K hK => ?_)
        clear hHeld
        refine wpo_appO (w0 := y1) (base := y1.heap.size) (ok := fun k => k < w.heap.size) (m := k - (j + 1)) (A := B2) (l := f.take j) (r := f.drop (j + 1)) (ys := xs.drop ((j + 1) * 3)) (.tmp 72) (.tmp 76) rfl HO5.out (by rw [List.length_drop]; omega) (fun e => by have e := HB2.out.trans e; split at e <;> cases e) (fun ad' e => (at_from HXS.out.2 HXS.out.1 (by omega) ad' (HB2.out.trans e)).below HBY5.out) (hrd2.2.turn (Turn.of_below (p := fun _ => False) HBY5.out) (fun z _ h => ⟨id, h, fun e => by have := HGE.out z e; omega⟩)) HB15.out Try.underlying27 info_pkt rfl (by decide) rfl rfl (by simp; omega) (by simp; omega) HB15.out.size ?_
        intro v6 y6 ho6 hb6 hg6 hv6
        have HBY6 := Lib.hid (HBY.out.trans (hb6.mono HBY.out.size))
        have HO6 := Lib.hid ho6
        obtain ⟨A3, c3, rfl, _⟩ := OwnG.rows ho6
        obtain ⟨z, hz⟩ : ∃ z, (f.take j ++ f.drop (j + 1)).length = z := ⟨_, rfl⟩
        rw [hz] at HO6 ⊢
        have hzn : z ≤ k := by rw [← hz]; simp; omega
        have HZ := Lib.hid hz
        clear ho6 hb6 hg6 hv6 hrd hrd2 hz
        have hHeld := trivial
        refine hK.out (fun _ => True) _ _ hHeld (fun _ h => h) ?_
        (try simp only [Act.put, List.setIfInBounds_toArray, List.set_cons_zero, List.set_cons_succ])
        first
          | (refine take_in (i := 9) (v := ?_) rfl (by kernel_rfl) (by kernel_rfl) (by kernel_rfl) (fun _ _ _ h => h) (Or.inl ⟨by rfl, ?_⟩) hHeld ?_; rotate_left; (focus (intro W hSw; go_simp; (try rfl); done)); (try simp only [Act.put, List.setIfInBounds_toArray, List.set_cons_zero, List.set_cons_succ]))
          | (refine take_in (i := 9) (v := undef) rfl (by kernel_rfl) (by kernel_rfl) (by kernel_rfl) (fun _ _ _ h => h) (Or.inr ⟨by rfl, rfl⟩) hHeld ?_; (try simp only [Act.put, List.setIfInBounds_toArray, List.set_cons_zero, List.set_cons_succ]))
          | (fail "STAKE 9")
        refine wpAnyH_done (by kernel_rfl) ?_ _
        clear hfk
        go_wp2_with fail
        have hfk := HFL.out
        have hs1 := HBY.out.size
        have hs2 := HN7.out.2.2.2.1
        go_roundw
        case measure => simp [intOf]; omega
        case rel =>
          refine ⟨i + 1, q', f.take j ++ f.drop (j + 1), sv6, _, by omega, by go_num, rfl, HN7.out.below HBY6.out, HO6.out.weak (by omega) (fun _ _ h => h), fun r e h => ?_, perm_step HPM.out HTQ.out (by omega) (List.getElem?_eq_some_iff.1 HFJ.out).2, by have := HZ.out; omega, HB7.out.trans (HBY6.out.mono HB7.out.size)⟩
          have h1 := (HN7.out.own_ge h).2
          obtain ⟨zs, hz, _⟩ := HO6.out
          have h2 := own_base hz r e
          omega
end Go.Proofs.Ytapoechkbbklfaa