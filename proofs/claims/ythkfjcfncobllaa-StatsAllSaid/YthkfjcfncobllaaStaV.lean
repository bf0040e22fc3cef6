import Derived.Test.YthkfjcfncobllaaStaU
namespace Go.Proofs.Ythkfjcfncobllaa
open Go.RowKit FP
set_option linter.unusedVariables false
set_option linter.unusedSimpArgs false
attribute [local go_sem] run_store_flt
set_option maxRecDepth 20000 in
theorem nb_lt : (rcanF (endL .lt [])) < B64 := by decide +kernel
set_option maxRecDepth 20000 in
theorem rd_binv {w : World} {ok : Nat → Prop} {a b : Nat} {n : Int} (ha : a < B64) (hb : b < B64) (h1 : 0 ≤ n) (h2 : n ≤ 100000) : Rd w ok BIN (a, b, n, ()) [.float .f64 a, .float .f64 b, .int .i64 n] :=
  rd_bin_mk ⟨ha, hb, (by omega : -9223372036854775808 ≤ n), (by omega : n < 9223372036854775808)⟩
set_option maxRecDepth 20000 in
theorem lo_lt {E : List Nat} (h : ∀ x ∈ E, x < B64) (i : Nat) : loE E i < B64 := by
  unfold loE
  split
  · decide
  · rw [List.getD_eq_getElem?_getD]
    cases hx : E[i - 1]? with
    | none => decide
    | some x => exact h x (List.mem_of_getElem? hx)
set_option maxRecDepth 20000 in
theorem hi_lt {E : List Nat} (h : ∀ x ∈ E, x < B64) (i : Nat) : hiE E i < B64 := by
  unfold hiE
  split
  · rw [List.getD_eq_getElem?_getD]
    cases hx : E[i]? with
    | none => decide
    | some x => exact h x (List.mem_of_getElem? hx)
  · exact nb_lt
set_option maxRecDepth 20000 in
theorem cnt_le (E K : List Nat) (i : Nat) : cntE E K i ≤ K.length := List.countP_le_length
set_option maxRecDepth 20000 in
theorem rd_bin_at {w : World} {E K : List Nat} {i : Nat} {cs : List Value} (h : Rd w anyB BIN (binE E K i) cs) : cs = [.float .f64 (loE E i), .float .f64 (hiE E i), .int .i64 (cntE E K i)] := by
  obtain ⟨a, b, c, e, rfl, _⟩ := rd_bin h
  unfold binE at e
  simp only [Prod.mk.injEq] at e
  obtain ⟨rfl, rfl, rfl, _⟩ := e
  rfl
set_option maxRecDepth 20000 in
theorem ded_len_le (l : List Nat) : (ded l).length ≤ l.length := by
  have key : ∀ (r e : List Nat), (r.foldl stepD e).length ≤ e.length + r.length := by
    intro r
    induction r with
    | nil => intro e; exact Nat.le_refl _
    | cons f r ih =>
      intro e
      have h1 := ih (stepD e f)
      have h2 : (stepD e f).length ≤ e.length + 1 := by
        unfold stepD
        split
        · omega
        · simp
      simp only [List.foldl_cons, List.length_cons]
      omega
  have h := key l []
  rwa [List.length_nil, Nat.zero_add] at h
set_option maxHeartbeats 4000000 in
set_option maxRecDepth 20000 in
theorem bins_any (w : World) (A B : Option Addr) (n m ca cb : Nat) (l b : List Nat) (ha : Rd w anyB (.sl .f64) l [.slice A n ca]) (hb : Rd w anyB (.sl .f64) b [.slice B m cb]) (hl : n ≤ 1000) (hl2 : m ≤ 1000) :
    Calls Try.prog 18 #[.slice A n ca, .slice B m cb] w fun e w' => ∃ v', e = .returned v' ∧ Own w' w.heap.size 41 BIN v' (binsE (ded (sortK (knownL b))) (knownL l)) ∧ Below w.heap.size w w' := by
  have hbl : b.length = m := (rd_rows hb).1
  have hal : l.length = n := (rd_rows ha).1
  have hblt := (rows_fs (rd_rows hb)).2
  have halt := (rows_fs (rd_rows ha)).2
  have hk1 : (knownL b).length ≤ m := by rw [← hbl]; exact List.length_filter_le _ _
  have HA := Lib.hid ha
  clear ha
  go_enter Try.func18, Try.ntmps18
  go_wp2_with fail
  refine (known_any w _ b hb (by omega)).mono ?_
  rintro e w1 ⟨v1, rfl, hO1, hb1⟩
  obtain ⟨A1, c1, rfl, _, _, _, hR1⟩ := Own.form hO1
  have hkc := sortK_can (known_lt hblt)
  have hsl := sortK_len (knownL b)
  obtain ⟨E0, hE0⟩ : ∃ E0, knownL b = E0 := ⟨_, rfl⟩
  rw [hE0] at hk1 hR1 hsl hkc ⊢
  obtain ⟨m1, hm1⟩ : ∃ m1, E0.length = m1 := ⟨_, rfl⟩
  rw [hm1] at hk1 hsl hR1 ⊢
  go_wp2_with fail
  refine (sort_any w1 A1 m1 c1 E0 hR1.any (by omega)).mono ?_
  rintro e w2 ⟨v2, rfl, hO2, hb2⟩
  have HB2 := Lib.hid (hb1.trans (hb2.mono hb1.size))
  have hO2' := own_base_le hO2 hb1.size
  obtain ⟨S0, hS0⟩ : ∃ S0, sortK E0 = S0 := ⟨_, rfl⟩
  rw [hS0] at hO2' hkc hsl
  obtain ⟨A2, c2, rfl, _⟩ := Own.form hO2'
  rw [hsl] at hO2' ⊢
  go_wp2_with fail
  refine (compact_any w2 w.heap.size _ S0 hO2' (by omega) hkc HB2.out.size).mono ?_
  rintro e w3 ⟨v3, rfl, hO3, hb3⟩
  have hEc : ∀ x ∈ ded S0, CanN x := fun x hx => hkc x (ded_lt hkc x hx)
  have hdl := ded_len_le S0
  obtain ⟨E, hE⟩ : ∃ E, ded S0 = E := ⟨_, rfl⟩
  rw [hE] at hEc hdl hO3
  have HB3 := Lib.hid (HB2.out.trans hb3)
  have HEc := Lib.hid hEc
  obtain ⟨A3, c3, rfl, _⟩ := Own.form hO3
  obtain ⟨q, hq⟩ : ∃ q, E.length = q := ⟨_, rfl⟩
  have HO3 := Lib.hid (own_rows hO3 rfl)
  rw [hq] at hdl HO3 ⊢
  have HEQ := Lib.hid (show ded (sortK (knownL b)) = E by rw [hE0, hS0, hE])
  have hqm : q ≤ 1000 := by omega
  clear hO1 hb1 hb2 hb3 hO2 hO2' hR1 hk1 hsl hkc hS0 hE hm1 hE0 hO3
  go_wp2_with (go_at_call 40; refine (inf_neg _).mono ?_; rintro e w' ⟨rfl, rfl⟩)
  refine (least0 w3).mono ?_
  rintro e w4 ⟨rfl, hb4⟩
  have HB4 := Lib.hid (HB3.out.trans (hb4.mono HB3.out.size))
  have HE4 := Lib.hid (HO3.out.below hb4)
  have HO4 := Lib.hid (show Own (w4.alloc (.cells (#[.float .f64 18442240474082181120, .float .f64 (rcanF (endL .lt [])), .int .i64 0] : Array Value) 41)) w4.heap.size 41 BIN (.slice (some ⟨w4.heap.size, 0, none⟩) 1 1) (binsE (E.take 0) []) from OwnG.lit1 (s := BIN) (x := ((18442240474082181120 : Nat), (rcanF (endL .lt [])), (0 : Int), ())) (cs := [.float .f64 18442240474082181120, .float .f64 (rcanF (endL .lt [])), .int .i64 0]) (rd_binv (a := 18442240474082181120) (n := 0) (by decide) nb_lt (by decide) (by decide)) (Nat.le_refl _))
  have HB5 := Lib.hid (below_alloc1 w4 (.cells (#[.float .f64 18442240474082181120, .float .f64 (rcanF (endL .lt [])), .int .i64 0] : Array Value) 41))
  clear hb4
  go_wp2_with (refine wpL_lit1 rfl (cs := [.float .f64 18442240474082181120, .float .f64 (rcanF (endL .lt [])), .int .i64 0]) (.tmp 18) rfl rfl Try.underlying36 info_bin rfl (by decide) (by decide) rfl ?_)
  go_loopw [6, 22] (fun s6 s22 wr => ∃ (k : Nat) (v : Value), k ≤ q ∧ v = s6 ∧ s22 = .int .i64 k ∧ Own wr w4.heap.size 41 BIN v (binsE (E.take k) []) ∧ Below w4.heap.size w4 wr) (fun _ s22 _ => q - (intOf s22).toNat)
  case atStart => exact ⟨0, _, by omega, rfl, rfl, HO4.out, HB5.out⟩
  case round =>
    obtain ⟨k, v, hk, rfl, rfl, hO, hbel⟩ := hrel
    have HB := Lib.hid hbel
    have HR := Lib.hid (HE4.out.below hbel)
    clear hbel
    by_cases hlt : k < q
    · obtain ⟨ad, x, rfl, hx⟩ := HR.out.some_at hlt
      have cx := (row_at HR.out hx).1
      have hlk : (E.take k).length = k := by rw [List.length_take]; omega
      obtain ⟨g, c, cs, rfl, hgb, hgl, hlc, hcell, hrd, hfr, hput⟩ := hO.put (binsE_at (E := E.take k) (K := []) (i := k) (by omega))
      obtain rfl := rd_bin_at hrd
      have c5 := hcell 1 _ rfl
      have f5 := hfr (k * Sh.size BIN + 1)
      have hsl : (binsE (E.take k) []).length = k + 1 := by rw [binsE_len, hlk]
      have hx64 := (HEc.out x (List.mem_of_getElem? hx)).1
      have hO6 := hput 1 (.float .f64 x) (loE (E.take k) k, x, 0, ()) (by decide) (rd_binv (lo_lt (fun y hy => (HEc.out y (List.mem_of_mem_take hy)).1) k) hx64 (by decide) (by decide))
      have hcc : (k : Nat) < c := by omega
      rw [hsl]
      rw [show k * Sh.size BIN + 1 = k * 3 + 1 from rfl] at c5 f5
      have i0 : (0 : Int) ≤ (k : Int) := by omega
      have i1 : (k : Int) < (q : Int) := by omega
      have jw : IntKind.i64.wrap (((k + 1 : Nat) : Int) - 1) = ((k : Nat) : Int) := by rw [IntWalk.i64_in _ (by omega)]; omega
      have i2 : (k : Int) < ((k + 1 : Nat) : Int) := by omega
      have HN := Lib.hid (show binsE (E.take (k + 1)) [] = (binsE (E.take k) []).set k (loE (E.take k) k, x, 0, ()) ++ [(x, (rcanF (endL .lt [])), 0, ())] by rw [take_at hx, binsE_edge, hlk])
      have hb5 : Below w4.heap.size w4 (wr.setCell ⟨g, k * 3 + 1, none⟩ (.float .f64 x)) := HB.out.setCell hgb _
      clear hx hcell hrd hfr hput hO
      go_wp2_with fail
      obtain ⟨w5, hw5⟩ : ∃ w5, wr.setCell ⟨g, k * 3 + 1, none⟩ (.float .f64 x) = w5 := ⟨_, rfl⟩
      rw [show k * Sh.size BIN + 1 = k * 3 + 1 from rfl, hsl] at hO6
      rw [hw5] at hO6 hb5 ⊢
      refine (least0 w5).mono ?_
      rintro e w6 ⟨rfl, hb6⟩
      have HO7 := Lib.hid (hO6.below hb6)
      have HB7 := Lib.hid (hb5.trans (hb6.mono hb5.size))
      clear hO6 hb5 hb6
      have hbsz : (binsE (E.take k) []).length = k + 1 := hsl
      go_wp2_with (first
        | (refine wpL_lit1 rfl (cs := [.float .f64 x, .float .f64 (rcanF (endL .lt [])), .int .i64 0]) (.tmp 36) rfl rfl Try.underlying36 info_bin rfl (by decide) (by decide) rfl ?_)
        | (at_builtin; go_loud (refine wp_appO (m := 1) (r := [((x : Nat), (rcanF (endL .lt [])), (0 : Int), ())]) (ys := [.float .f64 x, .float .f64 (rcanF (endL .lt [])), .int .i64 0]) rfl (.tmp 33) (.tmp 37) rfl (HO7.out.below (below_alloc1 w6 _)) rfl (fun e => by cases e) (fun ad' e => by cases e; exact At.blk (heap_alloc_new w6 _)) (RdL.single (rd_binv hx64 nb_lt (by decide) (by decide))) (HB7.out.alloc HB7.out.size _) Try.underlying36 info_bin rfl (by decide) rfl rfl (by rw [List.length_set, hbsz, bytes_bin]; omega) (by rw [List.length_set, hbsz]; omega) (by have := HB7.out.size; simp; omega) ?_; intro v8 w8 hO8 hb8 _ _; rw [← HN.out] at hO8; obtain ⟨A8, c8, rfl, _⟩ := Own.form hO8; have HO8 := Lib.hid hO8; have HB8 := Lib.hid hb8; clear hO8 hb8)))
      go_roundw
      case measure => simp [intOf]; omega
      case rel => exact ⟨k + 1, _, by omega, rfl, by go_num, HO8.out, HB8.out⟩
    · obtain rfl : k = q := by omega
      rw [List.take_of_length_le (by omega)] at hO
      obtain ⟨g, c, cs, rfl, hgb, hgl, hlc, _, _, _, _⟩ := hO.put (binsE_at (E := E) (K := []) (i := 0) (by omega))
      rw [binsE_len, hq] at hlc hO ⊢
      have HG := Lib.hid hgl
      go_wp2_with fail
      have hal1 := rd_rows (HA.out.below (HB4.out.trans (HB.out.mono HB4.out.size)))
      refine (known_any wr _ l (HA.out.below (HB4.out.trans (HB.out.mono HB4.out.size))) (by omega)).mono ?_
      rintro e w5 ⟨v5, rfl, hO5, hb5⟩
      have hKlt := known_lt halt
      have hkl : (knownL l).length ≤ n := by rw [← hal]; exact List.length_filter_le _ _
      obtain ⟨K, hK⟩ : ∃ K, knownL l = K := ⟨_, rfl⟩
      rw [hK] at hO5 hKlt hkl
      obtain ⟨A5, c5, rfl, _⟩ := Own.form hO5
      obtain ⟨r, hr⟩ : ∃ r, K.length = r := ⟨_, rfl⟩
      rw [hr] at hO5 hkl ⊢
      have HO5 := Lib.hid hO5
      have HX := Lib.hid (hO.below hb5)
      have HB5 := Lib.hid (HB.out.trans (hb5.mono HB.out.size))
      clear hO hO5 hb5
      go_wp2_with fail
      go_loopw [43] (fun s43 wq => ∃ j : Nat, j ≤ r ∧ s43 = .int .i64 j ∧ Own wq w4.heap.size 41 BIN (.slice (some ⟨g, 0, none⟩) (k + 1) c) (binsE E (K.take j)) ∧ Own wq wr.heap.size 27 .f64 (.slice A5 r c5) K ∧ Below w4.heap.size w4 wq) (fun s43 _ => r - (intOf s43).toNat)
      case atStart => exact ⟨0, by omega, rfl, HX.out, HO5.out, HB5.out⟩
      case round =>
        obtain ⟨j, hj, rfl, hO, hK5, hbel⟩ := hrel
        have HB := Lib.hid hbel
        have HR := Lib.hid (HE4.out.below hbel)
        have HK := Lib.hid (own_rows hK5 hr.symm)
        clear hbel
        by_cases hlt : j < r
        · obtain ⟨ad, x, rfl, hx⟩ := HK.out.some_at hlt
          have cx := (row_at HK.out hx).1
          have i0 : (0 : Int) ≤ (j : Int) := by omega
          have i1 : (j : Int) < (r : Int) := by omega
          go_wp2_with fail
          have HX64 := Lib.hid (hKlt x (List.mem_of_getElem? hx))
          obtain ⟨p, hp⟩ : ∃ p, placeE E x = p := ⟨_, rfl⟩
          have hpq : p ≤ k := by rw [← hp, ← hq]; exact place_le E x
          have HO := Lib.hid hO
          have HK5 := Lib.hid hK5
          have HP := Lib.hid hp
          have HXe := Lib.hid hx
          clear hx hp hO hK5
          go_loopw [11] (fun s11 wi => ∃ i : Nat, i ≤ p ∧ s11 = .int .i64 i ∧ wi = wr) (fun s11 _ => p - (intOf s11).toNat)
          case atStart => exact ⟨0, by omega, rfl, rfl⟩
          case round =>
            obtain ⟨i, hi, rfl, rfl⟩ := hrel
            by_cases hip : i < p
            · obtain ⟨ed, e, rfl, he⟩ := HR.out.some_at (i := i) (by omega)
              have ce := (row_at HR.out he).1
              have i2 : (0 : Int) ≤ (i : Int) := by omega
              have i3 : (i : Int) < (k : Int) := by omega
              have hd : decide (keyF x < keyF e) = false := by
                rw [keyF_eq HX64.out, keyF_eq (HEc.out e (List.mem_of_getElem? he)).1]
                exact decide_eq_false (place_before (by rw [HP.out]; exact hip) he)
              clear he
              go_loud (go_wp2_with (go_at_call 41; refine (less_any _ _ _).mono ?_; rintro e w' ⟨rfl, rfl⟩; rw [hd]))
              go_roundw
              case measure => simp [intOf]; omega
              case rel => exact ⟨i + 1, by omega, by go_num, trivial⟩
            · obtain rfl : i = p := by omega
              obtain ⟨g', c', cs, e0, hgb', hgl', _, hcell, hrd, hfr, hput⟩ := HO.out.put (binsE_at (E := E) (K := K.take j) (i := i) (by omega))
              injection e0 with e1 e2 e3
              injection e1 with e1
              injection e1 with e1
              subst e1 e3
              clear e2
              obtain rfl := rd_bin_at hrd
              have c5 := hcell 2 _ rfl
              have f5 := hfr (i * Sh.size BIN + 2)
              obtain ⟨ct, hct⟩ : ∃ ct, cntE E (K.take j) i = ct := ⟨_, rfl⟩
              have hctl : ct ≤ 1000 := by
                have := cnt_le E (K.take j) i
                rw [hct, List.length_take] at this
                omega
              have hlo := lo_lt (fun y hy => (HEc.out y hy).1) i
              have hhi := hi_lt (fun y hy => (HEc.out y hy).1) i
              have hO6 := hput 2 (.int .i64 ((ct : Int) + 1)) (loE E i, hiE E i, (ct : Int) + 1, ()) (by decide) (rd_binv hlo hhi (by omega) (by omega))
              have HN := Lib.hid (show binsE E (K.take (j + 1)) = (binsE E (K.take j)).set i (loE E i, hiE E i, (ct : Int) + 1, ()) by
                rw [take_at HXe.out, binsE_one E _ x (place_le E x), HP.out, hct])
              rw [← HN.out] at hO6
              rw [hct] at c5
              rw [show i * Sh.size BIN + 2 = i * 3 + 2 from rfl] at c5 f5 hO6
              have HO6 := Lib.hid hO6
              have HK6 := Lib.hid (HK5.out.setc (g := g) (by have := HG.out; omega) (i * 3 + 2) (.int .i64 ((ct : Int) + 1)))
              have HB6 := Lib.hid (HB.out.setCell (p := ⟨g, i * 3 + 2, none⟩) hgb (.int .i64 ((ct : Int) + 1)))
              have i2 : (0 : Int) ≤ (i : Int) := by omega
              have i3 : (i : Int) < ((k + 1 : Nat) : Int) := by omega
              have jw : IntKind.i64.wrap ((ct : Int) + 1) = (ct : Int) + 1 := IntWalk.i64_in _ (by omega)
              clear hcell hrd hfr hput hO6 hlo hhi hct
              by_cases hik : i < k
              · obtain ⟨ed, e, rfl, he⟩ := HR.out.some_at hik
                have ce := (row_at HR.out he).1
                have i4 : (i : Int) < (k : Int) := by omega
                have hd : decide (keyF x < keyF e) = true := by
                  rw [keyF_eq HX64.out, keyF_eq (HEc.out e (List.mem_of_getElem? he)).1]
                  exact decide_eq_true (place_at (by rw [HP.out]; exact he))
                clear he
                go_loud (go_wp2_with (go_at_call 41; refine (less_any _ _ _).mono ?_; rintro e w' ⟨rfl, rfl⟩; rw [hd]))
                go_roundw
                case measure => simp [intOf]; omega
                case rel => exact ⟨j + 1, by omega, by go_num, HO6.out, HK6.out, HB6.out⟩
              · obtain rfl : i = k := by omega
                go_wp2_with fail
                go_roundw
                case measure => simp [intOf]; omega
                case rel => exact ⟨j + 1, by omega, by go_num, HO6.out, HK6.out, HB6.out⟩
        · obtain rfl : j = r := by omega
          go_wp2_with fail
          go_ret
          refine ⟨_, rfl, ?_, HB4.out.trans (HB.out.mono HB4.out.size)⟩
          rw [List.take_of_length_le (by omega)] at hO
          have := Own.base hO HB4.out.size
          rw [HEQ.out, hK]
          exact this
end Go.Proofs.Ythkfjcfncobllaa
