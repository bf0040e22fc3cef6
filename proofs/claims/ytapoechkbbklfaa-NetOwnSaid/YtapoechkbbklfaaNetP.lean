import Derived.Test.YtapoechkbbklfaaNetO
import Derived.Test.YtapoechkbbklfaaNetI
namespace Go.Proofs.Ytapoechkbbklfaa
open Go.RowKit Go.Shelf
set_option linter.unusedVariables false
set_option linter.unusedSimpArgs false
attribute [local go_sem] Oper.semAt_some
set_option maxRecDepth 100000 in
theorem fewL_one (p : PKT.Ty) : fewL [p] = decide ((dataP p).length ≤ 50) := by simp [fewL]
set_option maxRecDepth 100000 in
theorem NetR.turn {w w' : World} {b1 B : Nat} {room : Int} {sv : Value} {l : List PKT.Ty} {p : Nat → Prop} (h : NetR w b1 B room sv l) (hT : Turn p w w') (h1 : ¬ p b1) (hp : ∀ k, p k → k < B) : NetR w' b1 B room sv l :=
  ⟨hT.blk h.1 h1, OwnG.turn h.2.1 hT (fun k e hk => by have := (h.own_ge e).1; have := hp k hk; omega) (fun k _ hk hpk => by have := hp k hpk; have hk : B ≤ k := hk; omega), h.2.2.1, Nat.le_trans h.2.2.2.1 hT.size, h.2.2.2.2⟩
set_option maxRecDepth 100000 in
theorem inc_enc (x : UInt8) : encB (x + 1) = .int .u8 (((x.toNat : Int) + 1) % 256) := by
  unfold encB
  rw [UInt8.toNat_add]
  congr 1
set_option maxRecDepth 100000 in
theorem inc_put {wr : World} {base g n cb i : Nat} {d : List UInt8} {x : UInt8} (h : ∀ (j : Nat) (u : Value) (y : UInt8), j < Sh.size .byte → Rd wr (fun k => False ∧ k ≠ g) .byte y ([encB x].set j u) → OwnG (wr.setCell ⟨g, i * Sh.size .byte + j, none⟩ u) base (fun _ => False) 5 .byte (.slice (some ⟨g, 0, none⟩) n cb) (d.set i y)) :
    OwnG (wr.setCell ⟨g, i, none⟩ (.int .u8 (((x.toNat : Int) + 1) % 256))) base (fun _ => False) 5 .byte (.slice (some ⟨g, 0, none⟩) n cb) (d.set i (x + 1)) := by
  have := h 0 (encB (x + 1)) (x + 1) (by decide) rfl
  rw [inc_enc, show i * Sh.size .byte + 0 = i from by show i * 1 + 0 = i; omega] at this
  exact this
set_option maxRecDepth 100000 in
theorem own_cells {w : World} {base : Nat} {ok : Nat → Prop} {e : TypeId} {s : Sh} {v : Value} {l : List s.Ty} (h : OwnG w base ok e s v l) {k : Nat} (hk : v.ownBlock = some k) : ∃ c, w.heap[k]? = some (.cells c e (0, 0)) := by
  obtain ⟨xs, ⟨_, h2⟩, _⟩ := h
  rcases h2 with ⟨rfl, _⟩ | ⟨g, cap, cur, rfl, _, hg, _⟩
  · cases hk
  · have hk : some g = some k := hk
    injection hk with hk
    subst hk
    exact ⟨_, hg⟩
set_option maxRecDepth 100000 in
theorem own_ne_blk {w : World} {base b : Nat} {ok : Nat → Prop} {e t : TypeId} {s : Sh} {v : Value} {l : List s.Ty} {c : Array Value} {f : Nat × Nat} (h : OwnG w base ok e s v l) (hb : w.heap[b]? = some (.cells c t f)) (hne : t ≠ e) : v.ownBlock ≠ some b := by
  intro hk
  obtain ⟨c', h'⟩ := own_cells h hk
  rw [hb] at h'
  injection h' with h'
  injection h' with _ h'
  exact hne h'
set_option maxRecDepth 100000 in
theorem cell_one {w : World} {g i : Nat} {y : UInt8} (h : w.cell? ⟨g, i * Sh.size .byte + 0, none⟩ = some (encB y)) : w.cell? ⟨g, i, none⟩ = some (.int .u8 y.toNat) := by
  rw [show i * Sh.size .byte + 0 = i from by show i * 1 + 0 = i; omega] at h
  exact h
set_option maxRecDepth 100000 in
theorem new_at {w w' : World} {room : Int} (h : w' = w.alloc (.cells #[.int .i64 room, .slice none 0 0] 76)) : NetR w' w.heap.size (w.heap.size + 1) room (.slice none 0 0) [] ∧ Below w.heap.size w w' := by
  subst h
  exact ⟨new_net, below_alloc1 w _⟩
set_option maxHeartbeats 4000000 in
set_option maxRecDepth 100000 in
theorem w_NetOwn (p : PKT.Ty) (cp : List Value) (w : World) (hp : Rd w anyB PKT p cp) :
    Calls Try.prog 4 #[.agg cp.toArray] w fun e w' => e = .returned (.bool true) ∧ Below w.heap.size w w' := by
  have hrd0 := hp
  obtain ⟨pt, pf, pd, pA, pc, rfl, rfl, okp, hpd⟩ := rd_pkt hp
  have HP0 := Lib.hid hrd0
  obtain ⟨w1, hw1⟩ : ∃ w1, w.alloc (.cells #[Value.int .i64 pt, Value.int .i64 pf, Value.slice pA pd.length pc] 37) = w1 := ⟨_, rfl⟩
  have hb1 : Below w.heap.size w w1 := by rw [← hw1]; exact below_alloc1 w _
  have hz1 : w1.heap.size = w.heap.size + 1 := by rw [← hw1]; simp
  have HX1 := Lib.hid (show w1.heap[w.heap.size]? = some (.cells #[Value.int .i64 pt, Value.int .i64 pf, Value.slice pA pd.length pc] 37 (0, 0)) by rw [← hw1]; exact heap_alloc_new w _)
  have HB1 := Lib.hid hb1
  have HP := Lib.hid (hrd0.below hb1)
  have HPD := Lib.hid (hpd.below hb1)
  have HOK := Lib.hid okp
  clear hp hrd0 okp hpd hb1
  refine (callsIn_wide (n := 5)).1 (callsIn_of_wp_marks Try.func4 rfl trivial ?_ rfl)
  simp only [Try.ntmps4, List.size_toArray, List.length_cons, List.length_nil, Nat.reduceAdd, Nat.reduceSub, Array.replicate_succ, Array.replicate_zero, List.push_toArray, List.append_toArray, List.nil_append, List.cons_append]
  refine wpIn_wide.2 ?_
  go_wp2_with (first
    | (go_at_call 9; refine (net_awake _).mono ?_; rintro e w2 ⟨rfl, hb12⟩; have HB12 := Lib.hid (HB1.out.trans (hb12.mono HB1.out.size)); have HX2 := Lib.hid (blk_below HX1.out hb12 (blk_lt HX1.out)); have HP2 := Lib.hid (HP.out.below hb12); have HPD2 := Lib.hid (HPD.out.below hb12); clear hw1 hb12)
    | (refine wpL_load rfl 37 (.tmp 1) rfl ⟨w.heap.size, 0, none⟩ rfl _ _ (At.blk HX2.out) Try.underlying37 rfl rfl ?_)
    | (refine wpL_lit1 rfl (cs := [.int .i64 pt, .int .i64 pf, .slice pA pd.length pc]) (.tmp 12) rfl rfl Try.underlying27 info_pkt rfl (by decide) (by decide) rfl ?_))
  obtain ⟨w3, hw3⟩ : ∃ w3, w2.alloc (.cells [Value.int .i64 pt, Value.int .i64 pf, Value.slice pA pd.length pc].toArray 37) = w3 := ⟨_, rfl⟩
  have hb23 : Below w2.heap.size w2 w3 := by rw [← hw3]; exact below_alloc1 w2 _
  have hblk : w3.heap[w2.heap.size]? = some (.cells [Value.int .i64 pt, Value.int .i64 pf, Value.slice pA pd.length pc].toArray 37 (0, 0)) := by rw [← hw3]; exact heap_alloc_new w2 _
  have hR : Rows w3 anyB PKT (some ⟨w2.heap.size, 0, none⟩) 1 [(pt, pf, pd, ())] := rows_of (ad := ⟨w2.heap.size, 0, none⟩) (RdL.single (HP2.out.below hb23)) (fun _ => trivial) (At.blk hblk)
  rw [hw3]
  have HB3 := Lib.hid (HB12.out.trans (hb23.mono HB12.out.size))
  have HX3 := Lib.hid (blk_below HX2.out hb23 (blk_lt HX2.out))
  refine (few_any w3 anyB (some ⟨w2.heap.size, 0, none⟩) 1 1 _ hR (by omega)).mono ?_
  rintro e w4 ⟨rfl, hb34⟩
  rw [fewL_one]
  have HB4 := Lib.hid (HB3.out.trans (hb34.mono HB3.out.size))
  have HX4 := Lib.hid (blk_below HX3.out hb34 (blk_lt HX3.out))
  have HPD4 := Lib.hid ((HPD2.out.below hb23).below hb34)
  clear hw3 hb23 hblk hR hb34
  by_cases hsm : pd.length ≤ 50
  case neg =>
    have hd : decide ((dataP (pt, pf, pd, ())).length ≤ 50) = false := decide_eq_false hsm
    rw [hd]
    clear hd
    go_wp2_with fail
    exact ⟨_, results_tmp rfl _ _ _, rfl, HB4.out⟩
  have hd : decide ((dataP (pt, pf, pd, ())).length ≤ 50) = true := decide_eq_true hsm
  rw [hd]
  clear hd
  go_wp2_with (first
    | (go_at_call 10; refine (new_any w4 4).mono ?_; rintro e w5 ⟨rfl, h5⟩; obtain ⟨hN5, hb45⟩ := new_at h5; clear h5; have HN5 := Lib.hid hN5; have HX5 := Lib.hid (blk_below HX4.out hb45 (blk_lt HX4.out)); have HB5 := Lib.hid (HB4.out.trans (hb45.mono HB4.out.size)); have HPD5 := Lib.hid (HPD4.out.below hb45); clear hN5 hb45; obtain ⟨hq1, hq2, hq3, hq4⟩ := rd_rowsN HPD5.out; obtain ⟨ys, hy, hat⟩ := hq4.cells; have HY := Lib.hid (And.intro hq4.2.1 (And.intro hy hat)); clear hy hat hq1 hq2 hq3 hq4; obtain ⟨c0, c1, c2⟩ := blk3 HX5.out)
    | (at_builtin
       refine wp_appO (w0 := w5) (base := w5.heap.size) (ok := fun _ => False) (S := .byte) (A := pA) (m := pd.length) (l := []) (r := pd) (ys := ys) rfl (.const (.slice none 0 0)) (.tmp 18) rfl ⟨[], own_nil _ _ _ _, rfl⟩ rfl HY.out.1 (fun ad e => (HY.out.2.2 ad e).2) (one_cells_byte HY.out.2.1) (Below.refl _ _) Try.underlying35 info_byte rfl (by decide) rfl rfl (by simp; omega) (by simp; omega) (Nat.le_refl _) ?_
       intro v6 w6 ho6 hb6 _ _
       rw [List.nil_append] at ho6
       obtain ⟨Ab, cb, rfl, hbc, hbm, _⟩ := OwnG.rows ho6
       have HO6 := Lib.hid ho6
       have HX6 := Lib.hid (blk_below HX5.out hb6 (blk_lt HX5.out))
       have HB6 := Lib.hid (HB5.out.trans (hb6.mono HB5.out.size))
       have HN6 := Lib.hid (HN5.out.below hb6)
       have HZ6 := Lib.hid hb6.size
       clear ho6 hb6 c0 c1 c2
       obtain ⟨c0, c1, c2⟩ := blk3 HX6.out)
    | (refine wpL_lit1 rfl (cs := [.int .i64 pt, .int .i64 pf, .slice Ab pd.length cb]) (.tmp 26) rfl rfl Try.underlying27 info_pkt rfl (by decide) (by decide) rfl ?_))
  have hs5 : w4.heap.size + 1 ≤ w5.heap.size := HN5.out.2.2.2.1
  have hs6 := HZ6.out
  obtain ⟨w7, hw7⟩ : ∃ w7, w6.alloc (.cells [Value.int .i64 pt, Value.int .i64 pf, Value.slice Ab pd.length cb].toArray 37) = w7 := ⟨_, rfl⟩
  have hb67 : Below w6.heap.size w6 w7 := by rw [← hw7]; exact below_alloc1 w6 _
  have hz7 : w7.heap.size = w6.heap.size + 1 := by rw [← hw7]; simp
  have hblk : w7.heap[w6.heap.size]? = some (.cells [Value.int .i64 pt, Value.int .i64 pf, Value.slice Ab pd.length cb].toArray 37 (0, 0)) := by rw [← hw7]; exact heap_alloc_new w6 _
  have hgb : ∀ k, (Value.slice Ab pd.length cb).ownBlock = some k → w5.heap.size ≤ k ∧ k < w6.heap.size := fun k e => by obtain ⟨zs, hz, _⟩ := HO6.out; exact ⟨own_base hz k e, own_lt hz k e⟩
  have hR : Rows w7 (fun k => k = w6.heap.size ∨ (Value.slice Ab pd.length cb).ownBlock = some k) PKT (some ⟨w6.heap.size, 0, none⟩) 1 [(pt, pf, pd, ())] :=
    rows_of (ad := ⟨w6.heap.size, 0, none⟩) (RdL.single (rd_pkt_mk HOK.out (((own_rd_own HO6.out).below hb67).weak (fun k hk _ => .inr hk)))) (fun _ => .inl rfl) (At.blk hblk)
  rw [show w6.alloc (.cells #[Value.int .i64 pt, Value.int .i64 pf, Value.slice Ab pd.length cb] 37) = w7 from hw7]
  have hN7 : NetR w7 w4.heap.size w6.heap.size (max 4 0) (.slice none 0 0) [] := ⟨(HN6.out.below hb67).1, ⟨[], own_nil _ _ _ _, rfl⟩, by omega, by omega, by simp⟩
  have HO7 := Lib.hid (HO6.out.below hb67)
  have HX7 := Lib.hid (blk_below HX6.out hb67 (blk_lt HX6.out))
  have HB7 := Lib.hid (HB6.out.trans (hb67.mono HB6.out.size))
  have HGB := Lib.hid hgb
  refine (send_any w7 w4.heap.size w6.heap.size (max 4 0) (.slice none 0 0) [] [(pt, pf, pd, ())] _ (some ⟨w6.heap.size, 0, none⟩) 1 1 hN7 hR (fun k hk => ⟨by rcases hk with hk | hk; omega; have := hgb k hk; omega, fun e => by cases e⟩) (fun q hq => by obtain rfl := List.mem_singleton.1 hq; show pd.length ≤ 100000; omega) (by simp)).mono ?_
  rintro e w8 ⟨rfl, sv8, hN8, hT8, hv8⟩
  have HN8 := Lib.hid (show NetR w8 w4.heap.size w6.heap.size (max 4 0) sv8 [(pt, pf, pd, ())] from hN8)
  have HS8 := Lib.hid (show (sendL (max 4 0) [] [(pt, pf, pd, ())]).2 = 1 from rfl)
  have HO8 := Lib.hid (HO7.out.turn hT8 (fun k e => by have := hgb k e; intro h; rcases h with h | h; omega; cases h) (fun k _ h => h.elim))
  have HX8 := Lib.hid (hT8.blk HX7.out (fun h => by rcases h with h | h; have := HB4.out.size; have := blk_lt HX4.out; omega; cases h))
  have HB8 := Lib.hid (HB7.out.trans (hT8.below HB7.out.size (fun k _ h => by rcases h with h | h; have := HB4.out.size; omega; cases h)))
  clear hN8 hT8 hv8 hN7 hR hblk hb67 hw7 hgb c0 c1 c2
  go_wp2_with fail
  go_loopw [31] (fun s31 wr => ∃ (i : Nat) (d : List UInt8), i ≤ pd.length ∧ s31 = .int .i64 i ∧ d.length = pd.length ∧ OwnG wr w5.heap.size (fun _ => False) 5 .byte (.slice Ab pd.length cb) d ∧ Turn (fun k => (Value.slice Ab pd.length cb).ownBlock = some k) w8 wr) (fun s31 _ => pd.length - (intOf s31).toNat)
  case atStart => exact ⟨0, pd, by omega, rfl, rfl, HO8.out, Turn.refl _ _⟩
  case round =>
    obtain ⟨i, d, hi, rfl, hdl, hO, hT⟩ := hrel
    have HO := Lib.hid hO
    have HT := Lib.hid hT
    have HDL := Lib.hid hdl
    clear hO hT hdl
    by_cases hlt : i < pd.length
    · have i0 : (0 : Int) ≤ (i : Int) := by omega
      have i1 : (i : Int) < (pd.length : Int) := by omega
      obtain ⟨x, hx⟩ : ∃ x, d[i]? = some x := ⟨d[i]'(by have := HDL.out; omega), List.getElem?_eq_getElem _⟩
      obtain ⟨g, c, cs, hv, hg1, hg2, hg3, hcs, hrx, hfr, hput⟩ := OwnG.put HO.out hx
      obtain rfl : cs = [encB x] := hrx
      injection hv with hv1 hv2 hv3
      subst hv1 hv3
      have e0 := hcs 0 _ rfl
      have hc : wr.cell? ⟨g, i, none⟩ = some (.int .u8 x.toNat) := by simpa [Sh.size, encB] using e0
      have hf := hfr i
      have HPut := Lib.hid hput
      clear hput hfr hcs e0 hx hv2
      have HN2 := Lib.hid (inc_put HPut.out)
      go_wp2_with fail
      go_roundw
      case measure => simp [intOf]; omega
      case rel => exact ⟨i + 1, d.set i (x + 1), by omega, by go_num, by rw [List.length_set]; exact HDL.out, HN2.out, HT.out.set (fun _ => rfl)⟩
    · obtain rfl : i = pd.length := by omega
      have HNr := Lib.hid (HN8.out.turn HT.out (fun e => by have := HGB.out _ e; omega) (fun k e => (HGB.out k e).2))
      have HXr := Lib.hid (HT.out.blk HX8.out (fun e => by have := HGB.out _ e; have := HB4.out.size; omega))
      have HBr := Lib.hid (HB8.out.trans (HT.out.below HB8.out.size (fun k _ e => by have := HGB.out k e; have := HB4.out.size; omega)))
      clear HO HDL HT
      go_wp2_with fail
      refine (all_it wr _ (.inr ⟨_, rfl⟩)).mono ?_
      rintro e w' ⟨rfl, rfl⟩
      go_wp2_with fail
      obtain ⟨x1, hx1⟩ : ∃ x1, wr.alloc (.cells #[.pointer (some ⟨w4.heap.size, 0, none⟩)] 24) = x1 := ⟨_, rfl⟩
      have hz : x1.heap.size = wr.heap.size + 1 := by rw [← hx1]; simp
      have hb1 : Below wr.heap.size wr x1 := by rw [← hx1]; exact below_alloc1 wr _
      have bN : x1.cell? ⟨wr.heap.size, 0, none⟩ = some (.pointer (some ⟨w4.heap.size, 0, none⟩)) := by rw [← hx1]; exact (Boxed.new wr 24 (.pointer (some ⟨w4.heap.size, 0, none⟩))).cell
      rw [hx1]
      clear hx1
      refine (wpIn_wide (n := 5)).1 ?_
      refine wpIn_rangeV rfl (by decide) (gf := 41) (lb := #[.pointer (some ⟨wr.heap.size, 0, none⟩)]) rfl trivial (enters_of Try.func41 (by kernel_rfl) rfl)
        (encs := encX) (V := VX (wr.heap.size + 5) [(pt, pf, pd, ())]) (Kp := Turn (pK (wr.heap.size + 5) (wr.heap.size + 2) (wr.heap.size + 2))) (S := fun xs => xs.map XP.pk = [(pt, pf, pd, ())]) (Sp := fun pre => pre.map XP.pk <+: [(pt, pf, pd, ())])
        (fun W hbW hzW => by
          have h := all1_seq 4 wr W w4.heap.size w6.heap.size (wr.heap.size + 2) wr.heap.size (wr.heap.size + 2) (max 4 0) sv8 [(pt, pf, pd, ())] HNr.out (hb1.trans (hbW.mono hb1.size)) (fun q hq => by obtain rfl := List.mem_singleton.1 hq; show pd.length ≤ 100000; omega) (by omega) (Nat.le_refl _) (by omega) ((hbW.cell (p := ⟨wr.heap.size, 0, none⟩) (by show wr.heap.size < x1.heap.size; omega)).trans bN)
          have e : W.heap.size + 2 = wr.heap.size + 5 := by omega
          rw [e] at h
          exact h)
        (fun pre => vx_own _ _ _ pre) (fun h k => h.trans k (fun _ _ h => h)) (fun W o _ => turn_put (by rw [hz]; exact .inr (.inl rfl))) (fun x => rfl)
        (fun pre X => Below x1.heap.size x1 X)
        (fun _ _ _ => False)
        (ownFrom_below (Nat.le_refl _) (Nat.le_refl _))
        (fun _ _ _ _ _ hs _ _ => hs)
        (Below.refl _ _)
        (fun x a' X => ∃ Bx, a' = { tmps := #[.agg #[.int .i64 pt, .int .i64 pf, .slice pA pd.length pc], .pointer (some ⟨w.heap.size, 0, none⟩), .bool false, .pointer (some ⟨w4.heap.size, 0, none⟩), .slice Ab pd.length cb, u5, .pointer (some ⟨Bx, 0, none⟩), undef, undef, undef, .bool true, .bool false, .agg #[.int .i64 pt, .int .i64 pf, .slice pA pd.length pc], .slice (some ⟨w2.heap.size, 0, none⟩) 1 1, .bool true, .bool false, .pointer (some ⟨w4.heap.size, 0, none⟩), .pointer (some ⟨w.heap.size, 2, none⟩), .slice pA pd.length pc, .slice Ab pd.length cb, .pointer (some ⟨w4.heap.size, 0, none⟩), .pointer (some ⟨w.heap.size, 0, none⟩), .int .i64 pt, .pointer (some ⟨w.heap.size, 1, none⟩), .int .i64 pf, .slice Ab pd.length cb, .agg #[.int .i64 pt, .int .i64 pf, .slice Ab pd.length cb], .slice (some ⟨w6.heap.size, 0, none⟩) 1 1, .int .i64 ((sendL (max 4 0) [] [(pt, pf, pd, ())]).2 : Nat), .slice Ab pd.length cb, .int .i64 pd.length, .int .i64 pd.length, .bool false, u33, u34, u35, u36, u37, u38, u39, u40, .pointer (some ⟨w4.heap.size, 0, none⟩), .func (.func 41) #[] #[.pointer (some ⟨wr.heap.size, 0, none⟩)], .agg #[Value.int .i64 x.t, Value.int .i64 x.f, Value.slice x.A x.d.length x.c], undef, undef, undef, undef, undef, undef, undef, undef, undef, undef, undef, undef, undef, undef, undef, undef, undef, undef, undef, undef, undef, undef, undef, undef, undef, undef, undef], defers := [] } ∧ X.heap[Bx]? = some (.cells #[Value.int .i64 x.t, Value.int .i64 x.f, Value.slice x.A x.d.length x.c] 37 (0, 0)) ∧ wr.heap.size + 5 ≤ Bx)
        (fun x a' X Y row ⟨Bx, h1, h2, h3⟩ hg hr => ⟨Bx, h1, cells_kept hg (fun r e => (hr r e).2) h2, h3⟩)
        ?assign ?body ?done ?stop
      case assign =>
        rintro ll pre x X K hB hV hK
        dsimp only [encX]
        gi_wp2
        have hal := World.grownBy_alloc X (.cells #[Value.int .i64 x.t, Value.int .i64 x.f, Value.slice x.A x.d.length x.c] 37) none
        exact hK _ _ ((KeepsOthers.alloc _ _).from _) (Turn.of_below (below_alloc1 X _)) (hB.trans ((below_alloc1 X _).mono hB.size)) (vx_own 0 _ _ _ _ X _ none hV hal (fun r e => by cases e)) ⟨X.heap.size, rfl, heap_alloc_new X _, hV.2.1⟩
      case body =>
        rintro ll pre x a' X hB hV ⟨Bx, rfl, hbx, hge⟩
        have hO := hV.1
        have hne : (Value.slice x.A x.d.length x.c).ownBlock ≠ some Bx := own_ne_blk hO hbx (by decide)
        have hown : ∀ k, (Value.slice x.A x.d.length x.c).ownBlock = some k → wr.heap.size + 5 ≤ k := fun k e => by obtain ⟨zs, hz, _⟩ := hO; exact own_base hz k e
        have hcl := fun k (e : (Value.slice x.A x.d.length x.c).ownBlock = some k) => own_cells hO e
        have hlen : x.d.length ≤ 9223372036854775807 := by obtain ⟨A', c', e, h1, h2, _⟩ := OwnG.rows hO; omega
        have HO := Lib.hid hO
        have HBX := Lib.hid hbx
        have HK := Lib.hid (And.intro hne (And.intro hown hcl))
        have HB := Lib.hid hB
        obtain ⟨c0, c1, c2⟩ := blk3 hbx
        clear hO hne hown hcl hV hB hbx c0 c1
        gi_wp2
        clear c2
        gi_loopw [47] (fun s47 W => ∃ (i : Nat) (d : List UInt8), i ≤ x.d.length ∧ s47 = .int .i64 i ∧ d.length = x.d.length ∧ OwnG W (wr.heap.size + 5) (fun _ => False) 5 .byte (.slice x.A x.d.length x.c) d ∧ Turn (fun k => (Value.slice x.A x.d.length x.c).ownBlock = some k) X W) (fun s47 _ => x.d.length - (intOf s47).toNat)
        case atStart => exact ⟨0, x.d, by omega, rfl, rfl, HO.out, Turn.refl _ _⟩
        case round =>
          obtain ⟨i, d, hi, rfl, hdl, hO2, hT⟩ := hrel
          have HO2 := Lib.hid hO2
          have HT := Lib.hid hT
          have HDL := Lib.hid hdl
          obtain ⟨c0, c1, c2⟩ := blk3 (hT.blk HBX.out HK.out.1)
          clear hO2 hT hdl c0 c1
          by_cases hlt : i < x.d.length
          · have i0 : (0 : Int) ≤ (i : Int) := by omega
            have i1 : (i : Int) < (x.d.length : Int) := by omega
            obtain ⟨y, hy⟩ : ∃ y, d[i]? = some y := ⟨d[i]'(by have := HDL.out; omega), List.getElem?_eq_getElem _⟩
            obtain ⟨g, c, cs, hv, hg1, hg2, hg3, hcs, hrx, hfr, hput⟩ := OwnG.put HO2.out hy
            obtain rfl : cs = [encB y] := hrx
            injection hv with hv1 hv2 hv3
            have e0 := hcs 0 _ rfl
            rw [hv1] at hput HT c2 ⊢
            have hc := cell_one e0
            have hf := hfr i
            have HN2 := Lib.hid (inc_put hput)
            clear hput hfr hcs e0 hy hv2 hv3 HO2
            gi_wp2
            go_roundw
            case measure => simp [intOf]; omega
            case rel => exact ⟨i + 1, d.set i (y + 1), by omega, by go_num, by rw [List.length_set]; exact HDL.out, HN2.out, HT.out.set (fun _ => rfl)⟩
          · obtain rfl : i = x.d.length := by omega
            gi_wp2
            have HBs := HB.out.size
            exact ⟨⟨HT.out.size, fun k o _ hk ho => (HT.out.block k (blk_lt hk) (fun e => by obtain ⟨c, hc⟩ := HK.out.2.2 k e; rw [hk] at hc; cases hc; cases ho)).trans hk⟩, HT.out.mono (fun k _ e => .inr (.inr (HK.out.2.1 k e))), HB.out.trans (HT.out.below HBs (fun k _ e => by have := HK.out.2.1 k e; omega))⟩
      case stop =>
        rintro D c pre X _ _ h _
        exact h.elim
      case done =>
        rintro D ys X hD hS hB hK
        have hbX : Below wr.heap.size wr X := hb1.trans (hB.mono hb1.size)
        have HNX := Lib.hid (HNr.out.below hbX)
        have HXX := Lib.hid (blk_below HXr.out hbX (blk_lt HXr.out))
        have HBX := Lib.hid (HBr.out.trans (hbX.mono HBr.out.size))
        have hsv : ∀ k, sv8.ownBlock = some k → k < wr.heap.size := fun k e => (HNr.out.own_ge e).2
        have HT9 := Lib.hid (take_any X w4.heap.size w6.heap.size (max 4 0) sv8 [(pt, pf, pd, ())] 0 HNX.out (by decide))
        rw [show takeL [(pt, pf, pd, ())] 0 = some ((pt, pf, pd, ()), []) from rfl] at HT9
        have HD := Lib.hid (And.intro hD hK)
        clear hbX hB hS hb1 bN hK hD
        go_wp2_with fail
        refine HT9.out.mono ?_
        rintro e X2 ⟨cs, rfl, hr2, sv9, hN9, hT9, _⟩
        have HQ := Lib.hid hr2
        obtain ⟨qt, qf, qd, qA, qc, hqe, rfl, okq, hqd⟩ := rd_pkt hr2
        simp only [Prod.mk.injEq] at hqe
        obtain ⟨rfl, rfl, rfl, _⟩ := hqe
        have hlt1 := blk_lt HXr.out
        have hlt2 := HB4.out.size
        have hlt3 := HNr.out.2.2.2.1
        have hn : ¬ pN w4.heap.size sv8 w.heap.size := fun h => by
          rcases h with h | h
          · have := blk_lt HX4.out; omega
          · have := (HNX.out.own_ge h).1; have := blk_lt HX4.out; omega
        have HX2 := Lib.hid (hT9.blk HXX.out hn)
        have hDn : ¬ pN w4.heap.size sv8 D := fun h => by
          have := HD.out.1
          rcases h with h | h
          · omega
          · have := hsv D h; omega
        have HK2 := Lib.hid (hT9.blk HD.out.2 hDn)
        have HB2 := Lib.hid (HBX.out.trans (hT9.below HBX.out.size (fun k _ h => by rcases h with h | h; omega; have := (HNX.out.own_ge h).1; omega)))
        have HPD2b := Lib.hid (show Rd X2 anyB PKT (pt, pf, pd, ()) [.int .i64 pt, .int .i64 pf, .slice pA pd.length pc] from HP0.out.below HB2.out)
        obtain ⟨Y3, hY3⟩ : ∃ Y3, X2.alloc (.cells #[.int .i64 pt, .int .i64 pf, .slice qA pd.length qc] 37) = Y3 := ⟨_, rfl⟩
        obtain ⟨Y4, hY4⟩ : ∃ Y4, Y3.alloc (.cells #[.int .i64 pt, .int .i64 pf, .slice pA pd.length pc] 37) = Y4 := ⟨_, rfl⟩
        obtain ⟨Y5, hY5⟩ : ∃ Y5, Y4.alloc (.cells #[.int .i64 pt, .int .i64 pf, .slice qA pd.length qc] 37) = Y5 := ⟨_, rfl⟩
        have b23 : Below X2.heap.size X2 Y3 := by rw [← hY3]; exact below_alloc1 X2 _
        have b34 : Below Y3.heap.size Y3 Y4 := by rw [← hY4]; exact below_alloc1 Y3 _
        have b45 : Below Y4.heap.size Y4 Y5 := by rw [← hY5]; exact below_alloc1 Y4 _
        have z3 : Y3.heap.size = X2.heap.size + 1 := by rw [← hY3]; simp
        have z4 : Y4.heap.size = X2.heap.size + 2 := by rw [← hY4]; simp [z3]
        have g3 : Y3.heap[X2.heap.size]? = some (.cells #[.int .i64 pt, .int .i64 pf, .slice qA pd.length qc] 37 (0, 0)) := by rw [← hY3]; exact heap_alloc_new X2 _
        have g4 : Y4.heap[X2.heap.size + 1]? = some (.cells #[.int .i64 pt, .int .i64 pf, .slice pA pd.length pc] 37 (0, 0)) := by rw [← hY4, ← z3]; exact heap_alloc_new Y3 _
        have g5 : Y5.heap[X2.heap.size + 2]? = some (.cells #[.int .i64 pt, .int .i64 pf, .slice qA pd.length qc] 37 (0, 0)) := by rw [← hY5, ← z4]; exact heap_alloc_new Y4 _
        have b25 : Below X2.heap.size X2 Y5 := b23.trans ((b34.trans (b45.mono b34.size)).mono b23.size)
        have HP3 := Lib.hid (At.blk (blk_below HX2.out b23 (blk_lt HX2.out)))
        have HQ4 := Lib.hid (At.blk (blk_below g3 b34 (by omega)))
        have HR1 := Lib.hid (rows_of (ad := ⟨X2.heap.size + 1, 0, none⟩) (w := Y5) (ok := anyB) (RdL.single (HPD2b.out.below b25)) (fun _ => trivial) (At.blk (blk_below g4 b45 (by omega))))
        have HR2 := Lib.hid (rows_of (ad := ⟨X2.heap.size + 2, 0, none⟩) (w := Y5) (ok := anyB) (RdL.single (HQ.out.any.below b25)) (fun _ => trivial) (At.blk g5))
        have HB5 := Lib.hid (HB2.out.trans (b25.mono HB2.out.size))
        have HK5 := Lib.hid (blk_below HK2.out b25 (blk_lt HK2.out))
        clear hr2 hN9 hT9 okq hqd b23 b34 b45 g3 g4 g5 b25 hn hDn hlt1
        go_wp2_with (first
          | (refine wpG_load (by rfl) 37 (.tmp 1) rfl ⟨w.heap.size, 0, none⟩ rfl _ _ HP3.out Try.underlying37 rfl rfl ?_)
          | (refine wpG_lit1 (by rfl) (cs := [.int .i64 pt, .int .i64 pf, .slice pA pd.length pc]) (.tmp 65) rfl rfl Try.underlying27 info_pkt rfl (by decide) (by decide) rfl ?_; simp only [hY4])
          | (refine wpG_load (by rfl) 37 (.tmp 8) rfl ⟨X2.heap.size, 0, none⟩ rfl _ _ HQ4.out Try.underlying37 rfl rfl ?_)
          | (refine wpG_lit1 (by rfl) (cs := [.int .i64 pt, .int .i64 pf, .slice qA pd.length qc]) (.tmp 67) rfl rfl Try.underlying27 info_pkt rfl (by decide) (by decide) rfl ?_; simp only [hY5]))
        refine (same_any Y5 anyB anyB (some ⟨X2.heap.size + 1, 0, none⟩) (some ⟨X2.heap.size + 2, 0, none⟩) 1 1 1 1 [(pt, pf, pd, ())] [(pt, pf, pd, ())] HR1.out HR2.out (by omega)).mono ?_
        rintro e Y6 ⟨b, rfl, hb, hb56⟩
        obtain rfl : b = true := hb.2 rfl
        have hK6 := blk_below HK5.out hb56 (blk_lt HK5.out)
        have HB6' := Lib.hid (HB5.out.trans (hb56.mono HB5.out.size))
        have HD1 := HD.out.1
        clear hb hb56
        go_wp2_with fail
        refine ⟨by simp, .inl ⟨_, _, rfl, run_takeDeferred hK6, ?_⟩⟩
        exact ⟨_, results_tmp rfl _ _ _, rfl, HB6'.out.trans (belowK_b (w := w) (Nat.le_refl _) _ D _ _ (by omega) hK6 rfl rfl)⟩
end Go.Proofs.Ytapoechkbbklfaa
