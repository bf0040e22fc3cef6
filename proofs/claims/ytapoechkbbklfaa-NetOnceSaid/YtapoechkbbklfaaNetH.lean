import Derived.Test.YtapoechkbbklfaaNetG
import Derived.Test.YtapoechkbbklfaaNetF
namespace Go.Proofs.Ytapoechkbbklfaa
open Go.RowKit
set_option linter.unusedVariables false
set_option linter.unusedSimpArgs false
set_option maxRecDepth 20000 in
theorem x_end {w y z : World} {b2 base : Nat} {ok ok' : Nat → Prop} {room : Int} {xv v1 : Value} {l l' : List PKT.Ty} (hX : XR w b2 ok room xv l) (hok : OkX w b2 ok) (hb : Below w.heap.size w y) (ho : OwnG y base ok' 37 PKT v1 l') (hbase : w.heap.size < base) (hok' : ∀ k, ok' k → ok k ∧ k < w.heap.size)
    (hz : Turn (fun k => k = w.heap.size) (y.setCell ⟨b2, 1, none⟩ v1) z) (hl : l'.length ≤ 10000) : XTo w b2 ok room l' z := by
  have hlt := blk_lt hX.1
  have h1 := blk_set (blk_below hX.1 hb hlt) 1 v1
  have hT : Turn (fun k => k = b2 ∨ k = w.heap.size) y z := Turn.trans ((Turn.refl _ y).set (j := 1) (v := v1) (b := b2) (fun _ => .inl rfl)) hz (fun k _ e => .inr e)
  refine ⟨v1, ⟨hz.blk h1 (by omega), ?_, hl⟩, ?_⟩
  · refine own_rd_ok (OwnG.turn ho hT (fun k e => ?_) (fun k _ hk => ?_)) (fun k hk => hok.2 k (by omega)) (fun k hk => (hok' k hk).1)
    · obtain ⟨xs, h2, _⟩ := ho
      have := own_base h2 k e
      omega
    · have h3 := (hok' k hk).2
      have h4 := hok.1 k (hok' k hk).1
      omega
  · exact (Turn.of_below (p := fun k => k = b2) hb).trans hT (fun k hk e => by rcases e with e | e; exact e; omega)
def RTakePost (w : World) (b2 : Nat) (ok : Nat → Prop) (room : Int) (l : List PKT.Ty) : Option (PKT.Ty × List PKT.Ty) → Ending → World → Prop
  | none, e, w' => e = .returned (.tuple #[.agg #[Value.int .i64 0, Value.int .i64 0, Value.slice none 0 0], .bool false]) ∧ XTo w b2 ok room l w'
  | some (p, l'), e, w' => ∃ cs : List Value, e = .returned (.tuple #[.agg cs.toArray, .bool true]) ∧ Rd w' ok PKT p cs ∧ XTo w b2 ok room l' w'
set_option maxHeartbeats 4000000 in
set_option maxRecDepth 20000 in
theorem rtake_any (w : World) (b2 : Nat) (ok : Nat → Prop) (room : Int) (xv : Value) (l : List PKT.Ty) (i : Int) (hX : XR w b2 ok room xv l) (hOk : OkX w b2 ok) (hi : -9223372036854775808 ≤ i ∧ i < 9223372036854775808) :
    Calls Try.prog 15 #[.pointer (some ⟨b2, 0, none⟩), .int .i64 i] w (RTakePost w b2 ok room l (takeL l i)) := by
  have hb := below_alloc1 w (.cells #[Value.int .i64 0, Value.int .i64 0, Value.slice none 0 0] 37)
  have HB := Lib.hid hb
  have HP := Lib.hid (rplace_any (w.alloc (.cells #[Value.int .i64 0, Value.int .i64 0, Value.slice none 0 0] 37)) b2 ok room xv l i (hX.below hb) hi)
  have HN := Lib.hid hX
  have HOk := Lib.hid hOk
  have HX := Lib.hid (heap_alloc_new w (.cells #[Value.int .i64 0, Value.int .i64 0, Value.slice none 0 0] 37))
  by_cases h0 : l.length = 0
  · obtain rfl : l = [] := List.eq_nil_of_length_eq_zero h0
    have HP := Lib.hid (show Calls Try.prog 40 #[.pointer (some ⟨b2, 0, none⟩), .int .i64 i] (w.alloc (.cells #[Value.int .i64 0, Value.int .i64 0, Value.slice none 0 0] 37)) fun e w' => e = .returned (.int .i64 (-1)) ∧ w.alloc (.cells #[Value.int .i64 0, Value.int .i64 0, Value.slice none 0 0] 37) = w' from HP.out)
    rw [takeL_nil]
    clear hX h0
    go_enter Try.func15, Try.ntmps15
    go_wp2_with (first
      | (go_at_call 40; refine HP.out.mono ?_; rintro e w1 ⟨rfl, rfl⟩)
      | (refine wpL_store rfl 37 (.tmp 4) (.tmp 13) rfl w.heap.size rfl _ _ 37 rfl HX.out rfl rfl (by intro v hv; simp at hv; rcases hv with rfl | rfl | rfl <;> rfl) ?_; intro w6 hw6 hg6))
    refine bodyPost_ret (result_pair rfl _ _ w.heap.size 37 _ (0, 0) _ rfl hw6 Try.underlying37 rfl rfl) rfl ?_
    have hb6 := HB.out.grown hg6 (by simp) (fun k e => by injection e with e; omega)
    exact ⟨rfl, _, HN.out.below hb6, Turn.of_below hb6⟩
  · obtain ⟨k, hk, hpk⟩ := place_lt i h0
    rw [takeL_at hpk hk]
    rw [hpk] at HP
    obtain ⟨A2, cap2, rfl, hnc, hcm, hA0, hrows⟩ := hX.form
    obtain ⟨x0, hx0⟩ : ∃ x0, w.alloc (.cells #[Value.int .i64 0, Value.int .i64 0, Value.slice none 0 0] 37) = x0 := ⟨_, rfl⟩
    rw [hx0] at HB HP HX
    have hz0 : x0.heap.size = w.heap.size + 1 := by rw [← hx0]; simp
    have HN0 := Lib.hid (hX.below HB.out)
    obtain ⟨ad, rfl⟩ : ∃ ad, A2 = some ad := by
      cases A2 with
      | none => have := hA0 rfl; omega
      | some ad => exact ⟨ad, rfl⟩
    obtain ⟨xs, hr, hat⟩ := hrows.cells
    have hat := (hat ad rfl).2
    obtain ⟨cs, hcs, hrd⟩ := hr.get (List.getElem?_eq_getElem hk)
    have hrd0 := hrd
    obtain ⟨pt, pf, pd, pA, pc, hpe, rfl, okp, hpd⟩ := rd_pkt hrd
    rw [hpe] at hrd0 ⊢
    have HAt := Lib.hid (show At x0 (ad.add (k * 3)) 0 [.int .i64 pt, .int .i64 pf, .slice pA pd.length pc] from fun j v hv => by
      rw [Nat.zero_add, add_add]
      have := hat.below HB.out (k * 3 + j) v (hcs j v hv)
      rwa [Nat.zero_add] at this)
    have HRD := Lib.hid (hrd0.turn (ok' := fun k => ok k ∧ k < w.heap.size) (Turn.of_below (p := fun _ => False) HB.out) (fun k hlt h => ⟨id, h, hlt⟩))
    have HR := Lib.hid (And.intro (hr.turn (ok' := fun k => ok k ∧ k < w.heap.size) (Turn.of_below (p := fun _ => False) HB.out) (fun k hlt h => ⟨id, h, hlt⟩)) (hat.below HB.out))
    have HK := Lib.hid hk
    have h1 := HN0.out.1
    obtain ⟨q0, q1⟩ := blk2 h1
    have i0 : (0 : Int) ≤ (k : Int) := by omega
    have i1 : (k : Int) < (l.length : Int) := by omega
    have hlm : l.length ≤ 10000 := HN0.out.2.2
    clear hX hb hi hpk hA0 hr hat hcs hrd hrd0 okp hpd h1 q0 h0 hrows hOk
    go_enter Try.func15, Try.ntmps15
    go_wp2_with (first
      | (go_at_call 40; refine HP.out.mono ?_; rintro e w1 ⟨rfl, rfl⟩; clear hx0)
      | (refine wpL_load rfl 37 _ rfl _ rfl _ _ HAt.out Try.underlying37 rfl rfl ?_))
    have Hc := Lib.hid (show (x0.alloc (.cells #[Value.int .i64 pt, Value.int .i64 pf, Value.slice pA pd.length pc] 37)).heap[w.heap.size + 1]? = some (.cells #[Value.int .i64 pt, Value.int .i64 pf, Value.slice pA pd.length pc] 37 (0, 0)) by rw [← hz0]; exact heap_alloc_new x0 _)
    have HBw1 := Lib.hid (below_alloc1 x0 (.cells #[Value.int .i64 pt, Value.int .i64 pf, Value.slice pA pd.length pc] 37))
    refine region_inU 18 (fun W : World => W.cell? ⟨b2, 1, none⟩ = some (.slice (some ad) l.length cap2)) (by kernel_rfl) (fun y1 hy1 heq => ?_)
    have HBY := Lib.hid (HBw1.out.trans (hy1.mono HBw1.out.size))
    have HC1 := Lib.hid (blk_below Hc.out hy1 (blk_lt Hc.out))
    have hHeld := cell_below HBY.out q1
    clear hy1 heq q1
    first
      | (refine takeT (i := 0) (v := ?_) rfl (by kernel_rfl) (by kernel_rfl) (by kernel_rfl) (fun _ _ _ h => h) (by kernel_rfl) (Or.inl ⟨by rfl, ?_⟩) (fun _ => hHeld) ?_; rotate_left; (focus (intro W hSw; go_simp; (try rfl); done)); (try simp only [Act.put, List.setIfInBounds_toArray, List.set_cons_zero, List.set_cons_succ]))
      | (fail "UTAKE 0")
    first
      | (refine takeT (i := 1) (v := ?_) rfl (by kernel_rfl) (by kernel_rfl) (by kernel_rfl) (fun _ _ _ h => h) (by kernel_rfl) (Or.inl ⟨by rfl, ?_⟩) (fun _ => hHeld) ?_; rotate_left; (focus (intro W hSw; go_simp; (try rfl); done)); (try simp only [Act.put, List.setIfInBounds_toArray, List.set_cons_zero, List.set_cons_succ]))
      | (fail "UTAKE 1")
    first
      | (refine takeT (i := 2) (v := ?_) rfl (by kernel_rfl) (by kernel_rfl) (by kernel_rfl) (fun _ _ _ h => h) (by kernel_rfl) (Or.inl ⟨by rfl, ?_⟩) (fun _ => hHeld) ?_; rotate_left; (focus (intro W hSw; go_simp; (try rfl); done)); (try simp only [Act.put, List.setIfInBounds_toArray, List.set_cons_zero, List.set_cons_succ]))
      | (fail "UTAKE 2")
    first
      | (refine takeT (i := 3) (v := ?_) rfl (by kernel_rfl) (by kernel_rfl) (by kernel_rfl) (fun _ _ _ h => h) (by kernel_rfl) (Or.inl ⟨by rfl, ?_⟩) (fun _ => hHeld) ?_; rotate_left; (focus (intro W hSw; go_simp; (try rfl); done)); (try simp only [Act.put, List.setIfInBounds_toArray, List.set_cons_zero, List.set_cons_succ]))
      | (fail "UTAKE 3")
    first
      | (refine takeU (i := 4) (v := ?_) rfl (by kernel_rfl) (by kernel_rfl) (by kernel_rfl) (fun _ _ _ h => h) (by kernel_rfl) (by kernel_rfl) (by kernel_rfl) (Or.inl ⟨by rfl, ?_⟩) hHeld ?_; rotate_left; (focus (intro W hSw; (try dsimp only at hSw); go_simp; (try rfl); done)); (try simp only [Act.put, List.setIfInBounds_toArray, List.set_cons_zero, List.set_cons_succ]))
      | (fail "UTAKE 4")
    first
      | (refine takeT (i := 5) (v := ?_) rfl (by kernel_rfl) (by kernel_rfl) (by kernel_rfl) (fun _ _ _ h => h) (by kernel_rfl) (Or.inl ⟨by rfl, ?_⟩) (fun _ => hHeld) ?_; rotate_left; (focus (intro W hSw; go_simp; (try rfl); done)); (try simp only [Act.put, List.setIfInBounds_toArray, List.set_cons_zero, List.set_cons_succ]))
      | (fail "UTAKE 5")
    refine takeT (i := 6) (v := _) rfl (by kernel_rfl) (by kernel_rfl) (by kernel_rfl) (fun _ _ _ h => h) (by kernel_rfl) (yields_hi (by rfl) k (.tmp 25) (.tmp 26) rfl rfl rfl Try.underlying27 (by kernel_rfl : (Try.prog.info? 37).map (·.size) = some 3) (by omega)) (fun _ => hHeld) ?_
    (try simp only [Act.put, List.setIfInBounds_toArray, List.set_cons_zero, List.set_cons_succ])
    first
      | (refine takeT (i := 8) (v := ?_) rfl (by kernel_rfl) (by kernel_rfl) (by kernel_rfl) (fun _ _ _ h => h) (by kernel_rfl) (Or.inl ⟨by rfl, ?_⟩) (fun _ => hHeld) ?_; rotate_left; (focus (intro W hSw; go_simp; (try rfl); done)); (try simp only [Act.put, List.setIfInBounds_toArray, List.set_cons_zero, List.set_cons_succ]))
      | (fail "UTAKE 8")
    first
      | (refine takeT (i := 9) (v := ?_) rfl (by kernel_rfl) (by kernel_rfl) (by kernel_rfl) (fun _ _ _ h => h) (by kernel_rfl) (Or.inl ⟨by rfl, ?_⟩) (fun _ => hHeld) ?_; rotate_left; (focus (intro W hSw; go_simp; (try rfl); done)); (try simp only [Act.put, List.setIfInBounds_toArray, List.set_cons_zero, List.set_cons_succ]))
      | (fail "UTAKE 9")
    first
      | (refine takeT (i := 10) (v := ?_) rfl (by kernel_rfl) (by kernel_rfl) (by kernel_rfl) (fun _ _ _ h => h) (by kernel_rfl) (Or.inl ⟨by rfl, ?_⟩) (fun _ => hHeld) ?_; rotate_left; (focus (intro W hSw; go_simp; (try rfl); done)); (try simp only [Act.put, List.setIfInBounds_toArray, List.set_cons_zero, List.set_cons_succ]))
      | (fail "UTAKE 10")
    first
      | (refine takeU (i := 11) (v := ?_) rfl (by kernel_rfl) (by kernel_rfl) (by kernel_rfl) (fun _ _ _ h => h) (by kernel_rfl) (by kernel_rfl) (by kernel_rfl) (Or.inl ⟨by rfl, ?_⟩) hHeld ?_; rotate_left; (focus (intro W hSw; (try dsimp only at hSw); go_simp; (try rfl); done)); (try simp only [Act.put, List.setIfInBounds_toArray, List.set_cons_zero, List.set_cons_succ]))
      | (fail "UTAKE 11")
    first
      | (refine takeT (i := 12) (v := ?_) rfl (by kernel_rfl) (by kernel_rfl) (by kernel_rfl) (fun _ _ _ h => h) (by kernel_rfl) (Or.inl ⟨by rfl, ?_⟩) (fun _ => hHeld) ?_; rotate_left; (focus (intro W hSw; go_simp; (try rfl); done)); (try simp only [Act.put, List.setIfInBounds_toArray, List.set_cons_zero, List.set_cons_succ]))
      | (fail "UTAKE 12")
    first
      | (refine takeT (i := 13) (v := ?_) rfl (by kernel_rfl) (by kernel_rfl) (by kernel_rfl) (fun _ _ _ h => h) (by kernel_rfl) (Or.inl ⟨by rfl, ?_⟩) (fun _ => hHeld) ?_; rotate_left; (focus (intro W hSw; go_simp; (try rfl); done)); (try simp only [Act.put, List.setIfInBounds_toArray, List.set_cons_zero, List.set_cons_succ]))
      | (fail "UTAKE 13")
    have hk1 : IntKind.i64.wrap ((k : Int) + 1) = ((k + 1 : Nat) : Int) := by rw [IntKind.wrap_i64]; omega
    rw [hk1]
    clear hk1
    obtain ⟨B2, hB2⟩ : ∃ B2, (if cap2 = k + 1 then some ad else Option.map (fun x : Addr => x.add ((k + 1) * 3)) (some ad)) = B2 := ⟨_, rfl⟩
    refine takeT (i := 14) (v := _) rfl (by kernel_rfl) (by kernel_rfl) (by kernel_rfl) (fun _ _ _ h => h) (by kernel_rfl) (yields_fromB (by rfl) (k + 1) (.tmp 32) (.tmp 34) rfl rfl rfl Try.underlying27 (by kernel_rfl : (Try.prog.info? 37).map (·.size) = some 3) (by omega) hB2) (fun _ => hHeld) ?_
    (try simp only [Act.put, List.setIfInBounds_toArray, List.set_cons_zero, List.set_cons_succ])
    have HB2 := Lib.hid hB2
    clear hB2
    refine callU (i := 7) rfl (by kernel_rfl) (by kernel_rfl) (fun K hK => ?_)
    clear hHeld
    have hrd := HR.out.1.take_drop k (by omega)
    have hrd2 := HR.out.1.take_drop (k + 1) (by omega)
    refine wpo_appO (w0 := y1) (base := y1.heap.size) (ok := fun k => ok k ∧ k < w.heap.size) (m := k) (A := some ad) (l := []) (r := l.take k) (ys := xs.take (k * 3)) (.const (.slice none 0 0)) (.tmp 27) rfl ⟨[], own_nil _ _ _ _, rfl⟩ (by rw [List.length_take]; omega) (fun e => by cases e) (fun ad' e => by cases e; exact (HR.out.2.take _).below HBY.out) (hrd.1.turn (Turn.of_below (p := fun _ => False) HBY.out) (fun _ _ h => ⟨id, h, fun e => by cases e⟩)) (Below.refl _ _) Try.underlying27 info_pkt rfl (by decide) rfl rfl (by simp; omega) (by simp; omega) (Nat.le_refl _) ?_
    intro v5 y5 ho5 hb5 hg5 hv5
    rw [List.nil_append] at ho5
    have HBY5 := Lib.hid (HBY.out.trans (hb5.mono HBY.out.size))
    have HB15 := Lib.hid hb5
    have HF5 := Lib.hid (show (fun W : World => W.cell? ⟨b2, 1, none⟩ = some (.slice (some ad) l.length cap2)) y5 from (blk_at (HN0.out.below HBY5.out).1 1 _ rfl))
    have HO5 := Lib.hid ho5
    have HGE := Lib.hid (show ∀ j, v5.ownBlock = some j → y1.heap.size ≤ j from fun j e => by obtain ⟨zs, hz, _⟩ := ho5; exact own_base hz j e)
    clear ho5 hb5 hg5 hv5
    have hHeld := HF5.out
    refine hK.out (fun W : World => W.cell? ⟨b2, 1, none⟩ = some (.slice (some ad) l.length cap2)) _ _ (fun _ => hHeld) (fun _ h => h) ?_
    (try simp only [Act.put, List.setIfInBounds_toArray, List.set_cons_zero, List.set_cons_succ])
    refine callU (i := 15) rfl (by kernel_rfl) (by kernel_rfl) (fun K hK => ?_)
    clear hHeld
    refine wpo_appO (w0 := y1) (base := y1.heap.size) (ok := fun k => ok k ∧ k < w.heap.size) (m := l.length - (k + 1)) (A := B2) (l := l.take k) (r := l.drop (k + 1)) (ys := xs.drop ((k + 1) * 3)) (.tmp 28) (.tmp 35) rfl HO5.out (by rw [List.length_drop]) (fun e => by have e := HB2.out.trans e; split at e <;> cases e) (fun ad' e => (at_from HR.out.2 HR.out.1 hnc ad' (HB2.out.trans e)).below HBY5.out) (hrd2.2.turn (Turn.of_below (p := fun _ => False) HBY5.out) (fun j _ h => ⟨id, h, fun e => by have := HGE.out j e; have := HBY.out.size; have := h.2; omega⟩)) HB15.out Try.underlying27 info_pkt rfl (by decide) rfl rfl (by simp; omega) (by simp; omega) HB15.out.size ?_
    intro v6 y6 ho6 hb6 hg6 hv6
    have HBY6 := Lib.hid (HBY.out.trans (hb6.mono HBY.out.size))
    have HF6 := Lib.hid (show (fun W : World => W.cell? ⟨b2, 1, none⟩ = some (.slice (some ad) l.length cap2)) y6 from (blk_at (HN0.out.below HBY6.out).1 1 _ rfl))
    have HO6 := Lib.hid ho6
    have HC3 := Lib.hid (blk_below HC1.out hb6 (blk_lt HC1.out))
    have HX3 := Lib.hid (blk_below HX.out HBY6.out (blk_lt HX.out))
    obtain ⟨A3, c3, rfl, _⟩ := OwnG.rows ho6
    obtain ⟨m, hm⟩ : ∃ m, (l.take k ++ l.drop (k + 1)).length = m := ⟨_, rfl⟩
    rw [hm] at HO6 ⊢
    clear hm
    have k1 := HF6.out
    have f1 := blk_free (HN0.out.below HBY6.out).1 1
    have HV3 := Lib.hid (HRD.out.turn (ok' := fun k => ok k ∧ k < w.heap.size) (Turn.of_below (p := fun _ => False) HBY6.out) (fun _ _ h => ⟨id, h⟩))
    clear ho6 hb6 hg6 hv6 hrd hrd2
    have hHeld := HF6.out
    refine hK.out (fun W : World => W.cell? ⟨b2, 1, none⟩ = some (.slice (some ad) l.length cap2)) _ _ (fun _ => hHeld) (fun _ h => h) ?_
    (try simp only [Act.put, List.setIfInBounds_toArray, List.set_cons_zero, List.set_cons_succ])
    first
      | (refine takeT (i := 16) (v := ?_) rfl (by kernel_rfl) (by kernel_rfl) (by kernel_rfl) (fun _ _ _ h => h) (by kernel_rfl) (Or.inl ⟨by rfl, ?_⟩) (fun _ => hHeld) ?_; rotate_left; (focus (intro W hSw; go_simp; (try rfl); done)); (try simp only [Act.put, List.setIfInBounds_toArray, List.set_cons_zero, List.set_cons_succ]))
      | (fail "UTAKE 16")
    first
      | (refine takeT (i := 17) (v := ?_) rfl (by kernel_rfl) (by kernel_rfl) (by kernel_rfl) (fun _ _ _ h => h) (by kernel_rfl) (Or.inl ⟨by rfl, ?_⟩) (fun _ => hHeld) ?_; rotate_left; (focus (intro W hSw; go_simp; (try rfl); done)); (try simp only [Act.put, List.setIfInBounds_toArray, List.set_cons_zero, List.set_cons_succ]))
      | (fail "UTAKE 17")
    refine callU (i := 18) rfl (by kernel_rfl) (by kernel_rfl) (fun K hK => ?_)
    (try clear hHeld)
    go_simp
    refine hK.out _ _ _ (offU (by kernel_rfl)) (fun _ h => h) ?_
    (try simp only [Act.put, List.setIfInBounds_toArray, List.set_cons_zero, List.set_cons_succ])
    refine doneU (by kernel_rfl) ?_ _
    have hb1 : b2 < w.heap.size := blk_lt HN.out.1
    obtain ⟨y4, hy4⟩ : ∃ y4, y6.setCell ⟨b2, 1, none⟩ (.slice A3 m c3) = y4 := ⟨_, rfl⟩
    have HC4 := Lib.hid (show y4.heap[w.heap.size + 1]? = some (.cells #[Value.int .i64 pt, Value.int .i64 pf, Value.slice pA pd.length pc] 37 (0, 0)) by rw [← hy4]; exact blk_other HC3.out 1 _ (by omega))
    have HX4 := Lib.hid (show y4.heap[w.heap.size]? = some (.cells #[Value.int .i64 0, Value.int .i64 0, Value.slice none 0 0] 37 (0, 0)) by rw [← hy4]; exact blk_other HX3.out 1 _ (by omega))
    have HV4 := Lib.hid (show Rd y4 (fun k => ok k ∧ k < w.heap.size) PKT (pt, pf, pd, ()) [.int .i64 pt, .int .i64 pf, .slice pA pd.length pc] by rw [← hy4]; exact HV3.out.turn (p := fun k => k = b2) ((Turn.refl _ _).set (fun _ => rfl)) (fun k _ h => ⟨HOk.out.1 k h.1, h⟩))
    rw [hy4]
    have HY4 := Lib.hid hy4
    clear k1 f1 hy4
    go_wp2_with (first
      | (refine wpL_load rfl 37 (.tmp 7) rfl ⟨w.heap.size + 1, 0, none⟩ rfl _ _ (At.blk HC4.out) Try.underlying37 rfl rfl ?_)
      | (refine wpL_store rfl 37 (.tmp 4) (.tmp 39) rfl w.heap.size rfl _ _ 37 rfl HX4.out rfl rfl (by intro v hv; simp at hv; rcases hv with rfl | rfl | rfl <;> rfl) ?_; intro w6 hw6 hg6))
    refine bodyPost_ret (result_pair rfl _ _ w.heap.size 37 _ (0, 0) _ rfl hw6 Try.underlying37 rfl rfl) rfl ?_
    refine ⟨[.int .i64 pt, .int .i64 pf, .slice pA pd.length pc], rfl, HV4.out.turn (Turn.of_grown (p := fun k => k = w.heap.size) hg6 (fun k e => by injection e with e; exact e.symm)) (fun k _ h => ⟨by have := h.2; omega, h.1⟩), ?_⟩
    refine x_end HN.out HOk.out (HB.out.trans (HBY6.out.mono (by omega))) HO6.out (by have := HBY.out.size; omega) (fun k h => h) ?_ (by simp; omega)
    rw [HY4.out]
    exact Turn.of_grown hg6 (fun k e => by injection e with e; exact e.symm)
end Go.Proofs.Ytapoechkbbklfaa
