import Derived.Test.YtfjnpiahloncmaaGreatCga
import Derived.Test.YtfjnpiahloncmaaGreatHul
namespace Go.Proofs.YtfjnpiahloncmaaGreat
open Go.RowKit FP
set_option linter.unusedVariables false
set_option linter.unusedSimpArgs false
set_option maxRecDepth 20000 in
theorem own_lower {w : World} {base B : Nat} {ok : Nat → Prop} {e : TypeId} {s : Sh} {v : Value} {l : List s.Ty} (h : OwnG w base ok e s v l) (hB : B ≤ base) : OwnG w B ok e s v l := by
  obtain ⟨xs, ⟨h1, h2⟩, h3⟩ := h
  refine ⟨xs, ⟨h1, ?_⟩, h3⟩
  rcases h2 with h2 | ⟨g, cap, cur, rfl, hb, hr⟩
  · exact .inl h2
  · exact .inr ⟨g, cap, cur, rfl, Nat.le_trans hB hb, hr⟩
set_option maxRecDepth 20000 in
theorem size_lst : (Tryz.prog.info? 42).map (·.size) = some 2 := by kernel_rfl
set_option maxRecDepth 20000 in
theorem size_task : (Tryz.prog.info? 37).map (·.size) = some 7 := by kernel_rfl
def WithP {α : Type} (key : α → Int) (l : List α) (x : α) (r : List α) : Prop := (r = l ∧ ∃ y ∈ l, key y = key x) ∨ ((¬ ∃ y ∈ l, key y = key x) ∧ ∀ z, z ∈ r ↔ z ∈ l ∨ z = x)
set_option maxRecDepth 20000 in
theorem WithP.firsts {α : Type} {key : α → Int} {l X : List α} {x : α} {r : List α} (h : WithP key l x r) (hf : Firsts key X l) : Firsts key (X ++ [x]) r := by
  rcases h with ⟨rfl, h⟩ | ⟨h1, h2⟩
  · exact hf.old h
  · exact hf.new h1 h2
def WithQ (w w' : World) (base : Nat) (e : TypeId) (S : Sh) (key : S.Ty → Int) (l : List S.Ty) (x : S.Ty) (v' : Value) (r : List S.Ty) : Prop := Own w' base e S v' r ∧ r.length ≤ l.length + 1 ∧ Rises key r ∧ WithP key l x r ∧ Below w.heap.size w w'
set_option maxHeartbeats 4000000 in
set_option maxRecDepth 20000 in
theorem withl_any (w : World) (base : Nat) (v : Value) (l : List LIST.Ty) (x : LIST.Ty) (i1 : Int) (t1 : ByteArray) (cx : List Value) (hxk : x.1 = i1) (hcx : cx = .int .u64 i1 :: [.string t1]) (hl : l.length ≤ 100000) (hO : Own w base 42 LIST v l) (hB : base ≤ w.heap.size) (hX : Rd w (fun k => base ≤ k) LIST x cx) (hr : Rises (fun y : LIST.Ty => y.1) l) :
    Calls Tryz.prog 28 #[v, .agg cx.toArray] w fun e w' => ∃ v' r, e = .returned v' ∧ WithQ w w' base 42 LIST (fun y => y.1) l x v' r := by
  subst hcx
  obtain ⟨A, c, rfl, hnc, hcm, hAc, hR⟩ := Own.form hO
  obtain ⟨n, hn⟩ : ∃ n, l.length = n := ⟨_, rfl⟩
  rw [hn] at hnc hR hl hO ⊢
  have h0 := heap_alloc_new w (.cells ([Value.int .u64 i1, .string t1]).toArray 42)
  have hb0 := below_alloc1 w (.cells ([Value.int .u64 i1, .string t1]).toArray 42)
  obtain ⟨W, hW⟩ : ∃ W, w.alloc (.cells ([Value.int .u64 i1, .string t1]).toArray 42) = W := ⟨_, rfl⟩
  rw [hW] at h0 hb0
  have HR := Lib.hid (hR.below hb0)
  have HX := Lib.hid (hX.below hb0)
  have H0 := Lib.hid h0
  have HB := Lib.hid hb0
  have HS := Lib.hid hr
  have HOw := Lib.hid (hO.below hb0)
  have x0 : W.cell? ⟨w.heap.size, 0, none⟩ = some (.int .u64 i1) := blk_at h0 0 _ rfl
  have hBW : base ≤ W.heap.size := Nat.le_trans hB hb0.size
  clear hR hX h0 hb0 hO hr hcm hAc
  go_enter Tryz.func28, Tryz.ntmps28
  go_wp2_with fail
  clear hW
  go_loopw [5] (fun s5 wr => ∃ k : Nat, k ≤ n ∧ s5 = .int .i64 k ∧ (∀ y ∈ l.take k, y.1 < x.1) ∧ Below W.heap.size W wr) (fun s5 _ => n - (intOf s5).toNat)
  case atStart => exact ⟨0, by omega, rfl, (fun y hy => by simp at hy), Below.refl _ _⟩
  case round =>
    obtain ⟨k, hk, rfl, hgt, hbr⟩ := hrel
    have HBr := Lib.hid hbr
    have x1 := cell_below hbr x0
    have HGT := Lib.hid hgt
    have hkc : k ≤ c := by omega
    have hBWr : base ≤ wr.heap.size := Nat.le_trans hBW hbr.size
    clear hgt hbr
    by_cases hkn : k < n
    · obtain ⟨ad, y, cs, rfl, hy, hat, hrd⟩ := HR.out.get k hkn
      obtain ⟨k1, tt1, rfl, rfl, okk⟩ := rd_lst hrd
      have hcy : W.cell? (ad.add (k * 2)) = some (.int .u64 k1) := hat 0 _ rfl
      have hcy := cell_below HBr.out hcy
      have k0 : (0 : Int) ≤ (k : Int) := by omega
      have k2 : (k : Int) < (n : Int) := by omega
      have HYk := Lib.hid hy
      clear hat hrd okk hy
      go_wp2_with fail
      refine region_in (by kernel_rfl) (fun w1 hw1 => ?_)
      have HBr2 := Lib.hid (HBr.out.trans (hw1.mono HBr.out.size))
      have C1 : ∀ W, Below w1.heap.size w1 W → W.cell? (ad.add (k * 2)) = some (.int .u64 k1) := fun W hW => cell_below hW (cell_below hw1 hcy)
      have C0 : ∀ W, Below w1.heap.size w1 W → W.cell? ⟨w.heap.size, 0, none⟩ = some (.int .u64 i1) := fun W hW => cell_below hW (cell_below hw1 x1)
      clear hw1
      first
        | (refine take_in (i := 0) (v := ?_) rfl (by kernel_rfl) (by kernel_rfl) (by kernel_rfl) (fun _ _ _ h => h) (Or.inl ⟨by rfl, ?_⟩) (Below.refl _ _) ?_; rotate_left; (focus (intro W hSw; go_simp; (try rfl); done)); (try simp only [Act.put, List.setIfInBounds_toArray, List.set_cons_zero, List.set_cons_succ]))
        | (refine take_in (i := 0) (v := undef) rfl (by kernel_rfl) (by kernel_rfl) (by kernel_rfl) (fun _ _ _ h => h) (Or.inr ⟨by rfl, rfl⟩) (Below.refl _ _) ?_; (try simp only [Act.put, List.setIfInBounds_toArray, List.set_cons_zero, List.set_cons_succ]))
        | (fail "HTAKE 0")
      first
        | (refine take_in (i := 1) (v := ?_) rfl (by kernel_rfl) (by kernel_rfl) (by kernel_rfl) (fun _ _ _ h => h) (Or.inl ⟨by rfl, ?_⟩) (Below.refl _ _) ?_; rotate_left; (focus (intro W hSw; go_simp; (try rfl); done)); (try simp only [Act.put, List.setIfInBounds_toArray, List.set_cons_zero, List.set_cons_succ]))
        | (refine take_in (i := 1) (v := undef) rfl (by kernel_rfl) (by kernel_rfl) (by kernel_rfl) (fun _ _ _ h => h) (Or.inr ⟨by rfl, rfl⟩) (Below.refl _ _) ?_; (try simp only [Act.put, List.setIfInBounds_toArray, List.set_cons_zero, List.set_cons_succ]))
        | (fail "HTAKE 1")
      first
        | (refine take_in (i := 2) (v := ?_) rfl (by kernel_rfl) (by kernel_rfl) (by kernel_rfl) (fun _ _ _ h => h) (Or.inl ⟨by rfl, ?_⟩) (Below.refl _ _) ?_; rotate_left; (focus (intro W hSw; go_simp; (try rfl); done)); (try simp only [Act.put, List.setIfInBounds_toArray, List.set_cons_zero, List.set_cons_succ]))
        | (refine take_in (i := 2) (v := undef) rfl (by kernel_rfl) (by kernel_rfl) (by kernel_rfl) (fun _ _ _ h => h) (Or.inr ⟨by rfl, rfl⟩) (Below.refl _ _) ?_; (try simp only [Act.put, List.setIfInBounds_toArray, List.set_cons_zero, List.set_cons_succ]))
        | (fail "HTAKE 2")
      first
        | (refine take_in (i := 3) (v := ?_) rfl (by kernel_rfl) (by kernel_rfl) (by kernel_rfl) (fun _ _ _ h => h) (Or.inl ⟨by rfl, ?_⟩) (Below.refl _ _) ?_; rotate_left; (focus (intro W hSw; go_simp; (try rfl); done)); (try simp only [Act.put, List.setIfInBounds_toArray, List.set_cons_zero, List.set_cons_succ]))
        | (refine take_in (i := 3) (v := undef) rfl (by kernel_rfl) (by kernel_rfl) (by kernel_rfl) (fun _ _ _ h => h) (Or.inr ⟨by rfl, rfl⟩) (Below.refl _ _) ?_; (try simp only [Act.put, List.setIfInBounds_toArray, List.set_cons_zero, List.set_cons_succ]))
        | (fail "HTAKE 3")
      first
        | (refine take_in (i := 4) (v := ?_) rfl (by kernel_rfl) (by kernel_rfl) (by kernel_rfl) (fun _ _ _ h => h) (Or.inl ⟨by rfl, ?_⟩) (Below.refl _ _) ?_; rotate_left; (focus (intro W hSw; go_simp; (try rfl); done)); (try simp only [Act.put, List.setIfInBounds_toArray, List.set_cons_zero, List.set_cons_succ]))
        | (refine take_in (i := 4) (v := undef) rfl (by kernel_rfl) (by kernel_rfl) (by kernel_rfl) (fun _ _ _ h => h) (Or.inr ⟨by rfl, rfl⟩) (Below.refl _ _) ?_; (try simp only [Act.put, List.setIfInBounds_toArray, List.set_cons_zero, List.set_cons_succ]))
        | (fail "HTAKE 4")
      first
        | (refine take_in (i := 5) (v := ?_) rfl (by kernel_rfl) (by kernel_rfl) (by kernel_rfl) (fun _ _ _ h => h) (Or.inl ⟨by rfl, ?_⟩) (Below.refl _ _) ?_; rotate_left; (focus (intro W hSw; go_simp; (try rfl); done)); (try simp only [Act.put, List.setIfInBounds_toArray, List.set_cons_zero, List.set_cons_succ]))
        | (refine take_in (i := 5) (v := undef) rfl (by kernel_rfl) (by kernel_rfl) (by kernel_rfl) (fun _ _ _ h => h) (Or.inr ⟨by rfl, rfl⟩) (Below.refl _ _) ?_; (try simp only [Act.put, List.setIfInBounds_toArray, List.set_cons_zero, List.set_cons_succ]))
        | (fail "HTAKE 5")
      first
        | (refine take_in (i := 6) (v := ?_) rfl (by kernel_rfl) (by kernel_rfl) (by kernel_rfl) (fun _ _ _ h => h) (Or.inl ⟨by rfl, ?_⟩) (Below.refl _ _) ?_; rotate_left; (focus (intro W hSw; go_simp; (try rfl); done)); (try simp only [Act.put, List.setIfInBounds_toArray, List.set_cons_zero, List.set_cons_succ]))
        | (refine take_in (i := 6) (v := undef) rfl (by kernel_rfl) (by kernel_rfl) (by kernel_rfl) (fun _ _ _ h => h) (Or.inr ⟨by rfl, rfl⟩) (Below.refl _ _) ?_; (try simp only [Act.put, List.setIfInBounds_toArray, List.set_cons_zero, List.set_cons_succ]))
        | (fail "HTAKE 6")
      first
        | (refine take_in (i := 7) (v := ?_) rfl (by kernel_rfl) (by kernel_rfl) (by kernel_rfl) (fun _ _ _ h => h) (Or.inl ⟨by rfl, ?_⟩) (Below.refl _ _) ?_; rotate_left; (focus (intro W hSw; go_simp; (try rfl); done)); (try simp only [Act.put, List.setIfInBounds_toArray, List.set_cons_zero, List.set_cons_succ]))
        | (refine take_in (i := 7) (v := undef) rfl (by kernel_rfl) (by kernel_rfl) (by kernel_rfl) (fun _ _ _ h => h) (Or.inr ⟨by rfl, rfl⟩) (Below.refl _ _) ?_; (try simp only [Act.put, List.setIfInBounds_toArray, List.set_cons_zero, List.set_cons_succ]))
        | (fail "HTAKE 7")
      first
        | (refine take_in (i := 8) (v := ?_) rfl (by kernel_rfl) (by kernel_rfl) (by kernel_rfl) (fun _ _ _ h => h) (Or.inl ⟨by rfl, ?_⟩) (Below.refl _ _) ?_; rotate_left; (focus (intro W hSw; go_simp; (try rfl); done)); (try simp only [Act.put, List.setIfInBounds_toArray, List.set_cons_zero, List.set_cons_succ]))
        | (refine take_in (i := 8) (v := undef) rfl (by kernel_rfl) (by kernel_rfl) (by kernel_rfl) (fun _ _ _ h => h) (Or.inr ⟨by rfl, rfl⟩) (Below.refl _ _) ?_; (try simp only [Act.put, List.setIfInBounds_toArray, List.set_cons_zero, List.set_cons_succ]))
        | (fail "HTAKE 8")
      first
        | (refine take_in (i := 9) (v := ?_) rfl (by kernel_rfl) (by kernel_rfl) (by kernel_rfl) (fun _ _ _ h => h) (Or.inl ⟨by rfl, ?_⟩) (Below.refl _ _) ?_; rotate_left; (focus (intro W hSw; have C1 := C1 W hSw; go_simp; (try rfl); done)); (try simp only [Act.put, List.setIfInBounds_toArray, List.set_cons_zero, List.set_cons_succ]))
        | (refine take_in (i := 9) (v := undef) rfl (by kernel_rfl) (by kernel_rfl) (by kernel_rfl) (fun _ _ _ h => h) (Or.inr ⟨by rfl, rfl⟩) (Below.refl _ _) ?_; (try simp only [Act.put, List.setIfInBounds_toArray, List.set_cons_zero, List.set_cons_succ]))
        | (fail "HTAKE 9")
      first
        | (refine take_in (i := 10) (v := ?_) rfl (by kernel_rfl) (by kernel_rfl) (by kernel_rfl) (fun _ _ _ h => h) (Or.inl ⟨by rfl, ?_⟩) (Below.refl _ _) ?_; rotate_left; (focus (intro W hSw; go_simp; (try rfl); done)); (try simp only [Act.put, List.setIfInBounds_toArray, List.set_cons_zero, List.set_cons_succ]))
        | (refine take_in (i := 10) (v := undef) rfl (by kernel_rfl) (by kernel_rfl) (by kernel_rfl) (fun _ _ _ h => h) (Or.inr ⟨by rfl, rfl⟩) (Below.refl _ _) ?_; (try simp only [Act.put, List.setIfInBounds_toArray, List.set_cons_zero, List.set_cons_succ]))
        | (fail "HTAKE 10")
      first
        | (refine take_in (i := 11) (v := ?_) rfl (by kernel_rfl) (by kernel_rfl) (by kernel_rfl) (fun _ _ _ h => h) (Or.inl ⟨by rfl, ?_⟩) (Below.refl _ _) ?_; rotate_left; (focus (intro W hSw; have C0 := C0 W hSw; go_simp; (try rfl); done)); (try simp only [Act.put, List.setIfInBounds_toArray, List.set_cons_zero, List.set_cons_succ]))
        | (refine take_in (i := 11) (v := undef) rfl (by kernel_rfl) (by kernel_rfl) (by kernel_rfl) (fun _ _ _ h => h) (Or.inr ⟨by rfl, rfl⟩) (Below.refl _ _) ?_; (try simp only [Act.put, List.setIfInBounds_toArray, List.set_cons_zero, List.set_cons_succ]))
        | (fail "HTAKE 11")
      first
        | (refine take_in (i := 12) (v := ?_) rfl (by kernel_rfl) (by kernel_rfl) (by kernel_rfl) (fun _ _ _ h => h) (Or.inl ⟨by rfl, ?_⟩) (Below.refl _ _) ?_; rotate_left; (focus (intro W hSw; go_simp; (try rfl); done)); (try simp only [Act.put, List.setIfInBounds_toArray, List.set_cons_zero, List.set_cons_succ]))
        | (refine take_in (i := 12) (v := undef) rfl (by kernel_rfl) (by kernel_rfl) (by kernel_rfl) (fun _ _ _ h => h) (Or.inr ⟨by rfl, rfl⟩) (Below.refl _ _) ?_; (try simp only [Act.put, List.setIfInBounds_toArray, List.set_cons_zero, List.set_cons_succ]))
        | (fail "HTAKE 12")
      first
        | (refine take_in (i := 13) (v := ?_) rfl (by kernel_rfl) (by kernel_rfl) (by kernel_rfl) (fun _ _ _ h => h) (Or.inl ⟨by rfl, ?_⟩) (Below.refl _ _) ?_; rotate_left; (focus (intro W hSw; go_simp; (try rfl); done)); (try simp only [Act.put, List.setIfInBounds_toArray, List.set_cons_zero, List.set_cons_succ]))
        | (refine take_in (i := 13) (v := undef) rfl (by kernel_rfl) (by kernel_rfl) (by kernel_rfl) (fun _ _ _ h => h) (Or.inr ⟨by rfl, rfl⟩) (Below.refl _ _) ?_; (try simp only [Act.put, List.setIfInBounds_toArray, List.set_cons_zero, List.set_cons_succ]))
        | (fail "HTAKE 13")
      refine wpAnyH_done (by kernel_rfl) ?_ _
      by_cases hlt : k1 < i1
      · have HGT2 := Lib.hid (take_keys (key := fun y : LIST.Ty => y.1) (x := x) HGT.out HYk.out (by show k1 < x.1; rw [hxk]; exact hlt))
        clear C1 C0
        go_wp2_with fail
        go_roundw
        case measure => simp [intOf]; omega
        case rel => exact ⟨k + 1, by omega, by go_num, HGT2.out, HBr2.out⟩
      · have c1' := C1 w1 (Below.refl _ _)
        have c0' := C0 w1 (Below.refl _ _)
        clear C1 C0
        go_wp2_with fail
        refine region_in (by kernel_rfl) (fun w2 hw1 => ?_)
        have HBr3 := Lib.hid (HBr2.out.trans (hw1.mono HBr2.out.size))
        have C1 : ∀ W, Below w2.heap.size w2 W → W.cell? (ad.add (k * 2)) = some (.int .u64 k1) := fun W hW => cell_below hW (cell_below hw1 c1')
        have C0 : ∀ W, Below w2.heap.size w2 W → W.cell? ⟨w.heap.size, 0, none⟩ = some (.int .u64 i1) := fun W hW => cell_below hW (cell_below hw1 c0')
        clear hw1
        first
          | (refine take_in (i := 0) (v := ?_) rfl (by kernel_rfl) (by kernel_rfl) (by kernel_rfl) (fun _ _ _ h => h) (Or.inl ⟨by rfl, ?_⟩) (Below.refl _ _) ?_; rotate_left; (focus (intro W hSw; go_simp; (try rfl); done)); (try simp only [Act.put, List.setIfInBounds_toArray, List.set_cons_zero, List.set_cons_succ]))
          | (refine take_in (i := 0) (v := undef) rfl (by kernel_rfl) (by kernel_rfl) (by kernel_rfl) (fun _ _ _ h => h) (Or.inr ⟨by rfl, rfl⟩) (Below.refl _ _) ?_; (try simp only [Act.put, List.setIfInBounds_toArray, List.set_cons_zero, List.set_cons_succ]))
          | (fail "HTAKE 0")
        first
          | (refine take_in (i := 1) (v := ?_) rfl (by kernel_rfl) (by kernel_rfl) (by kernel_rfl) (fun _ _ _ h => h) (Or.inl ⟨by rfl, ?_⟩) (Below.refl _ _) ?_; rotate_left; (focus (intro W hSw; go_simp; (try rfl); done)); (try simp only [Act.put, List.setIfInBounds_toArray, List.set_cons_zero, List.set_cons_succ]))
          | (refine take_in (i := 1) (v := undef) rfl (by kernel_rfl) (by kernel_rfl) (by kernel_rfl) (fun _ _ _ h => h) (Or.inr ⟨by rfl, rfl⟩) (Below.refl _ _) ?_; (try simp only [Act.put, List.setIfInBounds_toArray, List.set_cons_zero, List.set_cons_succ]))
          | (fail "HTAKE 1")
        first
          | (refine take_in (i := 2) (v := ?_) rfl (by kernel_rfl) (by kernel_rfl) (by kernel_rfl) (fun _ _ _ h => h) (Or.inl ⟨by rfl, ?_⟩) (Below.refl _ _) ?_; rotate_left; (focus (intro W hSw; go_simp; (try rfl); done)); (try simp only [Act.put, List.setIfInBounds_toArray, List.set_cons_zero, List.set_cons_succ]))
          | (refine take_in (i := 2) (v := undef) rfl (by kernel_rfl) (by kernel_rfl) (by kernel_rfl) (fun _ _ _ h => h) (Or.inr ⟨by rfl, rfl⟩) (Below.refl _ _) ?_; (try simp only [Act.put, List.setIfInBounds_toArray, List.set_cons_zero, List.set_cons_succ]))
          | (fail "HTAKE 2")
        first
          | (refine take_in (i := 3) (v := ?_) rfl (by kernel_rfl) (by kernel_rfl) (by kernel_rfl) (fun _ _ _ h => h) (Or.inl ⟨by rfl, ?_⟩) (Below.refl _ _) ?_; rotate_left; (focus (intro W hSw; go_simp; (try rfl); done)); (try simp only [Act.put, List.setIfInBounds_toArray, List.set_cons_zero, List.set_cons_succ]))
          | (refine take_in (i := 3) (v := undef) rfl (by kernel_rfl) (by kernel_rfl) (by kernel_rfl) (fun _ _ _ h => h) (Or.inr ⟨by rfl, rfl⟩) (Below.refl _ _) ?_; (try simp only [Act.put, List.setIfInBounds_toArray, List.set_cons_zero, List.set_cons_succ]))
          | (fail "HTAKE 3")
        first
          | (refine take_in (i := 4) (v := ?_) rfl (by kernel_rfl) (by kernel_rfl) (by kernel_rfl) (fun _ _ _ h => h) (Or.inl ⟨by rfl, ?_⟩) (Below.refl _ _) ?_; rotate_left; (focus (intro W hSw; go_simp; (try rfl); done)); (try simp only [Act.put, List.setIfInBounds_toArray, List.set_cons_zero, List.set_cons_succ]))
          | (refine take_in (i := 4) (v := undef) rfl (by kernel_rfl) (by kernel_rfl) (by kernel_rfl) (fun _ _ _ h => h) (Or.inr ⟨by rfl, rfl⟩) (Below.refl _ _) ?_; (try simp only [Act.put, List.setIfInBounds_toArray, List.set_cons_zero, List.set_cons_succ]))
          | (fail "HTAKE 4")
        first
          | (refine take_in (i := 5) (v := ?_) rfl (by kernel_rfl) (by kernel_rfl) (by kernel_rfl) (fun _ _ _ h => h) (Or.inl ⟨by rfl, ?_⟩) (Below.refl _ _) ?_; rotate_left; (focus (intro W hSw; go_simp; (try rfl); done)); (try simp only [Act.put, List.setIfInBounds_toArray, List.set_cons_zero, List.set_cons_succ]))
          | (refine take_in (i := 5) (v := undef) rfl (by kernel_rfl) (by kernel_rfl) (by kernel_rfl) (fun _ _ _ h => h) (Or.inr ⟨by rfl, rfl⟩) (Below.refl _ _) ?_; (try simp only [Act.put, List.setIfInBounds_toArray, List.set_cons_zero, List.set_cons_succ]))
          | (fail "HTAKE 5")
        first
          | (refine take_in (i := 6) (v := ?_) rfl (by kernel_rfl) (by kernel_rfl) (by kernel_rfl) (fun _ _ _ h => h) (Or.inl ⟨by rfl, ?_⟩) (Below.refl _ _) ?_; rotate_left; (focus (intro W hSw; go_simp; (try rfl); done)); (try simp only [Act.put, List.setIfInBounds_toArray, List.set_cons_zero, List.set_cons_succ]))
          | (refine take_in (i := 6) (v := undef) rfl (by kernel_rfl) (by kernel_rfl) (by kernel_rfl) (fun _ _ _ h => h) (Or.inr ⟨by rfl, rfl⟩) (Below.refl _ _) ?_; (try simp only [Act.put, List.setIfInBounds_toArray, List.set_cons_zero, List.set_cons_succ]))
          | (fail "HTAKE 6")
        first
          | (refine take_in (i := 7) (v := ?_) rfl (by kernel_rfl) (by kernel_rfl) (by kernel_rfl) (fun _ _ _ h => h) (Or.inl ⟨by rfl, ?_⟩) (Below.refl _ _) ?_; rotate_left; (focus (intro W hSw; go_simp; (try rfl); done)); (try simp only [Act.put, List.setIfInBounds_toArray, List.set_cons_zero, List.set_cons_succ]))
          | (refine take_in (i := 7) (v := undef) rfl (by kernel_rfl) (by kernel_rfl) (by kernel_rfl) (fun _ _ _ h => h) (Or.inr ⟨by rfl, rfl⟩) (Below.refl _ _) ?_; (try simp only [Act.put, List.setIfInBounds_toArray, List.set_cons_zero, List.set_cons_succ]))
          | (fail "HTAKE 7")
        first
          | (refine take_in (i := 8) (v := ?_) rfl (by kernel_rfl) (by kernel_rfl) (by kernel_rfl) (fun _ _ _ h => h) (Or.inl ⟨by rfl, ?_⟩) (Below.refl _ _) ?_; rotate_left; (focus (intro W hSw; go_simp; (try rfl); done)); (try simp only [Act.put, List.setIfInBounds_toArray, List.set_cons_zero, List.set_cons_succ]))
          | (refine take_in (i := 8) (v := undef) rfl (by kernel_rfl) (by kernel_rfl) (by kernel_rfl) (fun _ _ _ h => h) (Or.inr ⟨by rfl, rfl⟩) (Below.refl _ _) ?_; (try simp only [Act.put, List.setIfInBounds_toArray, List.set_cons_zero, List.set_cons_succ]))
          | (fail "HTAKE 8")
        first
          | (refine take_in (i := 9) (v := ?_) rfl (by kernel_rfl) (by kernel_rfl) (by kernel_rfl) (fun _ _ _ h => h) (Or.inl ⟨by rfl, ?_⟩) (Below.refl _ _) ?_; rotate_left; (focus (intro W hSw; have C1 := C1 W hSw; go_simp; (try rfl); done)); (try simp only [Act.put, List.setIfInBounds_toArray, List.set_cons_zero, List.set_cons_succ]))
          | (refine take_in (i := 9) (v := undef) rfl (by kernel_rfl) (by kernel_rfl) (by kernel_rfl) (fun _ _ _ h => h) (Or.inr ⟨by rfl, rfl⟩) (Below.refl _ _) ?_; (try simp only [Act.put, List.setIfInBounds_toArray, List.set_cons_zero, List.set_cons_succ]))
          | (fail "HTAKE 9")
        first
          | (refine take_in (i := 10) (v := ?_) rfl (by kernel_rfl) (by kernel_rfl) (by kernel_rfl) (fun _ _ _ h => h) (Or.inl ⟨by rfl, ?_⟩) (Below.refl _ _) ?_; rotate_left; (focus (intro W hSw; go_simp; (try rfl); done)); (try simp only [Act.put, List.setIfInBounds_toArray, List.set_cons_zero, List.set_cons_succ]))
          | (refine take_in (i := 10) (v := undef) rfl (by kernel_rfl) (by kernel_rfl) (by kernel_rfl) (fun _ _ _ h => h) (Or.inr ⟨by rfl, rfl⟩) (Below.refl _ _) ?_; (try simp only [Act.put, List.setIfInBounds_toArray, List.set_cons_zero, List.set_cons_succ]))
          | (fail "HTAKE 10")
        first
          | (refine take_in (i := 11) (v := ?_) rfl (by kernel_rfl) (by kernel_rfl) (by kernel_rfl) (fun _ _ _ h => h) (Or.inl ⟨by rfl, ?_⟩) (Below.refl _ _) ?_; rotate_left; (focus (intro W hSw; have C0 := C0 W hSw; go_simp; (try rfl); done)); (try simp only [Act.put, List.setIfInBounds_toArray, List.set_cons_zero, List.set_cons_succ]))
          | (refine take_in (i := 11) (v := undef) rfl (by kernel_rfl) (by kernel_rfl) (by kernel_rfl) (fun _ _ _ h => h) (Or.inr ⟨by rfl, rfl⟩) (Below.refl _ _) ?_; (try simp only [Act.put, List.setIfInBounds_toArray, List.set_cons_zero, List.set_cons_succ]))
          | (fail "HTAKE 11")
        first
          | (refine take_in (i := 12) (v := ?_) rfl (by kernel_rfl) (by kernel_rfl) (by kernel_rfl) (fun _ _ _ h => h) (Or.inl ⟨by rfl, ?_⟩) (Below.refl _ _) ?_; rotate_left; (focus (intro W hSw; go_simp; (try rfl); done)); (try simp only [Act.put, List.setIfInBounds_toArray, List.set_cons_zero, List.set_cons_succ]))
          | (refine take_in (i := 12) (v := undef) rfl (by kernel_rfl) (by kernel_rfl) (by kernel_rfl) (fun _ _ _ h => h) (Or.inr ⟨by rfl, rfl⟩) (Below.refl _ _) ?_; (try simp only [Act.put, List.setIfInBounds_toArray, List.set_cons_zero, List.set_cons_succ]))
          | (fail "HTAKE 12")
        first
          | (refine take_in (i := 13) (v := ?_) rfl (by kernel_rfl) (by kernel_rfl) (by kernel_rfl) (fun _ _ _ h => h) (Or.inl ⟨by rfl, ?_⟩) (Below.refl _ _) ?_; rotate_left; (focus (intro W hSw; go_simp; (try rfl); done)); (try simp only [Act.put, List.setIfInBounds_toArray, List.set_cons_zero, List.set_cons_succ]))
          | (refine take_in (i := 13) (v := undef) rfl (by kernel_rfl) (by kernel_rfl) (by kernel_rfl) (fun _ _ _ h => h) (Or.inr ⟨by rfl, rfl⟩) (Below.refl _ _) ?_; (try simp only [Act.put, List.setIfInBounds_toArray, List.set_cons_zero, List.set_cons_succ]))
          | (fail "HTAKE 13")
        refine wpAnyH_done (by kernel_rfl) ?_ _
        by_cases heq : k1 = i1
        · subst heq
          have HE := Lib.hid (show ∃ z ∈ l, z.1 = x.1 from ⟨_, List.mem_of_getElem? HYk.out, hxk.symm⟩)
          clear C1 C0
          go_wp2_with fail
          go_ret
          exact ⟨_, l, rfl, HOw.out.below HBr3.out, by omega, HS.out, .inl ⟨rfl, HE.out⟩, HB.out.trans (HBr3.out.mono HB.out.size)⟩
        · have heqb : (k1 == i1) = false := beq_false_of_ne heq
          have HD := Lib.hid (rises_drop (key := fun y : LIST.Ty => y.1) (x := x) HS.out HYk.out (by show x.1 < k1; rw [hxk]; exact (by omega : i1 < k1)))
          clear C1 C0 heq
          go_wp2_with fail
          have HR3 := Lib.hid (HR.out.below HBr3.out)
          have HX3 := Lib.hid (HX.out.below HBr3.out)
          have H03 := Lib.hid (blk_below H0.out HBr3.out (blk_lt H0.out))
          have HB3 := Lib.hid (HB.out.trans (HBr3.out.mono HB.out.size))
          have hBW3 : base ≤ w2.heap.size := Nat.le_trans hBW HBr3.out.size
          obtain ⟨B8, hB8⟩ : ∃ B8 : Option Addr, (if c = k then (some ad) else Option.map (fun x : Addr => x.add (k * 2)) (some ad)) = B8 := ⟨_, rfl⟩
          refine region_in (by kernel_rfl) (fun w1 hw1 => ?_)
          have HR1 := Lib.hid (HR3.out.below hw1)
          have HB1 := Lib.hid (HB3.out.trans (hw1.mono HB3.out.size))
          have HX1 := Lib.hid (HX3.out.below hw1)
          have H01 := Lib.hid (At.blk (blk_below H03.out hw1 (blk_lt H03.out)))
          have hBW1 : base ≤ w1.heap.size := Nat.le_trans hBW3 hw1.size
          clear HR3 HB3
          first
            | (refine take_in (i := 0) (v := ?_) rfl (by kernel_rfl) (by kernel_rfl) (by kernel_rfl) (fun _ _ _ h => h) (Or.inl ⟨by rfl, ?_⟩) (Below.refl _ _) ?_; rotate_left; (focus (intro W hSw; go_simp; (try rfl); done)); (try simp only [Act.put, List.setIfInBounds_toArray, List.set_cons_zero, List.set_cons_succ]))
            | (refine take_in (i := 0) (v := undef) rfl (by kernel_rfl) (by kernel_rfl) (by kernel_rfl) (fun _ _ _ h => h) (Or.inr ⟨by rfl, rfl⟩) (Below.refl _ _) ?_; (try simp only [Act.put, List.setIfInBounds_toArray, List.set_cons_zero, List.set_cons_succ]))
            | (fail "HTAKE 0")
          first
            | (refine take_in (i := 1) (v := ?_) rfl (by kernel_rfl) (by kernel_rfl) (by kernel_rfl) (fun _ _ _ h => h) (Or.inl ⟨by rfl, ?_⟩) (Below.refl _ _) ?_; rotate_left; (focus (intro W hSw; go_simp; (try rfl); done)); (try simp only [Act.put, List.setIfInBounds_toArray, List.set_cons_zero, List.set_cons_succ]))
            | (refine take_in (i := 1) (v := undef) rfl (by kernel_rfl) (by kernel_rfl) (by kernel_rfl) (fun _ _ _ h => h) (Or.inr ⟨by rfl, rfl⟩) (Below.refl _ _) ?_; (try simp only [Act.put, List.setIfInBounds_toArray, List.set_cons_zero, List.set_cons_succ]))
            | (fail "HTAKE 1")
          first
            | (refine take_in (i := 2) (v := ?_) rfl (by kernel_rfl) (by kernel_rfl) (by kernel_rfl) (fun _ _ _ h => h) (Or.inl ⟨by rfl, ?_⟩) (Below.refl _ _) ?_; rotate_left; (focus (intro W hSw; go_simp; (try rfl); done)); (try simp only [Act.put, List.setIfInBounds_toArray, List.set_cons_zero, List.set_cons_succ]))
            | (refine take_in (i := 2) (v := undef) rfl (by kernel_rfl) (by kernel_rfl) (by kernel_rfl) (fun _ _ _ h => h) (Or.inr ⟨by rfl, rfl⟩) (Below.refl _ _) ?_; (try simp only [Act.put, List.setIfInBounds_toArray, List.set_cons_zero, List.set_cons_succ]))
            | (fail "HTAKE 2")
          refine take_in (i := 3) (v := _) rfl (by kernel_rfl) (by kernel_rfl) (by kernel_rfl) (fun _ _ _ h => h) (yields_to (by rfl) k _ _ _ rfl rfl rfl rfl Tryz.underlying22 size_lst hkc) (Below.refl _ _) ?_
          (try simp only [Act.put, List.setIfInBounds_toArray, List.set_cons_zero, List.set_cons_succ])
          refine take_in (i := 4) (v := _) rfl (by kernel_rfl) (by kernel_rfl) (by kernel_rfl) (fun _ _ _ h => h) (yields_load (by rfl) _ _ rfl _ rfl _ _ (fun W hW => (H01.out).below hW) Tryz.underlying42 rfl rfl) (Below.refl _ _) ?_
          (try simp only [Act.put, List.setIfInBounds_toArray, List.set_cons_zero, List.set_cons_succ])
          first
            | (refine take_in (i := 6) (v := ?_) rfl (by kernel_rfl) (by kernel_rfl) (by kernel_rfl) (fun _ _ _ h => h) (Or.inl ⟨by rfl, ?_⟩) (Below.refl _ _) ?_; rotate_left; (focus (intro W hSw; go_simp; (try rfl); done)); (try simp only [Act.put, List.setIfInBounds_toArray, List.set_cons_zero, List.set_cons_succ]))
            | (refine take_in (i := 6) (v := undef) rfl (by kernel_rfl) (by kernel_rfl) (by kernel_rfl) (fun _ _ _ h => h) (Or.inr ⟨by rfl, rfl⟩) (Below.refl _ _) ?_; (try simp only [Act.put, List.setIfInBounds_toArray, List.set_cons_zero, List.set_cons_succ]))
            | (fail "HTAKE 6")
          first
            | (refine take_in (i := 7) (v := ?_) rfl (by kernel_rfl) (by kernel_rfl) (by kernel_rfl) (fun _ _ _ h => h) (Or.inl ⟨by rfl, ?_⟩) (Below.refl _ _) ?_; rotate_left; (focus (intro W hSw; go_simp; (try rfl); done)); (try simp only [Act.put, List.setIfInBounds_toArray, List.set_cons_zero, List.set_cons_succ]))
            | (refine take_in (i := 7) (v := undef) rfl (by kernel_rfl) (by kernel_rfl) (by kernel_rfl) (fun _ _ _ h => h) (Or.inr ⟨by rfl, rfl⟩) (Below.refl _ _) ?_; (try simp only [Act.put, List.setIfInBounds_toArray, List.set_cons_zero, List.set_cons_succ]))
            | (fail "HTAKE 7")
          refine take_in (i := 8) (v := _) rfl (by kernel_rfl) (by kernel_rfl) (by kernel_rfl) (fun _ _ _ h => h) (yields_fromB (by rfl) k _ _ rfl rfl rfl Tryz.underlying22 size_lst (by omega) hB8) (Below.refl _ _) ?_
          (try simp only [Act.put, List.setIfInBounds_toArray, List.set_cons_zero, List.set_cons_succ])
          refine call_in (i := 5) rfl (by kernel_rfl) (by kernel_rfl) (fun K hK => ?_)
          refine wpo_lit1 (cs := [Value.int .u64 i1, .string t1]) (.tmp 41) rfl rfl Tryz.underlying22 info_lst2 rfl (by decide) (by decide) rfl ?_
          have hb2 := below_alloc1 w1 (.cells ([Value.int .u64 i1, .string t1]).toArray 42)
          have hO2 : OwnG (w1.alloc (.cells ([Value.int .u64 i1, .string t1]).toArray 42)) w1.heap.size (fun k => base ≤ k) 42 LIST (.slice (some ⟨w1.heap.size, 0, none⟩) 1 1) [x] := OwnG.lit1 HX1.out (Nat.le_refl _)
          obtain ⟨w2, hw2⟩ : ∃ w2, w1.alloc (.cells ([Value.int .u64 i1, .string t1]).toArray 42) = w2 := ⟨_, rfl⟩
          rw [hw2] at hb2 hO2 ⊢
          have HO2 := Lib.hid hO2
          have HC2 := Lib.hid hb2
          clear hO2 hw2 hb2
          refine hK.out _ _ HC2.out ?_
          (try simp only [Act.put, List.setIfInBounds_toArray, List.set_cons_zero, List.set_cons_succ])
          have hrd8 := rows_from (HR1.out.below HC2.out) hnc k hk
          rw [show (if c = k then (some ad) else Option.map (fun x : Addr => x.add (k * Sh.size LIST )) (some ad)) = B8 from hB8] at hrd8
          have HRD := Lib.hid hrd8
          clear hrd8 hB8
          obtain ⟨ys, hys, hyat⟩ := HRD.out.cells
          have HY := Lib.hid hys
          have HYA := Lib.hid hyat
          clear hys hyat
          refine call_in (i := 9) rfl (by kernel_rfl) (by kernel_rfl) (fun K hK => ?_)
          refine wpo_appC (S := LIST) (ok := fun k => base ≤ k) (l := [x]) (r := l.drop k) (ys := ys) (.tmp 42) (.tmp 45) rfl rfl rfl HO2.out rfl (fun ad' e => (HYA.out ad' e).2) (fun e => HRD.out.2.1 e) HY.out (by rw [List.length_drop, hn]) Tryz.underlying22 info_lst2 rfl (by decide) (by rw [bytes_lst2]; omega) (by omega) HC2.out.size ?_
          intro v3 w3 hO3 hb3
          obtain ⟨A3, c3, rfl, _, _, _, hR3⟩ := OwnG.form hO3
          have hl3 : ([x] ++ l.drop k).length = n - k + 1 := by rw [List.length_append, List.length_drop, hn]; simp; omega
          rw [hl3] at hR3 ⊢
          have HR3 := Lib.hid (hR3.weak (ok' := fun k => base ≤ k) (fun q hq _ => hq.elim (fun h => Nat.le_trans hBW1 h) id))
          have HC3 := Lib.hid (HC2.out.trans (hb3.mono HC2.out.size))
          clear hO3 hR3
          refine hK.out _ _ hb3 ?_
          (try simp only [Act.put, List.setIfInBounds_toArray, List.set_cons_zero, List.set_cons_succ])
          have HRT := Lib.hid (rows_to (HR1.out.below HC3.out) k hk)
          obtain ⟨xs, hxs, hxat⟩ := HRT.out.cells
          obtain ⟨zs, hzs, hzat⟩ := HR3.out.cells
          have HXX := Lib.hid (And.intro hxs hxat)
          have HZ := Lib.hid (And.intro hzs hzat)
          clear hxs hxat hzs hzat
          refine call_in (i := 10) rfl (by kernel_rfl) (by kernel_rfl) (fun K hK => ?_)
          refine wpo_appG (S := LIST) (ok := fun k => base ≤ k) (l := l.take k) (r := [x] ++ l.drop k) (xs := xs) (ys := zs) (.tmp 40) (.tmp 46) rfl rfl rfl (fun e => ⟨by have := HRT.out.2.1 e; omega, by have := HRT.out.2.1 e; omega⟩) (fun ad e => (HXX.out.2 ad e).2) HXX.out.1 (by rw [List.length_take]; omega) (fun ad e => (HZ.out.2 ad e).2) (fun e => by have := HR3.out.2.1 e; omega) HZ.out.1 (by rw [hl3]) (Nat.le_refl _) (by omega) Tryz.underlying22 info_lst2 rfl (by decide) (by rw [bytes_lst2]; omega) (by omega) ?_
          intro v5 w5 hO5 hg5
          have hB15 : base ≤ w3.heap.size := Nat.le_trans hBW1 HC3.out.size
          have hO5' := own_lower hO5 hB15
          have hb35 : Below w3.heap.size w3 w5 := (Below.refl _ _).grown hg5 (Nat.le_refl _) (fun k e => by cases e)
          have HB5 := Lib.hid (HB1.out.trans ((HC3.out.trans (hb35.mono HC3.out.size)).mono HB1.out.size))
          obtain ⟨A5, c5, rfl, _⟩ := OwnG.form hO5'
          obtain ⟨n5, hn5⟩ : ∃ n5, (l.take k ++ ([x] ++ l.drop k)).length = n5 := ⟨_, rfl⟩
          rw [hn5] at hO5' ⊢
          have HO5 := Lib.hid hO5'
          clear hO5 hO5' hn5
          refine hK.out _ _ hb35 ?_
          (try simp only [Act.put, List.setIfInBounds_toArray, List.set_cons_zero, List.set_cons_succ])
          first
            | (refine take_in (i := 11) (v := ?_) rfl (by kernel_rfl) (by kernel_rfl) (by kernel_rfl) (fun _ _ _ h => h) (Or.inl ⟨by rfl, ?_⟩) (Below.refl _ _) ?_; rotate_left; (focus (intro W hSw; go_simp; (try rfl); done)); (try simp only [Act.put, List.setIfInBounds_toArray, List.set_cons_zero, List.set_cons_succ]))
            | (refine take_in (i := 11) (v := undef) rfl (by kernel_rfl) (by kernel_rfl) (by kernel_rfl) (fun _ _ _ h => h) (Or.inr ⟨by rfl, rfl⟩) (Below.refl _ _) ?_; (try simp only [Act.put, List.setIfInBounds_toArray, List.set_cons_zero, List.set_cons_succ]))
            | (fail "HTAKE 11")
          refine wpAnyH_done (by kernel_rfl) ?_ _
          go_wp2_with fail
          go_ret
          exact ⟨_, rfl, l.take k ++ x :: l.drop k, HO5.out, by simp; omega, rises_ins HS.out HGT.out HD.out, .inr ⟨not_met HS.out HGT.out HD.out, fun z => mem_ins⟩, HB5.out⟩
    · have HD := Lib.hid (show ∀ z ∈ l.drop k, x.1 < z.1 from fun z hz => by rw [List.drop_eq_nil_of_le (by omega)] at hz; cases hz)
      have k2 : ¬ (k : Int) < (n : Int) := by omega
      go_wp2_with fail
      refine region_in (by kernel_rfl) (fun w1 hw1 => ?_)
      have HBr2 := Lib.hid (HBr.out.trans (hw1.mono HBr.out.size))
      clear hw1
      first
        | (refine take_in (i := 0) (v := ?_) rfl (by kernel_rfl) (by kernel_rfl) (by kernel_rfl) (fun _ _ _ h => h) (Or.inl ⟨by rfl, ?_⟩) (Below.refl _ _) ?_; rotate_left; (focus (intro W hSw; go_simp; (try rfl); done)); (try simp only [Act.put, List.setIfInBounds_toArray, List.set_cons_zero, List.set_cons_succ]))
        | (refine take_in (i := 0) (v := undef) rfl (by kernel_rfl) (by kernel_rfl) (by kernel_rfl) (fun _ _ _ h => h) (Or.inr ⟨by rfl, rfl⟩) (Below.refl _ _) ?_; (try simp only [Act.put, List.setIfInBounds_toArray, List.set_cons_zero, List.set_cons_succ]))
        | (fail "HTAKE 0")
      first
        | (refine take_in (i := 1) (v := ?_) rfl (by kernel_rfl) (by kernel_rfl) (by kernel_rfl) (fun _ _ _ h => h) (Or.inl ⟨by rfl, ?_⟩) (Below.refl _ _) ?_; rotate_left; (focus (intro W hSw; go_simp; (try rfl); done)); (try simp only [Act.put, List.setIfInBounds_toArray, List.set_cons_zero, List.set_cons_succ]))
        | (refine take_in (i := 1) (v := undef) rfl (by kernel_rfl) (by kernel_rfl) (by kernel_rfl) (fun _ _ _ h => h) (Or.inr ⟨by rfl, rfl⟩) (Below.refl _ _) ?_; (try simp only [Act.put, List.setIfInBounds_toArray, List.set_cons_zero, List.set_cons_succ]))
        | (fail "HTAKE 1")
      first
        | (refine take_in (i := 2) (v := ?_) rfl (by kernel_rfl) (by kernel_rfl) (by kernel_rfl) (fun _ _ _ h => h) (Or.inl ⟨by rfl, ?_⟩) (Below.refl _ _) ?_; rotate_left; (focus (intro W hSw; go_simp; (try rfl); done)); (try simp only [Act.put, List.setIfInBounds_toArray, List.set_cons_zero, List.set_cons_succ]))
        | (refine take_in (i := 2) (v := undef) rfl (by kernel_rfl) (by kernel_rfl) (by kernel_rfl) (fun _ _ _ h => h) (Or.inr ⟨by rfl, rfl⟩) (Below.refl _ _) ?_; (try simp only [Act.put, List.setIfInBounds_toArray, List.set_cons_zero, List.set_cons_succ]))
        | (fail "HTAKE 2")
      first
        | (refine take_in (i := 3) (v := ?_) rfl (by kernel_rfl) (by kernel_rfl) (by kernel_rfl) (fun _ _ _ h => h) (Or.inl ⟨by rfl, ?_⟩) (Below.refl _ _) ?_; rotate_left; (focus (intro W hSw; go_simp; (try rfl); done)); (try simp only [Act.put, List.setIfInBounds_toArray, List.set_cons_zero, List.set_cons_succ]))
        | (refine take_in (i := 3) (v := undef) rfl (by kernel_rfl) (by kernel_rfl) (by kernel_rfl) (fun _ _ _ h => h) (Or.inr ⟨by rfl, rfl⟩) (Below.refl _ _) ?_; (try simp only [Act.put, List.setIfInBounds_toArray, List.set_cons_zero, List.set_cons_succ]))
        | (fail "HTAKE 3")
      first
        | (refine take_in (i := 4) (v := ?_) rfl (by kernel_rfl) (by kernel_rfl) (by kernel_rfl) (fun _ _ _ h => h) (Or.inl ⟨by rfl, ?_⟩) (Below.refl _ _) ?_; rotate_left; (focus (intro W hSw; go_simp; (try rfl); done)); (try simp only [Act.put, List.setIfInBounds_toArray, List.set_cons_zero, List.set_cons_succ]))
        | (refine take_in (i := 4) (v := undef) rfl (by kernel_rfl) (by kernel_rfl) (by kernel_rfl) (fun _ _ _ h => h) (Or.inr ⟨by rfl, rfl⟩) (Below.refl _ _) ?_; (try simp only [Act.put, List.setIfInBounds_toArray, List.set_cons_zero, List.set_cons_succ]))
        | (fail "HTAKE 4")
      first
        | (refine take_in (i := 5) (v := ?_) rfl (by kernel_rfl) (by kernel_rfl) (by kernel_rfl) (fun _ _ _ h => h) (Or.inl ⟨by rfl, ?_⟩) (Below.refl _ _) ?_; rotate_left; (focus (intro W hSw; go_simp; (try rfl); done)); (try simp only [Act.put, List.setIfInBounds_toArray, List.set_cons_zero, List.set_cons_succ]))
        | (refine take_in (i := 5) (v := undef) rfl (by kernel_rfl) (by kernel_rfl) (by kernel_rfl) (fun _ _ _ h => h) (Or.inr ⟨by rfl, rfl⟩) (Below.refl _ _) ?_; (try simp only [Act.put, List.setIfInBounds_toArray, List.set_cons_zero, List.set_cons_succ]))
        | (fail "HTAKE 5")
      first
        | (refine take_in (i := 6) (v := ?_) rfl (by kernel_rfl) (by kernel_rfl) (by kernel_rfl) (fun _ _ _ h => h) (Or.inl ⟨by rfl, ?_⟩) (Below.refl _ _) ?_; rotate_left; (focus (intro W hSw; go_simp; (try rfl); done)); (try simp only [Act.put, List.setIfInBounds_toArray, List.set_cons_zero, List.set_cons_succ]))
        | (refine take_in (i := 6) (v := undef) rfl (by kernel_rfl) (by kernel_rfl) (by kernel_rfl) (fun _ _ _ h => h) (Or.inr ⟨by rfl, rfl⟩) (Below.refl _ _) ?_; (try simp only [Act.put, List.setIfInBounds_toArray, List.set_cons_zero, List.set_cons_succ]))
        | (fail "HTAKE 6")
      first
        | (refine take_in (i := 7) (v := ?_) rfl (by kernel_rfl) (by kernel_rfl) (by kernel_rfl) (fun _ _ _ h => h) (Or.inl ⟨by rfl, ?_⟩) (Below.refl _ _) ?_; rotate_left; (focus (intro W hSw; go_simp; (try rfl); done)); (try simp only [Act.put, List.setIfInBounds_toArray, List.set_cons_zero, List.set_cons_succ]))
        | (refine take_in (i := 7) (v := undef) rfl (by kernel_rfl) (by kernel_rfl) (by kernel_rfl) (fun _ _ _ h => h) (Or.inr ⟨by rfl, rfl⟩) (Below.refl _ _) ?_; (try simp only [Act.put, List.setIfInBounds_toArray, List.set_cons_zero, List.set_cons_succ]))
        | (fail "HTAKE 7")
      first
        | (refine take_in (i := 8) (v := ?_) rfl (by kernel_rfl) (by kernel_rfl) (by kernel_rfl) (fun _ _ _ h => h) (Or.inl ⟨by rfl, ?_⟩) (Below.refl _ _) ?_; rotate_left; (focus (intro W hSw; go_simp; (try rfl); done)); (try simp only [Act.put, List.setIfInBounds_toArray, List.set_cons_zero, List.set_cons_succ]))
        | (refine take_in (i := 8) (v := undef) rfl (by kernel_rfl) (by kernel_rfl) (by kernel_rfl) (fun _ _ _ h => h) (Or.inr ⟨by rfl, rfl⟩) (Below.refl _ _) ?_; (try simp only [Act.put, List.setIfInBounds_toArray, List.set_cons_zero, List.set_cons_succ]))
        | (fail "HTAKE 8")
      first
        | (refine take_in (i := 9) (v := ?_) rfl (by kernel_rfl) (by kernel_rfl) (by kernel_rfl) (fun _ _ _ h => h) (Or.inl ⟨by rfl, ?_⟩) (Below.refl _ _) ?_; rotate_left; (focus (intro W hSw; go_simp; (try rfl); done)); (try simp only [Act.put, List.setIfInBounds_toArray, List.set_cons_zero, List.set_cons_succ]))
        | (refine take_in (i := 9) (v := undef) rfl (by kernel_rfl) (by kernel_rfl) (by kernel_rfl) (fun _ _ _ h => h) (Or.inr ⟨by rfl, rfl⟩) (Below.refl _ _) ?_; (try simp only [Act.put, List.setIfInBounds_toArray, List.set_cons_zero, List.set_cons_succ]))
        | (fail "HTAKE 9")
      first
        | (refine take_in (i := 10) (v := ?_) rfl (by kernel_rfl) (by kernel_rfl) (by kernel_rfl) (fun _ _ _ h => h) (Or.inl ⟨by rfl, ?_⟩) (Below.refl _ _) ?_; rotate_left; (focus (intro W hSw; go_simp; (try rfl); done)); (try simp only [Act.put, List.setIfInBounds_toArray, List.set_cons_zero, List.set_cons_succ]))
        | (refine take_in (i := 10) (v := undef) rfl (by kernel_rfl) (by kernel_rfl) (by kernel_rfl) (fun _ _ _ h => h) (Or.inr ⟨by rfl, rfl⟩) (Below.refl _ _) ?_; (try simp only [Act.put, List.setIfInBounds_toArray, List.set_cons_zero, List.set_cons_succ]))
        | (fail "HTAKE 10")
      first
        | (refine take_in (i := 11) (v := ?_) rfl (by kernel_rfl) (by kernel_rfl) (by kernel_rfl) (fun _ _ _ h => h) (Or.inl ⟨by rfl, ?_⟩) (Below.refl _ _) ?_; rotate_left; (focus (intro W hSw; go_simp; (try rfl); done)); (try simp only [Act.put, List.setIfInBounds_toArray, List.set_cons_zero, List.set_cons_succ]))
        | (refine take_in (i := 11) (v := undef) rfl (by kernel_rfl) (by kernel_rfl) (by kernel_rfl) (fun _ _ _ h => h) (Or.inr ⟨by rfl, rfl⟩) (Below.refl _ _) ?_; (try simp only [Act.put, List.setIfInBounds_toArray, List.set_cons_zero, List.set_cons_succ]))
        | (fail "HTAKE 11")
      first
        | (refine take_in (i := 12) (v := ?_) rfl (by kernel_rfl) (by kernel_rfl) (by kernel_rfl) (fun _ _ _ h => h) (Or.inl ⟨by rfl, ?_⟩) (Below.refl _ _) ?_; rotate_left; (focus (intro W hSw; go_simp; (try rfl); done)); (try simp only [Act.put, List.setIfInBounds_toArray, List.set_cons_zero, List.set_cons_succ]))
        | (refine take_in (i := 12) (v := undef) rfl (by kernel_rfl) (by kernel_rfl) (by kernel_rfl) (fun _ _ _ h => h) (Or.inr ⟨by rfl, rfl⟩) (Below.refl _ _) ?_; (try simp only [Act.put, List.setIfInBounds_toArray, List.set_cons_zero, List.set_cons_succ]))
        | (fail "HTAKE 12")
      first
        | (refine take_in (i := 13) (v := ?_) rfl (by kernel_rfl) (by kernel_rfl) (by kernel_rfl) (fun _ _ _ h => h) (Or.inl ⟨by rfl, ?_⟩) (Below.refl _ _) ?_; rotate_left; (focus (intro W hSw; go_simp; (try rfl); done)); (try simp only [Act.put, List.setIfInBounds_toArray, List.set_cons_zero, List.set_cons_succ]))
        | (refine take_in (i := 13) (v := undef) rfl (by kernel_rfl) (by kernel_rfl) (by kernel_rfl) (fun _ _ _ h => h) (Or.inr ⟨by rfl, rfl⟩) (Below.refl _ _) ?_; (try simp only [Act.put, List.setIfInBounds_toArray, List.set_cons_zero, List.set_cons_succ]))
        | (fail "HTAKE 13")
      refine wpAnyH_done (by kernel_rfl) ?_ _
      go_wp2_with fail
      refine region_in (by kernel_rfl) (fun w2 hw1 => ?_)
      have HBr3 := Lib.hid (HBr2.out.trans (hw1.mono HBr2.out.size))
      clear hw1
      first
        | (refine take_in (i := 0) (v := ?_) rfl (by kernel_rfl) (by kernel_rfl) (by kernel_rfl) (fun _ _ _ h => h) (Or.inl ⟨by rfl, ?_⟩) (Below.refl _ _) ?_; rotate_left; (focus (intro W hSw; go_simp; (try rfl); done)); (try simp only [Act.put, List.setIfInBounds_toArray, List.set_cons_zero, List.set_cons_succ]))
        | (refine take_in (i := 0) (v := undef) rfl (by kernel_rfl) (by kernel_rfl) (by kernel_rfl) (fun _ _ _ h => h) (Or.inr ⟨by rfl, rfl⟩) (Below.refl _ _) ?_; (try simp only [Act.put, List.setIfInBounds_toArray, List.set_cons_zero, List.set_cons_succ]))
        | (fail "HTAKE 0")
      first
        | (refine take_in (i := 1) (v := ?_) rfl (by kernel_rfl) (by kernel_rfl) (by kernel_rfl) (fun _ _ _ h => h) (Or.inl ⟨by rfl, ?_⟩) (Below.refl _ _) ?_; rotate_left; (focus (intro W hSw; go_simp; (try rfl); done)); (try simp only [Act.put, List.setIfInBounds_toArray, List.set_cons_zero, List.set_cons_succ]))
        | (refine take_in (i := 1) (v := undef) rfl (by kernel_rfl) (by kernel_rfl) (by kernel_rfl) (fun _ _ _ h => h) (Or.inr ⟨by rfl, rfl⟩) (Below.refl _ _) ?_; (try simp only [Act.put, List.setIfInBounds_toArray, List.set_cons_zero, List.set_cons_succ]))
        | (fail "HTAKE 1")
      first
        | (refine take_in (i := 2) (v := ?_) rfl (by kernel_rfl) (by kernel_rfl) (by kernel_rfl) (fun _ _ _ h => h) (Or.inl ⟨by rfl, ?_⟩) (Below.refl _ _) ?_; rotate_left; (focus (intro W hSw; go_simp; (try rfl); done)); (try simp only [Act.put, List.setIfInBounds_toArray, List.set_cons_zero, List.set_cons_succ]))
        | (refine take_in (i := 2) (v := undef) rfl (by kernel_rfl) (by kernel_rfl) (by kernel_rfl) (fun _ _ _ h => h) (Or.inr ⟨by rfl, rfl⟩) (Below.refl _ _) ?_; (try simp only [Act.put, List.setIfInBounds_toArray, List.set_cons_zero, List.set_cons_succ]))
        | (fail "HTAKE 2")
      first
        | (refine take_in (i := 3) (v := ?_) rfl (by kernel_rfl) (by kernel_rfl) (by kernel_rfl) (fun _ _ _ h => h) (Or.inl ⟨by rfl, ?_⟩) (Below.refl _ _) ?_; rotate_left; (focus (intro W hSw; go_simp; (try rfl); done)); (try simp only [Act.put, List.setIfInBounds_toArray, List.set_cons_zero, List.set_cons_succ]))
        | (refine take_in (i := 3) (v := undef) rfl (by kernel_rfl) (by kernel_rfl) (by kernel_rfl) (fun _ _ _ h => h) (Or.inr ⟨by rfl, rfl⟩) (Below.refl _ _) ?_; (try simp only [Act.put, List.setIfInBounds_toArray, List.set_cons_zero, List.set_cons_succ]))
        | (fail "HTAKE 3")
      first
        | (refine take_in (i := 4) (v := ?_) rfl (by kernel_rfl) (by kernel_rfl) (by kernel_rfl) (fun _ _ _ h => h) (Or.inl ⟨by rfl, ?_⟩) (Below.refl _ _) ?_; rotate_left; (focus (intro W hSw; go_simp; (try rfl); done)); (try simp only [Act.put, List.setIfInBounds_toArray, List.set_cons_zero, List.set_cons_succ]))
        | (refine take_in (i := 4) (v := undef) rfl (by kernel_rfl) (by kernel_rfl) (by kernel_rfl) (fun _ _ _ h => h) (Or.inr ⟨by rfl, rfl⟩) (Below.refl _ _) ?_; (try simp only [Act.put, List.setIfInBounds_toArray, List.set_cons_zero, List.set_cons_succ]))
        | (fail "HTAKE 4")
      first
        | (refine take_in (i := 5) (v := ?_) rfl (by kernel_rfl) (by kernel_rfl) (by kernel_rfl) (fun _ _ _ h => h) (Or.inl ⟨by rfl, ?_⟩) (Below.refl _ _) ?_; rotate_left; (focus (intro W hSw; go_simp; (try rfl); done)); (try simp only [Act.put, List.setIfInBounds_toArray, List.set_cons_zero, List.set_cons_succ]))
        | (refine take_in (i := 5) (v := undef) rfl (by kernel_rfl) (by kernel_rfl) (by kernel_rfl) (fun _ _ _ h => h) (Or.inr ⟨by rfl, rfl⟩) (Below.refl _ _) ?_; (try simp only [Act.put, List.setIfInBounds_toArray, List.set_cons_zero, List.set_cons_succ]))
        | (fail "HTAKE 5")
      first
        | (refine take_in (i := 6) (v := ?_) rfl (by kernel_rfl) (by kernel_rfl) (by kernel_rfl) (fun _ _ _ h => h) (Or.inl ⟨by rfl, ?_⟩) (Below.refl _ _) ?_; rotate_left; (focus (intro W hSw; go_simp; (try rfl); done)); (try simp only [Act.put, List.setIfInBounds_toArray, List.set_cons_zero, List.set_cons_succ]))
        | (refine take_in (i := 6) (v := undef) rfl (by kernel_rfl) (by kernel_rfl) (by kernel_rfl) (fun _ _ _ h => h) (Or.inr ⟨by rfl, rfl⟩) (Below.refl _ _) ?_; (try simp only [Act.put, List.setIfInBounds_toArray, List.set_cons_zero, List.set_cons_succ]))
        | (fail "HTAKE 6")
      first
        | (refine take_in (i := 7) (v := ?_) rfl (by kernel_rfl) (by kernel_rfl) (by kernel_rfl) (fun _ _ _ h => h) (Or.inl ⟨by rfl, ?_⟩) (Below.refl _ _) ?_; rotate_left; (focus (intro W hSw; go_simp; (try rfl); done)); (try simp only [Act.put, List.setIfInBounds_toArray, List.set_cons_zero, List.set_cons_succ]))
        | (refine take_in (i := 7) (v := undef) rfl (by kernel_rfl) (by kernel_rfl) (by kernel_rfl) (fun _ _ _ h => h) (Or.inr ⟨by rfl, rfl⟩) (Below.refl _ _) ?_; (try simp only [Act.put, List.setIfInBounds_toArray, List.set_cons_zero, List.set_cons_succ]))
        | (fail "HTAKE 7")
      first
        | (refine take_in (i := 8) (v := ?_) rfl (by kernel_rfl) (by kernel_rfl) (by kernel_rfl) (fun _ _ _ h => h) (Or.inl ⟨by rfl, ?_⟩) (Below.refl _ _) ?_; rotate_left; (focus (intro W hSw; go_simp; (try rfl); done)); (try simp only [Act.put, List.setIfInBounds_toArray, List.set_cons_zero, List.set_cons_succ]))
        | (refine take_in (i := 8) (v := undef) rfl (by kernel_rfl) (by kernel_rfl) (by kernel_rfl) (fun _ _ _ h => h) (Or.inr ⟨by rfl, rfl⟩) (Below.refl _ _) ?_; (try simp only [Act.put, List.setIfInBounds_toArray, List.set_cons_zero, List.set_cons_succ]))
        | (fail "HTAKE 8")
      first
        | (refine take_in (i := 9) (v := ?_) rfl (by kernel_rfl) (by kernel_rfl) (by kernel_rfl) (fun _ _ _ h => h) (Or.inl ⟨by rfl, ?_⟩) (Below.refl _ _) ?_; rotate_left; (focus (intro W hSw; go_simp; (try rfl); done)); (try simp only [Act.put, List.setIfInBounds_toArray, List.set_cons_zero, List.set_cons_succ]))
        | (refine take_in (i := 9) (v := undef) rfl (by kernel_rfl) (by kernel_rfl) (by kernel_rfl) (fun _ _ _ h => h) (Or.inr ⟨by rfl, rfl⟩) (Below.refl _ _) ?_; (try simp only [Act.put, List.setIfInBounds_toArray, List.set_cons_zero, List.set_cons_succ]))
        | (fail "HTAKE 9")
      first
        | (refine take_in (i := 10) (v := ?_) rfl (by kernel_rfl) (by kernel_rfl) (by kernel_rfl) (fun _ _ _ h => h) (Or.inl ⟨by rfl, ?_⟩) (Below.refl _ _) ?_; rotate_left; (focus (intro W hSw; go_simp; (try rfl); done)); (try simp only [Act.put, List.setIfInBounds_toArray, List.set_cons_zero, List.set_cons_succ]))
        | (refine take_in (i := 10) (v := undef) rfl (by kernel_rfl) (by kernel_rfl) (by kernel_rfl) (fun _ _ _ h => h) (Or.inr ⟨by rfl, rfl⟩) (Below.refl _ _) ?_; (try simp only [Act.put, List.setIfInBounds_toArray, List.set_cons_zero, List.set_cons_succ]))
        | (fail "HTAKE 10")
      first
        | (refine take_in (i := 11) (v := ?_) rfl (by kernel_rfl) (by kernel_rfl) (by kernel_rfl) (fun _ _ _ h => h) (Or.inl ⟨by rfl, ?_⟩) (Below.refl _ _) ?_; rotate_left; (focus (intro W hSw; go_simp; (try rfl); done)); (try simp only [Act.put, List.setIfInBounds_toArray, List.set_cons_zero, List.set_cons_succ]))
        | (refine take_in (i := 11) (v := undef) rfl (by kernel_rfl) (by kernel_rfl) (by kernel_rfl) (fun _ _ _ h => h) (Or.inr ⟨by rfl, rfl⟩) (Below.refl _ _) ?_; (try simp only [Act.put, List.setIfInBounds_toArray, List.set_cons_zero, List.set_cons_succ]))
        | (fail "HTAKE 11")
      first
        | (refine take_in (i := 12) (v := ?_) rfl (by kernel_rfl) (by kernel_rfl) (by kernel_rfl) (fun _ _ _ h => h) (Or.inl ⟨by rfl, ?_⟩) (Below.refl _ _) ?_; rotate_left; (focus (intro W hSw; go_simp; (try rfl); done)); (try simp only [Act.put, List.setIfInBounds_toArray, List.set_cons_zero, List.set_cons_succ]))
        | (refine take_in (i := 12) (v := undef) rfl (by kernel_rfl) (by kernel_rfl) (by kernel_rfl) (fun _ _ _ h => h) (Or.inr ⟨by rfl, rfl⟩) (Below.refl _ _) ?_; (try simp only [Act.put, List.setIfInBounds_toArray, List.set_cons_zero, List.set_cons_succ]))
        | (fail "HTAKE 12")
      first
        | (refine take_in (i := 13) (v := ?_) rfl (by kernel_rfl) (by kernel_rfl) (by kernel_rfl) (fun _ _ _ h => h) (Or.inl ⟨by rfl, ?_⟩) (Below.refl _ _) ?_; rotate_left; (focus (intro W hSw; go_simp; (try rfl); done)); (try simp only [Act.put, List.setIfInBounds_toArray, List.set_cons_zero, List.set_cons_succ]))
        | (refine take_in (i := 13) (v := undef) rfl (by kernel_rfl) (by kernel_rfl) (by kernel_rfl) (fun _ _ _ h => h) (Or.inr ⟨by rfl, rfl⟩) (Below.refl _ _) ?_; (try simp only [Act.put, List.setIfInBounds_toArray, List.set_cons_zero, List.set_cons_succ]))
        | (fail "HTAKE 13")
      refine wpAnyH_done (by kernel_rfl) ?_ _
      go_wp2_with fail
      have HR3 := Lib.hid (HR.out.below HBr3.out)
      have HX3 := Lib.hid (HX.out.below HBr3.out)
      have H03 := Lib.hid (blk_below H0.out HBr3.out (blk_lt H0.out))
      have HB3 := Lib.hid (HB.out.trans (HBr3.out.mono HB.out.size))
      have hBW3 : base ≤ w2.heap.size := Nat.le_trans hBW HBr3.out.size
      obtain ⟨B8, hB8⟩ : ∃ B8 : Option Addr, (if c = k then A else Option.map (fun x : Addr => x.add (k * 2)) A) = B8 := ⟨_, rfl⟩
      refine region_in (by kernel_rfl) (fun w1 hw1 => ?_)
      have HR1 := Lib.hid (HR3.out.below hw1)
      have HB1 := Lib.hid (HB3.out.trans (hw1.mono HB3.out.size))
      have HX1 := Lib.hid (HX3.out.below hw1)
      have H01 := Lib.hid (At.blk (blk_below H03.out hw1 (blk_lt H03.out)))
      have hBW1 : base ≤ w1.heap.size := Nat.le_trans hBW3 hw1.size
      clear HR3 HB3
      first
        | (refine take_in (i := 0) (v := ?_) rfl (by kernel_rfl) (by kernel_rfl) (by kernel_rfl) (fun _ _ _ h => h) (Or.inl ⟨by rfl, ?_⟩) (Below.refl _ _) ?_; rotate_left; (focus (intro W hSw; go_simp; (try rfl); done)); (try simp only [Act.put, List.setIfInBounds_toArray, List.set_cons_zero, List.set_cons_succ]))
        | (refine take_in (i := 0) (v := undef) rfl (by kernel_rfl) (by kernel_rfl) (by kernel_rfl) (fun _ _ _ h => h) (Or.inr ⟨by rfl, rfl⟩) (Below.refl _ _) ?_; (try simp only [Act.put, List.setIfInBounds_toArray, List.set_cons_zero, List.set_cons_succ]))
        | (fail "HTAKE 0")
      first
        | (refine take_in (i := 1) (v := ?_) rfl (by kernel_rfl) (by kernel_rfl) (by kernel_rfl) (fun _ _ _ h => h) (Or.inl ⟨by rfl, ?_⟩) (Below.refl _ _) ?_; rotate_left; (focus (intro W hSw; go_simp; (try rfl); done)); (try simp only [Act.put, List.setIfInBounds_toArray, List.set_cons_zero, List.set_cons_succ]))
        | (refine take_in (i := 1) (v := undef) rfl (by kernel_rfl) (by kernel_rfl) (by kernel_rfl) (fun _ _ _ h => h) (Or.inr ⟨by rfl, rfl⟩) (Below.refl _ _) ?_; (try simp only [Act.put, List.setIfInBounds_toArray, List.set_cons_zero, List.set_cons_succ]))
        | (fail "HTAKE 1")
      first
        | (refine take_in (i := 2) (v := ?_) rfl (by kernel_rfl) (by kernel_rfl) (by kernel_rfl) (fun _ _ _ h => h) (Or.inl ⟨by rfl, ?_⟩) (Below.refl _ _) ?_; rotate_left; (focus (intro W hSw; go_simp; (try rfl); done)); (try simp only [Act.put, List.setIfInBounds_toArray, List.set_cons_zero, List.set_cons_succ]))
        | (refine take_in (i := 2) (v := undef) rfl (by kernel_rfl) (by kernel_rfl) (by kernel_rfl) (fun _ _ _ h => h) (Or.inr ⟨by rfl, rfl⟩) (Below.refl _ _) ?_; (try simp only [Act.put, List.setIfInBounds_toArray, List.set_cons_zero, List.set_cons_succ]))
        | (fail "HTAKE 2")
      refine take_in (i := 3) (v := _) rfl (by kernel_rfl) (by kernel_rfl) (by kernel_rfl) (fun _ _ _ h => h) (yields_to (by rfl) k _ _ _ rfl rfl rfl rfl Tryz.underlying22 size_lst hkc) (Below.refl _ _) ?_
      (try simp only [Act.put, List.setIfInBounds_toArray, List.set_cons_zero, List.set_cons_succ])
      refine take_in (i := 4) (v := _) rfl (by kernel_rfl) (by kernel_rfl) (by kernel_rfl) (fun _ _ _ h => h) (yields_load (by rfl) _ _ rfl _ rfl _ _ (fun W hW => (H01.out).below hW) Tryz.underlying42 rfl rfl) (Below.refl _ _) ?_
      (try simp only [Act.put, List.setIfInBounds_toArray, List.set_cons_zero, List.set_cons_succ])
      first
        | (refine take_in (i := 6) (v := ?_) rfl (by kernel_rfl) (by kernel_rfl) (by kernel_rfl) (fun _ _ _ h => h) (Or.inl ⟨by rfl, ?_⟩) (Below.refl _ _) ?_; rotate_left; (focus (intro W hSw; go_simp; (try rfl); done)); (try simp only [Act.put, List.setIfInBounds_toArray, List.set_cons_zero, List.set_cons_succ]))
        | (refine take_in (i := 6) (v := undef) rfl (by kernel_rfl) (by kernel_rfl) (by kernel_rfl) (fun _ _ _ h => h) (Or.inr ⟨by rfl, rfl⟩) (Below.refl _ _) ?_; (try simp only [Act.put, List.setIfInBounds_toArray, List.set_cons_zero, List.set_cons_succ]))
        | (fail "HTAKE 6")
      first
        | (refine take_in (i := 7) (v := ?_) rfl (by kernel_rfl) (by kernel_rfl) (by kernel_rfl) (fun _ _ _ h => h) (Or.inl ⟨by rfl, ?_⟩) (Below.refl _ _) ?_; rotate_left; (focus (intro W hSw; go_simp; (try rfl); done)); (try simp only [Act.put, List.setIfInBounds_toArray, List.set_cons_zero, List.set_cons_succ]))
        | (refine take_in (i := 7) (v := undef) rfl (by kernel_rfl) (by kernel_rfl) (by kernel_rfl) (fun _ _ _ h => h) (Or.inr ⟨by rfl, rfl⟩) (Below.refl _ _) ?_; (try simp only [Act.put, List.setIfInBounds_toArray, List.set_cons_zero, List.set_cons_succ]))
        | (fail "HTAKE 7")
      refine take_in (i := 8) (v := _) rfl (by kernel_rfl) (by kernel_rfl) (by kernel_rfl) (fun _ _ _ h => h) (yields_fromB (by rfl) k _ _ rfl rfl rfl Tryz.underlying22 size_lst (by omega) hB8) (Below.refl _ _) ?_
      (try simp only [Act.put, List.setIfInBounds_toArray, List.set_cons_zero, List.set_cons_succ])
      refine call_in (i := 5) rfl (by kernel_rfl) (by kernel_rfl) (fun K hK => ?_)
      refine wpo_lit1 (cs := [Value.int .u64 i1, .string t1]) (.tmp 41) rfl rfl Tryz.underlying22 info_lst2 rfl (by decide) (by decide) rfl ?_
      have hb2 := below_alloc1 w1 (.cells ([Value.int .u64 i1, .string t1]).toArray 42)
      have hO2 : OwnG (w1.alloc (.cells ([Value.int .u64 i1, .string t1]).toArray 42)) w1.heap.size (fun k => base ≤ k) 42 LIST (.slice (some ⟨w1.heap.size, 0, none⟩) 1 1) [x] := OwnG.lit1 HX1.out (Nat.le_refl _)
      obtain ⟨w2, hw2⟩ : ∃ w2, w1.alloc (.cells ([Value.int .u64 i1, .string t1]).toArray 42) = w2 := ⟨_, rfl⟩
      rw [hw2] at hb2 hO2 ⊢
      have HO2 := Lib.hid hO2
      have HC2 := Lib.hid hb2
      clear hO2 hw2 hb2
      refine hK.out _ _ HC2.out ?_
      (try simp only [Act.put, List.setIfInBounds_toArray, List.set_cons_zero, List.set_cons_succ])
      have hrd8 := rows_from (HR1.out.below HC2.out) hnc k hk
      rw [show (if c = k then A else Option.map (fun x : Addr => x.add (k * Sh.size LIST )) A) = B8 from hB8] at hrd8
      have HRD := Lib.hid hrd8
      clear hrd8 hB8
      obtain ⟨ys, hys, hyat⟩ := HRD.out.cells
      have HY := Lib.hid hys
      have HYA := Lib.hid hyat
      clear hys hyat
      refine call_in (i := 9) rfl (by kernel_rfl) (by kernel_rfl) (fun K hK => ?_)
      refine wpo_appC (S := LIST) (ok := fun k => base ≤ k) (l := [x]) (r := l.drop k) (ys := ys) (.tmp 42) (.tmp 45) rfl rfl rfl HO2.out rfl (fun ad' e => (HYA.out ad' e).2) (fun e => HRD.out.2.1 e) HY.out (by rw [List.length_drop, hn]) Tryz.underlying22 info_lst2 rfl (by decide) (by rw [bytes_lst2]; omega) (by omega) HC2.out.size ?_
      intro v3 w3 hO3 hb3
      obtain ⟨A3, c3, rfl, _, _, _, hR3⟩ := OwnG.form hO3
      have hl3 : ([x] ++ l.drop k).length = n - k + 1 := by rw [List.length_append, List.length_drop, hn]; simp; omega
      rw [hl3] at hR3 ⊢
      have HR3 := Lib.hid (hR3.weak (ok' := fun k => base ≤ k) (fun q hq _ => hq.elim (fun h => Nat.le_trans hBW1 h) id))
      have HC3 := Lib.hid (HC2.out.trans (hb3.mono HC2.out.size))
      clear hO3 hR3
      refine hK.out _ _ hb3 ?_
      (try simp only [Act.put, List.setIfInBounds_toArray, List.set_cons_zero, List.set_cons_succ])
      have HRT := Lib.hid (rows_to (HR1.out.below HC3.out) k hk)
      obtain ⟨xs, hxs, hxat⟩ := HRT.out.cells
      obtain ⟨zs, hzs, hzat⟩ := HR3.out.cells
      have HXX := Lib.hid (And.intro hxs hxat)
      have HZ := Lib.hid (And.intro hzs hzat)
      clear hxs hxat hzs hzat
      refine call_in (i := 10) rfl (by kernel_rfl) (by kernel_rfl) (fun K hK => ?_)
      refine wpo_appG (S := LIST) (ok := fun k => base ≤ k) (l := l.take k) (r := [x] ++ l.drop k) (xs := xs) (ys := zs) (.tmp 40) (.tmp 46) rfl rfl rfl (fun e => ⟨by have := HRT.out.2.1 e; omega, by have := HRT.out.2.1 e; omega⟩) (fun ad e => (HXX.out.2 ad e).2) HXX.out.1 (by rw [List.length_take]; omega) (fun ad e => (HZ.out.2 ad e).2) (fun e => by have := HR3.out.2.1 e; omega) HZ.out.1 (by rw [hl3]) (Nat.le_refl _) (by omega) Tryz.underlying22 info_lst2 rfl (by decide) (by rw [bytes_lst2]; omega) (by omega) ?_
      intro v5 w5 hO5 hg5
      have hB15 : base ≤ w3.heap.size := Nat.le_trans hBW1 HC3.out.size
      have hO5' := own_lower hO5 hB15
      have hb35 : Below w3.heap.size w3 w5 := (Below.refl _ _).grown hg5 (Nat.le_refl _) (fun k e => by cases e)
      have HB5 := Lib.hid (HB1.out.trans ((HC3.out.trans (hb35.mono HC3.out.size)).mono HB1.out.size))
      obtain ⟨A5, c5, rfl, _⟩ := OwnG.form hO5'
      obtain ⟨n5, hn5⟩ : ∃ n5, (l.take k ++ ([x] ++ l.drop k)).length = n5 := ⟨_, rfl⟩
      rw [hn5] at hO5' ⊢
      have HO5 := Lib.hid hO5'
      clear hO5 hO5' hn5
      refine hK.out _ _ hb35 ?_
      (try simp only [Act.put, List.setIfInBounds_toArray, List.set_cons_zero, List.set_cons_succ])
      first
        | (refine take_in (i := 11) (v := ?_) rfl (by kernel_rfl) (by kernel_rfl) (by kernel_rfl) (fun _ _ _ h => h) (Or.inl ⟨by rfl, ?_⟩) (Below.refl _ _) ?_; rotate_left; (focus (intro W hSw; go_simp; (try rfl); done)); (try simp only [Act.put, List.setIfInBounds_toArray, List.set_cons_zero, List.set_cons_succ]))
        | (refine take_in (i := 11) (v := undef) rfl (by kernel_rfl) (by kernel_rfl) (by kernel_rfl) (fun _ _ _ h => h) (Or.inr ⟨by rfl, rfl⟩) (Below.refl _ _) ?_; (try simp only [Act.put, List.setIfInBounds_toArray, List.set_cons_zero, List.set_cons_succ]))
        | (fail "HTAKE 11")
      refine wpAnyH_done (by kernel_rfl) ?_ _
      go_wp2_with fail
      go_ret
      exact ⟨_, rfl, l.take k ++ x :: l.drop k, HO5.out, by simp; omega, rises_ins HS.out HGT.out HD.out, .inr ⟨not_met HS.out HGT.out HD.out, fun z => mem_ins⟩, HB5.out⟩
set_option maxHeartbeats 4000000 in
set_option maxRecDepth 20000 in
theorem witht_any (w : World) (base : Nat) (v : Value) (l : List TASK.Ty) (x : TASK.Ty) (i1 : Int) (l1 : Int) (t1 : ByteArray) (d1 : Bool) (r1 e1 : Nat) (A1 : Option Addr) (n1 c1 : Nat) (cx : List Value) (hxk : x.1 = i1) (hcx : cx = .int .u64 i1 :: [.int .u64 l1, .string t1, .bool d1, .float .f64 r1, .float .f64 e1, .slice A1 n1 c1]) (hl : l.length ≤ 100000) (hO : Own w base 37 TASK v l) (hB : base ≤ w.heap.size) (hX : Rd w (fun k => base ≤ k) TASK x cx) (hr : Rises (fun y : TASK.Ty => y.1) l) :
    Calls Tryz.prog 31 #[v, .agg cx.toArray] w fun e w' => ∃ v' r, e = .returned v' ∧ WithQ w w' base 37 TASK (fun y => y.1) l x v' r := by
  subst hcx
  obtain ⟨A, c, rfl, hnc, hcm, hAc, hR⟩ := Own.form hO
  obtain ⟨n, hn⟩ : ∃ n, l.length = n := ⟨_, rfl⟩
  rw [hn] at hnc hR hl hO ⊢
  have h0 := heap_alloc_new w (.cells ([Value.int .u64 i1, .int .u64 l1, .string t1, .bool d1, .float .f64 r1, .float .f64 e1, .slice A1 n1 c1]).toArray 37)
  have hb0 := below_alloc1 w (.cells ([Value.int .u64 i1, .int .u64 l1, .string t1, .bool d1, .float .f64 r1, .float .f64 e1, .slice A1 n1 c1]).toArray 37)
  obtain ⟨W, hW⟩ : ∃ W, w.alloc (.cells ([Value.int .u64 i1, .int .u64 l1, .string t1, .bool d1, .float .f64 r1, .float .f64 e1, .slice A1 n1 c1]).toArray 37) = W := ⟨_, rfl⟩
  rw [hW] at h0 hb0
  have HR := Lib.hid (hR.below hb0)
  have HX := Lib.hid (hX.below hb0)
  have H0 := Lib.hid h0
  have HB := Lib.hid hb0
  have HS := Lib.hid hr
  have HOw := Lib.hid (hO.below hb0)
  have x0 : W.cell? ⟨w.heap.size, 0, none⟩ = some (.int .u64 i1) := blk_at h0 0 _ rfl
  have hBW : base ≤ W.heap.size := Nat.le_trans hB hb0.size
  clear hR hX h0 hb0 hO hr hcm hAc
  go_enter Tryz.func31, Tryz.ntmps31
  go_wp2_with fail
  clear hW
  go_loopw [5] (fun s5 wr => ∃ k : Nat, k ≤ n ∧ s5 = .int .i64 k ∧ (∀ y ∈ l.take k, y.1 < x.1) ∧ Below W.heap.size W wr) (fun s5 _ => n - (intOf s5).toNat)
  case atStart => exact ⟨0, by omega, rfl, (fun y hy => by simp at hy), Below.refl _ _⟩
  case round =>
    obtain ⟨k, hk, rfl, hgt, hbr⟩ := hrel
    have HBr := Lib.hid hbr
    have x1 := cell_below hbr x0
    have HGT := Lib.hid hgt
    have hkc : k ≤ c := by omega
    have hBWr : base ≤ wr.heap.size := Nat.le_trans hBW hbr.size
    clear hgt hbr
    by_cases hkn : k < n
    · obtain ⟨ad, y, cs, rfl, hy, hat, hrd⟩ := HR.out.get k hkn
      obtain ⟨k1, ll1, tt1, dd1, rr1, ee1, gg1, AA1, cc1, rfl, rfl, okk, _⟩ := rd_task hrd
      have hcy : W.cell? (ad.add (k * 7)) = some (.int .u64 k1) := hat 0 _ rfl
      have hcy := cell_below HBr.out hcy
      have k0 : (0 : Int) ≤ (k : Int) := by omega
      have k2 : (k : Int) < (n : Int) := by omega
      have HYk := Lib.hid hy
      clear hat hrd okk hy
      go_wp2_with fail
      refine region_in (by kernel_rfl) (fun w1 hw1 => ?_)
      have HBr2 := Lib.hid (HBr.out.trans (hw1.mono HBr.out.size))
      have C1 : ∀ W, Below w1.heap.size w1 W → W.cell? (ad.add (k * 7)) = some (.int .u64 k1) := fun W hW => cell_below hW (cell_below hw1 hcy)
      have C0 : ∀ W, Below w1.heap.size w1 W → W.cell? ⟨w.heap.size, 0, none⟩ = some (.int .u64 i1) := fun W hW => cell_below hW (cell_below hw1 x1)
      clear hw1
      first
        | (refine take_in (i := 0) (v := ?_) rfl (by kernel_rfl) (by kernel_rfl) (by kernel_rfl) (fun _ _ _ h => h) (Or.inl ⟨by rfl, ?_⟩) (Below.refl _ _) ?_; rotate_left; (focus (intro W hSw; go_simp; (try rfl); done)); (try simp only [Act.put, List.setIfInBounds_toArray, List.set_cons_zero, List.set_cons_succ]))
        | (refine take_in (i := 0) (v := undef) rfl (by kernel_rfl) (by kernel_rfl) (by kernel_rfl) (fun _ _ _ h => h) (Or.inr ⟨by rfl, rfl⟩) (Below.refl _ _) ?_; (try simp only [Act.put, List.setIfInBounds_toArray, List.set_cons_zero, List.set_cons_succ]))
        | (fail "HTAKE 0")
      first
        | (refine take_in (i := 1) (v := ?_) rfl (by kernel_rfl) (by kernel_rfl) (by kernel_rfl) (fun _ _ _ h => h) (Or.inl ⟨by rfl, ?_⟩) (Below.refl _ _) ?_; rotate_left; (focus (intro W hSw; go_simp; (try rfl); done)); (try simp only [Act.put, List.setIfInBounds_toArray, List.set_cons_zero, List.set_cons_succ]))
        | (refine take_in (i := 1) (v := undef) rfl (by kernel_rfl) (by kernel_rfl) (by kernel_rfl) (fun _ _ _ h => h) (Or.inr ⟨by rfl, rfl⟩) (Below.refl _ _) ?_; (try simp only [Act.put, List.setIfInBounds_toArray, List.set_cons_zero, List.set_cons_succ]))
        | (fail "HTAKE 1")
      first
        | (refine take_in (i := 2) (v := ?_) rfl (by kernel_rfl) (by kernel_rfl) (by kernel_rfl) (fun _ _ _ h => h) (Or.inl ⟨by rfl, ?_⟩) (Below.refl _ _) ?_; rotate_left; (focus (intro W hSw; go_simp; (try rfl); done)); (try simp only [Act.put, List.setIfInBounds_toArray, List.set_cons_zero, List.set_cons_succ]))
        | (refine take_in (i := 2) (v := undef) rfl (by kernel_rfl) (by kernel_rfl) (by kernel_rfl) (fun _ _ _ h => h) (Or.inr ⟨by rfl, rfl⟩) (Below.refl _ _) ?_; (try simp only [Act.put, List.setIfInBounds_toArray, List.set_cons_zero, List.set_cons_succ]))
        | (fail "HTAKE 2")
      first
        | (refine take_in (i := 3) (v := ?_) rfl (by kernel_rfl) (by kernel_rfl) (by kernel_rfl) (fun _ _ _ h => h) (Or.inl ⟨by rfl, ?_⟩) (Below.refl _ _) ?_; rotate_left; (focus (intro W hSw; go_simp; (try rfl); done)); (try simp only [Act.put, List.setIfInBounds_toArray, List.set_cons_zero, List.set_cons_succ]))
        | (refine take_in (i := 3) (v := undef) rfl (by kernel_rfl) (by kernel_rfl) (by kernel_rfl) (fun _ _ _ h => h) (Or.inr ⟨by rfl, rfl⟩) (Below.refl _ _) ?_; (try simp only [Act.put, List.setIfInBounds_toArray, List.set_cons_zero, List.set_cons_succ]))
        | (fail "HTAKE 3")
      first
        | (refine take_in (i := 4) (v := ?_) rfl (by kernel_rfl) (by kernel_rfl) (by kernel_rfl) (fun _ _ _ h => h) (Or.inl ⟨by rfl, ?_⟩) (Below.refl _ _) ?_; rotate_left; (focus (intro W hSw; go_simp; (try rfl); done)); (try simp only [Act.put, List.setIfInBounds_toArray, List.set_cons_zero, List.set_cons_succ]))
        | (refine take_in (i := 4) (v := undef) rfl (by kernel_rfl) (by kernel_rfl) (by kernel_rfl) (fun _ _ _ h => h) (Or.inr ⟨by rfl, rfl⟩) (Below.refl _ _) ?_; (try simp only [Act.put, List.setIfInBounds_toArray, List.set_cons_zero, List.set_cons_succ]))
        | (fail "HTAKE 4")
      first
        | (refine take_in (i := 5) (v := ?_) rfl (by kernel_rfl) (by kernel_rfl) (by kernel_rfl) (fun _ _ _ h => h) (Or.inl ⟨by rfl, ?_⟩) (Below.refl _ _) ?_; rotate_left; (focus (intro W hSw; go_simp; (try rfl); done)); (try simp only [Act.put, List.setIfInBounds_toArray, List.set_cons_zero, List.set_cons_succ]))
        | (refine take_in (i := 5) (v := undef) rfl (by kernel_rfl) (by kernel_rfl) (by kernel_rfl) (fun _ _ _ h => h) (Or.inr ⟨by rfl, rfl⟩) (Below.refl _ _) ?_; (try simp only [Act.put, List.setIfInBounds_toArray, List.set_cons_zero, List.set_cons_succ]))
        | (fail "HTAKE 5")
      first
        | (refine take_in (i := 6) (v := ?_) rfl (by kernel_rfl) (by kernel_rfl) (by kernel_rfl) (fun _ _ _ h => h) (Or.inl ⟨by rfl, ?_⟩) (Below.refl _ _) ?_; rotate_left; (focus (intro W hSw; go_simp; (try rfl); done)); (try simp only [Act.put, List.setIfInBounds_toArray, List.set_cons_zero, List.set_cons_succ]))
        | (refine take_in (i := 6) (v := undef) rfl (by kernel_rfl) (by kernel_rfl) (by kernel_rfl) (fun _ _ _ h => h) (Or.inr ⟨by rfl, rfl⟩) (Below.refl _ _) ?_; (try simp only [Act.put, List.setIfInBounds_toArray, List.set_cons_zero, List.set_cons_succ]))
        | (fail "HTAKE 6")
      first
        | (refine take_in (i := 7) (v := ?_) rfl (by kernel_rfl) (by kernel_rfl) (by kernel_rfl) (fun _ _ _ h => h) (Or.inl ⟨by rfl, ?_⟩) (Below.refl _ _) ?_; rotate_left; (focus (intro W hSw; go_simp; (try rfl); done)); (try simp only [Act.put, List.setIfInBounds_toArray, List.set_cons_zero, List.set_cons_succ]))
        | (refine take_in (i := 7) (v := undef) rfl (by kernel_rfl) (by kernel_rfl) (by kernel_rfl) (fun _ _ _ h => h) (Or.inr ⟨by rfl, rfl⟩) (Below.refl _ _) ?_; (try simp only [Act.put, List.setIfInBounds_toArray, List.set_cons_zero, List.set_cons_succ]))
        | (fail "HTAKE 7")
      first
        | (refine take_in (i := 8) (v := ?_) rfl (by kernel_rfl) (by kernel_rfl) (by kernel_rfl) (fun _ _ _ h => h) (Or.inl ⟨by rfl, ?_⟩) (Below.refl _ _) ?_; rotate_left; (focus (intro W hSw; go_simp; (try rfl); done)); (try simp only [Act.put, List.setIfInBounds_toArray, List.set_cons_zero, List.set_cons_succ]))
        | (refine take_in (i := 8) (v := undef) rfl (by kernel_rfl) (by kernel_rfl) (by kernel_rfl) (fun _ _ _ h => h) (Or.inr ⟨by rfl, rfl⟩) (Below.refl _ _) ?_; (try simp only [Act.put, List.setIfInBounds_toArray, List.set_cons_zero, List.set_cons_succ]))
        | (fail "HTAKE 8")
      first
        | (refine take_in (i := 9) (v := ?_) rfl (by kernel_rfl) (by kernel_rfl) (by kernel_rfl) (fun _ _ _ h => h) (Or.inl ⟨by rfl, ?_⟩) (Below.refl _ _) ?_; rotate_left; (focus (intro W hSw; have C1 := C1 W hSw; go_simp; (try rfl); done)); (try simp only [Act.put, List.setIfInBounds_toArray, List.set_cons_zero, List.set_cons_succ]))
        | (refine take_in (i := 9) (v := undef) rfl (by kernel_rfl) (by kernel_rfl) (by kernel_rfl) (fun _ _ _ h => h) (Or.inr ⟨by rfl, rfl⟩) (Below.refl _ _) ?_; (try simp only [Act.put, List.setIfInBounds_toArray, List.set_cons_zero, List.set_cons_succ]))
        | (fail "HTAKE 9")
      first
        | (refine take_in (i := 10) (v := ?_) rfl (by kernel_rfl) (by kernel_rfl) (by kernel_rfl) (fun _ _ _ h => h) (Or.inl ⟨by rfl, ?_⟩) (Below.refl _ _) ?_; rotate_left; (focus (intro W hSw; go_simp; (try rfl); done)); (try simp only [Act.put, List.setIfInBounds_toArray, List.set_cons_zero, List.set_cons_succ]))
        | (refine take_in (i := 10) (v := undef) rfl (by kernel_rfl) (by kernel_rfl) (by kernel_rfl) (fun _ _ _ h => h) (Or.inr ⟨by rfl, rfl⟩) (Below.refl _ _) ?_; (try simp only [Act.put, List.setIfInBounds_toArray, List.set_cons_zero, List.set_cons_succ]))
        | (fail "HTAKE 10")
      first
        | (refine take_in (i := 11) (v := ?_) rfl (by kernel_rfl) (by kernel_rfl) (by kernel_rfl) (fun _ _ _ h => h) (Or.inl ⟨by rfl, ?_⟩) (Below.refl _ _) ?_; rotate_left; (focus (intro W hSw; have C0 := C0 W hSw; go_simp; (try rfl); done)); (try simp only [Act.put, List.setIfInBounds_toArray, List.set_cons_zero, List.set_cons_succ]))
        | (refine take_in (i := 11) (v := undef) rfl (by kernel_rfl) (by kernel_rfl) (by kernel_rfl) (fun _ _ _ h => h) (Or.inr ⟨by rfl, rfl⟩) (Below.refl _ _) ?_; (try simp only [Act.put, List.setIfInBounds_toArray, List.set_cons_zero, List.set_cons_succ]))
        | (fail "HTAKE 11")
      first
        | (refine take_in (i := 12) (v := ?_) rfl (by kernel_rfl) (by kernel_rfl) (by kernel_rfl) (fun _ _ _ h => h) (Or.inl ⟨by rfl, ?_⟩) (Below.refl _ _) ?_; rotate_left; (focus (intro W hSw; go_simp; (try rfl); done)); (try simp only [Act.put, List.setIfInBounds_toArray, List.set_cons_zero, List.set_cons_succ]))
        | (refine take_in (i := 12) (v := undef) rfl (by kernel_rfl) (by kernel_rfl) (by kernel_rfl) (fun _ _ _ h => h) (Or.inr ⟨by rfl, rfl⟩) (Below.refl _ _) ?_; (try simp only [Act.put, List.setIfInBounds_toArray, List.set_cons_zero, List.set_cons_succ]))
        | (fail "HTAKE 12")
      first
        | (refine take_in (i := 13) (v := ?_) rfl (by kernel_rfl) (by kernel_rfl) (by kernel_rfl) (fun _ _ _ h => h) (Or.inl ⟨by rfl, ?_⟩) (Below.refl _ _) ?_; rotate_left; (focus (intro W hSw; go_simp; (try rfl); done)); (try simp only [Act.put, List.setIfInBounds_toArray, List.set_cons_zero, List.set_cons_succ]))
        | (refine take_in (i := 13) (v := undef) rfl (by kernel_rfl) (by kernel_rfl) (by kernel_rfl) (fun _ _ _ h => h) (Or.inr ⟨by rfl, rfl⟩) (Below.refl _ _) ?_; (try simp only [Act.put, List.setIfInBounds_toArray, List.set_cons_zero, List.set_cons_succ]))
        | (fail "HTAKE 13")
      refine wpAnyH_done (by kernel_rfl) ?_ _
      by_cases hlt : k1 < i1
      · have HGT2 := Lib.hid (take_keys (key := fun y : TASK.Ty => y.1) (x := x) HGT.out HYk.out (by show k1 < x.1; rw [hxk]; exact hlt))
        clear C1 C0
        go_wp2_with fail
        go_roundw
        case measure => simp [intOf]; omega
        case rel => exact ⟨k + 1, by omega, by go_num, HGT2.out, HBr2.out⟩
      · have c1' := C1 w1 (Below.refl _ _)
        have c0' := C0 w1 (Below.refl _ _)
        clear C1 C0
        go_wp2_with fail
        refine region_in (by kernel_rfl) (fun w2 hw1 => ?_)
        have HBr3 := Lib.hid (HBr2.out.trans (hw1.mono HBr2.out.size))
        have C1 : ∀ W, Below w2.heap.size w2 W → W.cell? (ad.add (k * 7)) = some (.int .u64 k1) := fun W hW => cell_below hW (cell_below hw1 c1')
        have C0 : ∀ W, Below w2.heap.size w2 W → W.cell? ⟨w.heap.size, 0, none⟩ = some (.int .u64 i1) := fun W hW => cell_below hW (cell_below hw1 c0')
        clear hw1
        first
          | (refine take_in (i := 0) (v := ?_) rfl (by kernel_rfl) (by kernel_rfl) (by kernel_rfl) (fun _ _ _ h => h) (Or.inl ⟨by rfl, ?_⟩) (Below.refl _ _) ?_; rotate_left; (focus (intro W hSw; go_simp; (try rfl); done)); (try simp only [Act.put, List.setIfInBounds_toArray, List.set_cons_zero, List.set_cons_succ]))
          | (refine take_in (i := 0) (v := undef) rfl (by kernel_rfl) (by kernel_rfl) (by kernel_rfl) (fun _ _ _ h => h) (Or.inr ⟨by rfl, rfl⟩) (Below.refl _ _) ?_; (try simp only [Act.put, List.setIfInBounds_toArray, List.set_cons_zero, List.set_cons_succ]))
          | (fail "HTAKE 0")
        first
          | (refine take_in (i := 1) (v := ?_) rfl (by kernel_rfl) (by kernel_rfl) (by kernel_rfl) (fun _ _ _ h => h) (Or.inl ⟨by rfl, ?_⟩) (Below.refl _ _) ?_; rotate_left; (focus (intro W hSw; go_simp; (try rfl); done)); (try simp only [Act.put, List.setIfInBounds_toArray, List.set_cons_zero, List.set_cons_succ]))
          | (refine take_in (i := 1) (v := undef) rfl (by kernel_rfl) (by kernel_rfl) (by kernel_rfl) (fun _ _ _ h => h) (Or.inr ⟨by rfl, rfl⟩) (Below.refl _ _) ?_; (try simp only [Act.put, List.setIfInBounds_toArray, List.set_cons_zero, List.set_cons_succ]))
          | (fail "HTAKE 1")
        first
          | (refine take_in (i := 2) (v := ?_) rfl (by kernel_rfl) (by kernel_rfl) (by kernel_rfl) (fun _ _ _ h => h) (Or.inl ⟨by rfl, ?_⟩) (Below.refl _ _) ?_; rotate_left; (focus (intro W hSw; go_simp; (try rfl); done)); (try simp only [Act.put, List.setIfInBounds_toArray, List.set_cons_zero, List.set_cons_succ]))
          | (refine take_in (i := 2) (v := undef) rfl (by kernel_rfl) (by kernel_rfl) (by kernel_rfl) (fun _ _ _ h => h) (Or.inr ⟨by rfl, rfl⟩) (Below.refl _ _) ?_; (try simp only [Act.put, List.setIfInBounds_toArray, List.set_cons_zero, List.set_cons_succ]))
          | (fail "HTAKE 2")
        first
          | (refine take_in (i := 3) (v := ?_) rfl (by kernel_rfl) (by kernel_rfl) (by kernel_rfl) (fun _ _ _ h => h) (Or.inl ⟨by rfl, ?_⟩) (Below.refl _ _) ?_; rotate_left; (focus (intro W hSw; go_simp; (try rfl); done)); (try simp only [Act.put, List.setIfInBounds_toArray, List.set_cons_zero, List.set_cons_succ]))
          | (refine take_in (i := 3) (v := undef) rfl (by kernel_rfl) (by kernel_rfl) (by kernel_rfl) (fun _ _ _ h => h) (Or.inr ⟨by rfl, rfl⟩) (Below.refl _ _) ?_; (try simp only [Act.put, List.setIfInBounds_toArray, List.set_cons_zero, List.set_cons_succ]))
          | (fail "HTAKE 3")
        first
          | (refine take_in (i := 4) (v := ?_) rfl (by kernel_rfl) (by kernel_rfl) (by kernel_rfl) (fun _ _ _ h => h) (Or.inl ⟨by rfl, ?_⟩) (Below.refl _ _) ?_; rotate_left; (focus (intro W hSw; go_simp; (try rfl); done)); (try simp only [Act.put, List.setIfInBounds_toArray, List.set_cons_zero, List.set_cons_succ]))
          | (refine take_in (i := 4) (v := undef) rfl (by kernel_rfl) (by kernel_rfl) (by kernel_rfl) (fun _ _ _ h => h) (Or.inr ⟨by rfl, rfl⟩) (Below.refl _ _) ?_; (try simp only [Act.put, List.setIfInBounds_toArray, List.set_cons_zero, List.set_cons_succ]))
          | (fail "HTAKE 4")
        first
          | (refine take_in (i := 5) (v := ?_) rfl (by kernel_rfl) (by kernel_rfl) (by kernel_rfl) (fun _ _ _ h => h) (Or.inl ⟨by rfl, ?_⟩) (Below.refl _ _) ?_; rotate_left; (focus (intro W hSw; go_simp; (try rfl); done)); (try simp only [Act.put, List.setIfInBounds_toArray, List.set_cons_zero, List.set_cons_succ]))
          | (refine take_in (i := 5) (v := undef) rfl (by kernel_rfl) (by kernel_rfl) (by kernel_rfl) (fun _ _ _ h => h) (Or.inr ⟨by rfl, rfl⟩) (Below.refl _ _) ?_; (try simp only [Act.put, List.setIfInBounds_toArray, List.set_cons_zero, List.set_cons_succ]))
          | (fail "HTAKE 5")
        first
          | (refine take_in (i := 6) (v := ?_) rfl (by kernel_rfl) (by kernel_rfl) (by kernel_rfl) (fun _ _ _ h => h) (Or.inl ⟨by rfl, ?_⟩) (Below.refl _ _) ?_; rotate_left; (focus (intro W hSw; go_simp; (try rfl); done)); (try simp only [Act.put, List.setIfInBounds_toArray, List.set_cons_zero, List.set_cons_succ]))
          | (refine take_in (i := 6) (v := undef) rfl (by kernel_rfl) (by kernel_rfl) (by kernel_rfl) (fun _ _ _ h => h) (Or.inr ⟨by rfl, rfl⟩) (Below.refl _ _) ?_; (try simp only [Act.put, List.setIfInBounds_toArray, List.set_cons_zero, List.set_cons_succ]))
          | (fail "HTAKE 6")
        first
          | (refine take_in (i := 7) (v := ?_) rfl (by kernel_rfl) (by kernel_rfl) (by kernel_rfl) (fun _ _ _ h => h) (Or.inl ⟨by rfl, ?_⟩) (Below.refl _ _) ?_; rotate_left; (focus (intro W hSw; go_simp; (try rfl); done)); (try simp only [Act.put, List.setIfInBounds_toArray, List.set_cons_zero, List.set_cons_succ]))
          | (refine take_in (i := 7) (v := undef) rfl (by kernel_rfl) (by kernel_rfl) (by kernel_rfl) (fun _ _ _ h => h) (Or.inr ⟨by rfl, rfl⟩) (Below.refl _ _) ?_; (try simp only [Act.put, List.setIfInBounds_toArray, List.set_cons_zero, List.set_cons_succ]))
          | (fail "HTAKE 7")
        first
          | (refine take_in (i := 8) (v := ?_) rfl (by kernel_rfl) (by kernel_rfl) (by kernel_rfl) (fun _ _ _ h => h) (Or.inl ⟨by rfl, ?_⟩) (Below.refl _ _) ?_; rotate_left; (focus (intro W hSw; go_simp; (try rfl); done)); (try simp only [Act.put, List.setIfInBounds_toArray, List.set_cons_zero, List.set_cons_succ]))
          | (refine take_in (i := 8) (v := undef) rfl (by kernel_rfl) (by kernel_rfl) (by kernel_rfl) (fun _ _ _ h => h) (Or.inr ⟨by rfl, rfl⟩) (Below.refl _ _) ?_; (try simp only [Act.put, List.setIfInBounds_toArray, List.set_cons_zero, List.set_cons_succ]))
          | (fail "HTAKE 8")
        first
          | (refine take_in (i := 9) (v := ?_) rfl (by kernel_rfl) (by kernel_rfl) (by kernel_rfl) (fun _ _ _ h => h) (Or.inl ⟨by rfl, ?_⟩) (Below.refl _ _) ?_; rotate_left; (focus (intro W hSw; have C1 := C1 W hSw; go_simp; (try rfl); done)); (try simp only [Act.put, List.setIfInBounds_toArray, List.set_cons_zero, List.set_cons_succ]))
          | (refine take_in (i := 9) (v := undef) rfl (by kernel_rfl) (by kernel_rfl) (by kernel_rfl) (fun _ _ _ h => h) (Or.inr ⟨by rfl, rfl⟩) (Below.refl _ _) ?_; (try simp only [Act.put, List.setIfInBounds_toArray, List.set_cons_zero, List.set_cons_succ]))
          | (fail "HTAKE 9")
        first
          | (refine take_in (i := 10) (v := ?_) rfl (by kernel_rfl) (by kernel_rfl) (by kernel_rfl) (fun _ _ _ h => h) (Or.inl ⟨by rfl, ?_⟩) (Below.refl _ _) ?_; rotate_left; (focus (intro W hSw; go_simp; (try rfl); done)); (try simp only [Act.put, List.setIfInBounds_toArray, List.set_cons_zero, List.set_cons_succ]))
          | (refine take_in (i := 10) (v := undef) rfl (by kernel_rfl) (by kernel_rfl) (by kernel_rfl) (fun _ _ _ h => h) (Or.inr ⟨by rfl, rfl⟩) (Below.refl _ _) ?_; (try simp only [Act.put, List.setIfInBounds_toArray, List.set_cons_zero, List.set_cons_succ]))
          | (fail "HTAKE 10")
        first
          | (refine take_in (i := 11) (v := ?_) rfl (by kernel_rfl) (by kernel_rfl) (by kernel_rfl) (fun _ _ _ h => h) (Or.inl ⟨by rfl, ?_⟩) (Below.refl _ _) ?_; rotate_left; (focus (intro W hSw; have C0 := C0 W hSw; go_simp; (try rfl); done)); (try simp only [Act.put, List.setIfInBounds_toArray, List.set_cons_zero, List.set_cons_succ]))
          | (refine take_in (i := 11) (v := undef) rfl (by kernel_rfl) (by kernel_rfl) (by kernel_rfl) (fun _ _ _ h => h) (Or.inr ⟨by rfl, rfl⟩) (Below.refl _ _) ?_; (try simp only [Act.put, List.setIfInBounds_toArray, List.set_cons_zero, List.set_cons_succ]))
          | (fail "HTAKE 11")
        first
          | (refine take_in (i := 12) (v := ?_) rfl (by kernel_rfl) (by kernel_rfl) (by kernel_rfl) (fun _ _ _ h => h) (Or.inl ⟨by rfl, ?_⟩) (Below.refl _ _) ?_; rotate_left; (focus (intro W hSw; go_simp; (try rfl); done)); (try simp only [Act.put, List.setIfInBounds_toArray, List.set_cons_zero, List.set_cons_succ]))
          | (refine take_in (i := 12) (v := undef) rfl (by kernel_rfl) (by kernel_rfl) (by kernel_rfl) (fun _ _ _ h => h) (Or.inr ⟨by rfl, rfl⟩) (Below.refl _ _) ?_; (try simp only [Act.put, List.setIfInBounds_toArray, List.set_cons_zero, List.set_cons_succ]))
          | (fail "HTAKE 12")
        first
          | (refine take_in (i := 13) (v := ?_) rfl (by kernel_rfl) (by kernel_rfl) (by kernel_rfl) (fun _ _ _ h => h) (Or.inl ⟨by rfl, ?_⟩) (Below.refl _ _) ?_; rotate_left; (focus (intro W hSw; go_simp; (try rfl); done)); (try simp only [Act.put, List.setIfInBounds_toArray, List.set_cons_zero, List.set_cons_succ]))
          | (refine take_in (i := 13) (v := undef) rfl (by kernel_rfl) (by kernel_rfl) (by kernel_rfl) (fun _ _ _ h => h) (Or.inr ⟨by rfl, rfl⟩) (Below.refl _ _) ?_; (try simp only [Act.put, List.setIfInBounds_toArray, List.set_cons_zero, List.set_cons_succ]))
          | (fail "HTAKE 13")
        refine wpAnyH_done (by kernel_rfl) ?_ _
        by_cases heq : k1 = i1
        · subst heq
          have HE := Lib.hid (show ∃ z ∈ l, z.1 = x.1 from ⟨_, List.mem_of_getElem? HYk.out, hxk.symm⟩)
          clear C1 C0
          go_wp2_with fail
          go_ret
          exact ⟨_, l, rfl, HOw.out.below HBr3.out, by omega, HS.out, .inl ⟨rfl, HE.out⟩, HB.out.trans (HBr3.out.mono HB.out.size)⟩
        · have heqb : (k1 == i1) = false := beq_false_of_ne heq
          have HD := Lib.hid (rises_drop (key := fun y : TASK.Ty => y.1) (x := x) HS.out HYk.out (by show x.1 < k1; rw [hxk]; exact (by omega : i1 < k1)))
          clear C1 C0 heq
          go_wp2_with fail
          have HR3 := Lib.hid (HR.out.below HBr3.out)
          have HX3 := Lib.hid (HX.out.below HBr3.out)
          have H03 := Lib.hid (blk_below H0.out HBr3.out (blk_lt H0.out))
          have HB3 := Lib.hid (HB.out.trans (HBr3.out.mono HB.out.size))
          have hBW3 : base ≤ w2.heap.size := Nat.le_trans hBW HBr3.out.size
          obtain ⟨B8, hB8⟩ : ∃ B8 : Option Addr, (if c = k then (some ad) else Option.map (fun x : Addr => x.add (k * 7)) (some ad)) = B8 := ⟨_, rfl⟩
          refine region_in (by kernel_rfl) (fun w1 hw1 => ?_)
          have HR1 := Lib.hid (HR3.out.below hw1)
          have HB1 := Lib.hid (HB3.out.trans (hw1.mono HB3.out.size))
          have HX1 := Lib.hid (HX3.out.below hw1)
          have H01 := Lib.hid (At.blk (blk_below H03.out hw1 (blk_lt H03.out)))
          have hBW1 : base ≤ w1.heap.size := Nat.le_trans hBW3 hw1.size
          clear HR3 HB3
          first
            | (refine take_in (i := 0) (v := ?_) rfl (by kernel_rfl) (by kernel_rfl) (by kernel_rfl) (fun _ _ _ h => h) (Or.inl ⟨by rfl, ?_⟩) (Below.refl _ _) ?_; rotate_left; (focus (intro W hSw; go_simp; (try rfl); done)); (try simp only [Act.put, List.setIfInBounds_toArray, List.set_cons_zero, List.set_cons_succ]))
            | (refine take_in (i := 0) (v := undef) rfl (by kernel_rfl) (by kernel_rfl) (by kernel_rfl) (fun _ _ _ h => h) (Or.inr ⟨by rfl, rfl⟩) (Below.refl _ _) ?_; (try simp only [Act.put, List.setIfInBounds_toArray, List.set_cons_zero, List.set_cons_succ]))
            | (fail "HTAKE 0")
          first
            | (refine take_in (i := 1) (v := ?_) rfl (by kernel_rfl) (by kernel_rfl) (by kernel_rfl) (fun _ _ _ h => h) (Or.inl ⟨by rfl, ?_⟩) (Below.refl _ _) ?_; rotate_left; (focus (intro W hSw; go_simp; (try rfl); done)); (try simp only [Act.put, List.setIfInBounds_toArray, List.set_cons_zero, List.set_cons_succ]))
            | (refine take_in (i := 1) (v := undef) rfl (by kernel_rfl) (by kernel_rfl) (by kernel_rfl) (fun _ _ _ h => h) (Or.inr ⟨by rfl, rfl⟩) (Below.refl _ _) ?_; (try simp only [Act.put, List.setIfInBounds_toArray, List.set_cons_zero, List.set_cons_succ]))
            | (fail "HTAKE 1")
          first
            | (refine take_in (i := 2) (v := ?_) rfl (by kernel_rfl) (by kernel_rfl) (by kernel_rfl) (fun _ _ _ h => h) (Or.inl ⟨by rfl, ?_⟩) (Below.refl _ _) ?_; rotate_left; (focus (intro W hSw; go_simp; (try rfl); done)); (try simp only [Act.put, List.setIfInBounds_toArray, List.set_cons_zero, List.set_cons_succ]))
            | (refine take_in (i := 2) (v := undef) rfl (by kernel_rfl) (by kernel_rfl) (by kernel_rfl) (fun _ _ _ h => h) (Or.inr ⟨by rfl, rfl⟩) (Below.refl _ _) ?_; (try simp only [Act.put, List.setIfInBounds_toArray, List.set_cons_zero, List.set_cons_succ]))
            | (fail "HTAKE 2")
          refine take_in (i := 3) (v := _) rfl (by kernel_rfl) (by kernel_rfl) (by kernel_rfl) (fun _ _ _ h => h) (yields_to (by rfl) k _ _ _ rfl rfl rfl rfl Tryz.underlying23 size_task hkc) (Below.refl _ _) ?_
          (try simp only [Act.put, List.setIfInBounds_toArray, List.set_cons_zero, List.set_cons_succ])
          refine take_in (i := 4) (v := _) rfl (by kernel_rfl) (by kernel_rfl) (by kernel_rfl) (fun _ _ _ h => h) (yields_load (by rfl) _ _ rfl _ rfl _ _ (fun W hW => (H01.out).below hW) Tryz.underlying37 rfl rfl) (Below.refl _ _) ?_
          (try simp only [Act.put, List.setIfInBounds_toArray, List.set_cons_zero, List.set_cons_succ])
          first
            | (refine take_in (i := 6) (v := ?_) rfl (by kernel_rfl) (by kernel_rfl) (by kernel_rfl) (fun _ _ _ h => h) (Or.inl ⟨by rfl, ?_⟩) (Below.refl _ _) ?_; rotate_left; (focus (intro W hSw; go_simp; (try rfl); done)); (try simp only [Act.put, List.setIfInBounds_toArray, List.set_cons_zero, List.set_cons_succ]))
            | (refine take_in (i := 6) (v := undef) rfl (by kernel_rfl) (by kernel_rfl) (by kernel_rfl) (fun _ _ _ h => h) (Or.inr ⟨by rfl, rfl⟩) (Below.refl _ _) ?_; (try simp only [Act.put, List.setIfInBounds_toArray, List.set_cons_zero, List.set_cons_succ]))
            | (fail "HTAKE 6")
          first
            | (refine take_in (i := 7) (v := ?_) rfl (by kernel_rfl) (by kernel_rfl) (by kernel_rfl) (fun _ _ _ h => h) (Or.inl ⟨by rfl, ?_⟩) (Below.refl _ _) ?_; rotate_left; (focus (intro W hSw; go_simp; (try rfl); done)); (try simp only [Act.put, List.setIfInBounds_toArray, List.set_cons_zero, List.set_cons_succ]))
            | (refine take_in (i := 7) (v := undef) rfl (by kernel_rfl) (by kernel_rfl) (by kernel_rfl) (fun _ _ _ h => h) (Or.inr ⟨by rfl, rfl⟩) (Below.refl _ _) ?_; (try simp only [Act.put, List.setIfInBounds_toArray, List.set_cons_zero, List.set_cons_succ]))
            | (fail "HTAKE 7")
          refine take_in (i := 8) (v := _) rfl (by kernel_rfl) (by kernel_rfl) (by kernel_rfl) (fun _ _ _ h => h) (yields_fromB (by rfl) k _ _ rfl rfl rfl Tryz.underlying23 size_task (by omega) hB8) (Below.refl _ _) ?_
          (try simp only [Act.put, List.setIfInBounds_toArray, List.set_cons_zero, List.set_cons_succ])
          refine call_in (i := 5) rfl (by kernel_rfl) (by kernel_rfl) (fun K hK => ?_)
          refine wpo_lit1 (cs := [Value.int .u64 i1, .int .u64 l1, .string t1, .bool d1, .float .f64 r1, .float .f64 e1, .slice A1 n1 c1]) (.tmp 41) rfl rfl Tryz.underlying23 info_task2 rfl (by decide) (by decide) rfl ?_
          have hb2 := below_alloc1 w1 (.cells ([Value.int .u64 i1, .int .u64 l1, .string t1, .bool d1, .float .f64 r1, .float .f64 e1, .slice A1 n1 c1]).toArray 37)
          have hO2 : OwnG (w1.alloc (.cells ([Value.int .u64 i1, .int .u64 l1, .string t1, .bool d1, .float .f64 r1, .float .f64 e1, .slice A1 n1 c1]).toArray 37)) w1.heap.size (fun k => base ≤ k) 37 TASK (.slice (some ⟨w1.heap.size, 0, none⟩) 1 1) [x] := OwnG.lit1 HX1.out (Nat.le_refl _)
          obtain ⟨w2, hw2⟩ : ∃ w2, w1.alloc (.cells ([Value.int .u64 i1, .int .u64 l1, .string t1, .bool d1, .float .f64 r1, .float .f64 e1, .slice A1 n1 c1]).toArray 37) = w2 := ⟨_, rfl⟩
          rw [hw2] at hb2 hO2 ⊢
          have HO2 := Lib.hid hO2
          have HC2 := Lib.hid hb2
          clear hO2 hw2 hb2
          refine hK.out _ _ HC2.out ?_
          (try simp only [Act.put, List.setIfInBounds_toArray, List.set_cons_zero, List.set_cons_succ])
          have hrd8 := rows_from (HR1.out.below HC2.out) hnc k hk
          rw [show (if c = k then (some ad) else Option.map (fun x : Addr => x.add (k * Sh.size TASK )) (some ad)) = B8 from hB8] at hrd8
          have HRD := Lib.hid hrd8
          clear hrd8 hB8
          obtain ⟨ys, hys, hyat⟩ := HRD.out.cells
          have HY := Lib.hid hys
          have HYA := Lib.hid hyat
          clear hys hyat
          refine call_in (i := 9) rfl (by kernel_rfl) (by kernel_rfl) (fun K hK => ?_)
          refine wpo_appC (S := TASK) (ok := fun k => base ≤ k) (l := [x]) (r := l.drop k) (ys := ys) (.tmp 42) (.tmp 45) rfl rfl rfl HO2.out rfl (fun ad' e => (HYA.out ad' e).2) (fun e => HRD.out.2.1 e) HY.out (by rw [List.length_drop, hn]) Tryz.underlying23 info_task2 rfl (by decide) (by rw [bytes_task2]; omega) (by omega) HC2.out.size ?_
          intro v3 w3 hO3 hb3
          obtain ⟨A3, c3, rfl, _, _, _, hR3⟩ := OwnG.form hO3
          have hl3 : ([x] ++ l.drop k).length = n - k + 1 := by rw [List.length_append, List.length_drop, hn]; simp; omega
          rw [hl3] at hR3 ⊢
          have HR3 := Lib.hid (hR3.weak (ok' := fun k => base ≤ k) (fun q hq _ => hq.elim (fun h => Nat.le_trans hBW1 h) id))
          have HC3 := Lib.hid (HC2.out.trans (hb3.mono HC2.out.size))
          clear hO3 hR3
          refine hK.out _ _ hb3 ?_
          (try simp only [Act.put, List.setIfInBounds_toArray, List.set_cons_zero, List.set_cons_succ])
          have HRT := Lib.hid (rows_to (HR1.out.below HC3.out) k hk)
          obtain ⟨xs, hxs, hxat⟩ := HRT.out.cells
          obtain ⟨zs, hzs, hzat⟩ := HR3.out.cells
          have HXX := Lib.hid (And.intro hxs hxat)
          have HZ := Lib.hid (And.intro hzs hzat)
          clear hxs hxat hzs hzat
          refine call_in (i := 10) rfl (by kernel_rfl) (by kernel_rfl) (fun K hK => ?_)
          refine wpo_appG (S := TASK) (ok := fun k => base ≤ k) (l := l.take k) (r := [x] ++ l.drop k) (xs := xs) (ys := zs) (.tmp 40) (.tmp 46) rfl rfl rfl (fun e => ⟨by have := HRT.out.2.1 e; omega, by have := HRT.out.2.1 e; omega⟩) (fun ad e => (HXX.out.2 ad e).2) HXX.out.1 (by rw [List.length_take]; omega) (fun ad e => (HZ.out.2 ad e).2) (fun e => by have := HR3.out.2.1 e; omega) HZ.out.1 (by rw [hl3]) (Nat.le_refl _) (by omega) Tryz.underlying23 info_task2 rfl (by decide) (by rw [bytes_task2]; omega) (by omega) ?_
          intro v5 w5 hO5 hg5
          have hB15 : base ≤ w3.heap.size := Nat.le_trans hBW1 HC3.out.size
          have hO5' := own_lower hO5 hB15
          have hb35 : Below w3.heap.size w3 w5 := (Below.refl _ _).grown hg5 (Nat.le_refl _) (fun k e => by cases e)
          have HB5 := Lib.hid (HB1.out.trans ((HC3.out.trans (hb35.mono HC3.out.size)).mono HB1.out.size))
          obtain ⟨A5, c5, rfl, _⟩ := OwnG.form hO5'
          obtain ⟨n5, hn5⟩ : ∃ n5, (l.take k ++ ([x] ++ l.drop k)).length = n5 := ⟨_, rfl⟩
          rw [hn5] at hO5' ⊢
          have HO5 := Lib.hid hO5'
          clear hO5 hO5' hn5
          refine hK.out _ _ hb35 ?_
          (try simp only [Act.put, List.setIfInBounds_toArray, List.set_cons_zero, List.set_cons_succ])
          first
            | (refine take_in (i := 11) (v := ?_) rfl (by kernel_rfl) (by kernel_rfl) (by kernel_rfl) (fun _ _ _ h => h) (Or.inl ⟨by rfl, ?_⟩) (Below.refl _ _) ?_; rotate_left; (focus (intro W hSw; go_simp; (try rfl); done)); (try simp only [Act.put, List.setIfInBounds_toArray, List.set_cons_zero, List.set_cons_succ]))
            | (refine take_in (i := 11) (v := undef) rfl (by kernel_rfl) (by kernel_rfl) (by kernel_rfl) (fun _ _ _ h => h) (Or.inr ⟨by rfl, rfl⟩) (Below.refl _ _) ?_; (try simp only [Act.put, List.setIfInBounds_toArray, List.set_cons_zero, List.set_cons_succ]))
            | (fail "HTAKE 11")
          refine wpAnyH_done (by kernel_rfl) ?_ _
          go_wp2_with fail
          go_ret
          exact ⟨_, rfl, l.take k ++ x :: l.drop k, HO5.out, by simp; omega, rises_ins HS.out HGT.out HD.out, .inr ⟨not_met HS.out HGT.out HD.out, fun z => mem_ins⟩, HB5.out⟩
    · have HD := Lib.hid (show ∀ z ∈ l.drop k, x.1 < z.1 from fun z hz => by rw [List.drop_eq_nil_of_le (by omega)] at hz; cases hz)
      have k2 : ¬ (k : Int) < (n : Int) := by omega
      go_wp2_with fail
      refine region_in (by kernel_rfl) (fun w1 hw1 => ?_)
      have HBr2 := Lib.hid (HBr.out.trans (hw1.mono HBr.out.size))
      clear hw1
      first
        | (refine take_in (i := 0) (v := ?_) rfl (by kernel_rfl) (by kernel_rfl) (by kernel_rfl) (fun _ _ _ h => h) (Or.inl ⟨by rfl, ?_⟩) (Below.refl _ _) ?_; rotate_left; (focus (intro W hSw; go_simp; (try rfl); done)); (try simp only [Act.put, List.setIfInBounds_toArray, List.set_cons_zero, List.set_cons_succ]))
        | (refine take_in (i := 0) (v := undef) rfl (by kernel_rfl) (by kernel_rfl) (by kernel_rfl) (fun _ _ _ h => h) (Or.inr ⟨by rfl, rfl⟩) (Below.refl _ _) ?_; (try simp only [Act.put, List.setIfInBounds_toArray, List.set_cons_zero, List.set_cons_succ]))
        | (fail "HTAKE 0")
      first
        | (refine take_in (i := 1) (v := ?_) rfl (by kernel_rfl) (by kernel_rfl) (by kernel_rfl) (fun _ _ _ h => h) (Or.inl ⟨by rfl, ?_⟩) (Below.refl _ _) ?_; rotate_left; (focus (intro W hSw; go_simp; (try rfl); done)); (try simp only [Act.put, List.setIfInBounds_toArray, List.set_cons_zero, List.set_cons_succ]))
        | (refine take_in (i := 1) (v := undef) rfl (by kernel_rfl) (by kernel_rfl) (by kernel_rfl) (fun _ _ _ h => h) (Or.inr ⟨by rfl, rfl⟩) (Below.refl _ _) ?_; (try simp only [Act.put, List.setIfInBounds_toArray, List.set_cons_zero, List.set_cons_succ]))
        | (fail "HTAKE 1")
      first
        | (refine take_in (i := 2) (v := ?_) rfl (by kernel_rfl) (by kernel_rfl) (by kernel_rfl) (fun _ _ _ h => h) (Or.inl ⟨by rfl, ?_⟩) (Below.refl _ _) ?_; rotate_left; (focus (intro W hSw; go_simp; (try rfl); done)); (try simp only [Act.put, List.setIfInBounds_toArray, List.set_cons_zero, List.set_cons_succ]))
        | (refine take_in (i := 2) (v := undef) rfl (by kernel_rfl) (by kernel_rfl) (by kernel_rfl) (fun _ _ _ h => h) (Or.inr ⟨by rfl, rfl⟩) (Below.refl _ _) ?_; (try simp only [Act.put, List.setIfInBounds_toArray, List.set_cons_zero, List.set_cons_succ]))
        | (fail "HTAKE 2")
      first
        | (refine take_in (i := 3) (v := ?_) rfl (by kernel_rfl) (by kernel_rfl) (by kernel_rfl) (fun _ _ _ h => h) (Or.inl ⟨by rfl, ?_⟩) (Below.refl _ _) ?_; rotate_left; (focus (intro W hSw; go_simp; (try rfl); done)); (try simp only [Act.put, List.setIfInBounds_toArray, List.set_cons_zero, List.set_cons_succ]))
        | (refine take_in (i := 3) (v := undef) rfl (by kernel_rfl) (by kernel_rfl) (by kernel_rfl) (fun _ _ _ h => h) (Or.inr ⟨by rfl, rfl⟩) (Below.refl _ _) ?_; (try simp only [Act.put, List.setIfInBounds_toArray, List.set_cons_zero, List.set_cons_succ]))
        | (fail "HTAKE 3")
      first
        | (refine take_in (i := 4) (v := ?_) rfl (by kernel_rfl) (by kernel_rfl) (by kernel_rfl) (fun _ _ _ h => h) (Or.inl ⟨by rfl, ?_⟩) (Below.refl _ _) ?_; rotate_left; (focus (intro W hSw; go_simp; (try rfl); done)); (try simp only [Act.put, List.setIfInBounds_toArray, List.set_cons_zero, List.set_cons_succ]))
        | (refine take_in (i := 4) (v := undef) rfl (by kernel_rfl) (by kernel_rfl) (by kernel_rfl) (fun _ _ _ h => h) (Or.inr ⟨by rfl, rfl⟩) (Below.refl _ _) ?_; (try simp only [Act.put, List.setIfInBounds_toArray, List.set_cons_zero, List.set_cons_succ]))
        | (fail "HTAKE 4")
      first
        | (refine take_in (i := 5) (v := ?_) rfl (by kernel_rfl) (by kernel_rfl) (by kernel_rfl) (fun _ _ _ h => h) (Or.inl ⟨by rfl, ?_⟩) (Below.refl _ _) ?_; rotate_left; (focus (intro W hSw; go_simp; (try rfl); done)); (try simp only [Act.put, List.setIfInBounds_toArray, List.set_cons_zero, List.set_cons_succ]))
        | (refine take_in (i := 5) (v := undef) rfl (by kernel_rfl) (by kernel_rfl) (by kernel_rfl) (fun _ _ _ h => h) (Or.inr ⟨by rfl, rfl⟩) (Below.refl _ _) ?_; (try simp only [Act.put, List.setIfInBounds_toArray, List.set_cons_zero, List.set_cons_succ]))
        | (fail "HTAKE 5")
      first
        | (refine take_in (i := 6) (v := ?_) rfl (by kernel_rfl) (by kernel_rfl) (by kernel_rfl) (fun _ _ _ h => h) (Or.inl ⟨by rfl, ?_⟩) (Below.refl _ _) ?_; rotate_left; (focus (intro W hSw; go_simp; (try rfl); done)); (try simp only [Act.put, List.setIfInBounds_toArray, List.set_cons_zero, List.set_cons_succ]))
        | (refine take_in (i := 6) (v := undef) rfl (by kernel_rfl) (by kernel_rfl) (by kernel_rfl) (fun _ _ _ h => h) (Or.inr ⟨by rfl, rfl⟩) (Below.refl _ _) ?_; (try simp only [Act.put, List.setIfInBounds_toArray, List.set_cons_zero, List.set_cons_succ]))
        | (fail "HTAKE 6")
      first
        | (refine take_in (i := 7) (v := ?_) rfl (by kernel_rfl) (by kernel_rfl) (by kernel_rfl) (fun _ _ _ h => h) (Or.inl ⟨by rfl, ?_⟩) (Below.refl _ _) ?_; rotate_left; (focus (intro W hSw; go_simp; (try rfl); done)); (try simp only [Act.put, List.setIfInBounds_toArray, List.set_cons_zero, List.set_cons_succ]))
        | (refine take_in (i := 7) (v := undef) rfl (by kernel_rfl) (by kernel_rfl) (by kernel_rfl) (fun _ _ _ h => h) (Or.inr ⟨by rfl, rfl⟩) (Below.refl _ _) ?_; (try simp only [Act.put, List.setIfInBounds_toArray, List.set_cons_zero, List.set_cons_succ]))
        | (fail "HTAKE 7")
      first
        | (refine take_in (i := 8) (v := ?_) rfl (by kernel_rfl) (by kernel_rfl) (by kernel_rfl) (fun _ _ _ h => h) (Or.inl ⟨by rfl, ?_⟩) (Below.refl _ _) ?_; rotate_left; (focus (intro W hSw; go_simp; (try rfl); done)); (try simp only [Act.put, List.setIfInBounds_toArray, List.set_cons_zero, List.set_cons_succ]))
        | (refine take_in (i := 8) (v := undef) rfl (by kernel_rfl) (by kernel_rfl) (by kernel_rfl) (fun _ _ _ h => h) (Or.inr ⟨by rfl, rfl⟩) (Below.refl _ _) ?_; (try simp only [Act.put, List.setIfInBounds_toArray, List.set_cons_zero, List.set_cons_succ]))
        | (fail "HTAKE 8")
      first
        | (refine take_in (i := 9) (v := ?_) rfl (by kernel_rfl) (by kernel_rfl) (by kernel_rfl) (fun _ _ _ h => h) (Or.inl ⟨by rfl, ?_⟩) (Below.refl _ _) ?_; rotate_left; (focus (intro W hSw; go_simp; (try rfl); done)); (try simp only [Act.put, List.setIfInBounds_toArray, List.set_cons_zero, List.set_cons_succ]))
        | (refine take_in (i := 9) (v := undef) rfl (by kernel_rfl) (by kernel_rfl) (by kernel_rfl) (fun _ _ _ h => h) (Or.inr ⟨by rfl, rfl⟩) (Below.refl _ _) ?_; (try simp only [Act.put, List.setIfInBounds_toArray, List.set_cons_zero, List.set_cons_succ]))
        | (fail "HTAKE 9")
      first
        | (refine take_in (i := 10) (v := ?_) rfl (by kernel_rfl) (by kernel_rfl) (by kernel_rfl) (fun _ _ _ h => h) (Or.inl ⟨by rfl, ?_⟩) (Below.refl _ _) ?_; rotate_left; (focus (intro W hSw; go_simp; (try rfl); done)); (try simp only [Act.put, List.setIfInBounds_toArray, List.set_cons_zero, List.set_cons_succ]))
        | (refine take_in (i := 10) (v := undef) rfl (by kernel_rfl) (by kernel_rfl) (by kernel_rfl) (fun _ _ _ h => h) (Or.inr ⟨by rfl, rfl⟩) (Below.refl _ _) ?_; (try simp only [Act.put, List.setIfInBounds_toArray, List.set_cons_zero, List.set_cons_succ]))
        | (fail "HTAKE 10")
      first
        | (refine take_in (i := 11) (v := ?_) rfl (by kernel_rfl) (by kernel_rfl) (by kernel_rfl) (fun _ _ _ h => h) (Or.inl ⟨by rfl, ?_⟩) (Below.refl _ _) ?_; rotate_left; (focus (intro W hSw; go_simp; (try rfl); done)); (try simp only [Act.put, List.setIfInBounds_toArray, List.set_cons_zero, List.set_cons_succ]))
        | (refine take_in (i := 11) (v := undef) rfl (by kernel_rfl) (by kernel_rfl) (by kernel_rfl) (fun _ _ _ h => h) (Or.inr ⟨by rfl, rfl⟩) (Below.refl _ _) ?_; (try simp only [Act.put, List.setIfInBounds_toArray, List.set_cons_zero, List.set_cons_succ]))
        | (fail "HTAKE 11")
      first
        | (refine take_in (i := 12) (v := ?_) rfl (by kernel_rfl) (by kernel_rfl) (by kernel_rfl) (fun _ _ _ h => h) (Or.inl ⟨by rfl, ?_⟩) (Below.refl _ _) ?_; rotate_left; (focus (intro W hSw; go_simp; (try rfl); done)); (try simp only [Act.put, List.setIfInBounds_toArray, List.set_cons_zero, List.set_cons_succ]))
        | (refine take_in (i := 12) (v := undef) rfl (by kernel_rfl) (by kernel_rfl) (by kernel_rfl) (fun _ _ _ h => h) (Or.inr ⟨by rfl, rfl⟩) (Below.refl _ _) ?_; (try simp only [Act.put, List.setIfInBounds_toArray, List.set_cons_zero, List.set_cons_succ]))
        | (fail "HTAKE 12")
      first
        | (refine take_in (i := 13) (v := ?_) rfl (by kernel_rfl) (by kernel_rfl) (by kernel_rfl) (fun _ _ _ h => h) (Or.inl ⟨by rfl, ?_⟩) (Below.refl _ _) ?_; rotate_left; (focus (intro W hSw; go_simp; (try rfl); done)); (try simp only [Act.put, List.setIfInBounds_toArray, List.set_cons_zero, List.set_cons_succ]))
        | (refine take_in (i := 13) (v := undef) rfl (by kernel_rfl) (by kernel_rfl) (by kernel_rfl) (fun _ _ _ h => h) (Or.inr ⟨by rfl, rfl⟩) (Below.refl _ _) ?_; (try simp only [Act.put, List.setIfInBounds_toArray, List.set_cons_zero, List.set_cons_succ]))
        | (fail "HTAKE 13")
      refine wpAnyH_done (by kernel_rfl) ?_ _
      go_wp2_with fail
      refine region_in (by kernel_rfl) (fun w2 hw1 => ?_)
      have HBr3 := Lib.hid (HBr2.out.trans (hw1.mono HBr2.out.size))
      clear hw1
      first
        | (refine take_in (i := 0) (v := ?_) rfl (by kernel_rfl) (by kernel_rfl) (by kernel_rfl) (fun _ _ _ h => h) (Or.inl ⟨by rfl, ?_⟩) (Below.refl _ _) ?_; rotate_left; (focus (intro W hSw; go_simp; (try rfl); done)); (try simp only [Act.put, List.setIfInBounds_toArray, List.set_cons_zero, List.set_cons_succ]))
        | (refine take_in (i := 0) (v := undef) rfl (by kernel_rfl) (by kernel_rfl) (by kernel_rfl) (fun _ _ _ h => h) (Or.inr ⟨by rfl, rfl⟩) (Below.refl _ _) ?_; (try simp only [Act.put, List.setIfInBounds_toArray, List.set_cons_zero, List.set_cons_succ]))
        | (fail "HTAKE 0")
      first
        | (refine take_in (i := 1) (v := ?_) rfl (by kernel_rfl) (by kernel_rfl) (by kernel_rfl) (fun _ _ _ h => h) (Or.inl ⟨by rfl, ?_⟩) (Below.refl _ _) ?_; rotate_left; (focus (intro W hSw; go_simp; (try rfl); done)); (try simp only [Act.put, List.setIfInBounds_toArray, List.set_cons_zero, List.set_cons_succ]))
        | (refine take_in (i := 1) (v := undef) rfl (by kernel_rfl) (by kernel_rfl) (by kernel_rfl) (fun _ _ _ h => h) (Or.inr ⟨by rfl, rfl⟩) (Below.refl _ _) ?_; (try simp only [Act.put, List.setIfInBounds_toArray, List.set_cons_zero, List.set_cons_succ]))
        | (fail "HTAKE 1")
      first
        | (refine take_in (i := 2) (v := ?_) rfl (by kernel_rfl) (by kernel_rfl) (by kernel_rfl) (fun _ _ _ h => h) (Or.inl ⟨by rfl, ?_⟩) (Below.refl _ _) ?_; rotate_left; (focus (intro W hSw; go_simp; (try rfl); done)); (try simp only [Act.put, List.setIfInBounds_toArray, List.set_cons_zero, List.set_cons_succ]))
        | (refine take_in (i := 2) (v := undef) rfl (by kernel_rfl) (by kernel_rfl) (by kernel_rfl) (fun _ _ _ h => h) (Or.inr ⟨by rfl, rfl⟩) (Below.refl _ _) ?_; (try simp only [Act.put, List.setIfInBounds_toArray, List.set_cons_zero, List.set_cons_succ]))
        | (fail "HTAKE 2")
      first
        | (refine take_in (i := 3) (v := ?_) rfl (by kernel_rfl) (by kernel_rfl) (by kernel_rfl) (fun _ _ _ h => h) (Or.inl ⟨by rfl, ?_⟩) (Below.refl _ _) ?_; rotate_left; (focus (intro W hSw; go_simp; (try rfl); done)); (try simp only [Act.put, List.setIfInBounds_toArray, List.set_cons_zero, List.set_cons_succ]))
        | (refine take_in (i := 3) (v := undef) rfl (by kernel_rfl) (by kernel_rfl) (by kernel_rfl) (fun _ _ _ h => h) (Or.inr ⟨by rfl, rfl⟩) (Below.refl _ _) ?_; (try simp only [Act.put, List.setIfInBounds_toArray, List.set_cons_zero, List.set_cons_succ]))
        | (fail "HTAKE 3")
      first
        | (refine take_in (i := 4) (v := ?_) rfl (by kernel_rfl) (by kernel_rfl) (by kernel_rfl) (fun _ _ _ h => h) (Or.inl ⟨by rfl, ?_⟩) (Below.refl _ _) ?_; rotate_left; (focus (intro W hSw; go_simp; (try rfl); done)); (try simp only [Act.put, List.setIfInBounds_toArray, List.set_cons_zero, List.set_cons_succ]))
        | (refine take_in (i := 4) (v := undef) rfl (by kernel_rfl) (by kernel_rfl) (by kernel_rfl) (fun _ _ _ h => h) (Or.inr ⟨by rfl, rfl⟩) (Below.refl _ _) ?_; (try simp only [Act.put, List.setIfInBounds_toArray, List.set_cons_zero, List.set_cons_succ]))
        | (fail "HTAKE 4")
      first
        | (refine take_in (i := 5) (v := ?_) rfl (by kernel_rfl) (by kernel_rfl) (by kernel_rfl) (fun _ _ _ h => h) (Or.inl ⟨by rfl, ?_⟩) (Below.refl _ _) ?_; rotate_left; (focus (intro W hSw; go_simp; (try rfl); done)); (try simp only [Act.put, List.setIfInBounds_toArray, List.set_cons_zero, List.set_cons_succ]))
        | (refine take_in (i := 5) (v := undef) rfl (by kernel_rfl) (by kernel_rfl) (by kernel_rfl) (fun _ _ _ h => h) (Or.inr ⟨by rfl, rfl⟩) (Below.refl _ _) ?_; (try simp only [Act.put, List.setIfInBounds_toArray, List.set_cons_zero, List.set_cons_succ]))
        | (fail "HTAKE 5")
      first
        | (refine take_in (i := 6) (v := ?_) rfl (by kernel_rfl) (by kernel_rfl) (by kernel_rfl) (fun _ _ _ h => h) (Or.inl ⟨by rfl, ?_⟩) (Below.refl _ _) ?_; rotate_left; (focus (intro W hSw; go_simp; (try rfl); done)); (try simp only [Act.put, List.setIfInBounds_toArray, List.set_cons_zero, List.set_cons_succ]))
        | (refine take_in (i := 6) (v := undef) rfl (by kernel_rfl) (by kernel_rfl) (by kernel_rfl) (fun _ _ _ h => h) (Or.inr ⟨by rfl, rfl⟩) (Below.refl _ _) ?_; (try simp only [Act.put, List.setIfInBounds_toArray, List.set_cons_zero, List.set_cons_succ]))
        | (fail "HTAKE 6")
      first
        | (refine take_in (i := 7) (v := ?_) rfl (by kernel_rfl) (by kernel_rfl) (by kernel_rfl) (fun _ _ _ h => h) (Or.inl ⟨by rfl, ?_⟩) (Below.refl _ _) ?_; rotate_left; (focus (intro W hSw; go_simp; (try rfl); done)); (try simp only [Act.put, List.setIfInBounds_toArray, List.set_cons_zero, List.set_cons_succ]))
        | (refine take_in (i := 7) (v := undef) rfl (by kernel_rfl) (by kernel_rfl) (by kernel_rfl) (fun _ _ _ h => h) (Or.inr ⟨by rfl, rfl⟩) (Below.refl _ _) ?_; (try simp only [Act.put, List.setIfInBounds_toArray, List.set_cons_zero, List.set_cons_succ]))
        | (fail "HTAKE 7")
      first
        | (refine take_in (i := 8) (v := ?_) rfl (by kernel_rfl) (by kernel_rfl) (by kernel_rfl) (fun _ _ _ h => h) (Or.inl ⟨by rfl, ?_⟩) (Below.refl _ _) ?_; rotate_left; (focus (intro W hSw; go_simp; (try rfl); done)); (try simp only [Act.put, List.setIfInBounds_toArray, List.set_cons_zero, List.set_cons_succ]))
        | (refine take_in (i := 8) (v := undef) rfl (by kernel_rfl) (by kernel_rfl) (by kernel_rfl) (fun _ _ _ h => h) (Or.inr ⟨by rfl, rfl⟩) (Below.refl _ _) ?_; (try simp only [Act.put, List.setIfInBounds_toArray, List.set_cons_zero, List.set_cons_succ]))
        | (fail "HTAKE 8")
      first
        | (refine take_in (i := 9) (v := ?_) rfl (by kernel_rfl) (by kernel_rfl) (by kernel_rfl) (fun _ _ _ h => h) (Or.inl ⟨by rfl, ?_⟩) (Below.refl _ _) ?_; rotate_left; (focus (intro W hSw; go_simp; (try rfl); done)); (try simp only [Act.put, List.setIfInBounds_toArray, List.set_cons_zero, List.set_cons_succ]))
        | (refine take_in (i := 9) (v := undef) rfl (by kernel_rfl) (by kernel_rfl) (by kernel_rfl) (fun _ _ _ h => h) (Or.inr ⟨by rfl, rfl⟩) (Below.refl _ _) ?_; (try simp only [Act.put, List.setIfInBounds_toArray, List.set_cons_zero, List.set_cons_succ]))
        | (fail "HTAKE 9")
      first
        | (refine take_in (i := 10) (v := ?_) rfl (by kernel_rfl) (by kernel_rfl) (by kernel_rfl) (fun _ _ _ h => h) (Or.inl ⟨by rfl, ?_⟩) (Below.refl _ _) ?_; rotate_left; (focus (intro W hSw; go_simp; (try rfl); done)); (try simp only [Act.put, List.setIfInBounds_toArray, List.set_cons_zero, List.set_cons_succ]))
        | (refine take_in (i := 10) (v := undef) rfl (by kernel_rfl) (by kernel_rfl) (by kernel_rfl) (fun _ _ _ h => h) (Or.inr ⟨by rfl, rfl⟩) (Below.refl _ _) ?_; (try simp only [Act.put, List.setIfInBounds_toArray, List.set_cons_zero, List.set_cons_succ]))
        | (fail "HTAKE 10")
      first
        | (refine take_in (i := 11) (v := ?_) rfl (by kernel_rfl) (by kernel_rfl) (by kernel_rfl) (fun _ _ _ h => h) (Or.inl ⟨by rfl, ?_⟩) (Below.refl _ _) ?_; rotate_left; (focus (intro W hSw; go_simp; (try rfl); done)); (try simp only [Act.put, List.setIfInBounds_toArray, List.set_cons_zero, List.set_cons_succ]))
        | (refine take_in (i := 11) (v := undef) rfl (by kernel_rfl) (by kernel_rfl) (by kernel_rfl) (fun _ _ _ h => h) (Or.inr ⟨by rfl, rfl⟩) (Below.refl _ _) ?_; (try simp only [Act.put, List.setIfInBounds_toArray, List.set_cons_zero, List.set_cons_succ]))
        | (fail "HTAKE 11")
      first
        | (refine take_in (i := 12) (v := ?_) rfl (by kernel_rfl) (by kernel_rfl) (by kernel_rfl) (fun _ _ _ h => h) (Or.inl ⟨by rfl, ?_⟩) (Below.refl _ _) ?_; rotate_left; (focus (intro W hSw; go_simp; (try rfl); done)); (try simp only [Act.put, List.setIfInBounds_toArray, List.set_cons_zero, List.set_cons_succ]))
        | (refine take_in (i := 12) (v := undef) rfl (by kernel_rfl) (by kernel_rfl) (by kernel_rfl) (fun _ _ _ h => h) (Or.inr ⟨by rfl, rfl⟩) (Below.refl _ _) ?_; (try simp only [Act.put, List.setIfInBounds_toArray, List.set_cons_zero, List.set_cons_succ]))
        | (fail "HTAKE 12")
      first
        | (refine take_in (i := 13) (v := ?_) rfl (by kernel_rfl) (by kernel_rfl) (by kernel_rfl) (fun _ _ _ h => h) (Or.inl ⟨by rfl, ?_⟩) (Below.refl _ _) ?_; rotate_left; (focus (intro W hSw; go_simp; (try rfl); done)); (try simp only [Act.put, List.setIfInBounds_toArray, List.set_cons_zero, List.set_cons_succ]))
        | (refine take_in (i := 13) (v := undef) rfl (by kernel_rfl) (by kernel_rfl) (by kernel_rfl) (fun _ _ _ h => h) (Or.inr ⟨by rfl, rfl⟩) (Below.refl _ _) ?_; (try simp only [Act.put, List.setIfInBounds_toArray, List.set_cons_zero, List.set_cons_succ]))
        | (fail "HTAKE 13")
      refine wpAnyH_done (by kernel_rfl) ?_ _
      go_wp2_with fail
      have HR3 := Lib.hid (HR.out.below HBr3.out)
      have HX3 := Lib.hid (HX.out.below HBr3.out)
      have H03 := Lib.hid (blk_below H0.out HBr3.out (blk_lt H0.out))
      have HB3 := Lib.hid (HB.out.trans (HBr3.out.mono HB.out.size))
      have hBW3 : base ≤ w2.heap.size := Nat.le_trans hBW HBr3.out.size
      obtain ⟨B8, hB8⟩ : ∃ B8 : Option Addr, (if c = k then A else Option.map (fun x : Addr => x.add (k * 7)) A) = B8 := ⟨_, rfl⟩
      refine region_in (by kernel_rfl) (fun w1 hw1 => ?_)
      have HR1 := Lib.hid (HR3.out.below hw1)
      have HB1 := Lib.hid (HB3.out.trans (hw1.mono HB3.out.size))
      have HX1 := Lib.hid (HX3.out.below hw1)
      have H01 := Lib.hid (At.blk (blk_below H03.out hw1 (blk_lt H03.out)))
      have hBW1 : base ≤ w1.heap.size := Nat.le_trans hBW3 hw1.size
      clear HR3 HB3
      first
        | (refine take_in (i := 0) (v := ?_) rfl (by kernel_rfl) (by kernel_rfl) (by kernel_rfl) (fun _ _ _ h => h) (Or.inl ⟨by rfl, ?_⟩) (Below.refl _ _) ?_; rotate_left; (focus (intro W hSw; go_simp; (try rfl); done)); (try simp only [Act.put, List.setIfInBounds_toArray, List.set_cons_zero, List.set_cons_succ]))
        | (refine take_in (i := 0) (v := undef) rfl (by kernel_rfl) (by kernel_rfl) (by kernel_rfl) (fun _ _ _ h => h) (Or.inr ⟨by rfl, rfl⟩) (Below.refl _ _) ?_; (try simp only [Act.put, List.setIfInBounds_toArray, List.set_cons_zero, List.set_cons_succ]))
        | (fail "HTAKE 0")
      first
        | (refine take_in (i := 1) (v := ?_) rfl (by kernel_rfl) (by kernel_rfl) (by kernel_rfl) (fun _ _ _ h => h) (Or.inl ⟨by rfl, ?_⟩) (Below.refl _ _) ?_; rotate_left; (focus (intro W hSw; go_simp; (try rfl); done)); (try simp only [Act.put, List.setIfInBounds_toArray, List.set_cons_zero, List.set_cons_succ]))
        | (refine take_in (i := 1) (v := undef) rfl (by kernel_rfl) (by kernel_rfl) (by kernel_rfl) (fun _ _ _ h => h) (Or.inr ⟨by rfl, rfl⟩) (Below.refl _ _) ?_; (try simp only [Act.put, List.setIfInBounds_toArray, List.set_cons_zero, List.set_cons_succ]))
        | (fail "HTAKE 1")
      first
        | (refine take_in (i := 2) (v := ?_) rfl (by kernel_rfl) (by kernel_rfl) (by kernel_rfl) (fun _ _ _ h => h) (Or.inl ⟨by rfl, ?_⟩) (Below.refl _ _) ?_; rotate_left; (focus (intro W hSw; go_simp; (try rfl); done)); (try simp only [Act.put, List.setIfInBounds_toArray, List.set_cons_zero, List.set_cons_succ]))
        | (refine take_in (i := 2) (v := undef) rfl (by kernel_rfl) (by kernel_rfl) (by kernel_rfl) (fun _ _ _ h => h) (Or.inr ⟨by rfl, rfl⟩) (Below.refl _ _) ?_; (try simp only [Act.put, List.setIfInBounds_toArray, List.set_cons_zero, List.set_cons_succ]))
        | (fail "HTAKE 2")
      refine take_in (i := 3) (v := _) rfl (by kernel_rfl) (by kernel_rfl) (by kernel_rfl) (fun _ _ _ h => h) (yields_to (by rfl) k _ _ _ rfl rfl rfl rfl Tryz.underlying23 size_task hkc) (Below.refl _ _) ?_
      (try simp only [Act.put, List.setIfInBounds_toArray, List.set_cons_zero, List.set_cons_succ])
      refine take_in (i := 4) (v := _) rfl (by kernel_rfl) (by kernel_rfl) (by kernel_rfl) (fun _ _ _ h => h) (yields_load (by rfl) _ _ rfl _ rfl _ _ (fun W hW => (H01.out).below hW) Tryz.underlying37 rfl rfl) (Below.refl _ _) ?_
      (try simp only [Act.put, List.setIfInBounds_toArray, List.set_cons_zero, List.set_cons_succ])
      first
        | (refine take_in (i := 6) (v := ?_) rfl (by kernel_rfl) (by kernel_rfl) (by kernel_rfl) (fun _ _ _ h => h) (Or.inl ⟨by rfl, ?_⟩) (Below.refl _ _) ?_; rotate_left; (focus (intro W hSw; go_simp; (try rfl); done)); (try simp only [Act.put, List.setIfInBounds_toArray, List.set_cons_zero, List.set_cons_succ]))
        | (refine take_in (i := 6) (v := undef) rfl (by kernel_rfl) (by kernel_rfl) (by kernel_rfl) (fun _ _ _ h => h) (Or.inr ⟨by rfl, rfl⟩) (Below.refl _ _) ?_; (try simp only [Act.put, List.setIfInBounds_toArray, List.set_cons_zero, List.set_cons_succ]))
        | (fail "HTAKE 6")
      first
        | (refine take_in (i := 7) (v := ?_) rfl (by kernel_rfl) (by kernel_rfl) (by kernel_rfl) (fun _ _ _ h => h) (Or.inl ⟨by rfl, ?_⟩) (Below.refl _ _) ?_; rotate_left; (focus (intro W hSw; go_simp; (try rfl); done)); (try simp only [Act.put, List.setIfInBounds_toArray, List.set_cons_zero, List.set_cons_succ]))
        | (refine take_in (i := 7) (v := undef) rfl (by kernel_rfl) (by kernel_rfl) (by kernel_rfl) (fun _ _ _ h => h) (Or.inr ⟨by rfl, rfl⟩) (Below.refl _ _) ?_; (try simp only [Act.put, List.setIfInBounds_toArray, List.set_cons_zero, List.set_cons_succ]))
        | (fail "HTAKE 7")
      refine take_in (i := 8) (v := _) rfl (by kernel_rfl) (by kernel_rfl) (by kernel_rfl) (fun _ _ _ h => h) (yields_fromB (by rfl) k _ _ rfl rfl rfl Tryz.underlying23 size_task (by omega) hB8) (Below.refl _ _) ?_
      (try simp only [Act.put, List.setIfInBounds_toArray, List.set_cons_zero, List.set_cons_succ])
      refine call_in (i := 5) rfl (by kernel_rfl) (by kernel_rfl) (fun K hK => ?_)
      refine wpo_lit1 (cs := [Value.int .u64 i1, .int .u64 l1, .string t1, .bool d1, .float .f64 r1, .float .f64 e1, .slice A1 n1 c1]) (.tmp 41) rfl rfl Tryz.underlying23 info_task2 rfl (by decide) (by decide) rfl ?_
      have hb2 := below_alloc1 w1 (.cells ([Value.int .u64 i1, .int .u64 l1, .string t1, .bool d1, .float .f64 r1, .float .f64 e1, .slice A1 n1 c1]).toArray 37)
      have hO2 : OwnG (w1.alloc (.cells ([Value.int .u64 i1, .int .u64 l1, .string t1, .bool d1, .float .f64 r1, .float .f64 e1, .slice A1 n1 c1]).toArray 37)) w1.heap.size (fun k => base ≤ k) 37 TASK (.slice (some ⟨w1.heap.size, 0, none⟩) 1 1) [x] := OwnG.lit1 HX1.out (Nat.le_refl _)
      obtain ⟨w2, hw2⟩ : ∃ w2, w1.alloc (.cells ([Value.int .u64 i1, .int .u64 l1, .string t1, .bool d1, .float .f64 r1, .float .f64 e1, .slice A1 n1 c1]).toArray 37) = w2 := ⟨_, rfl⟩
      rw [hw2] at hb2 hO2 ⊢
      have HO2 := Lib.hid hO2
      have HC2 := Lib.hid hb2
      clear hO2 hw2 hb2
      refine hK.out _ _ HC2.out ?_
      (try simp only [Act.put, List.setIfInBounds_toArray, List.set_cons_zero, List.set_cons_succ])
      have hrd8 := rows_from (HR1.out.below HC2.out) hnc k hk
      rw [show (if c = k then A else Option.map (fun x : Addr => x.add (k * Sh.size TASK )) A) = B8 from hB8] at hrd8
      have HRD := Lib.hid hrd8
      clear hrd8 hB8
      obtain ⟨ys, hys, hyat⟩ := HRD.out.cells
      have HY := Lib.hid hys
      have HYA := Lib.hid hyat
      clear hys hyat
      refine call_in (i := 9) rfl (by kernel_rfl) (by kernel_rfl) (fun K hK => ?_)
      refine wpo_appC (S := TASK) (ok := fun k => base ≤ k) (l := [x]) (r := l.drop k) (ys := ys) (.tmp 42) (.tmp 45) rfl rfl rfl HO2.out rfl (fun ad' e => (HYA.out ad' e).2) (fun e => HRD.out.2.1 e) HY.out (by rw [List.length_drop, hn]) Tryz.underlying23 info_task2 rfl (by decide) (by rw [bytes_task2]; omega) (by omega) HC2.out.size ?_
      intro v3 w3 hO3 hb3
      obtain ⟨A3, c3, rfl, _, _, _, hR3⟩ := OwnG.form hO3
      have hl3 : ([x] ++ l.drop k).length = n - k + 1 := by rw [List.length_append, List.length_drop, hn]; simp; omega
      rw [hl3] at hR3 ⊢
      have HR3 := Lib.hid (hR3.weak (ok' := fun k => base ≤ k) (fun q hq _ => hq.elim (fun h => Nat.le_trans hBW1 h) id))
      have HC3 := Lib.hid (HC2.out.trans (hb3.mono HC2.out.size))
      clear hO3 hR3
      refine hK.out _ _ hb3 ?_
      (try simp only [Act.put, List.setIfInBounds_toArray, List.set_cons_zero, List.set_cons_succ])
      have HRT := Lib.hid (rows_to (HR1.out.below HC3.out) k hk)
      obtain ⟨xs, hxs, hxat⟩ := HRT.out.cells
      obtain ⟨zs, hzs, hzat⟩ := HR3.out.cells
      have HXX := Lib.hid (And.intro hxs hxat)
      have HZ := Lib.hid (And.intro hzs hzat)
      clear hxs hxat hzs hzat
      refine call_in (i := 10) rfl (by kernel_rfl) (by kernel_rfl) (fun K hK => ?_)
      refine wpo_appG (S := TASK) (ok := fun k => base ≤ k) (l := l.take k) (r := [x] ++ l.drop k) (xs := xs) (ys := zs) (.tmp 40) (.tmp 46) rfl rfl rfl (fun e => ⟨by have := HRT.out.2.1 e; omega, by have := HRT.out.2.1 e; omega⟩) (fun ad e => (HXX.out.2 ad e).2) HXX.out.1 (by rw [List.length_take]; omega) (fun ad e => (HZ.out.2 ad e).2) (fun e => by have := HR3.out.2.1 e; omega) HZ.out.1 (by rw [hl3]) (Nat.le_refl _) (by omega) Tryz.underlying23 info_task2 rfl (by decide) (by rw [bytes_task2]; omega) (by omega) ?_
      intro v5 w5 hO5 hg5
      have hB15 : base ≤ w3.heap.size := Nat.le_trans hBW1 HC3.out.size
      have hO5' := own_lower hO5 hB15
      have hb35 : Below w3.heap.size w3 w5 := (Below.refl _ _).grown hg5 (Nat.le_refl _) (fun k e => by cases e)
      have HB5 := Lib.hid (HB1.out.trans ((HC3.out.trans (hb35.mono HC3.out.size)).mono HB1.out.size))
      obtain ⟨A5, c5, rfl, _⟩ := OwnG.form hO5'
      obtain ⟨n5, hn5⟩ : ∃ n5, (l.take k ++ ([x] ++ l.drop k)).length = n5 := ⟨_, rfl⟩
      rw [hn5] at hO5' ⊢
      have HO5 := Lib.hid hO5'
      clear hO5 hO5' hn5
      refine hK.out _ _ hb35 ?_
      (try simp only [Act.put, List.setIfInBounds_toArray, List.set_cons_zero, List.set_cons_succ])
      first
        | (refine take_in (i := 11) (v := ?_) rfl (by kernel_rfl) (by kernel_rfl) (by kernel_rfl) (fun _ _ _ h => h) (Or.inl ⟨by rfl, ?_⟩) (Below.refl _ _) ?_; rotate_left; (focus (intro W hSw; go_simp; (try rfl); done)); (try simp only [Act.put, List.setIfInBounds_toArray, List.set_cons_zero, List.set_cons_succ]))
        | (refine take_in (i := 11) (v := undef) rfl (by kernel_rfl) (by kernel_rfl) (by kernel_rfl) (fun _ _ _ h => h) (Or.inr ⟨by rfl, rfl⟩) (Below.refl _ _) ?_; (try simp only [Act.put, List.setIfInBounds_toArray, List.set_cons_zero, List.set_cons_succ]))
        | (fail "HTAKE 11")
      refine wpAnyH_done (by kernel_rfl) ?_ _
      go_wp2_with fail
      go_ret
      exact ⟨_, rfl, l.take k ++ x :: l.drop k, HO5.out, by simp; omega, rises_ins HS.out HGT.out HD.out, .inr ⟨not_met HS.out HGT.out HD.out, fun z => mem_ins⟩, HB5.out⟩
end Go.Proofs.YtfjnpiahloncmaaGreat
namespace Go.Proofs.YtfjnpiahloncmaaGreat
open Go.RowKit
set_option linter.unusedVariables false
set_option linter.unusedSimpArgs false
set_option maxRecDepth 20000 in
theorem one_ownS (w : World) (x : ByteArray) (h : x.size ≤ 9223372036854775807) : Own (w.alloc (.cells #[.string x] 9)) w.heap.size 9 .str (.slice (some ⟨w.heap.size, 0, none⟩) 1 1) [x] :=
  ⟨[.string x], ⟨rfl, .inr ⟨w.heap.size, 1, _, rfl, Nat.le_refl _, heap_alloc_new _ _, Nat.le_refl _, by decide, rfl, rfl⟩⟩, RdL.single (rd_strv h)⟩
set_option maxRecDepth 20000 in
theorem own_rowsS {w : World} {base n c : Nat} {A : Option Addr} {l : List ByteArray} (h : Own w base 9 .str (.slice A n c) l) (hn : n = l.length) : Rows w anyB .str A n l := by
  obtain ⟨A', c', e, _, _, _, hr⟩ := Own.form h
  injection e with e1 e2 e3
  subst e1 hn
  exact hr.any
set_option maxRecDepth 20000 in
theorem own_capS {w : World} {base n c : Nat} {A : Option Addr} {l : List ByteArray} (h : Own w base 9 .str (.slice A n c) l) : n ≤ c := by
  obtain ⟨A', c', e, h1, _⟩ := Own.form h
  injection e with e1 e2 e3
  subst e2 e3
  exact h1
set_option maxRecDepth 20000 in
theorem own_base_leS {w : World} {base b : Nat} {ok : Nat → Prop} {v : Value} {l : List ByteArray} (h : OwnG w base ok 9 .str v l) (hb : b ≤ base) : Own w b 9 .str v l := by
  obtain ⟨xs, ⟨h1, h2⟩, h3⟩ := h
  refine ⟨xs, ⟨h1, ?_⟩, rdl_anyS h3⟩
  rcases h2 with h2 | ⟨g, cap, cur, e, hg, hr⟩
  · exact .inl h2
  · exact .inr ⟨g, cap, cur, e, Nat.le_trans hb hg, hr⟩
set_option maxRecDepth 20000 in
theorem take_lt {o : List ByteArray} {k : Nat} {y f : ByteArray} (h : ∀ z ∈ o.take k, ltS z f) (hy : o[k]? = some y) (hlt : ltS y f) : ∀ z ∈ o.take (k + 1), ltS z f := by
  intro z hz
  rw [take_at hy] at hz
  rcases List.mem_append.1 hz with hz | hz
  · exact h z hz
  · rw [List.mem_singleton.1 hz]; exact hlt
set_option maxHeartbeats 4000000 in
set_option maxRecDepth 20000 in
theorem rtexts_any (w : World) (A : Option Addr) (n c : Nat) (l : List ByteArray) (h : Rows w anyB .str A n l) (hl : n ≤ 100000) :
    Calls Tryz.prog 30 #[.slice A n c] w fun e w' => ∃ v', e = .returned v' ∧ Own w' w.heap.size 9 .str v' (tidy l) ∧ Below w.heap.size w w' := by
  have hln := h.1
  have H0 := Lib.hid h
  clear h
  go_enter Tryz.func30, Tryz.ntmps30
  go_wp2_with fail
  go_loopw [3, 9] (fun s3 s9 wr => ∃ (i : Nat) (v : Value) (o : List ByteArray), i ≤ n ∧ v = s3 ∧ s9 = .int .i64 i ∧ o.length ≤ i ∧ Own wr w.heap.size 9 .str v o ∧ Ris (l.take i) o ∧ Below w.heap.size w wr) (fun _ s9 _ => n - (intOf s9).toNat)
  case atStart => exact ⟨0, _, [], by omega, rfl, rfl, Nat.le_refl _, Own.nil _ _ _ _, Ris.nil, Below.refl _ _⟩
  case round =>
    obtain ⟨i, v, o, hi, rfl, rfl, hoi, hO, hr, hbel⟩ := hrel
    have HB := Lib.hid hbel
    have HO := Lib.hid hO
    have HS := Lib.hid hr
    obtain ⟨A', c', rfl, _⟩ := Own.form hO
    obtain ⟨j, hjo⟩ : ∃ j, o.length = j := ⟨_, rfl⟩
    rw [hjo] at HO hoi ⊢
    have HJO := Lib.hid hjo
    clear hr hO
    by_cases hlt1 : i < n
    · obtain ⟨ad, f, rfl, hx⟩ := H0.out.some_at hlt1
      obtain ⟨hcx, hf63⟩ := str_rows (H0.out.below hbel) hx
      have i0 : (0 : Int) ≤ (i : Int) := by omega
      have i1 : (i : Int) < (n : Int) := by omega
      have HN := Lib.hid (show l.take (i + 1) = l.take i ++ [f] from take_at hx)
      have HF := Lib.hid hf63
      clear hx hf63 hbel hjo
      go_wp2_with fail
      go_loopw [6] (fun s6 wq => ∃ k : Nat, k ≤ j ∧ s6 = .int .i64 k ∧ (∀ y ∈ o.take k, ltS y f) ∧ wr = wq) (fun s6 _ => j - (intOf s6).toNat)
      case atStart => exact ⟨0, by omega, rfl, (fun y hy => by simp at hy), rfl⟩
      case round =>
        obtain ⟨k, hkj, rfl, hgt, rfl⟩ := hrel
        have hjc := own_capS HO.out
        have hkc : k ≤ c' := by omega
        by_cases hkl : k < j
        · have hjo := HJO.out
          obtain ⟨ad2, y, rfl, hy⟩ := (own_rowsS HO.out hjo.symm).some_at hkl
          have hcy := (str_rows (own_rowsS HO.out hjo.symm) hy).1
          have k0 : (0 : Int) ≤ (k : Int) := by omega
          have k2 : (k : Int) < (j : Int) := by omega
          cases hless : Op.bytesLess y.toList f.toList with
          | true =>
            have HGT := Lib.hid (take_lt hgt hy hless)
            clear hgt hy hjo
            go_wp2_with fail
            go_roundw
            case measure => simp [intOf]; omega
            case rel => exact ⟨k + 1, by omega, by go_num, HGT.out, trivial⟩
          | false =>
            cases heq : (y.toList == f.toList) with
            | true =>
              have HR := Lib.hid (show Ris (l.take (i + 1)) o by
                rw [HN.out]
                exact ris_same HS.out (by rw [← ba_ext (beq_iff_eq.1 heq)]; exact List.mem_of_getElem? hy))
              clear hgt hy hjo
              go_wp2_with fail
              go_roundw
              case measure => simp [intOf]; omega
              case rel => exact ⟨i + 1, _, o, by omega, rfl, by go_num, by rw [HJO.out]; omega, HO.out, HR.out, HB.out⟩
            | false =>
              have HR := Lib.hid (show Ris (l.take (i + 1)) (o.take k ++ f :: o.drop k) by
                rw [HN.out]
                exact ris_ins HS.out hgt (gt_drop HS.out.1 hy (bl_total _ _ hless (ne_of_beq_false heq))))
              clear hgt hy
              go_wp2_with fail
              obtain ⟨B8, hB8⟩ : ∃ B8 : Option Addr, (if c' = k then (some ad2) else Option.map (fun x : Addr => x.add (k * 1)) (some ad2)) = B8 := ⟨_, rfl⟩
              refine region_in (by kernel_rfl) (fun w1 hw1 => ?_)
              have HO1 := Lib.hid (HO.out.below hw1)
              have HB1 := Lib.hid (HB.out.trans (hw1.mono HB.out.size))
              have HR1 := Lib.hid (Own.form HO1.out)
              first
                | (refine take_in (i := 0) (v := ?_) rfl (by kernel_rfl) (by kernel_rfl) (by kernel_rfl) (fun _ _ _ h => h) (Or.inl ⟨by rfl, ?_⟩) (Below.refl _ _) ?_; rotate_left; (focus (intro W hSw; go_simp; (try rfl); done)); (try simp only [Act.put, List.setIfInBounds_toArray, List.set_cons_zero, List.set_cons_succ]))
                | (refine take_in (i := 0) (v := undef) rfl (by kernel_rfl) (by kernel_rfl) (by kernel_rfl) (fun _ _ _ h => h) (Or.inr ⟨by rfl, rfl⟩) (Below.refl _ _) ?_; (try simp only [Act.put, List.setIfInBounds_toArray, List.set_cons_zero, List.set_cons_succ]))
                | (fail "HTAKE 0")
              first
                | (refine take_in (i := 1) (v := ?_) rfl (by kernel_rfl) (by kernel_rfl) (by kernel_rfl) (fun _ _ _ h => h) (Or.inl ⟨by rfl, ?_⟩) (Below.refl _ _) ?_; rotate_left; (focus (intro W hSw; go_simp; (try rfl); done)); (try simp only [Act.put, List.setIfInBounds_toArray, List.set_cons_zero, List.set_cons_succ]))
                | (refine take_in (i := 1) (v := undef) rfl (by kernel_rfl) (by kernel_rfl) (by kernel_rfl) (fun _ _ _ h => h) (Or.inr ⟨by rfl, rfl⟩) (Below.refl _ _) ?_; (try simp only [Act.put, List.setIfInBounds_toArray, List.set_cons_zero, List.set_cons_succ]))
                | (fail "HTAKE 1")
              first
                | (refine take_in (i := 2) (v := ?_) rfl (by kernel_rfl) (by kernel_rfl) (by kernel_rfl) (fun _ _ _ h => h) (Or.inl ⟨by rfl, ?_⟩) (Below.refl _ _) ?_; rotate_left; (focus (intro W hSw; go_simp; (try rfl); done)); (try simp only [Act.put, List.setIfInBounds_toArray, List.set_cons_zero, List.set_cons_succ]))
                | (refine take_in (i := 2) (v := undef) rfl (by kernel_rfl) (by kernel_rfl) (by kernel_rfl) (fun _ _ _ h => h) (Or.inr ⟨by rfl, rfl⟩) (Below.refl _ _) ?_; (try simp only [Act.put, List.setIfInBounds_toArray, List.set_cons_zero, List.set_cons_succ]))
                | (fail "HTAKE 2")
              refine take_in (i := 3) (v := _) rfl (by kernel_rfl) (by kernel_rfl) (by kernel_rfl) (fun _ _ _ h => h) (yields_to (by rfl) k _ _ _ rfl rfl rfl rfl Tryz.underlying35 size_str hkc) (Below.refl _ _) ?_
              (try simp only [Act.put, List.setIfInBounds_toArray, List.set_cons_zero, List.set_cons_succ])
              first
                | (refine take_in (i := 4) (v := ?_) rfl (by kernel_rfl) (by kernel_rfl) (by kernel_rfl) (fun _ _ _ h => h) (Or.inl ⟨by rfl, ?_⟩) (Below.refl _ _) ?_; rotate_left; (focus (intro W hSw; go_simp; (try rfl); done)); (try simp only [Act.put, List.setIfInBounds_toArray, List.set_cons_zero, List.set_cons_succ]))
                | (refine take_in (i := 4) (v := undef) rfl (by kernel_rfl) (by kernel_rfl) (by kernel_rfl) (fun _ _ _ h => h) (Or.inr ⟨by rfl, rfl⟩) (Below.refl _ _) ?_; (try simp only [Act.put, List.setIfInBounds_toArray, List.set_cons_zero, List.set_cons_succ]))
                | (fail "HTAKE 4")
              first
                | (refine take_in (i := 6) (v := ?_) rfl (by kernel_rfl) (by kernel_rfl) (by kernel_rfl) (fun _ _ _ h => h) (Or.inl ⟨by rfl, ?_⟩) (Below.refl _ _) ?_; rotate_left; (focus (intro W hSw; go_simp; (try rfl); done)); (try simp only [Act.put, List.setIfInBounds_toArray, List.set_cons_zero, List.set_cons_succ]))
                | (refine take_in (i := 6) (v := undef) rfl (by kernel_rfl) (by kernel_rfl) (by kernel_rfl) (fun _ _ _ h => h) (Or.inr ⟨by rfl, rfl⟩) (Below.refl _ _) ?_; (try simp only [Act.put, List.setIfInBounds_toArray, List.set_cons_zero, List.set_cons_succ]))
                | (fail "HTAKE 6")
              first
                | (refine take_in (i := 7) (v := ?_) rfl (by kernel_rfl) (by kernel_rfl) (by kernel_rfl) (fun _ _ _ h => h) (Or.inl ⟨by rfl, ?_⟩) (Below.refl _ _) ?_; rotate_left; (focus (intro W hSw; go_simp; (try rfl); done)); (try simp only [Act.put, List.setIfInBounds_toArray, List.set_cons_zero, List.set_cons_succ]))
                | (refine take_in (i := 7) (v := undef) rfl (by kernel_rfl) (by kernel_rfl) (by kernel_rfl) (fun _ _ _ h => h) (Or.inr ⟨by rfl, rfl⟩) (Below.refl _ _) ?_; (try simp only [Act.put, List.setIfInBounds_toArray, List.set_cons_zero, List.set_cons_succ]))
                | (fail "HTAKE 7")
              refine take_in (i := 8) (v := _) rfl (by kernel_rfl) (by kernel_rfl) (by kernel_rfl) (fun _ _ _ h => h) (yields_fromB (by rfl) k _ _ rfl rfl rfl Tryz.underlying35 size_str (by omega) hB8) (Below.refl _ _) ?_
              (try simp only [Act.put, List.setIfInBounds_toArray, List.set_cons_zero, List.set_cons_succ])
              refine call_in (i := 5) rfl (by kernel_rfl) (by kernel_rfl) (fun K hK => ?_)
              go_simp
              have hb2 := below_alloc1 w1 (.cells #[.string f] 9)
              obtain ⟨w2, hw2⟩ : ∃ w2, w1.alloc (.cells #[.string f] 9) = w2 := ⟨_, rfl⟩
              have hO2 : Own w2 w1.heap.size 9 .str (.slice (some ⟨w1.heap.size, 0, none⟩) 1 1) [f] := by rw [← hw2]; exact one_ownS w1 f HF.out
              rw [hw2] at hb2 ⊢
              have HO2 := Lib.hid hO2
              have HC2 := Lib.hid hb2
              clear hO2 hw2 hb2
              refine hK.out _ _ HC2.out ?_
              (try simp only [Act.put, List.setIfInBounds_toArray, List.set_cons_zero, List.set_cons_succ])
              have hrd8 := rows_from ((own_rowsS HO1.out hjo.symm).below HC2.out) hjc k hkj
              rw [show (if c' = k then (some ad2) else Option.map (fun x : Addr => x.add (k * Sh.size .str)) (some ad2)) = B8 from hB8] at hrd8
              have HRD := Lib.hid hrd8
              clear hrd8 hB8
              obtain ⟨ys, hys, hyat⟩ := HRD.out.cells
              have HY := Lib.hid hys
              have HYA := Lib.hid hyat
              clear hys hyat
              refine call_in (i := 9) rfl (by kernel_rfl) (by kernel_rfl) (fun K hK => ?_)
              refine wpo_appC (S := .str) (l := [f]) (r := o.drop k) (ys := ys) (.tmp 44) (.tmp 47) rfl rfl rfl HO2.out rfl (fun ad' e => (HYA.out ad' e).2) (fun e => HRD.out.2.1 e) (rdl_anyS HY.out) (by rw [List.length_drop, hjo]) Tryz.underlying35 info_str rfl (by decide) (by omega) (by omega) HC2.out.size ?_
              intro v3 w3 hO3 hb3
              obtain ⟨A3, c3, rfl, _⟩ := Own.form hO3
              have HO3 := Lib.hid hO3
              have hl3 : ([f] ++ o.drop k).length = j - k + 1 := by rw [List.length_append, List.length_drop, hjo]; simp; omega
              rw [hl3] at HO3 ⊢
              have HC3 := Lib.hid (HC2.out.trans (hb3.mono HC2.out.size))
              clear hO3
              refine hK.out _ _ hb3 ?_
              (try simp only [Act.put, List.setIfInBounds_toArray, List.set_cons_zero, List.set_cons_succ])
              have HRT := Lib.hid (rows_to ((own_rowsS HO1.out hjo.symm).below HC3.out) k hkj)
              obtain ⟨xs, hxs, hxat⟩ := HRT.out.cells
              obtain ⟨zs, hzs, hzat⟩ := (own_rowsS HO3.out hl3.symm).cells
              have HX := Lib.hid (And.intro hxs hxat)
              have HZ := Lib.hid (And.intro hzs hzat)
              clear hxs hxat hzs hzat
              refine call_in (i := 10) rfl (by kernel_rfl) (by kernel_rfl) (fun K hK => ?_)
              refine wpo_appG (S := .str) (ok := anyB) (l := o.take k) (r := [f] ++ o.drop k) (xs := xs) (ys := zs) (.tmp 42) (.tmp 48) rfl rfl rfl (fun e => ⟨by have := HRT.out.2.1 e; omega, by have := HRT.out.2.1 e; omega⟩) (fun ad e => (HX.out.2 ad e).2) (rdl_anyS HX.out.1) (by simp; omega) (fun ad e => (HZ.out.2 ad e).2) (fun e => by have := (own_rowsS HO3.out hl3.symm).2.1 e; omega) (rdl_anyS HZ.out.1) (by rw [hl3]) (Nat.le_refl _) (by omega) Tryz.underlying35 info_str rfl (by decide) (by omega) (by omega) ?_
              intro v5 w5 hO5 hg5
              have hB15 : w.heap.size ≤ w3.heap.size := Nat.le_trans HB1.out.size HC3.out.size
              have hO5' := own_base_leS hO5 hB15
              have hb35 : Below w3.heap.size w3 w5 := (Below.refl _ _).grown hg5 (Nat.le_refl _) (fun k e => by cases e)
              have HB5 := Lib.hid (HB1.out.trans ((HC3.out.trans (hb35.mono HC3.out.size)).mono HB1.out.size))
              obtain ⟨A5, c5, rfl, _⟩ := Own.form hO5'
              have HO5 := Lib.hid hO5'
              have hl5 : (o.take k ++ ([f] ++ o.drop k)).length = j + 1 := by simp; omega
              rw [hl5] at HO5 ⊢
              clear hO5 hO5'
              refine hK.out _ _ hb35 ?_
              (try simp only [Act.put, List.setIfInBounds_toArray, List.set_cons_zero, List.set_cons_succ])
              first
                | (refine take_in (i := 11) (v := ?_) rfl (by kernel_rfl) (by kernel_rfl) (by kernel_rfl) (fun _ _ _ h => h) (Or.inl ⟨by rfl, ?_⟩) (Below.refl _ _) ?_; rotate_left; (focus (intro W hSw; go_simp; (try rfl); done)); (try simp only [Act.put, List.setIfInBounds_toArray, List.set_cons_zero, List.set_cons_succ]))
                | (refine take_in (i := 11) (v := undef) rfl (by kernel_rfl) (by kernel_rfl) (by kernel_rfl) (fun _ _ _ h => h) (Or.inr ⟨by rfl, rfl⟩) (Below.refl _ _) ?_; (try simp only [Act.put, List.setIfInBounds_toArray, List.set_cons_zero, List.set_cons_succ]))
                | (fail "HTAKE 11")
              refine wpAnyH_done (by kernel_rfl) ?_ _
              go_wp2_with fail
              go_roundw
              case measure => simp [intOf]; omega
              case rel => exact ⟨i + 1, _, o.take k ++ f :: o.drop k, by omega, rfl, by go_num, by simp; omega, HO5.out, HR.out, HB5.out⟩
        · have hkje : k = j := by omega
          have hjo := HJO.out
          have k2 : ¬ (k : Int) < (j : Int) := by omega
          have HR := Lib.hid (show Ris (l.take (i + 1)) (o.take k ++ f :: o.drop k) by
            rw [HN.out]
            exact ris_ins HS.out hgt (fun z hz => by rw [List.drop_eq_nil_of_le (by omega)] at hz; cases hz))
          clear hgt hkje hkl
          go_wp2_with fail
          obtain ⟨B8, hB8⟩ : ∃ B8 : Option Addr, (if c' = k then A' else Option.map (fun x : Addr => x.add (k * 1)) A') = B8 := ⟨_, rfl⟩
          refine region_in (by kernel_rfl) (fun w1 hw1 => ?_)
          have HO1 := Lib.hid (HO.out.below hw1)
          have HB1 := Lib.hid (HB.out.trans (hw1.mono HB.out.size))
          have HR1 := Lib.hid (Own.form HO1.out)
          first
            | (refine take_in (i := 0) (v := ?_) rfl (by kernel_rfl) (by kernel_rfl) (by kernel_rfl) (fun _ _ _ h => h) (Or.inl ⟨by rfl, ?_⟩) (Below.refl _ _) ?_; rotate_left; (focus (intro W hSw; go_simp; (try rfl); done)); (try simp only [Act.put, List.setIfInBounds_toArray, List.set_cons_zero, List.set_cons_succ]))
            | (refine take_in (i := 0) (v := undef) rfl (by kernel_rfl) (by kernel_rfl) (by kernel_rfl) (fun _ _ _ h => h) (Or.inr ⟨by rfl, rfl⟩) (Below.refl _ _) ?_; (try simp only [Act.put, List.setIfInBounds_toArray, List.set_cons_zero, List.set_cons_succ]))
            | (fail "HTAKE 0")
          first
            | (refine take_in (i := 1) (v := ?_) rfl (by kernel_rfl) (by kernel_rfl) (by kernel_rfl) (fun _ _ _ h => h) (Or.inl ⟨by rfl, ?_⟩) (Below.refl _ _) ?_; rotate_left; (focus (intro W hSw; go_simp; (try rfl); done)); (try simp only [Act.put, List.setIfInBounds_toArray, List.set_cons_zero, List.set_cons_succ]))
            | (refine take_in (i := 1) (v := undef) rfl (by kernel_rfl) (by kernel_rfl) (by kernel_rfl) (fun _ _ _ h => h) (Or.inr ⟨by rfl, rfl⟩) (Below.refl _ _) ?_; (try simp only [Act.put, List.setIfInBounds_toArray, List.set_cons_zero, List.set_cons_succ]))
            | (fail "HTAKE 1")
          first
            | (refine take_in (i := 2) (v := ?_) rfl (by kernel_rfl) (by kernel_rfl) (by kernel_rfl) (fun _ _ _ h => h) (Or.inl ⟨by rfl, ?_⟩) (Below.refl _ _) ?_; rotate_left; (focus (intro W hSw; go_simp; (try rfl); done)); (try simp only [Act.put, List.setIfInBounds_toArray, List.set_cons_zero, List.set_cons_succ]))
            | (refine take_in (i := 2) (v := undef) rfl (by kernel_rfl) (by kernel_rfl) (by kernel_rfl) (fun _ _ _ h => h) (Or.inr ⟨by rfl, rfl⟩) (Below.refl _ _) ?_; (try simp only [Act.put, List.setIfInBounds_toArray, List.set_cons_zero, List.set_cons_succ]))
            | (fail "HTAKE 2")
          refine take_in (i := 3) (v := _) rfl (by kernel_rfl) (by kernel_rfl) (by kernel_rfl) (fun _ _ _ h => h) (yields_to (by rfl) k _ _ _ rfl rfl rfl rfl Tryz.underlying35 size_str hkc) (Below.refl _ _) ?_
          (try simp only [Act.put, List.setIfInBounds_toArray, List.set_cons_zero, List.set_cons_succ])
          first
            | (refine take_in (i := 4) (v := ?_) rfl (by kernel_rfl) (by kernel_rfl) (by kernel_rfl) (fun _ _ _ h => h) (Or.inl ⟨by rfl, ?_⟩) (Below.refl _ _) ?_; rotate_left; (focus (intro W hSw; go_simp; (try rfl); done)); (try simp only [Act.put, List.setIfInBounds_toArray, List.set_cons_zero, List.set_cons_succ]))
            | (refine take_in (i := 4) (v := undef) rfl (by kernel_rfl) (by kernel_rfl) (by kernel_rfl) (fun _ _ _ h => h) (Or.inr ⟨by rfl, rfl⟩) (Below.refl _ _) ?_; (try simp only [Act.put, List.setIfInBounds_toArray, List.set_cons_zero, List.set_cons_succ]))
            | (fail "HTAKE 4")
          first
            | (refine take_in (i := 6) (v := ?_) rfl (by kernel_rfl) (by kernel_rfl) (by kernel_rfl) (fun _ _ _ h => h) (Or.inl ⟨by rfl, ?_⟩) (Below.refl _ _) ?_; rotate_left; (focus (intro W hSw; go_simp; (try rfl); done)); (try simp only [Act.put, List.setIfInBounds_toArray, List.set_cons_zero, List.set_cons_succ]))
            | (refine take_in (i := 6) (v := undef) rfl (by kernel_rfl) (by kernel_rfl) (by kernel_rfl) (fun _ _ _ h => h) (Or.inr ⟨by rfl, rfl⟩) (Below.refl _ _) ?_; (try simp only [Act.put, List.setIfInBounds_toArray, List.set_cons_zero, List.set_cons_succ]))
            | (fail "HTAKE 6")
          first
            | (refine take_in (i := 7) (v := ?_) rfl (by kernel_rfl) (by kernel_rfl) (by kernel_rfl) (fun _ _ _ h => h) (Or.inl ⟨by rfl, ?_⟩) (Below.refl _ _) ?_; rotate_left; (focus (intro W hSw; go_simp; (try rfl); done)); (try simp only [Act.put, List.setIfInBounds_toArray, List.set_cons_zero, List.set_cons_succ]))
            | (refine take_in (i := 7) (v := undef) rfl (by kernel_rfl) (by kernel_rfl) (by kernel_rfl) (fun _ _ _ h => h) (Or.inr ⟨by rfl, rfl⟩) (Below.refl _ _) ?_; (try simp only [Act.put, List.setIfInBounds_toArray, List.set_cons_zero, List.set_cons_succ]))
            | (fail "HTAKE 7")
          refine take_in (i := 8) (v := _) rfl (by kernel_rfl) (by kernel_rfl) (by kernel_rfl) (fun _ _ _ h => h) (yields_fromB (by rfl) k _ _ rfl rfl rfl Tryz.underlying35 size_str (by omega) hB8) (Below.refl _ _) ?_
          (try simp only [Act.put, List.setIfInBounds_toArray, List.set_cons_zero, List.set_cons_succ])
          refine call_in (i := 5) rfl (by kernel_rfl) (by kernel_rfl) (fun K hK => ?_)
          go_simp
          have hb2 := below_alloc1 w1 (.cells #[.string f] 9)
          obtain ⟨w2, hw2⟩ : ∃ w2, w1.alloc (.cells #[.string f] 9) = w2 := ⟨_, rfl⟩
          have hO2 : Own w2 w1.heap.size 9 .str (.slice (some ⟨w1.heap.size, 0, none⟩) 1 1) [f] := by rw [← hw2]; exact one_ownS w1 f HF.out
          rw [hw2] at hb2 ⊢
          have HO2 := Lib.hid hO2
          have HC2 := Lib.hid hb2
          clear hO2 hw2 hb2
          refine hK.out _ _ HC2.out ?_
          (try simp only [Act.put, List.setIfInBounds_toArray, List.set_cons_zero, List.set_cons_succ])
          have hrd8 := rows_from ((own_rowsS HO1.out hjo.symm).below HC2.out) hjc k hkj
          rw [show (if c' = k then A' else Option.map (fun x : Addr => x.add (k * Sh.size .str)) A') = B8 from hB8] at hrd8
          have HRD := Lib.hid hrd8
          clear hrd8 hB8
          obtain ⟨ys, hys, hyat⟩ := HRD.out.cells
          have HY := Lib.hid hys
          have HYA := Lib.hid hyat
          clear hys hyat
          refine call_in (i := 9) rfl (by kernel_rfl) (by kernel_rfl) (fun K hK => ?_)
          refine wpo_appC (S := .str) (l := [f]) (r := o.drop k) (ys := ys) (.tmp 44) (.tmp 47) rfl rfl rfl HO2.out rfl (fun ad' e => (HYA.out ad' e).2) (fun e => HRD.out.2.1 e) (rdl_anyS HY.out) (by rw [List.length_drop, hjo]) Tryz.underlying35 info_str rfl (by decide) (by omega) (by omega) HC2.out.size ?_
          intro v3 w3 hO3 hb3
          obtain ⟨A3, c3, rfl, _⟩ := Own.form hO3
          have HO3 := Lib.hid hO3
          have hl3 : ([f] ++ o.drop k).length = j - k + 1 := by rw [List.length_append, List.length_drop, hjo]; simp; omega
          rw [hl3] at HO3 ⊢
          have HC3 := Lib.hid (HC2.out.trans (hb3.mono HC2.out.size))
          clear hO3
          refine hK.out _ _ hb3 ?_
          (try simp only [Act.put, List.setIfInBounds_toArray, List.set_cons_zero, List.set_cons_succ])
          have HRT := Lib.hid (rows_to ((own_rowsS HO1.out hjo.symm).below HC3.out) k hkj)
          obtain ⟨xs, hxs, hxat⟩ := HRT.out.cells
          obtain ⟨zs, hzs, hzat⟩ := (own_rowsS HO3.out hl3.symm).cells
          have HX := Lib.hid (And.intro hxs hxat)
          have HZ := Lib.hid (And.intro hzs hzat)
          clear hxs hxat hzs hzat
          refine call_in (i := 10) rfl (by kernel_rfl) (by kernel_rfl) (fun K hK => ?_)
          refine wpo_appG (S := .str) (ok := anyB) (l := o.take k) (r := [f] ++ o.drop k) (xs := xs) (ys := zs) (.tmp 42) (.tmp 48) rfl rfl rfl (fun e => ⟨by have := HRT.out.2.1 e; omega, by have := HRT.out.2.1 e; omega⟩) (fun ad e => (HX.out.2 ad e).2) (rdl_anyS HX.out.1) (by simp; omega) (fun ad e => (HZ.out.2 ad e).2) (fun e => by have := (own_rowsS HO3.out hl3.symm).2.1 e; omega) (rdl_anyS HZ.out.1) (by rw [hl3]) (Nat.le_refl _) (by omega) Tryz.underlying35 info_str rfl (by decide) (by omega) (by omega) ?_
          intro v5 w5 hO5 hg5
          have hB15 : w.heap.size ≤ w3.heap.size := Nat.le_trans HB1.out.size HC3.out.size
          have hO5' := own_base_leS hO5 hB15
          have hb35 : Below w3.heap.size w3 w5 := (Below.refl _ _).grown hg5 (Nat.le_refl _) (fun k e => by cases e)
          have HB5 := Lib.hid (HB1.out.trans ((HC3.out.trans (hb35.mono HC3.out.size)).mono HB1.out.size))
          obtain ⟨A5, c5, rfl, _⟩ := Own.form hO5'
          have HO5 := Lib.hid hO5'
          have hl5 : (o.take k ++ ([f] ++ o.drop k)).length = j + 1 := by simp; omega
          rw [hl5] at HO5 ⊢
          clear hO5 hO5'
          refine hK.out _ _ hb35 ?_
          (try simp only [Act.put, List.setIfInBounds_toArray, List.set_cons_zero, List.set_cons_succ])
          first
            | (refine take_in (i := 11) (v := ?_) rfl (by kernel_rfl) (by kernel_rfl) (by kernel_rfl) (fun _ _ _ h => h) (Or.inl ⟨by rfl, ?_⟩) (Below.refl _ _) ?_; rotate_left; (focus (intro W hSw; go_simp; (try rfl); done)); (try simp only [Act.put, List.setIfInBounds_toArray, List.set_cons_zero, List.set_cons_succ]))
            | (refine take_in (i := 11) (v := undef) rfl (by kernel_rfl) (by kernel_rfl) (by kernel_rfl) (fun _ _ _ h => h) (Or.inr ⟨by rfl, rfl⟩) (Below.refl _ _) ?_; (try simp only [Act.put, List.setIfInBounds_toArray, List.set_cons_zero, List.set_cons_succ]))
            | (fail "HTAKE 11")
          refine wpAnyH_done (by kernel_rfl) ?_ _
          go_wp2_with fail
          go_roundw
          case measure => simp [intOf]; omega
          case rel => exact ⟨i + 1, _, o.take k ++ f :: o.drop k, by omega, rfl, by go_num, by simp; omega, HO5.out, HR.out, HB5.out⟩
    · obtain rfl : i = n := by omega
      have HE := Lib.hid (show o = tidy l by
        have h1 := HS.out
        rw [List.take_of_length_le (by omega)] at h1
        exact h1.uniq (tidy_ris l) (fun _ => Iff.rfl))
      go_wp2_with fail
      go_ret
      rw [HE.out] at HO
      exact ⟨_, rfl, HO.out, HB.out⟩
end Go.Proofs.YtfjnpiahloncmaaGreat
namespace Go.Proofs.YtfjnpiahloncmaaGreat
open Go.RowKit Go.Maps FP
set_option linter.unusedVariables false
set_option linter.unusedSimpArgs false
attribute [local go_sem] run_store_float
set_option maxHeartbeats 8000000 in
set_option maxRecDepth 20000 in
theorem rcanon_st (w : World) (A B : Option Addr) (n ca m cb : Nat) (ls : List LIST.Ty) (ts : List TASK.Ty) (ha : Rows w anyB LIST A n ls) (hb : Rows w anyB TASK B m ts) (hn : n ≤ 1000) (hm : m ≤ 1000) (hsm : ∀ t ∈ ts, t.2.2.2.2.2.2.1.length ≤ 100000) :
    Calls Tryz.prog 10 #[.agg #[Value.slice A n ca, Value.slice B m cb]] w fun e w' => ∃ vL vT eL eT, e = .returned (.agg #[vL, vT]) ∧ Own w' w.heap.size 42 LIST vL eL ∧ Own w' w.heap.size 37 TASK vT eT ∧
      Firsts (fun x : LIST.Ty => x.1) ls eL ∧ Rises (fun x : LIST.Ty => x.1) eL ∧ eL.length ≤ n ∧ Firsts (fun x : TASK.Ty => x.1) (ts.map ownT) eT ∧ Rises (fun x : TASK.Ty => x.1) eT ∧ eT.length ≤ m ∧ Below w.heap.size w w' := by
  have hal := ha.1
  have hbl := hb.1
  obtain ⟨W, hW⟩ : ∃ W, ((w.alloc (.cells #[Value.slice A n ca, Value.slice B m cb] 25)).alloc (.cells #[Value.slice none 0 0, Value.slice none 0 0] 25)).alloc (.cells #[Value.slice none 0 0, Value.slice none 0 0] 25) = W := ⟨_, rfl⟩
  have hs0 : W.heap.size = w.heap.size + 3 := by rw [← hW]; simp
  have h0 : W.heap[w.heap.size]? = some (.cells #[Value.slice A n ca, Value.slice B m cb] 25 (0, 0)) := by rw [← hW]; exact blk_alloc (blk_alloc (heap_alloc_new w _) _) _
  have h1 : W.heap[w.heap.size + 1]? = some (.cells #[Value.slice none 0 0, Value.slice none 0 0] 25 (0, 0)) := by rw [← hW]; exact blk_alloc (heap_alloc2_new w _ _) _
  have h2 : W.heap[w.heap.size + 2]? = some (.cells #[Value.slice none 0 0, Value.slice none 0 0] 25 (0, 0)) := by
    rw [← hW]
    have := heap_alloc_new ((w.alloc (.cells #[Value.slice A n ca, Value.slice B m cb] 25)).alloc (.cells #[Value.slice none 0 0, Value.slice none 0 0] 25)) (.cells #[Value.slice none 0 0, Value.slice none 0 0] 25)
    simpa using this
  have hb0 : Below w.heap.size w W := by rw [← hW]; exact (((Below.refl _ _).alloc (Nat.le_refl _) _).alloc (by simp) _).alloc (by simp; omega) _
  have HA := Lib.hid ha
  have HBt := Lib.hid hb
  have HS := Lib.hid hs0
  have H0 := Lib.hid h0
  have H1 := Lib.hid h1
  have H2 := Lib.hid h2
  have HW := Lib.hid hb0
  have HN := Lib.hid hW
  clear ha hb hs0 h0 h1 h2 hb0 hW
  go_enter Tryz.func10, Tryz.ntmps10
  have hW := HN.out
  have x0 := blk_at H0.out 0 _ rfl
  go_wp2_with fail
  clear hW x0
  go_loopw [11] (fun s11 wr => ∃ (i : Nat) (vL : Value) (e : List LIST.Ty), i ≤ n ∧ s11 = .int .i64 i ∧ wr.heap[w.heap.size + 2]? = some (.cells #[vL, .slice none 0 0] 25 (0, 0)) ∧ Own wr W.heap.size 42 LIST vL e ∧ Firsts (fun x : LIST.Ty => x.1) (ls.take i) e ∧ Rises (fun x : LIST.Ty => x.1) e ∧ e.length ≤ i ∧ W.grownBy wr (some (w.heap.size + 2))) (fun s11 _ => n - (intOf s11).toNat)
  case atStart => exact ⟨0, _, [], by omega, rfl, H2.out, Own.nil _ _ _ _, firsts_nil, List.Pairwise.nil, by simp, grown_none _ _⟩
  case round =>
    obtain ⟨i, vL, e, hi, rfl, hx2, hO, hF, hP, hel, hG⟩ := hrel
    have hbw : Below w.heap.size w wr := HW.out.trans ((Below.refl _ _).grown hG (by have := HS.out; omega) (fun k e => by injection e; omega))
    have S0 := HS.out
    have HG := Lib.hid hG
    have HX := Lib.hid hx2
    have HO := Lib.hid hO
    have HF := Lib.hid hF
    have HP := Lib.hid hP
    have HB := Lib.hid hbw
    have hgs := hG.size
    by_cases hlt : i < n
    · obtain ⟨ad, x, cs, rfl, hx, hat, hrd⟩ := (HA.out.below hbw).get i hlt
      obtain ⟨k1, t1, rfl, rfl, ok1⟩ := rd_lst hrd
      have HAt := Lib.hid hat
      have HFx := Lib.hid hx
      have i0 : (0 : Int) ≤ (i : Int) := by omega
      have i1 : (i : Int) < (n : Int) := by omega
      obtain ⟨AL, cL, rfl, _, hcL, _, hRL⟩ := Own.form hO
      obtain ⟨q, hq⟩ : ∃ q, e.length = q := ⟨_, rfl⟩
      rw [hq] at hel HX HO
      clear hG hx2 hO hF hP hbw hx hat hrd hRL
      go_wp2_with (first
        | (refine wpL_load rfl 42 _ rfl _ rfl _ _ HAt.out Tryz.underlying42 rfl rfl ?_)
        | (refine wpL_store rfl 42 (.tmp 5) _ rfl wr.heap.size rfl _ _ 42 rfl (heap_alloc_new wr _) rfl rfl (by intro v hv; simp at hv; rcases hv with rfl | rfl <;> rfl) ?_; intro w3 hx3 hg3; have HB3 := Lib.hid ((below_alloc1 wr _).grown hg3 (by simp) (fun k e => by cases e; exact Nat.le_refl _) : Below wr.heap.size wr w3); have HX3 := Lib.hid hx3; have HY3 := Lib.hid (blk_below HX.out HB3.out (blk_lt HX.out)); have y0 := blk_at HY3.out 0 _ rfl; clear hx3 hg3)
        | (refine wpL_load rfl 42 _ rfl _ rfl _ _ (At.blk HX3.out) Tryz.underlying42 rfl rfl ?_))
      refine (withl_any w3 W.heap.size _ e (k1, t1, ()) k1 t1 _ rfl rfl (by omega) (HO.out.below HB3.out) (Nat.le_trans hgs HB3.out.size) (rd_lst_mk ok1) HP.out).mono ?_
      rintro e' w4 ⟨v4, r, rfl, hO4, hl4, hr4, hp4, hb4⟩
      have HB4 := Lib.hid (HB3.out.trans (hb4.mono HB3.out.size))
      have HY4 := Lib.hid (blk_below HY3.out hb4 (blk_lt HY3.out))
      obtain ⟨A4, c4, rfl, _⟩ := Own.form hO4
      obtain ⟨q4, hq4⟩ : ∃ q4, r.length = q4 := ⟨_, rfl⟩
      rw [hq4] at hO4 hl4 ⊢
      have HO4 := Lib.hid hO4
      have HR4 := Lib.hid hr4
      have HP4 := Lib.hid hp4
      have y4 := blk_at HY4.out 0 _ rfl
      have f4 := blk_free HY4.out 0
      clear hO4 hr4 hp4 hb4 y0
      go_wp2_with fail
      go_roundw
      case measure => simp [intOf]; omega
      case rel => exact ⟨i + 1, _, r, by omega, by go_num, blk_set HY4.out 0 _, own_grown HO4.out (grown_one (grown_none w4 _)) (by omega), by rw [take_at HFx.out]; exact HP4.out.firsts HF.out, HR4.out, by omega, gb_set (gb_below HG.out HB4.out) 0 _⟩
    · obtain rfl : i = n := by omega
      rw [List.take_of_length_le (by omega)] at HF
      obtain ⟨M, hM⟩ : ∃ M, wr.heap.size = M := ⟨_, rfl⟩
      obtain ⟨AL, cL, rfl, _⟩ := Own.form hO
      obtain ⟨q, hq⟩ : ∃ q, e.length = q := ⟨_, rfl⟩
      rw [hq] at hel HX HO
      have x1 := blk_at HX.out 0 _ rfl
      have p1 := blk_at ((hG.block w.heap.size (by omega) (by intro e; injection e; omega)).trans H0.out) 1 _ rfl
      clear hG hx2 hO hF hP hbw
      go_wp2_with fail
      clear x1 p1
      go_loopw [24] (fun s24 wx => ∃ (i : Nat) (vT : Value) (e2 : List TASK.Ty), i ≤ m ∧ s24 = .int .i64 i ∧ wx.heap[w.heap.size + 2]? = some (.cells #[.slice AL q cL, vT] 25 (0, 0)) ∧ Own wx M 37 TASK vT e2 ∧ Firsts (fun x : TASK.Ty => x.1) ((ts.take i).map ownT) e2 ∧ Rises (fun x : TASK.Ty => x.1) e2 ∧ e2.length ≤ i ∧ wr.grownBy wx (some (w.heap.size + 2))) (fun s24 _ => m - (intOf s24).toNat)
      case atStart => exact ⟨0, _, [], by omega, rfl, HX.out, Own.nil _ _ _ _, firsts_nil, List.Pairwise.nil, by simp, grown_none _ _⟩
      case round =>
        obtain ⟨j, vT, e2, hj, rfl, hx2, hO2, hF2, hP2, hel2, hG⟩ := hrel
        have HG0 := Lib.hid (gb_trans HG.out hG)
        have hbw : Below w.heap.size w _ := HW.out.trans ((Below.refl _ _).grown HG0.out (by omega) (fun k e => by injection e; omega))
        have hsz : M ≤ wr.heap.size := by have := hG.size; omega
        have HG2 := Lib.hid hG
        have HX2 := Lib.hid hx2
        have HT := Lib.hid hO2
        have HF2 := Lib.hid hF2
        have HP2 := Lib.hid hP2
        have HB := Lib.hid hbw
        by_cases hjm : j < m
        · obtain ⟨ad, x, cs, rfl, hx, hat, hrd⟩ := HBt.out.get j hjm
          obtain ⟨i1, l1, t1, d1, r1, e1, g1, A1, c1, rfl, rfl, ok1, hrg⟩ := rd_task hrd
          have HAt := Lib.hid (hat.below hbw)
          have HFx := Lib.hid hx
          have HRg := Lib.hid hrg
          have hgl : g1.length ≤ 100000 := hsm _ (List.mem_of_getElem? hx)
          obtain ⟨⟨ok1a, ok1b⟩, ok2, ok3, ok4, ok5⟩ := ok1
          have j0 : (0 : Int) ≤ (j : Int) := by omega
          have j1 : (j : Int) < (m : Int) := by omega
          obtain ⟨AT, cT, rfl, _⟩ := Own.form hO2
          obtain ⟨q2, hq2⟩ : ∃ q2, e2.length = q2 := ⟨_, rfl⟩
          rw [hq2] at hel2 HX2 HT
          clear hG hx2 hO2 hF2 hP2 hbw hx hat hrd hrg
          go_upto_region 10 with (first
            | (refine wpL_load rfl 37 _ rfl _ rfl _ _ HAt.out Tryz.underlying37 rfl rfl ?_)
            | (refine wpL_store rfl 37 (.tmp 7) _ rfl wr.heap.size rfl _ _ 37 rfl (heap_alloc_new wr _) rfl rfl (by intro v hv; simp at hv; rcases hv with rfl | rfl | rfl | rfl | rfl | rfl | rfl <;> rfl) ?_; intro w3 hx3 hg3; have HB3 := Lib.hid ((below_alloc1 wr _).grown hg3 (by simp) (fun k e => by cases e; exact Nat.le_refl _) : Below wr.heap.size wr w3); have HX3 := Lib.hid hx3; clear hx3 hg3))
          refine region_inU 10 (fun W : World => W.heap[wr.heap.size]? = some (.cells #[.int .u64 i1, .int .u64 l1, .string t1, .bool d1, .float .f64 r1, .float .f64 e1, .slice A1 g1.length c1] 37 (0, 0))) (by kernel_rfl) (fun x1 hx1 heq => ?_)
          have HX5 := Lib.hid (blk_below HX3.out hx1 (blk_lt HX3.out))
          have HB5 := Lib.hid (HB3.out.trans (hx1.mono HB3.out.size))
          have hHeld : x1.heap[wr.heap.size]? = some (.cells #[.int .u64 i1, .int .u64 l1, .string t1, .bool d1, .float .f64 r1, .float .f64 e1, .slice A1 g1.length c1] 37 (0, 0)) := HX5.out
          have c4F : ∀ W : World, W.heap[wr.heap.size]? = some (.cells #[.int .u64 i1, .int .u64 l1, .string t1, .bool d1, .float .f64 r1, .float .f64 e1, .slice A1 g1.length c1] 37 (0, 0)) → W.cell? ⟨wr.heap.size, 4, none⟩ = some (.float .f64 r1) := fun W h => blk_at h 4 _ rfl
          have c5F : ∀ W : World, W.heap[wr.heap.size]? = some (.cells #[.int .u64 i1, .int .u64 l1, .string t1, .bool d1, .float .f64 r1, .float .f64 e1, .slice A1 g1.length c1] 37 (0, 0)) → W.cell? ⟨wr.heap.size, 5, none⟩ = some (.float .f64 e1) := fun W h => blk_at h 5 _ rfl
          have c6F : ∀ W : World, W.heap[wr.heap.size]? = some (.cells #[.int .u64 i1, .int .u64 l1, .string t1, .bool d1, .float .f64 r1, .float .f64 e1, .slice A1 g1.length c1] 37 (0, 0)) → W.cell? ⟨wr.heap.size, 6, none⟩ = some (.slice A1 g1.length c1) := fun W h => blk_at h 6 _ rfl
          clear hx1 heq
          first
            | (refine takeT (i := 0) (v := ?_) rfl (by kernel_rfl) (by kernel_rfl) (by kernel_rfl) (fun _ _ _ h => h) (by kernel_rfl) (Or.inl ⟨by rfl, ?_⟩) (fun _ => hHeld) ?_; rotate_left; (focus (intro W hSw; go_simp; (try rfl); done)); (try simp only [Act.put, List.setIfInBounds_toArray, List.set_cons_zero, List.set_cons_succ]))
            | (fail "UTAKE 0")
          first
            | (refine takeU (i := 1) (v := ?_) rfl (by kernel_rfl) (by kernel_rfl) (by kernel_rfl) (fun _ _ _ h => h) (by kernel_rfl) (by kernel_rfl) (by kernel_rfl) (Or.inl ⟨by rfl, ?_⟩) hHeld ?_; rotate_left; (focus (intro W hSw; have c4F := c4F W hSw; (try dsimp only at hSw); go_simp; (try rfl); done)); (try simp only [Act.put, List.setIfInBounds_toArray, List.set_cons_zero, List.set_cons_succ]))
            | (fail "UTAKE 1")
          first
            | (refine takeT (i := 3) (v := ?_) rfl (by kernel_rfl) (by kernel_rfl) (by kernel_rfl) (fun _ _ _ h => h) (by kernel_rfl) (Or.inl ⟨by rfl, ?_⟩) (fun _ => hHeld) ?_; rotate_left; (focus (intro W hSw; go_simp; (try rfl); done)); (try simp only [Act.put, List.setIfInBounds_toArray, List.set_cons_zero, List.set_cons_succ]))
            | (fail "UTAKE 3")
          first
            | (refine takeU (i := 4) (v := ?_) rfl (by kernel_rfl) (by kernel_rfl) (by kernel_rfl) (fun _ _ _ h => h) (by kernel_rfl) (by kernel_rfl) (by kernel_rfl) (Or.inl ⟨by rfl, ?_⟩) hHeld ?_; rotate_left; (focus (intro W hSw; have c5F := c5F W hSw; (try dsimp only at hSw); go_simp; (try rfl); done)); (try simp only [Act.put, List.setIfInBounds_toArray, List.set_cons_zero, List.set_cons_succ]))
            | (fail "UTAKE 4")
          first
            | (refine takeT (i := 6) (v := ?_) rfl (by kernel_rfl) (by kernel_rfl) (by kernel_rfl) (fun _ _ _ h => h) (by kernel_rfl) (Or.inl ⟨by rfl, ?_⟩) (fun _ => hHeld) ?_; rotate_left; (focus (intro W hSw; go_simp; (try rfl); done)); (try simp only [Act.put, List.setIfInBounds_toArray, List.set_cons_zero, List.set_cons_succ]))
            | (fail "UTAKE 6")
          first
            | (refine takeU (i := 7) (v := ?_) rfl (by kernel_rfl) (by kernel_rfl) (by kernel_rfl) (fun _ _ _ h => h) (by kernel_rfl) (by kernel_rfl) (by kernel_rfl) (Or.inl ⟨by rfl, ?_⟩) hHeld ?_; rotate_left; (focus (intro W hSw; have c6F := c6F W hSw; (try dsimp only at hSw); go_simp; (try rfl); done)); (try simp only [Act.put, List.setIfInBounds_toArray, List.set_cons_zero, List.set_cons_succ]))
            | (fail "UTAKE 7")
          refine callU (i := 2) rfl (by kernel_rfl) (by kernel_rfl) (fun K hK => ?_)
          (try clear hHeld)
          go_simp
          refine (rcanon_any _ _).mono ?_
          rintro e' w' ⟨rfl, rfl⟩
          have hHeld := HX5.out
          refine hK.out (fun W : World => W.heap[wr.heap.size]? = some (.cells #[.int .u64 i1, .int .u64 l1, .string t1, .bool d1, .float .f64 r1, .float .f64 e1, .slice A1 g1.length c1] 37 (0, 0))) _ _ (fun _ => hHeld) (fun _ h => h) ?_
          (try simp only [Act.put, List.setIfInBounds_toArray, List.set_cons_zero, List.set_cons_succ])
          first
            | (refine takeT (i := 9) (v := ?_) rfl (by kernel_rfl) (by kernel_rfl) (by kernel_rfl) (fun _ _ _ h => h) (by kernel_rfl) (Or.inl ⟨by rfl, ?_⟩) (fun _ => hHeld) ?_; rotate_left; (focus (intro W hSw; go_simp; (try rfl); done)); (try simp only [Act.put, List.setIfInBounds_toArray, List.set_cons_zero, List.set_cons_succ]))
            | (fail "UTAKE 9")
          refine callU (i := 5) rfl (by kernel_rfl) (by kernel_rfl) (fun K hK => ?_)
          (try clear hHeld)
          go_simp
          refine (rcanon_any _ _).mono ?_
          rintro e' w' ⟨rfl, rfl⟩
          have hHeld := HX5.out
          refine hK.out (fun W : World => W.heap[wr.heap.size]? = some (.cells #[.int .u64 i1, .int .u64 l1, .string t1, .bool d1, .float .f64 r1, .float .f64 e1, .slice A1 g1.length c1] 37 (0, 0))) _ _ (fun _ => hHeld) (fun _ h => h) ?_
          (try simp only [Act.put, List.setIfInBounds_toArray, List.set_cons_zero, List.set_cons_succ])
          refine callU (i := 8) rfl (by kernel_rfl) (by kernel_rfl) (fun K hK => ?_)
          (try clear hHeld)
          go_simp
          refine (rtexts_any x1 A1 g1.length c1 g1 (rd_rows (HRg.out.below (HB.out.trans (HB5.out.mono HB.out.size)))) hgl).mono ?_
          rintro e' x2 ⟨v5, rfl, hO5, hb5⟩
          obtain ⟨A5, c5, rfl, _⟩ := Own.form hO5
          obtain ⟨n5, hn5⟩ : ∃ n5, (tidy g1).length = n5 := ⟨_, rfl⟩
          rw [hn5] at hO5 ⊢
          have HX6 := Lib.hid (blk_below HX5.out hb5 (blk_lt HX5.out))
          have HB6 := Lib.hid (HB5.out.trans (hb5.mono HB5.out.size))
          have HO5 := Lib.hid hO5
          have hsz5 := blk_lt HX5.out
          clear hO5 hb5 c4F c5F c6F
          have hHeld := HX6.out
          refine hK.out (fun W : World => W.heap[wr.heap.size]? = some (.cells #[.int .u64 i1, .int .u64 l1, .string t1, .bool d1, .float .f64 r1, .float .f64 e1, .slice A1 g1.length c1] 37 (0, 0))) _ _ (fun _ => hHeld) (fun _ h => h) ?_
          (try simp only [Act.put, List.setIfInBounds_toArray, List.set_cons_zero, List.set_cons_succ])
          have z4 := blk_at HX6.out 4 _ rfl
          have z5 := blk_at HX6.out 5 _ rfl
          have z6 := blk_at HX6.out 6 _ rfl
          have f4 := blk_free HX6.out 4
          have f5 := blk_free HX6.out 5
          have f6 := blk_free HX6.out 6
          have hHeld := trivial
          refine callU (i := 10) rfl (by kernel_rfl) (by kernel_rfl) (fun K hK => ?_)
          (try clear hHeld)
          go_simp
          refine hK.out _ _ _ (offU (by kernel_rfl)) (fun _ h => h) ?_
          (try simp only [Act.put, List.setIfInBounds_toArray, List.set_cons_zero, List.set_cons_succ])
          first
            | (refine takeT (i := 11) (v := ?_) rfl (by kernel_rfl) (by kernel_rfl) (by kernel_rfl) (fun _ _ _ h => h) (by kernel_rfl) (Or.inl ⟨by rfl, ?_⟩) (offU (by kernel_rfl)) ?_; rotate_left; (focus (intro W hSw; go_simp; (try rfl); done)); (try simp only [Act.put, List.setIfInBounds_toArray, List.set_cons_zero, List.set_cons_succ]))
            | (fail "UTAKE 11")
          have hHeld := trivial
          refine callU (i := 12) rfl (by kernel_rfl) (by kernel_rfl) (fun K hK => ?_)
          (try clear hHeld)
          go_simp
          refine hK.out _ _ _ (offU (by kernel_rfl)) (fun _ h => h) ?_
          (try simp only [Act.put, List.setIfInBounds_toArray, List.set_cons_zero, List.set_cons_succ])
          first
            | (refine takeT (i := 13) (v := ?_) rfl (by kernel_rfl) (by kernel_rfl) (by kernel_rfl) (fun _ _ _ h => h) (by kernel_rfl) (Or.inl ⟨by rfl, ?_⟩) (offU (by kernel_rfl)) ?_; rotate_left; (focus (intro W hSw; go_simp; (try rfl); done)); (try simp only [Act.put, List.setIfInBounds_toArray, List.set_cons_zero, List.set_cons_succ]))
            | (fail "UTAKE 13")
          have hHeld := trivial
          refine callU (i := 14) rfl (by kernel_rfl) (by kernel_rfl) (fun K hK => ?_)
          (try clear hHeld)
          go_simp
          obtain ⟨w9, hw9⟩ : ∃ w9, ((x2.setCell ⟨wr.heap.size, 4, none⟩ (.float .f64 (rcanF r1))).setCell ⟨wr.heap.size, 5, none⟩ (.float .f64 (rcanF e1))).setCell ⟨wr.heap.size, 6, none⟩ (.slice A5 n5 c5) = w9 := ⟨_, rfl⟩
          have HX9 := Lib.hid (show w9.heap[wr.heap.size]? = some (.cells ([.int .u64 i1, .int .u64 l1, .string t1, .bool d1, .float .f64 (rcanF r1), .float .f64 (rcanF e1), .slice A5 n5 c5]).toArray 37 (0, 0)) by rw [← hw9]; exact blk_set (blk_set (blk_set HX6.out 4 _) 5 _) 6 _)
          have HB9 := Lib.hid (show Below wr.heap.size wr w9 by rw [← hw9]; exact ((HB6.out.setCell (p := ⟨wr.heap.size, 4, none⟩) (Nat.le_refl _) _).setCell (p := ⟨wr.heap.size, 5, none⟩) (Nat.le_refl _) _).setCell (p := ⟨wr.heap.size, 6, none⟩) (Nat.le_refl _) _)
          have HO9 := Lib.hid (show Own w9 x1.heap.size 9 .str (.slice A5 n5 c5) (tidy g1) by
            rw [← hw9]
            exact own_grown HO5.out (grown_one (grown_one (grown_one (grown_none x2 (some wr.heap.size))))) hsz5)
          rw [hw9]
          refine hK.out _ _ _ (offU (by kernel_rfl)) (fun _ h => h) ?_
          (try simp only [Act.put, List.setIfInBounds_toArray, List.set_cons_zero, List.set_cons_succ])
          refine doneU (by kernel_rfl) ?_ _
          have HY9 := Lib.hid (blk_below HX2.out HB9.out (blk_lt HX2.out))
          have y1 := blk_at HY9.out 1 _ rfl
          clear z4 z5 z6 f4 f5 f6 hw9
          go_wp2_with (refine wpL_load rfl 37 _ rfl _ rfl _ _ (At.blk HX9.out) Tryz.underlying37 rfl rfl ?_)
          refine (witht_any w9 M _ e2 ((i1 : Int), (l1 : Int), t1, d1, rcanF r1, rcanF e1, tidy g1, ()) i1 l1 t1 d1 (rcanF r1) (rcanF e1) A5 n5 c5 _ rfl rfl (by omega) (HT.out.below HB9.out) (Nat.le_trans hsz HB9.out.size) (rd_task_mk ⟨⟨ok1a, ok1b⟩, ok2, ok3, rcan_lt ok4, rcan_lt ok5⟩ ((Own.rd HO9.out).weak (fun k hk _ => by have : x1.heap.size ≤ k := hk; omega))) HP2.out).mono ?_
          rintro e' w10 ⟨v10, r, rfl, hO10, hl10, hr10, hp10, hb10⟩
          have HB10 := Lib.hid (HB9.out.trans (hb10.mono HB9.out.size))
          have HY10 := Lib.hid (blk_below HY9.out hb10 (blk_lt HY9.out))
          obtain ⟨A10, c10, rfl, _⟩ := Own.form hO10
          obtain ⟨q10, hq10⟩ : ∃ q10, r.length = q10 := ⟨_, rfl⟩
          rw [hq10] at hO10 hl10 ⊢
          have HO10 := Lib.hid hO10
          have HR10 := Lib.hid hr10
          have HP10 := Lib.hid hp10
          have y10 := blk_at HY10.out 1 _ rfl
          have g10 := blk_free HY10.out 1
          clear hO10 hr10 hp10 hb10 y1
          go_wp2_with fail
          go_roundw
          case measure => simp [intOf]; omega
          case rel => exact ⟨j + 1, _, r, by omega, by go_num, blk_set HY10.out 1 _, own_grown HO10.out (grown_one (grown_none w10 _)) (by omega), by rw [take_at HFx.out, List.map_append]; exact HP10.out.firsts HF2.out, HR10.out, by omega, gb_set (gb_below HG2.out HB10.out) 1 _⟩
        · obtain rfl : j = m := by omega
          rw [List.take_of_length_le (by omega)] at HF2
          have HLo := Lib.hid (own_grown HO.out hG (by omega))
          obtain ⟨AT, cT, rfl, _⟩ := Own.form hO2
          obtain ⟨q2, hq2⟩ : ∃ q2, e2.length = q2 := ⟨_, rfl⟩
          rw [hq2] at hel2 HX2 HT
          have hr1 := HG0.out.block (w.heap.size + 1) (by omega) (by intro e; injection e; omega) |>.trans H1.out
          have HR1 := Lib.hid hr1
          clear hG hx2 hO2 hF2 hP2 hr1
          go_wp2_with (first
            | (refine wpL_load rfl 25 _ rfl _ rfl _ _ (At.blk HX2.out) Tryz.underlying25 rfl rfl ?_)
            | (refine wpL_store rfl 25 (.tmp 2) _ rfl (w.heap.size + 1) rfl _ _ 25 rfl HR1.out rfl rfl (by intro v hv; simp at hv; rcases hv with rfl | rfl <;> rfl) ?_; intro w8 hw8 hg8))
          refine bodyPost_ret (results_cell_row rfl _ _ (w.heap.size + 1) 25 _ (0, 0) _ rfl hw8 Tryz.underlying25 rfl rfl) rfl ?_
          have q1 : Own w8 w.heap.size 42 LIST (.slice AL q cL) e := Own.base (own_grown HLo.out hg8 (by omega)) (by omega)
          have q2 : Own w8 w.heap.size 37 TASK (.slice AT q2 cT) e2 := Own.base (own_grown HT.out hg8 (by omega)) (by omega)
          have q3 : Below w.heap.size w w8 := HB.out.grown hg8 HB.out.size (fun k e => by injection e; omega)
          exact ⟨_, _, rfl, e, q1, e2, q2, HF.out, HP.out, by omega, HF2.out, HP2.out, by omega, q3⟩
end Go.Proofs.YtfjnpiahloncmaaGreat
