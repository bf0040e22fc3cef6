import Derived.Test.YthkfjcfncobllaaStaR
import Derived.Lib.SliceRun
namespace Go.Proofs.Ythkfjcfncobllaa
open Go.RowKit FP
set_option linter.unusedVariables false
set_option linter.unusedSimpArgs false
attribute [local go_sem] run_store_flt
/-! Runs of the same taken together: slices.CompactFunc. -/
def stepD (e : List Nat) (f : Nat) : List Nat := if e.getLast? = some f then e else e ++ [f]
def ded (l : List Nat) : List Nat := l.foldl stepD []
set_option maxRecDepth 20000 in
theorem ded_snoc (l : List Nat) (x : Nat) : ded (l ++ [x]) = stepD (ded l) x := by simp [ded]
set_option maxRecDepth 20000 in
theorem ded_last (l : List Nat) (x : Nat) : (ded (l ++ [x])).getLast? = some x := by
  rw [ded_snoc]
  unfold stepD
  split
  · assumption
  · simp
set_option maxRecDepth 20000 in
theorem ded_same {l : List Nat} {k x : Nat} (hk : 1 ≤ k) (hx : l[k]? = some x) (hy : l[k - 1]? = some x) : ded (l.take (k + 1)) = ded (l.take k) := by
  have e : l.take k = l.take (k - 1) ++ [x] := by have := take_at hy; rwa [show k - 1 + 1 = k by omega] at this
  rw [take_at hx, ded_snoc]
  unfold stepD
  rw [if_pos (by rw [e]; exact ded_last _ _)]
set_option maxRecDepth 20000 in
theorem ded_new {l : List Nat} {k x y : Nat} (hk : 1 ≤ k) (hx : l[k]? = some x) (hy : l[k - 1]? = some y) (hne : x ≠ y) : ded (l.take (k + 1)) = ded (l.take k) ++ [x] := by
  have e : l.take k = l.take (k - 1) ++ [y] := by have := take_at hy; rwa [show k - 1 + 1 = k by omega] at this
  rw [take_at hx, ded_snoc]
  unfold stepD
  rw [if_neg (by rw [e, ded_last]; intro h; injection h with h; exact hne h.symm)]
set_option maxRecDepth 20000 in
theorem ded_one (l : List Nat) (h : l.length < 2) : ded l = l := by
  match l, h with
  | [], _ => rfl
  | [x], _ => rfl
  | _ :: _ :: _, h => simp at h; omega
/-- A row of numbers in a block, as it now is. -/
def RowF (w : World) (g cap : Nat) (m : List Nat) : Prop := ∃ cur, w.heap[g]? = some (.cells cur 27 (0, 0)) ∧ cur.size = cap ∧ cur.toList.take m.length = m.map encF ∧ m.length ≤ cap
set_option maxRecDepth 20000 in
theorem RowF.at {w : World} {g cap i x : Nat} {m : List Nat} (h : RowF w g cap m) (hx : m[i]? = some x) : w.cell? ⟨g, i, none⟩ = some (.float .f64 x) := by
  obtain ⟨cur, h1, h2, h3, h4⟩ := h
  refine blk_at h1 i _ ?_
  have hi := (List.getElem?_eq_some_iff.1 hx).1
  have := congrArg (fun l => l[i]?) h3
  simp only [List.getElem?_take, if_pos hi, Array.getElem?_toList] at this
  rw [this, List.getElem?_map, hx]
  rfl
set_option maxRecDepth 20000 in
theorem RowF.free {w : World} {g cap : Nat} {m : List Nat} (h : RowF w g cap m) (i : Nat) : w.frozen? ⟨g, i, none⟩ = false := by
  obtain ⟨cur, h1, _⟩ := h
  exact blk_free h1 i
set_option maxRecDepth 20000 in
theorem RowF.lt {w : World} {g cap : Nat} {m : List Nat} (h : RowF w g cap m) : g < w.heap.size := by
  obtain ⟨cur, h1, _⟩ := h
  exact blk_lt h1
set_option maxRecDepth 20000 in
theorem RowF.below {w w' : World} {g cap B : Nat} {m : List Nat} (h : RowF w g cap m) (hb : Below B w w') (hg : g < B) : RowF w' g cap m := by
  obtain ⟨cur, h1, h2⟩ := h
  exact ⟨cur, blk_below h1 hb hg, h2⟩
set_option maxRecDepth 20000 in
theorem RowF.set {w : World} {g cap : Nat} {m : List Nat} (h : RowF w g cap m) (k x : Nat) : RowF (w.setCell ⟨g, k, none⟩ (.float .f64 x)) g cap (m.set k x) := by
  obtain ⟨cur, h1, h2, h3, h4⟩ := h
  refine ⟨_, blk_set h1 k _, by simpa using h2, ?_, by simpa using h4⟩
  rw [List.length_set, Array.toList_setIfInBounds, List.take_set, h3, List.map_set]
  rfl
set_option maxRecDepth 20000 in
theorem RowF.own {w : World} {g cap base : Nat} {m : List Nat} (h : RowF w g cap m) (hb : base ≤ g) (hc : cap ≤ maxLen) (hlt : ∀ x ∈ m, x < B64) : Own w base 27 .f64 (.slice (some ⟨g, 0, none⟩) m.length cap) m := by
  obtain ⟨cur, h1, h2, h3, h4⟩ := h
  exact ⟨m.map encF, ⟨by simp [Sh.size], .inr ⟨g, cap, cur, rfl, hb, h1, h4, hc, by simpa [Sh.size] using h2, by simpa [Sh.size] using h3⟩⟩, rdl_f64.2 ⟨rfl, hlt⟩⟩
set_option maxRecDepth 20000 in
theorem RowF.take {w : World} {g cap : Nat} {m : List Nat} (h : RowF w g cap m) (k : Nat) : RowF w g cap (m.take k) := by
  obtain ⟨cur, h1, h2, h3, h4⟩ := h
  refine ⟨cur, h1, h2, ?_, by rw [List.length_take]; omega⟩
  have := congrArg (List.take k) h3
  rw [List.take_take] at this
  rw [List.length_take, this, List.map_take]
set_option maxRecDepth 20000 in
theorem RowF.setv {w : World} {g cap j : Nat} {m : List Nat} {v : Value} (h : RowF w g cap m) (hj : m.length ≤ j) : RowF (w.setCell ⟨g, j, none⟩ v) g cap m := by
  obtain ⟨cur, h1, h2, h3, h4⟩ := h
  refine ⟨_, blk_set h1 j _, by simpa using h2, ?_, h4⟩
  rw [Array.toList_setIfInBounds, List.take_set, h3, List.set_eq_of_length_le (by simpa using hj)]
set_option maxRecDepth 20000 in
theorem RowF.cells {g cap : Nat} {m : List Nat} : ∀ {vs : List Value} {j : Nat} {w : World}, RowF w g cap m → m.length ≤ j → RowF (w.setCells g j vs) g cap m
  | [], _, _, h, _ => h
  | v :: vs, j, w, h, hj => RowF.cells (vs := vs) (h.setv hj) (by omega)
set_option maxRecDepth 20000 in
theorem below_cells {B g : Nat} {a : World} (hg : B ≤ g) : ∀ {vs : List Value} {j : Nat} {w : World}, Below B a w → Below B a (w.setCells g j vs)
  | [], _, _, h => h
  | v :: vs, j, w, h => below_cells hg (vs := vs) (h.setCell (p := ⟨g, j, none⟩) hg v)
set_option maxHeartbeats 4000000 in
set_option maxRecDepth 20000 in
theorem compact_row (w : World) (g cap n base : Nat) (l : List Nat) (h : RowF w g cap l) (hn : l.length = n) (h2 : 2 ≤ n) (hl : n ≤ 100000) (hc : ∀ x ∈ l, CanN x) (hb : base ≤ g) (hB : base ≤ w.heap.size) :
    Calls Try.prog 38 #[.slice (some ⟨g, 0, none⟩) n cap, .func (.func 39) #[] #[]] w fun e w' => e = .returned (.slice (some ⟨g, 0, none⟩) (ded l).length cap) ∧ RowF w' g cap (ded l) ∧ Below base w w' := by
  have H := Lib.hid h
  have HC := Lib.hid hc
  have HN := Lib.hid hn
  have hcap : n ≤ cap := by
    obtain ⟨_, _, _, _, h4⟩ := h
    omega
  clear h hc
  go_enter Try.func38, Try.ntmps38
  have hn2 : ¬ (n : Int) < 2 := by omega
  go_wp2_with fail
  go_loopw [5] (fun s5 wr => ∃ k : Nat, 1 ≤ k ∧ k ≤ n ∧ s5 = .int .i64 k ∧ ded (l.take k) = l.take k ∧ RowF wr g cap l ∧ Below base w wr) (fun s5 _ => n - (intOf s5).toNat)
  case atStart => exact ⟨1, by omega, by omega, rfl, ded_one _ (by rw [List.length_take]; omega), H.out, Below.refl _ _⟩
  case round =>
    obtain ⟨k, hk1, hkn, rfl, hd, hr, hbel⟩ := hrel
    have HD := Lib.hid hd
    have HR := Lib.hid hr
    have HB := Lib.hid hbel
    clear hd hr hbel
    by_cases hlt : k < n
    · obtain ⟨x, hx⟩ : ∃ x, l[k]? = some x := ⟨l[k]'(by omega), List.getElem?_eq_getElem (by omega)⟩
      obtain ⟨y, hy⟩ : ∃ y, l[k - 1]? = some y := ⟨l[k - 1]'(by omega), List.getElem?_eq_getElem (by omega)⟩
      have i0 : (0 : Int) ≤ (k : Int) := by omega
      have i1 : (k : Int) < (n : Int) := by omega
      have jw : IntKind.i64.wrap ((k : Int) - 1) = ((k - 1 : Nat) : Int) := by rw [IntWalk.i64_in _ (by omega)]; omega
      have j0 : (0 : Int) ≤ ((k - 1 : Nat) : Int) := by omega
      have j1 : ((k - 1 : Nat) : Int) < (n : Int) := by omega
      have cx := HR.out.at hx
      have cy := HR.out.at hy
      go_wp2_with fail
      refine region_in (by kernel_rfl) (fun w1 hw1 => ?_)
      have HR1 := Lib.hid (HR.out.below hw1 HR.out.lt)
      have HB1 := Lib.hid (HB.out.trans (hw1.mono (Nat.le_trans hB HB.out.size)))
      have C1 : ∀ W, Below w1.heap.size w1 W → W.cell? ⟨g, k, none⟩ = some (.float .f64 x) := fun W hW => cell_below hW (cell_below hw1 cx)
      have C2 : ∀ W, Below w1.heap.size w1 W → W.cell? ⟨g, k - 1, none⟩ = some (.float .f64 y) := fun W hW => cell_below hW (cell_below hw1 cy)
      clear cx cy hw1
      first
        | (refine take_in (i := 0) (v := ?_) rfl (by kernel_rfl) (by kernel_rfl) (by kernel_rfl) (fun _ _ _ h => h) (Or.inl ⟨by rfl, ?_⟩) (Below.refl _ _) ?_; rotate_left; (focus (intro W hSw; go_simp; (try rfl); done)); (try simp only [Act.put, List.setIfInBounds_toArray, List.set_cons_zero, List.set_cons_succ]))
        | (refine take_in (i := 0) (v := undef) rfl (by kernel_rfl) (by kernel_rfl) (by kernel_rfl) (fun _ _ _ h => h) (Or.inr ⟨by rfl, rfl⟩) (Below.refl _ _) ?_; (try simp only [Act.put, List.setIfInBounds_toArray, List.set_cons_zero, List.set_cons_succ]))
        | (fail "HTAKE 0")
      first
        | (refine take_in (i := 1) (v := ?_) rfl (by kernel_rfl) (by kernel_rfl) (by kernel_rfl) (fun _ _ _ h => h) (Or.inl ⟨by rfl, ?_⟩) (Below.refl _ _) ?_; rotate_left; (focus (intro W hSw; go_simp; (try rfl); done)); (try simp only [Act.put, List.setIfInBounds_toArray, List.set_cons_zero, List.set_cons_succ]))
        | (refine take_in (i := 1) (v := undef) rfl (by kernel_rfl) (by kernel_rfl) (by kernel_rfl) (fun _ _ _ h => h) (Or.inr ⟨by rfl, rfl⟩) (Below.refl _ _) ?_; (try simp only [Act.put, List.setIfInBounds_toArray, List.set_cons_zero, List.set_cons_succ]))
        | (fail "HTAKE 1")
      first
        | (refine take_in (i := 2) (v := ?_) rfl (by kernel_rfl) (by kernel_rfl) (by kernel_rfl) (fun _ _ _ h => h) (Or.inl ⟨by rfl, ?_⟩) (Below.refl _ _) ?_; rotate_left; (focus (intro W hSw; go_simp; (try rfl); done)); (try simp only [Act.put, List.setIfInBounds_toArray, List.set_cons_zero, List.set_cons_succ]))
        | (refine take_in (i := 2) (v := undef) rfl (by kernel_rfl) (by kernel_rfl) (by kernel_rfl) (fun _ _ _ h => h) (Or.inr ⟨by rfl, rfl⟩) (Below.refl _ _) ?_; (try simp only [Act.put, List.setIfInBounds_toArray, List.set_cons_zero, List.set_cons_succ]))
        | (fail "HTAKE 2")
      first
        | (refine take_in (i := 3) (v := ?_) rfl (by kernel_rfl) (by kernel_rfl) (by kernel_rfl) (fun _ _ _ h => h) (Or.inl ⟨by rfl, ?_⟩) (Below.refl _ _) ?_; rotate_left; (focus (intro W hSw; go_simp; (try rfl); done)); (try simp only [Act.put, List.setIfInBounds_toArray, List.set_cons_zero, List.set_cons_succ]))
        | (refine take_in (i := 3) (v := undef) rfl (by kernel_rfl) (by kernel_rfl) (by kernel_rfl) (fun _ _ _ h => h) (Or.inr ⟨by rfl, rfl⟩) (Below.refl _ _) ?_; (try simp only [Act.put, List.setIfInBounds_toArray, List.set_cons_zero, List.set_cons_succ]))
        | (fail "HTAKE 3")
      first
        | (refine take_in (i := 4) (v := ?_) rfl (by kernel_rfl) (by kernel_rfl) (by kernel_rfl) (fun _ _ _ h => h) (Or.inl ⟨by rfl, ?_⟩) (Below.refl _ _) ?_; rotate_left; (focus (intro W hSw; have C1 := C1 W hSw; go_simp; (try rfl); done)); (try simp only [Act.put, List.setIfInBounds_toArray, List.set_cons_zero, List.set_cons_succ]))
        | (refine take_in (i := 4) (v := undef) rfl (by kernel_rfl) (by kernel_rfl) (by kernel_rfl) (fun _ _ _ h => h) (Or.inr ⟨by rfl, rfl⟩) (Below.refl _ _) ?_; (try simp only [Act.put, List.setIfInBounds_toArray, List.set_cons_zero, List.set_cons_succ]))
        | (fail "HTAKE 4")
      first
        | (refine take_in (i := 5) (v := ?_) rfl (by kernel_rfl) (by kernel_rfl) (by kernel_rfl) (fun _ _ _ h => h) (Or.inl ⟨by rfl, ?_⟩) (Below.refl _ _) ?_; rotate_left; (focus (intro W hSw; go_simp; (try rfl); done)); (try simp only [Act.put, List.setIfInBounds_toArray, List.set_cons_zero, List.set_cons_succ]))
        | (refine take_in (i := 5) (v := undef) rfl (by kernel_rfl) (by kernel_rfl) (by kernel_rfl) (fun _ _ _ h => h) (Or.inr ⟨by rfl, rfl⟩) (Below.refl _ _) ?_; (try simp only [Act.put, List.setIfInBounds_toArray, List.set_cons_zero, List.set_cons_succ]))
        | (fail "HTAKE 5")
      first
        | (refine take_in (i := 6) (v := ?_) rfl (by kernel_rfl) (by kernel_rfl) (by kernel_rfl) (fun _ _ _ h => h) (Or.inl ⟨by rfl, ?_⟩) (Below.refl _ _) ?_; rotate_left; (focus (intro W hSw; go_simp; (try rfl); done)); (try simp only [Act.put, List.setIfInBounds_toArray, List.set_cons_zero, List.set_cons_succ]))
        | (refine take_in (i := 6) (v := undef) rfl (by kernel_rfl) (by kernel_rfl) (by kernel_rfl) (fun _ _ _ h => h) (Or.inr ⟨by rfl, rfl⟩) (Below.refl _ _) ?_; (try simp only [Act.put, List.setIfInBounds_toArray, List.set_cons_zero, List.set_cons_succ]))
        | (fail "HTAKE 6")
      first
        | (refine take_in (i := 7) (v := ?_) rfl (by kernel_rfl) (by kernel_rfl) (by kernel_rfl) (fun _ _ _ h => h) (Or.inl ⟨by rfl, ?_⟩) (Below.refl _ _) ?_; rotate_left; (focus (intro W hSw; go_simp; (try rfl); done)); (try simp only [Act.put, List.setIfInBounds_toArray, List.set_cons_zero, List.set_cons_succ]))
        | (refine take_in (i := 7) (v := undef) rfl (by kernel_rfl) (by kernel_rfl) (by kernel_rfl) (fun _ _ _ h => h) (Or.inr ⟨by rfl, rfl⟩) (Below.refl _ _) ?_; (try simp only [Act.put, List.setIfInBounds_toArray, List.set_cons_zero, List.set_cons_succ]))
        | (fail "HTAKE 7")
      first
        | (refine take_in (i := 8) (v := ?_) rfl (by kernel_rfl) (by kernel_rfl) (by kernel_rfl) (fun _ _ _ h => h) (Or.inl ⟨by rfl, ?_⟩) (Below.refl _ _) ?_; rotate_left; (focus (intro W hSw; go_simp; (try rfl); done)); (try simp only [Act.put, List.setIfInBounds_toArray, List.set_cons_zero, List.set_cons_succ]))
        | (refine take_in (i := 8) (v := undef) rfl (by kernel_rfl) (by kernel_rfl) (by kernel_rfl) (fun _ _ _ h => h) (Or.inr ⟨by rfl, rfl⟩) (Below.refl _ _) ?_; (try simp only [Act.put, List.setIfInBounds_toArray, List.set_cons_zero, List.set_cons_succ]))
        | (fail "HTAKE 8")
      first
        | (refine take_in (i := 9) (v := ?_) rfl (by kernel_rfl) (by kernel_rfl) (by kernel_rfl) (fun _ _ _ h => h) (Or.inl ⟨by rfl, ?_⟩) (Below.refl _ _) ?_; rotate_left; (focus (intro W hSw; have C2 := C2 W hSw; go_simp; (try rfl); done)); (try simp only [Act.put, List.setIfInBounds_toArray, List.set_cons_zero, List.set_cons_succ]))
        | (refine take_in (i := 9) (v := undef) rfl (by kernel_rfl) (by kernel_rfl) (by kernel_rfl) (fun _ _ _ h => h) (Or.inr ⟨by rfl, rfl⟩) (Below.refl _ _) ?_; (try simp only [Act.put, List.setIfInBounds_toArray, List.set_cons_zero, List.set_cons_succ]))
        | (fail "HTAKE 9")
      refine call_in (i := 10) rfl (by kernel_rfl) (by kernel_rfl) (fun K hK => ?_)
      go_simp
      refine (same_any _ _ _).mono ?_
      rintro e w' ⟨rfl, rfl⟩
      refine hK.out _ _ (Below.refl _ _) ?_
      (try simp only [Act.put, List.setIfInBounds_toArray, List.set_cons_zero, List.set_cons_succ])
      refine wpAnyH_done (by kernel_rfl) ?_ _
      have hcx := HC.out x (List.mem_of_getElem? hx)
      have hcy := HC.out y (List.mem_of_getElem? hy)
      by_cases hxy : x = y
      case neg =>
        have hb0 : (keyF x == keyF y) = false := beq_false_of_ne (fun e => hxy (key_inj hcx hcy (by rw [← keyF_eq hcx.1, ← keyF_eq hcy.1, e])))
        have HD2 := Lib.hid (show ded (l.take (k + 1)) = l.take (k + 1) by rw [ded_new hk1 hx hy hxy, HD.out, ← take_at hx])
        rw [hb0]
        clear hx hy hcx hcy hxy C1 C2 hb0
        go_wp2_with fail
        go_roundw
        case measure => simp [intOf]; omega
        case rel => exact ⟨k + 1, by omega, by omega, by go_num, HD2.out, HR1.out, HB1.out⟩
      case pos =>
        subst hxy
        have HD2 := Lib.hid (show ded (l.take (k + 1)) = l.take k by rw [ded_same hk1 hx hy, HD.out])
        rw [show (keyF x == keyF x) = true from beq_self_eq_true _]
        clear hx hy hcx hcy C1 C2
        have k0 : (k : Int) ≤ (n : Int) := by omega
        have hck : ¬ cap = k := by omega
        go_wp2_with fail
        clear hck
        go_loopw [5, 7] (fun s5 s7 wr => ∃ (q j : Nat) (m : List Nat), s5 = .int .i64 q ∧ s7 = .int .i64 j ∧ 1 ≤ j ∧ j ≤ n - k ∧ q < k + j ∧ m.length = n ∧ m.take q = ded (l.take (k + j)) ∧ m.drop (k + j - 1) = l.drop (k + j - 1) ∧ RowF wr g cap m ∧ Below base w wr) (fun _ s7 _ => n - (intOf s7).toNat)
        case atStart => exact ⟨k, 1, l, rfl, rfl, by omega, by omega, by omega, HN.out, HD2.out.symm, rfl, HR1.out, HB1.out⟩
        case round =>
          obtain ⟨q, j, m, rfl, rfl, hj1, hjn, hqk, hm, hmt, hmd, hr2, hbel2⟩ := hrel
          have HM := Lib.hid hm
          have HMT := Lib.hid hmt
          have HMD := Lib.hid hmd
          have HR2 := Lib.hid hr2
          have HB2 := Lib.hid hbel2
          have hqn : q < n := by omega
          clear hm hmt hmd hr2 hbel2
          by_cases hlt2 : j < n - k
          · obtain ⟨x2, hx⟩ : ∃ x, l[k + j]? = some x := ⟨l[k + j]'(by omega), List.getElem?_eq_getElem (by omega)⟩
            obtain ⟨y2, hy⟩ : ∃ y, l[k + j - 1]? = some y := ⟨l[k + j - 1]'(by omega), List.getElem?_eq_getElem (by omega)⟩
            have hmx : m[k + j]? = some x2 := by
              have := congrArg (fun l => l[1]?) HMD.out
              simp only [List.getElem?_drop] at this
              rw [show k + j - 1 + 1 = k + j by omega] at this
              rw [this, hx]
            have hmy : m[k + j - 1]? = some y2 := by
              have := congrArg (fun l => l[0]?) HMD.out
              simp only [List.getElem?_drop, Nat.add_zero] at this
              rw [this, hy]
            have i0 : (0 : Int) ≤ (j : Int) := by omega
            have i1 : (j : Int) < ((n - k : Nat) : Int) := by omega
            have jw : IntKind.i64.wrap ((j : Int) - 1) = ((j - 1 : Nat) : Int) := by rw [IntWalk.i64_in _ (by omega)]; omega
            have j0 : (0 : Int) ≤ ((j - 1 : Nat) : Int) := by omega
            have j1 : ((j - 1 : Nat) : Int) < ((n - k : Nat) : Int) := by omega
            have cx := HR2.out.at hmx
            have cy := HR2.out.at hmy
            rw [show k + j - 1 = k + (j - 1) by omega] at cy
            clear hmx hmy
            go_wp2_with fail
            refine region_in (by kernel_rfl) (fun w1 hw1 => ?_)
            have HR3 := Lib.hid (HR2.out.below hw1 HR2.out.lt)
            have HB3 := Lib.hid (HB2.out.trans (hw1.mono (Nat.le_trans hB HB2.out.size)))
            have C1 : ∀ W, Below w1.heap.size w1 W → W.cell? ⟨g, k + j, none⟩ = some (.float .f64 x2) := fun W hW => cell_below hW (cell_below hw1 cx)
            have C2 : ∀ W, Below w1.heap.size w1 W → W.cell? ⟨g, k + (j - 1), none⟩ = some (.float .f64 y2) := fun W hW => cell_below hW (cell_below hw1 cy)
            clear cx cy hw1
            first
              | (refine take_in (i := 0) (v := ?_) rfl (by kernel_rfl) (by kernel_rfl) (by kernel_rfl) (fun _ _ _ h => h) (Or.inl ⟨by rfl, ?_⟩) (Below.refl _ _) ?_; rotate_left; (focus (intro W hSw; go_simp; (try rfl); done)); (try simp only [Act.put, List.setIfInBounds_toArray, List.set_cons_zero, List.set_cons_succ]))
              | (refine take_in (i := 0) (v := undef) rfl (by kernel_rfl) (by kernel_rfl) (by kernel_rfl) (fun _ _ _ h => h) (Or.inr ⟨by rfl, rfl⟩) (Below.refl _ _) ?_; (try simp only [Act.put, List.setIfInBounds_toArray, List.set_cons_zero, List.set_cons_succ]))
              | (fail "HTAKE 0")
            first
              | (refine take_in (i := 1) (v := ?_) rfl (by kernel_rfl) (by kernel_rfl) (by kernel_rfl) (fun _ _ _ h => h) (Or.inl ⟨by rfl, ?_⟩) (Below.refl _ _) ?_; rotate_left; (focus (intro W hSw; go_simp; (try rfl); done)); (try simp only [Act.put, List.setIfInBounds_toArray, List.set_cons_zero, List.set_cons_succ]))
              | (refine take_in (i := 1) (v := undef) rfl (by kernel_rfl) (by kernel_rfl) (by kernel_rfl) (fun _ _ _ h => h) (Or.inr ⟨by rfl, rfl⟩) (Below.refl _ _) ?_; (try simp only [Act.put, List.setIfInBounds_toArray, List.set_cons_zero, List.set_cons_succ]))
              | (fail "HTAKE 1")
            first
              | (refine take_in (i := 2) (v := ?_) rfl (by kernel_rfl) (by kernel_rfl) (by kernel_rfl) (fun _ _ _ h => h) (Or.inl ⟨by rfl, ?_⟩) (Below.refl _ _) ?_; rotate_left; (focus (intro W hSw; go_simp; (try rfl); done)); (try simp only [Act.put, List.setIfInBounds_toArray, List.set_cons_zero, List.set_cons_succ]))
              | (refine take_in (i := 2) (v := undef) rfl (by kernel_rfl) (by kernel_rfl) (by kernel_rfl) (fun _ _ _ h => h) (Or.inr ⟨by rfl, rfl⟩) (Below.refl _ _) ?_; (try simp only [Act.put, List.setIfInBounds_toArray, List.set_cons_zero, List.set_cons_succ]))
              | (fail "HTAKE 2")
            first
              | (refine take_in (i := 3) (v := ?_) rfl (by kernel_rfl) (by kernel_rfl) (by kernel_rfl) (fun _ _ _ h => h) (Or.inl ⟨by rfl, ?_⟩) (Below.refl _ _) ?_; rotate_left; (focus (intro W hSw; go_simp; (try rfl); done)); (try simp only [Act.put, List.setIfInBounds_toArray, List.set_cons_zero, List.set_cons_succ]))
              | (refine take_in (i := 3) (v := undef) rfl (by kernel_rfl) (by kernel_rfl) (by kernel_rfl) (fun _ _ _ h => h) (Or.inr ⟨by rfl, rfl⟩) (Below.refl _ _) ?_; (try simp only [Act.put, List.setIfInBounds_toArray, List.set_cons_zero, List.set_cons_succ]))
              | (fail "HTAKE 3")
            first
              | (refine take_in (i := 4) (v := ?_) rfl (by kernel_rfl) (by kernel_rfl) (by kernel_rfl) (fun _ _ _ h => h) (Or.inl ⟨by rfl, ?_⟩) (Below.refl _ _) ?_; rotate_left; (focus (intro W hSw; have C1 := C1 W hSw; go_simp; (try rfl); done)); (try simp only [Act.put, List.setIfInBounds_toArray, List.set_cons_zero, List.set_cons_succ]))
              | (refine take_in (i := 4) (v := undef) rfl (by kernel_rfl) (by kernel_rfl) (by kernel_rfl) (fun _ _ _ h => h) (Or.inr ⟨by rfl, rfl⟩) (Below.refl _ _) ?_; (try simp only [Act.put, List.setIfInBounds_toArray, List.set_cons_zero, List.set_cons_succ]))
              | (fail "HTAKE 4")
            first
              | (refine take_in (i := 5) (v := ?_) rfl (by kernel_rfl) (by kernel_rfl) (by kernel_rfl) (fun _ _ _ h => h) (Or.inl ⟨by rfl, ?_⟩) (Below.refl _ _) ?_; rotate_left; (focus (intro W hSw; go_simp; (try rfl); done)); (try simp only [Act.put, List.setIfInBounds_toArray, List.set_cons_zero, List.set_cons_succ]))
              | (refine take_in (i := 5) (v := undef) rfl (by kernel_rfl) (by kernel_rfl) (by kernel_rfl) (fun _ _ _ h => h) (Or.inr ⟨by rfl, rfl⟩) (Below.refl _ _) ?_; (try simp only [Act.put, List.setIfInBounds_toArray, List.set_cons_zero, List.set_cons_succ]))
              | (fail "HTAKE 5")
            first
              | (refine take_in (i := 6) (v := ?_) rfl (by kernel_rfl) (by kernel_rfl) (by kernel_rfl) (fun _ _ _ h => h) (Or.inl ⟨by rfl, ?_⟩) (Below.refl _ _) ?_; rotate_left; (focus (intro W hSw; go_simp; (try rfl); done)); (try simp only [Act.put, List.setIfInBounds_toArray, List.set_cons_zero, List.set_cons_succ]))
              | (refine take_in (i := 6) (v := undef) rfl (by kernel_rfl) (by kernel_rfl) (by kernel_rfl) (fun _ _ _ h => h) (Or.inr ⟨by rfl, rfl⟩) (Below.refl _ _) ?_; (try simp only [Act.put, List.setIfInBounds_toArray, List.set_cons_zero, List.set_cons_succ]))
              | (fail "HTAKE 6")
            first
              | (refine take_in (i := 7) (v := ?_) rfl (by kernel_rfl) (by kernel_rfl) (by kernel_rfl) (fun _ _ _ h => h) (Or.inl ⟨by rfl, ?_⟩) (Below.refl _ _) ?_; rotate_left; (focus (intro W hSw; go_simp; (try rfl); done)); (try simp only [Act.put, List.setIfInBounds_toArray, List.set_cons_zero, List.set_cons_succ]))
              | (refine take_in (i := 7) (v := undef) rfl (by kernel_rfl) (by kernel_rfl) (by kernel_rfl) (fun _ _ _ h => h) (Or.inr ⟨by rfl, rfl⟩) (Below.refl _ _) ?_; (try simp only [Act.put, List.setIfInBounds_toArray, List.set_cons_zero, List.set_cons_succ]))
              | (fail "HTAKE 7")
            first
              | (refine take_in (i := 8) (v := ?_) rfl (by kernel_rfl) (by kernel_rfl) (by kernel_rfl) (fun _ _ _ h => h) (Or.inl ⟨by rfl, ?_⟩) (Below.refl _ _) ?_; rotate_left; (focus (intro W hSw; go_simp; (try rfl); done)); (try simp only [Act.put, List.setIfInBounds_toArray, List.set_cons_zero, List.set_cons_succ]))
              | (refine take_in (i := 8) (v := undef) rfl (by kernel_rfl) (by kernel_rfl) (by kernel_rfl) (fun _ _ _ h => h) (Or.inr ⟨by rfl, rfl⟩) (Below.refl _ _) ?_; (try simp only [Act.put, List.setIfInBounds_toArray, List.set_cons_zero, List.set_cons_succ]))
              | (fail "HTAKE 8")
            first
              | (refine take_in (i := 9) (v := ?_) rfl (by kernel_rfl) (by kernel_rfl) (by kernel_rfl) (fun _ _ _ h => h) (Or.inl ⟨by rfl, ?_⟩) (Below.refl _ _) ?_; rotate_left; (focus (intro W hSw; have C2 := C2 W hSw; go_simp; (try rfl); done)); (try simp only [Act.put, List.setIfInBounds_toArray, List.set_cons_zero, List.set_cons_succ]))
              | (refine take_in (i := 9) (v := undef) rfl (by kernel_rfl) (by kernel_rfl) (by kernel_rfl) (fun _ _ _ h => h) (Or.inr ⟨by rfl, rfl⟩) (Below.refl _ _) ?_; (try simp only [Act.put, List.setIfInBounds_toArray, List.set_cons_zero, List.set_cons_succ]))
              | (fail "HTAKE 9")
            refine call_in (i := 10) rfl (by kernel_rfl) (by kernel_rfl) (fun K hK => ?_)
            go_simp
            refine (same_any _ _ _).mono ?_
            rintro e w' ⟨rfl, rfl⟩
            refine hK.out _ _ (Below.refl _ _) ?_
            (try simp only [Act.put, List.setIfInBounds_toArray, List.set_cons_zero, List.set_cons_succ])
            first
              | (refine take_in (i := 11) (v := ?_) rfl (by kernel_rfl) (by kernel_rfl) (by kernel_rfl) (fun _ _ _ h => h) (Or.inl ⟨by rfl, ?_⟩) (Below.refl _ _) ?_; rotate_left; (focus (intro W hSw; go_simp; (try rfl); done)); (try simp only [Act.put, List.setIfInBounds_toArray, List.set_cons_zero, List.set_cons_succ]))
              | (refine take_in (i := 11) (v := undef) rfl (by kernel_rfl) (by kernel_rfl) (by kernel_rfl) (fun _ _ _ h => h) (Or.inr ⟨by rfl, rfl⟩) (Below.refl _ _) ?_; (try simp only [Act.put, List.setIfInBounds_toArray, List.set_cons_zero, List.set_cons_succ]))
              | (fail "HTAKE 11")
            refine wpAnyH_done (by kernel_rfl) ?_ _
            have hcx := HC.out x2 (List.mem_of_getElem? hx)
            have hcy := HC.out y2 (List.mem_of_getElem? hy)
            by_cases hxy : x2 = y2
            case pos =>
              subst hxy
              have HD3 := Lib.hid (show m.take q = ded (l.take (k + j + 1)) by rw [ded_same (by omega) hx hy, HMT.out])
              have HE3 := Lib.hid (show m.drop (k + j) = l.drop (k + j) by
                have := congrArg (List.drop 1) HMD.out
                rwa [List.drop_drop, List.drop_drop, show k + j - 1 + 1 = k + j by omega] at this)
              rw [show (keyF x2 == keyF x2) = true from beq_self_eq_true _]
              clear hx hy hcx hcy C1 C2
              go_wp2_with fail
              go_roundw
              case measure => simp [intOf]; omega
              case rel => exact ⟨q, j + 1, m, rfl, by go_num, by omega, by omega, by omega, HM.out, HD3.out, HE3.out, HR3.out, HB3.out⟩
            case neg =>
              have hb0 : (keyF x2 == keyF y2) = false := beq_false_of_ne (fun e => hxy (key_inj hcx hcy (by rw [← keyF_eq hcx.1, ← keyF_eq hcy.1, e])))
              have hml := HM.out
              have HD3 := Lib.hid (show (m.set q x2).take (q + 1) = ded (l.take (k + j + 1)) by
                rw [ded_new (by omega) hx hy hxy, ← HMT.out]
                apply List.ext_getElem?
                intro t
                rw [List.getElem?_take, List.getElem?_append, List.getElem?_take, List.length_take, List.getElem?_set]
                by_cases h1 : t < q
                · rw [if_pos (by omega), if_neg (by omega), if_pos (by omega), if_pos h1]
                · by_cases h2 : t = q
                  · subst h2
                    rw [if_pos (by omega), if_pos rfl, if_pos (by omega), if_neg (by omega), show t - min t m.length = 0 by omega]
                    rfl
                  · rw [if_neg (by omega), if_neg (by omega), List.getElem?_eq_none (by simp; omega)])
              have HE3 := Lib.hid (show (m.set q x2).drop (k + j) = l.drop (k + j) by
                have := congrArg (List.drop 1) HMD.out
                rw [List.drop_drop, List.drop_drop, show k + j - 1 + 1 = k + j by omega] at this
                rw [← this]
                apply List.ext_getElem?
                intro t
                rw [List.getElem?_drop, List.getElem?_drop, List.getElem?_set_ne (by omega)])
              rw [hb0]
              have c5 := C1 w1 (Below.refl _ _)
              obtain ⟨z, hz⟩ : ∃ z, m[q]? = some z := ⟨m[q]'(by omega), List.getElem?_eq_getElem (by omega)⟩
              have cq := HR3.out.at hz
              have fq := HR3.out.free q
              have q0 : (0 : Int) ≤ (q : Int) := by omega
              have q1 : (q : Int) < (n : Int) := by omega
              have HR4 := Lib.hid (HR3.out.set q x2)
              have HB4 := Lib.hid (HB3.out.setCell (p := ⟨g, q, none⟩) hb (.float .f64 x2))
              clear hx hy hcx hcy hxy C1 C2 hb0 hml hz
              go_wp2_with fail
              go_roundw
              case measure => simp [intOf]; omega
              case rel => exact ⟨q + 1, j + 1, m.set q x2, by go_num, by go_num, by omega, by omega, by omega, by simpa using HM.out, HD3.out, HE3.out, HR4.out, HB4.out⟩
          · have hj : j = n - k := by omega
            have q0 : (0 : Int) ≤ (q : Int) := by omega
            have q1 : (q : Int) ≤ (n : Int) := by omega
            have hq2 : ¬ cap = q := by omega
            have hji : ¬ (j : Int) < ((n - k : Nat) : Int) := by omega
            have HE := Lib.hid (show m.take q = ded l by rw [HMT.out, List.take_of_length_le (by rw [HN.out]; omega)])
            have hclr := Lib.run_clear_slice (P := Try.prog) wr 22 27 0 (.float .f64 0) Try.underlying22 zerF rfl rfl g q (n - q) (cap - q) (by omega)
              (fun t ht => by
                have hml := HM.out
                rw [HR2.out.at (List.getElem?_eq_getElem (i := q + t) (h := by omega))]
                rfl)
              (fun t _ => HR2.out.free (q + t))
            have HR5 := Lib.hid (show RowF (wr.setCells g q (List.replicate (n - q) (.float .f64 0))) g cap (ded l) by
              rw [← HE.out]
              exact (HR2.out.take q).cells (by rw [List.length_take]; omega))
            have HB5 := Lib.hid (below_cells hb (vs := List.replicate (n - q) (.float .f64 0)) (j := q) HB2.out)
            have HQ := Lib.hid (show (ded l).length = q by rw [← HE.out, List.length_take, HM.out]; omega)
            have hqc : (q : Int) ≤ (cap : Int) := by omega
            go_wp2_with fail
            go_ret
            exact ⟨by rw [HQ.out]; rfl, HR5.out, HB5.out⟩
    · obtain rfl : k = n := by omega
      have HE := Lib.hid (show ded l = l by have := HD.out; rwa [List.take_of_length_le (by rw [HN.out]; omega)] at this)
      go_wp2_with fail
      go_ret
      exact ⟨by rw [HE.out, HN.out]; rfl, by rw [HE.out]; exact HR.out, HB.out⟩
set_option maxRecDepth 20000 in
theorem ded_lt {l : List Nat} (h : ∀ x ∈ l, CanN x) : ∀ x ∈ ded l, x ∈ l := by
  have key : ∀ (r e : List Nat), (∀ x ∈ e, x ∈ l) → (∀ x ∈ r, x ∈ l) → ∀ x ∈ r.foldl stepD e, x ∈ l := by
    intro r
    induction r with
    | nil => intro e he _; exact he
    | cons f r ih =>
      intro e he hr
      refine ih _ ?_ (fun x hx => hr x (List.mem_cons_of_mem _ hx))
      unfold stepD
      split
      · exact he
      · intro x hx
        rcases List.mem_append.1 hx with hx | hx
        · exact he x hx
        · rw [List.mem_singleton.1 hx]; exact hr f List.mem_cons_self
  exact key l [] (fun x hx => by cases hx) (fun x hx => hx)
set_option maxRecDepth 20000 in
theorem compact_any (w : World) (base : Nat) (v : Value) (l : List Nat) (h : Own w base 27 .f64 v l) (hl : l.length ≤ 100000) (hc : ∀ x ∈ l, CanN x) (hB : base ≤ w.heap.size) :
    Calls Try.prog 38 #[v, .func (.func 39) #[] #[]] w fun e w' => ∃ v', e = .returned v' ∧ Own w' base 27 .f64 v' (ded l) ∧ Below base w w' := by
  obtain ⟨A, c, rfl, _⟩ := Own.form h
  by_cases hn : l.length < 2
  · refine (compact_small A l.length c _ hn w).mono ?_
    rintro e w' ⟨rfl, rfl⟩
    exact ⟨_, rfl, by rw [ded_one l hn]; exact h, Below.refl _ _⟩
  · rcases own_holds h with ⟨_, e⟩ | ⟨g, cap, cur, e, hb, hh, hlc, hcm, hcs, htk, hlt, _⟩
    · subst e; exact absurd (by decide) hn
    · injection e with e1 e2 e3
      subst e1 e3
      refine (compact_row w g c l.length base l ⟨cur, hh, hcs, htk, hlc⟩ rfl (by omega) hl hc hb hB).mono ?_
      rintro e w' ⟨rfl, hr, hbw⟩
      exact ⟨_, rfl, hr.own hb hcm (fun x hx => (hc x (ded_lt hc x hx)).1), hbw⟩
end Go.Proofs.Ythkfjcfncobllaa
