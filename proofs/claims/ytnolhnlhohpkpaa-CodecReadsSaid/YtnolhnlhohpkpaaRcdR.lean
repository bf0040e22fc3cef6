import Derived.Test.YtnolhnlhohpkpaaRcdY
namespace Go.Proofs.Ytnolhnlhohpkpaa
open Go.RowKit Cdc
set_option linter.unusedVariables false
set_option linter.unusedSimpArgs false
/-- The reference's reader, in the block g; its bytes lie below M. -/
def RfAt (w : World) (M g : Nat) (s : St) : Prop :=
  ∃ A c, w.heap[g]? = some (.cells #[.slice A s.1.length c, .bool s.2] 47 (0, 0)) ∧ s.1.length ≤ c ∧ c ≤ 9223372036854775807 ∧ (A = none → c = 0) ∧ Bs w A s.1.length s.1 ∧ (s.1 ≠ [] → ∀ ad, A = some ad → ad.block < M) ∧ M ≤ g ∧ (s.2 = true → s.1 = [])
set_option maxRecDepth 20000 in
theorem RfAt.lt {w : World} {M g : Nat} {s : St} (h : RfAt w M g s) : g < w.heap.size := by
  obtain ⟨A, c, hg, _⟩ := h
  exact blk_lt hg
set_option maxRecDepth 20000 in
theorem RfAt.bad {w : World} {M g : Nat} {s : St} (h : RfAt w M g s) : w.cell? ⟨g, 1, none⟩ = some (.bool s.2) := by
  obtain ⟨A, c, hg, _⟩ := h
  exact blk_at hg 1 _ rfl
set_option maxRecDepth 20000 in
theorem bs_keep {w w' : World} {A : Option Addr} {n : Nat} {xs : List UInt8} (h : Bs w A n xs) (hk : xs ≠ [] → ∀ ad, A = some ad → w'.heap[ad.block]? = w.heap[ad.block]?) : Bs w' A n xs := by
  refine ⟨h.1, h.2.1, h.2.2.1, fun ad e j u hu => ?_⟩
  have hn : xs ≠ [] := by intro e; rw [e] at hu; simp at hu
  have hc := h.2.2.2 ad e j u hu
  have h3 : w'.heap[(ad.add j).block]? = w.heap[(ad.add j).block]? := by rw [add_block]; exact hk hn ad e
  simpa [World.cell?, h3] using hc
set_option maxRecDepth 20000 in
theorem RfAt.keep {w w' : World} {M g : Nat} {s : St} (h : RfAt w M g s) (hk : ∀ b, (b < M ∨ b = g) → b < w.heap.size → w'.heap[b]? = w.heap[b]?) : RfAt w' M g s := by
  obtain ⟨A, c, hg, h1, h2, h3, h4, h5, h6, h7⟩ := h
  exact ⟨A, c, (hk g (.inr rfl) (blk_lt hg)).trans hg, h1, h2, h3, bs_keep h4 (fun hn ad e => hk _ (.inl (h5 hn ad e)) (by have := h5 hn ad e; have := blk_lt hg; omega)), h5, h6, h7⟩
set_option maxRecDepth 20000 in
theorem RfAt.below {w w' : World} {M g : Nat} {s : St} (h : RfAt w M g s) (hb : Below w.heap.size w w') : RfAt w' M g s := h.keep fun b _ hlt => hb.block b hlt
set_option maxRecDepth 20000 in
theorem rf_failed {w : World} {M g : Nat} {A : Option Addr} {n c : Nat} {b : Bool} (hM : M ≤ g) (hg : w.heap[g]? = some (.cells #[.slice A n c, .bool b] 47 (0, 0))) :
    RfAt ((w.setCell ⟨g, 1, none⟩ (.bool true)).setCell ⟨g, 0, none⟩ (.slice none 0 0)) M g failed :=
  ⟨none, 0, blk_set (blk_set hg 1 (Value.bool true)) 0 (Value.slice none 0 0), Nat.le_refl _, by omega, fun _ => rfl, ⟨by simp, rfl, fun _ => rfl, fun ad e => by cases e⟩, by simp, hM, fun _ => rfl⟩
set_option maxRecDepth 20000 in
theorem rfail_any (w : World) (M g : Nat) (s : St) (h : RfAt w M g s) :
    Calls Try.prog 73 #[.pointer (some ⟨g, 0, none⟩)] w fun e w' => e = .returned noResult ∧ RfAt w' M g failed ∧ w.grownBy w' (some g) := by
  obtain ⟨A, c, hg, _, _, _, _, _, h6, _⟩ := h
  have c0 := blk_at hg 0 _ rfl
  have c1 := blk_at hg 1 _ rfl
  have f0 := blk_free hg 0
  have f1 := blk_free hg 1
  have HG := Lib.hid hg
  clear hg
  go_enter Try.func73, Try.ntmps73
  go_wp2_with fail
  refine bodyPost_end (results_none rfl _ _ _) rfl ?_
  exact ⟨rfl, rf_failed h6 HG.out, grown_set (grown_set (grown_refl _ _))⟩
/-- How a number of so many bytes is read. -/
def RxPost (w : World) (M g k : Nat) (s : St) (e : Ending) (w' : World) : Prop :=
  e = .returned (.int .u64 (fx k s).1) ∧ RfAt w' M g (fx k s).2 ∧ w.grownBy w' (some g)
set_option maxRecDepth 20000 in
theorem rf_from {w : World} {M g n c : Nat} {A A2 : Option Addr} {s : St} (hlen : n ≤ s.1.length) (hs : s.2 = false) (hg : w.heap[g]? = some (.cells #[.slice A s.1.length c, .bool s.2] 47 (0, 0)))
    (h1 : s.1.length ≤ c) (h2 : c ≤ 9223372036854775807) (h3 : A = none → c = 0) (h4 : Bs w A s.1.length s.1) (h5 : s.1 ≠ [] → ∀ ad, A = some ad → ad.block < M) (hM : M ≤ g) (h6 : A2 = if c = n then A else A.map (fun x : Addr => x.add n)) {m d : Nat} (hm : m = s.1.length - n) (hd : d = c - n) :
    RfAt (w.setCell ⟨g, 0, none⟩ (.slice A2 m d)) M g (s.1.drop n, false) := by
  obtain ⟨f1, f2⟩ := Bs.from_ h4 h1 n hlen
  rw [← h6] at f1 f2
  subst hm hd
  have q := blk_set hg 0 (Value.slice A2 (s.1.length - n) (c - n))
  rw [hs] at q
  have hblk : s.1.drop n ≠ [] → ∀ ad, A2 = some ad → ad.block < M := by
    intro hn ad e
    have f3 : A.map (·.block) = some ad.block := by rw [← f2, e]; rfl
    rw [Option.map_eq_some_iff] at f3
    obtain ⟨ad', e', f4⟩ := f3
    rw [← f4]
    exact h5 (by intro e; apply hn; rw [e]; simp) ad' e'
  refine ⟨A2, c - n, ?_, ?_, by omega, ?_, ?_, hblk, hM, fun e => by cases e⟩
  · show _ = some (Obj.cells #[.slice A2 (s.1.drop n).length (c - n), .bool false] _ _)
    rw [List.length_drop]; exact q
  · show (s.1.drop n).length ≤ c - n
    rw [List.length_drop]; omega
  · intro e
    rw [h6] at e
    by_cases hc : c = n
    · rw [if_pos hc] at e; have := h3 e; omega
    · rw [if_neg hc] at e
      cases A with
      | none => have := h3 rfl; omega
      | some ad => cases e
  · show Bs _ A2 (s.1.drop n).length (s.1.drop n)
    rw [List.length_drop]
    exact bs_keep f1 (fun hn ad e => by have := hblk hn ad e; exact Below.heap_setCell _ _ _ _ (show ad.block ≠ g by omega))
set_option maxHeartbeats 4000000 in
set_option maxRecDepth 20000 in
theorem rnum_any (w : World) (M g k : Nat) (s : St) (h : RfAt w M g s) (hk : 1 ≤ k ∧ k ≤ 8) :
    Calls Try.prog 72 #[.pointer (some ⟨g, 0, none⟩), .int .i64 k] w (RxPost w M g k s) := by
  obtain ⟨A, c, hg, h1, h2, h3, h4, h5, h6, h7⟩ := id h
  have c0 := blk_at hg 0 _ rfl
  have f0 := blk_free hg 0
  have HG := Lib.hid hg
  have H := Lib.hid h
  by_cases hlt : s.1.length < k
  · have hlt' : (s.1.length : Int) < (k : Int) := by omega
    have HD := Lib.hid (show fx k s = (0, failed) from fx_bad (.inr hlt))
    clear hg h h4 h7 hlt
    go_enter Try.func72, Try.ntmps72
    go_wp2_with (go_at_call 73; refine (rfail_any w M g s H.out).mono ?_; rintro e w2 ⟨rfl, hr, hgr⟩)
    go_ret
    unfold RxPost
    rw [HD.out]
    exact ⟨rfl, hr, hgr⟩
  · have hle : (k : Int) ≤ (s.1.length : Int) := by omega
    have hle2 : (k : Int) ≤ (c : Int) := by omega
    have k0 : (0 : Int) ≤ (k : Int) := by omega
    have hs2 : s.2 = false := by
      cases hs : s.2 with
      | false => rfl
      | true => have := h7 hs; rw [this] at hlt; simp at hlt; omega
    have HD := Lib.hid (show fx k s = (val (s.1.take k), s.1.drop k, false) by unfold fx; rw [if_neg (by rw [hs2]; simp; omega)])
    have HS2 := Lib.hid hs2
    have hkl : k ≤ s.1.length := by omega
    have HKL := Lib.hid hkl
    obtain ⟨ys, hys⟩ : ∃ ys, s.1.take k = ys := ⟨_, rfl⟩
    have hyl : ys.length = k := by rw [← hys, List.length_take]; omega
    have hbs : Bs w A k ys := ⟨by omega, by simp [hyl], fun e => by have := h3 e; omega, fun ad e j u hu => h4.2.2.2 ad e j u (by
      rw [← hys, List.getElem?_map, List.getElem?_take] at hu
      rw [List.getElem?_map]
      by_cases hj : j < k
      · rwa [if_pos hj] at hu
      · rw [if_neg hj] at hu; cases hu)⟩
    have H4 := Lib.hid h4
    rw [hys] at HD
    clear hg h h4 h7 hlt hs2 hkl hys
    go_enter Try.func72, Try.ntmps72
    go_wp2_with fail
    go_loop [5, 24] (fun s5 s24 => ∃ i : Nat, i ≤ k ∧ s24 = .int .i64 i ∧ s5 = .int .u64 (val (ys.take i))) (fun _ s24 => k - (intOf s24).toNat)
    case atStart => exact ⟨0, by omega, rfl, rfl⟩
    case round =>
      obtain ⟨i, hi, rfl, rfl⟩ := hrel
      by_cases hlti : i < k
      · obtain ⟨ad, x, rfl, hx, cx⟩ := hbs.at_ i hlti
        have i0 : (0 : Int) ≤ (i : Int) := by omega
        have i1 : (i : Int) < (k : Int) := by omega
        have hvl := val_lt (ys.take i)
        rw [List.length_take, Nat.min_eq_left (by omega)] at hvl
        have hv7 : val (ys.take i) < 72057594037927936 := Nat.lt_of_lt_of_le hvl (show 256 ^ i ≤ 256 ^ 7 from Nat.pow_le_pow_right (by omega) (by omega))
        have HN := Lib.hid (show val (ys.take (i + 1)) = val (ys.take i) * 256 + x.toNat by rw [take_at hx, val_snoc])
        have hxl := x.toNat_lt
        clear hx hvl
        obtain ⟨V, hV⟩ : ∃ V, val (ys.take i) = V := ⟨_, rfl⟩
        rw [hV] at HN hv7 ⊢
        clear hV
        go_wp2_with fail
        go_round
        case rel => exact ⟨i + 1, by omega, by go_num, by rw [HN.out]; go_num⟩
        case measure => simp [intOf]; omega
      · obtain rfl : i = k := by omega
        have HE := Lib.hid (show val (ys.take i) = val ys by rw [List.take_of_length_le (by omega)])
        clear hbs
        go_wp2_with fail
        · go_ret
          have hcn : c = i := by assumption
          unfold RxPost
          rw [HD.out]
          refine ⟨congrArg (fun n : Nat => Ending.returned (Value.int .u64 n)) HE.out, rf_from (A2 := A) HKL.out HS2.out HG.out h1 h2 h3 H4.out h5 h6 (if_pos hcn).symm rfl (by omega), grown_set (grown_refl _ _)⟩
        · go_ret
          have hcn : ¬ c = i := by assumption
          unfold RxPost
          rw [HD.out]
          refine ⟨congrArg (fun n : Nat => Ending.returned (Value.int .u64 n)) HE.out, rf_from (A2 := A.map (fun x : Addr => x.add i)) HKL.out HS2.out HG.out h1 h2 h3 H4.out h5 h6 (if_neg hcn).symm rfl rfl, grown_set (grown_refl _ _)⟩
end Go.Proofs.Ytnolhnlhohpkpaa
