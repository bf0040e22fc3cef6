import Derived.Test.YtfjnpiahloncmaaGreatBox2
import Derived.Test.YtfjnpiahloncmaaGreatCdcP
import Derived.Test.YtfjnpiahloncmaaGreatFltL
import Derived.IntWalk
namespace Go.Proofs.YtfjnpiahloncmaaGreat
open Go.RowKit Cdc
set_option linter.unusedVariables false
set_option linter.unusedSimpArgs false
/-- The blocks of a writer: its own, and the row's. -/
def Mine (w : World) (g k : Nat) : Prop := k = g ∨ ∃ v t f, w.heap[g]? = some (.cells #[v] t f) ∧ v.ownBlock = some k
/-- All other blocks are as they were, and stay others. -/
def Fr (w w' : World) (g : Nat) : Prop := ∀ k o, w.heap[k]? = some o → ¬ Mine w g k → w'.heap[k]? = some o ∧ ¬ Mine w' g k
set_option maxRecDepth 20000 in
theorem Fr.refl (w : World) (g : Nat) : Fr w w g := fun _ _ h h2 => ⟨h, h2⟩
set_option maxRecDepth 20000 in
theorem Fr.trans {a b c : World} {g : Nat} (h : Fr a b g) (h2 : Fr b c g) : Fr a c g := fun k o hk hm => by
  obtain ⟨h3, h4⟩ := h k o hk hm
  exact h2 k o h3 h4
/-- A writer that holds bytes. -/
def Wr (w : World) (B g : Nat) (xs : List UInt8) : Prop :=
  ∃ v, B ≤ g ∧ w.heap[g]? = some (.cells #[v] 65 (0, 0)) ∧ w.ownsRow B 5 1 v xs.length (xs.map encB) ∧ v.ownBlock ≠ some g
set_option maxRecDepth 20000 in
theorem Wr.mine {w : World} {B g : Nat} {xs : List UInt8} (h : Wr w B g xs) {k : Nat} (hk : Mine w g k) : B ≤ k := by
  obtain ⟨v, hB, hg, ho, hne⟩ := h
  rcases hk with rfl | ⟨v', t, f, hg', hv⟩
  · exact hB
  · rw [hg] at hg'
    injection hg' with e
    injection e with e _ _
    have : v = v' := by simpa using e
    subst this
    exact own_base ho k hv
set_option maxRecDepth 20000 in
theorem Wr.below {w w' : World} {B g : Nat} {xs : List UInt8} (h : Wr w B g xs) (hb : Below w.heap.size w w') : Wr w' B g xs := by
  obtain ⟨v, hB, hg, ho, hne⟩ := h
  exact ⟨v, hB, blk_below hg hb (blk_lt hg), own_below ho hb, hne⟩
set_option maxRecDepth 20000 in
theorem fr_below {w w' : World} {B g : Nat} {xs : List UInt8} (h : Wr w B g xs) (hb : Below w.heap.size w w') : Fr w w' g := by
  obtain ⟨v, hB, hg, ho, hne⟩ := h
  intro k o hk hm
  refine ⟨blk_below hk hb (blk_lt hk), fun hm' => hm ?_⟩
  rcases hm' with rfl | ⟨v', t, f, hg', hv⟩
  · exact .inl rfl
  · rw [blk_below hg hb (blk_lt hg)] at hg'
    exact .inr ⟨v', t, f, by rw [hg]; exact hg', hv⟩
set_option maxRecDepth 20000 in
/-- What an append and the store of what came of it leave. -/
theorem wr_app {w W w1 : World} {B g n : Nat} {xs ys : List UInt8} {v v1 : Value} (hB : B ≤ g) (hg : w.heap[g]? = some (.cells #[v] 65 (0, 0))) (ho : w.ownsRow B 5 1 v xs.length (xs.map encB)) (hne : v.ownBlock ≠ some g)
    (hbW : Below w.heap.size w W) (h1 : w1.ownsRow B 5 1 v1 n ((xs ++ ys).map encB)) (hgr : W.grownBy w1 v.ownBlock) (hat : v1.ownBlock = v.ownBlock ∨ v1.ownBlock = some W.heap.size) :
    Wr (w1.setCell ⟨g, 0, none⟩ v1) B g (xs ++ ys) ∧ Fr w (w1.setCell ⟨g, 0, none⟩ v1) g ∧ (∀ {w0}, Below B w0 w → B ≤ w.heap.size → Below B w0 (w1.setCell ⟨g, 0, none⟩ v1)) := by
  have hgl := blk_lt hg
  have hgW := blk_below hg hbW hgl
  have hg1 : w1.heap[g]? = some (.cells #[v] 65 (0, 0)) := blk_grown hgW hgr (fun e => hne e.symm)
  have hn1 : v1.ownBlock ≠ some g := by
    rcases hat with h | h
    · rw [h]; exact hne
    · rw [h]; intro e; injection e with e; have := hbW.size; omega
  have hg2 : (w1.setCell ⟨g, 0, none⟩ v1).heap[g]? = some (.cells #[v1] 65 (0, 0)) := by
    have := blk_set hg1 0 v1
    simpa using this
  have hlen : n = (xs ++ ys).length := by have := h1.1; simp at this ⊢; omega
  subst hlen
  have ho2 : (w1.setCell ⟨g, 0, none⟩ v1).ownsRow B 5 1 v1 (xs ++ ys).length ((xs ++ ys).map encB) := by
    refine ⟨h1.1, ?_⟩
    rcases h1.2 with h | ⟨r, cap, cur, hv, hr, hh, h3⟩
    · exact .inl h
    · refine .inr ⟨r, cap, cur, hv, hr, ?_, h3⟩
      rw [Below.heap_setCell _ _ _ _ (fun e => hn1 (by rw [hv, e]; rfl)), hh]
  refine ⟨⟨v1, hB, hg2, ho2, hn1⟩, ?_, ?_⟩
  · intro k o hk hm
    have hkg : k ≠ g := fun e => hm (.inl e)
    have hkv : v.ownBlock ≠ some k := fun e => hm (.inr ⟨v, _, _, hg, e⟩)
    refine ⟨?_, ?_⟩
    · rw [Below.heap_setCell _ _ _ _ hkg]
      exact blk_grown (blk_below hk hbW (blk_lt hk)) hgr (fun e => hkv e.symm)
    · rintro (e | ⟨v', t, f, hg', hv'⟩)
      · exact hkg e
      · rw [hg2] at hg'
        injection hg' with e
        injection e with e _ _
        have : v1 = v' := by simpa using e
        subst this
        rcases hat with h | h
        · rw [h] at hv'; exact hkv hv'
        · rw [h] at hv'; injection hv' with hv'; have := blk_lt hk; have := hbW.size; omega
  · intro w0 hb hBs
    refine ((hb.trans (hbW.mono hBs)).grown hgr (Nat.le_trans hBs hbW.size) (fun k hk => own_base ho k hk)).setCell hB _
set_option maxHeartbeats 4000000 in
set_option maxRecDepth 20000 in
theorem size_any (n : Nat) (w : World) (hn : n < 18446744073709551616) :
    Calls Tryz.prog 55 #[.int .u64 n] w fun e w' => e = .returned (.int .i64 (wide n)) ∧ w = w' := by
  go_enter Tryz.func55, Tryz.ntmps55
  go_wp2_with fail
  go_loop [3] (fun s3 => ∃ k : Nat, 1 ≤ k ∧ k ≤ wide n ∧ s3 = .int .i64 k) (fun s3 => 9 - (intOf s3).toNat)
  case atStart => exact ⟨1, by omega, (wide_pos n).1, rfl⟩
  case round =>
    obtain ⟨k, h1, h2, rfl⟩ := hrel
    have h8 : k = 1 ∨ k = 2 ∨ k = 3 ∨ k = 4 ∨ k = 5 ∨ k = 6 ∨ k = 7 ∨ k = 8 := by have := (wide_pos n).2; omega
    have n0 : (0 : Int) ≤ (n : Int) := by omega
    have H2 := Lib.hid h2
    clear h2
    rcases h8 with rfl | rfl | rfl | rfl | rfl | rfl | rfl | rfl
    · by_cases hge : 256 ≤ n
      · have hb : ((n : Int) / 256 == 0) = false := by rw [beq_eq_false_iff_ne]; omega
        have hw : 2 ≤ wide n := by unfold wide; (repeat' split) <;> omega
        have HW := Lib.hid hw
        clear hw
        go_wp2_with fail
        go_round
        case rel => exact ⟨2, by omega, HW.out, rfl⟩
        case measure => simp [intOf]
      · have hb : ((n : Int) / 256 == 0) = true := by rw [beq_iff_eq]; omega
        have HW := Lib.hid (show wide n = 1 by have h3 : 1 ≤ wide n := H2.out; revert h3; unfold wide; (repeat' split) <;> omega)
        go_wp2_with fail
        go_ret
        exact ⟨by rw [HW.out]; rfl, rfl⟩
    · by_cases hge : 65536 ≤ n
      · have hb : ((n : Int) / 65536 == 0) = false := by rw [beq_eq_false_iff_ne]; omega
        have hw : 3 ≤ wide n := by unfold wide; (repeat' split) <;> omega
        have HW := Lib.hid hw
        clear hw
        go_wp2_with fail
        go_round
        case rel => exact ⟨3, by omega, HW.out, rfl⟩
        case measure => simp [intOf]
      · have hb : ((n : Int) / 65536 == 0) = true := by rw [beq_iff_eq]; omega
        have HW := Lib.hid (show wide n = 2 by have h3 : 2 ≤ wide n := H2.out; revert h3; unfold wide; (repeat' split) <;> omega)
        go_wp2_with fail
        go_ret
        exact ⟨by rw [HW.out]; rfl, rfl⟩
    · by_cases hge : 16777216 ≤ n
      · have hb : ((n : Int) / 16777216 == 0) = false := by rw [beq_eq_false_iff_ne]; omega
        have hw : 4 ≤ wide n := by unfold wide; (repeat' split) <;> omega
        have HW := Lib.hid hw
        clear hw
        go_wp2_with fail
        go_round
        case rel => exact ⟨4, by omega, HW.out, rfl⟩
        case measure => simp [intOf]
      · have hb : ((n : Int) / 16777216 == 0) = true := by rw [beq_iff_eq]; omega
        have HW := Lib.hid (show wide n = 3 by have h3 : 3 ≤ wide n := H2.out; revert h3; unfold wide; (repeat' split) <;> omega)
        go_wp2_with fail
        go_ret
        exact ⟨by rw [HW.out]; rfl, rfl⟩
    · by_cases hge : 4294967296 ≤ n
      · have hb : ((n : Int) / 4294967296 == 0) = false := by rw [beq_eq_false_iff_ne]; omega
        have hw : 5 ≤ wide n := by unfold wide; (repeat' split) <;> omega
        have HW := Lib.hid hw
        clear hw
        go_wp2_with fail
        go_round
        case rel => exact ⟨5, by omega, HW.out, rfl⟩
        case measure => simp [intOf]
      · have hb : ((n : Int) / 4294967296 == 0) = true := by rw [beq_iff_eq]; omega
        have HW := Lib.hid (show wide n = 4 by have h3 : 4 ≤ wide n := H2.out; revert h3; unfold wide; (repeat' split) <;> omega)
        go_wp2_with fail
        go_ret
        exact ⟨by rw [HW.out]; rfl, rfl⟩
    · by_cases hge : 1099511627776 ≤ n
      · have hb : ((n : Int) / 1099511627776 == 0) = false := by rw [beq_eq_false_iff_ne]; omega
        have hw : 6 ≤ wide n := by unfold wide; (repeat' split) <;> omega
        have HW := Lib.hid hw
        clear hw
        go_wp2_with fail
        go_round
        case rel => exact ⟨6, by omega, HW.out, rfl⟩
        case measure => simp [intOf]
      · have hb : ((n : Int) / 1099511627776 == 0) = true := by rw [beq_iff_eq]; omega
        have HW := Lib.hid (show wide n = 5 by have h3 : 5 ≤ wide n := H2.out; revert h3; unfold wide; (repeat' split) <;> omega)
        go_wp2_with fail
        go_ret
        exact ⟨by rw [HW.out]; rfl, rfl⟩
    · by_cases hge : 281474976710656 ≤ n
      · have hb : ((n : Int) / 281474976710656 == 0) = false := by rw [beq_eq_false_iff_ne]; omega
        have hw : 7 ≤ wide n := by unfold wide; (repeat' split) <;> omega
        have HW := Lib.hid hw
        clear hw
        go_wp2_with fail
        go_round
        case rel => exact ⟨7, by omega, HW.out, rfl⟩
        case measure => simp [intOf]
      · have hb : ((n : Int) / 281474976710656 == 0) = true := by rw [beq_iff_eq]; omega
        have HW := Lib.hid (show wide n = 6 by have h3 : 6 ≤ wide n := H2.out; revert h3; unfold wide; (repeat' split) <;> omega)
        go_wp2_with fail
        go_ret
        exact ⟨by rw [HW.out]; rfl, rfl⟩
    · by_cases hge : 72057594037927936 ≤ n
      · have hb : ((n : Int) / 72057594037927936 == 0) = false := by rw [beq_eq_false_iff_ne]; omega
        have hw : 8 ≤ wide n := by unfold wide; (repeat' split) <;> omega
        have HW := Lib.hid hw
        clear hw
        go_wp2_with fail
        go_round
        case rel => exact ⟨8, by omega, HW.out, rfl⟩
        case measure => simp [intOf]
      · have hb : ((n : Int) / 72057594037927936 == 0) = true := by rw [beq_iff_eq]; omega
        have HW := Lib.hid (show wide n = 7 by have h3 : 7 ≤ wide n := H2.out; revert h3; unfold wide; (repeat' split) <;> omega)
        go_wp2_with fail
        go_ret
        exact ⟨by rw [HW.out]; rfl, rfl⟩
    · go_wp2_with fail
      go_ret
      exact ⟨by rw [show wide n = 8 by have := (wide_pos n).2; have := H2.out; omega]; rfl, rfl⟩
set_option maxRecDepth 20000 in
theorem wpo_app {P : Program} {o : Oper} {a : Act} {K : Act → World → Prop} {Q : Exit → Act → World → Prop} {W : World} {base n m c bytes : Nat} {e t : TypeId} {z v : Value} {xs ys : List Value} {A : Option Addr} (s x : Operand)
    (ho : o.op = .call { callee := .builtin .append, args := #[s, x], argTypes := #[t, t] })
    (HO : W.ownsRow base e 1 v n xs) (HR : Rc W A m ys) (ht : P.underlying t = some (.slice e)) (hinfo : (P.info? e).map (fun i => (i.zero, i.size, i.bytes)) = some (some z, 1, bytes)) (hzs : z.cells.size = 1)
    (hs : a.eval s = v) (hx : a.eval x = .slice A m c) (h1 : ∀ u ∈ ys, u.oneCell' = true)
    (hl : (n + m) * bytes ≤ 140737488355328) (h63 : n + m ≤ 9223372036854775807) (hbase : base ≤ W.heap.size)
    (h : ∀ v1 w1, w1.ownsRow base e 1 v1 (n + m) (xs ++ ys) → W.grownBy w1 v.ownBlock → (v1.ownBlock = v.ownBlock ∨ v1.ownBlock = some W.heap.size) → K (a.put o.dst v1) w1) :
    Oper.wp P o a W K Q := by
  obtain ⟨i0, hi, hzz⟩ := Option.map_eq_some_iff.1 hinfo
  simp only [Prod.mk.injEq] at hzz
  obtain ⟨hz0, hz1, hz2⟩ := hzz
  have hrun : ∃ v1 w1, (Builtin.append_ #[t, t] o.type #[v, .slice A m c]).run P W = .ok v1 w1 ∧ w1.ownsRow base e 1 v1 (n + m) (xs ++ ys) ∧ W.grownBy w1 v.ownBlock ∧ (v1.ownBlock = v.ownBlock ∨ v1.ownBlock = some W.heap.size) := by
    cases A with
    | none =>
      obtain rfl : m = 0 := HR.2.1 rfl
      obtain rfl : ys = [] := List.eq_nil_of_length_eq_zero HR.1
      refine ⟨v, W, ?_, by simpa using HO, ⟨rfl, rfl, rfl, Nat.le_refl _, fun _ _ _ => rfl⟩, .inl rfl⟩
      rcases HO.2 with ⟨rfl, hn⟩ | ⟨g, cap, cur, rfl, _, _, hnc, _⟩
      · subst hn
        simp [Builtin.append_, run_underlying ht, sizeOf, typeInfo, hi, Builtin.lenOf, Builtin.firstCells]
      · simp [Builtin.append_, run_underlying ht, sizeOf, typeInfo, hi, Builtin.lenOf, Builtin.firstCells, hnc, storeCells]
    | some ad =>
      obtain ⟨v1, w1, hr, h2, h3, _, h5⟩ := run_append_own_at (P := P) W base t o.type e i0 z 1 bytes ht hi hz0 hz1 hz2 hzs (by omega) v n xs HO ad m c ys (by rw [HR.1]; omega) (HR.2.2 ad rfl) h1 (by simp only [maxLen]; exact h63) hl hbase
      exact ⟨v1, w1, hr, h2, h3, h5⟩
  obtain ⟨v1, w1, hr, hown, hg, hat⟩ := hrun
  unfold Oper.wp execOp
  simp only [ho, resolve, invoke, builtin, Sem.run_bind, Sem.run_pure, Result.andThen_ok, List.map_toArray, List.map_cons, List.map_nil, hs, hx, hr]
  exact h v1 w1 hown hg hat
set_option maxRecDepth 20000 in
theorem one_lit1 (a : Int) : ∀ u ∈ (#[.int .u8 a] : Array Value).toList, u.oneCell' = true := by
  intro u hu
  simp at hu
  subst hu
  rfl
set_option maxRecDepth 20000 in
theorem enc_of {n : Int} {m : Nat} (h : n = ((m % 256 : Nat) : Int)) : Value.int .u8 n = encB (UInt8.ofNat m) := by
  rw [h]
  show _ = Value.int .u8 ((UInt8.ofNat m).toNat : Int)
  rw [UInt8.toNat_ofNat']
set_option maxRecDepth 20000 in
theorem shr_byte (M k : Nat) : Value.int .u8 (IntKind.u8.wrap ((M : Int) / 2 ^ (8 * (k : Int)).toNat)) = encB (UInt8.ofNat (M / 256 ^ k)) := by
  refine enc_of ?_
  have h1 : (8 * (k : Int)).toNat = 8 * k := by omega
  have h2 : (2 : Int) ^ (8 * k) = ((256 ^ k : Nat) : Int) := by
    rw [Int.natCast_pow, Int.pow_mul]; rfl
  rw [h1, h2, ← Int.natCast_ediv]
  show ((M / 256 ^ k : Nat) : Int) % 256 = _
  omega
set_option maxRecDepth 20000 in
theorem Wr.open_ {w : World} {B g : Nat} {xs : List UInt8} (h : Wr w B g xs) : ∃ A c, B ≤ g ∧ w.heap[g]? = some (.cells #[.slice A xs.length c] 65 (0, 0)) ∧ w.ownsRow B 5 1 (.slice A xs.length c) xs.length (xs.map encB) ∧ (Value.slice A xs.length c).ownBlock ≠ some g := by
  obtain ⟨v, hB, hg, ho, hne⟩ := h
  obtain ⟨A, c, rfl, _⟩ := own_rc ho
  exact ⟨A, c, hB, hg, ho, hne⟩
set_option maxHeartbeats 4000000 in
set_option maxRecDepth 20000 in
theorem wfixed_any (w : World) (B g : Nat) (xs : List UInt8) (M sz : Nat) (h : Wr w B g xs) (hB : B ≤ w.heap.size) (hM : M < 18446744073709551616) (hsz : sz ≤ 8) (hn : xs.length ≤ 70000000000) :
    Calls Tryz.prog 56 #[.pointer (some ⟨g, 0, none⟩), .int .u64 M, .int .i64 sz] w fun e w' => e = .returned noResult ∧ Wr w' B g (xs ++ be sz M) ∧ Fr w w' g ∧ Below B w w' := by
  go_enter Tryz.func56, Tryz.ntmps56
  go_wp2_with fail
  go_loopw [6] (fun s6 wr => ∃ (r : Nat) (i : Int), r ≤ sz ∧ s6 = .int .i64 i ∧ i = (r : Int) - 1 ∧ ∃ pre : List UInt8, Hid (be sz M = pre ++ be r M) ∧ Wr wr B g (xs ++ pre) ∧ Fr w wr g ∧ Below B w wr) (fun s6 _ => (intOf s6 + 1).toNat)
  case atStart => exact ⟨sz, _, Nat.le_refl _, rfl, rfl, [], Lib.hid rfl, by rw [List.append_nil]; exact h, Fr.refl _ _, Below.refl _ _⟩
  case round =>
    obtain ⟨r, i, hr, rfl, hi, pre, HP, hW, hF, hbel⟩ := hrel
    have hpl : pre.length ≤ 8 := by
      have := congrArg List.length HP.out
      rw [be_len, List.length_append] at this; omega
    rcases r with _ | k
    · have HE := Lib.hid (show pre = be sz M by rw [HP.out]; simp [be])
      obtain rfl : i = -1 := by omega
      clear h hpl hi
      go_wp2_with fail
      refine bodyPost_end (results_none rfl _ _ _) rfl ?_
      exact ⟨rfl, by rw [← HE.out]; exact hW, hF, hbel⟩
    · obtain rfl : i = (k : Int) := by omega
      have hk7 : k ≤ 7 := by omega
      obtain ⟨q, hq⟩ : ∃ q, IntKind.u8.wrap ((M : Int) / 2 ^ (8 * (k : Int)).toNat) = q := ⟨_, rfl⟩
      have hqe := shr_byte M k
      rw [hq] at hqe
      have HQE := Lib.hid hqe
      have HQ := Lib.hid hq
      obtain ⟨zs, hz⟩ : ∃ zs, xs ++ pre = zs := ⟨_, rfl⟩
      have hzl : zs.length ≤ 70000000008 := by rw [← hz, List.length_append]; omega
      rw [hz] at hW
      obtain ⟨A, c, hg0, hg, ho, hne⟩ := hW.open_
      have c0 := blk_at hg 0 _ rfl
      have f0 := blk_free hg 0
      have HG := Lib.hid hg
      have HO := Lib.hid ho
      have k0 : (0 : Int) ≤ (k : Int) := by omega
      have w8 : IntKind.i64.wrap (8 * (k : Int)) = 8 * (k : Int) := IntWalk.i64_in _ (by omega)
      have k8 : (0 : Int) ≤ 8 * (k : Int) := by omega
      have hbs := Nat.le_trans hB hbel.size
      have HZ := Lib.hid hz
      have W8 := Lib.hid w8
      clear h hW hg ho hz hi hqe hq
      go_wp2_with fail
      have hb1 : Below wr.heap.size wr (wr.alloc (.cells #[.int .u8 q] 5)).drew := (below_alloc1 wr _).drew
      have c1 : (wr.alloc (.cells #[.int .u8 q] 5)).cell? ⟨g, 0, none⟩ = some (.slice A zs.length c) := cell_below (below_alloc1 wr _) c0
      refine wp_region_held_drew (S := fun W => True) (by kernel_rfl) trivial (fun hHeld => ?_)
      first
        | (refine take_in (i := 0) (v := ?_) rfl (by kernel_rfl) (by kernel_rfl) (by kernel_rfl) (fun _ _ _ h => h) (Or.inl ⟨by rfl, ?_⟩) hHeld ?_; rotate_left; (focus (intro w hSw; (try dsimp only at hSw); obtain hSw := hSw; go_simp; (try rfl); done)); (try simp only [Act.put, List.setIfInBounds_toArray, List.set_cons_zero, List.set_cons_succ]))
        | (refine take_in (i := 0) (v := undef) rfl (by kernel_rfl) (by kernel_rfl) (by kernel_rfl) (fun _ _ _ h => h) (Or.inr ⟨by rfl, rfl⟩) hHeld ?_; (try simp only [Act.put, List.setIfInBounds_toArray, List.set_cons_zero, List.set_cons_succ]))
      first
        | (refine take_in (i := 1) (v := ?_) rfl (by kernel_rfl) (by kernel_rfl) (by kernel_rfl) (fun _ _ _ h => h) (Or.inl ⟨by rfl, ?_⟩) hHeld ?_; rotate_left; (focus (intro w hSw; (try dsimp only at hSw); obtain hSw := hSw; go_simp; (try rfl); done)); (try simp only [Act.put, List.setIfInBounds_toArray, List.set_cons_zero, List.set_cons_succ]))
        | (refine take_in (i := 1) (v := undef) rfl (by kernel_rfl) (by kernel_rfl) (by kernel_rfl) (fun _ _ _ h => h) (Or.inr ⟨by rfl, rfl⟩) hHeld ?_; (try simp only [Act.put, List.setIfInBounds_toArray, List.set_cons_zero, List.set_cons_succ]))
      first
        | (refine take_in (i := 2) (v := ?_) rfl (by kernel_rfl) (by kernel_rfl) (by kernel_rfl) (fun _ _ _ h => h) (Or.inl ⟨by rfl, ?_⟩) hHeld ?_; rotate_left; (focus (intro w hSw; (try dsimp only at hSw); obtain hSw := hSw; go_simp; (try rfl); done)); (try simp only [Act.put, List.setIfInBounds_toArray, List.set_cons_zero, List.set_cons_succ]))
        | (refine take_in (i := 2) (v := undef) rfl (by kernel_rfl) (by kernel_rfl) (by kernel_rfl) (fun _ _ _ h => h) (Or.inr ⟨by rfl, rfl⟩) hHeld ?_; (try simp only [Act.put, List.setIfInBounds_toArray, List.set_cons_zero, List.set_cons_succ]))
      first
        | (refine take_in (i := 3) (v := ?_) rfl (by kernel_rfl) (by kernel_rfl) (by kernel_rfl) (fun _ _ _ h => h) (Or.inl ⟨by rfl, ?_⟩) hHeld ?_; rotate_left; (focus (intro w hSw; (try dsimp only at hSw); obtain hSw := hSw; go_simp; (try rfl); done)); (try simp only [Act.put, List.setIfInBounds_toArray, List.set_cons_zero, List.set_cons_succ]))
        | (refine take_in (i := 3) (v := undef) rfl (by kernel_rfl) (by kernel_rfl) (by kernel_rfl) (fun _ _ _ h => h) (Or.inr ⟨by rfl, rfl⟩) hHeld ?_; (try simp only [Act.put, List.setIfInBounds_toArray, List.set_cons_zero, List.set_cons_succ]))
      first
        | (refine take_in (i := 5) (v := ?_) rfl (by kernel_rfl) (by kernel_rfl) (by kernel_rfl) (fun _ _ _ h => h) (Or.inl ⟨by rfl, ?_⟩) hHeld ?_; rotate_left; (focus (intro w hSw; (try dsimp only at hSw); obtain hSw := hSw; go_simp; (try rfl); done)); (try simp only [Act.put, List.setIfInBounds_toArray, List.set_cons_zero, List.set_cons_succ]))
        | (refine take_in (i := 5) (v := undef) rfl (by kernel_rfl) (by kernel_rfl) (by kernel_rfl) (fun _ _ _ h => h) (Or.inr ⟨by rfl, rfl⟩) hHeld ?_; (try simp only [Act.put, List.setIfInBounds_toArray, List.set_cons_zero, List.set_cons_succ]))
      first
        | (refine take_in (i := 6) (v := ?_) rfl (by kernel_rfl) (by kernel_rfl) (by kernel_rfl) (fun _ _ _ h => h) (Or.inl ⟨by rfl, ?_⟩) hHeld ?_; rotate_left; (focus (intro w hSw; (try dsimp only at hSw); obtain hSw := hSw; go_simp; (try rfl); done)); (try simp only [Act.put, List.setIfInBounds_toArray, List.set_cons_zero, List.set_cons_succ]))
        | (refine take_in (i := 6) (v := undef) rfl (by kernel_rfl) (by kernel_rfl) (by kernel_rfl) (fun _ _ _ h => h) (Or.inr ⟨by rfl, rfl⟩) hHeld ?_; (try simp only [Act.put, List.setIfInBounds_toArray, List.set_cons_zero, List.set_cons_succ]))
      first
        | (refine take_in (i := 7) (v := ?_) rfl (by kernel_rfl) (by kernel_rfl) (by kernel_rfl) (fun _ _ _ h => h) (Or.inl ⟨by rfl, ?_⟩) hHeld ?_; rotate_left; (focus (intro w hSw; (try dsimp only at hSw); obtain hSw := hSw; go_simp; (try rfl); done)); (try simp only [Act.put, List.setIfInBounds_toArray, List.set_cons_zero, List.set_cons_succ]))
        | (refine take_in (i := 7) (v := undef) rfl (by kernel_rfl) (by kernel_rfl) (by kernel_rfl) (fun _ _ _ h => h) (Or.inr ⟨by rfl, rfl⟩) hHeld ?_; (try simp only [Act.put, List.setIfInBounds_toArray, List.set_cons_zero, List.set_cons_succ]))
      first
        | (refine take_in (i := 8) (v := ?_) rfl (by kernel_rfl) (by kernel_rfl) (by kernel_rfl) (fun _ _ _ h => h) (Or.inl ⟨by rfl, ?_⟩) hHeld ?_; rotate_left; (focus (intro w hSw; (try dsimp only at hSw); obtain hSw := hSw; go_simp; (try rfl); done)); (try simp only [Act.put, List.setIfInBounds_toArray, List.set_cons_zero, List.set_cons_succ]))
        | (refine take_in (i := 8) (v := undef) rfl (by kernel_rfl) (by kernel_rfl) (by kernel_rfl) (fun _ _ _ h => h) (Or.inr ⟨by rfl, rfl⟩) hHeld ?_; (try simp only [Act.put, List.setIfInBounds_toArray, List.set_cons_zero, List.set_cons_succ]))
      first
        | (refine take_in (i := 9) (v := ?_) rfl (by kernel_rfl) (by kernel_rfl) (by kernel_rfl) (fun _ _ _ h => h) (Or.inl ⟨by rfl, ?_⟩) hHeld ?_; rotate_left; (focus (intro w hSw; (try dsimp only at hSw); obtain hSw := hSw; go_simp; (try rfl); done)); (try simp only [Act.put, List.setIfInBounds_toArray, List.set_cons_zero, List.set_cons_succ]))
        | (refine take_in (i := 9) (v := undef) rfl (by kernel_rfl) (by kernel_rfl) (by kernel_rfl) (fun _ _ _ h => h) (Or.inr ⟨by rfl, rfl⟩) hHeld ?_; (try simp only [Act.put, List.setIfInBounds_toArray, List.set_cons_zero, List.set_cons_succ]))
      rw [HQ.out]
      refine two_in (i := 4) (j := 10) rfl rfl (by kernel_rfl) (fun K hK => ?_) (fun K hK => ?_)
      · rw [if_pos (by rfl)]
        go_simp
        refine hK.out _ _ trivial (fun hHeld => ?_)
        (try simp only [Act.put, List.setIfInBounds_toArray, List.set_cons_zero, List.set_cons_succ])
        refine one_in (i := 10) rfl (by kernel_rfl) (fun K hK => ?_)
        rw [if_pos (by rfl)]
        go_simp
        refine hK.out _ _ trivial (fun hHeld => ?_)
        (try simp only [Act.put, List.setIfInBounds_toArray, List.set_cons_zero, List.set_cons_succ])
        refine one_in (i := 11) rfl (by kernel_rfl) (fun K hK => ?_)
        rw [if_pos (by rfl)]
        refine wpo_app (.tmp 17) (.tmp 23) rfl ((HO.out.alloc _).drew) (lit_rc wr 5 (0, 0) _ 1 rfl) Tryz.underlying39 info_byte rfl rfl rfl (one_lit1 _) (by omega) (by omega) (by simp; omega) ?_
        intro v3 w3 ho3 hgr hat
        obtain ⟨A3, c3, rfl, _⟩ := own_rc ho3
        have hW3 := wr_app (ys := [UInt8.ofNat (M / 256 ^ k)]) hg0 HG.out HO.out hne hb1 (by
          rw [show (#[Value.int .u8 q] : Array Value).toList = [UInt8.ofNat (M / 256 ^ k)].map encB from congrArg (· :: []) HQE.out, ← List.map_append] at ho3
          exact ho3) hgr hat
        have g3 := blk_grown (blk_below HG.out hb1 (blk_lt HG.out)) hgr (fun e => hne e.symm)
        refine hK.out _ _ trivial (fun hHeld => ?_)
        (try simp only [Act.put, List.setIfInBounds_toArray, List.set_cons_zero, List.set_cons_succ])
        first
          | (refine take_in (i := 12) (v := ?_) rfl (by kernel_rfl) (by kernel_rfl) (by kernel_rfl) (fun _ _ _ h => h) (Or.inl ⟨by rfl, ?_⟩) hHeld ?_; rotate_left; (focus (intro w hSw; (try dsimp only at hSw); obtain hSw := hSw; go_simp; (try rfl); done)); (try simp only [Act.put, List.setIfInBounds_toArray, List.set_cons_zero, List.set_cons_succ]))
          | (refine take_in (i := 12) (v := undef) rfl (by kernel_rfl) (by kernel_rfl) (by kernel_rfl) (fun _ _ _ h => h) (Or.inr ⟨by rfl, rfl⟩) hHeld ?_; (try simp only [Act.put, List.setIfInBounds_toArray, List.set_cons_zero, List.set_cons_succ]))
        first
          | (refine take_in (i := 13) (v := ?_) rfl (by kernel_rfl) (by kernel_rfl) (by kernel_rfl) (fun _ _ _ h => h) (Or.inl ⟨by rfl, ?_⟩) hHeld ?_; rotate_left; (focus (intro w hSw; (try dsimp only at hSw); obtain hSw := hSw; go_simp; (try rfl); done)); (try simp only [Act.put, List.setIfInBounds_toArray, List.set_cons_zero, List.set_cons_succ]))
          | (refine take_in (i := 13) (v := undef) rfl (by kernel_rfl) (by kernel_rfl) (by kernel_rfl) (fun _ _ _ h => h) (Or.inr ⟨by rfl, rfl⟩) hHeld ?_; (try simp only [Act.put, List.setIfInBounds_toArray, List.set_cons_zero, List.set_cons_succ]))
        have s0 := blk_at g3 0 _ rfl
        have s1 := blk_free g3 0
        have HW3 := Lib.hid hW3
        clear hW3 g3
        refine one_in (i := 14) rfl (by kernel_rfl) (fun K hK => ?_)
        rw [if_pos (by rfl)]
        go_simp
        refine hK.out _ _ trivial (fun hHeld => ?_)
        (try simp only [Act.put, List.setIfInBounds_toArray, List.set_cons_zero, List.set_cons_succ])
        refine wpAnyH_done (by kernel_rfl) ?_ _
        clear s0 s1
        go_wp2_with fail
        go_roundw
        case measure => simp [intOf]
        case rel =>
          have HPN := Lib.hid (show be sz M = (pre ++ [UInt8.ofNat (M / 256 ^ k)]) ++ be k M by rw [HP.out]; simp [be])
          refine ⟨k, _, by omega, rfl, by omega, pre ++ [UInt8.ofNat (M / 256 ^ k)], HPN, ?_, hF.trans HW3.out.2.1, HW3.out.2.2 hbel hbs⟩
          rw [← List.append_assoc, HZ.out]
          exact HW3.out.1
      · rw [if_pos (by rfl)]
        go_simp
        refine hK.out _ _ trivial (fun hHeld => ?_)
        (try simp only [Act.put, List.setIfInBounds_toArray, List.set_cons_zero, List.set_cons_succ])
        refine one_in (i := 4) rfl (by kernel_rfl) (fun K hK => ?_)
        rw [if_pos (by rfl)]
        go_simp
        refine hK.out _ _ trivial (fun hHeld => ?_)
        (try simp only [Act.put, List.setIfInBounds_toArray, List.set_cons_zero, List.set_cons_succ])
        refine one_in (i := 11) rfl (by kernel_rfl) (fun K hK => ?_)
        rw [if_pos (by rfl)]
        refine wpo_app (.tmp 17) (.tmp 23) rfl ((HO.out.alloc _).drew) (lit_rc wr 5 (0, 0) _ 1 rfl) Tryz.underlying39 info_byte rfl rfl rfl (one_lit1 _) (by omega) (by omega) (by simp; omega) ?_
        intro v3 w3 ho3 hgr hat
        obtain ⟨A3, c3, rfl, _⟩ := own_rc ho3
        have hW3 := wr_app (ys := [UInt8.ofNat (M / 256 ^ k)]) hg0 HG.out HO.out hne hb1 (by
          rw [show (#[Value.int .u8 q] : Array Value).toList = [UInt8.ofNat (M / 256 ^ k)].map encB from congrArg (· :: []) HQE.out, ← List.map_append] at ho3
          exact ho3) hgr hat
        have g3 := blk_grown (blk_below HG.out hb1 (blk_lt HG.out)) hgr (fun e => hne e.symm)
        refine hK.out _ _ trivial (fun hHeld => ?_)
        (try simp only [Act.put, List.setIfInBounds_toArray, List.set_cons_zero, List.set_cons_succ])
        first
          | (refine take_in (i := 12) (v := ?_) rfl (by kernel_rfl) (by kernel_rfl) (by kernel_rfl) (fun _ _ _ h => h) (Or.inl ⟨by rfl, ?_⟩) hHeld ?_; rotate_left; (focus (intro w hSw; (try dsimp only at hSw); obtain hSw := hSw; go_simp; (try rfl); done)); (try simp only [Act.put, List.setIfInBounds_toArray, List.set_cons_zero, List.set_cons_succ]))
          | (refine take_in (i := 12) (v := undef) rfl (by kernel_rfl) (by kernel_rfl) (by kernel_rfl) (fun _ _ _ h => h) (Or.inr ⟨by rfl, rfl⟩) hHeld ?_; (try simp only [Act.put, List.setIfInBounds_toArray, List.set_cons_zero, List.set_cons_succ]))
        first
          | (refine take_in (i := 13) (v := ?_) rfl (by kernel_rfl) (by kernel_rfl) (by kernel_rfl) (fun _ _ _ h => h) (Or.inl ⟨by rfl, ?_⟩) hHeld ?_; rotate_left; (focus (intro w hSw; (try dsimp only at hSw); obtain hSw := hSw; go_simp; (try rfl); done)); (try simp only [Act.put, List.setIfInBounds_toArray, List.set_cons_zero, List.set_cons_succ]))
          | (refine take_in (i := 13) (v := undef) rfl (by kernel_rfl) (by kernel_rfl) (by kernel_rfl) (fun _ _ _ h => h) (Or.inr ⟨by rfl, rfl⟩) hHeld ?_; (try simp only [Act.put, List.setIfInBounds_toArray, List.set_cons_zero, List.set_cons_succ]))
        have s0 := blk_at g3 0 _ rfl
        have s1 := blk_free g3 0
        have HW3 := Lib.hid hW3
        clear hW3 g3
        refine one_in (i := 14) rfl (by kernel_rfl) (fun K hK => ?_)
        rw [if_pos (by rfl)]
        go_simp
        refine hK.out _ _ trivial (fun hHeld => ?_)
        (try simp only [Act.put, List.setIfInBounds_toArray, List.set_cons_zero, List.set_cons_succ])
        refine wpAnyH_done (by kernel_rfl) ?_ _
        clear s0 s1
        go_wp2_with fail
        go_roundw
        case measure => simp [intOf]
        case rel =>
          have HPN := Lib.hid (show be sz M = (pre ++ [UInt8.ofNat (M / 256 ^ k)]) ++ be k M by rw [HP.out]; simp [be])
          refine ⟨k, _, by omega, rfl, by omega, pre ++ [UInt8.ofNat (M / 256 ^ k)], HPN, ?_, hF.trans HW3.out.2.1, HW3.out.2.2 hbel hbs⟩
          rw [← List.append_assoc, HZ.out]
          exact HW3.out.1
end Go.Proofs.YtfjnpiahloncmaaGreat
