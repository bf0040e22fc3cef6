import Derived.Test.YtkfgfcgfpcocaaaCrcL
import Derived.Test.YtkfgfcgfpcocaaaFrmM
import Derived.Outline
namespace Go.Proofs.Ytkfgfcgfpcocaaa
open Go.RowKit
theorem enc_of {n : Int} {m : Nat} (h : n = ((m % 256 : Nat) : Int)) : Value.int .u8 n = encB (UInt8.ofNat m) := by
  rw [h, encB, UInt8.toNat_ofNat']
theorem head_enc (n : Nat) (hn : n ≤ 60000) (xs : List UInt8) (hl : xs.length = n) :
    [Value.int .u8 165, Value.int .u8 ((n : Int) / 256), Value.int .u8 ((n : Int) % 256)] ++ List.map encB xs = (165 :: CrcM.body xs).map encB := by
  subst hl
  rw [enc_of (n := (xs.length : Int) / 256) (m := xs.length / 256) (by omega), enc_of (n := (xs.length : Int) % 256) (m := xs.length) (by omega)]
  rfl
theorem own_bs_at {w : World} {base n g cap : Nat} {e : TypeId} {xs : List UInt8} (h : w.ownsRow base e 1 (.slice (some ⟨g, 0, none⟩) n cap) n (xs.map encB)) : Bs w (some ⟨g, 0, none⟩) n xs := by
  obtain ⟨A, c, hv, _, hb⟩ := own_bs h
  injection hv with hv _ _
  subst hv
  exact hb
theorem one_lit4 (a b c d : Int) : ∀ u ∈ ([.int .u8 a, .int .u8 b, .int .u8 c, .int .u8 d] : List Value), u.oneCell' = true := by
  intro u hu
  simp only [List.mem_cons, List.not_mem_nil, or_false] at hu
  rcases hu with rfl | rfl | rfl | rfl <;> rfl
theorem tail_enc (d : CrcM.B) :
    [Value.int .u8 ((d.toNat : Int) / 16777216), Value.int .u8 ((d.toNat : Int) / 65536 % 256), Value.int .u8 ((d.toNat : Int) / 256 % 256), Value.int .u8 ((d.toNat : Int) % 256)] = (CrcM.b32 d).map encB := by
  have := d.isLt
  rw [enc_of (n := (d.toNat : Int) / 16777216) (m := d.toNat / 16777216) (by omega), enc_of (n := (d.toNat : Int) / 65536 % 256) (m := d.toNat / 65536) (by omega),
    enc_of (n := (d.toNat : Int) / 256 % 256) (m := d.toNat / 256) (by omega), enc_of (n := (d.toNat : Int) % 256) (m := d.toNat) (by omega)]
  rfl
theorem put_ok (a : Option Addr) (n cap : Nat) (xs : List UInt8) (w : World) (hb : Bs w a n xs) (hn : n ≤ 60000) :
    Calls Try.prog 17 #[.slice a n cap] w fun e w' => ∃ v, e = .returned (.tuple #[v, .int .i64 0]) ∧ w'.ownsRow w.heap.size 5 1 v (7 + n) ((CrcM.frm xs).map encB) ∧ Below w.heap.size w w' := by
  have h0 : ¬ 60000 < n := by omega
  have HE := Lib.hid (head_enc n hn xs hb.len)
  have HT := Lib.hid (tail_enc (CrcM.sum (CrcM.body xs)))
  have HL := Lib.hid hb.len
  go_enter Try.func17, Try.ntmps17
  go_wp2_with (first
    | (at_builtin; refine wp_app (base := w.heap.size) rfl (.tmp 16) (.tmp 17) rfl (lit_own w 5 _ 3 rfl (by decide)) (hb.below (below_alloc1 w _)).2 (below_alloc1 w _) Try.underlying23 infoB rfl rfl rfl (one_bs _) (by omega) (by omega) (by simp) ?_; intro v2 w2 ho2 hq2 _ _; have hz2 := hq2.size; replace ho2 := own_cast ho2 HE.out; obtain ⟨g, cap2, hv2, hgb, hgl, hnc, hcm⟩ := own_form ho2 (by omega); subst hv2)
    | (go_at_call 13; have hs := (own_bs_at ho2).sub 1 (3 + n) (by omega) (Nat.le_refl _); rw [show 3 + n - 1 = 2 + n from by omega, ← HL.out, CrcM.drop1, HL.out] at hs; refine (sum_any _ _ _ _ _ hs).mono ?_; rintro e w' ⟨rfl, rfl⟩; clear hs)
    | (at_builtin; refine wp_app (base := w.heap.size) rfl (.tmp 22) (.tmp 34) rfl (ho2.alloc _) (lit_rc w2 5 (0, 0) _ 4 rfl) (hq2.alloc (by omega) _) Try.underlying23 infoB rfl rfl rfl (one_lit4 _ _ _ _) (by omega) (by omega) (by simp; omega) ?_; intro v3 w3 ho3 hq3 _ _; replace ho3 := own_cast ho3 ((congrArg (List.map encB (165 :: CrcM.body xs) ++ ·) HT.out).trans List.map_append.symm)))
  go_ret2
  exact ⟨v3, rfl, own_len ho3 (by omega), hq3⟩
end Go.Proofs.Ytkfgfcgfpcocaaa
