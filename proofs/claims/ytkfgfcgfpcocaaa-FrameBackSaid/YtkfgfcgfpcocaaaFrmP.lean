import Derived.Test.YtkfgfcgfpcocaaaFrmO
import Derived.Outline
namespace Go.Proofs.Ytkfgfcgfpcocaaa
open Go.RowKit
theorem Bs.four {w : World} {ad : Addr} {xs : List UInt8} (h : Bs w (some ad) 4 xs) :
    ∃ t0 t1 t2 t3, xs = [t0, t1, t2, t3] ∧ w.cell? ad = some (.int .u8 t0.toNat) ∧ w.cell? ⟨ad.block, ad.off + 1, none⟩ = some (.int .u8 t1.toNat) ∧ w.cell? ⟨ad.block, ad.off + 2, none⟩ = some (.int .u8 t2.toNat) ∧ w.cell? ⟨ad.block, ad.off + 3, none⟩ = some (.int .u8 t3.toNat) := by
  have hl := h.len
  match xs, hl with
  | [t0, t1, t2, t3], _ =>
    have hc := h.2.2.2 ad rfl
    exact ⟨t0, t1, t2, t3, rfl, hc 0 _ rfl, hc 1 _ rfl, hc 2 _ rfl, hc 3 _ rfl⟩
/-- How Of ends where the head is right. -/
def OfPost (w : World) (T : List UInt8) (s : CrcM.B) (m : Nat) (ys : List UInt8) (e : Ending) (w' : World) : Prop :=
  (T ≠ CrcM.b32 s ∧ e = .returned (.tuple #[.slice none 0 0, .int .i64 0, .int .i64 40])) ∨
  (T = CrcM.b32 s ∧ ∃ v, e = .returned (.tuple #[v, .int .i64 (7 + m), .int .i64 0]) ∧ w'.ownsRow w.heap.size 5 1 v m (ys.map encB))
theorem byte_ne {t : UInt8} {M : Nat} {B : Int} (hB : B = ((M % 256 : Nat) : Int)) (h : (B != (t.toNat : Int)) = true) : t ≠ UInt8.ofNat M := by
  rw [bne_iff_ne] at h
  intro e
  apply h
  rw [hB, e, UInt8.toNat_ofNat']
theorem byte_eq {t : UInt8} {M : Nat} {B : Int} (hB : B = ((M % 256 : Nat) : Int)) (h : (B != (t.toNat : Int)) = false) : t = UInt8.ofNat M := by
  rw [bne_eq_false_iff_eq] at h
  apply UInt8.toNat_inj.1
  rw [UInt8.toNat_ofNat']
  omega
set_option maxHeartbeats 2000000 in
theorem of_crc (a : Option Addr) (n cap : Nat) (xs : List UInt8) (w : World) (hb : Bs w a n xs) (h : 7 ≤ n) (x1 x2 : UInt8) (hx : xs[0]? = some 165) (hx1 : xs[1]? = some x1) (hx2 : xs[2]? = some x2)
    (hcap : n ≤ cap) (m : Nat) (hm : x1.toNat * 256 + x2.toNat = m) (hm6 : m ≤ 60000) (hm7 : m + 7 ≤ n) (T : List UInt8) (hT : (xs.take (7 + m)).drop (3 + m) = T) (s : CrcM.B) (hs : CrcM.sum ((xs.take (3 + m)).drop 1) = s) :
    Calls Try.prog 18 #[.slice a n cap] w fun e w' => OfPost w T s m ((xs.take (3 + m)).drop 3) e w' ∧ Below w.heap.size w w' := by
  obtain ⟨ad, y0, y1, y2, rfl, h0, h1, h2, c0, c1, c2⟩ := hb.three (by omega)
  obtain rfl : (165 : UInt8) = y0 := Option.some.inj (hx.symm.trans h0)
  obtain rfl : x1 = y1 := Option.some.inj (hx1.symm.trans h1)
  obtain rfl : x2 = y2 := Option.some.inj (hx2.symm.trans h2)
  have hz := hb.1
  have ho := or_num x1 x2
  rw [hm] at ho
  have i1 : (1 : Int) < (n : Int) := by omega
  have i2 : (2 : Int) < (n : Int) := by omega
  have HT := Lib.hid hT
  have HS := Lib.hid hs
  have hsum := hb.sub 1 (3 + m) (by omega) (by omega)
  have htl := hb.sub (3 + m) (7 + m) (by omega) (by omega)
  rw [hT] at htl
  rw [show 3 + m - 1 = 2 + m from by omega] at hsum
  rw [show 7 + m - (3 + m) = 4 from by omega] at htl
  clear hx hx1 hx2 h0 h1 h2 hm hT hs
  go_enter Try.func18, Try.ntmps18
  go_wp2_with fail
  go_quiet (fail)
  have hsum' := hsum.below (below_drewN (Below.refl _ _) nq)
  have htl' := htl.below (below_drewN (Below.refl _ _) nq)
  have hb' := hb.below (below_drewN (Below.refl _ _) nq)
  have hbody := hb'.sub 3 (3 + m) (by omega) (by omega)
  rw [show 3 + m - 3 = m from by omega] at hbody
  obtain ⟨t0, t1, t2, t3, hTT, d0, d1, d2, d3⟩ := htl'.four
  have HTT := Lib.hid hTT
  have hsl := s.isLt
  have hszd : w.heap.size ≤ (w.drewN nq).heap.size := (below_drewN (Below.refl w.heap.size w) nq).size
  clear hsum htl c0 c1 c2 hTT
  go_wp2_with fail
  refine (sum_any _ _ _ _ _ hsum').mono ?_
  rintro e w' ⟨rfl, rfl⟩
  rw [HS.out]
  go_wp2_with fail
  rw [show 7 + m - (3 + m) = 4 from by omega]
  go_loop [49] (fun i => ∃ k : Nat, k ≤ 4 ∧ i = .int .i64 k ∧ Hid ((1 ≤ k → t0 = UInt8.ofNat (s.toNat / 16777216)) ∧ (2 ≤ k → t1 = UInt8.ofNat (s.toNat / 65536)) ∧ (3 ≤ k → t2 = UInt8.ofNat (s.toNat / 256)) ∧ (4 ≤ k → t3 = UInt8.ofNat s.toNat))) (fun i => 4 - (intOf i).toNat)
  case atStart => exact ⟨0, by omega, rfl, Lib.hid ⟨fun h => by omega, fun h => by omega, fun h => by omega, fun h => by omega⟩⟩
  case round =>
    obtain ⟨k, hk, rfl, H⟩ := hrel
    have hk4 : k = 0 ∨ k = 1 ∨ k = 2 ∨ k = 3 ∨ k = 4 := by omega
    rcases hk4 with rfl | rfl | rfl | rfl | rfl
    · cases hc : ((s.toNat : Int) / 16777216 != (t0.toNat : Int))
      · have TE := Lib.hid (byte_eq (M := s.toNat / 16777216) (by omega) hc)
        go_wp2_with fail
        go_round
        case rel => exact ⟨1, by omega, rfl, Lib.hid ⟨fun _ => TE.out, fun h => by omega, fun h => by omega, fun h => by omega⟩⟩
        case measure => simp [intOf]
      · have TN := Lib.hid (byte_ne (M := s.toNat / 16777216) (by omega) hc)
        go_wp2_with fail
        go_ret3
        exact ⟨.inl ⟨fun e => by rw [HTT.out] at e; unfold CrcM.b32 at e; injection e with e0 e; exact TN.out e0, rfl⟩, below_drewN (Below.refl _ _) _⟩
    · cases hc : ((s.toNat : Int) / 65536 % 256 != (t1.toNat : Int))
      · have TE := Lib.hid (byte_eq (M := s.toNat / 65536) (by omega) hc)
        go_wp2_with fail
        go_round
        case rel => exact ⟨2, by omega, rfl, Lib.hid ⟨fun _ => H.out.1 (by omega), fun _ => TE.out, fun h => by omega, fun h => by omega⟩⟩
        case measure => simp [intOf]
      · have TN := Lib.hid (byte_ne (M := s.toNat / 65536) (by omega) hc)
        go_wp2_with fail
        go_ret3
        exact ⟨.inl ⟨fun e => by rw [HTT.out] at e; unfold CrcM.b32 at e; injection e with e0 e; injection e with e1 e; exact TN.out e1, rfl⟩, below_drewN (Below.refl _ _) _⟩
    · cases hc : ((s.toNat : Int) / 256 % 256 != (t2.toNat : Int))
      · have TE := Lib.hid (byte_eq (M := s.toNat / 256) (by omega) hc)
        go_wp2_with fail
        go_round
        case rel => exact ⟨3, by omega, rfl, Lib.hid ⟨fun _ => H.out.1 (by omega), fun _ => H.out.2.1 (by omega), fun _ => TE.out, fun h => by omega⟩⟩
        case measure => simp [intOf]
      · have TN := Lib.hid (byte_ne (M := s.toNat / 256) (by omega) hc)
        go_wp2_with fail
        go_ret3
        exact ⟨.inl ⟨fun e => by rw [HTT.out] at e; unfold CrcM.b32 at e; injection e with e0 e; injection e with e1 e; injection e with e2 e; exact TN.out e2, rfl⟩, below_drewN (Below.refl _ _) _⟩
    · cases hc : ((s.toNat : Int) % 256 != (t3.toNat : Int))
      · have TE := Lib.hid (byte_eq (M := s.toNat) (by omega) hc)
        go_wp2_with fail
        go_round
        case rel => exact ⟨4, by omega, rfl, Lib.hid ⟨fun _ => H.out.1 (by omega), fun _ => H.out.2.1 (by omega), fun _ => H.out.2.2.1 (by omega), fun _ => TE.out⟩⟩
        case measure => simp [intOf]
      · have TN := Lib.hid (byte_ne (M := s.toNat) (by omega) hc)
        go_wp2_with fail
        go_ret3
        exact ⟨.inl ⟨fun e => by rw [HTT.out] at e; unfold CrcM.b32 at e; injection e with e0 e; injection e with e1 e; injection e with e2 e; injection e with e3 e; exact TN.out e3, rfl⟩, below_drewN (Below.refl _ _) _⟩
    · go_wp2_with fail
      refine (clone_any _ _ _ _ _ hbody (by omega) (by omega) (fun e => by cases e)).mono ?_
      rintro e w2 ⟨v, rfl, hov, hbv⟩
      go_wp2_with fail
      go_ret3
      refine ⟨.inr ⟨?_, v, rfl, own_weaken hov hszd⟩, (below_drewN (Below.refl _ _) nq).trans (hbv.mono hszd)⟩
      rw [HTT.out, H.out.1 (by omega), H.out.2.1 (by omega), H.out.2.2.1 (by omega), H.out.2.2.2 (by omega)]; rfl
end Go.Proofs.Ytkfgfcgfpcocaaa
