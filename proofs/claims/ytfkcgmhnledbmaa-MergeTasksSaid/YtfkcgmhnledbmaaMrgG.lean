import Derived.Test.YtfkcgmhnledbmaaMrgF
import Derived.Test.YtfkcgmhnledbmaaTskL
namespace Go.Proofs.Ytfkcgmhnledbmaa
open Go.RowKit FP
set_option linter.unusedVariables false
set_option linter.unusedSimpArgs false
attribute [local go_sem] run_store_float
set_option maxRecDepth 20000 in
theorem rows_none (w : World) (e : Sh) : Rows w anyB e none 0 [] := ⟨rfl, fun _ => rfl, fun ad e => by cases e⟩
set_option maxRecDepth 20000 in
theorem aw_flags : clL (flagsL (pk ((0 : Int) == 0) ((0 : Int) == 0) ((0 : Int) == 0) (0 : Int) 0).2 (pk ((⟨#[99]⟩ : ByteArray).toList == (⟨#[97]⟩ : ByteArray).toList) ((⟨#[98]⟩ : ByteArray).toList == (⟨#[99]⟩ : ByteArray).toList) ((⟨#[98]⟩ : ByteArray).toList == (⟨#[97]⟩ : ByteArray).toList) (⟨#[98]⟩ : ByteArray) ⟨#[99]⟩).2 (pk (false == false) (false == false) (false == false) false false).2 (pk (keyF 0 == keyF 0) (keyF 0 == keyF 0) (keyF 0 == keyF 0) 0 0).2 (pk (keyF 0 == keyF 0) (keyF 0 == keyF 0) (keyF 0 == keyF 0) 0 0).2) = [1] := by decide +kernel
set_option maxRecDepth 20000 in
theorem aw_title : (pk ((⟨#[99]⟩ : ByteArray).toList == (⟨#[97]⟩ : ByteArray).toList) ((⟨#[98]⟩ : ByteArray).toList == (⟨#[99]⟩ : ByteArray).toList) ((⟨#[98]⟩ : ByteArray).toList == (⟨#[97]⟩ : ByteArray).toList) (⟨#[98]⟩ : ByteArray) ⟨#[99]⟩).1 = ⟨#[98]⟩ := by
  have h1 : ((⟨#[99]⟩ : ByteArray).toList == (⟨#[97]⟩ : ByteArray).toList) = false := by decide +kernel
  have h2 : ((⟨#[98]⟩ : ByteArray).toList == (⟨#[99]⟩ : ByteArray).toList) = false := by decide +kernel
  have h3 : ((⟨#[98]⟩ : ByteArray).toList == (⟨#[97]⟩ : ByteArray).toList) = false := by decide +kernel
  rw [h1, h2, h3]
  rfl
set_option maxHeartbeats 4000000 in
set_option maxRecDepth 20000 in
theorem mrg_awake (w : World) : Calls Try.prog 5 #[] w fun e w' => e = .returned (.bool true) ∧ Below w.heap.size w w' := by
  have hbb : ((⟨#[98]⟩ : ByteArray).toList == (⟨#[98]⟩ : ByteArray).toList) = true := by decide +kernel
  go_enter Try.func5, Try.ntmps5
  go_wp2_with fail
  refine (mtasks_any w 1 0 1 0 1 0 ⟨#[97]⟩ ⟨#[98]⟩ ⟨#[99]⟩ false false false 0 0 0 0 0 0 none none none 0 0 0 0 0 0 [] [] [] (rows_none _ _) (rows_none _ _) (rows_none _ _) (by omega) (by omega) (by omega)).mono ?_
  rintro e w1 ⟨A6, m, vcl, rfl, hmm, hrr, hO, hb1⟩
  rw [aw_flags] at hO
  rw [aw_title]
  obtain ⟨Av, cv, rfl, _, _, _, hR⟩ := Own.form hO
  obtain ⟨ad, x, cs, rfl, hx, hat, hrd⟩ := hR.get 0 (by decide)
  obtain rfl : (1 : Int) = x := by simpa using hx
  obtain ⟨rfl, _⟩ := hrd
  obtain ⟨q1, hq1⟩ : ∃ q, (pk ((0 : Int) == 0) ((0 : Int) == 0) ((0 : Int) == 0) (0 : Int) 0).1 = q := ⟨_, rfl⟩
  obtain ⟨q2, hq2⟩ : ∃ q, (pk (false == false) (false == false) (false == false) false false).1 = q := ⟨_, rfl⟩
  obtain ⟨q3, hq3⟩ : ∃ q, (pk (keyF 0 == keyF 0) (keyF 0 == keyF 0) (keyF 0 == keyF 0) 0 0).1 = q := ⟨_, rfl⟩
  rw [hq1, hq2, hq3]
  have hc1 : w1.cell? ad = some (.int .i64 1) := by
    have hc := hat 0 _ rfl
    have e : (ad.add (0 * Sh.size (.int .i64))).add (0 + 0) = ad := by simp [Sh.size, Addr.add]
    rwa [e] at hc
  have hc2 := cell_below (below_alloc1 w1 (.cells #[.int .u64 1, .int .u64 q1, .string ⟨#[98]⟩, .bool q2, .float .f64 q3, .float .f64 q3, .slice A6 m m] 26)) hc1
  have HB1 := Lib.hid (hb1.trans ((below_alloc1 w1 (.cells #[.int .u64 1, .int .u64 q1, .string ⟨#[98]⟩, .bool q2, .float .f64 q3, .float .f64 q3, .slice A6 m m] 26)).mono hb1.size))
  rw [show ([1] : List Int).length = 1 from rfl]
  clear hat hx hR hO hc1 hb1 hq1 hq2 hq3 hmm hrr
  go_wp2_with fail
  go_ret
  exact ⟨rfl, HB1.out⟩
end Go.Proofs.Ytfkcgmhnledbmaa
