import Derived.Test.YtfjnpiahloncmaaGreatCdcY
import Derived.Laws.Bits64
namespace Go.Proofs.YtfjnpiahloncmaaGreat
open Go.RowKit Cdc
set_option linter.unusedVariables false
set_option linter.unusedSimpArgs false
set_option maxRecDepth 20000 in
theorem xor_all {a : Nat} (h : a < 18446744073709551616) : bits .xor .u64 (a : Int) 18446744073709551615 = ((18446744073709551615 - a : Nat) : Int) := by
  have e : bits .xor .u64 (a : Int) ((18446744073709551615 : Nat) : Int) = bits .xor .u64 ((18446744073709551615 : Nat) : Int) (a : Int) := by
    rw [bits_xor_u64_nat _ _ h (by omega), bits_xor_u64_nat _ _ (by omega) h, Nat.xor_comm]
  have n := notU_eq (a : Int) (by omega) (by omega)
  unfold notU at n
  rw [show (18446744073709551615 : Int) = ((18446744073709551615 : Nat) : Int) from rfl, e, show ((18446744073709551615 : Nat) : Int) = (18446744073709551615 : Int) from rfl, n]
  omega
set_option maxRecDepth 20000 in
theorem zig_bits {n : Int} (h0 : -9223372036854775808 ≤ n) (h1 : n < 9223372036854775808) : bits .xor .u64 (IntKind.u64.wrap (IntKind.u64.wrap n * 2)) (IntKind.u64.wrap (n / 9223372036854775808)) = (zig n : Int) := by
  rw [IntKind.wrap_u64, IntKind.wrap_u64, IntKind.wrap_u64]
  unfold zig
  by_cases hn : 0 ≤ n
  · rw [if_pos hn, show n / 9223372036854775808 % 18446744073709551616 = ((0 : Nat) : Int) by omega, show n % 18446744073709551616 * 2 % 18446744073709551616 = (((2 * n).toNat : Nat) : Int) by omega, bits_xor_u64_nat _ _ (by omega) (by omega), Nat.xor_zero]
  · rw [if_neg hn, show n / 9223372036854775808 % 18446744073709551616 = 18446744073709551615 by omega, show n % 18446744073709551616 * 2 % 18446744073709551616 = (((18446744073709551616 + 2 * n).toNat : Nat) : Int) by omega, xor_all (by omega)]
    omega
end Go.Proofs.YtfjnpiahloncmaaGreat
