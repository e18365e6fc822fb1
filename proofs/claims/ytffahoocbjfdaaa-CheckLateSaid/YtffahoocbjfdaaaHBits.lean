/- x & 1, x & 15. -/
import Derived.Test.YtffahoocbjfdaaaHBs
namespace Go.Proofs.Ytffahoocbjfdaaa
open Go.RowKit

theorem ofInt_toNat64 (x : Int) : (BitVec.ofInt 64 x).toNat = (x % 18446744073709551616).toNat := by
  rw [BitVec.toNat_ofInt]; rfl
theorem and_one (x : Int) : bits .and .i64 x 1 = x % 2 := by
  show IntKind.i64.wrap (((BitVec.ofInt 64 x &&& BitVec.ofInt 64 1).toNat : Nat) : Int) = x % 2
  rw [BitVec.toNat_and, ofInt_toNat64, ofInt_toNat64, show ((1 : Int) % 18446744073709551616).toNat = 1 from rfl, Nat.and_one_is_mod]
  rw [IntWalk.i64_in _ (by omega)]
  omega
theorem and_fifteen (x : Int) : bits .and .i64 x 15 = x % 16 := by
  show IntKind.i64.wrap (((BitVec.ofInt 64 x &&& BitVec.ofInt 64 15).toNat : Nat) : Int) = x % 16
  rw [BitVec.toNat_and, ofInt_toNat64, ofInt_toNat64, show ((15 : Int) % 18446744073709551616).toNat = 2 ^ 4 - 1 from rfl, Nat.and_two_pow_sub_one_eq_mod]
  rw [IntWalk.i64_in _ (by omega)]
  omega
end Go.Proofs.Ytffahoocbjfdaaa
