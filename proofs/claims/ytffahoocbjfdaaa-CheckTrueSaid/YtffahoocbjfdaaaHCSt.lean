/- casebooklaw23.CheckStale: the walk. -/
import Derived.Test.YtffahoocbjfdaaaHPdL
import Derived.Test.YtffahoocbjfdaaaHCTl
namespace Go.Proofs.Ytffahoocbjfdaaa
open Go.RowKit
theorem umod23 (x K : Int) (h : 0 < K) (hK : K ≤ 4611686018427387904) : ∃ y : Nat, wrap64 ((IntKind.u64.wrap x).tmod K) = (y : Int) ∧ (y : Int) < K := by
  have h0 : 0 ≤ IntKind.u64.wrap x := by rw [IntKind.wrap_u64]; omega
  rw [Int.tmod_eq_emod_of_nonneg h0]
  have h1 := Int.emod_nonneg (IntKind.u64.wrap x) (show K ≠ 0 by omega)
  have h2 := Int.emod_lt_of_pos (IntKind.u64.wrap x) h
  rw [IntWalk.wrap64_in _ ⟨by omega, by omega⟩]
  exact ⟨(IntKind.u64.wrap x % K).toNat, by omega, by omega⟩
end Go.Proofs.Ytffahoocbjfdaaa
