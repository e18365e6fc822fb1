/- casebooklaw23.CheckTrue: the walk. -/
import Derived.Test.YtffahoocbjfdaaaHMkW
import Derived.Test.YtffahoocbjfdaaaHMk
import Derived.Test.YtffahoocbjfdaaaHCSt
namespace Go.Proofs.Ytffahoocbjfdaaa
open Go.RowKit
end Go.Proofs.Ytffahoocbjfdaaa

/- casebooklaw23.CheckFront: the walk. -/
namespace Go.Proofs.Ytffahoocbjfdaaa
open Go.RowKit
theorem reqs_one (log : List ReqV) : ∀ u ∈ log.flatMap ReqV.cells, u.oneCell' = true := by
  intro u hu
  rw [List.mem_flatMap] at hu
  obtain ⟨q, -, hq⟩ := hu
  simp only [ReqV.cells, List.mem_cons, List.not_mem_nil, or_false] at hq
  rcases hq with rfl | rfl | rfl | rfl | rfl | rfl <;> rfl
theorem own_size' {w : World} {base n c size : Nat} {e : TypeId} {A : Option Addr} {xs : List Value} (h : w.ownsRow base e size (.slice A n c) n xs) : n ≤ c ∧ True := by
  obtain ⟨A', c', e1, h1, -⟩ := own_form h
  injection e1 with _ _ e3
  exact ⟨by omega, trivial⟩
end Go.Proofs.Ytffahoocbjfdaaa
