/- book.Book.Least. -/
import Derived.Test.YtidokbgdbakjkaaTabG
namespace Go.Proofs.Ytidokbgdbakjkaa
open Go.RowKit

set_option maxHeartbeats 400000 in
theorem BLeast_nil (w : World) : Calls Try.prog 23 #[.pointer none] w fun e w' => e = .returned (.tuple #[.int .i64 0, .bool false]) ∧ w = w' := by
  go_enter Try.func23, Try.ntmps23
  go_wp2_with (go_at_call 11; refine (BKeys_nil _).mono ?_; rintro e w1 ⟨rfl, rfl⟩)
  refine wp_loop_rounds 1 ?_
  rw [rounds_succ]
  go_wp2
  go_ret2
  exact ⟨rfl, rfl⟩
end Go.Proofs.Ytidokbgdbakjkaa
