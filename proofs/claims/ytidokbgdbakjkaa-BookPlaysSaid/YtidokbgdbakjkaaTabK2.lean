/- book.Book.Least of a book with keys. -/
import Derived.Test.YtidokbgdbakjkaaTabK
namespace Go.Proofs.Ytidokbgdbakjkaa
open Go.RowKit

set_option maxHeartbeats 400000 in
theorem BLeast (g n c b : Nat) (k : Int) (ks : List Int) (hn : (0 : Int) < n) (Q : World → Prop) (w : World)
    (h : Calls Try.prog 11 #[.pointer (some ⟨g, 0, none⟩)] w fun e w' => ∃ b o c, e = .returned (.slice (some ⟨b, o, none⟩) n c) ∧ w'.cell? ⟨b, o, none⟩ = some (.int .i64 k) ∧ b < w'.heap.size ∧ Q w') :
    Calls Try.prog 23 #[.pointer (some ⟨g, 0, none⟩)] w fun e w' => e = .returned (.tuple #[.int .i64 k, .bool true]) ∧ Q w' := by
  go_enter Try.func23, Try.ntmps23
  go_wp2_with (go_at_call 11; refine h.mono ?_; rintro e w1 ⟨b1, o1, c1, rfl, hc, hb, hq⟩)
  refine wp_loop_rounds 1 ?_
  rw [rounds_succ]
  go_wp2
  go_ret2
  exact ⟨rfl, hq⟩
end Go.Proofs.Ytidokbgdbakjkaa
