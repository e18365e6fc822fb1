/- book.Book.Keys of a book without keys. -/
import Derived.Test.YtidokbgdbakjkaaTabB
namespace Go.Proofs.Ytidokbgdbakjkaa
open Go.RowKit

set_option maxHeartbeats 400000 in
theorem BKeys_none (base g ck cv : Nat) (A B : Option Addr) (vs : List Value) (w : World) (h : TabAt w base g 0 (.slice A 0 ck) (.slice B 0 cv) [] vs) :
    Calls Try.prog 11 #[.pointer (some ⟨g, 0, none⟩)] w fun e w' => e = .returned (.slice none 0 0) ∧ w = w' := by
  have c := hide (BLen base g 0 ck cv A B [] vs w h)
  go_enter Try.func11, Try.ntmps11
  go_wp2_with (go_at_call 16; refine c.out.mono ?_; rintro e w1 ⟨rfl, rfl⟩)
  go_ret
  exact ⟨rfl, rfl⟩
end Go.Proofs.Ytidokbgdbakjkaa
