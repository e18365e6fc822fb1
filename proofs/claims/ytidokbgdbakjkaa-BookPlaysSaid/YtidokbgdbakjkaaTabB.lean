/- book.Book: what calls the table. -/
import Derived.Test.YtidokbgdbakjkaaTabL
import Derived.Test.YtidokbgdbakjkaaTabP
namespace Go.Proofs.Ytidokbgdbakjkaa
open Go.RowKit

set_option maxHeartbeats 400000 in
theorem BNew (w : World) : Calls Try.prog 7 #[] w fun e w' => e = .returned (.pointer (some ⟨w.heap.size, 0, none⟩)) ∧ w' = w.alloc (.cells #[.slice none 0 0, .slice none 0 0] 48) := by
  go_enter Try.func7, Try.ntmps7
  go_wp2
  go_ret
  exact ⟨rfl, rfl⟩
theorem New_tab (w : World) {base : Nat} (hb : base ≤ w.heap.size) : TabAt (w.alloc (.cells #[.slice none 0 0, .slice none 0 0] 48)) base w.heap.size 0 (.slice none 0 0) (.slice none 0 0) [] [] := by
  have h := Bk.new w 48 #[.slice none 0 0, .slice none 0 0]
  exact ⟨h.cell 0, h.cell 1, h.frozen 0, h.frozen 1, World.ownsRow_nil _ _ _ _, World.ownsRow_nil _ _ _ _, by simp, by simp [Value.ownBlock], by simp [Value.ownBlock], by simp [Value.ownBlock], hb, by simp, by simp⟩
set_option maxHeartbeats 400000 in
theorem BLen (base g n ck cv : Nat) (A B : Option Addr) (ks : List Int) (vs : List Value) (w : World) (h : TabAt w base g 0 (.slice A n ck) (.slice B n cv) ks vs) :
    Calls Try.prog 16 #[.pointer (some ⟨g, 0, none⟩)] w fun e w' => e = .returned (.int .i64 n) ∧ w = w' := by
  have c := hide (TLen base g 0 n ck cv A B ks vs w h)
  go_enter Try.func16, Try.ntmps16
  go_wp2_with (go_at_call 29; refine c.out.mono ?_; rintro e w1 ⟨rfl, rfl⟩)
  go_ret
  exact ⟨rfl, rfl⟩

set_option maxHeartbeats 400000 in
theorem BGet (base g : Nat) (K V : Value) (ks : List Int) (vs : List Value) (key : Int) (r : Value) (f : Bool) (w : World) (h : TabAt w base g 0 K V ks vs)
    (c : Calls Try.prog 25 #[.pointer (some ⟨g, 0, none⟩), .int .i64 key] w fun e w' => e = .returned (.tuple #[r, .bool f]) ∧ w = w') :
    Calls Try.prog 12 #[.pointer (some ⟨g, 0, none⟩), .int .i64 key] w fun e w' => e = .returned (.tuple #[r, .bool f]) ∧ w = w' := by
  go_enter Try.func12, Try.ntmps12
  go_wp2_with (go_at_call 25; refine c.mono ?_; rintro e w1 ⟨rfl, rfl⟩)
  go_ret2
  exact ⟨rfl, rfl⟩
set_option maxHeartbeats 400000 in
theorem BPut (g : Nat) (key v : Int) (r : Value) (f : Bool) (Q : World → Prop) (w : World)
    (c : Calls Try.prog 24 #[.pointer (some ⟨g, 0, none⟩), .int .i64 key, .int .i64 v] w fun e w' => e = .returned (.tuple #[r, .bool f]) ∧ Q w') :
    Calls Try.prog 9 #[.pointer (some ⟨g, 0, none⟩), .int .i64 key, .int .i64 v] w fun e w' => e = .returned (.tuple #[r, .bool f]) ∧ Q w' := by
  go_enter Try.func9, Try.ntmps9
  go_wp2_with (go_at_call 24; refine c.mono ?_; rintro e w1 ⟨rfl, hq⟩)
  go_ret2
  exact ⟨rfl, hq⟩
end Go.Proofs.Ytidokbgdbakjkaa
