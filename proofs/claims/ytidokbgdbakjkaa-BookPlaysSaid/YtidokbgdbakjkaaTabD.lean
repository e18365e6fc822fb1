/- book.Table.Del of a key that is not there; Book.Del. -/
import Derived.Test.YtidokbgdbakjkaaTabL
namespace Go.Proofs.Ytidokbgdbakjkaa
open Go.RowKit

set_option maxHeartbeats 1000000 in
theorem Del_no (base g o i n ck cv : Nat) (A B : Option Addr) (ks : List Int) (vs : List Value) (key : Int) (hl : n = ks.length) (hn : n ≤ 100000) (hp : PlaceOf ks key i) (hf : (decide (i < n) && decide (ks[i]?.getD 0 = key)) = false) (w : World) (h : TabAt w base g o (.slice A n ck) (.slice B n cv) ks vs) :
    Calls Try.prog 26 #[.pointer (some ⟨g, o, none⟩), .int .i64 key] w fun e w' => e = .returned (.bool false) ∧ w = w' := by
  have ho := h.ko
  rw [← hl] at ho
  have cB := hide (Bin_any A n ck i ks key false hl hn hp hf w (CellsAt.of_own ho))
  clear hp hf hl
  have k0 := h.k0
  go_enter Try.func26, Try.ntmps26
  go_wp2_with (go_at_call 32; refine cB.out.mono ?_; rintro e w1 ⟨rfl, rfl⟩)
  go_ret
  exact ⟨rfl, rfl⟩
set_option maxHeartbeats 400000 in
theorem BDel (g : Nat) (key : Int) (f : Bool) (Q : World → Prop) (w : World)
    (c : Calls Try.prog 26 #[.pointer (some ⟨g, 0, none⟩), .int .i64 key] w fun e w' => e = .returned (.bool f) ∧ Q w') :
    Calls Try.prog 13 #[.pointer (some ⟨g, 0, none⟩), .int .i64 key] w fun e w' => e = .returned (.bool f) ∧ Q w' := by
  go_enter Try.func13, Try.ntmps13
  go_wp2_with (go_at_call 26; refine c.mono ?_; rintro e w1 ⟨rfl, hq⟩)
  go_ret
  exact ⟨rfl, hq⟩
end Go.Proofs.Ytidokbgdbakjkaa
