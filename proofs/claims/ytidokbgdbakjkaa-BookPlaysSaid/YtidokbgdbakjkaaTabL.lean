/- book.Table.Len, Get. -/
import Derived.Test.YtidokbgdbakjkaaTabG
namespace Go.Proofs.Ytidokbgdbakjkaa
open Go.RowKit

set_option maxHeartbeats 400000 in
theorem TLen (base g o n ck cv : Nat) (A B : Option Addr) (ks : List Int) (vs : List Value) (w : World) (h : TabAt w base g o (.slice A n ck) (.slice B n cv) ks vs) :
    Calls Try.prog 29 #[.pointer (some ⟨g, o, none⟩)] w fun e w' => e = .returned (.int .i64 n) ∧ w = w' := by
  have k0 := h.k0
  go_enter Try.func29, Try.ntmps29
  go_wp2
  go_ret
  exact ⟨rfl, rfl⟩

set_option maxHeartbeats 1000000 in
theorem TGet_no (base g o i n ck cv : Nat) (A B : Option Addr) (ks : List Int) (vs : List Value) (key : Int) (hl : n = ks.length) (hn : n ≤ 100000) (hp : PlaceOf ks key i) (hf : (decide (i < n) && decide (ks[i]?.getD 0 = key)) = false) (w : World) (h : TabAt w base g o (.slice A n ck) (.slice B n cv) ks vs) :
    Calls Try.prog 25 #[.pointer (some ⟨g, o, none⟩), .int .i64 key] w fun e w' => e = .returned (.tuple #[.int .i64 0, .bool false]) ∧ w = w' := by
  have ho := h.ko
  rw [← hl] at ho
  have cB := hide (Bin_any A n ck i ks key false hl hn hp hf w (CellsAt.of_own ho))
  clear hp hf hl
  have k0 := h.k0
  go_enter Try.func25, Try.ntmps25
  go_wp2_with (go_at_call 32; refine cB.out.mono ?_; rintro e w1 ⟨rfl, rfl⟩)
  go_ret2
  exact ⟨rfl, rfl⟩

set_option maxHeartbeats 1000000 in
theorem TGet_yes (base g o i n ck cv : Nat) (A B : Option Addr) (ks : List Int) (vs : List Value) (key : Int) (u : Value) (hl : n = ks.length) (hn : n ≤ 100000) (hp : PlaceOf ks key i) (hi : i < n) (hk : ks[i]?.getD 0 = key) (hu : vs[i]? = some u) (w : World) (h : TabAt w base g o (.slice A n ck) (.slice B n cv) ks vs) :
    Calls Try.prog 25 #[.pointer (some ⟨g, o, none⟩), .int .i64 key] w fun e w' => e = .returned (.tuple #[u, .bool true]) ∧ w = w' := by
  have ho := h.ko
  have hv := h.vo
  rw [← hl] at ho hv
  have cB := hide (Bin_any A n ck i ks key true hl hn hp (by simp [hi, hk]) w (CellsAt.of_own ho))
  obtain ⟨b, o2, rfl, hb, hc⟩ := (CellsAt.of_own hv) (by have := hv.1; intro e; subst e; simp at hu)
  have hci := hc i u hu
  clear hp hl hk hc
  have k0 := h.k0
  have v0 := h.v0
  have hi1 : (i : Int) < n := by omega
  have hi0 : (0 : Int) ≤ i := by omega
  go_enter Try.func25, Try.ntmps25
  go_wp2_with (go_at_call 32; refine cB.out.mono ?_; rintro e w1 ⟨rfl, rfl⟩)
  go_ret2
  exact ⟨rfl, rfl⟩
end Go.Proofs.Ytidokbgdbakjkaa
