/- What a law's argument reads as: bytes, bools. -/
import Derived.Test.YtjjcdpcnokckiaaOpenG
namespace Go.Proofs.Ytjjcdpcnokckiaa
open Go.ChangeShapes Go.WideShapes Go.ChangeAt Go.RowKit Go.Deep

section
variable {H : Type} {enc : TypeId × Value → H} {w : World} {base : Nat} {spare : Nat → Bool} {held : Bool}

theorem flat_cells {α : Type} (f : α → Value) (xs : List α) : (xs.map fun n : α => [f n]).flatten = xs.map f := by
  induction xs with
  | nil => rfl
  | cons x xs ih => simp only [List.map_cons, List.flatten_cons, ih]; rfl
def InU8 (n : Int) : Prop := 0 ≤ n ∧ n ≤ 255
set_option maxRecDepth 100000 in
theorem open_bytes {a : Option Addr} {len cap : Nat} {d : DataW H} {p : List MemPlace} (h : DataW.Trod enc Try.prog w base spare held 28 (.slice a len cap) d p) :
    ∃ ns : List Int, len = ns.length ∧ CellsAt w a (ns.map (Value.int .u8)) ∧ (∀ n ∈ ns, InU8 n) ∧ len ≤ maxLen := by
  obtain ⟨xs, h1, h2, h3, h4⟩ := open_rows (fun n : Int => [Value.int .u8 n]) Try.underlying28 (size := 1) (by kernel_rfl) (by omega) (fun _ => rfl) InU8 (fun n cs y hl ht => by
    match cs, hl with
    | [c0], _ =>
      obtain ⟨n0, e0, _, w0⟩ := DataW.trod_int Try.underlying5 ht
      simp at e0
      subst e0
      exact ⟨n0, rfl, bounds_u8 w0⟩) h
  exact ⟨xs, h1, by rw [flat_cells] at h2; exact h2, h3, h4⟩
set_option maxRecDepth 100000 in
theorem open_bools {a : Option Addr} {len cap : Nat} {d : DataW H} {p : List MemPlace} (h : DataW.Trod enc Try.prog w base spare held 23 (.slice a len cap) d p) :
    ∃ ns : List Bool, len = ns.length ∧ CellsAt w a (ns.map Value.bool) ∧ len ≤ maxLen := by
  obtain ⟨xs, h1, h2, _, h4⟩ := open_rows (fun n : Bool => [Value.bool n]) Try.underlying23 (size := 1) (by kernel_rfl) (by omega) (fun _ => rfl) (fun _ => True) (fun n cs y hl ht => by
    match cs, hl with
    | [c0], _ =>
      obtain ⟨b, e0, _⟩ := DataW.trod_bool Try.underlying4 ht
      simp at e0
      subst e0
      exact ⟨b, rfl, trivial⟩) h
  exact ⟨xs, h1, by rw [flat_cells] at h2; exact h2, h4⟩
end
end Go.Proofs.Ytjjcdpcnokckiaa
