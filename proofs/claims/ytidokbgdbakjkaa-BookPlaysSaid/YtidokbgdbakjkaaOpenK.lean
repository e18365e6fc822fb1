/- What a law's argument reads as: steps of a table. -/
import Derived.Test.YtidokbgdbakjkaaOpenG
import Derived.Test.YtidokbgdbakjkaaLPlays
namespace Go.Proofs.Ytidokbgdbakjkaa
open Go.ChangeShapes Go.WideShapes Go.ChangeAt Go.RowKit Go.Deep

section
variable {H : Type} {enc : TypeId × Value → H} {w : World} {base : Nat} {spare : Nat → Bool} {held : Bool}
set_option maxRecDepth 100000 in
theorem open_bookops {a : Option Addr} {len cap : Nat} {d : DataW H} {p : List MemPlace} (h : DataW.Trod enc Try.prog w base spare held 35 (.slice a len cap) d p) :
    ∃ xs : List BOp, len = xs.length ∧ CellsAt w a (bopCells xs) ∧ (∀ x ∈ xs, In64 x.1 ∧ In64 x.2.1 ∧ In64 x.2.2) ∧ len ≤ maxLen := by
  obtain ⟨xs, h1, h2, h3, h4⟩ := open_rows (fun x : BOp => [.int .i64 x.1, .int .i64 x.2.1, .int .i64 x.2.2]) Try.underlying35 (size := 3) (by kernel_rfl) (by omega) (fun _ => rfl) (fun x => In64 x.1 ∧ In64 x.2.1 ∧ In64 x.2.2) (fun n cs y hl ht => by
    obtain ⟨m, hm⟩ := trod_fields Try.underlying40 (by kernel_rfl) ht
    match cs, hl with
    | [c0, c1, c2], _ =>
      obtain ⟨_, h0⟩ := hm 0 _ c0 rfl rfl
      obtain ⟨_, h1⟩ := hm 1 _ c1 rfl rfl
      obtain ⟨_, h2⟩ := hm 2 _ c2 rfl rfl
      obtain ⟨n0, e0, _, w0⟩ := DataW.trod_int Try.underlying3 h0
      obtain ⟨n1, e1, _, w1⟩ := DataW.trod_int Try.underlying3 h1
      obtain ⟨n2, e2, _, w2⟩ := DataW.trod_int Try.underlying3 h2
      simp at e0 e1 e2
      subst e0 e1 e2
      exact ⟨(n0, n1, n2), rfl, in64_of w0, in64_of w1, in64_of w2⟩) h
  exact ⟨xs, h1, by simpa [bopCells, List.flatMap] using h2, h3, h4⟩
end
end Go.Proofs.Ytidokbgdbakjkaa
