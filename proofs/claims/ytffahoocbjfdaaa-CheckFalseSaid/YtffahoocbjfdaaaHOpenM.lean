/- What a law's argument reads as: moves. -/
import Derived.Test.YtffahoocbjfdaaaHOp
import Derived.Test.YtffahoocbjfdaaaHMkW
namespace Go.Proofs.Ytffahoocbjfdaaa
open Go.ChangeShapes Go.WideShapes Go.ChangeAt Go.RowKit Go.Deep
def MvV.ok (o : MvV) : Prop := In64 o.kind ∧ In64 o.client ∧ o.q.ok
theorem cellsInt : Try.prog.cellsOf 3 = 1 := by kernel_rfl
theorem cellsReq : Try.prog.cellsOf 24 = 6 := by kernel_rfl
section
variable {H : Type} {enc : TypeId × Value → H} {w : World} {base : Nat} {spare : Nat → Bool} {held : Bool}
theorem trod_fieldsX {e : TypeId} {fs : Array Field} {n : Nat} {cs : List Value} {y : DataW H × List MemPlace} (he : Try.prog.underlying e = some (.struct fs)) (h : DataW.trod enc Try.prog w base spare held n e cs = some y) :
    ∃ m, ∀ (j : Nat) (f : Field), fs[j]? = some f → ∃ z, DataW.trod enc Try.prog w base spare held m f.type ((cs.drop f.offset).take (Try.prog.cellsOf f.type)) = some z := by
  obtain ⟨ys, n', hn', hy, hlen, hyl, hf⟩ := DataW.trod_struct he h
  refine ⟨n', fun j f hj => ?_⟩
  have hjl : j < fs.size := (Array.getElem?_eq_some_iff.1 hj).1
  exact ⟨_, (hf j f hj).trans (List.getElem?_eq_getElem (by omega))⟩
set_option maxRecDepth 100000 in
theorem open_moves {a : Option Addr} {len cap : Nat} {d : DataW H} {p : List MemPlace} (h : DataW.Trod enc Try.prog w base spare held 22 (.slice a len cap) d p) :
    ∃ xs : List MvV, len = xs.length ∧ CellsAt w a (xs.flatMap MvV.cells) ∧ (∀ x ∈ xs, x.ok) ∧ len ≤ maxLen := by
  obtain ⟨xs, h1, h2, h3, h4⟩ := open_rows MvV.cells Try.underlying22 (size := 8) (by kernel_rfl) (by omega) (fun _ => rfl) MvV.ok (fun n cs y hl ht => by
    obtain ⟨m, hm⟩ := trod_fieldsX Try.underlying27 ht
    match cs, hl with
    | [c0, c1, c2, c3, c4, c5, c6, c7], _ =>
      obtain ⟨z0, h0⟩ := hm 0 _ rfl
      obtain ⟨z1, h1⟩ := hm 1 _ rfl
      obtain ⟨z2, h2⟩ := hm 2 _ rfl
      have g0 : DataW.trod enc Try.prog w base spare held m 3 (([c0, c1, c2, c3, c4, c5, c6, c7].drop 0).take (Try.prog.cellsOf 3)) = some z0 := h0
      have g1 : DataW.trod enc Try.prog w base spare held m 3 (([c0, c1, c2, c3, c4, c5, c6, c7].drop 1).take (Try.prog.cellsOf 3)) = some z1 := h1
      have g2 : DataW.trod enc Try.prog w base spare held m 24 (([c0, c1, c2, c3, c4, c5, c6, c7].drop 2).take (Try.prog.cellsOf 24)) = some z2 := h2
      rw [cellsInt] at g0 g1
      rw [cellsReq] at g2
      clear h0 h1 h2
      have h0 : DataW.trod enc Try.prog w base spare held m 3 [c0] = some z0 := g0
      have h1 : DataW.trod enc Try.prog w base spare held m 3 [c1] = some z1 := g1
      have h2 : DataW.trod enc Try.prog w base spare held m 24 [c2, c3, c4, c5, c6, c7] = some z2 := g2
      obtain ⟨n0, e0, _, w0⟩ := DataW.trod_int Try.underlying3 h0
      obtain ⟨n1, e1, _, w1⟩ := DataW.trod_int Try.underlying3 h1
      obtain ⟨q, hq, hok⟩ := req_of rfl h2
      simp at e0 e1
      subst e0 e1
      simp only [ReqV.cells, List.cons.injEq, and_true] at hq
      obtain ⟨rfl, rfl, rfl, rfl, rfl, rfl⟩ := hq
      exact ⟨⟨n0, n1, q⟩, rfl, in64_of w0, in64_of w1, hok⟩) h
  exact ⟨xs, h1, by simpa [List.flatMap] using h2, h3, h4⟩
end
end Go.Proofs.Ytffahoocbjfdaaa
