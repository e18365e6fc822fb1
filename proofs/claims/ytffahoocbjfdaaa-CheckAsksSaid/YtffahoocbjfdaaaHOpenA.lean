/- What a law's argument reads as: acts. -/
import Derived.Test.YtffahoocbjfdaaaHOp
import Derived.Test.YtffahoocbjfdaaaHPaM
namespace Go.Proofs.Ytffahoocbjfdaaa
open Go.ChangeShapes Go.WideShapes Go.ChangeAt Go.RowKit Go.Deep
open Go.ChangeMaps (open_string shut_string)
theorem cellsIntA : Try.prog.cellsOf 3 = 1 := by kernel_rfl
theorem cellsBoolA : Try.prog.cellsOf 4 = 1 := by kernel_rfl
theorem cellsReqA : Try.prog.cellsOf 24 = 6 := by kernel_rfl
theorem cellsRepA : Try.prog.cellsOf 43 = 4 := by kernel_rfl
section
variable {H : Type} {enc : TypeId × Value → H} {w : World} {base : Nat} {spare : Nat → Bool} {held : Bool}
theorem trod_fieldsA {e : TypeId} {fs : Array Field} {n : Nat} {cs : List Value} {y : DataW H × List MemPlace} (he : Try.prog.underlying e = some (.struct fs)) (h : DataW.trod enc Try.prog w base spare held n e cs = some y) :
    ∃ m, ∀ (j : Nat) (f : Field), fs[j]? = some f → ∃ z, DataW.trod enc Try.prog w base spare held m f.type ((cs.drop f.offset).take (Try.prog.cellsOf f.type)) = some z := by
  obtain ⟨ys, n', hn', hy, hlen, hyl, hf⟩ := DataW.trod_struct he h
  refine ⟨n', fun j f hj => ?_⟩
  have hjl : j < fs.size := (Array.getElem?_eq_some_iff.1 hj).1
  exact ⟨_, (hf j f hj).trans (List.getElem?_eq_getElem (by omega))⟩
set_option maxRecDepth 100000 in
theorem open_repA {n : Nat} {c0 c1 c2 c3 : Value} {y : DataW H × List MemPlace} (ht : DataW.trod enc Try.prog w base spare held n 43 [c0, c1, c2, c3] = some y) :
    ∃ (r : Rep) (A : Option Addr) (cap : Nat), [c0, c1, c2, c3] = [.int .i64 r.code, .int .i64 r.ver, .string r.data, .slice A r.vs.length cap] ∧ IntsAt w A r.vs := by
  obtain ⟨m, hm⟩ := trod_fields Try.underlying43 (by kernel_rfl) ht
  obtain ⟨_, h0⟩ := hm 0 _ c0 rfl rfl
  obtain ⟨_, h1⟩ := hm 1 _ c1 rfl rfl
  obtain ⟨_, h2⟩ := hm 2 _ c2 rfl rfl
  obtain ⟨z3, h3⟩ := hm 3 _ c3 rfl rfl
  obtain ⟨n0, e0, _, w0⟩ := DataW.trod_int Try.underlying3 h0
  obtain ⟨n1, e1, _, w1⟩ := DataW.trod_int Try.underlying3 h1
  obtain ⟨b, e2, _⟩ := DataW.trod_string Try.underlying9 h2
  simp at e0 e1 e2
  subst e0 e1 e2
  rcases open_slice Try.underlying34 h3 with ⟨h0, _⟩ | ⟨ad, l, c, _, _, _, _, hcs, -⟩
  · injection h0 with h0
    subst h0
    exact ⟨⟨n0, n1, b, []⟩, none, 0, rfl, CellsAt.nil _ _⟩
  · injection hcs with hcs
    subst hcs
    have ht3 : DataW.Trod enc Try.prog w base spare held 34 (.slice (some ad) l c) z3.1 z3.2 := ⟨_, h3⟩
    obtain ⟨vs, hb1, hb2, -, -⟩ := open_ints' ht3
    subst hb1
    exact ⟨⟨n0, n1, b, vs⟩, some ad, c, rfl, hb2⟩
theorem slice_cap {t e : TypeId} {a : Option Addr} {len cap : Nat} {d : DataW H} {p : List MemPlace} (ht : Try.prog.underlying t = some (.slice e)) (h : DataW.Trod enc Try.prog w base spare held t (.slice a len cap) d p) : len ≤ cap := by
  obtain ⟨fuel, hfu⟩ := h
  rcases open_slice ht hfu with ⟨h0, _⟩ | ⟨ad, l, c, m, n, D, Pl, hcs, hb, hl, hm, hmm, hx, hi⟩
  · simp [Value.cells] at h0
    obtain ⟨rfl, rfl, rfl⟩ := h0
    exact Nat.le_refl _
  · simp [Value.cells] at hcs
    obtain ⟨rfl, rfl, rfl⟩ := hcs
    exact hl
set_option maxRecDepth 100000 in
theorem open_acts {a : Option Addr} {len cap : Nat} {d : DataW H} {p : List MemPlace} (h : DataW.Trod enc Try.prog w base spare held 28 (.slice a len cap) d p) :
    ∃ xs : List ActV, len = xs.length ∧ ActsAt w a xs ∧ len ≤ maxLen := by
  obtain ⟨xs, h1, h2, h3, h4⟩ := open_rows ActV.cells Try.underlying28 (size := 14) (by kernel_rfl) (by omega) (fun _ => rfl) (fun x => IntsAt w x.A x.r.vs) (fun n cs y hl ht => by
    obtain ⟨m, hm⟩ := trod_fieldsA Try.underlying45 ht
    match cs, hl with
    | [c0, c1, c2, c3, c4, c5, c6, c7, c8, c9, c10, c11, c12, c13], _ =>
      obtain ⟨z0, h0⟩ := hm 0 _ rfl
      obtain ⟨z1, h1⟩ := hm 1 _ rfl
      obtain ⟨z2, h2⟩ := hm 2 _ rfl
      obtain ⟨z3, h3⟩ := hm 3 _ rfl
      obtain ⟨z4, h4⟩ := hm 4 _ rfl
      obtain ⟨z5, h5⟩ := hm 5 _ rfl
      have g0 : DataW.trod enc Try.prog w base spare held m 3 (([c0, c1, c2, c3, c4, c5, c6, c7, c8, c9, c10, c11, c12, c13].drop 0).take (Try.prog.cellsOf 3)) = some z0 := h0
      have g1 : DataW.trod enc Try.prog w base spare held m 3 (([c0, c1, c2, c3, c4, c5, c6, c7, c8, c9, c10, c11, c12, c13].drop 1).take (Try.prog.cellsOf 3)) = some z1 := h1
      have g2 : DataW.trod enc Try.prog w base spare held m 4 (([c0, c1, c2, c3, c4, c5, c6, c7, c8, c9, c10, c11, c12, c13].drop 2).take (Try.prog.cellsOf 4)) = some z2 := h2
      have g3 : DataW.trod enc Try.prog w base spare held m 24 (([c0, c1, c2, c3, c4, c5, c6, c7, c8, c9, c10, c11, c12, c13].drop 3).take (Try.prog.cellsOf 24)) = some z3 := h3
      have g4 : DataW.trod enc Try.prog w base spare held m 43 (([c0, c1, c2, c3, c4, c5, c6, c7, c8, c9, c10, c11, c12, c13].drop 9).take (Try.prog.cellsOf 43)) = some z4 := h4
      have g5 : DataW.trod enc Try.prog w base spare held m 3 (([c0, c1, c2, c3, c4, c5, c6, c7, c8, c9, c10, c11, c12, c13].drop 13).take (Try.prog.cellsOf 3)) = some z5 := h5
      rw [cellsIntA] at g0 g1 g5
      rw [cellsBoolA] at g2
      rw [cellsReqA] at g3
      rw [cellsRepA] at g4
      clear h0 h1 h2 h3 h4 h5
      have h0 : DataW.trod enc Try.prog w base spare held m 3 [c0] = some z0 := g0
      have h1 : DataW.trod enc Try.prog w base spare held m 3 [c1] = some z1 := g1
      have h2 : DataW.trod enc Try.prog w base spare held m 4 [c2] = some z2 := g2
      have h3 : DataW.trod enc Try.prog w base spare held m 24 [c3, c4, c5, c6, c7, c8] = some z3 := g3
      have h4 : DataW.trod enc Try.prog w base spare held m 43 [c9, c10, c11, c12] = some z4 := g4
      have h5 : DataW.trod enc Try.prog w base spare held m 3 [c13] = some z5 := g5
      obtain ⟨n0, e0, _, w0⟩ := DataW.trod_int Try.underlying3 h0
      obtain ⟨n1, e1, _, w1⟩ := DataW.trod_int Try.underlying3 h1
      obtain ⟨b2, e2, _⟩ := DataW.trod_bool Try.underlying4 h2
      obtain ⟨n5, e5, _, w5⟩ := DataW.trod_int Try.underlying3 h5
      obtain ⟨q, hq, hok⟩ := req_of rfl h3
      obtain ⟨r, A, cp, hr, hI⟩ := open_repA h4
      simp at e0 e1 e2 e5
      subst e0 e1 e2 e5
      simp only [ReqV.cells, List.cons.injEq, and_true] at hq hr
      obtain ⟨rfl, rfl, rfl, rfl, rfl, rfl⟩ := hq
      obtain ⟨rfl, rfl, rfl, rfl⟩ := hr
      exact ⟨⟨n0, n1, b2, q, r, A, cp, n5⟩, rfl, hI⟩) h
  exact ⟨xs, h1, ⟨by simpa [List.flatMap] using h2, h3⟩, h4⟩
end
end Go.Proofs.Ytffahoocbjfdaaa
