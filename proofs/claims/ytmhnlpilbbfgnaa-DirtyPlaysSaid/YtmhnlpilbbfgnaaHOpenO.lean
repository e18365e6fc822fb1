/- What a law's argument reads as: steps of a log. -/
import Derived.Test.YtmhnlpilbbfgnaaHOpen
namespace Go.Proofs.Ytmhnlpilbbfgnaa
open Go.ChangeShapes Go.WideShapes Go.ChangeAt Go.RowKit Go.Deep

/-- a step: its kind, its numbers, its request -/
structure LOpV where
  kind : Int
  n : Int
  m : Int
  q : ReqV
instance : Inhabited LOpV := ⟨⟨0, 0, 0, default⟩⟩
def LOpV.cells (o : LOpV) : List Value := [.int .i64 o.kind, .int .i64 o.n, .int .i64 o.m, .int .i64 o.q.client, .int .i64 o.q.seq, .int .i64 o.q.kind, .int .i64 o.q.id, .int .i64 o.q.mat, .string o.q.data]
def LOpV.ok (o : LOpV) : Prop := In64 o.kind ∧ In64 o.n ∧ In64 o.m ∧ o.q.ok
theorem cellsInt : Try.prog.cellsOf 3 = 1 := by kernel_rfl
theorem cellsReq : Try.prog.cellsOf 23 = 6 := by kernel_rfl

section
variable {H : Type} {enc : TypeId × Value → H} {w : World} {base : Nat} {spare : Nat → Bool} {held : Bool}
theorem trod_fieldsX {e : TypeId} {fs : Array Field} {n : Nat} {cs : List Value} {y : DataW H × List MemPlace} (he : Try.prog.underlying e = some (.struct fs)) (h : DataW.trod enc Try.prog w base spare held n e cs = some y) :
    ∃ m, ∀ (j : Nat) (f : Field), fs[j]? = some f → ∃ z, DataW.trod enc Try.prog w base spare held m f.type ((cs.drop f.offset).take (Try.prog.cellsOf f.type)) = some z := by
  obtain ⟨ys, n', hn', hy, hlen, hyl, hf⟩ := DataW.trod_struct he h
  refine ⟨n', fun j f hj => ?_⟩
  have hjl : j < fs.size := (Array.getElem?_eq_some_iff.1 hj).1
  exact ⟨_, (hf j f hj).trans (List.getElem?_eq_getElem (by omega))⟩
set_option maxRecDepth 100000 in
theorem open_lops {a : Option Addr} {len cap : Nat} {d : DataW H} {p : List MemPlace} (h : DataW.Trod enc Try.prog w base spare held 56 (.slice a len cap) d p) :
    ∃ xs : List LOpV, len = xs.length ∧ CellsAt w a (xs.flatMap LOpV.cells) ∧ (∀ x ∈ xs, x.ok) ∧ len ≤ maxLen := by
  obtain ⟨xs, h1, h2, h3, h4⟩ := open_rows LOpV.cells Try.underlying56 (size := 9) (by kernel_rfl) (by omega) (fun _ => rfl) LOpV.ok (fun n cs y hl ht => by
    obtain ⟨m, hm⟩ := trod_fieldsX Try.underlying63 ht
    match cs, hl with
    | [c0, c1, c2, c3, c4, c5, c6, c7, c8], _ =>
      obtain ⟨z0, h0⟩ := hm 0 _ rfl
      obtain ⟨z1, h1⟩ := hm 1 _ rfl
      obtain ⟨z2, h2⟩ := hm 2 _ rfl
      obtain ⟨z3, h3⟩ := hm 3 _ rfl
      have g0 : DataW.trod enc Try.prog w base spare held m 3 (([c0, c1, c2, c3, c4, c5, c6, c7, c8].drop 0).take (Try.prog.cellsOf 3)) = some z0 := h0
      have g1 : DataW.trod enc Try.prog w base spare held m 3 (([c0, c1, c2, c3, c4, c5, c6, c7, c8].drop 1).take (Try.prog.cellsOf 3)) = some z1 := h1
      have g2 : DataW.trod enc Try.prog w base spare held m 3 (([c0, c1, c2, c3, c4, c5, c6, c7, c8].drop 2).take (Try.prog.cellsOf 3)) = some z2 := h2
      have g3 : DataW.trod enc Try.prog w base spare held m 23 (([c0, c1, c2, c3, c4, c5, c6, c7, c8].drop 3).take (Try.prog.cellsOf 23)) = some z3 := h3
      rw [cellsInt] at g0 g1 g2
      rw [cellsReq] at g3
      clear h0 h1 h2 h3
      have h0 : DataW.trod enc Try.prog w base spare held m 3 [c0] = some z0 := g0
      have h1 : DataW.trod enc Try.prog w base spare held m 3 [c1] = some z1 := g1
      have h2 : DataW.trod enc Try.prog w base spare held m 3 [c2] = some z2 := g2
      have h3 : DataW.trod enc Try.prog w base spare held m 23 [c3, c4, c5, c6, c7, c8] = some z3 := g3
      obtain ⟨n0, e0, _, w0⟩ := DataW.trod_int Try.underlying3 h0
      obtain ⟨n1, e1, _, w1⟩ := DataW.trod_int Try.underlying3 h1
      obtain ⟨n2, e2, _, w2⟩ := DataW.trod_int Try.underlying3 h2
      obtain ⟨q, hq, hok⟩ := req_of rfl h3
      simp at e0 e1 e2
      subst e0 e1 e2
      simp only [ReqV.cells, List.cons.injEq, and_true] at hq
      obtain ⟨rfl, rfl, rfl, rfl, rfl, rfl⟩ := hq
      exact ⟨⟨n0, n1, n2, q⟩, rfl, in64_of w0, in64_of w1, in64_of w2, hok⟩) h
  exact ⟨xs, h1, by simpa [List.flatMap] using h2, h3, h4⟩
end
theorem lopCells_length (qs : List LOpV) : (qs.flatMap LOpV.cells).length = qs.length * 9 := by
  induction qs with
  | nil => rfl
  | cons q qs ih =>
    have : q.cells.length = 9 := rfl
    simp only [List.flatMap_cons, List.length_append, List.length_cons] at ih ⊢
    rw [ih, this]; omega
theorem lopCells_get (qs : List LOpV) : ∀ k j, k < qs.length → j < 9 → (qs.flatMap LOpV.cells)[k * 9 + j]? = (qs[k]?.getD default).cells[j]? := by
  induction qs with
  | nil => intro k j hk; simp at hk
  | cons q qs ih =>
    intro k j hk hj
    have hl : q.cells.length = 9 := rfl
    cases k with
    | zero =>
      simp only [List.flatMap_cons, Nat.zero_mul, Nat.zero_add]
      rw [List.getElem?_append_left (by rw [hl]; exact hj)]
      rfl
    | succ k =>
      simp only [List.flatMap_cons]
      rw [List.getElem?_append_right (by rw [hl]; omega), hl, show (k + 1) * 9 + j - 9 = k * 9 + j from by omega, ih k j (by simpa using hk) hj]
      simp
abbrev LOpsAt (w : World) (A : Option Addr) (os : List LOpV) : Prop := CellsAt w A (os.flatMap LOpV.cells)
theorem lops_at {w : World} {A : Option Addr} {qs : List LOpV} (h : LOpsAt w A qs) {k : Nat} (hk : k < qs.length) :
    ∃ b o, A = some ⟨b, o, none⟩ ∧ b < w.heap.size ∧ ∀ j u, j < 9 → (qs[k]?.getD default).cells[j]? = some u → w.cell? ⟨b, o + k * 9 + j, none⟩ = some u := by
  obtain ⟨b, o, rfl, hb, hc⟩ := h (fun e => by have := lopCells_length qs; rw [e] at this; simp at this; omega)
  refine ⟨b, o, rfl, hb, fun j u hj hu => ?_⟩
  have := hc (k * 9 + j) u (by rw [lopCells_get qs k j hk hj]; exact hu)
  rwa [← Nat.add_assoc] at this
end Go.Proofs.Ytmhnlpilbbfgnaa
