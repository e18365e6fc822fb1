/- What a law's argument reads as, in the words of XBase. -/
import Derived.Deep.Slices
import Derived.Deep.Fields
import Derived.ProofKit
import Derived.OpenShut
import Derived.ShutString
import Derived.ChangeOld
import Derived.Below
import Derived.Test.YtffahoocbjfdaaaRows
import Derived.Test.YtffahoocbjfdaaaHBs
namespace Go.Proofs.Ytffahoocbjfdaaa
open Go.ChangeShapes Go.WideShapes Go.ChangeAt Go.RowKit Go.Deep
theorem own : ownKnob Try.prog.godebug = none := by kernel_rfl
theorem laidOut : laidOutB Try.prog = true := by kernel_rfl
section
variable {H : Type} {enc : TypeId × Value → H} {w : World} {base : Nat} {spare : Nat → Bool} {held : Bool}
theorem lenAt (f : Nat → List Value) (size : Nat) (hs : ∀ i, (f i).length = size) (hp : 0 < size) : ∀ n, (((List.range n).map f).flatten).length = n * size ∧ ∀ k u, (((List.range n).map f).flatten)[k]? = some u → k / size < n ∧ (f (k / size))[k % size]? = some u := by
  intro n
  induction n with
  | zero => simp
  | succ n ih =>
    rw [List.range_succ, List.map_append, List.flatten_append]
    simp only [List.map_cons, List.map_nil, List.flatten_cons, List.flatten_nil, List.append_nil]
    refine ⟨by rw [List.length_append, ih.1, hs, Nat.succ_mul], fun k u hk => ?_⟩
    by_cases h : k < n * size
    · rw [List.getElem?_append_left (by rw [ih.1]; exact h)] at hk
      have := ih.2 k u hk
      exact ⟨by omega, this.2⟩
    · rw [List.getElem?_append_right (by rw [ih.1]; omega), ih.1] at hk
      have hlt : k - n * size < size := by
        have := (List.getElem?_eq_some_iff.1 hk).1
        rw [hs] at this; exact this
      have hdiv : k / size = n := by
        rw [Nat.div_eq_iff hp]
        refine ⟨by omega, ?_⟩
        have : n * size + size = (n + 1) * size := (Nat.succ_mul n size).symm
        omega
      have hmod : k % size = k - n * size := by
        have := Nat.div_add_mod k size
        rw [hdiv, Nat.mul_comm] at this
        omega
      rw [hdiv, hmod]
      exact ⟨by omega, hk⟩
set_option maxRecDepth 100000 in
theorem open_rows {α : Type} [Inhabited α] (f : α → List Value) {t e : TypeId} {size : Nat} (ht : Try.prog.underlying t = some (.slice e)) (hC : Try.prog.cellsOf e = size) (hp : 0 < size) (hf : ∀ x, (f x).length = size) (ok : α → Prop)
    (hone : ∀ (n : Nat) (cs : List Value) (y : DataW H × List MemPlace), cs.length = size → DataW.trod enc Try.prog w base spare held n e cs = some y → ∃ x, cs = f x ∧ ok x)
    {a : Option Addr} {len cap : Nat} {d : DataW H} {p : List MemPlace} (h : DataW.Trod enc Try.prog w base spare held t (.slice a len cap) d p) :
    ∃ xs : List α, len = xs.length ∧ CellsAt w a ((xs.map f).flatten) ∧ (∀ x ∈ xs, ok x) ∧ len ≤ maxLen := by
  obtain ⟨fuel, hfu⟩ := h
  rcases open_slice ht hfu with ⟨h0, _⟩ | ⟨ad, l, c, m, n, D, Pl, hcs, hb, hl, hm, hmm, hx, hi⟩
  · simp [Value.cells] at h0
    obtain ⟨rfl, rfl, rfl⟩ := h0
    exact ⟨[], rfl, CellsAt.nil _ _, by simp, Nat.zero_le _⟩
  · simp [Value.cells] at hcs
    obtain ⟨rfl, rfl, rfl⟩ := hcs
    have hlm : len ≤ m := by rw [hmm]; split <;> omega
    have hx1 : ∀ i, i < len → ∃ x : α, ok x ∧ ∀ j, j < size → w.cell? ((ad.add (i * size)).add j) = (f x)[j]? := fun i hil => by
      obtain ⟨cs', hc, htr⟩ := hi i (by omega)
      rw [hC] at hc
      obtain ⟨_, hcl, hat⟩ := World.cells?_some hc
      obtain ⟨x, hxx, hok⟩ := hone _ _ _ hcl htr
      exact ⟨x, hok, fun j hj => by rw [← hxx]; exact hat j hj⟩
    obtain ⟨g, hg⟩ : ∃ g : Nat → α, ∀ i, i < len → ok (g i) ∧ ∀ j, j < size → w.cell? ((ad.add (i * size)).add j) = (f (g i))[j]? := by
      classical
      refine ⟨fun i => if h : i < len then Classical.choose (hx1 i h) else default, fun i h => ?_⟩
      simp only [h, dif_pos]
      exact Classical.choose_spec (hx1 i h)
    have hcell : ∀ k u, ((((List.range len).map g).map f).flatten)[k]? = some u → w.cell? (ad.add k) = some u := fun k u hk => by
      rw [List.map_map] at hk
      obtain ⟨h1, h2⟩ := (lenAt (f ∘ g) size (fun i => hf _) hp len).2 k u hk
      have hj : k % size < size := Nat.mod_lt _ hp
      have := (hg _ h1).2 _ hj
      rw [Go.Deep.add_add, show k / size * size + k % size = k from by rw [Nat.mul_comm]; exact Nat.div_add_mod k size] at this
      rw [this]; exact h2
    refine ⟨(List.range len).map g, by rw [List.length_map, List.length_range], fun hn => ?_, ?_, by omega⟩
    · have hk0 : ∃ u, ((((List.range len).map g).map f).flatten)[0]? = some u := by
        cases hh : ((((List.range len).map g).map f).flatten) with
        | nil => exact absurd hh hn
        | cons u us => exact ⟨u, rfl⟩
      obtain ⟨u, hu⟩ := hk0
      have h0 := hcell 0 u hu
      have hsp := World.cell?_spot h0
      have hbl := World.block_lt_of_cell? w _ h0
      have ha0 : ad.add 0 = ad := by unfold Addr.add; rw [if_pos rfl]
      rw [ha0] at hsp hbl
      obtain ⟨b, o, sp⟩ := ad
      obtain rfl : sp = none := hsp
      exact ⟨b, o, rfl, hbl, fun k u hk => by rw [← add_mk]; exact hcell k u hk⟩
    · intro x hx
      simp only [List.mem_map, List.mem_range] at hx
      obtain ⟨i, hi, rfl⟩ := hx
      exact (hg i hi).1
theorem trod_fields {e : TypeId} {fs : Array Field} {n : Nat} {cs : List Value} {y : DataW H × List MemPlace} (he : Try.prog.underlying e = some (.struct fs)) (hone : oneCellFields Try.prog fs = true) (h : DataW.trod enc Try.prog w base spare held n e cs = some y) :
    ∃ m, ∀ (j : Nat) (f : Field) (c : Value), fs[j]? = some f → cs[j]? = some c → ∃ z, DataW.trod enc Try.prog w base spare held m f.type [c] = some z := by
  obtain ⟨ys, n', hn', hy, hlen, hyl, hf⟩ := DataW.trod_struct he h
  refine ⟨n', fun j f c hj hc => ?_⟩
  obtain ⟨ho, hk⟩ := hone_of hone j f hj
  have h1 := hf j f hj
  have hjl : j < fs.size := (Array.getElem?_eq_some_iff.1 hj).1
  have hcl : j < cs.length := (List.getElem?_eq_some_iff.1 hc).1
  have hys : ys[j]? = some (ys[j]'(by omega)) := List.getElem?_eq_getElem (by omega)
  have hcc : (cs.drop j).take 1 = [c] := by
    rw [List.drop_eq_getElem_cons hcl]
    have he2 : cs[j] = c := Option.some.inj ((List.getElem?_eq_getElem hcl).symm.trans hc)
    rw [he2]
    rfl
  rw [ho, hk, hcc] at h1
  exact ⟨_, h1.trans hys⟩
def In64 (n : Int) : Prop := -9223372036854775808 ≤ n ∧ n ≤ 9223372036854775807
theorem in64_of {n : Int} (h : (Lit.int .i64 n).wf = true) : In64 n := by
  have := bounds_i64 h
  exact ⟨by omega, by omega⟩
theorem flat_ints (xs : List Int) : (xs.map fun n : Int => [Value.int .i64 n]).flatten = xs.map (Value.int .i64) := by
  induction xs with
  | nil => rfl
  | cons x xs ih => simp only [List.map_cons, List.flatten_cons, ih]; rfl
set_option maxRecDepth 100000 in
theorem open_ints' {a : Option Addr} {len cap : Nat} {d : DataW H} {p : List MemPlace} (h : DataW.Trod enc Try.prog w base spare held 34 (.slice a len cap) d p) :
    ∃ ns : List Int, len = ns.length ∧ IntsAt w a ns ∧ (∀ n ∈ ns, In64 n) ∧ len ≤ maxLen := by
  obtain ⟨xs, h1, h2, h3, h4⟩ := open_rows (fun n : Int => [Value.int .i64 n]) Try.underlying34 (size := 1) (by kernel_rfl) (by omega) (fun _ => rfl) In64 (fun n cs y hl ht => by
    match cs, hl with
    | [c0], _ =>
      obtain ⟨n0, e0, _, w0⟩ := DataW.trod_int Try.underlying3 ht
      simp at e0
      subst e0
      exact ⟨n0, rfl, in64_of w0⟩) h
  refine ⟨xs, h1, ?_, h3, h4⟩
  rw [flat_ints] at h2
  exact h2
end
end Go.Proofs.Ytffahoocbjfdaaa

/- What a law's argument reads as, in the words of XBase. -/
namespace Go.Proofs.Ytffahoocbjfdaaa
open Go.ChangeShapes Go.WideShapes Go.ChangeAt Go.RowKit Go.Deep
section
variable {H : Type} {enc : TypeId × Value → H} {w : World} {base : Nat} {spare : Nat → Bool} {held : Bool}
structure ReqV where
  client : Int
  seq : Int
  kind : Int
  id : Int
  mat : Int
  data : ByteArray
instance : Inhabited ReqV := ⟨⟨0, 0, 0, 0, 0, ByteArray.empty⟩⟩
def ReqV.cells (q : ReqV) : List Value := [.int .i64 q.client, .int .i64 q.seq, .int .i64 q.kind, .int .i64 q.id, .int .i64 q.mat, .string q.data]
def ReqV.ok (q : ReqV) : Prop := In64 q.client ∧ In64 q.seq ∧ In64 q.kind ∧ In64 q.id ∧ In64 q.mat
set_option maxRecDepth 100000 in
theorem req_of {n : Nat} {cs : List Value} {y : DataW H × List MemPlace} (hl : cs.length = 6) (ht : DataW.trod enc Try.prog w base spare held n 24 cs = some y) : ∃ q : ReqV, cs = q.cells ∧ q.ok := by
  obtain ⟨m, hm⟩ := trod_fields Try.underlying24 (by kernel_rfl) ht
  match cs, hl with
  | [c0, c1, c2, c3, c4, c5], _ =>
    obtain ⟨_, h0⟩ := hm 0 _ c0 rfl rfl
    obtain ⟨_, h1⟩ := hm 1 _ c1 rfl rfl
    obtain ⟨_, h2⟩ := hm 2 _ c2 rfl rfl
    obtain ⟨_, h3⟩ := hm 3 _ c3 rfl rfl
    obtain ⟨_, h4⟩ := hm 4 _ c4 rfl rfl
    obtain ⟨_, h5⟩ := hm 5 _ c5 rfl rfl
    obtain ⟨n0, e0, _, w0⟩ := DataW.trod_int Try.underlying3 h0
    obtain ⟨n1, e1, _, w1⟩ := DataW.trod_int Try.underlying3 h1
    obtain ⟨n2, e2, _, w2⟩ := DataW.trod_int Try.underlying3 h2
    obtain ⟨n3, e3, _, w3⟩ := DataW.trod_int Try.underlying3 h3
    obtain ⟨n4, e4, _, w4⟩ := DataW.trod_int Try.underlying3 h4
    obtain ⟨s, e5, _⟩ := DataW.trod_string Try.underlying9 h5
    simp at e0 e1 e2 e3 e4 e5
    subst e0 e1 e2 e3 e4 e5
    exact ⟨⟨n0, n1, n2, n3, n4, s⟩, rfl, in64_of w0, in64_of w1, in64_of w2, in64_of w3, in64_of w4⟩
def ReqsAt (w : World) (A : Option Addr) (qs : List ReqV) : Prop := CellsAt w A (qs.flatMap ReqV.cells)
set_option maxRecDepth 100000 in
theorem open_reqs {a : Option Addr} {len cap : Nat} {d : DataW H} {p : List MemPlace} (h : DataW.Trod enc Try.prog w base spare held 29 (.slice a len cap) d p) :
    ∃ qs : List ReqV, len = qs.length ∧ ReqsAt w a qs ∧ (∀ q ∈ qs, q.ok) ∧ len ≤ maxLen := by
  obtain ⟨xs, h1, h2, h3, h4⟩ := open_rows ReqV.cells Try.underlying29 (size := 6) (by kernel_rfl) (by omega) (fun _ => rfl) ReqV.ok (fun n cs y hl ht => req_of hl ht) h
  exact ⟨xs, h1, by simpa [ReqsAt, List.flatMap] using h2, h3, h4⟩
end
end Go.Proofs.Ytffahoocbjfdaaa
