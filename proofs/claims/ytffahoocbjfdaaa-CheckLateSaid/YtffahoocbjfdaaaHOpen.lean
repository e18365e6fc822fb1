/- What a law's argument reads as, in the words of XBase. -/
import Derived.Deep.Slices
import Derived.Deep.Fields
import Derived.ProofKit
import Derived.OpenShut
import Derived.ShutString
import Derived.ChangeOld
import Derived.Below
import Derived.Test.YtffahoocbjfdaaaHOpenG
namespace Go.Proofs.Ytffahoocbjfdaaa
open Go.ChangeShapes Go.WideShapes Go.ChangeAt Go.RowKit Go.Deep

theorem cellsVer : Try.prog.cellsOf 96 = 2 := by kernel_rfl

section
variable {H : Type} {enc : TypeId × Value → H} {w : World} {base : Nat} {spare : Nat → Bool} {held : Bool}

set_option maxRecDepth 100000 in
theorem open_vers {a : Option Addr} {len cap : Nat} {d : DataW H} {p : List MemPlace} (h : DataW.Trod enc Try.prog w base spare held 57 (.slice a len cap) d p) :
    ∃ vs : List Ver, len = vs.length ∧ Vers w a vs ∧ len ≤ maxLen := by
  obtain ⟨xs, h1, h2, _, h4⟩ := open_rows (fun v : Ver => [.bool v.1, .string v.2]) Try.underlying57 cellsVer (by omega) (fun _ => rfl) (fun _ => True) (fun n cs y hl ht => by
    obtain ⟨m, hm⟩ := trod_fields Try.underlying96 (by kernel_rfl) ht
    match cs, hl with
    | [c0, c1], _ =>
      obtain ⟨z0, h0⟩ := hm 0 _ c0 rfl rfl
      obtain ⟨z1, h1⟩ := hm 1 _ c1 rfl rfl
      obtain ⟨b, e0, _⟩ := DataW.trod_bool Try.underlying4 h0
      obtain ⟨s, e1, _⟩ := DataW.trod_string Try.underlying9 h1
      simp at e0 e1
      subst e0 e1
      exact ⟨(b, s), rfl, trivial⟩) h
  exact ⟨xs, h1, by simpa [Vers, verCells, List.flatMap] using h2, h4⟩

/-- a request's fields, ints of their kind -/
structure ReqV where
  client : Int
  seq : Int
  kind : Int
  id : Int
  mat : Int
  data : ByteArray
instance : Inhabited ReqV := ⟨⟨0, 0, 0, 0, 0, ByteArray.empty⟩⟩
def ReqV.cells (q : ReqV) : List Value := [.int .i64 q.client, .int .i64 q.seq, .int .i64 q.kind, .int .i64 q.id, .int .i64 q.mat, .string q.data]
def ReqV.ok (q : ReqV) : Prop := In64 q.client ∧ In64 q.seq ∧ In64 q.kind ∧ In64 q.id ∧ In64 q.mat
set_option maxRecDepth 100000 in
theorem req_of {n : Nat} {cs : List Value} {y : DataW H × List MemPlace} (hl : cs.length = 6) (ht : DataW.trod enc Try.prog w base spare held n 24 cs = some y) : ∃ q : ReqV, cs = q.cells ∧ q.ok := by
  obtain ⟨m, hm⟩ := trod_fields Try.underlying24 (by kernel_rfl) ht
  match cs, hl with
  | [c0, c1, c2, c3, c4, c5], _ =>
    obtain ⟨_, h0⟩ := hm 0 _ c0 rfl rfl
    obtain ⟨_, h1⟩ := hm 1 _ c1 rfl rfl
    obtain ⟨_, h2⟩ := hm 2 _ c2 rfl rfl
    obtain ⟨_, h3⟩ := hm 3 _ c3 rfl rfl
    obtain ⟨_, h4⟩ := hm 4 _ c4 rfl rfl
    obtain ⟨_, h5⟩ := hm 5 _ c5 rfl rfl
    obtain ⟨n0, e0, _, w0⟩ := DataW.trod_int Try.underlying3 h0
    obtain ⟨n1, e1, _, w1⟩ := DataW.trod_int Try.underlying3 h1
    obtain ⟨n2, e2, _, w2⟩ := DataW.trod_int Try.underlying3 h2
    obtain ⟨n3, e3, _, w3⟩ := DataW.trod_int Try.underlying3 h3
    obtain ⟨n4, e4, _, w4⟩ := DataW.trod_int Try.underlying3 h4
    obtain ⟨s, e5, _⟩ := DataW.trod_string Try.underlying9 h5
    simp at e0 e1 e2 e3 e4 e5
    subst e0 e1 e2 e3 e4 e5
    exact ⟨⟨n0, n1, n2, n3, n4, s⟩, rfl, in64_of w0, in64_of w1, in64_of w2, in64_of w3, in64_of w4⟩

set_option maxRecDepth 100000 in
theorem open_req {r : Reach} {b0 : Nat} {v : Value} {d : DataW H} {p : List MemPlace} (hv : Value.okWide Try.prog w r b0 24 v) (h : DataW.Trod enc Try.prog w base spare held 24 v d p) :
    ∃ q : ReqV, v = .agg #[.int .i64 q.client, .int .i64 q.seq, .int .i64 q.kind, .int .i64 q.id, .int .i64 q.mat, .string q.data] ∧ q.ok := by
  obtain ⟨cs, rfl, hs⟩ := okWide_struct Try.underlying24 hv
  obtain ⟨l⟩ := cs
  obtain ⟨fuel, hf⟩ := h
  obtain ⟨q, hq, hok⟩ := req_of (n := fuel) (cs := l) (hs.trans (by kernel_rfl)) hf
  exact ⟨q, by rw [hq]; rfl, hok⟩

def ReqsAt (w : World) (A : Option Addr) (qs : List ReqV) : Prop := CellsAt w A (qs.flatMap ReqV.cells)
set_option maxRecDepth 100000 in
theorem open_reqs {a : Option Addr} {len cap : Nat} {d : DataW H} {p : List MemPlace} (h : DataW.Trod enc Try.prog w base spare held 29 (.slice a len cap) d p) :
    ∃ qs : List ReqV, len = qs.length ∧ ReqsAt w a qs ∧ (∀ q ∈ qs, q.ok) ∧ len ≤ maxLen := by
  obtain ⟨xs, h1, h2, h3, h4⟩ := open_rows ReqV.cells Try.underlying29 (size := 6) (by kernel_rfl) (by omega) (fun _ => rfl) ReqV.ok (fun n cs y hl ht => req_of hl ht) h
  exact ⟨xs, h1, by simpa [ReqsAt, List.flatMap] using h2, h3, h4⟩

end
end Go.Proofs.Ytffahoocbjfdaaa
