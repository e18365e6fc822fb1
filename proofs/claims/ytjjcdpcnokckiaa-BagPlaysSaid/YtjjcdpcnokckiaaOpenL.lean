/- What a law's argument reads as: steps of a row of messages. -/
import Derived.Test.YtjjcdpcnokckiaaOpenB
import Derived.Test.YtjjcdpcnokckiaaLBPlays
namespace Go.Proofs.Ytjjcdpcnokckiaa
open Go.ChangeShapes Go.WideShapes Go.ChangeAt Go.RowKit Go.Deep

section
variable {H : Type} {enc : TypeId × Value → H} {w : World} {base : Nat} {spare : Nat → Bool} {held : Bool}
set_option maxRecDepth 100000 in
theorem open_bagops {a : Option Addr} {len cap : Nat} {d : DataW H} {p : List MemPlace} (h : DataW.Trod enc Try.prog w base spare held 37 (.slice a len cap) d p) :
    ∃ xs : List GOp, len = xs.length ∧ CellsAt w a (xs.flatMap GOp.cells) ∧ (∀ x ∈ xs, CellsAt w x.A (u8s x.bs)) ∧ len ≤ maxLen := by
  obtain ⟨xs, h1, h2, h3, h4⟩ := open_rows GOp.cells Try.underlying37 (size := 5) (by kernel_rfl) (by omega) (fun _ => rfl) (fun x => CellsAt w x.A (u8s x.bs)) (fun n cs y hl ht => by
    obtain ⟨m, hm⟩ := trod_fields Try.underlying43 (by kernel_rfl) ht
    match cs, hl with
    | [c0, c1, c2, c3, c4], _ =>
      obtain ⟨_, h0⟩ := hm 0 _ c0 rfl rfl
      obtain ⟨_, h1⟩ := hm 1 _ c1 rfl rfl
      obtain ⟨_, h2⟩ := hm 2 _ c2 rfl rfl
      obtain ⟨_, h3⟩ := hm 3 _ c3 rfl rfl
      obtain ⟨z4, h4⟩ := hm 4 _ c4 rfl rfl
      obtain ⟨n0, e0, _, w0⟩ := DataW.trod_int Try.underlying3 h0
      obtain ⟨n1, e1, _, w1⟩ := DataW.trod_int Try.underlying3 h1
      obtain ⟨n2, e2, _, w2⟩ := DataW.trod_int Try.underlying3 h2
      obtain ⟨n3, e3, _, w3⟩ := DataW.trod_int Try.underlying3 h3
      simp at e0 e1 e2 e3
      subst e0 e1 e2 e3
      rcases open_slice Try.underlying28 h4 with ⟨h0, _⟩ | ⟨ad, l, c, _, _, _, _, hcs, -⟩
      · injection h0 with h0
        subst h0
        exact ⟨⟨n0, n1, n2, n3, none, 0, []⟩, rfl, CellsAt.nil _ _⟩
      · injection hcs with hcs
        subst hcs
        have ht4 : DataW.Trod enc Try.prog w base spare held 28 (.slice (some ad) l c) z4.1 z4.2 := ⟨_, h4⟩
        obtain ⟨bs, hb1, hb2, -, -⟩ := open_bytes ht4
        subst hb1
        exact ⟨⟨n0, n1, n2, n3, some ad, c, bs⟩, rfl, hb2⟩) h
  exact ⟨xs, h1, by simpa [List.flatMap] using h2, h3, h4⟩
end
end Go.Proofs.Ytjjcdpcnokckiaa
