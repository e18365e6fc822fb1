/- x & 1, x & 15. -/
import Derived.Test.YtffahoocbjfdaaaHBs
import Derived.Test.YtffahoocbjfdaaaHCSt
namespace Go.Proofs.Ytffahoocbjfdaaa
open Go.RowKit
end Go.Proofs.Ytffahoocbjfdaaa

/- casebooklaw23.CheckLate: the walk. -/
namespace Go.Proofs.Ytffahoocbjfdaaa
open Go.RowKit
def sw (j i : Nat) : Nat := if i = j then j + 1 else if i = j + 1 then j else i
theorem set_c (x : ReqV) (L : List Value) (m t : Nat) (u : Value) : (x.cells ++ L).set ((m + 1) * 6 + t) u = x.cells ++ L.set (m * 6 + t) u := by
  have hc : x.cells.length = 6 := rfl
  rw [List.set_append, if_neg (by omega), hc, show (m + 1) * 6 + t - 6 = m * 6 + t by omega]
theorem set_c0 (x : ReqV) (L : List Value) (m : Nat) (u : Value) : (x.cells ++ L).set ((m + 1) * 6) u = x.cells ++ L.set (m * 6) u := set_c x L m 0 u
theorem set_flat {q : ReqV} : ∀ {l : List ReqV} {m : Nat}, m < l.length →
    ((((((l.flatMap ReqV.cells).set (m * 6) (.int .i64 q.client)).set (m * 6 + 1) (.int .i64 q.seq)).set (m * 6 + 2) (.int .i64 q.kind)).set (m * 6 + 3) (.int .i64 q.id)).set (m * 6 + 4) (.int .i64 q.mat)).set (m * 6 + 5) (.string q.data) = (l.set m q).flatMap ReqV.cells
  | [], _, h => by cases h
  | x :: l, 0, _ => rfl
  | x :: l, m + 1, h => by
    rw [List.set_cons_succ, List.flatMap_cons, List.flatMap_cons, ← set_flat (l := l) (m := m) (by simpa using h)]
    rw [set_c0, set_c, set_c, set_c, set_c, set_c]
theorem rowcells {w : World} {b n ca m : Nat} {log : List ReqV} (h : w.ownsRow 0 24 6 (.slice (some ⟨b, 0, none⟩) n ca) n (log.flatMap ReqV.cells)) (hm : m < log.length) :
    b < w.heap.size ∧ (∃ v, w.cell? ⟨b, m * 6, none⟩ = some v) ∧ (∃ v, w.cell? ⟨b, m * 6 + 1, none⟩ = some v) ∧ (∃ v, w.cell? ⟨b, m * 6 + 2, none⟩ = some v) ∧ (∃ v, w.cell? ⟨b, m * 6 + 3, none⟩ = some v) ∧ (∃ v, w.cell? ⟨b, m * 6 + 4, none⟩ = some v) ∧ (∃ v, w.cell? ⟨b, m * 6 + 5, none⟩ = some v) := by
  have hl : (log.flatMap ReqV.cells).length = log.length * 6 := by
    clear h hm
    induction log with
    | nil => rfl
    | cons x l ih => rw [List.flatMap_cons, List.length_append, ih]; simp [ReqV.cells]; omega
  have hc : ∀ t < 6, ∃ v, w.cell? ⟨b, m * 6 + t, none⟩ = some v := fun t ht => ⟨_, own_cells h _ _ (List.getElem?_eq_getElem (by omega))⟩
  exact ⟨own_lt h, hc 0 (by omega), hc 1 (by omega), hc 2 (by omega), hc 3 (by omega), hc 4 (by omega), hc 5 (by omega)⟩
section
variable {w wr W2 w' : World} {p n b : Nat} {s : PV} {l : List ActV} {V : Value} {log : List ReqV} {t : TypeId} {cs : Array Value}
end
end Go.Proofs.Ytffahoocbjfdaaa
