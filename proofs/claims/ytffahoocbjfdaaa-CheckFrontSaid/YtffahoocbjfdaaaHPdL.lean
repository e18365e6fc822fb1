/- A history that a law writes down by the document's P, beside a log of requests. -/
import Derived.Test.YtffahoocbjfdaaaHPd
import Derived.Test.YtffahoocbjfdaaaHCC
namespace Go.Proofs.Ytffahoocbjfdaaa
open Go.RowKit
def ActV.nm (a : ActV) : ActV := ⟨a.client, a.seq, a.ans, a.q, a.r, none, 0, a.at_⟩
theorem foldl_nm {β : Type} {f : β → ActV → β} (hf : ∀ b a, f b a.nm = f b a) : ∀ (l : List ActV) (b : β), (l.map ActV.nm).foldl f b = l.foldl f b
  | [], _ => rfl
  | a :: l, b => by simp only [List.map_cons, List.foldl_cons, hf]; exact foldl_nm hf l _
theorem stepsP_nm (l : List ActV) : stepsP (l.map ActV.nm) = stepsP l := foldl_nm (fun _ _ => rfl) l _
theorem plSt_nm (l : List ActV) : plSt (l.map ActV.nm) = plSt l := foldl_nm (fun _ _ => rfl) l _
theorem getD_nm (l : List ActV) (i : Nat) : (l.map ActV.nm)[i]?.getD default = (l[i]?.getD default).nm := by
  rw [List.getElem?_map]
  cases l[i]? <;> rfl
theorem ansL_nm (l : List ActV) (k : Nat) : ansL (l.map ActV.nm) k = ansL l k := by
  unfold ansL
  simp only [getD_nm, ← List.map_take, plSt_nm]
  rfl
theorem checkP_nm (l : List ActV) (log : List ReqV) (qt : Int) (rd : Bool) : checkP (l.map ActV.nm) log qt rd = checkP l log qt rd := by
  have hg : goodA qt log (l.map ActV.nm) rd = goodA qt log l rd := by
    funext y
    unfold goodA
    rw [getD_nm]
    rfl
  unfold checkP mayP
  rw [stepsP_nm, hg, ansL_nm, List.length_map]
theorem checkP_eq {l m : List ActV} (h : l.map ActV.nm = m) (log : List ReqV) (qt : Int) (rd : Bool) : checkP l log qt rd = checkP m log qt rd := by rw [← h, checkP_nm]
section
variable {w wr w' : World} {p n : Nat} {s : PV} {l : List ActV} {V : Value} {log : List ReqV}
end
theorem info_Req : (Try.prog.info? 24).map (fun i => (i.zero, i.size, i.bytes)) = some (some (.agg #[.int .i64 0, .int .i64 0, .int .i64 0, .int .i64 0, .int .i64 0, .string { data := #[] }]), 6, 56) := by kernel_rfl
def bx : ByteArray := ⟨#[120]⟩
end Go.Proofs.Ytffahoocbjfdaaa
