/- The document's Do: what it computes is doL, doRep. -/
import Derived.Deep.RegionHeld3
import Derived.Test.YtffahoocbjfdaaaHRAsk
namespace Go.Proofs.Ytffahoocbjfdaaa
open Go.RowKit
theorem Writes_yes (c s k i m : Int) (d : ByteArray) (w : World) (hk : Writes k = true) :
    Calls Try.prog 18 #[.agg #[.int .i64 c, .int .i64 s, .int .i64 k, .int .i64 i, .int .i64 m, .string d]] w fun e w' => e = .returned (.bool true) ∧ Old w w' := by
  rw [← hk]; exact Writes_any c s k i m d w
theorem Writes_no (c s k i m : Int) (d : ByteArray) (w : World) (hk : Writes k = false) :
    Calls Try.prog 18 #[.agg #[.int .i64 c, .int .i64 s, .int .i64 k, .int .i64 i, .int .i64 m, .string d]] w fun e w' => e = .returned (.bool false) ∧ Old w w' := by
  rw [← hk]; exact Writes_any c s k i m d w
def VersIs (w0 : World) (A0 : Option Addr) (vs0 : List Ver) (w : World) (v : Value) (vs : List Ver) : Prop := ∃ A c, v = .slice A vs.length c ∧ Vers w A vs ∧ ((A = A0 ∧ vs = vs0) ∨ ∀ a, A = some a → w0.heap.size ≤ a.block)
theorem own_made1 {e : TypeId} {size : Nat} (W : World) (o : Obj) : ((W.alloc o).alloc (.cells #[] e)).ownsRow W.heap.size e size (.slice (some ⟨W.heap.size + 1, 0, none⟩) 0 0) 0 [] := by
  have := World.ownsRow_made (base := W.heap.size) (e := e) (size := size) (W.alloc o) #[] 0 (by simp) (by decide) (by simp)
  rwa [World.size_alloc] at this
end Go.Proofs.Ytffahoocbjfdaaa
