/- slices.Insert, slices.Delete of one element: Int. -/
import Derived.Test.YtcbnibldlbnkbaaRows
import Derived.Test.YtcbnibldlbnkbaaCopy
namespace Go.Proofs.Ytcbnibldlbnkbaa
open Go.RowKit

theorem infoII : (Try.prog.info? 3).map (fun i => (i.zero, i.size, i.bytes)) = some (some (.int .i64 0), 1, 8) := by kernel_rfl
theorem zeroII : ∀ w, (zeroValue 3).run Try.prog w = .ok (.int .i64 0) w := fun _ => by kernel_rfl
theorem zlII : (.int .i64 0 : Value).cells.size = 1 := rfl
theorem zoII : ∀ u ∈ (.int .i64 0 : Value).cells.toList, u.oneCell' = true := by decide
theorem szII : (Try.prog.info? 3).map (·.size) = some 1 := by kernel_rfl
theorem sizeII : ∀ w, (Go.sizeOf 3).run Try.prog w = .ok 1 w := fun _ => by kernel_rfl

end Go.Proofs.Ytcbnibldlbnkbaa
