/- slices.Insert, slices.Delete of one element: Vers. -/
import Derived.Test.YtcbnibldlbnkbaaRows
import Derived.Test.YtcbnibldlbnkbaaCopy
namespace Go.Proofs.Ytcbnibldlbnkbaa
open Go.RowKit

theorem infoVV : (Try.prog.info? 29).map (fun i => (i.zero, i.size, i.bytes)) = some (some (.slice none 0 0), 1, 24) := by kernel_rfl
theorem zeroVV : ∀ w, (zeroValue 29).run Try.prog w = .ok (.slice none 0 0) w := fun _ => by kernel_rfl
theorem zlVV : (.slice none 0 0 : Value).cells.size = 1 := rfl
theorem zoVV : ∀ u ∈ (.slice none 0 0 : Value).cells.toList, u.oneCell' = true := by decide
theorem szVV : (Try.prog.info? 29).map (·.size) = some 1 := by kernel_rfl
theorem sizeVV : ∀ w, (Go.sizeOf 29).run Try.prog w = .ok 1 w := fun _ => by kernel_rfl

end Go.Proofs.Ytcbnibldlbnkbaa
