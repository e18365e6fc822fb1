/- A history that a law writes down by the document's P, beside a log of requests. -/
import Derived.Test.YtffahoocbjfdaaaHPd
import Derived.Test.YtffahoocbjfdaaaHCC
namespace Go.Proofs.Ytffahoocbjfdaaa
open Go.RowKit
section
variable {w wr w' : World} {p n : Nat} {s : PV} {l : List ActV} {V : Value} {log : List ReqV}
end
def bx : ByteArray := ⟨#[120]⟩
end Go.Proofs.Ytffahoocbjfdaaa
