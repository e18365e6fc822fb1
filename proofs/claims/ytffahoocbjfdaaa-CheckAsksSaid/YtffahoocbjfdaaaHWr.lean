/- pack.Writer: what a writer is in memory; Num. -/
import Derived.Outline
import Derived.Test.YtffahoocbjfdaaaRows
import Derived.Test.YtffahoocbjfdaaaHBs
import Derived.Laws.BytesArg
import Derived.RangeFuncOwn
import Derived.RangeFuncFrom
import Derived.Laws.Rows
import Derived.OwnWalkIn
namespace Go.Proofs.Ytffahoocbjfdaaa
open Go.RowKit
def numB (v : Nat) : List Int := if v < 128 then [(v : Int)] else ((v % 128 + 128 : Nat) : Int) :: numB (v / 128)
decreasing_by omega
theorem len1 (cs : List Int) (x : Int) : (cs ++ [x]).length = cs.length + 1 := by simp
def numsOf (d : ByteArray) : List Int := d.data.toList.map fun c => (c.toNat : Int)
end Go.Proofs.Ytffahoocbjfdaaa

/- pack.Writer: Text, Bytes; the document's Num, Text, Yes. -/
namespace Go.Proofs.Ytffahoocbjfdaaa
open Go.RowKit Go.Lib
def textB (d : ByteArray) : List Int := numB d.size ++ numsOf d
def yesB (b : Bool) : List Int := [if b then 1 else 0]
end Go.Proofs.Ytffahoocbjfdaaa

/- A function's own writer: its block, its box, what it has put. -/
namespace Go.Proofs.Ytffahoocbjfdaaa
open Go.RowKit
section
variable {w wr w' w'' : World} {bs cs : List Int}
end
end Go.Proofs.Ytffahoocbjfdaaa

/- A whole array or struct read out of the middle of a block. No program. -/
namespace Go.Proofs.Ytffahoocbjfdaaa
open Go.RowKit
end Go.Proofs.Ytffahoocbjfdaaa
