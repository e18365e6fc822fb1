/-
  No cell of these rows narrows 'for every input' (looked for: loops, veiled, ifaces, maps, wideKeys, modest, calm, conditions, laid).
  DERIVED. THE GIVEN ROWS OF THIS SEAT. 6 by the template 'for every input the law returns true; each argument reads behind the call as it read before'; 0 by the template 'total and deterministic' (their statements: YtffahoocbjfdaaaTotals.lean).
  GIVEN WITH THE SEED: the statements are not yours to turn. If you find one false, say at which input.
  Laid BY PROGRAM, IN A SANDBOX (cutbox-rows.mjs): the forced cells as the released guide's own fill.sh prints them over the translation 586b6a0878ea2edb… (all of the seat's roots in one cut). By AI agents, Wed Nov 11 2026. No macro, syntax, notation, axiom, sorry.
-/
import Derived.Test.YtffahoocbjfdaaaChecked
import GoSem.Claim
import GoSem.ClaimJoined
import GoSem.ClaimMapViews
import Derived.JoinedTies
import Derived.KernelRfl
namespace Go.Proofs.Ytffahoocbjfdaaa
/- THE CELL 'sum', in the pinned program and in every row, IS THE sha256 OF THE DUMP (.gsa) THAT YtffahoocbjfdaaaProg.lean LOADS. Nothing in Lean hashes anything: it is a label: what it is worth is what the hold of that sum in a sandbox is worth. -/
noncomputable def Try.pinned : Pinned := { name := "ytffahoocbjfdaaa", sum := "586b6a0878ea2edb9587a6f188a8f5c113f23e104ffed142b5c25e661df7739b", checked := Try.checked }
namespace Rows
def none {H : Type} : Left H := { results := [], args := [] }

/-- 'casebooklaw23.CheckFront': WHATEVER THE INPUT: true; the input reads as it did. -/
def checkFrontSpec : ChangeSpec := { name := "checkFront", fn := fun _ => fun
  | [d1, d2, d3] => { results := [.lit (.bool true)], args := [d1, d2, d3] }
  | _ => none }
def checkFrontRow : OpenClaim := { program := "ytffahoocbjfdaaa", sum := "586b6a0878ea2edb9587a6f188a8f5c113f23e104ffed142b5c25e661df7739b", func := "casebook/casebooklaw23.CheckFront", spec := "checkFront", inPlace := ["slices.overlaps[int]", "slices.overlaps[[]casebook/api.Version]"], unfollowed := true, recurses := true, apart := false }
def CheckFrontSaid : Prop := checkFrontRow.holds Try.pinned (OpenSpec.ofChange checkFrontSpec)

/-- ITS FALSE NEIGHBOUR: 'it returns false'. Refute it at one input. -/
def checkFrontWrong : ChangeSpec := { name := "checkFront", fn := fun _ => fun
  | [d1, d2, d3] => { results := [.lit (.bool false)], args := [d1, d2, d3] }
  | _ => none }
def CheckFrontWrongFalsely : Prop := checkFrontRow.holds Try.pinned (OpenSpec.ofChange checkFrontWrong)

/-- 'casebooklaw23.CheckAsks': WHATEVER THE INPUT: true; the input reads as it did. -/
def checkAsksSpec : ChangeSpec := { name := "checkAsks", fn := fun _ => fun
  | [d1, d2, d3, d4] => { results := [.lit (.bool true)], args := [d1, d2, d3, d4] }
  | _ => none }
def checkAsksRow : OpenClaim := { program := "ytffahoocbjfdaaa", sum := "586b6a0878ea2edb9587a6f188a8f5c113f23e104ffed142b5c25e661df7739b", func := "casebook/casebooklaw23.CheckAsks", spec := "checkAsks", inPlace := ["slices.overlaps[int]", "slices.overlaps[[]casebook/api.Version]"], unfollowed := true, recurses := true, apart := false }
def CheckAsksSaid : Prop := checkAsksRow.holds Try.pinned (OpenSpec.ofChange checkAsksSpec)

/-- ITS FALSE NEIGHBOUR: 'it returns false'. Refute it at one input. -/
def checkAsksWrong : ChangeSpec := { name := "checkAsks", fn := fun _ => fun
  | [d1, d2, d3, d4] => { results := [.lit (.bool false)], args := [d1, d2, d3, d4] }
  | _ => none }
def CheckAsksWrongFalsely : Prop := checkAsksRow.holds Try.pinned (OpenSpec.ofChange checkAsksWrong)

/-- 'casebooklaw23.CheckTrue': WHATEVER THE INPUT: true; the input reads as it did. -/
def checkTrueSpec : ChangeSpec := { name := "checkTrue", fn := fun _ => fun
  | [d1, d2] => { results := [.lit (.bool true)], args := [d1, d2] }
  | _ => none }
def checkTrueRow : OpenClaim := { program := "ytffahoocbjfdaaa", sum := "586b6a0878ea2edb9587a6f188a8f5c113f23e104ffed142b5c25e661df7739b", func := "casebook/casebooklaw23.CheckTrue", spec := "checkTrue", inPlace := ["slices.overlaps[int]", "slices.overlaps[[]casebook/api.Version]"], unfollowed := true, recurses := true, apart := false }
def CheckTrueSaid : Prop := checkTrueRow.holds Try.pinned (OpenSpec.ofChange checkTrueSpec)

/-- ITS FALSE NEIGHBOUR: 'it returns false'. Refute it at one input. -/
def checkTrueWrong : ChangeSpec := { name := "checkTrue", fn := fun _ => fun
  | [d1, d2] => { results := [.lit (.bool false)], args := [d1, d2] }
  | _ => none }
def CheckTrueWrongFalsely : Prop := checkTrueRow.holds Try.pinned (OpenSpec.ofChange checkTrueWrong)

/-- 'casebooklaw23.CheckFalse': WHATEVER THE INPUT: true; the input reads as it did. -/
def checkFalseSpec : ChangeSpec := { name := "checkFalse", fn := fun _ => fun
  | [d1, d2, d3] => { results := [.lit (.bool true)], args := [d1, d2, d3] }
  | _ => none }
def checkFalseRow : OpenClaim := { program := "ytffahoocbjfdaaa", sum := "586b6a0878ea2edb9587a6f188a8f5c113f23e104ffed142b5c25e661df7739b", func := "casebook/casebooklaw23.CheckFalse", spec := "checkFalse", inPlace := ["slices.overlaps[int]", "slices.overlaps[[]casebook/api.Version]"], unfollowed := true, recurses := true, apart := false }
def CheckFalseSaid : Prop := checkFalseRow.holds Try.pinned (OpenSpec.ofChange checkFalseSpec)

/-- ITS FALSE NEIGHBOUR: 'it returns false'. Refute it at one input. -/
def checkFalseWrong : ChangeSpec := { name := "checkFalse", fn := fun _ => fun
  | [d1, d2, d3] => { results := [.lit (.bool false)], args := [d1, d2, d3] }
  | _ => none }
def CheckFalseWrongFalsely : Prop := checkFalseRow.holds Try.pinned (OpenSpec.ofChange checkFalseWrong)

/-- 'casebooklaw23.CheckStale': WHATEVER THE INPUT: true; the input reads as it did. -/
def checkStaleSpec : ChangeSpec := { name := "checkStale", fn := fun _ => fun
  | [d1, d2] => { results := [.lit (.bool true)], args := [d1, d2] }
  | _ => none }
def checkStaleRow : OpenClaim := { program := "ytffahoocbjfdaaa", sum := "586b6a0878ea2edb9587a6f188a8f5c113f23e104ffed142b5c25e661df7739b", func := "casebook/casebooklaw23.CheckStale", spec := "checkStale", inPlace := ["slices.overlaps[int]", "slices.overlaps[[]casebook/api.Version]"], unfollowed := true, recurses := true, apart := false }
def CheckStaleSaid : Prop := checkStaleRow.holds Try.pinned (OpenSpec.ofChange checkStaleSpec)

/-- ITS FALSE NEIGHBOUR: 'it returns false'. Refute it at one input. -/
def checkStaleWrong : ChangeSpec := { name := "checkStale", fn := fun _ => fun
  | [d1, d2] => { results := [.lit (.bool false)], args := [d1, d2] }
  | _ => none }
def CheckStaleWrongFalsely : Prop := checkStaleRow.holds Try.pinned (OpenSpec.ofChange checkStaleWrong)

/-- 'casebooklaw23.CheckLate': WHATEVER THE INPUT: true; the input reads as it did. -/
def checkLateSpec : ChangeSpec := { name := "checkLate", fn := fun _ => fun
  | [d1, d2] => { results := [.lit (.bool true)], args := [d1, d2] }
  | _ => none }
def checkLateRow : OpenClaim := { program := "ytffahoocbjfdaaa", sum := "586b6a0878ea2edb9587a6f188a8f5c113f23e104ffed142b5c25e661df7739b", func := "casebook/casebooklaw23.CheckLate", spec := "checkLate", inPlace := ["slices.overlaps[int]", "slices.overlaps[[]casebook/api.Version]"], unfollowed := true, recurses := true, apart := false }
def CheckLateSaid : Prop := checkLateRow.holds Try.pinned (OpenSpec.ofChange checkLateSpec)

/-- ITS FALSE NEIGHBOUR: 'it returns false'. Refute it at one input. -/
def checkLateWrong : ChangeSpec := { name := "checkLate", fn := fun _ => fun
  | [d1, d2] => { results := [.lit (.bool false)], args := [d1, d2] }
  | _ => none }
def CheckLateWrongFalsely : Prop := checkLateRow.holds Try.pinned (OpenSpec.ofChange checkLateWrong)

/- THE SECOND FORM. 'bulk': how many values and letters a reading holds, each counted each time it is reached (what is shared counts as often as it is met; a slice's spare places count too). A statement '..UptoSaid' is the law's where the arguments, and the package variables that the reading takes, are together of bulk at most 1048576: NARROWER than '..Said'. Prove '..Said' where nothing that the law and all that it calls make is longer than what came in: it says more and counts as full. Else prove '..UptoSaid'. A law counts once. -/
mutual
def uptoBulk {H : Type} : DataW H → Nat
  | .lit (.string bytes) => bytes.length + 1
  | .lit _ => 1
  | .nil => 1
  | .ptr d => uptoBulk d + 1
  | .slice elems spare => uptoBulkAll elems + uptoBulkAll spare + 1
  | .agg parts => uptoBulkAll parts + 1
  | .iface _ d => uptoBulk d + 1
  | .map entries => uptoBulkEntries entries + 1
  | .held _ => 1
def uptoBulkAll {H : Type} : List (DataW H) → Nat
  | [] => 0
  | d :: r => uptoBulk d + uptoBulkAll r
def uptoBulkEntries {H : Type} : List (Lit × DataW H) → Nat
  | [] => 0
  | x :: r => uptoBulkEntry x + uptoBulkEntries r
def uptoBulkEntry {H : Type} : Lit × DataW H → Nat
  | (.string bytes, d) => bytes.length + uptoBulk d + 1
  | (_, d) => uptoBulk d + 1
 end
def uptoSmall : (H : Type) → List (DataW H) → Bool := fun _ ds => decide (uptoBulkAll ds ≤ 1048576)
def OpenSpec.upto (s : _root_.Go.ChangeSpec) : _root_.Go.OpenSpec := { _root_.Go.OpenSpec.ofChange s with cond := some uptoSmall }

/-- 'casebooklaw23.CheckFront', WHERE WHAT IT READS IS OF BULK AT MOST 1048576: true; the input reads as it did. -/
def checkFrontUptoRow : OpenClaim := { program := "ytffahoocbjfdaaa", sum := "586b6a0878ea2edb9587a6f188a8f5c113f23e104ffed142b5c25e661df7739b", func := "casebook/casebooklaw23.CheckFront", spec := "checkFront", inPlace := ["slices.overlaps[int]", "slices.overlaps[[]casebook/api.Version]"], unfollowed := true, recurses := true, apart := false, narrowed := true }
def CheckFrontUptoSaid : Prop := checkFrontUptoRow.holds Try.pinned (OpenSpec.upto checkFrontSpec)

/-- 'casebooklaw23.CheckAsks', WHERE WHAT IT READS IS OF BULK AT MOST 1048576: true; the input reads as it did. -/
def checkAsksUptoRow : OpenClaim := { program := "ytffahoocbjfdaaa", sum := "586b6a0878ea2edb9587a6f188a8f5c113f23e104ffed142b5c25e661df7739b", func := "casebook/casebooklaw23.CheckAsks", spec := "checkAsks", inPlace := ["slices.overlaps[int]", "slices.overlaps[[]casebook/api.Version]"], unfollowed := true, recurses := true, apart := false, narrowed := true }
def CheckAsksUptoSaid : Prop := checkAsksUptoRow.holds Try.pinned (OpenSpec.upto checkAsksSpec)

/-- 'casebooklaw23.CheckTrue', WHERE WHAT IT READS IS OF BULK AT MOST 1048576: true; the input reads as it did. -/
def checkTrueUptoRow : OpenClaim := { program := "ytffahoocbjfdaaa", sum := "586b6a0878ea2edb9587a6f188a8f5c113f23e104ffed142b5c25e661df7739b", func := "casebook/casebooklaw23.CheckTrue", spec := "checkTrue", inPlace := ["slices.overlaps[int]", "slices.overlaps[[]casebook/api.Version]"], unfollowed := true, recurses := true, apart := false, narrowed := true }
def CheckTrueUptoSaid : Prop := checkTrueUptoRow.holds Try.pinned (OpenSpec.upto checkTrueSpec)

/-- 'casebooklaw23.CheckFalse', WHERE WHAT IT READS IS OF BULK AT MOST 1048576: true; the input reads as it did. -/
def checkFalseUptoRow : OpenClaim := { program := "ytffahoocbjfdaaa", sum := "586b6a0878ea2edb9587a6f188a8f5c113f23e104ffed142b5c25e661df7739b", func := "casebook/casebooklaw23.CheckFalse", spec := "checkFalse", inPlace := ["slices.overlaps[int]", "slices.overlaps[[]casebook/api.Version]"], unfollowed := true, recurses := true, apart := false, narrowed := true }
def CheckFalseUptoSaid : Prop := checkFalseUptoRow.holds Try.pinned (OpenSpec.upto checkFalseSpec)

/-- 'casebooklaw23.CheckStale', WHERE WHAT IT READS IS OF BULK AT MOST 1048576: true; the input reads as it did. -/
def checkStaleUptoRow : OpenClaim := { program := "ytffahoocbjfdaaa", sum := "586b6a0878ea2edb9587a6f188a8f5c113f23e104ffed142b5c25e661df7739b", func := "casebook/casebooklaw23.CheckStale", spec := "checkStale", inPlace := ["slices.overlaps[int]", "slices.overlaps[[]casebook/api.Version]"], unfollowed := true, recurses := true, apart := false, narrowed := true }
def CheckStaleUptoSaid : Prop := checkStaleUptoRow.holds Try.pinned (OpenSpec.upto checkStaleSpec)

/-- 'casebooklaw23.CheckLate', WHERE WHAT IT READS IS OF BULK AT MOST 1048576: true; the input reads as it did. -/
def checkLateUptoRow : OpenClaim := { program := "ytffahoocbjfdaaa", sum := "586b6a0878ea2edb9587a6f188a8f5c113f23e104ffed142b5c25e661df7739b", func := "casebook/casebooklaw23.CheckLate", spec := "checkLate", inPlace := ["slices.overlaps[int]", "slices.overlaps[[]casebook/api.Version]"], unfollowed := true, recurses := true, apart := false, narrowed := true }
def CheckLateUptoSaid : Prop := checkLateUptoRow.holds Try.pinned (OpenSpec.upto checkLateSpec)

end Rows
end Go.Proofs.Ytffahoocbjfdaaa
