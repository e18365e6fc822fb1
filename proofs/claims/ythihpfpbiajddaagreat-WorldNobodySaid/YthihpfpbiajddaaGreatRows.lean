/-
  No cell of these rows narrows 'for every input' (looked for: loops, veiled, ifaces, maps, wideKeys, modest, calm, conditions, laid).
  DERIVED. THE GIVEN ROWS OF THIS SEAT. 3 by the template 'for every input the law returns true; each argument reads behind the call as it read before'; 0 by the template 'total and deterministic' (their statements: YthihpfpbiajddaaGreatTotals.lean).
  GIVEN WITH THE SEED: the statements are not yours to turn. If you find one false, say at which input.
  Laid BY PROGRAM, IN A SANDBOX (cutbox-rows.mjs): the forced cells as the released guide's own fill.sh prints them over the translation c6536ff9818e5afe… (all of the seat's roots in one cut). By AI agents, Wed Nov 11 2026. No macro, syntax, notation, axiom, sorry.
-/
import Derived.Test.YthihpfpbiajddaaGreatChecked
import GoSem.Claim
import GoSem.ClaimJoined
import GoSem.ClaimMapViews
import Derived.JoinedTies
import Derived.KernelRfl
namespace Go.Proofs.YthihpfpbiajddaaGreat
/- THE CELL 'sum', in the pinned program and in every row, IS THE sha256 OF THE DUMP (.gsa) THAT YthihpfpbiajddaaGreatProg.lean LOADS. Nothing in Lean hashes anything: it is a label: what it is worth is what the hold of that sum in a sandbox is worth. -/
noncomputable def Tryz.pinned : Pinned := { name := "ythihpfpbiajddaagreat", sum := "c6536ff9818e5afe3eba3db747e036ace16809239ebc256baf4a4ef664d41189", checked := Tryz.checked }
namespace Rows
def none {H : Type} : Left H := { results := [], args := [] }

/-- 'casebooklaw25.WorldClocks': WHATEVER THE INPUT: true; the input reads as it did. -/
def worldClocksSpec : ChangeSpec := { name := "worldClocks", fn := fun _ => fun
  | [d1, d2] => { results := [.lit (.bool true)], args := [d1, d2] }
  | _ => none }
def worldClocksRow : OpenClaim := { program := "ythihpfpbiajddaagreat", sum := "c6536ff9818e5afe3eba3db747e036ace16809239ebc256baf4a4ef664d41189", func := "casebook/casebooklaw25.WorldClocks", spec := "worldClocks", inPlace := ["slices.overlaps[int]", "slices.overlaps[[]casebook/api.Version]"], unfollowed := true, recurses := true, plainKeys := false, apart := false }
def WorldClocksSaid : Prop := worldClocksRow.holds Tryz.pinned (OpenSpec.ofChange worldClocksSpec)

/-- ITS FALSE NEIGHBOUR: 'it returns false'. Refute it at one input. -/
def worldClocksWrong : ChangeSpec := { name := "worldClocks", fn := fun _ => fun
  | [d1, d2] => { results := [.lit (.bool false)], args := [d1, d2] }
  | _ => none }
def WorldClocksWrongFalsely : Prop := worldClocksRow.holds Tryz.pinned (OpenSpec.ofChange worldClocksWrong)

/-- 'casebooklaw25.WorldAsks': WHATEVER THE INPUT: true; the input reads as it did. -/
def worldAsksSpec : ChangeSpec := { name := "worldAsks", fn := fun _ => fun
  | [d1, d2] => { results := [.lit (.bool true)], args := [d1, d2] }
  | _ => none }
def worldAsksRow : OpenClaim := { program := "ythihpfpbiajddaagreat", sum := "c6536ff9818e5afe3eba3db747e036ace16809239ebc256baf4a4ef664d41189", func := "casebook/casebooklaw25.WorldAsks", spec := "worldAsks", inPlace := ["slices.overlaps[int]", "slices.overlaps[[]casebook/api.Version]"], unfollowed := true, recurses := true, plainKeys := false, apart := false }
def WorldAsksSaid : Prop := worldAsksRow.holds Tryz.pinned (OpenSpec.ofChange worldAsksSpec)

/-- ITS FALSE NEIGHBOUR: 'it returns false'. Refute it at one input. -/
def worldAsksWrong : ChangeSpec := { name := "worldAsks", fn := fun _ => fun
  | [d1, d2] => { results := [.lit (.bool false)], args := [d1, d2] }
  | _ => none }
def WorldAsksWrongFalsely : Prop := worldAsksRow.holds Tryz.pinned (OpenSpec.ofChange worldAsksWrong)

/-- 'casebooklaw25.WorldNobody': WHATEVER THE INPUT: true; the input reads as it did. -/
def worldNobodySpec : ChangeSpec := { name := "worldNobody", fn := fun _ => fun
  | [d1, d2, d3] => { results := [.lit (.bool true)], args := [d1, d2, d3] }
  | _ => none }
def worldNobodyRow : OpenClaim := { program := "ythihpfpbiajddaagreat", sum := "c6536ff9818e5afe3eba3db747e036ace16809239ebc256baf4a4ef664d41189", func := "casebook/casebooklaw25.WorldNobody", spec := "worldNobody", inPlace := ["slices.overlaps[int]", "slices.overlaps[[]casebook/api.Version]"], unfollowed := true, recurses := true, plainKeys := false, apart := false }
def WorldNobodySaid : Prop := worldNobodyRow.holds Tryz.pinned (OpenSpec.ofChange worldNobodySpec)

/-- ITS FALSE NEIGHBOUR: 'it returns false'. Refute it at one input. -/
def worldNobodyWrong : ChangeSpec := { name := "worldNobody", fn := fun _ => fun
  | [d1, d2, d3] => { results := [.lit (.bool false)], args := [d1, d2, d3] }
  | _ => none }
def WorldNobodyWrongFalsely : Prop := worldNobodyRow.holds Tryz.pinned (OpenSpec.ofChange worldNobodyWrong)

/- THE SECOND FORM. 'bulk': how many values and letters a reading holds, each counted each time it is reached (what is shared counts as often as it is met; a slice's spare places count too). A statement '..UptoSaid' is the law's where the arguments, and the package variables that the reading takes, are together of bulk at most 1048576: NARROWER than '..Said'. Prove '..Said' where nothing that the law and all that it calls make is longer than what came in: it says more and counts as full. Else prove '..UptoSaid'. A law counts once. -/
mutual
def uptoBulk {H : Type} : DataW H → Nat
  | .lit (.string bytes) => bytes.length + 1
  | .lit _ => 1
  | .nil => 1
  | .ptr d => uptoBulk d + 1
  | .slice elems spare => uptoBulkAll elems + uptoBulkAll spare + 1
  | .agg parts => uptoBulkAll parts + 1
  | .iface _ d => uptoBulk d + 1
  | .map entries => uptoBulkEntries entries + 1
  | .held _ => 1
def uptoBulkAll {H : Type} : List (DataW H) → Nat
  | [] => 0
  | d :: r => uptoBulk d + uptoBulkAll r
def uptoBulkEntries {H : Type} : List (Lit × DataW H) → Nat
  | [] => 0
  | x :: r => uptoBulkEntry x + uptoBulkEntries r
def uptoBulkEntry {H : Type} : Lit × DataW H → Nat
  | (.string bytes, d) => bytes.length + uptoBulk d + 1
  | (_, d) => uptoBulk d + 1
 end
def uptoSmall : (H : Type) → List (DataW H) → Bool := fun _ ds => decide (uptoBulkAll ds ≤ 1048576)
def OpenSpec.upto (s : _root_.Go.ChangeSpec) : _root_.Go.OpenSpec := { _root_.Go.OpenSpec.ofChange s with cond := some uptoSmall }

/-- 'casebooklaw25.WorldClocks', WHERE WHAT IT READS IS OF BULK AT MOST 1048576: true; the input reads as it did. -/
def worldClocksUptoRow : OpenClaim := { program := "ythihpfpbiajddaagreat", sum := "c6536ff9818e5afe3eba3db747e036ace16809239ebc256baf4a4ef664d41189", func := "casebook/casebooklaw25.WorldClocks", spec := "worldClocks", inPlace := ["slices.overlaps[int]", "slices.overlaps[[]casebook/api.Version]"], unfollowed := true, recurses := true, plainKeys := false, apart := false, narrowed := true }
def WorldClocksUptoSaid : Prop := worldClocksUptoRow.holds Tryz.pinned (OpenSpec.upto worldClocksSpec)

/-- 'casebooklaw25.WorldAsks', WHERE WHAT IT READS IS OF BULK AT MOST 1048576: true; the input reads as it did. -/
def worldAsksUptoRow : OpenClaim := { program := "ythihpfpbiajddaagreat", sum := "c6536ff9818e5afe3eba3db747e036ace16809239ebc256baf4a4ef664d41189", func := "casebook/casebooklaw25.WorldAsks", spec := "worldAsks", inPlace := ["slices.overlaps[int]", "slices.overlaps[[]casebook/api.Version]"], unfollowed := true, recurses := true, plainKeys := false, apart := false, narrowed := true }
def WorldAsksUptoSaid : Prop := worldAsksUptoRow.holds Tryz.pinned (OpenSpec.upto worldAsksSpec)

/-- 'casebooklaw25.WorldNobody', WHERE WHAT IT READS IS OF BULK AT MOST 1048576: true; the input reads as it did. -/
def worldNobodyUptoRow : OpenClaim := { program := "ythihpfpbiajddaagreat", sum := "c6536ff9818e5afe3eba3db747e036ace16809239ebc256baf4a4ef664d41189", func := "casebook/casebooklaw25.WorldNobody", spec := "worldNobody", inPlace := ["slices.overlaps[int]", "slices.overlaps[[]casebook/api.Version]"], unfollowed := true, recurses := true, plainKeys := false, apart := false, narrowed := true }
def WorldNobodyUptoSaid : Prop := worldNobodyUptoRow.holds Tryz.pinned (OpenSpec.upto worldNobodySpec)

end Rows
end Go.Proofs.YthihpfpbiajddaaGreat
