/-
  No cell of these rows narrows 'for every input' (looked for: loops, veiled, ifaces, maps, wideKeys, modest, calm, conditions, laid).
  DERIVED. THE GIVEN ROWS OF THIS SEAT. 7 by the template 'for every input the law returns true; each argument reads behind the call as it read before'; 0 by the template 'total and deterministic' (their statements: YtcbnibldlbnkbaaTotals.lean).
  GIVEN WITH THE SEED: the statements are not yours to turn. If you find one false, say at which input.
  Laid BY PROGRAM, IN A SANDBOX (cutbox-rows.mjs): the forced cells as the released guide's own fill.sh prints them over the translation bc49d5f007f0a3d5… (all of the seat's roots in one cut). By AI agents, Wed Nov 11 2026. No macro, syntax, notation, axiom, sorry.
-/
import Derived.Test.YtcbnibldlbnkbaaChecked
import GoSem.Claim
import GoSem.ClaimJoined
import GoSem.ClaimMapViews
import Derived.JoinedTies
import Derived.KernelRfl
namespace Go.Proofs.Ytcbnibldlbnkbaa
/- THE CELL 'sum', in the pinned program and in every row, IS THE sha256 OF THE DUMP (.gsa) THAT YtcbnibldlbnkbaaProg.lean LOADS. Nothing in Lean hashes anything: it is a label: what it is worth is what the hold of that sum in a sandbox is worth. -/
noncomputable def Try.pinned : Pinned := { name := "ytcbnibldlbnkbaa", sum := "bc49d5f007f0a3d5070353569f41b47b563ff83c3df53a573230fa76141771c5", checked := Try.checked }
namespace Rows
def none {H : Type} : Left H := { results := [], args := [] }

/-- 'casebooklaw5.StoreApart': WHATEVER THE INPUT: true; the input reads as it did. -/
def storeApartSpec : ChangeSpec := { name := "storeApart", fn := fun _ => fun
  | [d1, d2] => { results := [.lit (.bool true)], args := [d1, d2] }
  | _ => none }
def storeApartRow : OpenClaim := { program := "ytcbnibldlbnkbaa", sum := "bc49d5f007f0a3d5070353569f41b47b563ff83c3df53a573230fa76141771c5", func := "casebook/casebooklaw5.StoreApart", spec := "storeApart", inPlace := ["slices.overlaps[int]", "slices.overlaps[[]casebook/api.Version]"], unfollowed := true, recurses := true, apart := false }
def StoreApartSaid : Prop := storeApartRow.holds Try.pinned (OpenSpec.ofChange storeApartSpec)

/-- ITS FALSE NEIGHBOUR: 'it returns false'. Refute it at one input. -/
def storeApartWrong : ChangeSpec := { name := "storeApart", fn := fun _ => fun
  | [d1, d2] => { results := [.lit (.bool false)], args := [d1, d2] }
  | _ => none }
def StoreApartWrongFalsely : Prop := storeApartRow.holds Try.pinned (OpenSpec.ofChange storeApartWrong)

/-- 'casebooklaw5.StoreOnce': WHATEVER THE INPUT: true; the input reads as it did. -/
def storeOnceSpec : ChangeSpec := { name := "storeOnce", fn := fun _ => fun
  | [d] => { results := [.lit (.bool true)], args := [d] }
  | _ => none }
def storeOnceRow : OpenClaim := { program := "ytcbnibldlbnkbaa", sum := "bc49d5f007f0a3d5070353569f41b47b563ff83c3df53a573230fa76141771c5", func := "casebook/casebooklaw5.StoreOnce", spec := "storeOnce", inPlace := ["slices.overlaps[int]", "slices.overlaps[[]casebook/api.Version]"], unfollowed := true, recurses := true, apart := false }
def StoreOnceSaid : Prop := storeOnceRow.holds Try.pinned (OpenSpec.ofChange storeOnceSpec)

/-- ITS FALSE NEIGHBOUR: 'it returns false'. Refute it at one input. -/
def storeOnceWrong : ChangeSpec := { name := "storeOnce", fn := fun _ => fun
  | [d] => { results := [.lit (.bool false)], args := [d] }
  | _ => none }
def StoreOnceWrongFalsely : Prop := storeOnceRow.holds Try.pinned (OpenSpec.ofChange storeOnceWrong)

/-- 'casebooklaw5.StoreFront': WHATEVER THE INPUT: true; the input reads as it did. -/
def storeFrontSpec : ChangeSpec := { name := "storeFront", fn := fun _ => fun
  | [d1, d2] => { results := [.lit (.bool true)], args := [d1, d2] }
  | _ => none }
def storeFrontRow : OpenClaim := { program := "ytcbnibldlbnkbaa", sum := "bc49d5f007f0a3d5070353569f41b47b563ff83c3df53a573230fa76141771c5", func := "casebook/casebooklaw5.StoreFront", spec := "storeFront", inPlace := ["slices.overlaps[int]", "slices.overlaps[[]casebook/api.Version]"], unfollowed := true, recurses := true, apart := false }
def StoreFrontSaid : Prop := storeFrontRow.holds Try.pinned (OpenSpec.ofChange storeFrontSpec)

/-- ITS FALSE NEIGHBOUR: 'it returns false'. Refute it at one input. -/
def storeFrontWrong : ChangeSpec := { name := "storeFront", fn := fun _ => fun
  | [d1, d2] => { results := [.lit (.bool false)], args := [d1, d2] }
  | _ => none }
def StoreFrontWrongFalsely : Prop := storeFrontRow.holds Try.pinned (OpenSpec.ofChange storeFrontWrong)

/-- 'casebooklaw5.StoreCopies': WHATEVER THE INPUT: true; the input reads as it did. -/
def storeCopiesSpec : ChangeSpec := { name := "storeCopies", fn := fun _ => fun
  | [d1, d2] => { results := [.lit (.bool true)], args := [d1, d2] }
  | _ => none }
def storeCopiesRow : OpenClaim := { program := "ytcbnibldlbnkbaa", sum := "bc49d5f007f0a3d5070353569f41b47b563ff83c3df53a573230fa76141771c5", func := "casebook/casebooklaw5.StoreCopies", spec := "storeCopies", inPlace := ["slices.overlaps[int]", "slices.overlaps[[]casebook/api.Version]"], unfollowed := true, recurses := true, apart := false }
def StoreCopiesSaid : Prop := storeCopiesRow.holds Try.pinned (OpenSpec.ofChange storeCopiesSpec)

/-- ITS FALSE NEIGHBOUR: 'it returns false'. Refute it at one input. -/
def storeCopiesWrong : ChangeSpec := { name := "storeCopies", fn := fun _ => fun
  | [d1, d2] => { results := [.lit (.bool false)], args := [d1, d2] }
  | _ => none }
def StoreCopiesWrongFalsely : Prop := storeCopiesRow.holds Try.pinned (OpenSpec.ofChange storeCopiesWrong)

/-- 'casebooklaw5.StorePlays': WHATEVER THE INPUT: true; the input reads as it did. -/
def storePlaysSpec : ChangeSpec := { name := "storePlays", fn := fun _ => fun
  | [d1, d2] => { results := [.lit (.bool true)], args := [d1, d2] }
  | _ => none }
def storePlaysRow : OpenClaim := { program := "ytcbnibldlbnkbaa", sum := "bc49d5f007f0a3d5070353569f41b47b563ff83c3df53a573230fa76141771c5", func := "casebook/casebooklaw5.StorePlays", spec := "storePlays", inPlace := ["slices.overlaps[int]", "slices.overlaps[[]casebook/api.Version]"], unfollowed := true, recurses := true, apart := false }
def StorePlaysSaid : Prop := storePlaysRow.holds Try.pinned (OpenSpec.ofChange storePlaysSpec)

/-- ITS FALSE NEIGHBOUR: 'it returns false'. Refute it at one input. -/
def storePlaysWrong : ChangeSpec := { name := "storePlays", fn := fun _ => fun
  | [d1, d2] => { results := [.lit (.bool false)], args := [d1, d2] }
  | _ => none }
def StorePlaysWrongFalsely : Prop := storePlaysRow.holds Try.pinned (OpenSpec.ofChange storePlaysWrong)

/-- 'casebooklaw5.StoreSame': WHATEVER THE INPUT: true; the input reads as it did. -/
def storeSameSpec : ChangeSpec := { name := "storeSame", fn := fun _ => fun
  | [d1, d2] => { results := [.lit (.bool true)], args := [d1, d2] }
  | _ => none }
def storeSameRow : OpenClaim := { program := "ytcbnibldlbnkbaa", sum := "bc49d5f007f0a3d5070353569f41b47b563ff83c3df53a573230fa76141771c5", func := "casebook/casebooklaw5.StoreSame", spec := "storeSame", inPlace := ["slices.overlaps[int]", "slices.overlaps[[]casebook/api.Version]"], unfollowed := true, recurses := true, apart := false }
def StoreSameSaid : Prop := storeSameRow.holds Try.pinned (OpenSpec.ofChange storeSameSpec)

/-- ITS FALSE NEIGHBOUR: 'it returns false'. Refute it at one input. -/
def storeSameWrong : ChangeSpec := { name := "storeSame", fn := fun _ => fun
  | [d1, d2] => { results := [.lit (.bool false)], args := [d1, d2] }
  | _ => none }
def StoreSameWrongFalsely : Prop := storeSameRow.holds Try.pinned (OpenSpec.ofChange storeSameWrong)

/-- 'casebooklaw5.StoreNobody': WHATEVER THE INPUT: true; the input reads as it did. -/
def storeNobodySpec : ChangeSpec := { name := "storeNobody", fn := fun _ => fun
  | [d] => { results := [.lit (.bool true)], args := [d] }
  | _ => none }
def storeNobodyRow : OpenClaim := { program := "ytcbnibldlbnkbaa", sum := "bc49d5f007f0a3d5070353569f41b47b563ff83c3df53a573230fa76141771c5", func := "casebook/casebooklaw5.StoreNobody", spec := "storeNobody", inPlace := ["slices.overlaps[int]", "slices.overlaps[[]casebook/api.Version]"], unfollowed := true, recurses := true, apart := false }
def StoreNobodySaid : Prop := storeNobodyRow.holds Try.pinned (OpenSpec.ofChange storeNobodySpec)

/-- ITS FALSE NEIGHBOUR: 'it returns false'. Refute it at one input. -/
def storeNobodyWrong : ChangeSpec := { name := "storeNobody", fn := fun _ => fun
  | [d] => { results := [.lit (.bool false)], args := [d] }
  | _ => none }
def StoreNobodyWrongFalsely : Prop := storeNobodyRow.holds Try.pinned (OpenSpec.ofChange storeNobodyWrong)

/- THE SECOND FORM. 'bulk': how many values and letters a reading holds, each counted each time it is reached (what is shared counts as often as it is met; a slice's spare places count too). A statement '..UptoSaid' is the law's where the arguments, and the package variables that the reading takes, are together of bulk at most 1048576: NARROWER than '..Said'. Prove '..Said' where nothing that the law and all that it calls make is longer than what came in: it says more and counts as full. Else prove '..UptoSaid'. A law counts once. -/
mutual
def uptoBulk {H : Type} : DataW H → Nat
  | .lit (.string bytes) => bytes.length + 1
  | .lit _ => 1
  | .nil => 1
  | .ptr d => uptoBulk d + 1
  | .slice elems spare => uptoBulkAll elems + uptoBulkAll spare + 1
  | .agg parts => uptoBulkAll parts + 1
  | .iface _ d => uptoBulk d + 1
  | .map entries => uptoBulkEntries entries + 1
  | .held _ => 1
def uptoBulkAll {H : Type} : List (DataW H) → Nat
  | [] => 0
  | d :: r => uptoBulk d + uptoBulkAll r
def uptoBulkEntries {H : Type} : List (Lit × DataW H) → Nat
  | [] => 0
  | x :: r => uptoBulkEntry x + uptoBulkEntries r
def uptoBulkEntry {H : Type} : Lit × DataW H → Nat
  | (.string bytes, d) => bytes.length + uptoBulk d + 1
  | (_, d) => uptoBulk d + 1
 end
def uptoSmall : (H : Type) → List (DataW H) → Bool := fun _ ds => decide (uptoBulkAll ds ≤ 1048576)
def OpenSpec.upto (s : _root_.Go.ChangeSpec) : _root_.Go.OpenSpec := { _root_.Go.OpenSpec.ofChange s with cond := some uptoSmall }

/-- 'casebooklaw5.StoreApart', WHERE WHAT IT READS IS OF BULK AT MOST 1048576: true; the input reads as it did. -/
def storeApartUptoRow : OpenClaim := { program := "ytcbnibldlbnkbaa", sum := "bc49d5f007f0a3d5070353569f41b47b563ff83c3df53a573230fa76141771c5", func := "casebook/casebooklaw5.StoreApart", spec := "storeApart", inPlace := ["slices.overlaps[int]", "slices.overlaps[[]casebook/api.Version]"], unfollowed := true, recurses := true, apart := false, narrowed := true }
def StoreApartUptoSaid : Prop := storeApartUptoRow.holds Try.pinned (OpenSpec.upto storeApartSpec)

/-- 'casebooklaw5.StoreOnce', WHERE WHAT IT READS IS OF BULK AT MOST 1048576: true; the input reads as it did. -/
def storeOnceUptoRow : OpenClaim := { program := "ytcbnibldlbnkbaa", sum := "bc49d5f007f0a3d5070353569f41b47b563ff83c3df53a573230fa76141771c5", func := "casebook/casebooklaw5.StoreOnce", spec := "storeOnce", inPlace := ["slices.overlaps[int]", "slices.overlaps[[]casebook/api.Version]"], unfollowed := true, recurses := true, apart := false, narrowed := true }
def StoreOnceUptoSaid : Prop := storeOnceUptoRow.holds Try.pinned (OpenSpec.upto storeOnceSpec)

/-- 'casebooklaw5.StoreFront', WHERE WHAT IT READS IS OF BULK AT MOST 1048576: true; the input reads as it did. -/
def storeFrontUptoRow : OpenClaim := { program := "ytcbnibldlbnkbaa", sum := "bc49d5f007f0a3d5070353569f41b47b563ff83c3df53a573230fa76141771c5", func := "casebook/casebooklaw5.StoreFront", spec := "storeFront", inPlace := ["slices.overlaps[int]", "slices.overlaps[[]casebook/api.Version]"], unfollowed := true, recurses := true, apart := false, narrowed := true }
def StoreFrontUptoSaid : Prop := storeFrontUptoRow.holds Try.pinned (OpenSpec.upto storeFrontSpec)

/-- 'casebooklaw5.StoreCopies', WHERE WHAT IT READS IS OF BULK AT MOST 1048576: true; the input reads as it did. -/
def storeCopiesUptoRow : OpenClaim := { program := "ytcbnibldlbnkbaa", sum := "bc49d5f007f0a3d5070353569f41b47b563ff83c3df53a573230fa76141771c5", func := "casebook/casebooklaw5.StoreCopies", spec := "storeCopies", inPlace := ["slices.overlaps[int]", "slices.overlaps[[]casebook/api.Version]"], unfollowed := true, recurses := true, apart := false, narrowed := true }
def StoreCopiesUptoSaid : Prop := storeCopiesUptoRow.holds Try.pinned (OpenSpec.upto storeCopiesSpec)

/-- 'casebooklaw5.StorePlays', WHERE WHAT IT READS IS OF BULK AT MOST 1048576: true; the input reads as it did. -/
def storePlaysUptoRow : OpenClaim := { program := "ytcbnibldlbnkbaa", sum := "bc49d5f007f0a3d5070353569f41b47b563ff83c3df53a573230fa76141771c5", func := "casebook/casebooklaw5.StorePlays", spec := "storePlays", inPlace := ["slices.overlaps[int]", "slices.overlaps[[]casebook/api.Version]"], unfollowed := true, recurses := true, apart := false, narrowed := true }
def StorePlaysUptoSaid : Prop := storePlaysUptoRow.holds Try.pinned (OpenSpec.upto storePlaysSpec)

/-- 'casebooklaw5.StoreSame', WHERE WHAT IT READS IS OF BULK AT MOST 1048576: true; the input reads as it did. -/
def storeSameUptoRow : OpenClaim := { program := "ytcbnibldlbnkbaa", sum := "bc49d5f007f0a3d5070353569f41b47b563ff83c3df53a573230fa76141771c5", func := "casebook/casebooklaw5.StoreSame", spec := "storeSame", inPlace := ["slices.overlaps[int]", "slices.overlaps[[]casebook/api.Version]"], unfollowed := true, recurses := true, apart := false, narrowed := true }
def StoreSameUptoSaid : Prop := storeSameUptoRow.holds Try.pinned (OpenSpec.upto storeSameSpec)

/-- 'casebooklaw5.StoreNobody', WHERE WHAT IT READS IS OF BULK AT MOST 1048576: true; the input reads as it did. -/
def storeNobodyUptoRow : OpenClaim := { program := "ytcbnibldlbnkbaa", sum := "bc49d5f007f0a3d5070353569f41b47b563ff83c3df53a573230fa76141771c5", func := "casebook/casebooklaw5.StoreNobody", spec := "storeNobody", inPlace := ["slices.overlaps[int]", "slices.overlaps[[]casebook/api.Version]"], unfollowed := true, recurses := true, apart := false, narrowed := true }
def StoreNobodyUptoSaid : Prop := storeNobodyUptoRow.holds Try.pinned (OpenSpec.upto storeNobodySpec)

end Rows
end Go.Proofs.Ytcbnibldlbnkbaa
