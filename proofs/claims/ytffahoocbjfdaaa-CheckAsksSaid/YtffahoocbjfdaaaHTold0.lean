/- chart.Do at any request. -/
import Derived.Test.YtffahoocbjfdaaaHDoC
import Derived.Test.YtffahoocbjfdaaaHDoU
import Derived.Test.YtffahoocbjfdaaaHDoD
namespace Go.Proofs.Ytffahoocbjfdaaa
open Go.RowKit
def doL (vs : List Ver) (k m quota : Int) (d : ByteArray) : List Ver := if k = 1 ∨ k = 2 ∨ k = 3 then (doR vs k m quota d).1 else vs
def doRep (vs : List Ver) (k m quota : Int) (d : ByteArray) : Rep := if k = 1 ∨ k = 2 ∨ k = 3 then ⟨(doR vs k m quota d).2.1, (doR vs k m quota d).2.2, ByteArray.empty, []⟩ else askR vs k m
theorem Do_any (A : Option Addr) (n cap : Nat) (vs : List Ver) (hn : n ≤ 100000) (hl : n = vs.length) (c s k i m quota : Int) (d : ByteArray) (w : World) (hV : Vers w A vs) (hm : -9223372036854775808 ≤ m) (hm2 : m ≤ 9223372036854775807) :
    Calls Try.prog 47 #[.slice A n cap, .agg #[.int .i64 c, .int .i64 s, .int .i64 k, .int .i64 i, .int .i64 m, .string d], .int .i64 quota] w fun e w' =>
      ∃ v u, e = .returned (.tuple #[v, u]) ∧ VersAt w w' v (doL vs k m quota d) ∧ RepAt w w' u (doRep vs k m quota d) ∧ Old w w' := by
  by_cases h1 : k = 1
  · subst h1; simpa [doL, doRep] using Do_create A n cap vs hn hl c s i m quota d w hV
  · by_cases h2 : k = 2
    · subst h2; simpa [doL, doRep] using Do_update A n cap vs hn hl c s i m quota d w hV
    · by_cases h3 : k = 3
      · subst h3; simpa [doL, doRep] using Do_delete A n cap vs hn hl c s i m quota d w hV
      · simpa [doL, doRep, h1, h2, h3] using Do_reads A n cap vs hn hl c s k i m quota d w hV hm hm2 h1 h2 h3
end Go.Proofs.Ytffahoocbjfdaaa
