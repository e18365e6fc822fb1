/- casebooklaw4.ChartGrows: the walk, joined. -/
import Derived.Test.YtknpnigngcijjaaLGrowsU
import Derived.Test.YtknpnigngcijjaaLGrowsD
import Derived.Test.YtknpnigngcijjaaLGrowsR
namespace Go.Proofs.Ytknpnigngcijjaa
open Go.RowKit

theorem Grows_walk (A : Option Addr) (n cap : Nat) (vs : List Ver) (hl : n = vs.length) (hn : n ≤ 9223372036854775807) (q : ReqV) (ok : q.ok) (qt : Int) (w : World) (hV : Vers w A vs) :
    Calls Try.prog 4 #[.slice A n cap, .agg #[.int .i64 q.client, .int .i64 q.seq, .int .i64 q.kind, .int .i64 q.id, .int .i64 q.mat, .string q.data], .int .i64 qt] w fun e w' => e = .returned (.bool true) ∧ Old w w' := by
  obtain ⟨c, s, k, i, m, d⟩ := q
  have hm : In64 m := ok.2.2.2.2
  by_cases h1 : k = 1
  · subst h1; exact Grows_create A n cap vs hl hn c s i m qt d hm w hV
  · by_cases h2 : k = 2
    · subst h2; exact Grows_update A n cap vs hl hn c s i m qt d hm w hV
    · by_cases h3 : k = 3
      · subst h3; exact Grows_delete A n cap vs hl hn c s i m qt d hm w hV
      · exact Grows_reads A n cap vs hl hn c s k i m qt d hm w hV h1 h2 h3
end Go.Proofs.Ytknpnigngcijjaa
