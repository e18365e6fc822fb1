/- chart.Do at any request; casebooklaw4.told. -/
import Derived.Test.YtknpnigngcijjaaDoC
import Derived.Test.YtknpnigngcijjaaDoU
import Derived.Test.YtknpnigngcijjaaDoD
namespace Go.Proofs.Ytknpnigngcijjaa
open Go.RowKit

def doL (vs : List Ver) (k m quota : Int) (d : ByteArray) : List Ver := if k = 1 ∨ k = 2 ∨ k = 3 then (doR vs k m quota d).1 else vs
def doRep (vs : List Ver) (k m quota : Int) (d : ByteArray) : Rep := if k = 1 ∨ k = 2 ∨ k = 3 then ⟨(doR vs k m quota d).2.1, (doR vs k m quota d).2.2, ByteArray.empty, []⟩ else askR vs k m

theorem Do_any (A : Option Addr) (n cap : Nat) (vs : List Ver) (hn : n ≤ 100000) (hl : n = vs.length) (c s k i m quota : Int) (d : ByteArray) (w : World) (hV : Vers w A vs) (hm : -9223372036854775808 ≤ m) (hm2 : m ≤ 9223372036854775807) :
    Calls Try.prog 12 #[.slice A n cap, .agg #[.int .i64 c, .int .i64 s, .int .i64 k, .int .i64 i, .int .i64 m, .string d], .int .i64 quota] w fun e w' =>
      ∃ v u, e = .returned (.tuple #[v, u]) ∧ VersAt w w' v (doL vs k m quota d) ∧ RepAt w w' u (doRep vs k m quota d) ∧ Old w w' := by
  by_cases h1 : k = 1
  · subst h1; simpa [doL, doRep] using Do_create A n cap vs hn hl c s i m quota d w hV
  · by_cases h2 : k = 2
    · subst h2; simpa [doL, doRep] using Do_update A n cap vs hn hl c s i m quota d w hV
    · by_cases h3 : k = 3
      · subst h3; simpa [doL, doRep] using Do_delete A n cap vs hn hl c s i m quota d w hV
      · simpa [doL, doRep, h1, h2, h3] using Do_reads A n cap vs hn hl c s k i m quota d w hV hm hm2 h1 h2 h3

/-- chart.Do, its outcome named ahead -/
theorem Do_at' (L : List Ver) (R : Rep) (A : Option Addr) (n cap : Nat) (vs : List Ver) (hn : n ≤ 100000) (hl : n = vs.length) (c s k i m quota : Int) (d : ByteArray) (w : World) (hV : Vers w A vs) (hm : -9223372036854775808 ≤ m) (hm2 : m ≤ 9223372036854775807)
    (hL : doL vs k m quota d = L) (hR : doRep vs k m quota d = R) (nL nR : Nat) (h1 : L.length = nL) (h2 : R.vs.length = nR) :
    Calls Try.prog 12 #[.slice A n cap, .agg #[.int .i64 c, .int .i64 s, .int .i64 k, .int .i64 i, .int .i64 m, .string d], .int .i64 quota] w fun e w' =>
      ∃ A1 c1 A2 c2, e = .returned (.tuple #[.slice A1 nL c1, .agg #[.int .i64 R.code, .int .i64 R.ver, .string R.data, .slice A2 nR c2]]) ∧ Vers w' A1 L ∧ IntsAt w' A2 R.vs ∧ Old w w' ∧ nL ≤ c1 := by
  subst hL hR h1 h2
  refine (Do_any A n cap vs hn hl c s k i m quota d w hV hm hm2).mono ?_
  rintro e w' ⟨v, u, rfl, ⟨A1, c1, rfl, hv, _, hc⟩, ⟨A2, c2, rfl, hi, _⟩, hb⟩
  exact ⟨A1, c1, A2, c2, rfl, hv, hi, hb, hc⟩
theorem Do_at (L : List Ver) (R : Rep) (A : Option Addr) (n cap : Nat) (vs : List Ver) (hn : n ≤ 100000) (hl : n = vs.length) (c s k i m quota : Int) (d : ByteArray) (w : World) (hV : Vers w A vs) (hm : -9223372036854775808 ≤ m) (hm2 : m ≤ 9223372036854775807)
    (hL : doL vs k m quota d = L) (hR : doRep vs k m quota d = R) (nL nR : Nat) (h1 : L.length = nL) (h2 : R.vs.length = nR) :
    Calls Try.prog 12 #[.slice A n cap, .agg #[.int .i64 c, .int .i64 s, .int .i64 k, .int .i64 i, .int .i64 m, .string d], .int .i64 quota] w fun e w' =>
      ∃ A1 c1 A2 c2, e = .returned (.tuple #[.slice A1 nL c1, .agg #[.int .i64 R.code, .int .i64 R.ver, .string R.data, .slice A2 nR c2]]) ∧ Vers w' A1 L ∧ IntsAt w' A2 R.vs ∧ Old w w' :=
  (Do_at' L R A n cap vs hn hl c s k i m quota d w hV hm hm2 hL hR nL nR h1 h2).mono fun _ _ ⟨A1, c1, A2, c2, he, hv, hi, hb, _⟩ => ⟨A1, c1, A2, c2, he, hv, hi, hb⟩
theorem Ask_at (R : Rep) (A : Option Addr) (n cap : Nat) (vs : List Ver) (hn : n ≤ 100000) (hl : n = vs.length) (c s k i m : Int) (d : ByteArray) (w : World) (hV : Vers w A vs) (hm : -9223372036854775808 ≤ m) (hm2 : m ≤ 9223372036854775807)
    (hR : askR vs k m = R) (nR : Nat) (h2 : R.vs.length = nR) :
    Calls Try.prog 16 #[.slice A n cap, .agg #[.int .i64 c, .int .i64 s, .int .i64 k, .int .i64 i, .int .i64 m, .string d]] w fun e w' =>
      ∃ A2 c2, e = .returned (.agg #[.int .i64 R.code, .int .i64 R.ver, .string R.data, .slice A2 nR c2]) ∧ IntsAt w' A2 R.vs ∧ Old w w' := by
  subst hR h2
  refine (Ask_any A n cap vs hn hl c s k i m d w hV hm hm2).mono ?_
  rintro e w' ⟨u, rfl, ⟨A2, c2, rfl, hi, _⟩, hb⟩
  exact ⟨A2, c2, rfl, hi, hb⟩

def bA : ByteArray := { data := #[97] }

set_option maxRecDepth 100000 in
set_option maxHeartbeats 2000000 in
theorem told_any (w : World) : Calls Try.prog 11 #[] w fun e w' => e = .returned (.bool true) ∧ Old w w' := by
  have e1 : doL [] 1 0 5 bA = [(false, bA)] := by simp [doL, doR]
  have r1 : doRep [] 1 0 5 bA = ⟨1, 1, ByteArray.empty, []⟩ := by simp [doRep, doR]
  have e2 : doL [(false, bA)] 3 1 5 ByteArray.empty = [(false, bA), (true, ByteArray.empty)] := by simp [doL, doR, lastV]
  have r2 : doRep [(false, bA)] 3 1 5 ByteArray.empty = ⟨1, 2, ByteArray.empty, []⟩ := by simp [doRep, doR, lastV]
  have e3 : doL [(false, bA), (true, ByteArray.empty)] 2 0 5 ByteArray.empty = [(false, bA), (true, ByteArray.empty)] := by simp [doL, doR, lastV]
  have r3 : doRep [(false, bA), (true, ByteArray.empty)] 2 0 5 ByteArray.empty = ⟨3, 2, ByteArray.empty, []⟩ := by simp [doRep, doR, lastV]
  have r4 : askR [(false, bA), (true, ByteArray.empty)] 6 0 = ⟨1, 2, ByteArray.empty, [1, -2]⟩ := by
    have : histL [(false, bA), (true, ByteArray.empty)] = [1, -2] := by simp [histL, backL, List.range_succ, histOf, wrap64]
    simp [askR, this]
  have c1 := hide (fun (W : World) => Do_at _ _ none 0 0 [] (by omega) rfl 0 0 1 0 0 5 bA W (CellsAt.nil _ _) (by omega) (by omega) e1 r1 1 0 rfl rfl)
  have c2 := hide (fun (A : Option Addr) (cap : Nat) (W : World) (h : Vers W A [(false, bA)]) => Do_at _ _ A 1 cap [(false, bA)] (by omega) rfl 0 0 3 0 1 5 ByteArray.empty W h (by omega) (by omega) e2 r2 2 0 rfl rfl)
  have c3 := hide (fun (A : Option Addr) (cap : Nat) (W : World) (h : Vers W A [(false, bA), (true, ByteArray.empty)]) => Do_at _ _ A 2 cap [(false, bA), (true, ByteArray.empty)] (by omega) rfl 0 0 2 0 0 5 ByteArray.empty W h (by omega) (by omega) e3 r3 2 0 rfl rfl)
  have c4 := hide (fun (A : Option Addr) (cap : Nat) (W : World) (h : Vers W A [(false, bA), (true, ByteArray.empty)]) => Ask_at _ A 2 cap [(false, bA), (true, ByteArray.empty)] (by omega) rfl 0 0 6 0 0 ByteArray.empty W h (by omega) (by omega) r4 2 rfl)
  clear e1 e2 e3 r1 r2 r3 r4
  go_enter Try.func11, Try.ntmps11
  go_wp2_with fail
  refine (c1.out _).mono ?_
  rintro e w1 ⟨A1, k1, A1', k1', rfl, hv1, -, hb1⟩
  go_wp2_with fail
  refine (c2.out _ _ _ (CellsAt.alloc hv1 _)).mono ?_
  rintro e w2 ⟨A2, k2, A2', k2', rfl, hv2, -, hb2⟩
  go_wp2_with fail
  refine (c3.out _ _ _ (CellsAt.alloc hv2 _)).mono ?_
  rintro e w3 ⟨A3, k3, A3', k3', rfl, -, -, hb3⟩
  go_wp2_with fail
  have hv3 := CellsAt.alloc (CellsAt.old (CellsAt.alloc hv2 (.cells #[.int .i64 1, .int .i64 2, .string ByteArray.empty, .slice A2' 0 k2'] 29)) hb3) (.cells #[.int .i64 3, .int .i64 2, .string ByteArray.empty, .slice A3' 0 k3'] 29)
  refine (c4.out _ _ _ hv3).mono ?_
  rintro e w4 ⟨A4, k4, rfl, hi4, hb4⟩
  obtain ⟨b, o, rfl, hbb, -, -⟩ := Vers.at_ hv3 (k := 1) (by simp)
  obtain ⟨b', o', e', hb', g1, g2⟩ := Vers.at_ (CellsAt.old hv3 hb4) (k := 1) (by simp)
  injection e' with e'
  injection e' with e1 e2 _
  subst e1 e2
  obtain ⟨b'', o'', rfl, hb'', g3⟩ := IntsAt.at_ hi4 (k := 1) (by simp)
  simp at g1 g2 g3
  have s1 := hb1.size
  have s2 := hb2.size
  have s3 := hb3.size
  have s4 := hb4.size
  simp at s2 s3 s4
  obtain ⟨x2, -⟩ := bcell hb2
  obtain ⟨x3, -⟩ := bcell hb3
  obtain ⟨x4, -⟩ := bcell hb4
  have q1 : w4.cell? ⟨w1.heap.size, 0, none⟩ = some (.int .i64 1) := by rw [x4 _ _ (by simp; omega)]; simp [go_sem, x3, x2, show w1.heap.size < w3.heap.size from by omega, show w1.heap.size < w2.heap.size from by omega]
  have q2 : w4.cell? ⟨w1.heap.size, 1, none⟩ = some (.int .i64 1) := by rw [x4 _ _ (by simp; omega)]; simp [go_sem, x3, x2, show w1.heap.size < w3.heap.size from by omega, show w1.heap.size < w2.heap.size from by omega]
  have q3 : w4.cell? ⟨w2.heap.size, 1, none⟩ = some (.int .i64 2) := by rw [x4 _ _ (by simp; omega)]; simp [go_sem, x3, show w2.heap.size < w3.heap.size from by omega]
  have q4 : w4.cell? ⟨w3.heap.size, 0, none⟩ = some (.int .i64 3) := by rw [x4 _ _ (by simp)]; simp [go_sem]
  have z1 : w1.heap.size < w4.heap.size := by omega
  have z2 : w2.heap.size < w4.heap.size := by omega
  have z3 : w3.heap.size < w4.heap.size := by omega
  clear x2 x3 x4 hv1 hv2 hv3 hi4 c1 c2 c3 c4
  go_wp2
  go_ret
  refine ⟨rfl, ?_⟩
  repeat (first | with_reducible refine Old.alloc' ?_ _ | with_reducible refine Old.trans' ?_ hb4 | with_reducible refine Old.trans' ?_ hb3 | with_reducible refine Old.trans' ?_ hb2 | with_reducible exact hb1)
end Go.Proofs.Ytknpnigngcijjaa
