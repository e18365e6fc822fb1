/- casebooklaw4.ChartGrows: the walk, the reads. -/
import Derived.Test.YtknpnigngcijjaaLGrows
namespace Go.Proofs.Ytknpnigngcijjaa
open Go.RowKit

set_option maxRecDepth 100000 in
set_option maxHeartbeats 4000000 in
theorem Grows_reads (A : Option Addr) (n cap : Nat) (vs : List Ver) (hl : n = vs.length) (hn : n ≤ 9223372036854775807) (c s k i m qt : Int) (d : ByteArray) (hm : In64 m) (w : World) (hV : Vers w A vs) (h1 : k ≠ 1) (h2 : k ≠ 2) (h3 : k ≠ 3) :
    Calls Try.prog 4 #[.slice A n cap, .agg #[.int .i64 c, .int .i64 s, .int .i64 k, .int .i64 i, .int .i64 m, .string d], .int .i64 qt] w fun e w' => e = .returned (.bool true) ∧ Old w w' := by
  have cF := hide (fun (W : World) (h : Vers W A vs) => few_any A n cap vs hl hn c s k i m d W h)
  obtain ⟨f, hf⟩ : ∃ f, f = fewB vs d := ⟨_, rfl⟩
  rw [← hf] at cF
  have HF := hide hf
  have HL := hide hl
  have HM := hide hm
  clear hf hl hn hm
  obtain ⟨y, hy, hy0, hy1⟩ := umod qt 100 (by omega) (by omega)
  have b1 : (k == 1) = false := by simpa using h1
  have b2 : (k == 2) = false := by simpa using h2
  have b3 : (k == 3) = false := by simpa using h3
  cases f
  · go_enter Try.func4, Try.ntmps4
    go_wp2_with (first | (go_at_call 10; with_reducible refine (cF.out _ (hV.alloc _)).mono ?_; rintro e w1 ⟨rfl, hb1⟩; obtain ⟨x1, -⟩ := bcell hb1; have z1 : w.heap.size < w1.heap.size := (by have := hb1.size; simp at this; omega)) | (go_at_call 11; refine (told_any _).mono ?_; rintro e w9 ⟨rfl, hb9⟩; obtain ⟨x9, -⟩ := bcell hb9; skip))
    go_ret
    exact ⟨rfl, (((Old.refl' w).alloc' _).trans' hb1).trans' hb9⟩
  · have hn60 : n ≤ 60 := by have := few_len HF.out.symm; have := HL.out; omega
    have cV := hide (fun (A1 : Option Addr) (c1 : Nat) (W : World) (h : Vers W A1 vs) (h2 : Vers W A vs) => Versions_any A1 A n n vs vs c1 cap W h h2 HL.out HL.out (by omega) (by omega))
    rw [decide_eq_true (rfl : vs = vs)] at cV
    obtain ⟨R, hR⟩ : ∃ R, askR vs k m = R := ⟨_, rfl⟩
    have cD := hide (fun (W : World) (h : Vers W A vs) => Do_at' vs R A n cap vs (by omega) HL.out c s k i m (1 + y) d W h HM.out.1 HM.out.2 (by simp [doL, h1, h2, h3]) (by simp [doRep, h1, h2, h3, hR]) n R.vs.length HL.out.symm rfl)
    clear hR
    obtain ⟨rc, rv, rd, rvs⟩ := R
    simp only at cD
    go_enter Try.func4, Try.ntmps4
    go_wp2_with (first | (go_at_call 10; with_reducible refine (cF.out _ (hV.alloc _)).mono ?_; rintro e w1 ⟨rfl, hb1⟩; obtain ⟨x1, -⟩ := bcell hb1; have z1 : w.heap.size < w1.heap.size := (by have := hb1.size; simp at this; omega)) | (go_at_call 12; with_reducible refine (cD.out _ ((hV.alloc _).old hb1)).mono ?_; rintro e w2 ⟨A1, c1, A2, c2, rfl, hv2, hi2, hb2, hc1⟩; obtain ⟨x2, -⟩ := bcell hb2; have z2 : w.heap.size < w2.heap.size := (by have := hb2.size; omega)) | (go_at_call 14; go_must (with_reducible refine (cV.out A1 _ _ (hv2.alloc _) ((((hV.alloc _).old hb1).old hb2).alloc _)).mono ?_); rintro e w3 ⟨rfl, hb3⟩; obtain ⟨x3, -⟩ := bcell hb3; have z3 : w2.heap.size < w3.heap.size := (by have := hb3.size; simp at this; omega); have z4 : w.heap.size < w3.heap.size := (by omega)))
    have B3 := (Bk.new w2 29 #[.int .i64 rc, .int .i64 rv, .string rd, .slice A2 rvs.length c2]).old hb3
    go_quiet (fail)
    go_wp2_with (first | (go_at_call 11; refine (told_any _).mono ?_; rintro e w9 ⟨rfl, hb9⟩; obtain ⟨x9, -⟩ := bcell hb9))
    go_ret
    exact ⟨rfl, ((((((Old.refl' w).alloc' _).trans' hb1).trans' hb2).alloc' _).trans' hb3).drewN' _ |>.trans' hb9⟩

end Go.Proofs.Ytknpnigngcijjaa
