/- casebooklaw4.ChartGrows: the walk, Grows_update. -/
import Derived.Test.YtknpnigngcijjaaLGrows
namespace Go.Proofs.Ytknpnigngcijjaa
open Go.RowKit

set_option maxRecDepth 100000 in
set_option maxHeartbeats 4000000 in
theorem Grows_update (A : Option Addr) (n cap : Nat) (vs : List Ver) (hl : n = vs.length) (hn : n ≤ 9223372036854775807) (c s i m qt : Int) (d : ByteArray) (hm : In64 m) (w : World) (hV : Vers w A vs) :
    Calls Try.prog 4 #[.slice A n cap, .agg #[.int .i64 c, .int .i64 s, .int .i64 2, .int .i64 i, .int .i64 m, .string d], .int .i64 qt] w fun e w' => e = .returned (.bool true) ∧ Old w w' := by
  have cF := hide (fun (W : World) (h : Vers W A vs) => few_any A n cap vs hl hn c s 2 i m d W h)
  obtain ⟨f, hf⟩ : ∃ f, f = fewB vs d := ⟨_, rfl⟩
  rw [← hf] at cF
  have HF := hide hf
  have HL := hide hl
  have HM := hide hm
  clear hf hl hn hm
  obtain ⟨y, hy, hy0, hy1⟩ := umod qt 100 (by omega) (by omega)
  cases f
  · go_enter Try.func4, Try.ntmps4
    go_wp2_with (first | (go_at_call 10; with_reducible refine (cF.out _ (hV.alloc _)).mono ?_; rintro e w1 ⟨rfl, hb1⟩; obtain ⟨x1, -⟩ := bcell hb1; have z1 : w.heap.size < w1.heap.size := (by have := hb1.size; simp at this; omega)) | (go_at_call 11; refine (told_any _).mono ?_; rintro e w9 ⟨rfl, hb9⟩; obtain ⟨x9, -⟩ := bcell hb9; skip))
    go_ret
    exact ⟨rfl, (((Old.refl' w).alloc' _).trans' hb1).trans' hb9⟩
  · have hn60 : n ≤ 60 := by have := few_len HF.out.symm; have := HL.out; omega
    have cV := hide (fun (A1 : Option Addr) (c1 : Nat) (W : World) (h : Vers W A1 vs) (h2 : Vers W A vs) => Versions_any A1 A n n vs vs c1 cap W h h2 HL.out HL.out (by omega) (by omega))
    rw [decide_eq_true (rfl : vs = vs)] at cV
    rcases do_cases vs 2 m (1 + y) d (by omega) with ⟨D, R, hq⟩ | ⟨D, cc, cv, R, hcc⟩
    · simp only [newV, show ¬ ((2 : Int) = 3) from by omega, if_false] at D
      have hq' : (n : Int) < 1 + y := by have := HL.out; omega
      have cD := hide (fun (W : World) (h : Vers W A vs) => Do_at' _ _ A n cap vs (by omega) HL.out c s 2 i m (1 + y) d W h HM.out.1 HM.out.2 D R (n + 1) 0 (by simp [HL.out]) rfl)
      have cA := hide (fun (A1 : Option Addr) (c1 : Nat) (W : World) (h : Vers W A1 (vs ++ [(false, d)])) => Ask_at _ A1 (n + 1) c1 (vs ++ [(false, d)]) (by omega) (by simp [HL.out]) 0 0 4 0 0 { data := #[] } W h (by omega) (by omega) (ask_last vs (false, d)) 0 rfl)
      rw [← HL.out] at cD cA
      simp only [Bool.false_eq_true, if_false] at cA
      clear D R hq
      go_enter Try.func4, Try.ntmps4
      go_wp2_with (first | (go_at_call 10; with_reducible refine (cF.out _ (hV.alloc _)).mono ?_; rintro e w1 ⟨rfl, hb1⟩; obtain ⟨x1, -⟩ := bcell hb1; have z1 : w.heap.size < w1.heap.size := (by have := hb1.size; simp at this; omega)) | (go_at_call 12; with_reducible refine (cD.out _ ((hV.alloc _).old hb1)).mono ?_; rintro e w2 ⟨A1, c1, A2, c2, rfl, hv2, hi2, hb2, hc1⟩; obtain ⟨x2, -⟩ := bcell hb2; have z2 : w.heap.size < w2.heap.size := (by have := hb2.size; omega)) | (go_at_call 14; go_must (with_reducible refine (cV.out A1 _ _ ((hv2.alloc _).left) ((((hV.alloc _).old hb1).old hb2).alloc _)).mono ?_); rintro e w3 ⟨rfl, hb3⟩; obtain ⟨x3, -⟩ := bcell hb3; have z3 : w2.heap.size < w3.heap.size := (by have := hb3.size; simp at this; omega); have z4 : w.heap.size < w3.heap.size := (by omega)))
      obtain ⟨b, o, rfl, hbb, g1, g2⟩ := ((hv2.alloc (.cells #[.int .i64 1, .int .i64 ((n : Int) + 1), .string ByteArray.empty, .slice A2 0 c2] 29)).old hb3).at_ (k := n) (by simp [HL.out])
      have HH := HL.out
      simp [HH] at g1 g2
      rw [← HH] at g1 g2
      clear HH
      have hmx : decide (max (1 + y) (n : Int) < (n : Int) + 1) = false := by simp; omega
      have hi0 : (0 : Int) ≤ (n : Int) := by omega
      have hi1 : (n : Int) < (n : Int) + 1 := by omega
      have hi2 : (n : Int) < ((n + 1 : Nat) : Int) := by omega
      have hmx3 : decide (1 + y < (n : Int) + 1) = false := by simp; omega
      have hmx2 : decide ((if 1 + y < (n : Int) then (n : Int) else 1 + y) < (n : Int) + 1) = false := by simp; split <;> omega
      have hv3 := hide ((hv2.alloc (.cells #[.int .i64 1, .int .i64 ((n : Int) + 1), .string ByteArray.empty, .slice A2 0 c2] 29)).old hb3)
      have B3 := (Bk.new w2 29 #[.int .i64 1, .int .i64 ((n : Int) + 1), .string ByteArray.empty, .slice A2 0 c2]).old hb3
      go_quiet (fail)
      go_wp2_with (first | (go_at_call 16; with_reducible refine (cA.out _ _ _ (hv3.out.drewN _)).mono ?_; rintro e w4 ⟨A4, c4, rfl, -, hb4⟩; obtain ⟨x4, -⟩ := bcell hb4; have y4 : b < w4.heap.size := (by have := hb4.size; have := hbb; simp at *; omega); have y5 : w2.heap.size < w4.heap.size := (by have := hb4.size; simp at *; omega); have y6 : w.heap.size < w4.heap.size := (by have := hb4.size; simp at *; omega)) | fail)
      obtain ⟨b', o', hbo, hbb4, g3, g4⟩ := ((hv3.out.drewN _).old hb4).at_ (k := n) (by simp [HL.out])
      cases hbo
      have HH := HL.out
      simp [HH] at g3 g4
      rw [← HH] at g3 g4
      clear HH
      go_quiet (fail)
      go_wp2_with (first | (go_at_call 11; refine (told_any _).mono ?_; rintro e w9 ⟨rfl, hb9⟩; obtain ⟨x9, -⟩ := bcell hb9; go_must (have B9 := ((((B3.drewN _).old hb4).alloc _).drewN _).old hb9); have q2 := B9.cell 2; have q3 := B9.cell 3; go_must (simp at q2 q3); clear x9))
      go_ret
      exact ⟨rfl, ((((((((((Old.refl' w).alloc' _).trans' hb1).trans' hb2).alloc' _).trans' hb3).drewN' _).trans' hb4).alloc' _).drewN' _).trans' hb9⟩
    · have cD := hide (fun (W : World) (h : Vers W A vs) => Do_at' _ _ A n cap vs (by omega) HL.out c s 2 i m (1 + y) d W h HM.out.1 HM.out.2 D R n 0 HL.out.symm rfl)
      have hc1' : (cc == 1) = false := by simpa using hcc
      clear D R hcc
      go_enter Try.func4, Try.ntmps4
      go_wp2_with (first | (go_at_call 10; with_reducible refine (cF.out _ (hV.alloc _)).mono ?_; rintro e w1 ⟨rfl, hb1⟩; obtain ⟨x1, -⟩ := bcell hb1; have z1 : w.heap.size < w1.heap.size := (by have := hb1.size; simp at this; omega)) | (go_at_call 12; with_reducible refine (cD.out _ ((hV.alloc _).old hb1)).mono ?_; rintro e w2 ⟨A1, c1, A2, c2, rfl, hv2, hi2, hb2, hc1⟩; obtain ⟨x2, -⟩ := bcell hb2; have z2 : w.heap.size < w2.heap.size := (by have := hb2.size; omega)) | (go_at_call 14; go_must (with_reducible refine (cV.out A1 _ _ (hv2.alloc _) ((((hV.alloc _).old hb1).old hb2).alloc _)).mono ?_); rintro e w3 ⟨rfl, hb3⟩; obtain ⟨x3, -⟩ := bcell hb3; have z3 : w2.heap.size < w3.heap.size := (by have := hb3.size; simp at this; omega); have z4 : w.heap.size < w3.heap.size := (by omega)))
      have B3 := (Bk.new w2 29 #[.int .i64 cc, .int .i64 cv, .string ByteArray.empty, .slice A2 0 c2]).old hb3
      go_quiet (fail)
      go_wp2_with (first | (go_at_call 11; refine (told_any _).mono ?_; rintro e w9 ⟨rfl, hb9⟩; obtain ⟨x9, -⟩ := bcell hb9; have B9 := (B3.drewN _).old hb9; have q2 := B9.cell 2; have q3 := B9.cell 3; simp at q2 q3))
      go_ret
      exact ⟨rfl, ((((((Old.refl' w).alloc' _).trans' hb1).trans' hb2).alloc' _).trans' hb3).drewN' _ |>.trans' hb9⟩

end Go.Proofs.Ytknpnigngcijjaa
