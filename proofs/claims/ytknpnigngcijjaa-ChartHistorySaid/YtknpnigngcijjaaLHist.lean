/- casebooklaw4.ChartHistory: the walk. -/
import Derived.Deep.QuietTactic
import Derived.BigQuiet
import Derived.Test.YtknpnigngcijjaaLMatch
namespace Go.Proofs.Ytknpnigngcijjaa
open Go.RowKit

theorem histL_get (vs : List Ver) (hn : vs.length ≤ 100000) (k : Nat) (hk : k < vs.length) :
    (histL vs)[k]?.getD 0 = if (vs[k]?.getD default).1 then -((k : Int) + 1) else (k : Int) + 1 := by
  unfold histL
  have hl : ((backL vs vs.length).map histOf).length = vs.length := by simp [backL_length]
  rw [List.getElem?_reverse (by rw [hl]; exact hk), hl, List.getElem?_map]
  unfold backL
  rw [List.getElem?_map, List.getElem?_range (by omega)]
  simp only [Option.map_some, Option.getD_some]
  rw [show vs.length - (vs.length - 1 - k) = k + 1 from by omega, show k + 1 - 1 = k from rfl]
  unfold histOf
  simp only []
  split
  · rw [IntWalk.wrap64_in _ ⟨by omega, by omega⟩]; omega
  · omega

set_option maxRecDepth 100000 in
set_option maxHeartbeats 4000000 in
theorem History_walk (A : Option Addr) (n cap : Nat) (vs : List Ver) (hl : n = vs.length) (hn : n ≤ 9223372036854775807) (w : World) (hV : Vers w A vs) :
    Calls Try.prog 5 #[.slice A n cap] w fun e w' => e = .returned (.bool true) ∧ Old w w' := by
  have cF := hide (few_any A n cap vs hl hn 0 0 0 0 0 { data := #[] } w hV)
  obtain ⟨f, hf⟩ : ∃ f, f = fewB vs { data := #[] } := ⟨_, rfl⟩
  rw [← hf] at cF
  have HF := hide hf
  have HL := hide hl
  clear hf hl hn
  cases f
  · go_enter Try.func5, Try.ntmps5
    go_wp2_with (first | (go_at_call 10; refine cF.out.mono ?_; rintro e w1 ⟨rfl, hb1⟩) | (go_at_call 11; refine (told_any _).mono ?_; rintro e w2 ⟨rfl, hb2⟩))
    go_ret
    exact ⟨rfl, hb1.trans' hb2⟩
  · have hn60 : n ≤ 60 := by have := few_len HF.out.symm; have := HL.out; omega
    by_cases h0 : n = 0
    · subst h0
      have hvs : vs = [] := List.eq_nil_of_length_eq_zero HL.out.symm
      have D : askR vs 6 0 = ⟨2, 0, ByteArray.empty, []⟩ := by simp [askR, hvs]
      have cA := hide (fun (W : World) (h : Vers W A vs) => Ask_at _ A 0 cap vs (by omega) HL.out 0 0 6 0 0 { data := #[] } W h (by omega) (by omega) D 0 rfl)
      clear D
      go_enter Try.func5, Try.ntmps5
      go_wp2_with (first | (go_at_call 10; refine cF.out.mono ?_; rintro e w1 ⟨rfl, hb1⟩) | (go_at_call 16; with_reducible refine (cA.out _ (hV.old hb1)).mono ?_; rintro e w2 ⟨A2, k2, rfl, -, hb2⟩) | (go_at_call 11; refine (told_any _).mono ?_; rintro e w3 ⟨rfl, hb3⟩; obtain ⟨x1, -⟩ := bcell hb3; have z3 : w2.heap.size < w3.heap.size := (by have := hb3.size; simp at this; omega)))
      go_ret
      exact ⟨rfl, ((hb1.trans' hb2).alloc' _).trans' hb3⟩
    · have h0' : ((n : Int) == 0) = false := by simpa using h0
      have hlh : (histL vs).length = n := by rw [histL_length, HL.out]
      have D : askR vs 6 0 = ⟨1, (n : Int), ByteArray.empty, histL vs⟩ := by
        have : vs ≠ [] := by rintro rfl; exact h0 HL.out
        simp [askR, ← HL.out, h0]
      have cA := hide (fun (W : World) (h : Vers W A vs) => Ask_at _ A n cap vs (by omega) HL.out 0 0 6 0 0 { data := #[] } W h (by omega) (by omega) D n hlh)
      have HH := hide hlh
      clear D hlh
      go_enter Try.func5, Try.ntmps5
      go_wp2_with (first | (go_at_call 10; refine cF.out.mono ?_; rintro e w1 ⟨rfl, hb1⟩) | (go_at_call 16; with_reducible refine (cA.out _ (hV.old hb1)).mono ?_; rintro e w2 ⟨A2, k2, rfl, hi2, hb2⟩))
      generalize hW : World.alloc w2 _ = W0
      have r0 : W0.cell? ⟨w2.heap.size, 0, none⟩ = some (.int .i64 1) := by rw [← hW]; simp [go_sem]
      have r3 : W0.cell? ⟨w2.heap.size, 3, none⟩ = some (.slice A2 n k2) := by rw [← hW]; simp [go_sem]
      have hb0 : Old w W0 := by rw [← hW]; exact (hb1.trans' hb2).alloc' _
      have hb20 : Old w2 W0 := by rw [← hW]; exact (Old.refl' w2).alloc' _
      have hz0 : w2.heap.size < W0.heap.size := by rw [← hW]; simp
      have hv0 := hide (hV.old hb0)
      have hi0 := hide (hi2.old hb20)
      clear hW
      go_loopw [4] (fun i wr => ∃ k : Nat, k ≤ n ∧ i = .int .i64 k ∧ Old W0 wr) (fun i _ => n - (intOf i).toNat)
      case atStart => exact ⟨0, by omega, rfl, Old.refl' _⟩
      case round =>
        obtain ⟨k, hk, rfl, hb⟩ := hrel
        obtain ⟨x0, -⟩ := bcell hb
        by_cases hlt : k < n
        · obtain ⟨b, o, rfl, hbb, g1, g2⟩ := hv0.out.at_ (k := k) (by have := HL.out; omega)
          obtain ⟨b', o', rfl, hbb', g3⟩ := hi0.out.at_ (k := k) (by have := HH.out; omega)
          rw [histL_get vs (by have := HL.out; omega) k (by have := HL.out; omega)] at g3
          obtain ⟨y, hy⟩ : ∃ y, y = vs[k]?.getD default := ⟨_, rfl⟩
          obtain ⟨yg, yd⟩ := y
          rw [← hy] at g1 g2 g3
          have D := askR_version vs k (by have := HL.out; omega) hy
          clear hy
          have hvk := hide (fun (W : World) (h : Old W0 W) => hv0.out.old h)
          cases yg
          · simp only [Bool.false_eq_true, if_false] at g1 g3 D
            have cV := hide (fun (W : World) (h : Vers W (some ⟨b, o, none⟩) vs) => Ask_at _ (some ⟨b, o, none⟩) n cap vs (by omega) HL.out 0 0 5 0 ((k : Int) + 1) { data := #[] } W h (by omega) (by omega) D 0 rfl)
            clear D
            go_wp2_with (first | (go_at_call 16; with_reducible refine (cV.out _ (hvk.out _ hb)).mono ?_; rintro e w3 ⟨A3, k3, rfl, -, hb3⟩; obtain ⟨x3, -⟩ := bcell hb3; have z3 : w2.heap.size < w3.heap.size := (by have := hb3.size; have := hb.size; omega); have z4 : b < w3.heap.size := (by have := hb3.size; have := hb.size; omega); have z5 : b' < w3.heap.size := (by have := hb3.size; have := hb.size; omega); have z6 : b < wr.heap.size := (by have := hb.size; omega); have z7 : b' < wr.heap.size := (by have := hb.size; omega); have z8 : w2.heap.size < wr.heap.size := (by have := hb.size; omega)))
            go_quiet (fail)
            go_wp2
            go_roundw
            case rel => exact ⟨k + 1, by omega, by go_num, Old.drewN' ((hb.trans' hb3).alloc' _) _⟩
            case measure => simp [intOf]; omega
          · simp only [if_true] at g1 g3 D
            have cV := hide (fun (W : World) (h : Vers W (some ⟨b, o, none⟩) vs) => Ask_at _ (some ⟨b, o, none⟩) n cap vs (by omega) HL.out 0 0 5 0 ((k : Int) + 1) { data := #[] } W h (by omega) (by omega) D 0 rfl)
            clear D
            go_wp2_with (first | (go_at_call 16; with_reducible refine (cV.out _ (hvk.out _ hb)).mono ?_; rintro e w3 ⟨A3, k3, rfl, -, hb3⟩; obtain ⟨x3, -⟩ := bcell hb3; have z3 : w2.heap.size < w3.heap.size := (by have := hb3.size; have := hb.size; omega); have z4 : b < w3.heap.size := (by have := hb3.size; have := hb.size; omega); have z5 : b' < w3.heap.size := (by have := hb3.size; have := hb.size; omega); have z6 : b < wr.heap.size := (by have := hb.size; omega); have z7 : b' < wr.heap.size := (by have := hb.size; omega); have z8 : w2.heap.size < wr.heap.size := (by have := hb.size; omega)))
            go_quiet (fail)
            go_wp2
            go_roundw
            case rel => exact ⟨k + 1, by omega, by go_num, Old.drewN' ((hb.trans' hb3).alloc' _) _⟩
            case measure => simp [intOf]; omega
        · obtain rfl : k = n := by omega
          have D : askR vs 5 ((k : Int) + 1) = ⟨2, 0, ByteArray.empty, []⟩ := by
            have := HL.out
            unfold askR
            rw [if_neg (by decide), if_pos rfl, if_pos (by omega)]
          have cV := hide (fun (W : World) (h : Vers W A vs) => Ask_at _ A k cap vs (by omega) HL.out 0 0 5 0 ((k : Int) + 1) { data := #[] } W h (by omega) (by omega) D 0 rfl)
          have hvk := hide (fun (W : World) (h : Old W0 W) => hv0.out.old h)
          clear D
          go_wp2_with (first | (go_at_call 16; with_reducible refine (cV.out _ (hvk.out _ hb)).mono ?_; rintro e w3 ⟨A3, k3, rfl, -, hb3⟩) | (go_at_call 11; refine (told_any _).mono ?_; rintro e w4 ⟨rfl, hb4⟩; obtain ⟨x4, -⟩ := bcell hb4; have z3 : w3.heap.size < w4.heap.size := (by have := hb4.size; simp at this; omega)))
          go_ret
          exact ⟨rfl, hb0.trans' (((hb.trans' hb3).alloc' _).trans' hb4)⟩
end Go.Proofs.Ytknpnigngcijjaa
