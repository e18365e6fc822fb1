/- casebooklaw4.ChartMatch: the walk. -/
import Derived.Test.YtknpnigngcijjaaFew
namespace Go.Proofs.Ytknpnigngcijjaa
open Go.RowKit

theorem do_ok {vs : List Ver} {k m quota : Int} {d : ByteArray} (hk : k = 2 ∨ k = 3) (hv : vs ≠ []) (hg : (lastV vs).1 = false) (hm : m = 0 ∨ m = vs.length) (hq : (vs.length : Int) < quota) :
    (doL vs k m quota d).length = vs.length + 1 ∧ doRep vs k m quota d = ⟨1, vs.length + 1, ByteArray.empty, []⟩ := by
  have hm' : ¬ (m ≠ 0 ∧ m ≠ vs.length) := by omega
  have hq' : ¬ quota ≤ (vs.length : Int) := by omega
  rcases hk with rfl | rfl <;> simp [doL, doRep, doR, hv, hg] <;> (rw [if_neg (by omega), if_neg (by omega)]; simp)
theorem do_match {vs : List Ver} {k m quota : Int} {d : ByteArray} (hk : k = 2 ∨ k = 3) (hv : vs ≠ []) (hg : (lastV vs).1 = false) (hm : m ≠ 0) (hm' : m ≠ vs.length) :
    doL vs k m quota d = vs ∧ doRep vs k m quota d = ⟨5, vs.length, ByteArray.empty, []⟩ := by
  rcases hk with rfl | rfl <;> simp [doL, doRep, doR, hv, hg, hm, hm']

set_option maxRecDepth 100000 in
set_option maxHeartbeats 2000000 in
theorem Match_walk (A : Option Addr) (n cap : Nat) (vs : List Ver) (hl : n = vs.length) (hn : n ≤ 9223372036854775807) (mt : Int) (del : Bool) (w : World) (hV : Vers w A vs) :
    Calls Try.prog 6 #[.slice A n cap, .int .i64 mt, .bool del] w fun e w' => e = .returned (.bool true) ∧ Old w w' := by
  have cF := hide (few_any A n cap vs hl hn 0 0 0 0 0 ByteArray.empty w hV)
  obtain ⟨f, hf⟩ : ∃ f, f = fewB vs ByteArray.empty := ⟨_, rfl⟩
  rw [← hf] at cF
  have HF := hide hf
  have HL := hide hl
  have HN := hide hn
  clear hf hl hn
  cases f
  · go_enter Try.func6, Try.ntmps6
    go_wp2_with (first | (go_at_call 10; refine cF.out.mono ?_; rintro e w1 ⟨rfl, hb1⟩) | (go_at_call 11; refine (told_any _).mono ?_; rintro e w2 ⟨rfl, hb2⟩))
    go_ret
    exact ⟨rfl, hb1.trans' hb2⟩
  · have hn60 : n ≤ 60 := by have := few_len HF.out.symm; have := HL.out; omega
    by_cases h0 : n = 0
    · subst h0
      go_enter Try.func6, Try.ntmps6
      go_wp2_with (first | (go_at_call 10; refine cF.out.mono ?_; rintro e w1 ⟨rfl, hb1⟩) | (go_at_call 11; refine (told_any _).mono ?_; rintro e w2 ⟨rfl, hb2⟩))
      go_ret
      exact ⟨rfl, hb1.trans' hb2⟩
    · have h0' : ((n : Int) == 0) = false := by simpa using h0
      have h0p : 0 < n := by omega
      obtain ⟨b, o, rfl, hb, g1, -⟩ := hV.at_ (k := n - 1) (by have := HL.out; omega)
      obtain ⟨g, hg⟩ : ∃ g, g = (vs[n - 1]?.getD default).1 := ⟨_, rfl⟩
      rw [← hg] at g1
      have HG := hide hg
      clear hg
      cases g
      · obtain ⟨mm, hmm, hm1, hm2⟩ := umod mt 62 (by omega) (by omega)
        have hvs : vs ≠ [] := by rintro rfl; exact h0 HL.out
        have hgl : (lastV vs).1 = false := by rw [lastV, ← HL.out]; exact HG.out.symm
        have Hmm := hide hmm
        -- BEHIND THIS ROW: print/lmatch.py
        by_cases hz : mm = 0
        · have hc := hide (show mm = 0 ∨ mm = (n : Int) from .inl hz)
          have hz' : (mm == 0) = true := by simpa using hz
          clear hz
          cases del
          · have D := do_ok (k := 2) (d := { data := #[122] }) (by omega) hvs hgl (by rw [← HL.out]; exact hc.out) (quota := 100) (by have := HL.out; omega)
            rw [← HL.out] at D
            have cD := hide (fun (W : World) (h : Vers W (some ⟨b, o, none⟩) vs) => Do_at _ _ (some ⟨b, o, none⟩) n cap vs (by omega) HL.out 0 0 2 0 mm 100 { data := #[122] } W h (by omega) (by omega) rfl D.2 (n + 1) 0 D.1 rfl)
            clear D
            go_enter Try.func6, Try.ntmps6
            go_wp2_with (first | (go_at_call 10; refine cF.out.mono ?_; rintro e w1 ⟨rfl, hb1⟩; have g2 := (hb1.cell (p := ⟨b, o + (n - 1) * 2, none⟩) hb).trans g1) | (go_at_call 12; with_reducible refine (cD.out _ ((hV.old hb1).alloc _)).mono ?_; rintro e w2 ⟨A1, k1, A2, k2, rfl, hv2, -, hb2⟩) | (go_at_call 11; refine (told_any _).mono ?_; rintro e w3 ⟨rfl, hb3⟩; obtain ⟨x1, -⟩ := bcell hb3; have z3 : w2.heap.size < w3.heap.size := (by have := hb3.size; simp at this; omega)))
            go_ret
            refine ⟨rfl, ?_⟩
            repeat (first | with_reducible refine Old.alloc' ?_ _ | with_reducible refine Old.trans' ?_ hb3 | with_reducible refine Old.trans' ?_ hb2 | with_reducible exact hb1)
          · have D := do_ok (k := 3) (d := { data := #[] }) (by omega) hvs hgl (by rw [← HL.out]; exact hc.out) (quota := 100) (by have := HL.out; omega)
            rw [← HL.out] at D
            have cD := hide (fun (W : World) (h : Vers W (some ⟨b, o, none⟩) vs) => Do_at _ _ (some ⟨b, o, none⟩) n cap vs (by omega) HL.out 0 0 3 0 mm 100 { data := #[] } W h (by omega) (by omega) rfl D.2 (n + 1) 0 D.1 rfl)
            clear D
            go_enter Try.func6, Try.ntmps6
            go_wp2_with (first | (go_at_call 10; refine cF.out.mono ?_; rintro e w1 ⟨rfl, hb1⟩; have g2 := (hb1.cell (p := ⟨b, o + (n - 1) * 2, none⟩) hb).trans g1) | (go_at_call 12; with_reducible refine (cD.out _ ((hV.old hb1).alloc _)).mono ?_; rintro e w2 ⟨A1, k1, A2, k2, rfl, hv2, -, hb2⟩) | (go_at_call 11; refine (told_any _).mono ?_; rintro e w3 ⟨rfl, hb3⟩; obtain ⟨x1, -⟩ := bcell hb3; have z3 : w2.heap.size < w3.heap.size := (by have := hb3.size; simp at this; omega)))
            go_ret
            refine ⟨rfl, ?_⟩
            repeat (first | with_reducible refine Old.alloc' ?_ _ | with_reducible refine Old.trans' ?_ hb3 | with_reducible refine Old.trans' ?_ hb2 | with_reducible exact hb1)
        · have hz' : (mm == 0) = false := by simpa using hz
          by_cases hy : mm = (n : Int)
          · have hc := hide (show mm = 0 ∨ mm = (n : Int) from .inr hy)
            have hy' : (mm == (n : Int)) = true := by simpa using hy
            clear hy hz
            cases del
            · have D := do_ok (k := 2) (d := { data := #[122] }) (by omega) hvs hgl (by rw [← HL.out]; exact hc.out) (quota := 100) (by have := HL.out; omega)
              rw [← HL.out] at D
              have cD := hide (fun (W : World) (h : Vers W (some ⟨b, o, none⟩) vs) => Do_at _ _ (some ⟨b, o, none⟩) n cap vs (by omega) HL.out 0 0 2 0 mm 100 { data := #[122] } W h (by omega) (by omega) rfl D.2 (n + 1) 0 D.1 rfl)
              clear D
              go_enter Try.func6, Try.ntmps6
              go_wp2_with (first | (go_at_call 10; refine cF.out.mono ?_; rintro e w1 ⟨rfl, hb1⟩; have g2 := (hb1.cell (p := ⟨b, o + (n - 1) * 2, none⟩) hb).trans g1) | (go_at_call 12; with_reducible refine (cD.out _ ((hV.old hb1).alloc _)).mono ?_; rintro e w2 ⟨A1, k1, A2, k2, rfl, hv2, -, hb2⟩) | (go_at_call 11; refine (told_any _).mono ?_; rintro e w3 ⟨rfl, hb3⟩; obtain ⟨x1, -⟩ := bcell hb3; have z3 : w2.heap.size < w3.heap.size := (by have := hb3.size; simp at this; omega)))
              go_ret
              refine ⟨rfl, ?_⟩
              repeat (first | with_reducible refine Old.alloc' ?_ _ | with_reducible refine Old.trans' ?_ hb3 | with_reducible refine Old.trans' ?_ hb2 | with_reducible exact hb1)
            · have D := do_ok (k := 3) (d := { data := #[] }) (by omega) hvs hgl (by rw [← HL.out]; exact hc.out) (quota := 100) (by have := HL.out; omega)
              rw [← HL.out] at D
              have cD := hide (fun (W : World) (h : Vers W (some ⟨b, o, none⟩) vs) => Do_at _ _ (some ⟨b, o, none⟩) n cap vs (by omega) HL.out 0 0 3 0 mm 100 { data := #[] } W h (by omega) (by omega) rfl D.2 (n + 1) 0 D.1 rfl)
              clear D
              go_enter Try.func6, Try.ntmps6
              go_wp2_with (first | (go_at_call 10; refine cF.out.mono ?_; rintro e w1 ⟨rfl, hb1⟩; have g2 := (hb1.cell (p := ⟨b, o + (n - 1) * 2, none⟩) hb).trans g1) | (go_at_call 12; with_reducible refine (cD.out _ ((hV.old hb1).alloc _)).mono ?_; rintro e w2 ⟨A1, k1, A2, k2, rfl, hv2, -, hb2⟩) | (go_at_call 11; refine (told_any _).mono ?_; rintro e w3 ⟨rfl, hb3⟩; obtain ⟨x1, -⟩ := bcell hb3; have z3 : w2.heap.size < w3.heap.size := (by have := hb3.size; simp at this; omega)))
              go_ret
              refine ⟨rfl, ?_⟩
              repeat (first | with_reducible refine Old.alloc' ?_ _ | with_reducible refine Old.trans' ?_ hb3 | with_reducible refine Old.trans' ?_ hb2 | with_reducible exact hb1)
          · have hy' : (mm == (n : Int)) = false := by simpa using hy
            replace hz := hide hz
            replace hy := hide hy
            cases del
            · have D := do_match (k := 2) (d := { data := #[122] }) (quota := 100) (by omega) hvs hgl hz.out (by rw [← HL.out]; exact hy.out)
              rw [← HL.out] at D
              have cD := hide (fun (W : World) (h : Vers W (some ⟨b, o, none⟩) vs) => Do_at _ _ (some ⟨b, o, none⟩) n cap vs (by omega) HL.out 0 0 2 0 mm 100 { data := #[122] } W h (by omega) (by omega) D.1 D.2 n 0 HL.out.symm rfl)
              clear D
              go_enter Try.func6, Try.ntmps6
              go_wp2_with (first | (go_at_call 10; refine cF.out.mono ?_; rintro e w1 ⟨rfl, hb1⟩; have g2 := (hb1.cell (p := ⟨b, o + (n - 1) * 2, none⟩) hb).trans g1) | (go_at_call 12; with_reducible refine (cD.out _ ((hV.old hb1).alloc _)).mono ?_; rintro e w2 ⟨A1, k1, A2, k2, rfl, hv2, -, hb2⟩) | (go_at_call 11; refine (told_any _).mono ?_; rintro e w3 ⟨rfl, hb3⟩; obtain ⟨x1, -⟩ := bcell hb3; have z3 : w2.heap.size < w3.heap.size := (by have := hb3.size; simp at this; omega)))
              go_ret
              refine ⟨rfl, ?_⟩
              repeat (first | with_reducible refine Old.alloc' ?_ _ | with_reducible refine Old.trans' ?_ hb3 | with_reducible refine Old.trans' ?_ hb2 | with_reducible exact hb1)
            · have D := do_match (k := 3) (d := { data := #[] }) (quota := 100) (by omega) hvs hgl hz.out (by rw [← HL.out]; exact hy.out)
              rw [← HL.out] at D
              have cD := hide (fun (W : World) (h : Vers W (some ⟨b, o, none⟩) vs) => Do_at _ _ (some ⟨b, o, none⟩) n cap vs (by omega) HL.out 0 0 3 0 mm 100 { data := #[] } W h (by omega) (by omega) D.1 D.2 n 0 HL.out.symm rfl)
              clear D
              go_enter Try.func6, Try.ntmps6
              go_wp2_with (first | (go_at_call 10; refine cF.out.mono ?_; rintro e w1 ⟨rfl, hb1⟩; have g2 := (hb1.cell (p := ⟨b, o + (n - 1) * 2, none⟩) hb).trans g1) | (go_at_call 12; with_reducible refine (cD.out _ ((hV.old hb1).alloc _)).mono ?_; rintro e w2 ⟨A1, k1, A2, k2, rfl, hv2, -, hb2⟩) | (go_at_call 11; refine (told_any _).mono ?_; rintro e w3 ⟨rfl, hb3⟩; obtain ⟨x1, -⟩ := bcell hb3; have z3 : w2.heap.size < w3.heap.size := (by have := hb3.size; simp at this; omega)))
              go_ret
              refine ⟨rfl, ?_⟩
              repeat (first | with_reducible refine Old.alloc' ?_ _ | with_reducible refine Old.trans' ?_ hb3 | with_reducible refine Old.trans' ?_ hb2 | with_reducible exact hb1)
      · go_enter Try.func6, Try.ntmps6
        go_wp2_with (first | (go_at_call 10; refine cF.out.mono ?_; rintro e w1 ⟨rfl, hb1⟩; have g2 := (hb1.cell (p := ⟨b, o + (n - 1) * 2, none⟩) hb).trans g1) | (go_at_call 11; refine (told_any _).mono ?_; rintro e w2 ⟨rfl, hb2⟩))
        go_ret
        exact ⟨rfl, hb1.trans' hb2⟩
end Go.Proofs.Ytknpnigngcijjaa
