/- casebooklaw4.ChartTurns: the walk. -/
import Derived.Test.YtknpnigngcijjaaLMatch
namespace Go.Proofs.Ytknpnigngcijjaa
open Go.RowKit

def thereB (vs : List Ver) : Bool := !vs.isEmpty && !(lastV vs).1
theorem lastV_append (vs : List Ver) (v : Ver) : lastV (vs ++ [v]) = v := by simp [lastV]
theorem thereB_append (vs : List Ver) (v : Ver) : thereB (vs ++ [v]) = !v.1 := by simp [thereB, lastV_append]
def bD : ByteArray := { data := #[100] }

theorem pick1 (w : World) : Calls Try.prog 18 #[.int .i64 1] w fun e w' => e = .returned (.string { data := #[100] }) ∧ w = w' := (pick_any 1 w).mono fun _ _ h => h
theorem pick2 (w : World) : Calls Try.prog 18 #[.int .i64 2] w fun e w' => e = .returned (.string { data := #[100] }) ∧ w = w' := (pick_any 2 w).mono fun _ _ h => h
theorem pick3 (w : World) : Calls Try.prog 18 #[.int .i64 3] w fun e w' => e = .returned (.string { data := #[] }) ∧ w = w' := (pick_any 3 w).mono fun _ _ h => h

set_option maxRecDepth 100000 in
set_option maxHeartbeats 8000000 in
theorem Turns_walk (Z : Option Addr) (m zc : Nat) (ns : List Int) (hl : m = ns.length) (hm : m ≤ 9223372036854775807) (w : World) (hI : IntsAt w Z ns) :
    Calls Try.prog 8 #[.slice Z m zc] w fun e w' => e = .returned (.bool true) ∧ Old w w' := by
  have HM := hide hl
  clear hl
  go_enter Try.func8, Try.ntmps8
  go_wp2
  go_loopw [3, 4, 5] (fun v th i wr => ∃ (k n : Nat) (A : Option Addr) (cap : Nat) (vs : List Ver) (t : Bool), k ≤ m ∧ k ≤ 40 ∧ n ≤ k ∧ i = .int .i64 k ∧ v = .slice A n cap ∧ th = .bool t ∧ Vers wr A vs ∧ Old w wr ∧ n = vs.length ∧ t = thereB vs) (fun _ _ i _ => m - (intOf i).toNat)
  case atStart => exact ⟨0, 0, none, 0, [], false, by omega, by omega, by omega, rfl, rfl, rfl, Vers.nil _ _, Old.refl' w, rfl, rfl⟩
  case round =>
    obtain ⟨k, n, A, cap, vs, t, hk, hk40, hnk, rfl, rfl, rfl, hv, hb, hl, ht⟩ := hrel
    have HL := hide hl
    have HT := hide ht
    clear hl ht
    by_cases hlt : k < m ∧ k < 40
    · obtain ⟨hlt, hlt40⟩ := hlt
      obtain ⟨zb, zo, rfl, hzb, z1⟩ := hI.at_ (k := k) (by have := HM.out; omega)
      obtain ⟨x, hx⟩ : ∃ x, x = ns[k]?.getD 0 := ⟨_, rfl⟩
      rw [← hx] at z1
      clear hx
      have z2 := (hb.cell (p := ⟨zb, zo + k, none⟩) hzb).trans z1
      clear z1
      obtain ⟨y, hy, hy0, hy3⟩ := umod x 3 (by omega) (by omega)
      have hd1 : decide ((k : Int) < (m : Int)) = true := by simp; omega
      have hd2 : decide ((k : Int) < 40) = true := by simp; omega
      rcases (show y = 0 ∨ y = 1 ∨ y = 2 by omega) with hy1 | hy1 | hy1
      · subst hy1
        by_cases h0 : n = 0
        · have hvs : vs = [] := List.eq_nil_of_length_eq_zero (by have := HL.out; omega)
          have hth : t = false := by rw [HT.out, hvs]; rfl
          have h0l : n ≤ 0 := by omega
          have h0b : ((n : Int) == 0) = true := by simp; omega
          have h0c : ((0 : Int) != (n : Int)) = false := by simp; omega
          clear h0
          subst hth
          have D : doL vs 1 0 1000 { data := #[100] } = vs ++ [(false, { data := #[100] })] ∧ doRep vs 1 0 1000 { data := #[100] } = ⟨1, (n : Int) + 1, ByteArray.empty, []⟩ := by (have hn0 : n = 0 := by omega); subst hn0; simp [doL, doRep, doR, hvs, ← HL.out] <;> omega
          have cD := hide (fun (W : World) (h : Vers W A vs) => Do_at _ _ A n cap vs (by omega) HL.out 0 0 1 0 0 1000 { data := #[100] } W h (by omega) (by omega) D.1 D.2 (n + 1) 0 (by simp [HL.out]) rfl)
          clear D
          go_wp2_with (first | (go_at_call 18; refine (pick1 _).mono ?_; rintro e w1 ⟨rfl, rfl⟩) | (go_at_call 12; with_reducible refine (cD.out _ hv).mono ?_; rintro e w2 ⟨A1, k1, A2, k2, rfl, hv2, -, hb2⟩))
          go_roundw
          case rel => exact ⟨k + 1, (n + 1), A1, k1, _, _, by omega, by omega, by omega, by go_num, rfl, rfl, hv2.alloc _, (hb.trans' hb2).alloc' _, by simp [HL.out], by rw [thereB_append]; rfl⟩
          case measure => simp [intOf]; omega
        · have h0p : 0 < n := by omega
          have hq : ¬ (1000 : Int) ≤ (n : Int) := by omega
          have h0' : ((n : Int) == 0) = false := by simpa using h0
          have hvs : vs ≠ [] := by rintro rfl; exact h0 HL.out
          cases t
          · have hgl : (lastV vs).1 = true := by
              have := HT.out
              simp [thereB, hvs] at this
              exact this
            have D : doL vs 1 0 1000 { data := #[100] } = vs ++ [(false, { data := #[100] })] ∧ doRep vs 1 0 1000 { data := #[100] } = ⟨1, (n : Int) + 1, ByteArray.empty, []⟩ := by simp [doL, doRep, doR, hvs, hgl, hq, ← HL.out] <;> omega
            have cD := hide (fun (W : World) (h : Vers W A vs) => Do_at _ _ A n cap vs (by omega) HL.out 0 0 1 0 0 1000 { data := #[100] } W h (by omega) (by omega) D.1 D.2 (n + 1) 0 (by simp [HL.out]) rfl)
            clear D
            go_wp2_with (first | (go_at_call 18; refine (pick1 _).mono ?_; rintro e w1 ⟨rfl, rfl⟩) | (go_at_call 12; with_reducible refine (cD.out _ hv).mono ?_; rintro e w2 ⟨A1, k1, A2, k2, rfl, hv2, -, hb2⟩))
            go_roundw
            case rel => exact ⟨k + 1, (n + 1), A1, k1, _, _, by omega, by omega, by omega, by go_num, rfl, rfl, hv2.alloc _, (hb.trans' hb2).alloc' _, by simp [HL.out], by rw [thereB_append]; rfl⟩
            case measure => simp [intOf]; omega
          · have hgl : (lastV vs).1 = false := by
              have := HT.out
              simp [thereB, hvs] at this
              exact this
            have D : doL vs 1 0 1000 { data := #[100] } = vs ∧ doRep vs 1 0 1000 { data := #[100] } = ⟨4, (n : Int), ByteArray.empty, []⟩ := by simp [doL, doRep, doR, hvs, hgl, hq, ← HL.out] <;> omega
            have cD := hide (fun (W : World) (h : Vers W A vs) => Do_at _ _ A n cap vs (by omega) HL.out 0 0 1 0 0 1000 { data := #[100] } W h (by omega) (by omega) D.1 D.2 n 0 HL.out.symm rfl)
            clear D
            go_wp2_with (first | (go_at_call 18; refine (pick1 _).mono ?_; rintro e w1 ⟨rfl, rfl⟩) | (go_at_call 12; with_reducible refine (cD.out _ hv).mono ?_; rintro e w2 ⟨A1, k1, A2, k2, rfl, hv2, -, hb2⟩))
            go_roundw
            case rel => exact ⟨k + 1, n, A1, k1, _, _, by omega, by omega, by omega, by go_num, rfl, rfl, hv2.alloc _, (hb.trans' hb2).alloc' _, HL.out, HT.out⟩
            case measure => simp [intOf]; omega
      · subst hy1
        by_cases h0 : n = 0
        · have hvs : vs = [] := List.eq_nil_of_length_eq_zero (by have := HL.out; omega)
          have hth : t = false := by rw [HT.out, hvs]; rfl
          have h0l : n ≤ 0 := by omega
          have h0b : ((n : Int) == 0) = true := by simp; omega
          have h0c : ((0 : Int) != (n : Int)) = false := by simp; omega
          clear h0
          subst hth
          have D : doL vs 2 0 1000 { data := #[100] } = vs ∧ doRep vs 2 0 1000 { data := #[100] } = ⟨2, 0, ByteArray.empty, []⟩ := by (have hn0 : n = 0 := by omega); subst hn0; simp [doL, doRep, doR, hvs, ← HL.out] <;> omega
          have cD := hide (fun (W : World) (h : Vers W A vs) => Do_at _ _ A n cap vs (by omega) HL.out 0 0 2 0 0 1000 { data := #[100] } W h (by omega) (by omega) D.1 D.2 n 0 HL.out.symm rfl)
          clear D
          go_wp2_with (first | (go_at_call 18; refine (pick2 _).mono ?_; rintro e w1 ⟨rfl, rfl⟩) | (go_at_call 12; with_reducible refine (cD.out _ hv).mono ?_; rintro e w2 ⟨A1, k1, A2, k2, rfl, hv2, -, hb2⟩))
          go_roundw
          case rel => exact ⟨k + 1, n, A1, k1, _, _, by omega, by omega, by omega, by go_num, rfl, rfl, hv2.alloc _, (hb.trans' hb2).alloc' _, HL.out, HT.out⟩
          case measure => simp [intOf]; omega
        · have h0p : 0 < n := by omega
          have hq : ¬ (1000 : Int) ≤ (n : Int) := by omega
          have h0' : ((n : Int) == 0) = false := by simpa using h0
          have hvs : vs ≠ [] := by rintro rfl; exact h0 HL.out
          cases t
          · have hgl : (lastV vs).1 = true := by
              have := HT.out
              simp [thereB, hvs] at this
              exact this
            have D : doL vs 2 0 1000 { data := #[100] } = vs ∧ doRep vs 2 0 1000 { data := #[100] } = ⟨3, (n : Int), ByteArray.empty, []⟩ := by simp [doL, doRep, doR, hvs, hgl, hq, ← HL.out] <;> omega
            have cD := hide (fun (W : World) (h : Vers W A vs) => Do_at _ _ A n cap vs (by omega) HL.out 0 0 2 0 0 1000 { data := #[100] } W h (by omega) (by omega) D.1 D.2 n 0 HL.out.symm rfl)
            clear D
            go_wp2_with (first | (go_at_call 18; refine (pick2 _).mono ?_; rintro e w1 ⟨rfl, rfl⟩) | (go_at_call 12; with_reducible refine (cD.out _ hv).mono ?_; rintro e w2 ⟨A1, k1, A2, k2, rfl, hv2, -, hb2⟩))
            go_roundw
            case rel => exact ⟨k + 1, n, A1, k1, _, _, by omega, by omega, by omega, by go_num, rfl, rfl, hv2.alloc _, (hb.trans' hb2).alloc' _, HL.out, HT.out⟩
            case measure => simp [intOf]; omega
          · have hgl : (lastV vs).1 = false := by
              have := HT.out
              simp [thereB, hvs] at this
              exact this
            have D : doL vs 2 0 1000 { data := #[100] } = vs ++ [(false, { data := #[100] })] ∧ doRep vs 2 0 1000 { data := #[100] } = ⟨1, (n : Int) + 1, ByteArray.empty, []⟩ := by simp [doL, doRep, doR, hvs, hgl, hq, ← HL.out] <;> omega
            have cD := hide (fun (W : World) (h : Vers W A vs) => Do_at _ _ A n cap vs (by omega) HL.out 0 0 2 0 0 1000 { data := #[100] } W h (by omega) (by omega) D.1 D.2 (n + 1) 0 (by simp [HL.out]) rfl)
            clear D
            go_wp2_with (first | (go_at_call 18; refine (pick2 _).mono ?_; rintro e w1 ⟨rfl, rfl⟩) | (go_at_call 12; with_reducible refine (cD.out _ hv).mono ?_; rintro e w2 ⟨A1, k1, A2, k2, rfl, hv2, -, hb2⟩))
            go_roundw
            case rel => exact ⟨k + 1, (n + 1), A1, k1, _, _, by omega, by omega, by omega, by go_num, rfl, rfl, hv2.alloc _, (hb.trans' hb2).alloc' _, by simp [HL.out], by rw [thereB_append]; rfl⟩
            case measure => simp [intOf]; omega
      · subst hy1
        by_cases h0 : n = 0
        · have hvs : vs = [] := List.eq_nil_of_length_eq_zero (by have := HL.out; omega)
          have hth : t = false := by rw [HT.out, hvs]; rfl
          have h0l : n ≤ 0 := by omega
          have h0b : ((n : Int) == 0) = true := by simp; omega
          have h0c : ((0 : Int) != (n : Int)) = false := by simp; omega
          clear h0
          subst hth
          have D : doL vs 3 0 1000 { data := #[] } = vs ∧ doRep vs 3 0 1000 { data := #[] } = ⟨2, 0, ByteArray.empty, []⟩ := by (have hn0 : n = 0 := by omega); subst hn0; simp [doL, doRep, doR, hvs, ← HL.out, bempty] <;> omega
          have cD := hide (fun (W : World) (h : Vers W A vs) => Do_at _ _ A n cap vs (by omega) HL.out 0 0 3 0 0 1000 { data := #[] } W h (by omega) (by omega) D.1 D.2 n 0 HL.out.symm rfl)
          clear D
          go_wp2_with (first | (go_at_call 18; refine (pick3 _).mono ?_; rintro e w1 ⟨rfl, rfl⟩) | (go_at_call 12; with_reducible refine (cD.out _ hv).mono ?_; rintro e w2 ⟨A1, k1, A2, k2, rfl, hv2, -, hb2⟩))
          go_roundw
          case rel => exact ⟨k + 1, n, A1, k1, _, _, by omega, by omega, by omega, by go_num, rfl, rfl, hv2.alloc _, (hb.trans' hb2).alloc' _, HL.out, HT.out⟩
          case measure => simp [intOf]; omega
        · have h0p : 0 < n := by omega
          have hq : ¬ (1000 : Int) ≤ (n : Int) := by omega
          have h0' : ((n : Int) == 0) = false := by simpa using h0
          have hvs : vs ≠ [] := by rintro rfl; exact h0 HL.out
          cases t
          · have hgl : (lastV vs).1 = true := by
              have := HT.out
              simp [thereB, hvs] at this
              exact this
            have D : doL vs 3 0 1000 { data := #[] } = vs ∧ doRep vs 3 0 1000 { data := #[] } = ⟨3, (n : Int), ByteArray.empty, []⟩ := by simp [doL, doRep, doR, hvs, hgl, hq, ← HL.out, bempty] <;> omega
            have cD := hide (fun (W : World) (h : Vers W A vs) => Do_at _ _ A n cap vs (by omega) HL.out 0 0 3 0 0 1000 { data := #[] } W h (by omega) (by omega) D.1 D.2 n 0 HL.out.symm rfl)
            clear D
            go_wp2_with (first | (go_at_call 18; refine (pick3 _).mono ?_; rintro e w1 ⟨rfl, rfl⟩) | (go_at_call 12; with_reducible refine (cD.out _ hv).mono ?_; rintro e w2 ⟨A1, k1, A2, k2, rfl, hv2, -, hb2⟩))
            go_roundw
            case rel => exact ⟨k + 1, n, A1, k1, _, _, by omega, by omega, by omega, by go_num, rfl, rfl, hv2.alloc _, (hb.trans' hb2).alloc' _, HL.out, HT.out⟩
            case measure => simp [intOf]; omega
          · have hgl : (lastV vs).1 = false := by
              have := HT.out
              simp [thereB, hvs] at this
              exact this
            have D : doL vs 3 0 1000 { data := #[] } = vs ++ [(true, { data := #[] })] ∧ doRep vs 3 0 1000 { data := #[] } = ⟨1, (n : Int) + 1, ByteArray.empty, []⟩ := by simp [doL, doRep, doR, hvs, hgl, hq, ← HL.out, bempty] <;> omega
            have cD := hide (fun (W : World) (h : Vers W A vs) => Do_at _ _ A n cap vs (by omega) HL.out 0 0 3 0 0 1000 { data := #[] } W h (by omega) (by omega) D.1 D.2 (n + 1) 0 (by simp [HL.out]) rfl)
            clear D
            go_wp2_with (first | (go_at_call 18; refine (pick3 _).mono ?_; rintro e w1 ⟨rfl, rfl⟩) | (go_at_call 12; with_reducible refine (cD.out _ hv).mono ?_; rintro e w2 ⟨A1, k1, A2, k2, rfl, hv2, -, hb2⟩))
            go_roundw
            case rel => exact ⟨k + 1, (n + 1), A1, k1, _, _, by omega, by omega, by omega, by go_num, rfl, rfl, hv2.alloc _, (hb.trans' hb2).alloc' _, by simp [HL.out], by rw [thereB_append]; rfl⟩
            case measure => simp [intOf]; omega
    · by_cases hkm : k < m
      · have hd2 : decide ((k : Int) < 40) = false := by simp; omega
        have hd1 : decide ((k : Int) < (m : Int)) = true := by simp; omega
        by_cases h0 : n = 0
        · have hvs : vs = [] := List.eq_nil_of_length_eq_zero (by have := HL.out; omega)
          have hth : t = false := by rw [HT.out, hvs]; rfl
          have h0b : ((n : Int) == 0) = true := by simp; omega
          clear h0
          subst hth
          have D : askR vs 4 0 = ⟨2, 0, ByteArray.empty, []⟩ := by simp [askR, hvs, ← HL.out]
          have cA := hide (fun (W : World) (h : Vers W A vs) => Ask_at _ A n cap vs (by omega) HL.out 0 0 4 0 0 { data := #[] } W h (by omega) (by omega) D 0 rfl)
          clear D
          go_wp2_with (first | (go_at_call 16; with_reducible refine (cA.out _ hv).mono ?_; rintro e w2 ⟨A2, k2, rfl, -, hb2⟩) | (go_at_call 11; refine (told_any _).mono ?_; rintro e w3 ⟨rfl, hb3⟩; obtain ⟨x1, -⟩ := bcell hb3; have z3 : w2.heap.size < w3.heap.size := (by have := hb3.size; simp at this; omega)))
          go_ret
          exact ⟨rfl, ((hb.trans' hb2).alloc' _).trans' hb3⟩
        · have h0' : ((n : Int) == 0) = false := by simpa using h0
          have hvs : vs ≠ [] := by rintro rfl; exact h0 HL.out
          cases t
          · have hgl : (lastV vs).1 = true := by
              have := HT.out
              simp [thereB, hvs] at this
              exact this
            have D : askR vs 4 0 = ⟨3, (n : Int), ByteArray.empty, []⟩ := by simp [askR, hgl, h0, ← HL.out]
            have cA := hide (fun (W : World) (h : Vers W A vs) => Ask_at _ A n cap vs (by omega) HL.out 0 0 4 0 0 { data := #[] } W h (by omega) (by omega) D 0 rfl)
            clear D
            go_wp2_with (first | (go_at_call 16; with_reducible refine (cA.out _ hv).mono ?_; rintro e w2 ⟨A2, k2, rfl, -, hb2⟩) | (go_at_call 11; refine (told_any _).mono ?_; rintro e w3 ⟨rfl, hb3⟩; obtain ⟨x1, -⟩ := bcell hb3; have z3 : w2.heap.size < w3.heap.size := (by have := hb3.size; simp at this; omega)))
            go_ret
            exact ⟨rfl, ((hb.trans' hb2).alloc' _).trans' hb3⟩
          · have hgl : (lastV vs).1 = false := by
              have := HT.out
              simp [thereB, hvs] at this
              exact this
            have D : askR vs 4 0 = ⟨1, (n : Int), (lastV vs).2, []⟩ := by simp [askR, hgl, h0, ← HL.out]
            have cA := hide (fun (W : World) (h : Vers W A vs) => Ask_at _ A n cap vs (by omega) HL.out 0 0 4 0 0 { data := #[] } W h (by omega) (by omega) D 0 rfl)
            clear D
            go_wp2_with (first | (go_at_call 16; with_reducible refine (cA.out _ hv).mono ?_; rintro e w2 ⟨A2, k2, rfl, -, hb2⟩) | (go_at_call 11; refine (told_any _).mono ?_; rintro e w3 ⟨rfl, hb3⟩; obtain ⟨x1, -⟩ := bcell hb3; have z3 : w2.heap.size < w3.heap.size := (by have := hb3.size; simp at this; omega)))
            go_ret
            exact ⟨rfl, ((hb.trans' hb2).alloc' _).trans' hb3⟩
      · have hd1 : decide ((k : Int) < (m : Int)) = false := by simp; omega
        by_cases h0 : n = 0
        · have hvs : vs = [] := List.eq_nil_of_length_eq_zero (by have := HL.out; omega)
          have hth : t = false := by rw [HT.out, hvs]; rfl
          have h0b : ((n : Int) == 0) = true := by simp; omega
          clear h0
          subst hth
          have D : askR vs 4 0 = ⟨2, 0, ByteArray.empty, []⟩ := by simp [askR, hvs, ← HL.out]
          have cA := hide (fun (W : World) (h : Vers W A vs) => Ask_at _ A n cap vs (by omega) HL.out 0 0 4 0 0 { data := #[] } W h (by omega) (by omega) D 0 rfl)
          clear D
          go_wp2_with (first | (go_at_call 16; with_reducible refine (cA.out _ hv).mono ?_; rintro e w2 ⟨A2, k2, rfl, -, hb2⟩) | (go_at_call 11; refine (told_any _).mono ?_; rintro e w3 ⟨rfl, hb3⟩; obtain ⟨x1, -⟩ := bcell hb3; have z3 : w2.heap.size < w3.heap.size := (by have := hb3.size; simp at this; omega)))
          go_ret
          exact ⟨rfl, ((hb.trans' hb2).alloc' _).trans' hb3⟩
        · have h0' : ((n : Int) == 0) = false := by simpa using h0
          have hvs : vs ≠ [] := by rintro rfl; exact h0 HL.out
          cases t
          · have hgl : (lastV vs).1 = true := by
              have := HT.out
              simp [thereB, hvs] at this
              exact this
            have D : askR vs 4 0 = ⟨3, (n : Int), ByteArray.empty, []⟩ := by simp [askR, hgl, h0, ← HL.out]
            have cA := hide (fun (W : World) (h : Vers W A vs) => Ask_at _ A n cap vs (by omega) HL.out 0 0 4 0 0 { data := #[] } W h (by omega) (by omega) D 0 rfl)
            clear D
            go_wp2_with (first | (go_at_call 16; with_reducible refine (cA.out _ hv).mono ?_; rintro e w2 ⟨A2, k2, rfl, -, hb2⟩) | (go_at_call 11; refine (told_any _).mono ?_; rintro e w3 ⟨rfl, hb3⟩; obtain ⟨x1, -⟩ := bcell hb3; have z3 : w2.heap.size < w3.heap.size := (by have := hb3.size; simp at this; omega)))
            go_ret
            exact ⟨rfl, ((hb.trans' hb2).alloc' _).trans' hb3⟩
          · have hgl : (lastV vs).1 = false := by
              have := HT.out
              simp [thereB, hvs] at this
              exact this
            have D : askR vs 4 0 = ⟨1, (n : Int), (lastV vs).2, []⟩ := by simp [askR, hgl, h0, ← HL.out]
            have cA := hide (fun (W : World) (h : Vers W A vs) => Ask_at _ A n cap vs (by omega) HL.out 0 0 4 0 0 { data := #[] } W h (by omega) (by omega) D 0 rfl)
            clear D
            go_wp2_with (first | (go_at_call 16; with_reducible refine (cA.out _ hv).mono ?_; rintro e w2 ⟨A2, k2, rfl, -, hb2⟩) | (go_at_call 11; refine (told_any _).mono ?_; rintro e w3 ⟨rfl, hb3⟩; obtain ⟨x1, -⟩ := bcell hb3; have z3 : w2.heap.size < w3.heap.size := (by have := hb3.size; simp at this; omega)))
            go_ret
            exact ⟨rfl, ((hb.trans' hb2).alloc' _).trans' hb3⟩
end Go.Proofs.Ytknpnigngcijjaa
