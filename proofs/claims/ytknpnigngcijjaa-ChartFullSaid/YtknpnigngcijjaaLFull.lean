/- casebooklaw4.ChartFull: the walk. -/
import Derived.Test.YtknpnigngcijjaaLTurns
namespace Go.Proofs.Ytknpnigngcijjaa
open Go.RowKit

def bX : ByteArray := { data := #[120] }
def fullL (i : Nat) : List Ver := List.replicate i (false, { data := #[120] })
theorem fullL_len (i : Nat) : (fullL i).length = i := by simp [fullL]
theorem fullL_last (i : Nat) (h : 0 < i) : (lastV (fullL i)).1 = false := by
  unfold lastV fullL
  rw [List.length_replicate, List.getElem?_replicate, if_pos (by omega)]
  rfl
theorem fullL_ne (i : Nat) (h : 0 < i) : fullL i ≠ [] := by
  intro e
  have := fullL_len i
  rw [e] at this
  simp at this
  omega
theorem fullL_succ (i : Nat) : fullL i ++ [(false, { data := #[120] })] = fullL (i + 1) := by simp [fullL, List.replicate_succ']

theorem full_first (q : Int) (h : 0 < q) : doL (fullL 0) 1 0 q { data := #[120] } = fullL 1 ∧ doRep (fullL 0) 1 0 q { data := #[120] } = ⟨1, 1, ByteArray.empty, []⟩ := by
  simp [doL, doRep, doR, fullL, show ¬ q ≤ 0 from by omega]
theorem full_next (i : Nat) (q : Int) (hi : 0 < i) (h : (i : Int) < q) : doL (fullL i) 2 0 q { data := #[120] } = fullL (i + 1) ∧ doRep (fullL i) 2 0 q { data := #[120] } = ⟨1, (i : Int) + 1, ByteArray.empty, []⟩ := by
  simp [doL, doRep, doR, fullL_len, fullL_last i hi, fullL_ne i hi, fullL_succ, show ¬ q ≤ (i : Int) from by omega]
theorem full_quota (k : Int) (hk : k = 2 ∨ k = 3) (i : Nat) (hi : 0 < i) (d : ByteArray) : doL (fullL i) k 0 i d = fullL i ∧ doRep (fullL i) k 0 i d = ⟨6, i, ByteArray.empty, []⟩ := by
  rcases hk with rfl | rfl <;> simp [doL, doRep, doR, fullL_len, fullL_last i hi, fullL_ne i hi]
theorem full_match (k : Int) (hk : k = 2 ∨ k = 3) (i : Nat) (hi : 0 < i) (d : ByteArray) : doL (fullL i) k ((i : Int) + 1) i d = fullL i ∧ doRep (fullL i) k ((i : Int) + 1) i d = ⟨5, i, ByteArray.empty, []⟩ := by
  have h1 : ((i : Int) + 1 ≠ 0) := by omega
  have h2 : ((i : Int) + 1 ≠ i) := by omega
  rcases hk with rfl | rfl <;> simp [doL, doRep, doR, fullL_len, fullL_last i hi, fullL_ne i hi, h1, h2]

set_option maxRecDepth 100000 in
set_option maxHeartbeats 4000000 in
theorem Full_walk (qt kd : Int) (w : World) :
    Calls Try.prog 9 #[.int .i64 qt, .int .i64 kd] w fun e w' => e = .returned (.bool true) ∧ Old w w' := by
  obtain ⟨y, hy, hy0, hy1⟩ := umod qt 20 (by omega) (by omega)
  obtain ⟨z, hz, hz0, hz1⟩ := umod kd 2 (by omega) (by omega)
  obtain ⟨m, rfl⟩ : ∃ m : Nat, y = (m : Int) := ⟨y.toNat, by omega⟩
  go_enter Try.func9, Try.ntmps9
  go_wp2
  simp only [hy]
  clear hy
  go_loopw [6, 7] (fun v i wr => ∃ (k : Nat) (A : Option Addr) (cap : Nat), k ≤ m + 1 ∧ i = .int .i64 k ∧ v = .slice A k cap ∧ Vers wr A (fullL k) ∧ Old w wr) (fun _ i _ => m + 1 - (intOf i).toNat)
  case atStart => exact ⟨0, none, 0, by omega, rfl, rfl, Vers.nil _ _, Old.refl' w⟩
  case round =>
    obtain ⟨k, A, cap, hk, rfl, rfl, hv, hb⟩ := hrel
    by_cases hlt : k < m + 1
    · have hd : decide ((k : Int) < 1 + (m : Int)) = true := by simp; omega
      by_cases h0 : k = 0
      · subst h0
        have D := full_first (1 + (m : Int)) (by omega)
        have cD := hide (fun (W : World) (h : Vers W A (fullL 0)) => Do_at _ _ A 0 cap (fullL 0) (by omega) rfl 0 0 1 0 0 (1 + (m : Int)) { data := #[120] } W h (by omega) (by omega) D.1 D.2 1 0 rfl rfl)
        clear D
        go_wp2_with (first | (go_at_call 12; with_reducible refine (cD.out _ hv).mono ?_; rintro e w2 ⟨A1, k1, A2, k2, rfl, hv2, -, hb2⟩))
        go_roundw
        case rel => exact ⟨1, A1, k1, by omega, by go_num, rfl, hv2.alloc _, (hb.trans' hb2).alloc' _⟩
        case measure => simp [intOf]
      · have h0' : ((k : Int) == 0) = false := by simpa using h0
        have hkp : 0 < k := by omega
        have D := full_next k (1 + (m : Int)) hkp (by omega)
        have cD := hide (fun (W : World) (h : Vers W A (fullL k)) => Do_at _ _ A k cap (fullL k) (by omega) (fullL_len k).symm 0 0 2 0 0 (1 + (m : Int)) { data := #[120] } W h (by omega) (by omega) D.1 D.2 (k + 1) 0 (fullL_len _) rfl)
        clear D
        go_wp2_with (first | (go_at_call 12; with_reducible refine (cD.out _ hv).mono ?_; rintro e w2 ⟨A1, k1, A2, k2, rfl, hv2, -, hb2⟩))
        go_roundw
        case rel => exact ⟨k + 1, A1, k1, by omega, by go_num, rfl, hv2.alloc _, (hb.trans' hb2).alloc' _⟩
        case measure => simp [intOf]; omega
    · have hd : decide ((k : Int) < 1 + (m : Int)) = false := by simp; omega
      have hkm : (1 : Int) + (m : Int) = (k : Int) := by omega
      have hkp : 0 < k := by omega
      have hk40 : k ≤ 40 := by omega
      clear hlt hk
      rcases (show z = 0 ∨ z = 1 by omega) with hz2 | hz2
      · subst hz2
        have D := full_quota 2 (.inl rfl) k hkp { data := #[100] }
        have E := full_match 2 (.inl rfl) k hkp { data := #[100] }
        have cD := hide (fun (W : World) (h : Vers W A (fullL k)) => Do_at _ _ A k cap (fullL k) (by omega) (fullL_len k).symm 0 0 2 0 0 (k : Int) { data := #[100] } W h (by omega) (by omega) D.1 D.2 k 0 (fullL_len _) rfl)
        have cE := hide (fun (W : World) (h : Vers W A (fullL k)) => Do_at _ _ A k cap (fullL k) (by omega) (fullL_len k).symm 0 0 2 0 ((k : Int) + 1) (k : Int) { data := #[100] } W h (by omega) (by omega) E.1 E.2 k 0 (fullL_len _) rfl)
        clear D E
        go_wp2_with (first | (go_at_call 18; refine (pick2 _).mono ?_; rintro e w1 ⟨rfl, rfl⟩) | fail)
        with_reducible refine (cD.out _ hv).mono ?_
        rintro e w2 ⟨A1, k1, A2, k2, rfl, -, -, hb2⟩
        go_wp2_with (first | (go_at_call 18; refine (pick2 _).mono ?_; rintro e w1 ⟨rfl, rfl⟩) | fail)
        with_reducible refine (cE.out _ ((hv.old hb2).alloc _)).mono ?_
        rintro e w3 ⟨A3, k3, A4, k4, rfl, -, -, hb3⟩
        obtain ⟨x3, -⟩ := bcell hb3
        have z3 : w2.heap.size < w3.heap.size := by have := hb3.size; simp at this; omega
        go_wp2_with (first | (go_at_call 11; refine (told_any _).mono ?_; rintro e w4 ⟨rfl, hb4⟩; obtain ⟨x4, -⟩ := bcell hb4; have z4 : w2.heap.size < w4.heap.size := (by have := hb4.size; simp at this; omega); have z5 : w3.heap.size < w4.heap.size := (by have := hb4.size; simp at this; omega)))
        go_ret
        exact ⟨rfl, ((((hb.trans' hb2).alloc' _).trans' hb3).alloc' _).trans' hb4⟩
      · subst hz2
        have D := full_quota 3 (.inr rfl) k hkp { data := #[] }
        have E := full_match 3 (.inr rfl) k hkp { data := #[] }
        have cD := hide (fun (W : World) (h : Vers W A (fullL k)) => Do_at _ _ A k cap (fullL k) (by omega) (fullL_len k).symm 0 0 3 0 0 (k : Int) { data := #[] } W h (by omega) (by omega) D.1 D.2 k 0 (fullL_len _) rfl)
        have cE := hide (fun (W : World) (h : Vers W A (fullL k)) => Do_at _ _ A k cap (fullL k) (by omega) (fullL_len k).symm 0 0 3 0 ((k : Int) + 1) (k : Int) { data := #[] } W h (by omega) (by omega) E.1 E.2 k 0 (fullL_len _) rfl)
        clear D E
        go_wp2_with (first | (go_at_call 18; refine (pick3 _).mono ?_; rintro e w1 ⟨rfl, rfl⟩) | fail)
        with_reducible refine (cD.out _ hv).mono ?_
        rintro e w2 ⟨A1, k1, A2, k2, rfl, -, -, hb2⟩
        go_wp2_with (first | (go_at_call 18; refine (pick3 _).mono ?_; rintro e w1 ⟨rfl, rfl⟩) | fail)
        with_reducible refine (cE.out _ ((hv.old hb2).alloc _)).mono ?_
        rintro e w3 ⟨A3, k3, A4, k4, rfl, -, -, hb3⟩
        obtain ⟨x3, -⟩ := bcell hb3
        have z3 : w2.heap.size < w3.heap.size := by have := hb3.size; simp at this; omega
        go_wp2_with (first | (go_at_call 11; refine (told_any _).mono ?_; rintro e w4 ⟨rfl, hb4⟩; obtain ⟨x4, -⟩ := bcell hb4; have z4 : w2.heap.size < w4.heap.size := (by have := hb4.size; simp at this; omega); have z5 : w3.heap.size < w4.heap.size := (by have := hb4.size; simp at this; omega)))
        go_ret
        exact ⟨rfl, ((((hb.trans' hb2).alloc' _).trans' hb3).alloc' _).trans' hb4⟩
end Go.Proofs.Ytknpnigngcijjaa
