/- casebooklaw4.ChartRuns: the walk. -/
import Derived.Test.YtknpnigngcijjaaLDoes
namespace Go.Proofs.Ytknpnigngcijjaa
open Go.RowKit

theorem reqCells_length (qs : List ReqV) : (qs.flatMap ReqV.cells).length = qs.length * 6 := by
  induction qs with
  | nil => rfl
  | cons q qs ih => simp [ReqV.cells] at ih ⊢; omega
theorem reqCells_get (qs : List ReqV) : ∀ k j, k < qs.length → j < 6 → (qs.flatMap ReqV.cells)[k * 6 + j]? = (qs[k]?.getD default).cells[j]? := by
  induction qs with
  | nil => intro k j h; simp at h
  | cons q qs ih =>
    intro k j hk hj
    rw [List.flatMap_cons]
    have hc : q.cells.length = 6 := rfl
    cases k with
    | zero => rw [List.getElem?_append_left (by rw [hc]; omega)]; simp
    | succ k =>
      rw [List.getElem?_append_right (by rw [hc]; omega), hc, show (k + 1) * 6 + j - 6 = k * 6 + j from by omega]
      simpa using ih k j (by simpa using hk) hj
theorem ReqsAt.at_ {w : World} {A : Option Addr} {qs : List ReqV} (h : ReqsAt w A qs) {k : Nat} (hk : k < qs.length) :
    ∃ b o, A = some ⟨b, o, none⟩ ∧ b < w.heap.size ∧ ∀ j u, j < 6 → (qs[k]?.getD default).cells[j]? = some u → w.cell? ⟨b, o + k * 6 + j, none⟩ = some u := by
  obtain ⟨b, o, rfl, hb, hc⟩ := h (fun e => by have := reqCells_length qs; rw [e] at this; simp at this; omega)
  exact ⟨b, o, rfl, hb, fun j u hj hu => by rw [Nat.add_assoc]; exact hc _ _ ((reqCells_get qs k j hk hj).trans hu)⟩

theorem doR_quota (vs : List Ver) (k m quota : Int) (d : ByteArray) (h : (vs.length : Int) ≤ quota) : ((doR vs k m quota d).1.length : Int) ≤ quota := by
  unfold doR
  repeat' split
  all_goals simp
  all_goals omega
theorem doL_quota (vs : List Ver) (k m quota : Int) (d : ByteArray) (h : (vs.length : Int) ≤ quota) : ((doL vs k m quota d).length : Int) ≤ quota := by
  unfold doL
  split
  · exact doR_quota _ _ _ _ _ h
  · exact h

set_option maxRecDepth 100000 in
set_option maxHeartbeats 4000000 in
theorem Runs_walk (A : Option Addr) (n cap : Nat) (qs : List ReqV) (hl : n = qs.length) (hn : n ≤ 9223372036854775807) (ok : ∀ q ∈ qs, q.ok) (qt : Int) (w : World) (hQ : ReqsAt w A qs) :
    Calls Try.prog 7 #[.slice A n cap, .int .i64 qt] w fun e w' => e = .returned (.bool true) ∧ Old w w' := by
  have HL := hide hl
  clear hl
  obtain ⟨y, hy, hy0, hy1⟩ := umod qt 100 (by omega) (by omega)
  by_cases h60 : 60 < n
  · go_enter Try.func7, Try.ntmps7
    go_wp2_with (go_at_call 11; refine (told_any _).mono ?_; rintro e w9 ⟨rfl, hb9⟩)
    go_ret
    exact ⟨rfl, hb9⟩
  · have hmx : decide ((60 : Int) < (n : Int)) = false := by simp; omega
    go_enter Try.func7, Try.ntmps7
    go_wp2_with fail
    simp only [hy]
    clear hy
    go_loopw [6, 7, 8] (fun av bv iv wr => ∃ k : Nat, k ≤ n ∧ iv = .int .i64 k ∧ Old w wr ∧ ∃ (V : List Ver) (nV : Nat) (A1 A2 : Option Addr) (c1 c2 : Nat), nV = V.length ∧ (nV : Int) ≤ 1 + y ∧ av = .slice A1 nV c1 ∧ bv = .slice A2 nV c2 ∧ Vers wr A1 V ∧ Vers wr A2 V) (fun _ _ iv _ => n - (intOf iv).toNat)
    case atStart => exact ⟨0, by omega, rfl, Old.refl' w, [], 0, none, none, 0, 0, rfl, by omega, rfl, rfl, Vers.nil _ _, Vers.nil _ _⟩
    case round =>
      obtain ⟨k, hk, rfl, hB, V, nV, A1, A2, c1, c2, hnV, hV1, rfl, rfl, v1, v2⟩ := hrel
      have HNV := hide hnV
      clear hnV
      by_cases hlt : k < n
      · obtain ⟨b, o, rfl, hb, hc⟩ := hQ.at_ (k := k) (by have := HL.out; omega)
        have okq : (qs[k]?.getD default).ok := by
          have hk' : k < qs.length := by have := HL.out; omega
          rw [List.getElem?_eq_getElem hk']
          exact ok _ (List.getElem_mem _)
        obtain ⟨q, hq⟩ : ∃ q, q = qs[k]?.getD default := ⟨_, rfl⟩
        rw [← hq] at hc okq
        clear hq
        obtain ⟨c, s, kk, i, m, d⟩ := q
        have g0 := (hB.cell (p := ⟨b, o + k * 6 + 0, none⟩) hb).trans (hc 0 _ (by omega) rfl)
        have g1 := (hB.cell (p := ⟨b, o + k * 6 + 1, none⟩) hb).trans (hc 1 _ (by omega) rfl)
        have g2 := (hB.cell (p := ⟨b, o + k * 6 + 2, none⟩) hb).trans (hc 2 _ (by omega) rfl)
        have g3 := (hB.cell (p := ⟨b, o + k * 6 + 3, none⟩) hb).trans (hc 3 _ (by omega) rfl)
        have g4 := (hB.cell (p := ⟨b, o + k * 6 + 4, none⟩) hb).trans (hc 4 _ (by omega) rfl)
        have g5 := (hB.cell (p := ⟨b, o + k * 6 + 5, none⟩) hb).trans (hc 5 _ (by omega) rfl)
        simp only [Nat.add_zero] at g0 g1 g2 g3 g4 g5
        have hm : In64 m := okq.2.2.2.2
        have HM := hide hm
        clear hc okq hm
        have yb : b < wr.heap.size := Nat.lt_of_lt_of_le hb hB.size
        by_cases h100 : 100 < d.size
        · have h100' : decide ((100 : Int) < (d.size : Int)) = true := by simp; omega
          go_wp2_with (go_at_call 11; refine (told_any _).mono ?_; rintro e w9 ⟨rfl, hb9⟩)
          go_ret
          exact ⟨rfl, hB.trans' hb9⟩
        · have h100' : decide ((100 : Int) < (d.size : Int)) = false := by simp; omega
          obtain ⟨L, hL⟩ : ∃ L, doL V kk m (1 + y) d = L := ⟨_, rfl⟩
          obtain ⟨R, hR⟩ : ∃ L, doRep V kk m (1 + y) d = L := ⟨_, rfl⟩
          obtain ⟨nL, hnL⟩ : ∃ x, L.length = x := ⟨_, rfl⟩
          obtain ⟨nR, hnR⟩ : ∃ x, R.vs.length = x := ⟨_, rfl⟩
          have bL : (nL : Int) ≤ 1 + y := by have := doL_quota V kk m (1 + y) d (by have := HNV.out; omega); rw [hL, hnL] at this; exact this
          have bR : nR ≤ 1000 := by have := doRep_le V kk m (1 + y) d; rw [hR, hnR] at this; have := HNV.out; omega
          have cD := hide (fun (W : World) (h : Vers W A1 V) => Do_at' L R A1 nV c1 V (by omega) HNV.out c s kk i m (1 + y) d W h HM.out.1 HM.out.2 hL hR nL nR hnL hnR)
          have cR := hide (fun (W : World) (h : Vers W A2 V) => RDo_at L R A2 nV c2 V (by omega) HNV.out c s kk i m (1 + y) d W h HM.out.1 HM.out.2 hL hR nL nR hnL hnR)
          have NL := hide hnL
          have NR := hide hnR
          clear hL hR hnL hnR
          go_wp2_with
            (first
              | (go_at_call 12; refine (cD.out _ v1).mono ?_; rintro e w3 ⟨A3, c3, A3', c3', rfl, hv3, hi3, hb3, -⟩; obtain ⟨x3, -⟩ := bcell hb3; have y3 : b < w3.heap.size := (by have := hb3.size; have := hB.size; omega))
              | (go_at_call 13; refine (cR.out _ ((v2.old hb3).alloc _)).mono ?_; rintro e w4 ⟨A4, c4, A4', c4', rfl, hv4, hi4, hb4⟩; have B9 := (Bk.new w3 29 #[.int .i64 R.code, .int .i64 R.ver, .string R.data, .slice A3' nR c3']).old hb4; have q0 := B9.cell 0; have q1 := B9.cell 1; have q2 := B9.cell 2; have q3 := B9.cell 3; simp at q0 q1 q2 q3; obtain ⟨x4, -⟩ := bcell hb4; have z4 : w3.heap.size < w4.heap.size := B9.lt)
              | (go_at_call 15; refine (SameReply_same R A3' A4' nR c3' c4' _ (((hi3.alloc _).old hb4).alloc _) (hi4.alloc _) NR.out.symm bR).mono ?_; rintro e w5 ⟨rfl, hb5⟩)
              | (go_at_call 14; refine (Versions_same A3 A4 nL L c3 c4 _ ((((hv3.alloc _).old hb4).alloc _).old hb5) ((hv4.alloc _).old hb5) NL.out.symm (by omega)).mono ?_; rintro e w6 ⟨rfl, hb6⟩))
          go_roundw
          case rel =>
            exact ⟨k + 1, by omega, by go_num, (((((hB.trans' hb3).alloc' _).trans' hb4).alloc' _).trans' hb5).trans' hb6, L, nL, A3, A4, c3, c4, NL.out.symm, bL, rfl, rfl, (((((hv3.alloc _).old hb4).alloc _).old hb5).old hb6), (((hv4.alloc _).old hb5).old hb6)⟩
          case measure => simp [intOf]; omega
      · have hmq : decide ((nV : Int) ≤ 1 + y) = true := by simp; omega
        go_wp2_with (go_at_call 11; refine (told_any _).mono ?_; rintro e w9 ⟨rfl, hb9⟩)
        go_ret
        exact ⟨rfl, hB.trans' hb9⟩
end Go.Proofs.Ytknpnigngcijjaa
