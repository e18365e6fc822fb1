/- casebooklaw4.ChartDoes: the walk. -/
import Derived.Deep.RegionHeld3
import Derived.Test.YtknpnigngcijjaaFew
import Derived.Test.YtknpnigngcijjaaRDoA
namespace Go.Proofs.Ytknpnigngcijjaa
open Go.RowKit

theorem Versions_same (A B : Option Addr) (n : Nat) (vs : List Ver) (ca cb : Nat) (w : World) (ha : Vers w A vs) (hb : Vers w B vs) (hl : n = vs.length) (hn : n ≤ 1000) :
    Calls Try.prog 14 #[.slice A n ca, .slice B n cb] w fun e w' => e = .returned (.bool true) ∧ Old w w' := by
  have := Versions_any A B n n vs vs ca cb w ha hb hl hl hn hn
  rwa [decide_eq_true (rfl : vs = vs)] at this
theorem SameReply_same (r : Rep) (A B : Option Addr) (n ca cb : Nat) (w : World) (ha : IntsAt w A r.vs) (hb : IntsAt w B r.vs) (hl : n = r.vs.length) (hn : n ≤ 1000) :
    Calls Try.prog 15 #[.agg #[.int .i64 r.code, .int .i64 r.ver, .string r.data, .slice A n ca], .agg #[.int .i64 r.code, .int .i64 r.ver, .string r.data, .slice B n cb]] w
      fun e w' => e = .returned (.bool true) ∧ Old w w' := by
  have := SameReply_any r r A B n n ca cb w ha hb hl hl hn hn
  rwa [(Rep.same_iff r r).2 rfl] at this
theorem askR_le (vs : List Ver) (k m : Int) : (askR vs k m).vs.length ≤ vs.length := by
  unfold askR
  repeat' split
  all_goals simp [histL_length]
theorem doRep_le (vs : List Ver) (k m quota : Int) (d : ByteArray) : (doRep vs k m quota d).vs.length ≤ vs.length := by
  unfold doRep
  split
  · simp
  · exact askR_le vs k m
theorem doR_le (vs : List Ver) (k m quota : Int) (d : ByteArray) : (doR vs k m quota d).1.length ≤ vs.length + 1 := by
  unfold doR
  repeat' split
  all_goals simp
theorem doL_le (vs : List Ver) (k m quota : Int) (d : ByteArray) : (doL vs k m quota d).length ≤ vs.length + 1 := by
  unfold doL
  split
  · exact doR_le _ _ _ _ _
  · simp

theorem keep14 {W0 W : World} {g9 g11 gq : Nat} {r0 r1 r2 r3 s0 s1 s2 s3 q0 q1 q2 q3 q4 q5 : Value} (B9 : Bk W0 g9 29 #[r0, r1, r2, r3]) (B11 : Bk W0 g11 29 #[s0, s1, s2, s3]) (BQ : Bk W0 gq 24 #[q0, q1, q2, q3, q4, q5]) (h : Old W0 W) :
    W.cell? ⟨g9, 0, none⟩ = some r0 ∧ W.cell? ⟨g9, 1, none⟩ = some r1 ∧ W.cell? ⟨g9, 2, none⟩ = some r2 ∧ W.cell? ⟨g9, 3, none⟩ = some r3 ∧
    W.cell? ⟨g11, 0, none⟩ = some s0 ∧ W.cell? ⟨g11, 1, none⟩ = some s1 ∧ W.cell? ⟨g11, 2, none⟩ = some s2 ∧ W.cell? ⟨g11, 3, none⟩ = some s3 ∧
    W.cell? ⟨gq, 0, none⟩ = some q0 ∧ W.cell? ⟨gq, 1, none⟩ = some q1 ∧ W.cell? ⟨gq, 2, none⟩ = some q2 ∧ W.cell? ⟨gq, 3, none⟩ = some q3 ∧ W.cell? ⟨gq, 4, none⟩ = some q4 ∧ W.cell? ⟨gq, 5, none⟩ = some q5 := by
  have b9 := B9.old h
  have b11 := B11.old h
  have bq := BQ.old h
  simp [b9.cell, b11.cell, bq.cell]

theorem RDo_at (L : List Ver) (R : Rep) (A : Option Addr) (n cap : Nat) (vs : List Ver) (hn : n ≤ 100000) (hl : n = vs.length) (c s k i m quota : Int) (d : ByteArray) (w : World) (hV : Vers w A vs) (hm : -9223372036854775808 ≤ m) (hm2 : m ≤ 9223372036854775807)
    (hL : doL vs k m quota d = L) (hR : doRep vs k m quota d = R) (nL nR : Nat) (h1 : L.length = nL) (h2 : R.vs.length = nR) :
    Calls Try.prog 13 #[.slice A n cap, .agg #[.int .i64 c, .int .i64 s, .int .i64 k, .int .i64 i, .int .i64 m, .string d], .int .i64 quota] w fun e w' =>
      ∃ A1 c1 A2 c2, e = .returned (.tuple #[.slice A1 nL c1, .agg #[.int .i64 R.code, .int .i64 R.ver, .string R.data, .slice A2 nR c2]]) ∧ Vers w' A1 L ∧ IntsAt w' A2 R.vs ∧ Old w w' := by
  subst hL hR h1 h2
  refine (RDo_any A n cap vs hn hl c s k i m quota d w hV hm hm2).mono fun e w' h => ?_
  obtain ⟨v, u, rfl, ⟨A1, c1, rfl, hv⟩, ⟨A2, c2, rfl, hi, _⟩, hb⟩ := h
  exact ⟨A1, c1, A2, c2, rfl, hv, hi, hb⟩
theorem RAsk_at (R : Rep) (A : Option Addr) (n cap : Nat) (vs : List Ver) (hn : n ≤ 100000) (hl : n = vs.length) (c s k i m : Int) (d : ByteArray) (w : World) (hV : Vers w A vs) (hm : -9223372036854775808 ≤ m) (hm2 : m ≤ 9223372036854775807)
    (hR : askR vs k m = R) (nR : Nat) (h2 : R.vs.length = nR) :
    Calls Try.prog 17 #[.slice A n cap, .agg #[.int .i64 c, .int .i64 s, .int .i64 k, .int .i64 i, .int .i64 m, .string d]] w fun e w' =>
      ∃ A2 c2, e = .returned (.agg #[.int .i64 R.code, .int .i64 R.ver, .string R.data, .slice A2 nR c2]) ∧ IntsAt w' A2 R.vs ∧ Old w w' := by
  subst hR h2
  refine (RAsk_any A n cap vs hn hl c s k i m d w hV hm hm2).mono fun e w' h => ?_
  obtain ⟨u, rfl, ⟨A2, c2, rfl, hi, _⟩, hb⟩ := h
  exact ⟨A2, c2, rfl, hi, hb⟩

set_option maxRecDepth 100000 in
set_option maxHeartbeats 4000000 in
theorem Does_walk (A : Option Addr) (n cap : Nat) (vs : List Ver) (hl : n = vs.length) (hn : n ≤ 9223372036854775807) (q : ReqV) (ok : q.ok) (qt : Int) (w : World) (hV : Vers w A vs) :
    Calls Try.prog 3 #[.slice A n cap, .agg #[.int .i64 q.client, .int .i64 q.seq, .int .i64 q.kind, .int .i64 q.id, .int .i64 q.mat, .string q.data], .int .i64 qt] w fun e w' => e = .returned (.bool true) ∧ Old w w' := by
  obtain ⟨c, s, k, i, m, d⟩ := q
  have hm : In64 m := ok.2.2.2.2
  simp only
  have cF := hide (fun (W : World) (h : Vers W A vs) => few_any A n cap vs hl hn c s k i m d W h)
  obtain ⟨f, hf⟩ : ∃ f, f = fewB vs d := ⟨_, rfl⟩
  rw [← hf] at cF
  have HF := hide hf
  have HL := hide hl
  have HM := hide hm
  clear hf hl hn hm ok
  cases f
  · go_enter Try.func3, Try.ntmps3
    go_wp2_with (first | (go_at_call 10; with_reducible refine (cF.out _ (hV.alloc _)).mono ?_; rintro e w1 ⟨rfl, hb1⟩; obtain ⟨x1, -⟩ := bcell hb1; have z1 : w.heap.size < w1.heap.size := (by have := hb1.size; simp at this; omega)) | (go_at_call 11; refine (told_any _).mono ?_; rintro e w9 ⟨rfl, hb9⟩))
    go_ret
    exact ⟨rfl, (((Old.refl' w).alloc' _).trans' hb1).trans' hb9⟩
  · have hn60 : n ≤ 60 := by have := few_len HF.out.symm; have := HL.out; omega
    obtain ⟨L, hL⟩ : ∃ L, doL vs k m qt d = L := ⟨_, rfl⟩
    obtain ⟨R, hR⟩ : ∃ L, doRep vs k m qt d = L := ⟨_, rfl⟩
    obtain ⟨T, hT⟩ : ∃ L, askR vs k m = L := ⟨_, rfl⟩
    obtain ⟨nL, hnL⟩ : ∃ x, L.length = x := ⟨_, rfl⟩
    obtain ⟨nR, hnR⟩ : ∃ x, R.vs.length = x := ⟨_, rfl⟩
    obtain ⟨nT, hnT⟩ : ∃ x, T.vs.length = x := ⟨_, rfl⟩
    have bL : nL ≤ 1000 := by have := doL_le vs k m qt d; rw [hL, hnL] at this; have := HL.out; omega
    have bR : nR ≤ 1000 := by have := doRep_le vs k m qt d; rw [hR, hnR] at this; have := HL.out; omega
    have bT : nT ≤ 1000 := by have := askR_le vs k m; rw [hT, hnT] at this; have := HL.out; omega
    have cD := hide (fun (W : World) (h : Vers W A vs) => Do_at' L R A n cap vs (by omega) HL.out c s k i m qt d W h HM.out.1 HM.out.2 hL hR nL nR hnL hnR)
    have cR := hide (fun (A : Option Addr) (cap : Nat) (W : World) (h : Vers W A vs) => RDo_at L R A n cap vs (by omega) HL.out c s k i m qt d W h HM.out.1 HM.out.2 hL hR nL nR hnL hnR)
    have cA := hide (fun (W : World) (h : Vers W A vs) => Ask_at T A n cap vs (by omega) HL.out c s k i m d W h HM.out.1 HM.out.2 hT nT hnT)
    have cB := hide (fun (A : Option Addr) (cap : Nat) (W : World) (h : Vers W A vs) => RAsk_at T A n cap vs (by omega) HL.out c s k i m d W h HM.out.1 HM.out.2 hT nT hnT)
    have NL := hide hnL
    have NR := hide hnR
    have NT := hide hnT
    clear hL hR hT hnL hnR hnT
    obtain ⟨i0, hi0, hz0, hz1, hz2⟩ := info_parts info_ver
    go_enter Try.func3, Try.ntmps3
    go_wp2_with
      (first
      | (go_at_call 10; refine (cF.out _ (hV.alloc _)).mono ?_; rintro e w1 ⟨rfl, hb1⟩; have B1 := (Bk.new w 24 #[.int .i64 c, .int .i64 s, .int .i64 k, .int .i64 i, .int .i64 m, .string d]).old hb1; obtain ⟨x1, -⟩ := bcell hb1; have z1 : w.heap.size < w1.heap.size := (by have := hb1.size; simp at this; omega))
      | (at_builtin; go_must (refine wpList_app _ rfl (.tmp 17) (.tmp 18) 22 rfl w1.heap.size 38 i0 (.agg #[.bool false, .string ByteArray.empty]) 2 24 Try.underlying22 hi0 hz0 hz1 hz2 rfl (by omega) (.slice (some ⟨w1.heap.size, 0, none⟩) 0 0) 0 [] rfl (World.ownsRow_made w1 #[] 0 (Nat.le_refl _) (by decide) rfl) A n cap (verCells vs) rfl (by rw [verCells_length, HL.out]) (((hV.alloc _).old hb1).alloc _) (verCells_one vs) (by unfold maxLen; omega) (by omega) (by simp) n (Nat.zero_add _) (verCells vs) (List.nil_append _) ?_); intro A1 c1 w2 h2; have hb2 : Old w1 w2 := h2.old ((Old.refl' w1).alloc' _) (by intro k hk; simp [Value.ownBlock] at hk; omega); have B2 := B1.old hb2; obtain ⟨x2, -⟩ := bcell hb2; have z2 : w.heap.size < w2.heap.size := (by have := hb2.size; omega))
      | (go_at_call 12; refine (cD.out _ (((hV.alloc _).old hb1).old hb2)).mono ?_; rintro e w3 ⟨A3, c3, A3', c3', rfl, hv3, hi3, hb3, hc3⟩; have B3 := B2.old hb3; obtain ⟨x3, -⟩ := bcell hb3; have z3 : w.heap.size < w3.heap.size := (by have := hb3.size; omega))
      | (go_at_call 13; refine (cR.out A1 c1 _ (((show Vers w2 A1 vs from CellsAt.of_own h2.own).old hb3).alloc _)).mono ?_; rintro e w4 ⟨A4, c4, A4', c4', rfl, hv4, hi4, hb4⟩))
    generalize hW : World.alloc w4 _ = W0
    have hb0 : Old w4 W0 := by rw [← hW]; exact (Old.refl' w4).alloc' _
    have hz : W0.heap.size = w4.heap.size + 1 := by rw [← hW]; simp
    have hbs : Old w3 w4 := ((Old.refl' w3).alloc' _).trans' hb4
    have B9 : Bk W0 w3.heap.size 29 #[.int .i64 R.code, .int .i64 R.ver, .string R.data, .slice A3' nR c3'] := ((Bk.new w3 _ _).old hb4).old hb0
    have B11 : Bk W0 w4.heap.size 29 #[.int .i64 R.code, .int .i64 R.ver, .string R.data, .slice A4' nR c4'] := by rw [← hW]; exact Bk.new w4 _ _
    have BQ : Bk W0 w.heap.size 24 #[.int .i64 c, .int .i64 s, .int .i64 k, .int .i64 i, .int .i64 m, .string d] := ((B3.alloc _).old hb4).old hb0
    have u1 : Vers W0 A3 L := ((hv3.alloc _).old hb4).old hb0
    have u2 : Vers W0 A4 L := hv4.old hb0
    have u3 : Vers W0 A vs := ((((hV.alloc _).old hb1).old hb2).old hb3).old (hbs.trans' hb0)
    have u4 : Vers W0 A1 vs := ((show Vers w2 A1 vs from CellsAt.of_own h2.own).old hb3).old (hbs.trans' hb0)
    have u5 : IntsAt W0 A3' R.vs := ((hi3.alloc _).old hb4).old hb0
    have u6 : IntsAt W0 A4' R.vs := hi4.old hb0
    have hw0 : Old w W0 := ((((((Old.refl' w).alloc' _).trans' hb1).trans' hb2).trans' hb3).trans' hbs).trans' hb0
    have r0 : Old W0 W0 := Old.refl' W0
    clear hW hb0 hbs B1 B2 B3 x1 x2 x3 z1 z2 z3 hb1 hb2 hb3 hb4 hv3 hv4 hi3 hi4 h2 cF cD cR hz hV
    go_region_held3 (fun w' => w'.cell? ⟨w3.heap.size, 0, none⟩ = some (.int .i64 R.code) ∧ w'.cell? ⟨w3.heap.size, 1, none⟩ = some (.int .i64 R.ver) ∧ w'.cell? ⟨w3.heap.size, 2, none⟩ = some (.string R.data) ∧ w'.cell? ⟨w3.heap.size, 3, none⟩ = some (.slice A3' nR c3') ∧
        w'.cell? ⟨w4.heap.size, 0, none⟩ = some (.int .i64 R.code) ∧ w'.cell? ⟨w4.heap.size, 1, none⟩ = some (.int .i64 R.ver) ∧ w'.cell? ⟨w4.heap.size, 2, none⟩ = some (.string R.data) ∧ w'.cell? ⟨w4.heap.size, 3, none⟩ = some (.slice A4' nR c4') ∧
        w'.cell? ⟨w.heap.size, 0, none⟩ = some (.int .i64 c) ∧ w'.cell? ⟨w.heap.size, 1, none⟩ = some (.int .i64 s) ∧ w'.cell? ⟨w.heap.size, 2, none⟩ = some (.int .i64 k) ∧ w'.cell? ⟨w.heap.size, 3, none⟩ = some (.int .i64 i) ∧ w'.cell? ⟨w.heap.size, 4, none⟩ = some (.int .i64 m) ∧ w'.cell? ⟨w.heap.size, 5, none⟩ = some (.string d))
      (first | exact keep14 B9 B11 BQ (by first | assumption | exact Old.drew' (by assumption)))
      (first
        | (go_at_call 11; refine (told_any _).mono ?_; rintro e v1 ⟨rfl, hc1⟩; have o1 : Old W0 v1 := (by first | exact r0.trans' hc1 | exact r0.drew'.trans' hc1))
        | (go_at_call 14; ((with_reducible refine (Versions_same A3 A4 nL L c3 c4 _ (u1.old (by first | assumption | exact Old.drew' (by assumption))) (u2.old (by first | assumption | exact Old.drew' (by assumption))) NL.out.symm bL).mono ?_); rintro e v2 ⟨rfl, hc2⟩; have o2 : Old W0 v2 := (by first | exact o1.trans' hc2 | exact o1.drew'.trans' hc2)))
        | (go_at_call 15; ((with_reducible refine (SameReply_same R A3' A4' nR c3' c4' _ (u5.old (by first | assumption | exact Old.drew' (by assumption))) (u6.old (by first | assumption | exact Old.drew' (by assumption))) NR.out.symm bR).mono ?_); rintro e v3 ⟨rfl, hc3⟩; have o3 : Old W0 v3 := (by first | exact o2.trans' hc3 | exact o2.drew'.trans' hc3)))
        | (go_at_call 14; ((with_reducible refine (Versions_same A A1 n vs cap c1 _ (u3.old (by first | assumption | exact Old.drew' (by assumption))) (u4.old (by first | assumption | exact Old.drew' (by assumption))) HL.out (by omega)).mono ?_); rintro e v4 ⟨rfl, hc4⟩; have o4 : Old W0 v4 := (by first | exact o3.trans' hc4 | exact o3.drew'.trans' hc4)))
        | (go_at_call 16; ((with_reducible refine (cA.out _ (u3.old (by first | assumption | exact Old.drew' (by assumption)))).mono ?_); rintro e v5 ⟨A5, c5, rfl, hi5, hc5⟩; have o5 : Old W0 v5 := (by first | exact o4.trans' hc5 | exact o4.drew'.trans' hc5)))
        | (go_at_call 17; ((with_reducible refine (cB.out A1 c1 _ (u4.old (by first | assumption | exact Old.drew' (by assumption)))).mono ?_); rintro e v6 ⟨A6, c6, rfl, hi6, hc6⟩; have o6 : Old W0 v6 := (by first | exact o5.trans' hc6 | exact o5.drew'.trans' hc6)))
        | (go_at_call 15; ((with_reducible refine (SameReply_same T A5 A6 nT c5 c6 _ (by first | exact hi5.old hc6 | exact hi5.old ((Old.refl' _).drew'.trans' hc6)) (by first | exact hi6 | exact hi6.old (Old.refl' _).drew') NT.out.symm bT).mono ?_); rintro e v7 ⟨rfl, hc7⟩; have o7 : Old W0 v7 := (by first | exact o6.trans' hc7 | exact o6.drew'.trans' hc7))))
    go_wp2
    go_ret
    exact ⟨rfl, hw0.trans' o7⟩
end Go.Proofs.Ytknpnigngcijjaa
