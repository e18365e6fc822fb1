/- casebookref18.L: Read. -/
import Derived.Deep.CutBlock
import Derived.Test.YtmhnlpilbbfgnaaHXlS
namespace Go.Proofs.Ytmhnlpilbbfgnaa
open Go.RowKit

set_option maxRecDepth 100000 in
set_option maxHeartbeats 1000000 in
theorem XRead_arg (x : Nat) (q : ReqV) (hq : askOk q.q = false) (w : World) :
    Calls Try.prog 38 #[.pointer (some ⟨x, 0, none⟩), .agg #[.int .i64 q.client, .int .i64 q.seq, .int .i64 q.kind, .int .i64 q.id, .int .i64 q.mat, .string q.data]] w fun e w' => e = .returned (.tuple #[.agg #[.int .i64 0, .int .i64 0, .string ByteArray.empty, .slice none 0 0], .int .i64 0, .int .i64 1]) ∧ Old w w' := by
  obtain ⟨c, s, k, i, m, d⟩ := q
  simp only [ReqV.q] at hq
  obtain ⟨b1, h1⟩ : ∃ b, mayQ c s k i m d = b := ⟨_, rfl⟩
  have cM := hide (fun (W : World) => rMay_at c s k i m d b1 h1 W)
  have hX := hide (fun (W : World) (h : Old ((w.alloc (.cells #[.int .i64 c, .int .i64 s, .int .i64 k, .int .i64 i, .int .i64 m, .string d] 23)).alloc (.cells #[.int .i64 0, .int .i64 0, .string ByteArray.empty, .slice none 0 0] 32)) W) => boxed h)
  cases b1 with
  | false =>
    clear hq h1
    go_enter Try.func38, Try.ntmps38
    go_wp2_with (go_at_call 25; refine (cM.out _).mono ?_; rintro e w1 ⟨rfl, hb1⟩; obtain ⟨⟨x0, x1, x2, x3, x4, x5⟩, ⟨y0, y1, y2, y3⟩, ⟨f0, f1, f2, f3⟩, l1, o1⟩ := hX.out _ hb1)
    refine bodyPost_ret (v := .tuple #[.agg #[.int .i64 0, .int .i64 0, .string ByteArray.empty, .slice none 0 0], .int .i64 0, .int .i64 1]) ?_ rfl ⟨rfl, ?_⟩
    · simp [results, Try.results38, go_sem, *]
      try rfl
    · repeat (first | with_reducible exact o1 | with_reducible refine Old.setCell' ?_ (by simp) _)
  | true =>
    have hw : Writes k = true := by simpa [askOk, Q.may, h1] using hq
    have cW := hide (fun (W : World) => rWrites_at c s k i m d true hw W)
    clear hq h1 hw
    go_enter Try.func38, Try.ntmps38
    go_wp2_with (first
      | (go_at_call 25; refine (cM.out _).mono ?_; rintro e w1 ⟨rfl, hb1⟩; obtain ⟨⟨x0, x1, x2, x3, x4, x5⟩, ⟨y0, y1, y2, y3⟩, ⟨f0, f1, f2, f3⟩, l1, o1⟩ := hX.out _ hb1)
      | (go_at_call 26; refine (cW.out _).mono ?_; rintro e w2 ⟨rfl, hb2⟩; clear x0 x1 x2 x3 x4 x5 y0 y1 y2 y3 f0 f1 f2 f3 l1 o1; obtain ⟨⟨x0, x1, x2, x3, x4, x5⟩, ⟨y0, y1, y2, y3⟩, ⟨f0, f1, f2, f3⟩, l1, o1⟩ := hX.out _ (hb1.trans' hb2)))
    refine bodyPost_ret (v := .tuple #[.agg #[.int .i64 0, .int .i64 0, .string ByteArray.empty, .slice none 0 0], .int .i64 0, .int .i64 1]) ?_ rfl ⟨rfl, ?_⟩
    · simp [results, Try.results38, go_sem, *]
      try rfl
    · repeat (first | with_reducible exact o1 | with_reducible refine Old.setCell' ?_ (by simp) _)
set_option maxRecDepth 100000 in
set_option maxHeartbeats 1000000 in
theorem XRead_state (x : Nat) (F : Nat → Prop) (l : LnV) (hfew : l.qs.length ≤ 50000) (q : ReqV) (hq : askOk q.q = true) (hc : l.clean q.id = false) (w : World) (h : XlAt w x F l) :
    Calls Try.prog 38 #[.pointer (some ⟨x, 0, none⟩), .agg #[.int .i64 q.client, .int .i64 q.seq, .int .i64 q.kind, .int .i64 q.id, .int .i64 q.mat, .string q.data]] w fun e w' => e = .returned (.tuple #[.agg #[.int .i64 0, .int .i64 0, .string ByteArray.empty, .slice none 0 0], .int .i64 0, .int .i64 4]) ∧ Old w w' := by
  obtain ⟨c, s, k, i, m, d⟩ := q
  simp only [ReqV.q, askOk, Q.may, Bool.and_eq_true, Bool.not_eq_true'] at hq
  obtain ⟨h1, h2⟩ := hq
  have cM := hide (fun (W : World) => rMay_at c s k i m d true h1 W)
  have cW := hide (fun (W : World) => rWrites_at c s k i m d false h2 W)
  have cC := hide (fun (W : World) (hW : Old w W) => XClean_any x F l hfew i false hc W (h.old hW))
  have hX := hide (fun (W : World) (h : Old ((w.alloc (.cells #[.int .i64 c, .int .i64 s, .int .i64 k, .int .i64 i, .int .i64 m, .string d] 23)).alloc (.cells #[.int .i64 0, .int .i64 0, .string ByteArray.empty, .slice none 0 0] 32)) W) => boxed h)
  clear h1 h2 hc h hfew
  go_enter Try.func38, Try.ntmps38
  go_wp2_with (first
    | (go_at_call 25; refine (cM.out _).mono ?_; rintro e w1 ⟨rfl, hb1⟩; obtain ⟨⟨x0, x1, x2, x3, x4, x5⟩, ⟨y0, y1, y2, y3⟩, ⟨f0, f1, f2, f3⟩, l1, o1⟩ := hX.out _ hb1)
    | (go_at_call 26; refine (cW.out _).mono ?_; rintro e w2 ⟨rfl, hb2⟩; clear x0 x1 x2 x3 x4 x5 y0 y1 y2 y3 f0 f1 f2 f3 l1 o1; obtain ⟨⟨x0, x1, x2, x3, x4, x5⟩, ⟨y0, y1, y2, y3⟩, ⟨f0, f1, f2, f3⟩, l1, o1⟩ := hX.out _ (hb1.trans' hb2))
    | (go_at_call 39; refine (cC.out _ o1).mono ?_; rintro e w3 ⟨rfl, hb3⟩; clear x0 x1 x2 x3 x4 x5 y0 y1 y2 y3 f0 f1 f2 f3 l1 o1; obtain ⟨⟨x0, x1, x2, x3, x4, x5⟩, ⟨y0, y1, y2, y3⟩, ⟨f0, f1, f2, f3⟩, l1, o1⟩ := hX.out _ ((hb1.trans' hb2).trans' hb3)))
  refine bodyPost_ret (v := .tuple #[.agg #[.int .i64 0, .int .i64 0, .string ByteArray.empty, .slice none 0 0], .int .i64 0, .int .i64 4]) ?_ rfl ⟨rfl, ?_⟩
  · simp [results, Try.results38, go_sem, *]
    try rfl
  · repeat (first | with_reducible exact o1 | with_reducible refine Old.setCell' ?_ (by simp) _)
set_option maxRecDepth 100000 in
set_option maxHeartbeats 4000000 in
theorem XRead_yes (x : Nat) (F : Nat → Prop) (l : LnV) (hfew : l.qs.length ≤ 50000) (hkl : l.k ≤ l.qs.length) (q : ReqV) (hq : askOk q.q = true) (hc : l.clean q.id = true) (R : Rep) (hR : l.st.ask q.q = R) (nR : Nat) (hnR : R.vs.length = nR) (n : Nat) (hn : l.k = n) (w : World) (h : XlAt w x F l) :
    Calls Try.prog 38 #[.pointer (some ⟨x, 0, none⟩), .agg #[.int .i64 q.client, .int .i64 q.seq, .int .i64 q.kind, .int .i64 q.id, .int .i64 q.mat, .string q.data]] w fun e w' => ∃ A2 c2, e = .returned (.tuple #[.agg #[.int .i64 R.code, .int .i64 R.ver, .string R.data, .slice A2 nR c2], .int .i64 n, .int .i64 0]) ∧ IntsAt w' A2 R.vs ∧ Old w w' := by
  obtain ⟨st, hst⟩ : ∃ st, l.st = st := ⟨_, rfl⟩
  have hst2 : runS l.quota (l.qs.take n) = st := by rw [← hst, ← hn]; rfl
  have hsn : st.n ≤ 50000 := by rw [← hst2]; have := (runS_ok l.quota (l.qs.take n)).2.1; rw [List.length_take] at this; omega
  rw [hst] at hR
  have cA := hide (fun (W0 W : World) (gx : Nat) (p : OneX W0 W gx st) => p.sd.elim fun G hG => by have := SAsk_stN gx G st q.q hsn nR (by rw [hR]; exact hnR) W hG; rw [if_pos hq, hR] at this; exact this)
  obtain ⟨c, s, k, i, m, d⟩ := q
  simp only [ReqV.q, askOk, Q.may, Bool.and_eq_true, Bool.not_eq_true'] at hq
  obtain ⟨h1, h2⟩ := hq
  obtain ⟨A, ca, hsee⟩ := h.see rfl
  have hxl := hsee.xl
  have c2' := hsee.c2
  rw [hn] at c2'
  have cM := hide (fun (W : World) => rMay_at c s k i m d true h1 W)
  have cW := hide (fun (W : World) => rWrites_at c s k i m d false h2 W)
  have cC := hide (fun (W : World) (hW : Old w W) => XClean_any x F l hfew i true hc W (h.old hW))
  have cF0 := hide (fun (W : World) (hW : Old w W) => by have := XFirst_any x F l hfew n (by omega) W (h.old hW); rw [hst2] at this; exact this)
  simp only [ReqV.q, Q.v] at cA
  have hX := hide (fun (W : World) (h : Old ((w.alloc (.cells #[.int .i64 c, .int .i64 s, .int .i64 k, .int .i64 i, .int .i64 m, .string d] 23)).alloc (.cells #[.int .i64 0, .int .i64 0, .string ByteArray.empty, .slice none 0 0] 32)) W) => boxed h)
  clear h1 h2 hc hR hnR hn hfew h hsee hst hst2 hsn hkl
  go_enter Try.func38, Try.ntmps38
  go_wp2_with (first
    | (go_at_call 25; refine (cM.out _).mono ?_; rintro e w1 ⟨rfl, hb1⟩; obtain ⟨⟨x0, x1, x2, x3, x4, x5⟩, ⟨y0, y1, y2, y3⟩, ⟨f0, f1, f2, f3⟩, l1, o1⟩ := hX.out _ hb1)
    | (go_at_call 26; refine (cW.out _).mono ?_; rintro e w2 ⟨rfl, hb2⟩; clear x0 x1 x2 x3 x4 x5 y0 y1 y2 y3 f0 f1 f2 f3 l1 o1; obtain ⟨⟨x0, x1, x2, x3, x4, x5⟩, ⟨y0, y1, y2, y3⟩, ⟨f0, f1, f2, f3⟩, l1, o1⟩ := hX.out _ (hb1.trans' hb2))
    | (go_at_call 39; refine (cC.out _ o1).mono ?_; rintro e w3 ⟨rfl, hb3⟩; clear x0 x1 x2 x3 x4 x5 y0 y1 y2 y3 f0 f1 f2 f3 l1 o1; obtain ⟨⟨x0, x1, x2, x3, x4, x5⟩, ⟨y0, y1, y2, y3⟩, ⟨f0, f1, f2, f3⟩, l1, o1⟩ := hX.out _ ((hb1.trans' hb2).trans' hb3)))
  obtain ⟨WB, hWB⟩ : ∃ W : World, W = w3 := ⟨_, rfl⟩
  rw [← hWB] at o1 l1 hb3
  simp only [← hWB]
  have hbb := (hb1.trans' hb2).trans' hb3
  clear hWB hb1 hb2 hb3 x0 x1 x2 x3 x4 x5 y0 y1 y2 y3 f0 f1 f2 f3
  have hY := hide (fun (W : World) (hW : Old WB W) => (⟨(hX.out W (hbb.trans' hW)).1, ((o1.trans' hW).cell (p := ⟨x, 2, none⟩) hxl).trans c2'⟩ : _ ∧ W.cell? ⟨x, 2, none⟩ = some (.int .i64 n)))
  have cF := hide (fun (W : World) (hW : Old WB W) => cF0.out W (o1.trans' hW))
  have kr := (bk_new1 w (.cells #[.int .i64 c, .int .i64 s, .int .i64 k, .int .i64 i, .int .i64 m, .string d] 23) 32 #[.int .i64 0, .int .i64 0, .string ByteArray.empty, .slice none 0 0]).old hbb
  have HO1 := hide o1
  have HL1 := hide l1
  clear cC cM cW o1 l1 cF0
  go_cut [7, 8] from 23 to 33 (fun v7 _ w' => AfterAsk WB w' nR R v7)
  case first =>
    refine wp_region_Z (S := fun w' => Old WB w') (Z := ([12] : List Nat).contains) (by kernel_rfl) ?_
    refine wpAnyZ_pureD 0 (some 24) (.pointer (some ⟨x, 0, none⟩)) rfl rfl (by kernel_rfl) (by kernel_rfl) (by kernel_rfl) (fun _ _ _ h => h) (Or.inl ⟨by kernel_rfl, fun w _ => by generalize hE : Act.eval _ = E; have e0 : E (.tmp 0) = .pointer (some ⟨x, 0, none⟩) := (by rw [← hE]; kernel_rfl); clear hE; go_simp⟩) ?_
    refine wpAnyZ_pureD 1 (some 25) (.pointer (some ⟨x, 0, none⟩)) rfl rfl (by kernel_rfl) (by kernel_rfl) (by kernel_rfl) (fun _ _ _ h => h) (Or.inl ⟨by kernel_rfl, fun w _ => by generalize hE : Act.eval _ = E; have e0 : E (.tmp 0) = .pointer (some ⟨x, 0, none⟩) := (by rw [← hE]; kernel_rfl); clear hE; go_simp⟩) ?_
    refine wpAnyZ_pureD 2 (some 26) (.pointer (some ⟨x, 0, none⟩)) rfl rfl (by kernel_rfl) (by kernel_rfl) (by kernel_rfl) (fun _ _ _ h => h) (Or.inl ⟨by kernel_rfl, fun w _ => by generalize hE : Act.eval _ = E; have e0 : E (.tmp 25) = .pointer (some ⟨x, 0, none⟩) := (by rw [← hE]; kernel_rfl); clear hE; go_simp⟩) ?_
    refine wpAnyZ_pureD 3 (some 27) (.pointer (some ⟨x, 2, none⟩)) rfl rfl (by kernel_rfl) (by kernel_rfl) (by kernel_rfl) (fun _ _ _ h => h) (Or.inl ⟨by kernel_rfl, fun w _ => by generalize hE : Act.eval _ = E; have e0 : E (.tmp 26) = .pointer (some ⟨x, 0, none⟩) := (by rw [← hE]; kernel_rfl); clear hE; go_simp⟩) ?_
    refine wpAnyZ_takeD 4 (some 28) (.int .i64 n) rfl rfl (by kernel_rfl) (by kernel_rfl) (by kernel_rfl) (by kernel_rfl) (fun _ _ _ h => h) (Or.inl ⟨by kernel_rfl, fun w' hS => by obtain ⟨⟨s0, s1, s2, s3, s4, s5⟩, t2⟩ := hY.out _ hS; generalize hE : Act.eval _ = E; have e0 : E (.tmp 27) = .pointer (some ⟨x, 2, none⟩) := (by rw [← hE]; kernel_rfl); clear hE; go_simp⟩) (by exact (Old.refl' WB).drew') ?_
    refine wpAnyZ_takeD 6 (some 30) (.agg #[.int .i64 c, .int .i64 s, .int .i64 k, .int .i64 i, .int .i64 m, .string d]) rfl rfl (by kernel_rfl) (by kernel_rfl) (by kernel_rfl) (by kernel_rfl) (fun _ _ _ h => h) (Or.inl ⟨by kernel_rfl, fun w' hS => by obtain ⟨⟨s0, s1, s2, s3, s4, s5⟩, t2⟩ := hY.out _ hS; generalize hE : Act.eval _ = E; have e0 : E (.tmp 3) = .pointer (some ⟨w.heap.size, 0, none⟩) := (by rw [← hE]; kernel_rfl); clear hE; go_simp⟩) (by exact (Old.refl' WB).drew') ?_
    refine wpAnyZ_all (rs := [5, 11]) (by kernel_rfl) (by simp) ?_
    intro j hj
    simp only [List.mem_cons, List.not_mem_nil, or_false] at hj
    rcases hj with rfl | rfl
    · refine wpOp_callD (some 29) rfl rfl (by kernel_rfl) 65 _ Try.func65 (by kernel_rfl) (by kernel_rfl) [.tmp 24, .tmp 28] #[58, 3] rfl [.pointer (some ⟨x, 0, none⟩), .int .i64 n] (by kernel_rfl) (cF.out _ (Old.refl' WB).drew') ?_
      rintro e w2 ⟨gx, rfl, p2⟩
      refine ⟨_, rfl, .inr fun h => h.trans' p2.o, ?_⟩
      have o2 : Old WB w2 := (Old.refl' WB).drew'.trans' p2.o
      refine wpAnyZ_all (rs := [7, 11]) (by kernel_rfl) (by simp) ?_
      intro j hj
      simp only [List.mem_cons, List.not_mem_nil, or_false] at hj
      rcases hj with rfl | rfl
      · refine wpOp_callD (some 31) rfl rfl (by kernel_rfl) 69 _ Try.func69 (by kernel_rfl) (by kernel_rfl) [.tmp 29, .tmp 30] #[114, 23] rfl [.pointer (some ⟨gx, 0, none⟩), .agg #[.int .i64 c, .int .i64 s, .int .i64 k, .int .i64 i, .int .i64 m, .string d]] (by kernel_rfl) (cA.out _ _ gx p2) ?_
        rintro e w3 ⟨A2, c2, rfl, hi, hnew, hb3⟩
        refine ⟨_, rfl, .inr fun h => h.trans' hb3, ?_⟩
        have o3 : Old WB w3 := o2.trans' hb3
        refine wpAnyZ_pureD 8 (some 23) (.tuple #[.agg #[.int .i64 R.code, .int .i64 R.ver, .string R.data, .slice A2 nR c2], .int .i64 0]) rfl rfl (by kernel_rfl) (by kernel_rfl) (by kernel_rfl) (fun _ _ _ h => h) (Or.inl ⟨by kernel_rfl, fun w _ => by generalize hE : Act.eval _ = E; have e0 : E (.tmp 31) = .tuple #[.agg #[.int .i64 R.code, .int .i64 R.ver, .string R.data, .slice A2 nR c2], .int .i64 0] := (by rw [← hE]; kernel_rfl); clear hE; go_simp⟩) ?_
        refine wpAnyZ_pureD 9 (some 32) (.agg #[.int .i64 R.code, .int .i64 R.ver, .string R.data, .slice A2 nR c2]) rfl rfl (by kernel_rfl) (by kernel_rfl) (by kernel_rfl) (fun _ _ _ h => h) (Or.inl ⟨by kernel_rfl, fun w _ => by generalize hE : Act.eval _ = E; have e0 : E (.tmp 23) = .tuple #[.agg #[.int .i64 R.code, .int .i64 R.ver, .string R.data, .slice A2 nR c2], .int .i64 0] := (by rw [← hE]; kernel_rfl); clear hE; go_simp⟩) ?_
        refine wpAnyZ_pureD 10 (some 33) (.int .i64 0) rfl rfl (by kernel_rfl) (by kernel_rfl) (by kernel_rfl) (fun _ _ _ h => h) (Or.inl ⟨by kernel_rfl, fun w _ => by generalize hE : Act.eval _ = E; have e0 : E (.tmp 23) = .tuple #[.agg #[.int .i64 R.code, .int .i64 R.ver, .string R.data, .slice A2 nR c2], .int .i64 0] := (by rw [← hE]; kernel_rfl); clear hE; go_simp⟩) ?_
        refine wpAnyZ_one 11 (by kernel_rfl) ?_
        refine wpOp_runD (w' := w3.alloc (.cells #[.int .i64 0, .int .i64 0, .string ByteArray.empty, .slice none 0 0] 32)) (some 7) (.pointer (some ⟨w3.heap.size, 0, none⟩)) rfl rfl rfl (by go_simp; try rfl) ⟨.inr fun h => h.alloc' _, ?_⟩
        refine wpAnyZ_one 12 (by kernel_rfl) ?_
        simp only [put_lit, put_none, List.set_cons_zero, List.set_cons_succ]
        refine wpOp_mk rfl rfl ?_
        go_simp
        refine wpAnyZ_pureD 13 (some 8) (.int .i64 0) rfl rfl (by kernel_rfl) (by kernel_rfl) (by kernel_rfl) (fun _ _ _ h => h) (Or.inl ⟨by kernel_rfl, fun w _ => by generalize hE : Act.eval _ = E; have e0 : E (.tmp 33) = .int .i64 0 := (by rw [← hE]; kernel_rfl); clear hE; go_simp⟩) ?_
        refine wpAnyZ_end (by kernel_rfl) ?_ _
        try simp only [put_lit, put_none, List.set_cons_zero, List.set_cons_succ]
        go_wp2_with fail
        go_meet
        case rel => exact ⟨A2, c2, w3.heap.size, rfl, o3.alloc' _, CellsAt.alloc hi _, fun a ha => by have := hnew a ha; have := o2.size; omega, Bk.new w3 32 _, o3.size⟩
      · refine wpOp_runD (w' := w2.alloc (.cells #[.int .i64 0, .int .i64 0, .string ByteArray.empty, .slice none 0 0] 32)) (some 7) (.pointer (some ⟨w2.heap.size, 0, none⟩)) rfl rfl rfl (by go_simp; try rfl) ⟨.inr fun h => h.alloc' _, ?_⟩
        refine wpAnyZ_one 7 (by kernel_rfl) ?_
        refine wpOp_callD (some 31) rfl rfl (by kernel_rfl) 69 _ Try.func69 (by kernel_rfl) (by kernel_rfl) [.tmp 29, .tmp 30] #[114, 23] rfl [.pointer (some ⟨gx, 0, none⟩), .agg #[.int .i64 c, .int .i64 s, .int .i64 k, .int .i64 i, .int .i64 m, .string d]] (by kernel_rfl) (cA.out _ _ gx (p2.old ((Old.refl' _).alloc' _))) ?_
        rintro e w3 ⟨A2, c2, rfl, hi, hnew, hb3⟩
        refine ⟨_, rfl, .inr fun h => h.trans' hb3, ?_⟩
        have o3 : Old WB w3 := (o2.alloc' _).trans' hb3
        have hk8 : Bk w3 w2.heap.size 32 #[.int .i64 0, .int .i64 0, .string ByteArray.empty, .slice none 0 0] := (Bk.new w2 32 #[.int .i64 0, .int .i64 0, .string ByteArray.empty, .slice none 0 0]).old hb3
        obtain ⟨⟨r0, r1, r2, r3⟩, ⟨v0, v1, v2, v3⟩, l8⟩ := bk4 hk8
        have hbl : WB.heap.size ≤ w2.heap.size := o2.size
        have hne : ∀ a, A2 = some a → a.block ≠ w2.heap.size := fun a ha => by have := hnew a ha; simp at this; omega
        refine wpAnyZ_pureD 8 (some 23) (.tuple #[.agg #[.int .i64 R.code, .int .i64 R.ver, .string R.data, .slice A2 nR c2], .int .i64 0]) rfl rfl (by kernel_rfl) (by kernel_rfl) (by kernel_rfl) (fun _ _ _ h => h) (Or.inl ⟨by kernel_rfl, fun w _ => by generalize hE : Act.eval _ = E; have e0 : E (.tmp 31) = .tuple #[.agg #[.int .i64 R.code, .int .i64 R.ver, .string R.data, .slice A2 nR c2], .int .i64 0] := (by rw [← hE]; kernel_rfl); clear hE; go_simp⟩) ?_
        refine wpAnyZ_pureD 9 (some 32) (.agg #[.int .i64 R.code, .int .i64 R.ver, .string R.data, .slice A2 nR c2]) rfl rfl (by kernel_rfl) (by kernel_rfl) (by kernel_rfl) (fun _ _ _ h => h) (Or.inl ⟨by kernel_rfl, fun w _ => by generalize hE : Act.eval _ = E; have e0 : E (.tmp 23) = .tuple #[.agg #[.int .i64 R.code, .int .i64 R.ver, .string R.data, .slice A2 nR c2], .int .i64 0] := (by rw [← hE]; kernel_rfl); clear hE; go_simp⟩) ?_
        refine wpAnyZ_pureD 10 (some 33) (.int .i64 0) rfl rfl (by kernel_rfl) (by kernel_rfl) (by kernel_rfl) (fun _ _ _ h => h) (Or.inl ⟨by kernel_rfl, fun w _ => by generalize hE : Act.eval _ = E; have e0 : E (.tmp 23) = .tuple #[.agg #[.int .i64 R.code, .int .i64 R.ver, .string R.data, .slice A2 nR c2], .int .i64 0] := (by rw [← hE]; kernel_rfl); clear hE; go_simp⟩) ?_
        refine wpAnyZ_one 12 (by kernel_rfl) ?_
        simp only [put_lit, put_none, List.set_cons_zero, List.set_cons_succ]
        refine wpOp_mk rfl rfl ?_
        go_simp
        refine wpAnyZ_pureD 13 (some 8) (.int .i64 0) rfl rfl (by kernel_rfl) (by kernel_rfl) (by kernel_rfl) (fun _ _ _ h => h) (Or.inl ⟨by kernel_rfl, fun w _ => by generalize hE : Act.eval _ = E; have e0 : E (.tmp 33) = .int .i64 0 := (by rw [← hE]; kernel_rfl); clear hE; go_simp⟩) ?_
        refine wpAnyZ_end (by kernel_rfl) ?_ _
        try simp only [put_lit, put_none, List.set_cons_zero, List.set_cons_succ]
        go_wp2_with fail
        go_meet
        case rel => exact ⟨A2, c2, w2.heap.size, rfl, Old.setCell' (Old.setCell' (Old.setCell' (Old.setCell' o3 hbl _) hbl _) hbl _) hbl _, (((CellsAt.set_ hi hne _).set_ hne _).set_ hne _).set_ hne _, fun a ha => by have h1 := hnew a ha; have h2 := o2.size; (try simp at h1); omega, Bk.set4 hk8, hbl⟩
    · refine wpOp_runD (w' := WB.drew.alloc (.cells #[.int .i64 0, .int .i64 0, .string ByteArray.empty, .slice none 0 0] 32)) (some 7) (.pointer (some ⟨WB.drew.heap.size, 0, none⟩)) rfl rfl rfl (by go_simp; try rfl) ⟨.inr fun h => h.alloc' _, ?_⟩
      refine wpAnyZ_one 5 (by kernel_rfl) ?_
      refine wpOp_callD (some 29) rfl rfl (by kernel_rfl) 65 _ Try.func65 (by kernel_rfl) (by kernel_rfl) [.tmp 24, .tmp 28] #[58, 3] rfl [.pointer (some ⟨x, 0, none⟩), .int .i64 n] (by kernel_rfl) (cF.out _ ((Old.refl' WB).drew'.alloc' _)) ?_
      rintro e w2 ⟨gx, rfl, p2⟩
      refine ⟨_, rfl, .inr fun h => h.trans' p2.o, ?_⟩
      have o2 : Old WB w2 := ((Old.refl' WB).drew'.alloc' _).trans' p2.o
      have hk7 : Bk w2 WB.heap.size 32 #[.int .i64 0, .int .i64 0, .string ByteArray.empty, .slice none 0 0] := (Bk.new WB.drew 32 #[.int .i64 0, .int .i64 0, .string ByteArray.empty, .slice none 0 0]).old p2.o
      refine wpAnyZ_one 7 (by kernel_rfl) ?_
      refine wpOp_callD (some 31) rfl rfl (by kernel_rfl) 69 _ Try.func69 (by kernel_rfl) (by kernel_rfl) [.tmp 29, .tmp 30] #[114, 23] rfl [.pointer (some ⟨gx, 0, none⟩), .agg #[.int .i64 c, .int .i64 s, .int .i64 k, .int .i64 i, .int .i64 m, .string d]] (by kernel_rfl) (cA.out _ _ gx p2) ?_
      rintro e w3 ⟨A2, c2, rfl, hi, hnew, hb3⟩
      refine ⟨_, rfl, .inr fun h => h.trans' hb3, ?_⟩
      have o3 : Old WB w3 := o2.trans' hb3
      have hk8 := hk7.old hb3
      obtain ⟨⟨r0, r1, r2, r3⟩, ⟨v0, v1, v2, v3⟩, l8⟩ := bk4 hk8
      have hbl : WB.heap.size ≤ WB.heap.size := Nat.le_refl _
      have hne : ∀ a, A2 = some a → a.block ≠ WB.heap.size := fun a ha => by have := hnew a ha; have := hk7.lt; omega
      refine wpAnyZ_pureD 8 (some 23) (.tuple #[.agg #[.int .i64 R.code, .int .i64 R.ver, .string R.data, .slice A2 nR c2], .int .i64 0]) rfl rfl (by kernel_rfl) (by kernel_rfl) (by kernel_rfl) (fun _ _ _ h => h) (Or.inl ⟨by kernel_rfl, fun w _ => by generalize hE : Act.eval _ = E; have e0 : E (.tmp 31) = .tuple #[.agg #[.int .i64 R.code, .int .i64 R.ver, .string R.data, .slice A2 nR c2], .int .i64 0] := (by rw [← hE]; kernel_rfl); clear hE; go_simp⟩) ?_
      refine wpAnyZ_pureD 9 (some 32) (.agg #[.int .i64 R.code, .int .i64 R.ver, .string R.data, .slice A2 nR c2]) rfl rfl (by kernel_rfl) (by kernel_rfl) (by kernel_rfl) (fun _ _ _ h => h) (Or.inl ⟨by kernel_rfl, fun w _ => by generalize hE : Act.eval _ = E; have e0 : E (.tmp 23) = .tuple #[.agg #[.int .i64 R.code, .int .i64 R.ver, .string R.data, .slice A2 nR c2], .int .i64 0] := (by rw [← hE]; kernel_rfl); clear hE; go_simp⟩) ?_
      refine wpAnyZ_pureD 10 (some 33) (.int .i64 0) rfl rfl (by kernel_rfl) (by kernel_rfl) (by kernel_rfl) (fun _ _ _ h => h) (Or.inl ⟨by kernel_rfl, fun w _ => by generalize hE : Act.eval _ = E; have e0 : E (.tmp 23) = .tuple #[.agg #[.int .i64 R.code, .int .i64 R.ver, .string R.data, .slice A2 nR c2], .int .i64 0] := (by rw [← hE]; kernel_rfl); clear hE; go_simp⟩) ?_
      refine wpAnyZ_one 12 (by kernel_rfl) ?_
      simp only [put_lit, put_none, List.set_cons_zero, List.set_cons_succ]
      refine wpOp_mk rfl rfl ?_
      go_simp
      refine wpAnyZ_pureD 13 (some 8) (.int .i64 0) rfl rfl (by kernel_rfl) (by kernel_rfl) (by kernel_rfl) (fun _ _ _ h => h) (Or.inl ⟨by kernel_rfl, fun w _ => by generalize hE : Act.eval _ = E; have e0 : E (.tmp 33) = .int .i64 0 := (by rw [← hE]; kernel_rfl); clear hE; go_simp⟩) ?_
      refine wpAnyZ_end (by kernel_rfl) ?_ _
      try simp only [put_lit, put_none, List.set_cons_zero, List.set_cons_succ]
      go_wp2_with fail
      go_meet
      case rel => exact ⟨A2, c2, WB.heap.size, rfl, Old.setCell' (Old.setCell' (Old.setCell' (Old.setCell' o3 hbl _) hbl _) hbl _) hbl _, (((CellsAt.set_ hi hne _).set_ hne _).set_ hne _).set_ hne _, fun a ha => by have h1 := hnew a ha; have h2 := o2.size; (try simp at h1); omega, Bk.set4 hk8, hbl⟩
  case rest =>
    obtain ⟨W4, rfl⟩ : ∃ W, W = wc := ⟨_, rfl⟩
    obtain ⟨A2, c2, b5, rfl, o4, hi, hnew, k5, hb5⟩ := hcut
    have k4 := kr.old o4
    have hl1 := HL1.out
    have hne : ∀ a, A2 = some a → a.block ≠ w.heap.size + 1 := fun a ha => by have := hnew a ha; omega
    have hZ := hide (fun (W : World) (hW : Old W4 W) => (⟨(bk4 (k5.old hW)).1, (hY.out W (o4.trans' hW)).2⟩ : _ ∧ W.cell? ⟨x, 2, none⟩ = some (.int .i64 n)))
    have HO := hide (HO1.out.trans' o4)
    clear cA cF hX hnew kr hbb
    go_wp2_with fail
    refine region_steps (R := pick [eqv (.agg #[.int .i64 R.code, .int .i64 R.ver, .string R.data, .slice A2 nR c2]), eqv (.pointer (some ⟨x, 0, none⟩)), eqv (.pointer (some ⟨x, 0, none⟩)), eqv (.pointer (some ⟨x, 2, none⟩)), eqv (.int .i64 n), eqv (undef), eqv (.int .i64 n), eqv (.int .i64 0)]) (S := fun σ w' => (σ 5 = none → Old W4 w') ∧ (σ 5 ≠ none → Old w w' ∧ Bk w' (w.heap.size + 1) 32 #[.int .i64 R.code, .int .i64 R.ver, .string R.data, .slice A2 nR c2] ∧ IntsAt w' A2 R.vs) ∧ w'.cell? ⟨x, 2, none⟩ = some (.int .i64 n)) (T := (fun _ _ => True)) (by kernel_rfl) (by kernel_rfl) (by kernel_rfl) (Stab.pick (Stab.eqv (Stab.eqv (Stab.eqv (Stab.eqv (Stab.eqv (Stab.eqv (Stab.eqv (Stab.eqv (Stab.nil)))))))))) (⟨fun _ => (Old.refl' W4).drew', fun h => absurd rfl h, (hZ.out _ (Old.refl' W4)).2⟩) ?steps ?ends
    case steps =>
      refine StepsOk.cons (stepOk_pure [] [(7, .pointer (some ⟨b5, 0, none⟩))] rfl rfl (by kernel_rfl) (by kernel_rfl) rfl (fun _ => trivial) (fun σ v w h => by simpa [upd] using h) (fun d E w' hk hda hS hc hf => by rintro  e7; obtain ⟨⟨z0, z1, z2, z3⟩, -⟩ := hZ.out _ (hS.1 (hk 5 (by kernel_rfl))); exact ⟨_, by go_simp, rfl⟩)) ?_
      refine StepsOk.cons (stepOk_pure [] [(0, .pointer (some ⟨x, 0, none⟩))] rfl rfl (by kernel_rfl) (by kernel_rfl) rfl (fun _ => trivial) (fun σ v w h => by simpa [upd] using h) (fun d E w' hk hda hS hc hf => by rintro  e0; exact ⟨_, by go_simp, rfl⟩)) ?_
      refine StepsOk.cons (stepOk_pure [(1, 35)] [] rfl rfl (by kernel_rfl) (by kernel_rfl) rfl (fun _ => trivial) (fun σ v w h => by simpa [upd] using h) (fun d E w' hk hda hS hc hf => by rintro _ q1 rfl e35 ; exact ⟨_, by go_simp, rfl⟩)) ?_
      refine StepsOk.cons (stepOk_pure [(2, 36)] [] rfl rfl (by kernel_rfl) (by kernel_rfl) rfl (fun _ => trivial) (fun σ v w h => by simpa [upd] using h) (fun d E w' hk hda hS hc hf => by rintro _ q2 rfl e36 ; exact ⟨_, by go_simp, rfl⟩)) ?_
      refine StepsOk.cons (stepOk_pure [(3, 37)] [] rfl rfl (by kernel_rfl) (by kernel_rfl) rfl (fun _ => trivial) (fun σ v w h => by simpa [upd] using h) (fun d E w' hk hda hS hc hf => by rintro _ q3 rfl e37 ; obtain t2 := hS.2.2; exact ⟨_, by go_simp, rfl⟩)) ?_
      refine StepsOk.cons (stepOk_store [(0, 34)] [(4, .pointer (some ⟨w.heap.size + 1, 0, none⟩))] rfl rfl (by kernel_rfl) (by kernel_rfl) rfl (fun d E w' hk hda hS hc hf => by rintro _ q0 rfl e34 e4; have hW := hS.1 (hk 5 (by kernel_rfl)); have hbr := k4.old hW; obtain ⟨⟨a0, a1, a2, a3⟩, ⟨f0, f1, f2, f3⟩, la⟩ := bk4 hbr; exact ⟨((((w'.setCell ⟨w.heap.size + 1, 0, none⟩ (.int .i64 R.code)).setCell ⟨w.heap.size + 1, 1, none⟩ (.int .i64 R.ver)).setCell ⟨w.heap.size + 1, 2, none⟩ (.string R.data)).setCell ⟨w.heap.size + 1, 3, none⟩ (.slice A2 nR c2)), by go_simp, rfl, trivial, ⟨fun h => by simp [upd] at h, fun _ => ⟨old_set4 (HO.out.trans' hW) (Nat.le_succ _) _ _ _ _, Bk.set4 hbr, (((CellsAt.set_ (CellsAt.old hi hW) hne _).set_ hne _).set_ hne _).set_ hne _⟩, ((fr4 (Fr.refl (fun k => k = w.heap.size + 1) w')).cell (p := ⟨x, 2, none⟩) (Nat.lt_of_lt_of_le hxl (HO.out.trans' hW).size) (by show ¬ x = w.heap.size + 1; omega)).trans hS.2.2⟩⟩)) ?_
      refine StepsOk.cons (stepOk_pure [(4, 38)] [] rfl rfl (by kernel_rfl) (by kernel_rfl) rfl (fun _ => trivial) (fun σ v w h => by simpa [upd] using h) (fun d E w' hk hda hS hc hf => by rintro _ q4 rfl e38 ; exact ⟨_, by go_simp, rfl⟩)) ?_
      refine StepsOk.cons (stepOk_pure [] [] rfl rfl (by kernel_rfl) (by kernel_rfl) rfl (fun _ => trivial) (fun σ v w h => by simpa [upd] using h) (fun d E w' hk hda hS hc hf => by exact ⟨_, by go_simp, rfl⟩)) ?_
      exact StepsOk.nil
    case ends =>
      intro σ9 w9 hS9 hA9
      refine Ends.eqv (some 34) (.agg #[.int .i64 R.code, .int .i64 R.ver, .string R.data, .slice A2 nR c2]) rfl (fun _ h => h) ?_
      refine Ends.eqv (some 35) (.pointer (some ⟨x, 0, none⟩)) rfl (fun _ h => h) ?_
      refine Ends.eqv (some 36) (.pointer (some ⟨x, 0, none⟩)) rfl (fun _ h => h) ?_
      refine Ends.eqv (some 37) (.pointer (some ⟨x, 2, none⟩)) rfl (fun _ h => h) ?_
      refine Ends.eqv (some 38) (.int .i64 n) rfl (fun _ h => h) ?_
      refine Ends.eqv none (undef) rfl (fun _ h => h) ?_
      refine Ends.eqv (some 5) (.int .i64 n) rfl (fun _ h => h) ?_
      refine Ends.eqv (some 6) (.int .i64 0) rfl (fun _ h => h) ?_
      refine Ends.nil ?_
      have hA9' := hA9
      clear hA9
      simp only [put_lit, put_none, List.set_cons_zero, List.set_cons_succ]
      have h9 := hS9.2.1 (by have := hA9' 5 (by simp); intro e; rw [e] at this; simp at this)
      clear hS9 hA9'
      obtain ⟨ho9, hk9, hi9⟩ := h9
      have HI := hide hi9
      clear hi9
      obtain ⟨⟨u0, u1, u2, u3⟩, -, lz⟩ := bk4 hk9
      go_wp2_with fail
      refine bodyPost_ret (v := .tuple #[.agg #[.int .i64 R.code, .int .i64 R.ver, .string R.data, .slice A2 nR c2], .int .i64 n, .int .i64 0]) ?_ rfl ⟨A2, c2, rfl, HI.out, ho9⟩
      simp [results, Try.results38, go_sem, *]
/-- the document's Read, whatever is asked -/
theorem XRead_at (x : Nat) (F : Nat → Prop) (l : LnV) (hfew : l.qs.length ≤ 50000) (hkl : l.k ≤ l.qs.length) (q : ReqV) (R : Rep) (hR : l.dR q = R) (nR : Nat) (hnR : R.vs.length = nR) (AT E : Int) (hA : (l.dA q : Int) = AT) (hE : l.dE q = E) (w : World) (h : XlAt w x F l) :
    Calls Try.prog 38 #[.pointer (some ⟨x, 0, none⟩), .agg #[.int .i64 q.client, .int .i64 q.seq, .int .i64 q.kind, .int .i64 q.id, .int .i64 q.mat, .string q.data]] w fun e w' => ∃ A2 c2, e = .returned (.tuple #[.agg #[.int .i64 R.code, .int .i64 R.ver, .string R.data, .slice A2 nR c2], .int .i64 AT, .int .i64 E]) ∧ IntsAt w' A2 R.vs ∧ Old w w' := by
  by_cases hq : askOk q.q = true
  · by_cases hc : l.clean q.id = true
    · have e1 : l.dR q = l.st.ask q.q := by unfold LnV.dR; rw [if_pos hq, if_pos hc]
      have e2 : l.dA q = l.k := by unfold LnV.dA; rw [if_pos hq, if_pos hc]
      have e3 : l.dE q = 0 := by unfold LnV.dE; rw [if_pos hq, if_pos hc]
      rw [e2] at hA
      rw [e3] at hE
      subst hA hE
      exact XRead_yes x F l hfew hkl q hq hc R (by rw [← e1]; exact hR) nR hnR l.k rfl w h
    · have e1 : l.dR q = Rep.zero := by unfold LnV.dR; rw [if_pos hq, if_neg hc]
      have e2 : l.dA q = 0 := by unfold LnV.dA; rw [if_pos hq, if_neg hc]
      have e3 : l.dE q = 4 := by unfold LnV.dE; rw [if_pos hq, if_neg hc]
      rw [e1] at hR
      rw [e2] at hA
      rw [e3] at hE
      subst hR hnR hA hE
      exact (XRead_state x F l hfew q hq (by simpa using hc) w h).mono fun e w' ⟨he, hb⟩ => ⟨none, 0, he, CellsAt.nil _ _, hb⟩
  · have e1 : l.dR q = Rep.zero := by unfold LnV.dR; rw [if_neg hq]
    have e2 : l.dA q = 0 := by unfold LnV.dA; rw [if_neg hq]
    have e3 : l.dE q = 1 := by unfold LnV.dE; rw [if_neg hq]
    rw [e1] at hR
    rw [e2] at hA
    rw [e3] at hE
    subst hR hnR hA hE
    exact (XRead_arg x q (by simpa using hq) w).mono fun e w' ⟨he, hb⟩ => ⟨none, 0, he, CellsAt.nil _ _, hb⟩
end Go.Proofs.Ytmhnlpilbbfgnaa
