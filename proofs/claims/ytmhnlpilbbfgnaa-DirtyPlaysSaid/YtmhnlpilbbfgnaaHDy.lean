/- line.Line.Read; dirty: Clean, Read. -/
import Derived.Deep.CutBlock
import Derived.Test.YtmhnlpilbbfgnaaHLnU
namespace Go.Proofs.Ytmhnlpilbbfgnaa
open Go.RowKit

/-- are all requests for a resource committed? -/
def LnV.clean (l : LnV) (i : Int) : Bool := decide (0 ≤ i) && decide (i ≤ 31) && decide (lastAt l.qs i ≤ l.k)
/-- what dirty.Read tells: a reply, a place, an error -/
def LnV.dR (l : LnV) (q : ReqV) : Rep := if askOk q.q then (if l.clean q.id then l.st.ask q.q else Rep.zero) else Rep.zero
def LnV.dE (l : LnV) (q : ReqV) : Int := if askOk q.q then (if l.clean q.id then 0 else 4) else 1
def LnV.dA (l : LnV) (q : ReqV) : Nat := if askOk q.q then (if l.clean q.id then l.k else 0) else 0

set_option maxHeartbeats 400000 in
theorem Clean_in (g j : Nat) (hj : j < 32) (b : Bool) (F : Nat → Prop) (l : LnV) (hb : decide (lastAt l.qs j ≤ l.k) = b) (w : World) (h : LnAt w g F l) :
    Calls Try.prog 37 #[.pointer (some ⟨g, 0, none⟩), .int .i64 j] w fun e w' => e = .returned (.bool b) ∧ w = w' := by
  obtain ⟨m, hm⟩ : ∃ m, lastAt l.qs j = m := ⟨_, rfl⟩
  obtain ⟨k, hk⟩ : ∃ k, l.k = k := ⟨_, rfl⟩
  have cL := hide (by have := Last_ln g j hj F l w h; rwa [hm] at this)
  have cC := hide (Com_ln g F l k hk w h)
  have h0 : (0 : Int) ≤ j := by omega
  have h1 : (j : Int) ≤ 31 := by omega
  rw [hm, hk] at hb
  subst hb
  clear h hm hk hj
  go_enter Try.func37, Try.ntmps37
  go_wp2_with (first
    | (go_at_call 22; refine cL.out.mono ?_; rintro e w1 ⟨rfl, rfl⟩)
    | (go_at_call 19; refine cC.out.mono ?_; rintro e w2 ⟨rfl, rfl⟩))
  go_ret
  exact ⟨rfl, rfl⟩
set_option maxHeartbeats 400000 in
theorem Clean_out (p : Option Addr) (c : Int) (hc : p = none ∨ ¬ (0 ≤ c ∧ c ≤ 31)) (w : World) :
    Calls Try.prog 37 #[.pointer p, .int .i64 c] w fun e w' => e = .returned (.bool false) ∧ w = w' := by
  by_cases h1 : 0 ≤ c <;> by_cases h2 : c ≤ 31 <;> rcases hc with rfl | hc
  all_goals first | (exfalso; omega) | skip
  all_goals try clear hc
  all_goals try (cases p)
  all_goals
    go_enter Try.func37, Try.ntmps37
    go_wp2
    go_ret
    exact ⟨rfl, rfl⟩
theorem Clean_ln (g : Nat) (i : Int) (b : Bool) (F : Nat → Prop) (l : LnV) (hb : l.clean i = b) (w : World) (h : LnAt w g F l) :
    Calls Try.prog 37 #[.pointer (some ⟨g, 0, none⟩), .int .i64 i] w fun e w' => e = .returned (.bool b) ∧ w = w' := by
  by_cases hi : 0 ≤ i ∧ i ≤ 31
  · obtain ⟨j, rfl⟩ : ∃ j : Nat, i = j := ⟨i.toNat, by omega⟩
    refine Clean_in g j (by omega) b F l ?_ w h
    rw [← hb]
    unfold LnV.clean
    rw [decide_eq_true hi.1, decide_eq_true hi.2]
    rfl
  · have : b = false := by
      rw [← hb]
      unfold LnV.clean
      by_cases h0 : 0 ≤ i
      · rw [decide_eq_false (fun h1 => hi ⟨h0, h1⟩)]; simp
      · rw [decide_eq_false h0]; rfl
    subst this
    exact Clean_out _ i (.inr hi) w

/-- behind Line.Read's question -/
def AfterAsk (WB w' : World) (nR : Nat) (R : Rep) (v5 : Value) : Prop := ∃ A2 c2 b, v5 = .pointer (some ⟨b, 0, none⟩) ∧ Old WB w' ∧ IntsAt w' A2 R.vs ∧ (∀ a, A2 = some a → WB.heap.size ≤ a.block) ∧ Bk w' b 32 #[.int .i64 R.code, .int .i64 R.ver, .string R.data, .slice A2 nR c2] ∧ WB.heap.size ≤ b
set_option maxRecDepth 100000 in
set_option maxHeartbeats 2000000 in
theorem LRead_ln (g : Nat) (F : Nat → Prop) (l : LnV) (q : ReqV) (R : Rep) (hR : l.st.ask q.q = R) (nR : Nat) (hnR : R.vs.length = nR) (hfew : l.qs.length ≤ 50000) (w : World) (h : LnAt w g F l) :
    Calls Try.prog 66 #[.pointer (some ⟨g, 0, none⟩), .agg #[.int .i64 q.client, .int .i64 q.seq, .int .i64 q.kind, .int .i64 q.id, .int .i64 q.mat, .string q.data]] w fun e w' =>
      ∃ A2 c2, e = .returned (.agg #[.int .i64 R.code, .int .i64 R.ver, .string R.data, .slice A2 nR c2]) ∧ IntsAt w' A2 R.vs ∧ (∀ a, A2 = some a → w.heap.size ≤ a.block) ∧ Old w w' := by
  obtain ⟨A, ca, gs, Fs, B, cb, rs, hs⟩ := h.see rfl
  have s0 := hs.s0
  have hgl := hs.gl
  obtain ⟨ER, hE⟩ : ∃ E, (if askOk q.q then (0 : Int) else 1) = E := ⟨_, rfl⟩
  have cA := hide (fun (W : World) (hW : Old w W) => by have := Ask_stN gs Fs l.st q.q (by rw [LnV.st_n h.ok h.kl]; have := h.kl; omega) nR (by rw [hR]; exact hnR) W (hs.sto.old hW); rw [hR, hE] at this; exact this)
  obtain ⟨c, s, k, i, m, d⟩ := q
  simp only [ReqV.q, Q.v] at cA ⊢
  clear h hs hR hnR hE hfew
  have kq := (Bk.new w 23 #[.int .i64 c, .int .i64 s, .int .i64 k, .int .i64 i, .int .i64 m, .string d]).alloc (.cells #[.int .i64 0, .int .i64 0, .string { data := #[] }, .slice none 0 0] 32)
  have kr := bk_new1 w (.cells #[.int .i64 c, .int .i64 s, .int .i64 k, .int .i64 i, .int .i64 m, .string d] 23) 32 #[.int .i64 0, .int .i64 0, .string { data := #[] }, .slice none 0 0]
  have o1 : Old w ((w.alloc (.cells #[.int .i64 c, .int .i64 s, .int .i64 k, .int .i64 i, .int .i64 m, .string d] 23)).alloc (.cells #[.int .i64 0, .int .i64 0, .string { data := #[] }, .slice none 0 0] 32)) := ((Old.refl' w).alloc' _).alloc' _
  have hsz : ((w.alloc (.cells #[.int .i64 c, .int .i64 s, .int .i64 k, .int .i64 i, .int .i64 m, .string d] 23)).alloc (.cells #[.int .i64 0, .int .i64 0, .string { data := #[] }, .slice none 0 0] 32)).heap.size = w.heap.size + 2 := by simp
  go_enter Try.func66, Try.ntmps66
  go_wp2_with fail
  obtain ⟨WB, hWB⟩ : ∃ W, (w.alloc (.cells #[.int .i64 c, .int .i64 s, .int .i64 k, .int .i64 i, .int .i64 m, .string d] 23)).alloc (.cells #[.int .i64 0, .int .i64 0, .string { data := #[] }, .slice none 0 0] 32) = W := ⟨_, rfl⟩
  rw [hWB] at kq kr o1 hsz
  simp only [hWB]
  clear hWB
  have HSZ := hide hsz
  clear hsz
  have hX := hide (fun (W : World) (hW : Old WB W) => (⟨(bk6 (kq.old hW)).1, (((o1.trans' hW).cell (p := ⟨g, 38, none⟩) hgl).trans s0)⟩ : _ ∧ W.cell? ⟨g, 38, none⟩ = some (.pointer (some ⟨gs, 0, none⟩))))
  have cA := hide (fun (W : World) (hW : Old WB W) => cA.out W (o1.trans' hW))
  clear s0
  go_cut [5, 6] from 7 to 15 (fun v5 _ w' => AfterAsk WB w' nR R v5)
  case first =>
    refine wp_region_Z (S := fun w' => Old WB w') (Z := ([10] : List Nat).contains) (by kernel_rfl) ?_
    refine wpAnyZ_pureD 0 (some 8) (.pointer (some ⟨g, 0, none⟩)) rfl rfl (by kernel_rfl) (by kernel_rfl) (by kernel_rfl) (fun _ _ _ h => h) (Or.inl ⟨by kernel_rfl, fun w _ => by generalize hE : Act.eval _ = E; have e0 : E (.tmp 0) = .pointer (some ⟨g, 0, none⟩) := (by rw [← hE]; kernel_rfl); clear hE; go_simp⟩) ?_
    refine wpAnyZ_pureD 1 (some 9) (.pointer (some ⟨g, 0, none⟩)) rfl rfl (by kernel_rfl) (by kernel_rfl) (by kernel_rfl) (fun _ _ _ h => h) (Or.inl ⟨by kernel_rfl, fun w _ => by generalize hE : Act.eval _ = E; have e0 : E (.tmp 8) = .pointer (some ⟨g, 0, none⟩) := (by rw [← hE]; kernel_rfl); clear hE; go_simp⟩) ?_
    refine wpAnyZ_pureD 2 (some 10) (.pointer (some ⟨g, 38, none⟩)) rfl rfl (by kernel_rfl) (by kernel_rfl) (by kernel_rfl) (fun _ _ _ h => h) (Or.inl ⟨by kernel_rfl, fun w _ => by generalize hE : Act.eval _ = E; have e0 : E (.tmp 9) = .pointer (some ⟨g, 0, none⟩) := (by rw [← hE]; kernel_rfl); clear hE; go_simp⟩) ?_
    refine wpAnyZ_takeD 3 (some 11) (.pointer (some ⟨gs, 0, none⟩)) rfl rfl (by kernel_rfl) (by kernel_rfl) (by kernel_rfl) (by kernel_rfl) (fun _ _ _ h => h) (Or.inl ⟨by kernel_rfl, fun w' hS => by obtain ⟨⟨s0, s1, s2, s3, s4, s5⟩, t0⟩ := hX.out _ hS; generalize hE : Act.eval _ = E; have e0 : E (.tmp 10) = .pointer (some ⟨g, 38, none⟩) := (by rw [← hE]; kernel_rfl); clear hE; go_simp⟩) (by exact (Old.refl' WB).drew') ?_
    refine wpAnyZ_takeD 4 (some 12) (.agg #[.int .i64 c, .int .i64 s, .int .i64 k, .int .i64 i, .int .i64 m, .string d]) rfl rfl (by kernel_rfl) (by kernel_rfl) (by kernel_rfl) (by kernel_rfl) (fun _ _ _ h => h) (Or.inl ⟨by kernel_rfl, fun w' hS => by obtain ⟨⟨s0, s1, s2, s3, s4, s5⟩, t0⟩ := hX.out _ hS; generalize hE : Act.eval _ = E; have e0 : E (.tmp 3) = .pointer (some ⟨w.heap.size, 0, none⟩) := (by rw [← hE]; kernel_rfl); clear hE; go_simp⟩) (by exact (Old.refl' WB).drew') ?_
    refine wpAnyZ_all (rs := [5, 9]) (by kernel_rfl) (by simp) ?_
    intro j hj
    simp only [List.mem_cons, List.not_mem_nil, or_false] at hj
    rcases hj with rfl | rfl
    · refine wpOp_callD (some 13) rfl rfl (by kernel_rfl) 87 _ Try.func87 (by kernel_rfl) (by kernel_rfl) [.tmp 11, .tmp 12] #[48, 23] rfl [.pointer (some ⟨gs, 0, none⟩), .agg #[.int .i64 c, .int .i64 s, .int .i64 k, .int .i64 i, .int .i64 m, .string d]] (by kernel_rfl) (cA.out _ (Old.refl' WB).drew') ?_
      rintro e w3 ⟨A2, c2, rfl, hi, hnew, hb3⟩
      refine ⟨_, rfl, .inr fun h => h.trans' hb3, ?_⟩
      refine wpAnyZ_pureD 6 (some 7) (.tuple #[.agg #[.int .i64 R.code, .int .i64 R.ver, .string R.data, .slice A2 nR c2], .int .i64 ER]) rfl rfl (by kernel_rfl) (by kernel_rfl) (by kernel_rfl) (fun _ _ _ h => h) (Or.inl ⟨by kernel_rfl, fun w _ => by generalize hE : Act.eval _ = E; have e0 : E (.tmp 13) = .tuple #[.agg #[.int .i64 R.code, .int .i64 R.ver, .string R.data, .slice A2 nR c2], .int .i64 ER] := (by rw [← hE]; kernel_rfl); clear hE; go_simp⟩) ?_
      refine wpAnyZ_pureD 7 (some 14) (.agg #[.int .i64 R.code, .int .i64 R.ver, .string R.data, .slice A2 nR c2]) rfl rfl (by kernel_rfl) (by kernel_rfl) (by kernel_rfl) (fun _ _ _ h => h) (Or.inl ⟨by kernel_rfl, fun w _ => by generalize hE : Act.eval _ = E; have e0 : E (.tmp 7) = .tuple #[.agg #[.int .i64 R.code, .int .i64 R.ver, .string R.data, .slice A2 nR c2], .int .i64 ER] := (by rw [← hE]; kernel_rfl); clear hE; go_simp⟩) ?_
      refine wpAnyZ_pureD 8 (some 15) (.int .i64 ER) rfl rfl (by kernel_rfl) (by kernel_rfl) (by kernel_rfl) (fun _ _ _ h => h) (Or.inl ⟨by kernel_rfl, fun w _ => by generalize hE : Act.eval _ = E; have e0 : E (.tmp 7) = .tuple #[.agg #[.int .i64 R.code, .int .i64 R.ver, .string R.data, .slice A2 nR c2], .int .i64 ER] := (by rw [← hE]; kernel_rfl); clear hE; go_simp⟩) ?_
      refine wpAnyZ_one 9 (by kernel_rfl) ?_
      refine wpOp_runD (w' := w3.alloc (.cells #[.int .i64 0, .int .i64 0, .string ByteArray.empty, .slice none 0 0] 32)) (some 5) (.pointer (some ⟨w3.heap.size, 0, none⟩)) rfl rfl rfl (by go_simp; try rfl) ⟨.inr fun h => h.alloc' _, ?_⟩
      refine wpAnyZ_one 10 (by kernel_rfl) ?_
      simp only [put_lit, put_none, List.set_cons_zero, List.set_cons_succ]
      refine wpOp_mk rfl rfl ?_
      go_simp
      refine wpAnyZ_pureD 11 (some 6) (.int .i64 ER) rfl rfl (by kernel_rfl) (by kernel_rfl) (by kernel_rfl) (fun _ _ _ h => h) (Or.inl ⟨by kernel_rfl, fun w _ => by generalize hE : Act.eval _ = E; have e0 : E (.tmp 15) = .int .i64 ER := (by rw [← hE]; kernel_rfl); clear hE; go_simp⟩) ?_
      refine wpAnyZ_end (by kernel_rfl) ?_ _
      try simp only [put_lit, put_none, List.set_cons_zero, List.set_cons_succ]
      go_wp2_with fail
      go_meet
      case rel => exact ⟨A2, c2, w3.heap.size, rfl, ((Old.refl' WB).drew'.trans' hb3).alloc' _, CellsAt.alloc hi _, fun a ha => by have := hnew a ha; simpa using this, Bk.new w3 32 _, by have := hb3.size; simpa using this⟩
    · refine wpOp_runD (w' := WB.drew.alloc (.cells #[.int .i64 0, .int .i64 0, .string ByteArray.empty, .slice none 0 0] 32)) (some 5) (.pointer (some ⟨WB.drew.heap.size, 0, none⟩)) rfl rfl rfl (by go_simp; try rfl) ⟨.inr fun h => h.alloc' _, ?_⟩
      refine wpAnyZ_one 5 (by kernel_rfl) ?_
      refine wpOp_callD (some 13) rfl rfl (by kernel_rfl) 87 _ Try.func87 (by kernel_rfl) (by kernel_rfl) [.tmp 11, .tmp 12] #[48, 23] rfl [.pointer (some ⟨gs, 0, none⟩), .agg #[.int .i64 c, .int .i64 s, .int .i64 k, .int .i64 i, .int .i64 m, .string d]] (by kernel_rfl) (cA.out _ ((Old.refl' WB).drew'.alloc' _)) ?_
      rintro e w3 ⟨A2, c2, rfl, hi, hnew, hb3⟩
      refine ⟨_, rfl, .inr fun h => h.trans' hb3, ?_⟩
      have hk8 : Bk w3 WB.heap.size 32 #[.int .i64 0, .int .i64 0, .string ByteArray.empty, .slice none 0 0] := (Bk.new WB.drew 32 #[.int .i64 0, .int .i64 0, .string ByteArray.empty, .slice none 0 0]).old hb3
      obtain ⟨⟨r0, r1, r2, r3⟩, ⟨v0, v1, v2, v3⟩, l8⟩ := bk4 hk8
      have hne : ∀ a, A2 = some a → a.block ≠ WB.heap.size := fun a ha => by have := hnew a ha; simp at this; omega
      refine wpAnyZ_pureD 6 (some 7) (.tuple #[.agg #[.int .i64 R.code, .int .i64 R.ver, .string R.data, .slice A2 nR c2], .int .i64 ER]) rfl rfl (by kernel_rfl) (by kernel_rfl) (by kernel_rfl) (fun _ _ _ h => h) (Or.inl ⟨by kernel_rfl, fun w _ => by generalize hE : Act.eval _ = E; have e0 : E (.tmp 13) = .tuple #[.agg #[.int .i64 R.code, .int .i64 R.ver, .string R.data, .slice A2 nR c2], .int .i64 ER] := (by rw [← hE]; kernel_rfl); clear hE; go_simp⟩) ?_
      refine wpAnyZ_pureD 7 (some 14) (.agg #[.int .i64 R.code, .int .i64 R.ver, .string R.data, .slice A2 nR c2]) rfl rfl (by kernel_rfl) (by kernel_rfl) (by kernel_rfl) (fun _ _ _ h => h) (Or.inl ⟨by kernel_rfl, fun w _ => by generalize hE : Act.eval _ = E; have e0 : E (.tmp 7) = .tuple #[.agg #[.int .i64 R.code, .int .i64 R.ver, .string R.data, .slice A2 nR c2], .int .i64 ER] := (by rw [← hE]; kernel_rfl); clear hE; go_simp⟩) ?_
      refine wpAnyZ_pureD 8 (some 15) (.int .i64 ER) rfl rfl (by kernel_rfl) (by kernel_rfl) (by kernel_rfl) (fun _ _ _ h => h) (Or.inl ⟨by kernel_rfl, fun w _ => by generalize hE : Act.eval _ = E; have e0 : E (.tmp 7) = .tuple #[.agg #[.int .i64 R.code, .int .i64 R.ver, .string R.data, .slice A2 nR c2], .int .i64 ER] := (by rw [← hE]; kernel_rfl); clear hE; go_simp⟩) ?_
      refine wpAnyZ_one 10 (by kernel_rfl) ?_
      simp only [put_lit, put_none, List.set_cons_zero, List.set_cons_succ]
      refine wpOp_mk rfl rfl ?_
      go_simp
      refine wpAnyZ_pureD 11 (some 6) (.int .i64 ER) rfl rfl (by kernel_rfl) (by kernel_rfl) (by kernel_rfl) (fun _ _ _ h => h) (Or.inl ⟨by kernel_rfl, fun w _ => by generalize hE : Act.eval _ = E; have e0 : E (.tmp 15) = .int .i64 ER := (by rw [← hE]; kernel_rfl); clear hE; go_simp⟩) ?_
      refine wpAnyZ_end (by kernel_rfl) ?_ _
      try simp only [put_lit, put_none, List.set_cons_zero, List.set_cons_succ]
      go_wp2_with fail
      go_meet
      case rel => exact ⟨A2, c2, WB.heap.size, rfl, Old.setCell' (Old.setCell' (Old.setCell' (Old.setCell' (((Old.refl' WB).drew'.alloc' _).trans' hb3) (Nat.le_refl _) _) (Nat.le_refl _) _) (Nat.le_refl _) _) (Nat.le_refl _) _, (((CellsAt.set_ hi hne _).set_ hne _).set_ hne _).set_ hne _, fun a ha => by have := hnew a ha; simp at this; omega, Bk.set4 hk8, Nat.le_refl _⟩
  case rest =>
    obtain ⟨W4, rfl⟩ : ∃ W, W = wc := ⟨_, rfl⟩
    obtain ⟨A2, c2, b5, rfl, o4, hi, hnew, k5, hb5⟩ := hcut
    have hsz := HSZ.out
    have k4 := kr.old o4
    obtain ⟨⟨a0, a1, a2, a3⟩, ⟨f0, f1, f2, f3⟩, la⟩ := bk4 k4
    obtain ⟨⟨z0, z1, z2, z3⟩, -, lz⟩ := bk4 k5
    have hne : ∀ a, A2 = some a → a.block ≠ w.heap.size + 1 := fun a ha => by have := hnew a ha; omega
    have HO := hide (o1.trans' o4)
    have HN := hide (fun a (ha : A2 = some a) => (by have := hnew a ha; omega : w.heap.size ≤ a.block))
    clear cA hX hnew o4 o1 kq kr k4 k5 hsz hb5 HSZ
    go_wp2_with fail
    refine bodyPost_ret (v := .agg #[.int .i64 R.code, .int .i64 R.ver, .string R.data, .slice A2 nR c2]) ?_ rfl ⟨A2, c2, rfl, ?_, HN.out, ?_⟩
    · simp [results, Try.results66, go_sem, *]
    · exact (((CellsAt.set_ hi hne _).set_ hne _).set_ hne _).set_ hne _
    · exact old_set4 HO.out (Nat.le_succ _) _ _ _ _

set_option maxRecDepth 100000 in
set_option maxHeartbeats 1000000 in
theorem DRead_arg (p : Option Addr) (q : ReqV) (hq : p = none ∨ askOk q.q = false) (w : World) :
    Calls Try.prog 35 #[.pointer p, .agg #[.int .i64 q.client, .int .i64 q.seq, .int .i64 q.kind, .int .i64 q.id, .int .i64 q.mat, .string q.data]] w fun e w' =>
      e = .returned (.tuple #[.agg #[.int .i64 0, .int .i64 0, .string ByteArray.empty, .slice none 0 0], .int .i64 0, .int .i64 1]) ∧ Old w w' := by
  obtain ⟨c, s, k, i, m, d⟩ := q
  simp only [ReqV.q] at hq
  cases p with
  | none =>
    clear hq
    go_enter Try.func35, Try.ntmps35
    go_wp2
    refine bodyPost_ret (v := .tuple #[.agg #[.int .i64 0, .int .i64 0, .string ByteArray.empty, .slice none 0 0], .int .i64 0, .int .i64 1]) ?_ rfl ⟨rfl, ?_⟩
    · simp [results, Try.results35, go_sem]
      try rfl
    · exact ((Old.refl' w).alloc' _).alloc' _
  | some a =>
    have hq : askOk ⟨c, s, k, i, m, d⟩ = false := by rcases hq with h | h; cases h; exact h
    obtain ⟨b1, h1⟩ : ∃ b, mayQ c s k i m d = b := ⟨_, rfl⟩
    have cM := hide (fun (W : World) => iMay_at c s k i m d b1 h1 W)
    have hX := hide (fun (W : World) (h : Old ((w.alloc (.cells #[.int .i64 c, .int .i64 s, .int .i64 k, .int .i64 i, .int .i64 m, .string d] 23)).alloc (.cells #[.int .i64 0, .int .i64 0, .string ByteArray.empty, .slice none 0 0] 32)) W) => boxed h)
    cases b1 with
    | false =>
      clear hq h1
      go_enter Try.func35, Try.ntmps35
      go_wp2_with (go_at_call 42; refine (cM.out _).mono ?_; rintro e w1 ⟨rfl, hb1⟩; obtain ⟨⟨x0, x1, x2, x3, x4, x5⟩, ⟨y0, y1, y2, y3⟩, ⟨f0, f1, f2, f3⟩, l1, o1⟩ := hX.out _ hb1)
      refine bodyPost_ret (v := .tuple #[.agg #[.int .i64 0, .int .i64 0, .string ByteArray.empty, .slice none 0 0], .int .i64 0, .int .i64 1]) ?_ rfl ⟨rfl, ?_⟩
      · simp [results, Try.results35, go_sem, *]
        try rfl
      · repeat (first | with_reducible exact o1 | with_reducible refine Old.setCell' ?_ (by simp) _)
    | true =>
      have hw : Writes k = true := by simpa [askOk, Q.may, h1] using hq
      have cW := hide (fun (W : World) => iWrites_at c s k i m d true hw W)
      clear hq h1 hw
      go_enter Try.func35, Try.ntmps35
      go_wp2_with (first
        | (go_at_call 42; refine (cM.out _).mono ?_; rintro e w1 ⟨rfl, hb1⟩; obtain ⟨⟨x0, x1, x2, x3, x4, x5⟩, -, -, l1, o1⟩ := hX.out _ hb1)
        | (go_at_call 43; refine (cW.out _).mono ?_; rintro e w2 ⟨rfl, hb2⟩; obtain ⟨-, ⟨y0, y1, y2, y3⟩, ⟨f0, f1, f2, f3⟩, l2, o2⟩ := hX.out _ (hb1.trans' hb2)))
      refine bodyPost_ret (v := .tuple #[.agg #[.int .i64 0, .int .i64 0, .string ByteArray.empty, .slice none 0 0], .int .i64 0, .int .i64 1]) ?_ rfl ⟨rfl, ?_⟩
      · simp [results, Try.results35, go_sem, *]
        try rfl
      · repeat (first | with_reducible exact o2 | with_reducible refine Old.setCell' ?_ (by simp) _)
set_option maxRecDepth 100000 in
set_option maxHeartbeats 1000000 in
theorem DRead_state (g : Nat) (F : Nat → Prop) (l : LnV) (q : ReqV) (hq : askOk q.q = true) (hc : l.clean q.id = false) (w : World) (h : LnAt w g F l) :
    Calls Try.prog 35 #[.pointer (some ⟨g, 0, none⟩), .agg #[.int .i64 q.client, .int .i64 q.seq, .int .i64 q.kind, .int .i64 q.id, .int .i64 q.mat, .string q.data]] w fun e w' =>
      e = .returned (.tuple #[.agg #[.int .i64 0, .int .i64 0, .string ByteArray.empty, .slice none 0 0], .int .i64 0, .int .i64 4]) ∧ Old w w' := by
  obtain ⟨c, s, k, i, m, d⟩ := q
  simp only [ReqV.q, askOk, Q.may, Bool.and_eq_true, Bool.not_eq_true'] at hq
  obtain ⟨h1, h2⟩ := hq
  have cM := hide (fun (W : World) => iMay_at c s k i m d true h1 W)
  have cW := hide (fun (W : World) => iWrites_at c s k i m d false h2 W)
  have cC := hide (fun (W : World) (hW : Old w W) => Clean_ln g i false F l hc W (h.old hW))
  have hX := hide (fun (W : World) (h : Old ((w.alloc (.cells #[.int .i64 c, .int .i64 s, .int .i64 k, .int .i64 i, .int .i64 m, .string d] 23)).alloc (.cells #[.int .i64 0, .int .i64 0, .string ByteArray.empty, .slice none 0 0] 32)) W) => boxed h)
  clear h1 h2 hc h
  go_enter Try.func35, Try.ntmps35
  go_wp2_with (first
    | (go_at_call 42; refine (cM.out _).mono ?_; rintro e w1 ⟨rfl, hb1⟩; obtain ⟨⟨x0, x1, x2, x3, x4, x5⟩, -, -, l1, o1⟩ := hX.out _ hb1)
    | (go_at_call 43; refine (cW.out _).mono ?_; rintro e w2 ⟨rfl, hb2⟩; clear x0 x1 x2 x3 x4 x5 l1 o1; obtain ⟨⟨x0, x1, x2, x3, x4, x5⟩, ⟨y0, y1, y2, y3⟩, ⟨f0, f1, f2, f3⟩, l1, o1⟩ := hX.out _ (hb1.trans' hb2))
    | (go_at_call 37; refine (cC.out _ o1).mono ?_; rintro e w3 ⟨rfl, rfl⟩))
  refine bodyPost_ret (v := .tuple #[.agg #[.int .i64 0, .int .i64 0, .string ByteArray.empty, .slice none 0 0], .int .i64 0, .int .i64 4]) ?_ rfl ⟨rfl, ?_⟩
  · simp [results, Try.results35, go_sem, *]
    try rfl
  · repeat (first | with_reducible exact o1 | with_reducible refine Old.setCell' ?_ (by simp) _)
set_option maxRecDepth 100000 in
set_option maxHeartbeats 1000000 in
theorem DRead_yes (g : Nat) (F : Nat → Prop) (l : LnV) (q : ReqV) (hq : askOk q.q = true) (hc : l.clean q.id = true) (R : Rep) (hR : l.st.ask q.q = R) (nR : Nat) (hnR : R.vs.length = nR) (n : Nat) (hn : l.k = n) (hfew : l.qs.length ≤ 50000) (w : World) (h : LnAt w g F l) :
    Calls Try.prog 35 #[.pointer (some ⟨g, 0, none⟩), .agg #[.int .i64 q.client, .int .i64 q.seq, .int .i64 q.kind, .int .i64 q.id, .int .i64 q.mat, .string q.data]] w fun e w' =>
      ∃ A2 c2, e = .returned (.tuple #[.agg #[.int .i64 R.code, .int .i64 R.ver, .string R.data, .slice A2 nR c2], .int .i64 n, .int .i64 0]) ∧ IntsAt w' A2 R.vs ∧ (∀ a, A2 = some a → w.heap.size ≤ a.block) ∧ Old w w' := by
  have cR := hide (fun (W : World) (hW : Old w W) => LRead_ln g F l q R hR nR hnR hfew W (h.old hW))
  obtain ⟨c, s, k, i, m, d⟩ := q
  simp only [ReqV.q, askOk, Q.may, Bool.and_eq_true, Bool.not_eq_true'] at hq
  obtain ⟨h1, h2⟩ := hq
  have cM := hide (fun (W : World) => iMay_at c s k i m d true h1 W)
  have cW := hide (fun (W : World) => iWrites_at c s k i m d false h2 W)
  have cC := hide (fun (W : World) (hW : Old w W) => Clean_ln g i true F l hc W (h.old hW))
  have cK := hide (fun (W : World) (hW : Old w W) => Com_ln g F l n hn W (h.old hW))
  have hX := hide (fun (W : World) (h : Old ((w.alloc (.cells #[.int .i64 c, .int .i64 s, .int .i64 k, .int .i64 i, .int .i64 m, .string d] 23)).alloc (.cells #[.int .i64 0, .int .i64 0, .string ByteArray.empty, .slice none 0 0] 32)) W) => boxed h)
  clear h1 h2 hc hR hnR hn hfew h
  go_enter Try.func35, Try.ntmps35
  go_wp2_with (first
    | (go_at_call 42; refine (cM.out _).mono ?_; rintro e w1 ⟨rfl, hb1⟩; obtain ⟨⟨x0, x1, x2, x3, x4, x5⟩, -, -, l1, o1⟩ := hX.out _ hb1)
    | (go_at_call 43; refine (cW.out _).mono ?_; rintro e w2 ⟨rfl, hb2⟩; clear x0 x1 x2 x3 x4 x5 l1 o1; obtain ⟨⟨x0, x1, x2, x3, x4, x5⟩, -, -, l1, o1⟩ := hX.out _ (hb1.trans' hb2))
    | (go_at_call 37; refine (cC.out _ o1).mono ?_; rintro e w3 ⟨rfl, rfl⟩))
  refine (cR.out _ o1).mono ?_
  rintro e w4 ⟨A2, c2, rfl, hi, hnew, hb4⟩
  have hne : ∀ a, A2 = some a → a.block ≠ w.heap.size + 1 := fun a ha => by have := hnew a ha; omega
  have hnw := hide (fun (a : Addr) (ha : A2 = some a) => (by have := hnew a ha; omega : w.heap.size ≤ a.block))
  clear x0 x1 x2 x3 x4 x5 l1 o1 hnew
  obtain ⟨-, ⟨y0, y1, y2, y3⟩, ⟨f0, f1, f2, f3⟩, l1, o1⟩ := hX.out _ ((hb1.trans' hb2).trans' hb4)
  go_wp2_with (go_at_call 19; refine (cK.out _ o1).mono ?_; rintro e w5 ⟨rfl, rfl⟩)
  refine bodyPost_ret (v := .tuple #[.agg #[.int .i64 R.code, .int .i64 R.ver, .string R.data, .slice A2 nR c2], .int .i64 n, .int .i64 0]) ?_ rfl ⟨A2, c2, rfl, ?_, hnw.out, ?_⟩
  · simp [results, Try.results35, go_sem, *]
  · exact (((CellsAt.set_ hi hne _).set_ hne _).set_ hne _).set_ hne _
  · exact old_set4 o1 (Nat.le_succ _) _ _ _ _
/-- dirty.Read of a log, whatever is asked -/
theorem DRead_at (g : Nat) (F : Nat → Prop) (l : LnV) (q : ReqV) (R : Rep) (hR : l.dR q = R) (nR : Nat) (hnR : R.vs.length = nR) (AT E : Int) (hA : (l.dA q : Int) = AT) (hE : l.dE q = E) (hfew : l.qs.length ≤ 50000) (w : World) (h : LnAt w g F l) :
    Calls Try.prog 35 #[.pointer (some ⟨g, 0, none⟩), .agg #[.int .i64 q.client, .int .i64 q.seq, .int .i64 q.kind, .int .i64 q.id, .int .i64 q.mat, .string q.data]] w fun e w' =>
      ∃ A2 c2, e = .returned (.tuple #[.agg #[.int .i64 R.code, .int .i64 R.ver, .string R.data, .slice A2 nR c2], .int .i64 AT, .int .i64 E]) ∧ IntsAt w' A2 R.vs ∧ (∀ a, A2 = some a → w.heap.size ≤ a.block) ∧ Old w w' := by
  by_cases hq : askOk q.q = true
  · by_cases hc : l.clean q.id = true
    · have e1 : l.dR q = l.st.ask q.q := by unfold LnV.dR; rw [if_pos hq, if_pos hc]
      have e2 : l.dA q = l.k := by unfold LnV.dA; rw [if_pos hq, if_pos hc]
      have e3 : l.dE q = 0 := by unfold LnV.dE; rw [if_pos hq, if_pos hc]
      rw [e2] at hA
      rw [e3] at hE
      subst hA hE
      exact DRead_yes g F l q hq hc R (by rw [← e1]; exact hR) nR hnR l.k rfl hfew w h
    · have e1 : l.dR q = Rep.zero := by unfold LnV.dR; rw [if_pos hq, if_neg hc]
      have e2 : l.dA q = 0 := by unfold LnV.dA; rw [if_pos hq, if_neg hc]
      have e3 : l.dE q = 4 := by unfold LnV.dE; rw [if_pos hq, if_neg hc]
      rw [e1] at hR
      rw [e2] at hA
      rw [e3] at hE
      subst hR hnR hA hE
      exact (DRead_state g F l q hq (by simpa using hc) w h).mono fun e w' ⟨he, hb⟩ => ⟨none, 0, he, CellsAt.nil _ _, (fun a h => by cases h), hb⟩
  · have e1 : l.dR q = Rep.zero := by unfold LnV.dR; rw [if_neg hq]
    have e2 : l.dA q = 0 := by unfold LnV.dA; rw [if_neg hq]
    have e3 : l.dE q = 1 := by unfold LnV.dE; rw [if_neg hq]
    rw [e1] at hR
    rw [e2] at hA
    rw [e3] at hE
    subst hR hnR hA hE
    exact (DRead_arg (some ⟨g, 0, none⟩) q (.inr (by simpa using hq)) w).mono fun e w' ⟨he, hb⟩ => ⟨none, 0, he, CellsAt.nil _ _, (fun a h => by cases h), hb⟩
end Go.Proofs.Ytmhnlpilbbfgnaa
