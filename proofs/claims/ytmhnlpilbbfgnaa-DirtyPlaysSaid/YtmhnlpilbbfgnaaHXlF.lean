/- casebookref18.L: First, Reply. -/
import Derived.Test.YtmhnlpilbbfgnaaHXlP
namespace Go.Proofs.Ytmhnlpilbbfgnaa
open Go.RowKit

/-- a document's store of the caller's own -/
def OneX (w wr : World) (g : Nat) (s : StV) : Prop := ∃ F, SDAt wr g F s ∧ (∀ k, F k → w.heap.size ≤ k) ∧ Old w wr
section
variable {w wr w' : World} {g : Nat} {s : StV}
theorem OneX.o (h : OneX w wr g s) : Old w wr := by obtain ⟨F, h1, h2, h3⟩ := h; exact h3
theorem OneX.old (h : OneX w wr g s) (hf : Old wr w') : OneX w w' g s := by obtain ⟨F, h1, h2, h3⟩ := h; exact ⟨F, h1.old hf, h2, h3.trans' hf⟩
theorem OneX.sd (h : OneX w wr g s) : ∃ F, SDAt wr g F s := by obtain ⟨F, h1, h2, h3⟩ := h; exact ⟨F, h1⟩
theorem OneX.put (h : OneX w wr g s) (q : ReqV) (c0 v0 E : Int) (d0 : ByteArray) (s' : StV) (h1 : (s.rep q.q).code = c0) (h2 : (s.rep q.q).ver = v0) (h3 : (s.rep q.q).data = d0) (h4 : s.err q.q = E) (h5 : s.put q.q = s') (hfew : s.n ≤ 50000) :
    Calls Try.prog 79 #[.pointer (some ⟨g, 0, none⟩), .agg #[.int .i64 q.client, .int .i64 q.seq, .int .i64 q.kind, .int .i64 q.id, .int .i64 q.mat, .string q.data]] wr fun e w' => (∃ A c, e = .returned (.tuple #[.agg #[.int .i64 c0, .int .i64 v0, .string d0, .slice A 0 c], .int .i64 E])) ∧ OneX w w' g s' := by
  obtain ⟨F, a1, a2, a3⟩ := h
  refine (SPut_at g F s q.q c0 v0 E d0 s' h1 h2 h3 h4 h5 hfew wr a1).mono ?_
  rintro e w' ⟨he, ⟨F', b1, b2⟩, hf⟩
  refine ⟨he, F', b1, fun k hk => ?_, Old.fr_new a3 hf a2⟩
  rcases b2 k hk with h | h
  · exact a2 k h
  · exact Nat.le_trans a3.size h
theorem OneX.new {quota : Int} {W : World} (h : Old w W) (hb : Bk W g 134 (sdCells quota)) (hg : w.heap.size ≤ g) : OneX w W g (StV.new quota) :=
  ⟨_, SD_new hb, fun k hk => by omega, h⟩
end

set_option maxRecDepth 100000 in
set_option maxHeartbeats 2000000 in
theorem XFirst_any (x : Nat) (F : Nat → Prop) (l : LnV) (hfew : l.qs.length ≤ 50000) (n : Nat) (hn : n ≤ l.qs.length) (w : World) (h : XlAt w x F l) :
    Calls Try.prog 65 #[.pointer (some ⟨x, 0, none⟩), .int .i64 n] w fun e w' => ∃ gx, e = .returned (.pointer (some ⟨gx, 0, none⟩)) ∧ OneX w w' gx (runS l.quota (l.qs.take n)) := by
  obtain ⟨N, hN⟩ : ∃ N, l.qs.length = N := ⟨_, rfl⟩
  obtain ⟨A, ca, hs⟩ := h.see hN
  have hxl := hs.xl
  have c0 := hs.c0
  have c1 := hs.c1
  have hrow := hs.row
  obtain ⟨qt, hqt⟩ : ∃ q, l.quota = q := ⟨_, rfl⟩
  rw [hqt] at c0 ⊢
  rw [hN] at hfew hn
  have HN := hide hN
  have hp : OneX w (w.alloc (.cells (sdCells qt) 134)) w.heap.size (runS qt (l.qs.take 0)) := OneX.new ((Old.refl' w).alloc' _) (Bk.new w 134 (sdCells qt)) (Nat.le_refl _)
  unfold sdCells at hp
  clear h hs hN hqt
  go_enter Try.func65, Try.ntmps65
  go_wp2_with fail
  obtain ⟨gx, hgx⟩ : ∃ g, w.heap.size = g := ⟨_, rfl⟩
  simp only [hgx] at hp ⊢
  clear hgx
  go_loopw [6] (fun iv wr => ∃ j : Nat, j ≤ n ∧ iv = .int .i64 j ∧ OneX w wr gx (runS qt (l.qs.take j))) (fun iv _ => n - (intOf iv).toNat)
  case atStart => exact ⟨0, Nat.zero_le _, rfl, hp⟩
  case round =>
    clear hp
    obtain ⟨j, hj, rfl, pr⟩ := hrel
    have hO := pr.o
    have c1' := (hO.cell (p := ⟨x, 1, none⟩) hxl).trans c1
    by_cases hlt : j < n
    · have hjq : j < l.qs.length := by have := HN.out; omega
      have hjN : j < N := by omega
      obtain ⟨b, o, rfl, hb, hc⟩ := hrow.at5 (k := j) hjq
      have hgd : l.qs[j]?.getD default = l.qs[j] := by rw [List.getElem?_eq_getElem hjq]; rfl
      obtain ⟨q, hq⟩ : ∃ q, l.qs[j] = q := ⟨_, rfl⟩
      rw [hgd, hq] at hc
      have x0 : wr.cell? ⟨b, o + j * 6, none⟩ = some (.int .i64 q.client) := ((hO).cell (p := ⟨b, o + j * 6, none⟩) hb).trans (hc 0 _ (by omega) rfl)
      have x1 : wr.cell? ⟨b, o + j * 6 + 1, none⟩ = some (.int .i64 q.seq) := ((hO).cell (p := ⟨b, o + j * 6 + 1, none⟩) hb).trans (hc 1 _ (by omega) rfl)
      have x2 : wr.cell? ⟨b, o + j * 6 + 2, none⟩ = some (.int .i64 q.kind) := ((hO).cell (p := ⟨b, o + j * 6 + 2, none⟩) hb).trans (hc 2 _ (by omega) rfl)
      have x3 : wr.cell? ⟨b, o + j * 6 + 3, none⟩ = some (.int .i64 q.id) := ((hO).cell (p := ⟨b, o + j * 6 + 3, none⟩) hb).trans (hc 3 _ (by omega) rfl)
      have x4 : wr.cell? ⟨b, o + j * 6 + 4, none⟩ = some (.int .i64 q.mat) := ((hO).cell (p := ⟨b, o + j * 6 + 4, none⟩) hb).trans (hc 4 _ (by omega) rfl)
      have x5 : wr.cell? ⟨b, o + j * 6 + 5, none⟩ = some (.string q.data) := ((hO).cell (p := ⟨b, o + j * 6 + 5, none⟩) hb).trans (hc 5 _ (by omega) rfl)
      have HT := hide (show runS qt (l.qs.take (j + 1)) = (runS qt (l.qs.take j)).put q.q by rw [List.take_succ_eq_append_getElem hjq, runS_snoc, hq])
      have hsn := (runS_ok qt (l.qs.take j)).2.1
      rw [List.length_take] at hsn
      obtain ⟨s0, hs0⟩ : ∃ s, runS qt (l.qs.take j) = s := ⟨_, rfl⟩
      rw [hs0] at pr hsn
      have HS0 := hide hs0
      have cP := hide (pr.put q _ _ _ _ _ rfl rfl rfl rfl rfl (by omega))
      obtain ⟨cc, hcc⟩ : ∃ c, (s0.rep q.q).code = c := ⟨_, rfl⟩
      obtain ⟨cv, hcv⟩ : ∃ c, (s0.rep q.q).ver = c := ⟨_, rfl⟩
      obtain ⟨cd, hcd⟩ : ∃ c, (s0.rep q.q).data = c := ⟨_, rfl⟩
      obtain ⟨ce, hce⟩ : ∃ c, s0.err q.q = c := ⟨_, rfl⟩
      rw [hcc, hcv, hcd, hce] at cP
      clear hc hgd hq hs0 hsn hcc hcv hcd hce hO
      go_wp2_with fail
      refine cP.out.mono ?_
      rintro e w4 ⟨⟨A4, c4, rfl⟩, pr4⟩
      have HP := hide pr4
      clear x0 x1 x2 x3 x4 x5 pr pr4 cP c1'
      go_wp2_with fail
      go_roundw
      case rel => exact ⟨j + 1, by omega, by go_num, by rw [HT.out, HS0.out]; exact HP.out⟩
      case measure => simp [intOf]; omega
    · obtain rfl : j = n := by omega
      go_wp2_with fail
      go_ret
      exact ⟨gx, rfl, pr⟩

set_option maxRecDepth 100000 in
set_option maxHeartbeats 1000000 in
theorem XRep_no (x : Nat) (F : Nat → Prop) (l : LnV) (n : Int) (hn : ¬ (1 ≤ n ∧ n ≤ l.k)) (w : World) (h : XlAt w x F l) :
    Calls Try.prog 63 #[.pointer (some ⟨x, 0, none⟩), .int .i64 n] w fun e w' => e = .returned (.tuple #[.agg #[.int .i64 0, .int .i64 0, .string ByteArray.empty, .slice none 0 0], .int .i64 6]) ∧ Old w w' := by
  obtain ⟨k, hk⟩ : ∃ k, l.k = k := ⟨_, rfl⟩
  obtain ⟨A, ca, hs⟩ := h.see rfl
  have hxl := hs.xl
  have c2 := hs.c2
  rw [hk] at c2 hn
  have ho := (Old.refl' w).alloc' (.cells #[.int .i64 0, .int .i64 0, .string { data := #[] }, .slice none 0 0] 32)
  have c2' := (ho.cell (p := ⟨x, 2, none⟩) hxl).trans c2
  obtain ⟨⟨y0, y1, y2, y3⟩, ⟨f0, f1, f2, f3⟩, ly⟩ := bk4 (Bk.new w 32 #[.int .i64 0, .int .i64 0, .string { data := #[] }, .slice none 0 0])
  have HO := hide ho
  clear h hs hk c2 ho
  by_cases h1 : n < 1
  · clear hn
    go_enter Try.func63, Try.ntmps63
    go_wp2_with fail
    refine bodyPost_ret (v := .tuple #[.agg #[.int .i64 0, .int .i64 0, .string ByteArray.empty, .slice none 0 0], .int .i64 6]) ?_ rfl ⟨rfl, ?_⟩
    · simp [results, Try.results63, go_sem, *]
      try rfl
    · first | exact (Old.refl' w).alloc' _ | exact old_set4 HO.out (Nat.le_refl _) _ _ _ _
  · have h2 : (k : Int) < n := by omega
    clear hn
    go_enter Try.func63, Try.ntmps63
    go_wp2_with fail
    refine bodyPost_ret (v := .tuple #[.agg #[.int .i64 0, .int .i64 0, .string ByteArray.empty, .slice none 0 0], .int .i64 6]) ?_ rfl ⟨rfl, ?_⟩
    · simp [results, Try.results63, go_sem, *]
      try rfl
    · first | exact (Old.refl' w).alloc' _ | exact old_set4 HO.out (Nat.le_refl _) _ _ _ _
set_option maxRecDepth 100000 in
set_option maxHeartbeats 2000000 in
theorem XRep_yes (x : Nat) (F : Nat → Prop) (l : LnV) (j : Nat) (hj : j < l.k) (hkl : l.k ≤ l.qs.length) (c0 v0 : Int) (d0 : ByteArray) (h1 : (l.rep j).code = c0) (h2 : (l.rep j).ver = v0) (h3 : (l.rep j).data = d0) (hfew : l.qs.length ≤ 50000) (w : World) (h : XlAt w x F l) :
    Calls Try.prog 63 #[.pointer (some ⟨x, 0, none⟩), .int .i64 ((j : Int) + 1)] w fun e w' => ∃ A c, e = .returned (.tuple #[.agg #[.int .i64 c0, .int .i64 v0, .string d0, .slice A 0 c], .int .i64 0]) ∧ Old w w' := by
  obtain ⟨N, hN⟩ : ∃ N, l.qs.length = N := ⟨_, rfl⟩
  obtain ⟨k, hk⟩ : ∃ k, l.k = k := ⟨_, rfl⟩
  obtain ⟨A, ca, hs⟩ := h.see hN
  have hxl := hs.xl
  have c1 := hs.c1
  have c2 := hs.c2
  have hrow := hs.row
  have hjq : j < l.qs.length := by omega
  obtain ⟨b, o, rfl, hb, hc⟩ := hrow.at5 (k := j) hjq
  obtain ⟨q, hq⟩ : ∃ q, l.qs[j]?.getD default = q := ⟨_, rfl⟩
  rw [hq] at hc
  have hrep : l.rep j = (runS l.quota (l.qs.take j)).rep q.q := by unfold LnV.rep; rw [hq]
  rw [hrep] at h1 h2 h3
  have hsn := (runS_ok l.quota (l.qs.take j)).2.1
  rw [List.length_take] at hsn
  have ho := (Old.refl' w).alloc' (.cells #[.int .i64 0, .int .i64 0, .string { data := #[] }, .slice none 0 0] 32)
  have cF := hide (XFirst_any x F l hfew j (by omega) _ (h.old ho))
  obtain ⟨s0, hs0⟩ : ∃ s, runS l.quota (l.qs.take j) = s := ⟨_, rfl⟩
  rw [hs0] at h1 h2 h3 hsn cF
  obtain ⟨E, hE⟩ : ∃ c, s0.err q.q = c := ⟨_, rfl⟩
  have cP := hide (fun (W : World) (gx : Nat) (h : OneX (w.alloc (.cells #[.int .i64 0, .int .i64 0, .string { data := #[] }, .slice none 0 0] 32)) W gx s0) => h.put q c0 v0 E d0 _ h1 h2 h3 hE rfl (by omega))
  rw [hk] at c2 hj hkl
  rw [hN] at hjq hkl
  have q1 : ¬ ((j : Int) + 1 < 1) := by omega
  have q2 : ¬ ((k : Int) < (j : Int) + 1) := by omega
  have q3 : (j : Int) + 1 - 1 = j := by omega
  have q5 : (j : Int) ≤ 50000 := by omega
  have c2' := (ho.cell (p := ⟨x, 2, none⟩) hxl).trans c2
  have hX := hide (fun (W : World) (hW : Old w W) => (⟨(hW.cell (p := ⟨x, 1, none⟩) hxl).trans c1, (hW.cell (p := ⟨b, o + j * 6, none⟩) hb).trans (hc 0 _ (by omega) rfl), (hW.cell (p := ⟨b, o + j * 6 + 1, none⟩) hb).trans (hc 1 _ (by omega) rfl), (hW.cell (p := ⟨b, o + j * 6 + 2, none⟩) hb).trans (hc 2 _ (by omega) rfl), (hW.cell (p := ⟨b, o + j * 6 + 3, none⟩) hb).trans (hc 3 _ (by omega) rfl), (hW.cell (p := ⟨b, o + j * 6 + 4, none⟩) hb).trans (hc 4 _ (by omega) rfl), (hW.cell (p := ⟨b, o + j * 6 + 5, none⟩) hb).trans (hc 5 _ (by omega) rfl)⟩ :
    W.cell? ⟨x, 1, none⟩ = some (.slice (some ⟨b, o, none⟩) N ca) ∧ W.cell? ⟨b, o + j * 6, none⟩ = some (.int .i64 q.client) ∧ W.cell? ⟨b, o + j * 6 + 1, none⟩ = some (.int .i64 q.seq) ∧ W.cell? ⟨b, o + j * 6 + 2, none⟩ = some (.int .i64 q.kind) ∧ W.cell? ⟨b, o + j * 6 + 3, none⟩ = some (.int .i64 q.id) ∧ W.cell? ⟨b, o + j * 6 + 4, none⟩ = some (.int .i64 q.mat) ∧ W.cell? ⟨b, o + j * 6 + 5, none⟩ = some (.string q.data)))
  have kr := Bk.new w 32 #[.int .i64 0, .int .i64 0, .string { data := #[] }, .slice none 0 0]
  have HO := hide ho
  clear h hs hN hk hq hrep hsn h1 h2 h3 hs0 hE c1 c2 hc hrow ho hfew
  go_enter Try.func63, Try.ntmps63
  go_wp2_with fail
  refine cF.out.mono ?_
  rintro e w1 ⟨gx, rfl, p1⟩
  clear c2'
  obtain ⟨t1, x0, x1, x2, x3, x4, x5⟩ := hX.out _ (HO.out.trans' p1.o)
  go_wp2_with fail
  refine (cP.out _ _ p1).mono ?_
  rintro e w2 ⟨⟨A2, c2, rfl⟩, p2⟩
  have k2 := (kr.old p2.o).alloc (.cells #[.int .i64 c0, .int .i64 v0, .string d0, .slice A2 0 c2] 32)
  have k3 := Bk.new w2 32 #[.int .i64 c0, .int .i64 v0, .string d0, .slice A2 0 c2]
  have hsz : w.heap.size < w2.heap.size := (kr.old p2.o).lt
  have hO2 := hide ((HO.out.trans' p2.o).alloc' (.cells #[.int .i64 c0, .int .i64 v0, .string d0, .slice A2 0 c2] 32))
  obtain ⟨b7, hb7⟩ : ∃ b, w2.heap.size = b := ⟨_, rfl⟩
  rw [hb7] at k3 hsz
  simp only [hb7]
  obtain ⟨⟨y0, y1, y2, y3⟩, ⟨f0, f1, f2, f3⟩, ly⟩ := bk4 k2
  obtain ⟨⟨z0, z1, z2, z3⟩, -, lz⟩ := bk4 k3
  clear t1 x0 x1 x2 x3 x4 x5 p1 p2 k2 k3 cP cF hX hb7 kr
  go_wp2_with fail
  refine bodyPost_ret (v := .tuple #[.agg #[.int .i64 c0, .int .i64 v0, .string d0, .slice A2 0 c2], .int .i64 0]) ?_ rfl ⟨A2, c2, rfl, ?_⟩
  · simp [results, Try.results63, go_sem, *]
  · exact old_set4 hO2.out (Nat.le_refl _) _ _ _ _
end Go.Proofs.Ytmhnlpilbbfgnaa
