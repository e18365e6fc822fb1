/- bag: out, Take. -/
import Derived.Test.YtjjcdpcnokckiaaBag
namespace Go.Proofs.Ytjjcdpcnokckiaa
open Go.RowKit

set_option maxRecDepth 100000 in
set_option maxHeartbeats 1000000 in
theorem out_bag (base g k : Nat) (ms : List Msg) (m : Msg) (hk : ms[k]? = some m) (hn : ms.length ≤ 100000) (w : World) (h : BagAt w base g ms) :
    Calls Try.prog 21 #[.pointer (some ⟨g, 0, none⟩), .int .i64 k] w fun e w' =>
      e = .returned (.agg #[.int .i64 m.frm, .int .i64 m.to_, m.sl]) ∧ BagAt w' base g (ms.eraseIdx k) ∧ FrT BagT base w w' := by
  have hlt : k < ms.length := (List.getElem?_eq_some_iff.1 hk).1
  obtain ⟨ga, c, hb, ho, g0, g1, g2⟩ := h.at_ hk
  obtain ⟨n, hN⟩ : ∃ n, n = ms.length := ⟨_, rfl⟩
  rw [← hN] at hb ho hn hlt
  have HN := hide hN
  clear hN
  obtain ⟨frm, to_, A, mc, bs⟩ := m
  simp only [Msg.sl] at g0 g1 g2 ⊢
  have hne : g ≠ ga := by
    obtain ⟨_, _, _, cur, hc, _, _⟩ := own_some ho
    exact hb.ne_ hc (by decide)
  have hlg := own_lt ho
  have hg := h.lt
  have hbs : base ≤ w.heap.size := Nat.le_trans h.low (Nat.le_of_lt h.lt)
  have hone := msgCells_one ms
  have c0 := hb.cell 0
  simp at c0
  have cD := hide (fun (W : World) (hW : Old w W) => Delete_msg base ga n c k (ms.flatMap Msg.cells) W (own_old ho hW) hlt hn hone)
  have hb2 := (hb.alloc (.cells #[.int .i64 0, .int .i64 0, .slice none 0 0] 58)).alloc (.cells #[.int .i64 frm, .int .i64 to_, .slice A bs.length mc] 58)
  have hr0 := (Bk.new w 58 #[.int .i64 0, .int .i64 0, .slice none 0 0]).alloc (.cells #[.int .i64 frm, .int .i64 to_, .slice A bs.length mc] 58)
  have hx0 := bk_new1 w (.cells #[.int .i64 0, .int .i64 0, .slice none 0 0] 58) 58 #[.int .i64 frm, .int .i64 to_, .slice A bs.length mc]
  go_enter Try.func21, Try.ntmps21
  go_wp2_with (go_at_call 24; refine (cD.out _ (((Old.refl' w).alloc' _).alloc' _)).mono ?_; rintro e w1 ⟨rfl, hown1, hf1⟩; have B := hb2.fr hf1 hne; have R := hr0.fr hf1 (by omega); have X := hx0.fr hf1 (by omega); have b0 := B.cell 0; have b1 := B.frozen 0; have r0 := R.cell 0; have r1 := R.cell 1; have r2 := R.cell 2; have rf0 := R.frozen 0; have rf1 := R.frozen 1; have rf2 := R.frozen 2; have x0 := X.cell 0; have x1 := X.cell 1; have x2 := X.cell 2; simp at b0 r0 r1 r2 x0 x1 x2)
  have hF : FrT BagT base w ((((w1.setCell ⟨g, 0, none⟩ (.slice (some ⟨ga, 0, none⟩) (n - 1) c)).setCell ⟨w.heap.size, 0, none⟩ (.int .i64 frm)).setCell ⟨w.heap.size, 1, none⟩ (.int .i64 to_)).setCell ⟨w.heap.size, 2, none⟩ (.slice A bs.length mc)) := by
    obtain ⟨_, _, _, cur, hc, _, _⟩ := own_some ho
    have f1 : FrT BagT base w w1 := (FrT.of_old (((Old.refl' w).alloc' _).alloc' _)).trans (FrT.of_blk hf1 ((hc.alloc _).alloc _) (own_some ho).1 (.inr rfl))
    have f2 := f1.set_ B h.low (.inl rfl) 0 (.slice (some ⟨ga, 0, none⟩) (n - 1) c)
    have R2 := R.far (p := ⟨g, 0, none⟩) (by simp; omega) (.slice (some ⟨ga, 0, none⟩) (n - 1) c)
    have f3 := f2.set_ R2 hbs (.inr rfl) 0 (.int .i64 frm)
    have f4 := f3.set_ (R2.set_ 0 _) hbs (.inr rfl) 1 (.int .i64 to_)
    exact f4.set_ ((R2.set_ 0 _).set_ 1 _) hbs (.inr rfl) 2 _
  have HF := hide hF
  clear hF
  refine bodyPost_ret (v := .agg #[.int .i64 frm, .int .i64 to_, .slice A bs.length mc]) ?_ rfl ⟨rfl, ?_, HF.out⟩
  · have e1 : ¬ g = w.heap.size := by omega
    have e2 : ¬ w.heap.size = g := by omega
    simp [results, Try.results21, go_sem, r0, r1, r2]
  · refine ⟨⟨some ⟨ga, 0, none⟩, c, ?_, ?_⟩, fun m' hm' => own_frT (h.own m' (List.mem_of_mem_eraseIdx hm')) HF.out (by unfold BagT; decide), h.low⟩
    · rw [List.length_eraseIdx, if_pos (by rw [← HN.out]; exact hlt), ← HN.out]
      exact (((B.set_ 0 _).far (p := ⟨w.heap.size, 0, none⟩) (by simp; omega) _).far (p := ⟨w.heap.size, 1, none⟩) (by simp; omega) _).far (p := ⟨w.heap.size, 2, none⟩) (by simp; omega) _
    · rw [List.length_eraseIdx, if_pos (by rw [← HN.out]; exact hlt), ← HN.out, List.eraseIdx_eq_take_drop_succ, List.flatMap_append, ← msgCells_take, ← msgCells_drop]
      have n1 : (Value.slice (some ⟨ga, 0, none⟩) (n - 1) c).ownBlock ≠ some w.heap.size := by simp [Value.ownBlock]; omega
      exact own_set (own_set (own_set (own_set hown1 (by simp [Value.ownBlock]; omega) _) n1 _) n1 _) n1 _

set_option maxRecDepth 100000 in
set_option maxHeartbeats 1000000 in
theorem Take_yes (base g k : Nat) (ms : List Msg) (m : Msg) (hk : ms[k]? = some m) (hn : ms.length ≤ 100000) (w : World) (h : BagAt w base g ms) :
    Calls Try.prog 11 #[.pointer (some ⟨g, 0, none⟩), .int .i64 k] w fun e w' =>
      e = .returned (.tuple #[.int .i64 m.frm, .int .i64 m.to_, m.sl, .int .i64 0]) ∧ BagAt w' base g (ms.eraseIdx k) ∧ FrT BagT base w w' := by
  have hlt : k < ms.length := (List.getElem?_eq_some_iff.1 hk).1
  obtain ⟨A, c, hb, -⟩ := h.row
  have cI := hide (is_yes g ms.length c k A hlt hn w hb)
  have cO := hide (out_bag base g k ms m hk hn w h)
  clear hb hk hlt hn h
  obtain ⟨frm, to_, A, mc, bs⟩ := m
  simp only [Msg.sl] at cO ⊢
  go_enter Try.func11, Try.ntmps11
  go_wp2_with
    (first
      | (go_at_call 20; refine cI.out.mono ?_; rintro e w1 ⟨rfl, rfl⟩)
      | (go_at_call 21; refine cO.out.mono ?_; rintro e w1 ⟨rfl, hB, hF⟩))
  go_quiet (fail)
  go_wp2
  refine bodyPost_ret (v := .tuple #[.int .i64 frm, .int .i64 to_, .slice A bs.length mc, .int .i64 0]) ?_ rfl ⟨rfl, (hB.alloc _).drewN _, (hF.alloc _).drewN _⟩
  simp [results, Try.results11, go_sem]
set_option maxHeartbeats 1000000 in
theorem Take_no (base g : Nat) (k : Int) (ms : List Msg) (hk : k < 0 ∨ (ms.length : Int) ≤ k) (hn : ms.length ≤ 100000) (w : World) (h : BagAt w base g ms) :
    Calls Try.prog 11 #[.pointer (some ⟨g, 0, none⟩), .int .i64 k] w fun e w' =>
      e = .returned (.tuple #[.int .i64 0, .int .i64 0, .slice none 0 0, .int .i64 5]) ∧ w = w' := by
  obtain ⟨A, c, hb, -⟩ := h.row
  have cI := hide (is_no g ms.length c k A hk hn w hb)
  clear hb hk hn h
  go_enter Try.func11, Try.ntmps11
  go_wp2_with (go_at_call 20; refine cI.out.mono ?_; rintro e w1 ⟨rfl, rfl⟩)
  refine bodyPost_ret (v := .tuple #[.int .i64 0, .int .i64 0, .slice none 0 0, .int .i64 5]) ?_ rfl ⟨rfl, rfl⟩
  simp [results, Try.results11, go_sem]
set_option maxHeartbeats 1000000 in
theorem Take_nil (k : Int) (w : World) :
    Calls Try.prog 11 #[.pointer none, .int .i64 k] w fun e w' =>
      e = .returned (.tuple #[.int .i64 0, .int .i64 0, .slice none 0 0, .int .i64 5]) ∧ w = w' := by
  go_enter Try.func11, Try.ntmps11
  go_wp2
  refine bodyPost_ret (v := .tuple #[.int .i64 0, .int .i64 0, .slice none 0 0, .int .i64 5]) ?_ rfl ⟨rfl, rfl⟩
  simp [results, Try.results11, go_sem]

/-! ### Drop -/
set_option maxHeartbeats 1000000 in
theorem Drop_yes (base g k : Nat) (ms : List Msg) (m : Msg) (hk : ms[k]? = some m) (hn : ms.length ≤ 100000) (w : World) (h : BagAt w base g ms) :
    Calls Try.prog 16 #[.pointer (some ⟨g, 0, none⟩), .int .i64 k] w fun e w' => e = .returned (.int .i64 0) ∧ BagAt w' base g (ms.eraseIdx k) ∧ FrT BagT base w w' := by
  have cT := hide (Take_yes base g k ms m hk hn w h)
  clear hk hn h
  go_enter Try.func16, Try.ntmps16
  go_wp2_with (go_at_call 11; refine cT.out.mono ?_; rintro e w1 ⟨rfl, hB, hF⟩)
  go_ret
  exact ⟨rfl, hB, hF⟩
set_option maxHeartbeats 1000000 in
theorem Drop_no (base g : Nat) (k : Int) (ms : List Msg) (hk : k < 0 ∨ (ms.length : Int) ≤ k) (hn : ms.length ≤ 100000) (w : World) (h : BagAt w base g ms) :
    Calls Try.prog 16 #[.pointer (some ⟨g, 0, none⟩), .int .i64 k] w fun e w' => e = .returned (.int .i64 5) ∧ w = w' := by
  have cT := hide (Take_no base g k ms hk hn w h)
  clear hk hn h
  go_enter Try.func16, Try.ntmps16
  go_wp2_with (go_at_call 11; refine cT.out.mono ?_; rintro e w1 ⟨rfl, rfl⟩)
  go_ret
  exact ⟨rfl, rfl⟩

/-! ### Add -/
theorem info_u8 : (Try.prog.info? 5).map (fun i => (i.zero, i.size, i.bytes)) = some (some (.int .u8 0), 1, 1) := by kernel_rfl

set_option maxHeartbeats 1000000 in
set_option maxRecDepth 20000 in
theorem Clone_bytes (A : Option Addr) (n cap : Nat) (bs : List Int) (hn : n ≤ 100000) (hl : n = bs.length) (w : World) (hV : CellsAt w A (u8s bs)) :
    Calls Try.prog 19 #[.slice A n cap] w fun e w' =>
      ∃ A' c', e = .returned (.slice A' n c') ∧ w'.ownsRow w.heap.size 5 1 (.slice A' n c') n (u8s bs) ∧ Old w w' := by
  have HL := hide hl
  clear hl
  obtain ⟨i0, hi0, hz0, hz1, hz2⟩ := info_parts info_u8
  cases A with
  | none =>
    have h0 : n = 0 := by
      rcases Nat.eq_zero_or_pos n with h | h
      · exact h
      · obtain ⟨b, o, e, _⟩ := hV (by intro e; have h1 : bs = [] := (by simpa using e); have h2 := HL.out; rw [h1] at h2; simp at h2; omega)
        cases e
    subst h0
    have hvs : bs = [] := List.eq_nil_of_length_eq_zero HL.out.symm
    subst hvs
    have heq := Lib.run_eql_slice_nil (P := Try.prog) w 28 5 none 0 cap 0 0 Try.underlying28
    go_enter Try.func19, Try.ntmps19
    go_wp2
    go_ret
    exact ⟨_, _, rfl, World.ownsRow_nil _ _ _ _, Old.refl' w⟩
  | some ad =>
    have heq := Lib.run_eql_slice_nil (P := Try.prog) w 28 5 (some ad) n cap 0 0 Try.underlying28
    go_enter Try.func19, Try.ntmps19
    go_wp2_with (at_builtin; refine wpList_app _ rfl (.tmp 5) (.tmp 6) 28 rfl w.heap.size 5 i0 (.int .u8 0) 1 1 Try.underlying28 hi0 hz0 hz1 hz2 rfl (by decide) (.slice (some ⟨w.heap.size, 0, none⟩) 0 0) 0 [] rfl (World.ownsRow_made w #[] 0 (Nat.le_refl _) (by decide) rfl) (some ad) n cap (u8s bs) rfl (by simp [HL.out]) (CellsAt.alloc hV _) (by simp [Value.oneCell']) (by unfold maxLen; omega) (by omega) (by simp) n (Nat.zero_add _) (u8s bs) (List.nil_append _) ?_; intro A' c' w1 h1)
    go_ret
    exact ⟨A', c', rfl, h1.own, h1.old ((Old.refl' w).alloc' _) (by intro k hk; simp [Value.ownBlock] at hk; omega)⟩

end Go.Proofs.Ytjjcdpcnokckiaa
