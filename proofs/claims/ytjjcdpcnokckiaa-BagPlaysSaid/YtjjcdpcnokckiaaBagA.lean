/- bag: Add. -/
import Derived.Test.YtjjcdpcnokckiaaBagO
namespace Go.Proofs.Ytjjcdpcnokckiaa
open Go.RowKit

set_option maxRecDepth 100000 in
set_option maxHeartbeats 2000000 in
theorem Add_bagN (base g : Nat) (ms : List Msg) (hn : ms.length ≤ 99999) (frm to_ : Int) (A : Option Addr) (n cap : Nat) (bs : List Int) (hl : n = bs.length) (hnb : n ≤ 100000) (w : World) (h : BagAt w base g ms) (hA : CellsAt w A (u8s bs)) :
    Calls Try.prog 9 #[.pointer (some ⟨g, 0, none⟩), .int .i64 frm, .int .i64 to_, .slice A n cap] w fun e w' =>
      e = .returned (.int .i64 ms.length) ∧ (∃ A' c', BagAt w' base g (ms ++ [⟨frm, to_, A', c', bs⟩]) ∧ ∀ k, (Value.slice A' bs.length c').ownBlock = some k → w.heap.size ≤ k) ∧ FrT BagT base w w' := by
  obtain ⟨i0, hi0, hz0, hz1, hz2⟩ := info_parts info_msg
  obtain ⟨Ab, c, hb, ho⟩ := h.row
  obtain ⟨N, hN⟩ : ∃ n, n = ms.length := ⟨_, rfl⟩
  rw [← hN] at hb ho hn ⊢
  have HN := hide hN
  have cC := hide (fun (W : World) (hW : CellsAt W A (u8s bs)) => Clone_bytes A n cap bs hnb hl W hW)
  have HL := hide hl
  clear hN hl
  have hg := h.lt
  have hbs : base ≤ w.heap.size := Nat.le_trans h.low (Nat.le_of_lt h.lt)
  have c0 := hb.cell 0
  simp at c0
  have hng : ∀ k, (Value.slice Ab N c).ownBlock = some k → k ≠ g := fun k hk e => own_ne_bk ho hb (by decide) (e ▸ hk)
  have hone := msgCells_one ms
  have hlen := msgCells_length ms
  have HNG := hide hng
  have HLN := hide hlen
  clear hng hlen
  go_enter Try.func9, Try.ntmps9
  go_wp2_with fail
  go_region_law
    (first
      | (refine step_call (by rfl) 19 _ Try.func19 (by kernel_rfl) (by kernel_rfl) [.tmp 19] #[28] (by rfl) [.slice A n cap] (by rfl) (cC.out _ (show CellsAt w.drew A (u8s bs) from hA)) ?_; rintro e w1 ⟨A1, c1, rfl, hown1, hb1⟩; refine ⟨_, rfl, ?_⟩; have G1 : g < w1.heap.size := (by have := hb1.size; simp at this; omega); have B1 := (hb.old (Old.trans' (Old.refl' w).drew' hb1)).cell 0; simp at B1)
      | (refine step_app _ (by rfl) (.tmp 16) (.tmp 22) 51 (by rfl) base 58 i0 (.agg #[.int .i64 0, .int .i64 0, .slice none 0 0]) 3 40 Try.underlying51 hi0 hz0 hz1 hz2 rfl (by omega) (.slice Ab N c) N (ms.flatMap Msg.cells) (by rfl) (by exact (own_old ho (Old.trans' (Old.refl' w).drew' hb1)).alloc _) (some ⟨w1.heap.size, 0, none⟩) 1 1 [.int .i64 frm, .int .i64 to_, .slice A1 n c1] (by rfl) (by rfl) (by exact cells_bk (Bk.new w1 58 #[.int .i64 frm, .int .i64 to_, .slice A1 n c1])) (by simp [Value.oneCell']) (by unfold maxLen; omega) (by omega) (by have := hb1.size; simp at this ⊢; omega) (N + 1) rfl _ rfl ?_; intro A2 c2 w2 h2; have B2 := (h2.bk ((hb.old (Old.trans' (Old.refl' w).drew' hb1)).alloc _) (fun e => HNG.out g e rfl)).cell 0; have F2 := (h2.bk ((hb.old (Old.trans' (Old.refl' w).drew' hb1)).alloc _) (fun e => HNG.out g e rfl)).frozen 0; simp at B2))
  all_goals
    have hB2 := h2.bk ((hb.old (Old.trans' (Old.refl' w).drew' hb1)).alloc (.cells #[.int .i64 frm, .int .i64 to_, .slice A1 n c1] 58)) (fun e => HNG.out g e rfl)
    have hF : FrT BagT base w (w2.setCell ⟨g, 0, none⟩ (.slice A2 (N + 1) c2)) :=
      (((FrT.of_old (((Old.refl' w).drew'.trans' hb1).alloc' (.cells #[.int .i64 frm, .int .i64 to_, .slice A1 n c1] 58))).trans (h2.frT ((own_old ho (Old.trans' (Old.refl' w).drew' hb1)).alloc _) (.inr rfl) (Nat.le_refl _)))).set_ hB2 h.low (.inl rfl) 0 _
    have hR : BagAt (w2.setCell ⟨g, 0, none⟩ (.slice A2 (N + 1) c2)) base g (ms ++ [⟨frm, to_, A1, c1, bs⟩]) := by
      refine ⟨⟨A2, c2, ?_, ?_⟩, fun m hm => ?_, h.low⟩
      · rw [List.length_append, ← HN.out]
        exact hB2.set_ 0 _
      · rw [List.length_append, ← HN.out, List.flatMap_append, show [(⟨frm, to_, A1, c1, bs⟩ : Msg)].flatMap Msg.cells = [.int .i64 frm, .int .i64 to_, .slice A1 n c1] from by rw [HL.out]; rfl]
        exact own_set h2.own (own_ne_bk h2.own hB2 (by decide)) _
      · rcases List.mem_append.1 hm with hm | hm
        · exact own_frT (h.own m hm) hF (by unfold BagT; decide)
        · obtain rfl : m = ⟨frm, to_, A1, c1, bs⟩ := by simpa using hm
          have h3 : FrT BagT base w1 (w2.setCell ⟨g, 0, none⟩ (.slice A2 (N + 1) c2)) :=
            (((FrT.of_old ((Old.refl' w1).alloc' (.cells #[.int .i64 frm, .int .i64 to_, .slice A1 n c1] 58))).trans (h2.frT ((own_old ho (Old.trans' (Old.refl' w).drew' hb1)).alloc _) (.inr rfl) (Nat.le_refl _)))).set_ hB2 h.low (.inl rfl) 0 _
          rw [HL.out] at hown1
          exact own_frT (own_mono hown1 hbs) h3 (by unfold BagT; decide)
    have HNEW := hide (fun k (hk : (Value.slice A1 bs.length c1).ownBlock = some k) => (by rw [← HL.out] at hk; exact (hown1.lt k hk).1 : w.heap.size ≤ k))
    have HF := hide hF
    have HR := hide hR
    clear hF hR
    go_wp2
    go_ret
    exact ⟨rfl, ⟨A1, c1, HR.out, HNEW.out⟩, HF.out⟩
theorem Add_bag (base g : Nat) (ms : List Msg) (hn : ms.length ≤ 99999) (frm to_ : Int) (A : Option Addr) (n cap : Nat) (bs : List Int) (hl : n = bs.length) (hnb : n ≤ 100000) (w : World) (h : BagAt w base g ms) (hA : CellsAt w A (u8s bs)) :
    Calls Try.prog 9 #[.pointer (some ⟨g, 0, none⟩), .int .i64 frm, .int .i64 to_, .slice A n cap] w fun e w' =>
      e = .returned (.int .i64 ms.length) ∧ (∃ A' c', BagAt w' base g (ms ++ [⟨frm, to_, A', c', bs⟩])) ∧ FrT BagT base w w' := by
  refine (Add_bagN base g ms hn frm to_ A n cap bs hl hnb w h hA).mono ?_
  rintro e w' ⟨h1, ⟨A', c', h2, -⟩, h3⟩
  exact ⟨h1, ⟨A', c', h2⟩, h3⟩
end Go.Proofs.Ytjjcdpcnokckiaa
