/- bag: Lose (slices.DeleteFunc at its closure). -/
import Derived.Outline
import Derived.Test.YtjjcdpcnokckiaaBagL
namespace Go.Proofs.Ytjjcdpcnokckiaa
open Go.RowKit

/-- the messages' own type -/
def MsgT (t : TypeId) : Prop := t = 58
/-- those that are not to one -/
def others (who : Int) (ms : List Msg) : List Msg := ms.filter fun m => decide (m.to_ ≠ who)

theorem msgCells_set (ms : List Msg) (m : Msg) : ∀ i, ((((ms.flatMap Msg.cells).set (i * 3) (.int .i64 m.frm)).set (i * 3 + 1) (.int .i64 m.to_)).set (i * 3 + 2) m.sl) = (ms.set i m).flatMap Msg.cells := by
  induction ms with
  | nil => intro i; simp
  | cons x ms ih =>
    intro i
    cases i with
    | zero => simp [Msg.cells]
    | succ i =>
      have e : (x :: ms).flatMap Msg.cells = .int .i64 x.frm :: .int .i64 x.to_ :: x.sl :: ms.flatMap Msg.cells := rfl
      rw [e, show (i + 1) * 3 = i * 3 + 1 + 1 + 1 from by omega]
      simp only [List.set_cons_succ]
      rw [ih i]
      rfl

theorem others_succ (who : Int) (ms : List Msg) (j : Nat) (m : Msg) (hm : ms[j]? = some m) : others who (ms.take (j + 1)) = if m.to_ = who then others who (ms.take j) else others who (ms.take j) ++ [m] := by
  have hlt := (List.getElem?_eq_some_iff.1 hm).1
  have h2 : ms[j] = m := (List.getElem?_eq_some_iff.1 hm).2
  rw [List.take_succ_eq_append_getElem hlt, h2]
  unfold others
  rw [List.filter_append]
  split <;> simp_all
theorem others_le (who : Int) (ms : List Msg) : (others who ms).length ≤ ms.length := List.length_filter_le _ _
theorem others_same (who : Int) (ms : List Msg) (h : ∀ j, j < ms.length → toAt ms j ≠ who) : others who ms = ms := by
  unfold others
  rw [List.filter_eq_self]
  intro m hm
  obtain ⟨j, hj, rfl⟩ := List.getElem_of_mem hm
  have := h j hj
  rw [toAt, List.getElem?_eq_getElem hj] at this
  simpa using this
theorem others_take (who : Int) (ms : List Msg) (i : Nat) (hi : i ≤ ms.length) (h : ∀ j, j < i → toAt ms j ≠ who) : others who (ms.take i) = ms.take i := by
  apply others_same
  intro j hj
  have hj' : j < i := by rw [List.length_take] at hj; omega
  have := h j hj'
  rwa [toAt, List.getElem?_take_of_lt hj']

set_option maxHeartbeats 1000000 in
theorem DelF_no (A : Option Addr) (n c bx : Nat) (ms : List Msg) (who : Int) (hl : n = ms.length) (hn : n ≤ 100000) (hbef : ∀ j, j < n → toAt ms j ≠ who) (w : World) (hM : MsgsAt w A ms) (hb : Bk w bx 3 #[.int .i64 who]) :
    Calls Try.prog 22 #[.slice A n c, .func (.func 23) #[] #[.pointer (some ⟨bx, 0, none⟩)]] w fun e w' => e = .returned (.slice A n c) ∧ Old w w' := by
  have cI := hide (Index_no A n c bx ms who hl hn hbef w hM hb)
  clear hl hbef
  go_enter Try.func22, Try.ntmps22
  go_wp2_with (go_at_call 25; refine cI.out.mono ?_; rintro e w1 ⟨rfl, hb1⟩)
  go_ret
  exact ⟨rfl, hb1⟩

set_option maxRecDepth 100000 in
set_option maxHeartbeats 2000000 in
theorem DelF_yes (base ga n c i bx : Nat) (ms : List Msg) (who : Int) (hl : n = ms.length) (hn : n ≤ 100000) (hi : i < n) (hat : toAt ms i = who) (hbef : ∀ j, j < i → toAt ms j ≠ who) (w : World)
    (ho : w.ownsRow base 58 3 (.slice (some ⟨ga, 0, none⟩) n c) n (ms.flatMap Msg.cells)) (hb : Bk w bx 3 #[.int .i64 who]) :
    Calls Try.prog 22 #[.slice (some ⟨ga, 0, none⟩) n c, .func (.func 23) #[] #[.pointer (some ⟨bx, 0, none⟩)]] w fun e w' =>
      e = .returned (.slice (some ⟨ga, 0, none⟩) (others who ms).length c) ∧ w'.ownsRow base 58 3 (.slice (some ⟨ga, 0, none⟩) (others who ms).length c) (others who ms).length ((others who ms).flatMap Msg.cells) ∧ FrT MsgT base w w' := by
  have cI := hide (Index_yes (some ⟨ga, 0, none⟩) n c i bx ms who hl hn hi hat hbef w (CellsAt.of_own ho) hb)
  obtain ⟨hnc, hcm⟩ := own_size ho
  unfold maxLen at hcm
  have hst : others who (ms.take (i + 1)) = ms.take i := by
    obtain ⟨m, hm⟩ : ∃ m, ms[i]? = some m := ⟨ms[i]'(by omega), List.getElem?_eq_getElem _⟩
    rw [others_succ who ms i m hm, if_pos (by rw [toAt, hm] at hat; exact hat), others_take who ms i (by omega) hbef]
  have HL := hide hl
  have HS := hide hst
  clear hl hat hbef hst
  have e1 : ((i : Int) == -1) = false := by rw [beq_eq_false_iff_ne]; omega
  have hga := own_lt ho
  go_enter Try.func22, Try.ntmps22
  go_wp2_with (go_at_call 25; refine cI.out.mono ?_; rintro e w1 ⟨rfl, hb1⟩)
  go_loopw [5, 6] (fun iv jv wr => ∃ j q : Nat, j ≤ n ∧ q < j ∧ iv = .int .i64 q ∧ jv = .int .i64 j ∧ FrT MsgT base w wr ∧ Bk wr bx 3 #[.int .i64 who] ∧
      ∃ L : List Msg, (L.length = n ∧ L.take q = others who (ms.take j)) ∧ L.drop j = ms.drop j ∧ wr.ownsRow base 58 3 (.slice (some ⟨ga, 0, none⟩) n c) n (L.flatMap Msg.cells))
    (fun _ jv _ => n - (intOf jv).toNat)
  case atStart =>
    refine ⟨i + 1, i, by omega, by omega, rfl, ?_, FrT.of_old hb1, hb.old hb1, ms, ⟨HL.out.symm, HS.out.symm⟩, rfl, own_old ho hb1⟩
    rfl
  case round =>
    clear cI e1 HS hi
    obtain ⟨j, q, hj, hq, rfl, rfl, hF, hbx, L, ⟨hLn, hLt⟩, hLd, hown⟩ := hrel
    have hqn : (others who (ms.take j)).length = q := by rw [← hLt, List.length_take, hLn]; omega
    have HQ := hide hqn
    have HLn := hide hLn
    have HLt := hide hLt
    have HLd := hide hLd
    clear hLn hLt hLd hqn
    by_cases hlt : j < n
    · obtain ⟨m, hm⟩ : ∃ m, ms[j]? = some m := ⟨ms[j]'(by rw [← HL.out]; exact hlt), List.getElem?_eq_getElem _⟩
      have hmL : L[j]? = some m := by
        have h1 : (L.drop j)[0]? = (ms.drop j)[0]? := by rw [HLd.out]
        rw [List.getElem?_drop, List.getElem?_drop, Nat.add_zero] at h1
        rw [h1, hm]
      obtain ⟨m0, hm0⟩ : ∃ m0, L[q]? = some m0 := ⟨L[q]'(by rw [HLn.out]; omega), List.getElem?_eq_getElem _⟩
      obtain ⟨g0, g1, g2⟩ := msgCells_get L j m hmL
      have d0 := own_cells hown _ _ g0
      have d1 := own_cells hown _ _ g1
      have d2 := own_cells hown _ _ g2
      have hgr := own_lt hown
      have HM := hide (others_succ who ms j m hm)
      obtain ⟨b, hbb⟩ : ∃ b, (m.to_ == who) = b := ⟨_, rfl⟩
      have cL := hide (fun (W : World) (hW : Old wr W) => Lose1 bx who m.frm m.to_ m.A m.bs.length m.c b hbb W (hbx.old hW))
      have HBB := hide hbb
      have HMM := hide hm
      clear hbb hm hmL g0 g1 g2
      obtain ⟨frm, to_, A, mc, bs⟩ := m
      simp only [Msg.sl] at d0 d1 d2 cL HBB HM
      cases b
      · have hne : to_ ≠ who := by have := HBB.out; simpa using this
        have HNE := hide hne
        clear hne
        go_wp2_with (go_at_call 23; refine (cL.out _ ((Old.refl' wr).alloc' _)).mono ?_; rintro e w2 ⟨rfl, hb2⟩; have hown2 := own_old (hown.alloc (.cells #[.int .i64 frm, .int .i64 to_, .slice A bs.length mc] 58)) hb2; obtain ⟨p0, p1, p2⟩ := msgCells_get L q m0 hm0; have x0 := own_cells hown2 _ _ p0; have x1 := own_cells hown2 _ _ p1; have x2 := own_cells hown2 _ _ p2; have y0 := own_frozen hown2 (q * 3); have y1 := own_frozen hown2 (q * 3 + 1); have y2 := own_frozen hown2 (q * 3 + 2); have B2 := (Bk.new wr 58 #[.int .i64 frm, .int .i64 to_, .slice A bs.length mc]).old hb2; have z0 := B2.cell 0; have z1 := B2.cell 1; have z2 := B2.cell 2; simp at z0 z1 z2; clear p0 p1 p2)
        go_roundw
        case rel =>
          obtain ⟨hbg, _, _, cur, hc, _, _⟩ := own_some hown2
          have hF' : FrT MsgT base w w2 := (hF.alloc _).then_old hb2
          have hbx2 := (hbx.alloc (.cells #[.int .i64 frm, .int .i64 to_, .slice A bs.length mc] 58)).old hb2
          have hne := hbx2.ne_ hc (by decide)
          refine ⟨j + 1, q + 1, by omega, by omega, by go_num, by go_num, ((hF'.set_ hc hbg rfl (q * 3) _).set_ (hc.set_ _ _) hbg rfl (q * 3 + 1) _).set_ ((hc.set_ _ _).set_ _ _) hbg rfl (q * 3 + 2) _,
            ((hbx2.far (p := ⟨ga, q * 3, none⟩) hne _).far (p := ⟨ga, q * 3 + 1, none⟩) hne _).far (p := ⟨ga, q * 3 + 2, none⟩) hne _, L.set q ⟨frm, to_, A, mc, bs⟩, ⟨by rw [List.length_set]; exact HLn.out, ?_⟩, ?_, ?_⟩
          · rw [HM.out, if_neg HNE.out, List.take_succ_eq_append_getElem (by rw [List.length_set, HLn.out]; omega), List.getElem_set_self, List.take_set_of_le (Nat.le_refl _), HLt.out]
          · rw [List.drop_set_of_lt (by omega), ← List.drop_drop, ← List.drop_drop, HLd.out]
          · rw [← msgCells_set]
            exact own_store (own_store (own_store hown2 _ _) _ _) _ _
        case measure => simp [intOf]; omega
      · have he : to_ = who := by have := HBB.out; simpa using this
        have HE := hide he
        clear he
        go_wp2_with (go_at_call 23; refine (cL.out _ ((Old.refl' wr).alloc' _)).mono ?_; rintro e w2 ⟨rfl, hb2⟩; have hown2 := own_old (hown.alloc (.cells #[.int .i64 frm, .int .i64 to_, .slice A bs.length mc] 58)) hb2)
        go_roundw
        case rel =>
          refine ⟨j + 1, q, by omega, by omega, rfl, by go_num, (hF.alloc _).then_old hb2, (hbx.alloc _).old hb2, L, ⟨HLn.out, ?_⟩, ?_, hown2⟩
          · rw [HM.out, if_pos HE.out, HLt.out]
          · rw [← List.drop_drop, ← List.drop_drop, HLd.out]
        case measure => simp [intOf]; omega
    · obtain rfl : j = n := by omega
      have hcut := own_cut hown (k := q) (by omega)
      have hmt : ms.take j = ms := List.take_of_length_le (by rw [← HL.out]; exact Nat.le_refl _)
      have HQ2 := hide (show (others who ms).length = q by rw [← HQ.out, hmt])
      have HC2 := hide (show (L.flatMap Msg.cells).take (q * 3) = (others who ms).flatMap Msg.cells by rw [msgCells_take, HLt.out, hmt])
      have HMS := hide hmt
      have i1 : (q : Int) ≤ (c : Int) := by omega
      have i2 : (0 : Int) ≤ (q : Int) := by omega
      have i3 : (q : Int) ≤ (j : Int) := by omega
      obtain ⟨hbg, _, _, cur, hc, _, _⟩ := own_some hown
      clear hmt
      go_wp2_with ((with_reducible refine wpList_clear_at (.tmp 38) 51 _ Try.underlying51 zero_msg zl_msg zo_msg (by decide) hcut (some ⟨ga, q * 3, none⟩) (j - q) (c - q) ?_ ?_ ?_ ?_); (· rfl); (· exact fun _ => rfl); (· omega); intro w2 hown2 hf2)
      go_ret
      rw [HQ2.out]
      rw [HC2.out] at hown2
      exact ⟨rfl, hown2, hF.trans (FrT.of_blk hf2 hc hbg rfl)⟩
end Go.Proofs.Ytjjcdpcnokckiaa
