/- bag: Double, To, Lose. -/
import Derived.Outline
import Derived.Test.YtjjcdpcnokckiaaBagA
namespace Go.Proofs.Ytjjcdpcnokckiaa
open Go.RowKit

set_option maxRecDepth 100000 in
set_option maxHeartbeats 1000000 in
theorem Double_yes (base g k : Nat) (ms : List Msg) (m : Msg) (hk : ms[k]? = some m) (hn : ms.length ≤ 99999) (hmb : m.bs.length ≤ 100000) (w : World) (h : BagAt w base g ms) :
    Calls Try.prog 10 #[.pointer (some ⟨g, 0, none⟩), .int .i64 k] w fun e w' =>
      e = .returned (.int .i64 0) ∧ (∃ A' c', BagAt w' base g (ms ++ [⟨m.frm, m.to_, A', c', m.bs⟩])) ∧ FrT BagT base w w' := by
  have hlt : k < ms.length := (List.getElem?_eq_some_iff.1 hk).1
  obtain ⟨ga, c, hb, ho, g0, g1, g2⟩ := h.at_ hk
  have cI := hide (is_yes g ms.length c k (some ⟨ga, 0, none⟩) hlt (by omega) w hb)
  have hA : CellsAt w m.A (u8s m.bs) := CellsAt.of_own (h.own m (List.mem_of_getElem? hk))
  have c0 := hb.cell 0
  simp at c0
  have cA := hide (fun (o : Obj) => Add_bag base g ms hn m.frm m.to_ m.A m.bs.length m.c m.bs rfl hmb (w.alloc o) (h.alloc o) (hA.alloc o))
  have hkn : k < ms.length := hlt
  clear hn h hb ho hA hk
  obtain ⟨frm, to_, A, mc, bs⟩ := m
  simp only [Msg.sl] at g2 cA ⊢
  generalize ms.length = n at *
  go_enter Try.func10, Try.ntmps10
  go_wp2_with
    (first
      | (go_at_call 20; refine cI.out.mono ?_; rintro e w1 ⟨rfl, rfl⟩)
      | (go_at_call 9; refine (cA.out _).mono ?_; rintro e w1 ⟨rfl, hB, hF⟩))
  go_ret
  exact ⟨rfl, hB, (FrT.of_old ((Old.refl' w).alloc' _)).trans hF⟩
set_option maxHeartbeats 1000000 in
theorem Double_no (base g : Nat) (k : Int) (ms : List Msg) (hk : k < 0 ∨ (ms.length : Int) ≤ k) (hn : ms.length ≤ 100000) (w : World) (h : BagAt w base g ms) :
    Calls Try.prog 10 #[.pointer (some ⟨g, 0, none⟩), .int .i64 k] w fun e w' => e = .returned (.int .i64 5) ∧ w = w' := by
  obtain ⟨A, c, hb, -⟩ := h.row
  have cI := hide (is_no g ms.length c k A hk hn w hb)
  clear hb hk hn h
  go_enter Try.func10, Try.ntmps10
  go_wp2_with (go_at_call 20; refine cI.out.mono ?_; rintro e w1 ⟨rfl, rfl⟩)
  go_ret
  exact ⟨rfl, rfl⟩

/-! ### To -/
instance : Inhabited Msg := ⟨⟨0, 0, none, 0, []⟩⟩
/-- the places, of the first k, of those to one -/
def toL (ms : List Msg) (who : Int) (k : Nat) : List Int := ((List.range k).filter fun i : Nat => decide ((ms[i]?.getD default).to_ = who)).map fun i : Nat => (i : Int)
theorem toL_yes (ms : List Msg) (who : Int) (k : Nat) (h : (ms[k]?.getD default).to_ = who) : toL ms who (k + 1) = toL ms who k ++ [(k : Int)] := by
  simp [toL, List.range_succ, List.filter_append, h]
theorem toL_no (ms : List Msg) (who : Int) (k : Nat) (h : (ms[k]?.getD default).to_ ≠ who) : toL ms who (k + 1) = toL ms who k := by
  simp [toL, List.range_succ, List.filter_append, h]
theorem toL_le (ms : List Msg) (who : Int) (k : Nat) : (toL ms who k).length ≤ k := by
  have := List.length_filter_le (fun i : Nat => decide ((ms[i]?.getD default).to_ = who)) (List.range k)
  simpa [toL] using this
theorem info_int : (Try.prog.info? 3).map (fun i => (i.zero, i.size, i.bytes)) = some (some (.int .i64 0), 1, 8) := by kernel_rfl

set_option maxRecDepth 100000 in
set_option maxHeartbeats 1000000 in
theorem To_bag (base g : Nat) (ms : List Msg) (who : Int) (hn : ms.length ≤ 100000) (w : World) (h : BagAt w base g ms) :
    Calls Try.prog 13 #[.pointer (some ⟨g, 0, none⟩), .int .i64 who] w fun e w' =>
      ∃ A c, e = .returned (.slice A (toL ms who ms.length).length c) ∧ w'.ownsRow w.heap.size 3 1 (.slice A (toL ms who ms.length).length c) (toL ms who ms.length).length ((toL ms who ms.length).map (Value.int .i64)) ∧ Old w w' := by
  obtain ⟨i0, hi, hz0, hz1, hz2⟩ := info_parts info_int
  obtain ⟨n, hN⟩ : ∃ n, n = ms.length := ⟨_, rfl⟩
  have cL := hide (Len_bag base g ms n hN.symm (by omega) w h)
  rw [← hN] at hn ⊢
  have HN := hide hN
  clear hN
  obtain ⟨Ab, c, hb, ho⟩ := h.row
  rw [← HN.out] at hb ho
  have hg := h.lt
  go_enter Try.func13, Try.ntmps13
  go_wp2_with (go_at_call 12; refine cL.out.mono ?_; rintro e w1 ⟨rfl, rfl⟩)
  go_loopw [5, 9] (fun v iv wr => ∃ k : Nat, k ≤ n ∧ iv = .int .i64 k ∧ Old w wr ∧ wr.ownsRow w.heap.size 3 1 v (toL ms who k).length ((toL ms who k).map (Value.int .i64)))
    (fun _ iv _ => n - (intOf iv).toNat)
  case atStart => exact ⟨0, by omega, rfl, Old.refl' w, World.ownsRow_nil _ _ _ _⟩
  case round =>
    obtain ⟨k, hk, rfl, hB, hown⟩ := hrel
    have hle := toL_le ms who k
    obtain ⟨Av, cv, rfl, -, -⟩ := own_form hown
    by_cases hlt : k < n
    · obtain ⟨m, hm⟩ : ∃ m, ms[k]? = some m := ⟨ms[k]'(by rw [← HN.out]; exact hlt), List.getElem?_eq_getElem _⟩
      obtain ⟨ga, c', hb', ho', -, g1, -⟩ := h.at_ hm
      rw [← HN.out] at hb' ho'
      have hga := own_lt ho'
      have d0 := (hB.cell (p := ⟨g, 0, none⟩) hg).trans (hb'.cell 0)
      have d1 := (hB.cell (p := ⟨ga, k * 3 + 1, none⟩) hga).trans g1
      simp at d0
      have hmd : ms[k]?.getD default = m := by rw [hm]; rfl
      have HM := hide hmd
      obtain ⟨frm, to_, A, mc, bs⟩ := m
      simp only at d1
      clear hm g1 hmd
      by_cases he : to_ = who
      · have he' : (to_ == who) = true := by simpa using he
        have HT := hide (toL_yes ms who k (by rw [HM.out]; exact he))
        have HE := hide he
        clear he
        go_wp2_with (at_builtin; refine wpList_app _ rfl (.tmp 23) (.tmp 25) 22 rfl w.heap.size 3 i0 (.int .i64 0) 1 8 Try.underlying22 hi hz0 hz1 hz2 rfl (by decide) _ _ _ rfl (hown.alloc _) (some ⟨wr.heap.size, 0, none⟩) 1 1 [.int .i64 k] rfl rfl (cells_bk (Bk.new wr 3 #[.int .i64 k])) (by simp [Value.oneCell']) (by unfold maxLen; omega) (by omega) (by have := hB.size; simp; omega) _ rfl _ rfl ?_; intro A2 c2 w2 h2)
        go_roundw
        case rel =>
          refine ⟨k + 1, by omega, by go_num, h2.old (hB.alloc' _) (fun j hj => (hown.lt j hj).1), ?_⟩
          rw [HT.out, List.map_append, List.length_append]
          exact h2.own
        case measure => simp [intOf]; omega
      · have he' : (to_ == who) = false := by simpa using he
        have HT := hide (toL_no ms who k (by rw [HM.out]; exact he))
        have HE := hide he
        clear he
        go_wp2
        go_roundw
        case rel =>
          refine ⟨k + 1, by omega, by go_num, hB, ?_⟩
          rw [HT.out]
          exact hown
        case measure => simp [intOf]; omega
    · obtain rfl : k = n := by omega
      go_wp2
      go_ret
      exact ⟨Av, cv, rfl, hown, hB⟩
end Go.Proofs.Ytjjcdpcnokckiaa
