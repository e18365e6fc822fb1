/- casebooklaw9.told; BagNobody's walk. -/
import Derived.Lib.SlBytesConst
import Derived.Laws.BytesArg
import Derived.Outline
import Derived.Test.YtjjcdpcnokckiaaBagW
namespace Go.Proofs.Ytjjcdpcnokckiaa
open Go.RowKit

theorem run_str {w : World} {A : Option Addr} {bs : List Int} (n c : Nat) (hl : bs.length = n) (h : CellsAt w A (u8s bs)) : (convert 28 9 (.slice A n c)).run Try.prog w = .ok (.string (strOfNums bs)) w := by
  by_cases he : bs = []
  · subst he
    simp at hl
    subst hl
    rw [run_convert_bytes_string w 28 9 5 A 0 c Try.underlying28 Try.underlying5 Try.underlying9]
    cases A with
    | none => rfl
    | some a => simp [Conv.bytesToString, strOfNums, loadCells, loadCellsFrom]; rfl
  · obtain ⟨b, o, rfl, hb, hc⟩ := h (by simpa using he)
    refine run_convert_bytes_arg w 28 5 Try.underlying28 Try.underlying5 b o n c bs hl (fun i hi => hc i _ ?_) 9 Try.underlying9
    rw [List.getElem?_map, List.getElem?_eq_getElem (by omega), List.getD_eq_getElem?_getD, List.getElem?_eq_getElem (by omega)]
    rfl

theorem cells_mark {w : World} {t : TypeId} (cs : Array Value) (fr : Nat × Nat) : CellsAt (w.alloc (.cells cs t fr)) (some ⟨w.heap.size, 0, none⟩) cs.toList := fun _ =>
  ⟨w.heap.size, 0, rfl, by simp, fun k u hk => by rw [Nat.zero_add, World.cell?_alloc_mark]; simpa using hk⟩

set_option maxRecDepth 100000 in
set_option maxHeartbeats 2000000 in
theorem told9_any (w : World) : Calls Try.prog 8 #[] w fun e w' => e = .returned (.bool true) ∧ Old w w' := by
  have kc := Lib.run_convert_bytes_const (P := Try.prog) (w.alloc (.cells #[.slice none 0 0] 55)) 28 5 #[.int .u8 120] 1 1 Try.underlying28 Try.underlying5
  rw [World.size_alloc] at kc
  have b0 : BagAt (w.alloc (.cells #[.slice none 0 0] 55)) w.heap.size w.heap.size [] := New_bagAt w (Nat.le_refl _)
  have hx := cells_mark (w := w.alloc (.cells #[.slice none 0 0] 55)) (t := 5) #[.int .u8 120] (1, 2)
  rw [World.size_alloc] at hx
  have cA := hide (Add_bag w.heap.size w.heap.size [] (by simp) 1 2 (some ⟨w.heap.size + 1, 0, none⟩) 1 1 [120] rfl (by omega) _ (b0.alloc (.cells #[.int .u8 120] 5 (1, 2))) hx)
  have cD := hide (fun (W : World) (A' : Option Addr) (c' : Nat) (h : BagAt W w.heap.size w.heap.size [⟨1, 2, A', c', [120]⟩]) => Double_yes w.heap.size w.heap.size 0 _ ⟨1, 2, A', c', [120]⟩ rfl (by simp) (by simp) W h)
  have cT := hide (fun (W : World) (A' : Option Addr) (c' : Nat) (B' : Option Addr) (d' : Nat) (h : BagAt W w.heap.size w.heap.size [⟨1, 2, A', c', [120]⟩, ⟨1, 2, B', d', [120]⟩]) => Take_yes w.heap.size w.heap.size 1 _ ⟨1, 2, B', d', [120]⟩ rfl (by simp) W h)
  have cN := hide (fun (W : World) (A' : Option Addr) (c' : Nat) (h : BagAt W w.heap.size w.heap.size [⟨1, 2, A', c', [120]⟩]) => Len_bag w.heap.size w.heap.size _ 1 rfl (by omega) W h)
  have cP := hide (fun (W : World) (A' : Option Addr) (c' : Nat) (h : BagAt W w.heap.size w.heap.size [⟨1, 2, A', c', [120]⟩]) => Drop_no w.heap.size w.heap.size 5 _ (by simp) (by simp) W h)
  have cL := hide (fun (W : World) (A' : Option Addr) (c' : Nat) (h : BagAt W w.heap.size w.heap.size [⟨1, 2, A', c', [120]⟩]) => Lose_bag w.heap.size w.heap.size _ 2 1 0 rfl rfl (by omega) W h)
  have cM := hide (fun (W : World) (h : BagAt W w.heap.size w.heap.size []) => Len_bag w.heap.size w.heap.size _ 0 rfl (by omega) W h)
  clear b0 hx
  go_enter Try.func8, Try.ntmps8
  go_wp2_with (go_at_call 7; refine (New_bag _).mono ?_; rintro e w' ⟨rfl, rfl⟩)
  refine cA.out.mono ?_
  rintro e w1 ⟨rfl, ⟨A1, c1, b1⟩, f1⟩
  go_wp2_with fail
  refine (cD.out _ _ _ b1).mono ?_
  rintro e w2 ⟨rfl, ⟨A2, c2, b2⟩, f2⟩
  go_wp2_with fail
  refine (cT.out _ _ _ _ _ b2).mono ?_
  rintro e w3 ⟨rfl, b3, f3⟩
  have hcv := run_str 1 c2 rfl (CellsAt.of_own (own_frT (b2.own ⟨1, 2, A2, c2, [120]⟩ (by simp)) f3 (by unfold BagT; decide)))
  rw [show strOfNums [120] = { data := #[120] } from rfl] at hcv
  simp only [Msg.sl, List.length_cons, List.length_nil, Nat.zero_add]
  go_wp2_with fail
  refine (cN.out _ _ _ b3).mono ?_
  rintro e w4 ⟨rfl, rfl⟩
  go_wp2_with fail
  refine (cP.out _ _ _ b3).mono ?_
  rintro e w4 ⟨rfl, rfl⟩
  go_wp2_with fail
  refine (cL.out _ _ _ b3).mono ?_
  rintro e w4 ⟨rfl, b4, f4⟩
  go_wp2_with fail
  refine (cM.out _ b4).mono ?_
  rintro e w5 ⟨rfl, rfl⟩
  go_wp2_with fail
  go_ret
  exact ⟨rfl, FrT.old f4 (FrT.old f3 (FrT.old f2 (FrT.old f1 (((Old.refl' w).alloc' _).alloc' _))))⟩

/-! ### BagNobody -/
set_option maxHeartbeats 400000 in
theorem Len_nil (w : World) : Calls Try.prog 12 #[.pointer none] w fun e w' => e = .returned (.int .i64 0) ∧ w = w' := by
  go_enter Try.func12, Try.ntmps12
  go_wp2
  go_ret
  exact ⟨rfl, rfl⟩
set_option maxHeartbeats 400000 in
theorem Add_nil (f t : Int) (v : Value) (w : World) : Calls Try.prog 9 #[.pointer none, .int .i64 f, .int .i64 t, v] w fun e w' => e = .returned (.int .i64 (-1)) ∧ w = w' := by
  go_enter Try.func9, Try.ntmps9
  go_wp2
  go_ret
  exact ⟨rfl, rfl⟩
set_option maxHeartbeats 400000 in
theorem Double_nil (k : Int) (w : World) : Calls Try.prog 10 #[.pointer none, .int .i64 k] w fun e w' => e = .returned (.int .i64 5) ∧ w = w' := by
  go_enter Try.func10, Try.ntmps10
  go_wp2
  go_ret
  exact ⟨rfl, rfl⟩
set_option maxHeartbeats 400000 in
theorem Drop_nil (k : Int) (w : World) : Calls Try.prog 16 #[.pointer none, .int .i64 k] w fun e w' => e = .returned (.int .i64 5) ∧ w = w' := by
  go_enter Try.func16, Try.ntmps16
  go_wp2_with (go_at_call 11; refine (Take_nil _ _).mono ?_; rintro e w1 ⟨rfl, rfl⟩)
  go_ret
  exact ⟨rfl, rfl⟩
set_option maxHeartbeats 400000 in
theorem To_nil (k : Int) (w : World) : Calls Try.prog 13 #[.pointer none, .int .i64 k] w fun e w' => e = .returned (.slice none 0 0) ∧ w = w' := by
  go_enter Try.func13, Try.ntmps13
  go_wp2_with (go_at_call 12; refine (Len_nil _).mono ?_; rintro e w1 ⟨rfl, rfl⟩)
  refine wp_loop_rounds 1 ?_
  rw [rounds_succ]
  go_wp2
  go_ret
  exact ⟨rfl, rfl⟩
set_option maxHeartbeats 400000 in
theorem Lose_nil (k : Int) (w : World) : Calls Try.prog 14 #[.pointer none, .int .i64 k] w fun e w' => e = .returned (.int .i64 0) ∧ Old w w' := by
  go_enter Try.func14, Try.ntmps14
  go_wp2_with (go_at_call 12; refine (Len_nil _).mono ?_; rintro e w1 ⟨rfl, rfl⟩)
  go_ret
  exact ⟨rfl, (Old.refl' w).alloc' _⟩
set_option maxHeartbeats 1000000 in
theorem Nobody_walk (k : Int) (A : Option Addr) (n c : Nat) (w : World) :
    Calls Try.prog 6 #[.int .i64 k, .slice A n c] w fun e w' => e = .returned (.bool true) ∧ Old w w' := by
  go_enter Try.func6, Try.ntmps6
  go_wp2_with
    (first
      | (go_at_call 11; refine (Take_nil _ _).mono ?_; rintro e w1 ⟨rfl, rfl⟩)
      | (go_at_call 8; refine (told9_any _).mono ?_; rintro e w1 ⟨rfl, hb1⟩)
      | (go_at_call 9; refine (Add_nil _ _ _ _).mono ?_; rintro e w2 ⟨rfl, rfl⟩)
      | (go_at_call 10; refine (Double_nil _ _).mono ?_; rintro e w2 ⟨rfl, rfl⟩)
      | (go_at_call 16; refine (Drop_nil _ _).mono ?_; rintro e w2 ⟨rfl, rfl⟩)
      | (go_at_call 12; refine (Len_nil _).mono ?_; rintro e w2 ⟨rfl, rfl⟩)
      | (go_at_call 13; refine (To_nil _ _).mono ?_; rintro e w2 ⟨rfl, rfl⟩)
      | (go_at_call 14; refine (Lose_nil _ _).mono ?_; rintro e w2 ⟨rfl, hb2⟩))
  go_ret
  exact ⟨rfl, hb1.trans' hb2⟩
end Go.Proofs.Ytjjcdpcnokckiaa
