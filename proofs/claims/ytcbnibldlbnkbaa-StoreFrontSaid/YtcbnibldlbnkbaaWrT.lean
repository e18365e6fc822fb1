/- pack.Writer: Text, Bytes; the document's Num, Text, Yes. -/
import Derived.Laws.BytesArg
import Derived.Test.YtcbnibldlbnkbaaWr
import Derived.Test.YtcbnibldlbnkbaaAppS
namespace Go.Proofs.Ytcbnibldlbnkbaa
open Go.RowKit Go.Lib

theorem strCells_nums (d : ByteArray) : strCells d = u8s (numsOf d) := by simp [strCells, u8s, numsOf]
theorem numsOf_length (d : ByteArray) : (numsOf d).length = d.size := by rw [numsOf, List.length_map, Array.length_toList]; rfl
def textB (d : ByteArray) : List Int := numB d.size ++ numsOf d
def yesB (b : Bool) : List Int := [if b then 1 else 0]

theorem run_str {w : World} {A : Option Addr} {bs : List Int} (n c : Nat) (hl : bs.length = n) (h : CellsAt w A (u8s bs)) : (convert 43 9 (.slice A n c)).run Try.prog w = .ok (.string (strOfNums bs)) w := by
  by_cases he : bs = []
  · subst he
    simp at hl
    subst hl
    rw [run_convert_bytes_string w 43 9 5 A 0 c Try.underlying43 Try.underlying5 Try.underlying9]
    cases A with
    | none => rfl
    | some a => simp [Conv.bytesToString, strOfNums, loadCells, loadCellsFrom]; rfl
  · obtain ⟨b, o, rfl, hb, hc⟩ := h (by simpa using he)
    refine run_convert_bytes_arg w 43 5 Try.underlying43 Try.underlying5 b o n c bs hl (fun i hi => hc i _ ?_) 9 Try.underlying9
    rw [List.getElem?_map, List.getElem?_eq_getElem (by omega), List.getD_eq_getElem?_getD, List.getElem?_eq_getElem (by omega)]
    rfl

set_option maxRecDepth 100000 in
set_option maxHeartbeats 1000000 in
theorem Text_w (g : Nat) (d : ByteArray) (V : Value) (bs : List Int) (hn : bs.length ≤ 9000000) (hd : d.size ≤ 100000) (w : World) (h : WrAt w g V bs) :
    Calls Try.prog 41 #[.pointer (some ⟨g, 0, none⟩), .string d] w fun e w' => e = .returned (.tuple #[]) ∧ Wrote w g V (bs ++ textB d) w' := by
  obtain ⟨i0, hi, hz0, hz1, hz2⟩ := info_parts info_u8
  have hN := hide (Num_w g d.size V bs (by omega) (by omega) w h)
  have hnl := numB_len d.size (by omega)
  go_enter Try.func41, Try.ntmps41
  go_wp2_with fail
  refine hN.out.mono ?_
  rintro e w1 ⟨rfl, V1, a1, f1, n1⟩
  have hl1 : (bs ++ numB d.size).length ≤ 9000010 := by rw [List.length_append]; omega
  obtain ⟨cs, hcs⟩ : ∃ cs, bs ++ numB d.size = cs := ⟨_, rfl⟩
  have HC := hide hcs
  rw [hcs] at a1 hl1
  clear hcs
  obtain ⟨A, c, rfl, hc, hA⟩ := own_form a1.own
  obtain ⟨c0, f0⟩ := bk_one a1.bk
  have hown := a1.own
  have hgl := a1.bk.lt
  have HA := hide a1
  have HF := hide f1
  have HN := hide n1
  clear a1 f1 n1
  go_wp2_with (at_builtin; refine wpList_appS rfl (.tmp 15) (.tmp 16) 43 9 rfl 0 5 i0 Try.underlying43 Try.underlying9 hi hz0 hz1 hz2 _ _ _ rfl hown d rfl (by unfold maxLen; omega) (by omega) (by simp) _ rfl _ rfl ?_; intro A2 c2 w2 h2; obtain ⟨y0, y1⟩ := bk_one (h2.bk HA.out.bk HA.out.ne))
  go_end0
  have this := (Wrote.app HA.out (Old.refl' w1) (cs := numsOf d) (by rw [List.length_append, numsOf_length, show u8s (cs ++ numsOf d) = u8s cs ++ strCells d by rw [strCells_nums]; simp [u8s]]; exact h2)).from_ HF.out HN.out
  have e : cs ++ numsOf d = bs ++ textB d := by rw [← HC.out]; simp [textB]
  rw [e] at this
  exact ⟨rfl, this⟩

set_option maxRecDepth 100000 in
set_option maxHeartbeats 1000000 in
theorem Bytes_w (g n : Nat) (V : Value) (bs : List Int) (hl : bs.length = n) (hn : n ≤ 10000000) (w : World) (h : WrAt w g V bs) :
    Calls Try.prog 42 #[.pointer (some ⟨g, 0, none⟩)] w fun e w' => ∃ A c, e = .returned (.slice A n c) ∧ w'.ownsRow w.heap.size 5 1 (.slice A n c) n (u8s bs) ∧ Old w w' := by
  obtain ⟨i0, hi, hz0, hz1, hz2⟩ := info_parts info_u8
  have hbk := h.bk
  have hown := h.own
  obtain ⟨A, c, rfl, hc, hA⟩ := own_form hown
  obtain ⟨c0, f0⟩ := bk_one hbk
  have hcs : CellsAt w A (u8s bs) := CellsAt.of_own hown
  have hgl := hbk.lt
  have HL := hide hl
  rw [hl] at c0
  clear h hown hc hA hl hbk
  go_enter Try.func42, Try.ntmps42
  go_wp2_with (at_builtin; refine wpList_app _ rfl (.tmp 5) (.tmp 9) 43 rfl w.heap.size 5 i0 (.int .u8 0) 1 1 Try.underlying43 hi hz0 hz1 hz2 rfl (by decide) (.slice (some ⟨w.heap.size, 0, none⟩) 0 0) 0 [] rfl (World.ownsRow_made w #[] 0 (Nat.le_refl _) (by decide) rfl) A n c (u8s bs) rfl (by simp [HL.out]) (CellsAt.alloc hcs _) (by simp [Value.oneCell']) (by unfold maxLen; omega) (by omega) (by simp) n (Nat.zero_add _) (u8s bs) (List.nil_append _) ?_; intro A' c' w1 h1)
  go_ret
  exact ⟨A', c', rfl, h1.own, h1.old ((Old.refl' w).alloc' _) (fun k hk => by simp [Value.ownBlock] at hk; omega)⟩

theorem strOf_append (xs bs : List Int) : strOfNums (xs ++ bs) = strOfNums xs ++ strOfNums bs := by
  apply ByteArray.ext
  simp [strOfNums]

set_option maxRecDepth 100000 in
set_option maxHeartbeats 1000000 in
theorem RNum_any (v : Nat) (hv : v < 18446744073709551616) (w : World) :
    Calls Try.prog 45 #[.int .u64 v] w fun e w' => e = .returned (.string (strOfNums (numB v))) ∧ Old w w' := by
  obtain ⟨i0, hi, hz0, hz1, hz2⟩ := info_parts info_u8
  go_enter Try.func45, Try.ntmps45
  go_wp2
  go_loopw [0, 3] (fun i sl wr => ∃ (u : Nat) (cs : List Int), i = .int .u64 u ∧ u ≤ v ∧ wr.ownsRow w.heap.size 5 1 sl cs.length (u8s cs) ∧ Old w wr ∧ cs ++ numB u = numB v) (fun i _ _ => (intOf i).toNat)
  case atStart => exact ⟨v, [], rfl, Nat.le_refl _, World.ownsRow_nil _ _ _ _, Old.refl' w, rfl⟩
  case round =>
    obtain ⟨u, cs, rfl, hu, hown, hB, he⟩ := hrel
    have hcl : cs.length ≤ 10 := by
      have h1 := congrArg List.length he
      simp only [List.length_append] at h1
      have := numB_len v hv
      omega
    obtain ⟨A, c, rfl, hc, hA⟩ := own_form hown
    have HB := hide hB
    clear hB
    have hbs := HB.out.size
    by_cases hlt : u < 128
    · have HE := hide (he ▸ congrArg (cs ++ ·) (numB_small hlt).symm : cs ++ [(u : Int)] = numB v)
      clear he
      have hlt' : ¬ (128 : Int) ≤ (u : Int) := by omega
      have hw : IntKind.u8.wrap (u : Int) = u := by simp [IntKind.wrap_u8]; omega
      go_wp2_with
        (first
        | (at_builtin; refine wpList_app _ rfl (.tmp 14) (.tmp 17) 43 rfl w.heap.size 5 i0 (.int .u8 0) 1 1 Try.underlying43 hi hz0 hz1 hz2 rfl (by decide) _ _ _ rfl (hown.alloc _) (some ⟨wr.heap.size, 0, none⟩) 1 1 [.int .u8 (u : Int)] rfl rfl (cells_bk (Bk.new wr 5 #[.int .u8 (u : Int)])) (by simp [Value.oneCell']) (by unfold maxLen; omega) (by omega) (by simp; omega) _ rfl _ rfl ?_; intro A2 c2 w2 h2; have hs2 := run_str (bs := cs ++ [(u : Int)]) (cs.length + 1) c2 (by simp) (by rw [u8s1]; exact CellsAt.of_own h2.own)))
      go_ret
      rw [HE.out]
      exact ⟨rfl, h2.old (HB.out.alloc' _) (fun k hk => (hown.lt k hk).1)⟩
    · have HE := hide (he ▸ congrArg (cs ++ ·) (numB_large hlt).symm : cs ++ (((u % 128 + 128 : Nat) : Int) :: numB (u / 128)) = numB v)
      clear he
      have hlt' : (128 : Int) ≤ (u : Int) := by omega
      have hx : bits BinOp.or IntKind.u8 ((u : Int) % 256) 128 = ((u % 128 + 128 : Nat) : Int) := or128 u
      obtain ⟨x, hxx⟩ : ∃ x : Int, ((u % 128 + 128 : Nat) : Int) = x := ⟨_, rfl⟩
      rw [hxx] at hx HE
      clear hxx
      go_wp2_with (at_builtin; refine wpList_app _ rfl (.tmp 6) (.tmp 10) 43 rfl w.heap.size 5 i0 (.int .u8 0) 1 1 Try.underlying43 hi hz0 hz1 hz2 rfl (by decide) _ _ _ rfl (hown.alloc _) (some ⟨wr.heap.size, 0, none⟩) 1 1 [.int .u8 x] rfl rfl (cells_bk (Bk.new wr 5 #[.int .u8 x])) (by simp [Value.oneCell']) (by unfold maxLen; omega) (by omega) (by simp; omega) _ rfl _ rfl ?_; intro A2 c2 w2 h2)
      have ho2 := hide (show w2.ownsRow w.heap.size 5 1 (.slice A2 (cs.length + 1) c2) (cs ++ [x]).length (u8s (cs ++ [x])) by rw [len1, u8s1]; exact h2.own)
      have hb2 := hide (h2.old (HB.out.alloc' (.cells #[.int .u8 x] 5)) (fun k hk => (hown.lt k hk).1))
      clear h2
      go_roundw
      case rel => exact ⟨u / 128, cs ++ [x], by go_num, by omega, ho2.out, hb2.out, by rw [List.append_assoc]; exact HE.out⟩
      case measure => simp [intOf]; omega

theorem strOf_nums (d : ByteArray) : strOfNums (numsOf d) = d := by
  apply ByteArray.ext
  apply Array.ext'
  simp only [strOfNums, numsOf, List.map_map]
  conv => rhs; rw [← List.map_id d.data.toList]
  refine List.map_congr_left fun c _ => ?_
  simp

set_option maxHeartbeats 400000 in
theorem RText_any (d : ByteArray) (hd : d.size ≤ 100000) (w : World) :
    Calls Try.prog 47 #[.string d] w fun e w' => e = .returned (.string (strOfNums (textB d))) ∧ Old w w' := by
  have hN := hide (RNum_any d.size (by omega) w)
  go_enter Try.func47, Try.ntmps47
  have hs : (strOfNums (numB d.size)).size ≤ 10 := by rw [strOfNums_size]; exact numB_len _ (by omega)
  go_wp2_with fail
  refine hN.out.mono ?_
  rintro e w1 ⟨rfl, hb1⟩
  go_wp2_with fail
  go_ret
  refine ⟨?_, hb1⟩
  rw [textB, strOf_append, strOf_nums]
  rfl
set_option maxHeartbeats 400000 in
theorem RYes_any (b : Bool) (w : World) :
    Calls Try.prog 46 #[.bool b] w fun e w' => e = .returned (.string (strOfNums (yesB b))) ∧ w = w' := by
  cases b
  all_goals
    go_enter Try.func46, Try.ntmps46
    go_wp2
    go_ret
    exact ⟨rfl, rfl⟩
end Go.Proofs.Ytcbnibldlbnkbaa
