/- casebooklaw9.BagLoses: the walk. -/
import Derived.Test.YtgagbhkchbbjpaaLTakes
namespace Go.Proofs.Ytgagbhkchbbjpaa
open Go.RowKit

/-- how many are to one -/
def lostN (who : Int) (ms : List Msg) : Nat := (ms.filter fun m => decide (m.to_ = who)).length
theorem lostN_snoc (who : Int) (ms : List Msg) (m : Msg) : lostN who (ms ++ [m]) = lostN who ms + if m.to_ = who then 1 else 0 := by
  unfold lostN
  rw [List.filter_append, List.length_append]
  by_cases h : m.to_ = who <;> simp [h]
theorem others_snoc (who : Int) (ms : List Msg) (m : Msg) : others who (ms ++ [m]) = if m.to_ = who then others who ms else others who ms ++ [m] := by
  unfold others
  rw [List.filter_append]
  split <;> simp_all
theorem lost_others (who : Int) (ms : List Msg) : lostN who ms + (others who ms).length = ms.length := by
  induction ms with
  | nil => rfl
  | cons m ms ih =>
    unfold lostN others at *
    by_cases h : m.to_ = who
    · have e1 : decide (m.to_ = who) = true := by simpa using h
      have e2 : decide (m.to_ ≠ who) = false := by simpa using h
      rw [List.filter_cons, List.filter_cons, e1, e2]
      simp only [if_true, Bool.false_eq_true, if_false, List.length_cons]
      omega
    · have e1 : decide (m.to_ = who) = false := by simpa using h
      have e2 : decide (m.to_ ≠ who) = true := by simpa using h
      rw [List.filter_cons, List.filter_cons, e1, e2]
      simp only [if_true, Bool.false_eq_true, if_false, List.length_cons]
      omega
theorem toL_lost (who : Int) (ms : List Msg) : ∀ k, k ≤ ms.length → (toL ms who k).length = lostN who (ms.take k) := by
  intro k
  induction k with
  | zero => intro _; simp [toL, lostN]
  | succ k ih =>
    intro hk
    have hlt : k < ms.length := by omega
    rw [List.take_succ_eq_append_getElem hlt, lostN_snoc]
    have hd : ms[k]?.getD default = ms[k] := by rw [List.getElem?_eq_getElem hlt]; rfl
    by_cases h : ms[k].to_ = who
    · rw [toL_yes ms who k (by rw [hd]; exact h), List.length_append, ih (by omega), if_pos h]; rfl
    · rw [toL_no ms who k (by rw [hd]; exact h), ih (by omega), if_neg h, Nat.add_zero]
theorem toL_len (who : Int) (ms : List Msg) : (toL ms who ms.length).length = lostN who ms := by
  rw [toL_lost who ms _ (Nat.le_refl _), List.take_length]
theorem toL_gone (who : Int) (ms : List Msg) : (toL (others who ms) who (others who ms).length).length = 0 := by
  rw [toL_len]
  unfold lostN others
  rw [List.filter_filter]
  simp

set_option maxRecDepth 100000 in
set_option maxHeartbeats 4000000 in
theorem Loses_walk (A0 : Option Addr) (n c0 : Nat) (tos : List Int) (who : Int) (hl : n = tos.length) (hn : n ≤ 9223372036854775807) (w : World) (h0 : IntsAt w A0 tos) :
    Calls Try.prog 4 #[.slice A0 n c0, .int .i64 who] w fun e w' => e = .returned (.bool true) ∧ Old w w' := by
  have HL := hide hl
  clear hl
  obtain ⟨i0, hi, hz0, hz1, hz2⟩ := info_parts info_int
  by_cases h40 : 40 < n
  · go_enter Try.func4, Try.ntmps4
    go_wp2_with (first | (go_at_call 11; refine (New_bag _).mono ?_; rintro e w' ⟨rfl, rfl⟩) | (go_at_call 12; refine (told9_any _).mono ?_; rintro e w9 ⟨rfl, hb9⟩))
    go_ret
    exact ⟨rfl, ((Old.refl' w).alloc' _).trans' hb9⟩
  · have h40' : decide ((40 : Int) < (n : Int)) = false := by simp; omega
    have hbag := New_bagAt w (Nat.le_refl w.heap.size)
    obtain ⟨W, hW, hW4⟩ := umodN who 4 (by omega) (by omega)
    go_enter Try.func4, Try.ntmps4
    go_wp2_with (go_at_call 11; refine (New_bag _).mono ?_; rintro e w' ⟨rfl, rfl⟩)
    simp only [hW]
    clear hW
    have hB1 : Old w (w.alloc (.cells #[.slice none 0 0] 73)) := (Old.refl' w).alloc' _
    go_loopw [7, 8, 9] (fun lv fv iv wr => ∃ (k : Nat) (ms : List Msg) (lf : List Int), k ≤ n ∧ iv = .int .i64 k ∧ lv = .int .i64 (lostN W ms) ∧ (ms.length = k ∧ (others W ms).map Msg.bs = lf.map fun x => [x]) ∧ Old w wr ∧ BagAt wr w.heap.size w.heap.size ms ∧
        wr.ownsRow w.heap.size 3 1 fv lf.length (lf.map (Value.int .i64)) ∧ ∀ x ∈ lf, 0 ≤ x ∧ x < 40)
      (fun _ _ iv _ => n - (intOf iv).toNat)
    case atStart => exact ⟨0, [], [], by omega, rfl, rfl, ⟨rfl, rfl⟩, hB1, hbag, World.ownsRow_nil _ _ _ _, by simp⟩
    case round =>
      clear hB1 hbag
      obtain ⟨k, ms, lf, hk, rfl, rfl, ⟨hmk, hbs⟩, hB, hbag, hown, hlf⟩ := hrel
      have hlo := lost_others W ms
      have hlfl : lf.length = (others W ms).length := by have := congrArg List.length hbs; simpa using this.symm
      have HMK := hide hmk
      have HBS := hide hbs
      have HLF := hide hlf
      have HLFL := hide hlfl
      obtain ⟨S, hS⟩ : ∃ S, lostN W ms = S := ⟨_, rfl⟩
      obtain ⟨Av, cv, rfl, -, -⟩ := own_form hown
      obtain ⟨F, hFl⟩ : ∃ F, lf.length = F := ⟨_, rfl⟩
      have hSF : S + F = k := by omega
      simp only [hS]
      rw [hFl] at hown
      simp only [hFl]
      have HS := hide hS
      have HF := hide hFl
      have hsle : S ≤ k := by omega
      have hfle : F ≤ k := by omega
      have HSF := hide hSF
      clear hlo hmk hbs hlf hlfl hS hFl hSF
      by_cases hlt : k < n
      · obtain ⟨b0, o0, rfl, hb0, g0⟩ := h0.at_ (k := k) (by have := HL.out; omega)
        have d0 := (hB.cell (p := ⟨b0, o0 + k, none⟩) hb0).trans g0
        obtain ⟨x, hx⟩ : ∃ x, tos[k]?.getD 0 = x := ⟨_, rfl⟩
        rw [hx] at d0
        clear hx g0
        have hu8 : IntKind.u8.wrap (k : Int) = (k : Int) := by simp [IntKind.wrap_u8]; omega
        obtain ⟨y, hy, hy4⟩ := umodN x 4 (by omega) (by omega)
        have cA := hide (by have := Add_bag w.heap.size w.heap.size ms (by rw [HMK.out]; omega) 0 y (some ⟨wr.heap.size, 0, none⟩) 1 1 [(k : Int)] rfl (by omega) _ (hbag.alloc (.cells #[.int .u8 (k : Int)] 5)) (cells_bk (Bk.new wr 5 #[.int .u8 (k : Int)])); rw [HMK.out] at this; exact this)
        go_wp2_with fail
        simp only [hy]
        clear hy
        refine cA.out.mono ?_
        rintro e w2 ⟨rfl, ⟨A', c', b2⟩, f2⟩
        have hB2 : Old w w2 := FrT.old f2 (hB.alloc' _)
        have hown2 := own_frT (hown.alloc (.cells #[.int .u8 (k : Int)] 5)) f2 (by unfold BagT; decide)
        by_cases he : y = W
        · subst he
          have he' : ((y : Int) == (y : Int)) = true := by simp
          have h1 : lostN y (ms ++ [⟨0, y, A', c', [(k : Int)]⟩]) = S + 1 := by rw [lostN_snoc, HS.out]; simp
          have h2 : others y (ms ++ [⟨0, y, A', c', [(k : Int)]⟩]) = others y ms := by rw [others_snoc]; simp
          have H1 := hide h1
          have H2 := hide h2
          clear h1 h2
          go_wp2_with fail
          go_roundw
          case rel => exact ⟨k + 1, _, lf, by omega, by go_num, by rw [H1.out]; go_num, ⟨by rw [List.length_append, HMK.out]; rfl, by rw [H2.out]; exact HBS.out⟩, hB2, b2, by rw [HF.out]; exact hown2, HLF.out⟩
          case measure => simp [intOf]; omega
        · have he' : ((y : Int) == (W : Int)) = false := by rw [beq_eq_false_iff_ne]; omega
          have h1 : lostN W (ms ++ [⟨0, y, A', c', [(k : Int)]⟩]) = S := by rw [lostN_snoc, HS.out, if_neg (by simp; omega)]; rfl
          have h2 : others W (ms ++ [⟨0, y, A', c', [(k : Int)]⟩]) = others W ms ++ [⟨0, y, A', c', [(k : Int)]⟩] := by rw [others_snoc, if_neg (by simp; omega)]
          have H1 := hide h1
          have H2 := hide h2
          clear h1 h2
          go_wp2_with (at_builtin; refine wpList_app _ rfl (.tmp 52) (.tmp 54) 22 rfl w.heap.size 3 i0 (.int .i64 0) 1 8 Try.underlying22 hi hz0 hz1 hz2 rfl (by decide) _ _ _ rfl (hown2.alloc _) (some ⟨w2.heap.size, 0, none⟩) 1 1 [.int .i64 k] rfl rfl (cells_bk (Bk.new w2 3 #[.int .i64 k])) (by simp [Value.oneCell']) (by unfold maxLen; omega) (by omega) (by have := hB2.size; simp; omega) _ rfl _ rfl ?_; intro A3 c3 w3 h3)
          have hB3 : Old w w3 := h3.old (hB2.alloc' _) (fun j hj => (hown2.lt j hj).1)
          have b3 : BagAt w3 w.heap.size w.heap.size (ms ++ [⟨0, y, A', c', [(k : Int)]⟩]) := (b2.alloc _).frT (T := fun t => t = 3) (b := 0) (h3.frT (hown2.alloc _) rfl (Nat.zero_le _)) (by decide) (by decide) (by decide)
          go_roundw
          case rel =>
            refine ⟨k + 1, _, lf ++ [(k : Int)], by omega, by go_num, by rw [H1.out], ⟨by rw [List.length_append, HMK.out]; rfl, by rw [H2.out, List.map_append, List.map_append, HBS.out]; rfl⟩, hB3, b3, ?_, ?_⟩
            · rw [List.length_append, HF.out, List.map_append]
              exact h3.own
            · intro x hx
              rcases List.mem_append.1 hx with hx | hx
              · exact HLF.out x hx
              · obtain rfl : x = (k : Int) := by simpa using hx
                omega
          case measure => simp [intOf]; omega
      · obtain rfl : k = n := by omega
        clear hlt hk
        obtain ⟨wo, rfl⟩ : ∃ wo : World, wo = wr := ⟨_, rfl⟩
        have cT := hide (by have := To_bag w.heap.size w.heap.size ms W (by rw [HMK.out]; omega) wo hbag; rw [toL_len, HS.out] at this; exact this)
        have cL := hide (fun (V : World) (hV : BagAt V w.heap.size w.heap.size ms) => by have := Lose_bag w.heap.size w.heap.size ms W k F HMK.out (HLFL.out.symm.trans HF.out) (by omega) V hV; rw [show ((k : Int) - (F : Int)) = (S : Int) from by have := HSF.out; omega] at this; exact this)
        have cN := hide (fun (V : World) (hV : BagAt V w.heap.size w.heap.size (others W ms)) => Len_bag w.heap.size w.heap.size (others W ms) F (HLFL.out.symm.trans HF.out) (by omega) V hV)
        have cT2 := hide (fun (V : World) (hV : BagAt V w.heap.size w.heap.size (others W ms)) => by have := To_bag w.heap.size w.heap.size (others W ms) W (by have := HLFL.out; have := HF.out; omega) V hV; rw [toL_gone] at this; exact this)
        go_wp2_with fail
        refine cT.out.mono ?_
        rintro e w2 ⟨A2, c2, rfl, -, hb2⟩
        go_wp2_with fail
        refine (cL.out _ (hbag.old hb2)).mono ?_
        rintro e w3 ⟨rfl, b3, f3⟩
        go_wp2_with fail
        refine (cN.out _ b3).mono ?_
        rintro e w4 ⟨rfl, rfl⟩
        go_wp2_with fail
        refine (cT2.out _ b3).mono ?_
        rintro e w4 ⟨A4, c4, rfl, -, hb4⟩
        go_wp2_with fail
        have hB4 : Old w w4 := (FrT.old f3 (hB.trans' hb2)).trans' hb4
        have b4 := b3.old hb4
        have hown4 := own_old (own_frT (own_old hown hb2) f3 (by unfold BagT; decide)) hb4
        clear hB hbag hown cT cL cN cT2
        go_loopw [12] (fun iv wr => ∃ i : Nat, i ≤ F ∧ iv = .int .i64 i ∧ Old w wr ∧ BagAt wr w.heap.size w.heap.size ((others W ms).drop i) ∧ wr.ownsRow w.heap.size 3 1 (.slice Av F cv) F (lf.map (Value.int .i64))) (fun iv _ => F - (intOf iv).toNat)
        case atStart => exact ⟨0, by omega, rfl, hB4, b4, hown4⟩
        case round =>
          clear hB4 b4 hown4
          obtain ⟨i, hi', rfl, hB, hbag, hown⟩ := hrel
          by_cases hif : i < F
          · have hol : (others W ms).length = F := HLFL.out.symm.trans HF.out
            obtain ⟨m, hm⟩ : ∃ m, (others W ms)[i]? = some m := ⟨(others W ms)[i]'(by rw [hol]; exact hif), List.getElem?_eq_getElem _⟩
            obtain ⟨x, hx⟩ : ∃ x, lf[i]? = some x := ⟨lf[i]'(by rw [HF.out]; exact hif), List.getElem?_eq_getElem _⟩
            have hmb : m.bs = [x] := by
              have h1 := congrArg (fun l => l[i]?) HBS.out
              simp only [List.getElem?_map, hm, hx, Option.map_some] at h1
              exact Option.some.inj h1
            have hmW : m.to_ ≠ W := by
              have := (List.mem_filter.1 (List.mem_of_getElem? hm)).2
              simpa using this
            obtain ⟨hx0, hx1⟩ := HLF.out x (List.mem_of_getElem? hx)
            have hm0 : ((others W ms).drop i)[0]? = some m := by rw [List.getElem?_drop, Nat.add_zero, hm]
            obtain ⟨frm, to_, A, mc, bs⟩ := m
            simp only at hmb hmW
            subst hmb
            have hmW' : (to_ == (W : Int)) = false := by rw [beq_eq_false_iff_ne]; exact hmW
            have cT := hide (Take_yes w.heap.size w.heap.size 0 _ _ hm0 (by rw [List.length_drop, hol]; omega) _ hbag)
            have HE := hide (show ((others W ms).drop i).eraseIdx 0 = (others W ms).drop (i + 1) by rw [← List.drop_drop]; cases (others W ms).drop i <;> rfl)
            have hmem := List.mem_of_getElem? hm0
            obtain ⟨gl, cl, el, _, _⟩ := hown.form (by omega)
            injection el with el1 _ el3
            subst el1 el3
            have i1 : (0 : Int) ≤ (i : Int) := by omega
            have i2 : (i : Int) < (F : Int) := by omega
            go_wp2_with fail
            refine cT.out.mono ?_
            rintro e w5 ⟨rfl, b5, f5⟩
            have hB5 : Old w w5 := FrT.old f5 hB
            have hown5 := own_frT hown f5 (by unfold BagT; decide)
            have g5 := own_cells hown5 i (.int .i64 x) (by rw [List.getElem?_map, hx]; rfl)
            have hm5 : w5.ownsRow w.heap.size 5 1 (.slice A 1 mc) 1 [.int .u8 x] := own_frT (hbag.own _ hmem) f5 (by unfold BagT; decide)
            obtain ⟨bm, om, eA, hbm, hcm⟩ := (CellsAt.of_own hm5) (by simp)
            subst eA
            have q5 := hcm 0 _ rfl
            rw [Nat.add_zero] at q5
            simp only [Msg.sl, List.length_cons, List.length_nil, Nat.zero_add]
            rw [HE.out] at b5
            clear hm hx hm0 hmW hol hmem hm5 hcm cT hown hbag hB
            go_wp2_with fail
            go_quiet (fail)
            go_wp2
            go_roundw
            case rel => exact ⟨i + 1, by omega, by go_num, hB5.drewN' _, b5.drewN _, own_drewN hown5 _⟩
            case measure => simp [intOf]; omega
          · obtain rfl : i = F := by omega
            have cN := hide (fun (V : World) (hV : BagAt V w.heap.size w.heap.size ((others W ms).drop i)) => Len_bag w.heap.size w.heap.size _ 0 (by rw [List.length_drop, HLFL.out.symm.trans HF.out, Nat.sub_self]) (by omega) V hV)
            go_wp2_with
              (first
                | (go_at_call 12; refine (told9_any _).mono ?_; rintro e w9 ⟨rfl, hb9⟩)
                | (go_at_call 16; refine (cN.out _ (hbag.old hb9)).mono ?_; rintro e w10 ⟨rfl, rfl⟩))
            go_ret
            exact ⟨rfl, hB.trans' hb9⟩
end Go.Proofs.Ytgagbhkchbbjpaa
