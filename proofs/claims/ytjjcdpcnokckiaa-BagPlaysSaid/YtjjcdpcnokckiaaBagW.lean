/- bag: Lose; casebooklaw9.told. -/
import Derived.Outline
import Derived.Test.YtjjcdpcnokckiaaBagM
namespace Go.Proofs.Ytjjcdpcnokckiaa
open Go.RowKit

theorem first_of {p : Nat → Prop} : ∀ n i, i < n → p i → ∃ i, i < n ∧ p i ∧ ∀ j, j < i → ¬ p j := by
  intro n
  induction n with
  | zero => intro i hi; omega
  | succ n ih =>
    intro i hi hp
    by_cases h : ∃ j, j < n ∧ p j
    · obtain ⟨j, hj, hpj⟩ := h
      obtain ⟨k, hk, hpk, hmin⟩ := ih j hj hpj
      exact ⟨k, by omega, hpk, hmin⟩
    · have hin : i = n := by
        rcases Nat.lt_or_ge i n with h' | h'
        · exact absurd ⟨i, h', hp⟩ h
        · omega
      subst hin
      exact ⟨i, hi, hp, fun j hj hpj => h ⟨j, hj, hpj⟩⟩

set_option maxRecDepth 100000 in
set_option maxHeartbeats 2000000 in
theorem Lose_bag (base g : Nat) (ms : List Msg) (who : Int) (n n' : Nat) (hl : ms.length = n) (hl' : (others who ms).length = n') (hn : n ≤ 100000) (w : World) (h : BagAt w base g ms) :
    Calls Try.prog 14 #[.pointer (some ⟨g, 0, none⟩), .int .i64 who] w fun e w' =>
      e = .returned (.int .i64 ((n : Int) - n')) ∧ BagAt w' base g (others who ms) ∧ FrT BagT base w w' := by
  have hn' : n' ≤ n := by rw [← hl, ← hl']; exact others_le who ms
  obtain ⟨A, c, hb, ho⟩ := h.row
  have hg := h.lt
  have cL := hide (Len_bag base g ms n hl hn (w.alloc (.cells #[.int .i64 who] 3)) (h.alloc _))
  have cL2 := hide (fun (W : World) (hW : BagAt W base g (others who ms)) => Len_bag base g (others who ms) n' hl' (by omega) W hW)
  have hb1 := hb.alloc (.cells #[.int .i64 who] 3)
  have ho1 := ho.alloc (.cells #[.int .i64 who] 3)
  have hbx := Bk.new w 3 #[.int .i64 who]
  have c0 := hb.cell 0
  simp at c0
  -- what DeleteFunc gives
  have cD : Calls Try.prog 22 #[.slice A n c, .func (.func 23) #[] #[.pointer (some ⟨w.heap.size, 0, none⟩)]] (w.alloc (.cells #[.int .i64 who] 3)) fun e w' =>
      ∃ A' c', e = .returned (.slice A' n' c') ∧ w'.ownsRow base 58 3 (.slice A' n' c') n' ((others who ms).flatMap Msg.cells) ∧ FrT MsgT base (w.alloc (.cells #[.int .i64 who] 3)) w' := by
    by_cases hex : ∃ i, i < n ∧ toAt ms i = who
    · obtain ⟨i0, hi0, hp0⟩ := hex
      obtain ⟨i, hi, hat, hbef⟩ := first_of (p := fun i => toAt ms i = who) n i0 hi0 hp0
      rw [hl] at ho1
      obtain ⟨ga, cap, e, _, _⟩ := ho1.form (by omega)
      injection e with e1 _ e3
      subst e1 e3
      refine (DelF_yes base ga n c i w.heap.size ms who hl.symm hn hi hat hbef _ ho1 hbx).mono ?_
      rintro e w' ⟨rfl, h1, h2⟩
      rw [hl'] at h1 ⊢
      exact ⟨_, _, rfl, h1, h2⟩
    · have hno : ∀ j, j < n → toAt ms j ≠ who := fun j hj e => hex ⟨j, hj, e⟩
      have hs := others_same who ms (by rw [hl]; exact hno)
      have hnn : n' = n := by rw [← hl', hs, hl]
      subst hnn
      refine (DelF_no A n' c w.heap.size ms who hl.symm hn hno _ (CellsAt.of_own (by rw [hl] at ho1; exact ho1)) hbx).mono ?_
      rintro e w' ⟨rfl, h1⟩
      rw [hs]
      rw [hl] at ho1
      exact ⟨_, _, rfl, own_old ho1 h1, FrT.of_old h1⟩
  have CD := hide cD
  have hfin := hide (fun (A' : Option Addr) (c' : Nat) (W : World) (hlow : base ≤ g) (h1 : W.ownsRow base 58 3 (.slice A' n' c') n' ((others who ms).flatMap Msg.cells)) (h2 : FrT MsgT base (w.alloc (.cells #[.int .i64 who] 3)) W) (hb2 : Bk W g 55 #[.slice A n c]) =>
    show BagAt (W.setCell ⟨g, 0, none⟩ (.slice A' n' c')) base g (others who ms) ∧ FrT BagT base w (W.setCell ⟨g, 0, none⟩ (.slice A' n' c')) from by
      have hF : FrT BagT base w (W.setCell ⟨g, 0, none⟩ (.slice A' n' c')) := ((FrT.of_old ((Old.refl' w).alloc' _)).trans (h2.mono (fun t ht => .inr ht))).set_ hb2 hlow (.inl rfl) 0 _
      refine ⟨⟨⟨A', c', ?_, ?_⟩, fun m hm => own_frT (h.own m (List.mem_filter.1 hm).1) hF (by unfold BagT; decide), h.low⟩, hF⟩
      · rw [hl']; exact hb2.set_ 0 _
      · rw [hl']; exact own_set h1 (own_ne_bk h1 hb2 (by decide)) _)
  rw [hl] at c0 hb1
  have HL' := hide hl'
  clear cD hl hl' hbx ho1
  go_enter Try.func14, Try.ntmps14
  go_wp2_with
    (first
      | (go_at_call 12; refine cL.out.mono ?_; rintro e w1 ⟨rfl, rfl⟩)
      | (go_at_call 22; refine CD.out.mono ?_; rintro e w1 ⟨A', c', rfl, h1, h2⟩; have hb2 := hb1.frT h2 (by unfold MsgT; decide); have x0 := hb2.cell 0; have y0 := hb2.frozen 0; simp at x0)
      | (go_at_call 12; refine (cL2.out _ (hfin.out _ _ _ h.low h1 h2 hb2).1).mono ?_; rintro e w2 ⟨rfl, rfl⟩))
  go_ret
  exact ⟨rfl, (hfin.out _ _ _ h.low h1 h2 hb2).1, (hfin.out _ _ _ h.low h1 h2 hb2).2⟩
end Go.Proofs.Ytjjcdpcnokckiaa
