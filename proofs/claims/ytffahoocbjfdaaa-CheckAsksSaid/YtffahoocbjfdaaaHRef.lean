/- The document's small comparisons: Writes, Ints, Versions, SameReply. -/
import Derived.Test.YtffahoocbjfdaaaRows
import Derived.Test.YtffahoocbjfdaaaHBs
namespace Go.Proofs.Ytffahoocbjfdaaa
open Go.RowKit
theorem retb {b c : Bool} (h : b = c) : Ending.returned (.bool b) = Ending.returned (.bool c) := by rw [h]
def Writes (k : Int) : Bool := k == 1 || k == 2 || k == 3
structure Rep where
  code : Int
  ver : Int
  data : ByteArray
  vs : List Int
def Rep.same (r s : Rep) : Bool := r.code == s.code && r.ver == s.ver && decide (r.data = s.data) && decide (r.vs = s.vs)
theorem Rep.same_iff (r s : Rep) : r.same s = true ↔ r = s := by
  cases r; cases s; simp [Rep.same, and_assoc]
set_option maxHeartbeats 400000 in
theorem Writes_any (c s k i m : Int) (d : ByteArray) (w : World) :
    Calls Try.prog 18 #[.agg #[.int .i64 c, .int .i64 s, .int .i64 k, .int .i64 i, .int .i64 m, .string d]] w fun e w' => e = .returned (.bool (Writes k)) ∧ Old w w' := by
  go_enter Try.func18, Try.ntmps18
  go_wp2
  all_goals go_ret
  all_goals refine ⟨by simp_all [Writes], (Below.refl _ _).alloc (Nat.le_refl _) _⟩
set_option maxHeartbeats 400000 in
theorem Ints_len (n m : Nat) (A B : Option Addr) (ca cb : Nat) (w : World) (_hn : n ≤ 1000) (_hm : m ≤ 1000) (hne : n ≠ m) :
    Calls Try.prog 14 #[.slice A n ca, .slice B m cb] w fun e w' => e = .returned (.bool false) ∧ Old w w' := by
  go_enter Try.func14, Try.ntmps14
  go_wp2
  go_ret
  exact ⟨rfl, Old.refl' w⟩
set_option maxHeartbeats 1000000 in
theorem Ints_eq (n : Nat) (A B : Option Addr) (vs us : List Int) (ca cb : Nat) (w : World) (ha : IntsAt w A vs) (hb : IntsAt w B us) (hn : n ≤ 1000) (hl : n = vs.length) (hl' : n = us.length) :
    Calls Try.prog 14 #[.slice A n ca, .slice B n cb] w fun e w' => e = .returned (.bool (decide (vs = us))) ∧ Old w w' := by
  have HL := hide hl
  have HL' := hide hl'
  clear hl hl'
  go_enter Try.func14, Try.ntmps14
  go_wp2
  go_loopw [5] (fun i wr => ∃ k : Nat, k ≤ n ∧ i = .int .i64 k ∧ Old w wr ∧ vs.take k = us.take k) (fun i _ => n - (intOf i).toNat)
  case atStart => exact ⟨0, by omega, rfl, Old.refl' w, by simp⟩
  case round =>
    obtain ⟨k, hk, rfl, hbel, htk⟩ := hrel
    have HT := hide htk
    clear htk
    by_cases hlt : k < n
    · obtain ⟨b1, o1, rfl, hb1, h1⟩ := ha.at_ (k := k) (by have := HL.out; omega)
      obtain ⟨b2, o2, rfl, hb2, h3⟩ := hb.at_ (k := k) (by have := HL'.out; omega)
      obtain ⟨x, hx⟩ : ∃ x, x = vs[k]?.getD 0 := ⟨_, rfl⟩
      obtain ⟨y, hy⟩ : ∃ x, x = us[k]?.getD 0 := ⟨_, rfl⟩
      rw [← hx] at h1
      rw [← hy] at h3
      have HX := hide hx
      have HY := hide hy
      clear hx hy
      have g1 := (hbel.cell (p := ⟨b1, o1 + k, none⟩) hb1).trans h1
      have g3 := (hbel.cell (p := ⟨b2, o2 + k, none⟩) hb2).trans h3
      clear h1 h3
      by_cases e1 : x = y
      · have E1 : (x != y) = false := by simpa using e1
        have E2 := hide e1
        clear e1
        go_wp2
        go_region
        go_wp2
        go_roundw
        case rel => exact ⟨k + 1, by omega, by go_num, hbel.drew, take_same HT.out (by have := HL.out; omega) (by have := HL'.out; omega) (by show vs[k]?.getD 0 = us[k]?.getD 0; rw [← HX.out, ← HY.out]; exact E2.out)⟩
        case measure => simp [intOf]; omega
      · have E1 : (x != y) = true := by simpa using e1
        go_wp2
        go_region
        go_wp2
        go_ret
        exact ⟨retb (decide_eq_false (take_other (k := k) (by show vs[k]?.getD 0 ≠ us[k]?.getD 0; rw [← HX.out, ← HY.out]; exact e1))).symm, hbel.drew⟩
    · go_wp2
      go_ret
      have h1 := HT.out
      rw [List.take_of_length_le (by have := HL.out; omega), List.take_of_length_le (by have := HL'.out; omega)] at h1
      exact ⟨retb (decide_eq_true h1).symm, hbel⟩
theorem Ints_any (A B : Option Addr) (n m : Nat) (vs us : List Int) (ca cb : Nat) (w : World) (ha : IntsAt w A vs) (hb : IntsAt w B us) (hl : n = vs.length) (hl' : m = us.length) (hn : n ≤ 1000) (hm : m ≤ 1000) :
    Calls Try.prog 14 #[.slice A n ca, .slice B m cb] w fun e w' => e = .returned (.bool (decide (vs = us))) ∧ Old w w' := by
  by_cases h : n = m
  · subst h
    exact Ints_eq n A B vs us ca cb w ha hb hn hl hl'
  · rw [decide_eq_false (by rintro rfl; omega)]
    exact Ints_len n m A B ca cb w hn hm h
end Go.Proofs.Ytffahoocbjfdaaa
