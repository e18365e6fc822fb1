/- bag: Lose (slices.IndexFunc, slices.DeleteFunc at its closure). -/
import Derived.Outline
import Derived.Test.YtjjcdpcnokckiaaBagD
namespace Go.Proofs.Ytjjcdpcnokckiaa
open Go.RowKit

set_option maxHeartbeats 400000 in
theorem Lose1 (bx : Nat) (who frm to_ : Int) (A : Option Addr) (n c : Nat) (b : Bool) (hb : (to_ == who) = b) (w : World) (h : Bk w bx 3 #[.int .i64 who]) :
    Calls Try.prog 23 #[.agg #[.int .i64 frm, .int .i64 to_, .slice A n c], .pointer (some ⟨bx, 0, none⟩)] w fun e w' => e = .returned (.bool b) ∧ Old w w' := by
  have c0 := h.cell 0
  simp at c0
  have hlt := h.lt
  go_enter Try.func23, Try.ntmps23
  go_wp2
  go_ret
  exact ⟨rfl, (Old.refl' w).alloc' _⟩

/-- the elements of a slice of messages lie at A -/
def MsgsAt (w : World) (A : Option Addr) (ms : List Msg) : Prop := CellsAt w A (ms.flatMap Msg.cells)
theorem MsgsAt.at_ {w : World} {A : Option Addr} {ms : List Msg} (h : MsgsAt w A ms) {k : Nat} {m : Msg} (hk : ms[k]? = some m) :
    ∃ b o, A = some ⟨b, o, none⟩ ∧ b < w.heap.size ∧ w.cell? ⟨b, o + k * 3, none⟩ = some (.int .i64 m.frm) ∧ w.cell? ⟨b, o + k * 3 + 1, none⟩ = some (.int .i64 m.to_) ∧ w.cell? ⟨b, o + k * 3 + 2, none⟩ = some m.sl := by
  obtain ⟨g1, g2, g3⟩ := msgCells_get ms k m hk
  obtain ⟨b, o, rfl, hb, hc⟩ := h (fun e => by rw [e] at g1; simp at g1)
  exact ⟨b, o, rfl, hb, hc _ _ g1, hc _ _ g2, hc _ _ g3⟩

def toAt (ms : List Msg) (k : Nat) : Int := (ms[k]?.getD default).to_

set_option maxRecDepth 100000 in
set_option maxHeartbeats 1000000 in
theorem Index_yes (A : Option Addr) (n c i bx : Nat) (ms : List Msg) (who : Int) (hl : n = ms.length) (hn : n ≤ 100000) (hi : i < n) (hat : toAt ms i = who) (hbef : ∀ j, j < i → toAt ms j ≠ who) (w : World) (hM : MsgsAt w A ms) (hb : Bk w bx 3 #[.int .i64 who]) :
    Calls Try.prog 25 #[.slice A n c, .func (.func 23) #[] #[.pointer (some ⟨bx, 0, none⟩)]] w fun e w' => e = .returned (.int .i64 i) ∧ Old w w' := by
  have HL := hide hl
  have HA := hide hat
  have HB := hide hbef
  clear hl hat hbef
  go_enter Try.func25, Try.ntmps25
  go_wp2
  go_loopw [8] (fun iv wr => ∃ k : Nat, k ≤ i ∧ iv = .int .i64 k ∧ Old w wr) (fun iv _ => n - (intOf iv).toNat)
  case atStart => exact ⟨0, by omega, rfl, Old.refl' w⟩
  case round =>
    obtain ⟨k, hk, rfl, hB⟩ := hrel
    have hlt : k < n := by omega
    obtain ⟨m, hm⟩ : ∃ m, ms[k]? = some m := ⟨ms[k]'(by rw [← HL.out]; exact hlt), List.getElem?_eq_getElem _⟩
    obtain ⟨b, o, rfl, hbb, g0, g1, g2⟩ := hM.at_ hm
    have d0 := (hB.cell (p := ⟨b, o + k * 3, none⟩) hbb).trans g0
    have d1 := (hB.cell (p := ⟨b, o + k * 3 + 1, none⟩) hbb).trans g1
    have d2 := (hB.cell (p := ⟨b, o + k * 3 + 2, none⟩) hbb).trans g2
    have hmd : toAt ms k = m.to_ := by rw [toAt, hm]; rfl
    have HM := hide hmd
    obtain ⟨frm, to_, A, mc, bs⟩ := m
    simp only [Msg.sl] at d0 d1 d2
    clear hm g0 g1 g2 hmd
    by_cases he : k = i
    · subst he
      have cL := hide (Lose1 bx who frm to_ A bs.length mc true (by have h1 := HM.out; have h2 := HA.out; simp only at h1; rw [← h1, h2]; simp) wr (hb.old hB))
      go_wp2_with (go_at_call 23; refine cL.out.mono ?_; rintro e w1 ⟨rfl, hb1⟩)
      go_ret
      exact ⟨rfl, hB.trans' hb1⟩
    · have hne := HB.out k (by omega)
      have cL := hide (Lose1 bx who frm to_ A bs.length mc false (by have h1 := HM.out; simp only at h1; rw [h1] at hne; simpa using hne) wr (hb.old hB))
      clear hne
      go_wp2_with (go_at_call 23; refine cL.out.mono ?_; rintro e w1 ⟨rfl, hb1⟩)
      go_roundw
      case rel => exact ⟨k + 1, by omega, by go_num, hB.trans' hb1⟩
      case measure => simp [intOf]; omega

set_option maxRecDepth 100000 in
set_option maxHeartbeats 1000000 in
theorem Index_no (A : Option Addr) (n c bx : Nat) (ms : List Msg) (who : Int) (hl : n = ms.length) (hn : n ≤ 100000) (hbef : ∀ j, j < n → toAt ms j ≠ who) (w : World) (hM : MsgsAt w A ms) (hb : Bk w bx 3 #[.int .i64 who]) :
    Calls Try.prog 25 #[.slice A n c, .func (.func 23) #[] #[.pointer (some ⟨bx, 0, none⟩)]] w fun e w' => e = .returned (.int .i64 (-1)) ∧ Old w w' := by
  have HL := hide hl
  have HB := hide hbef
  clear hl hbef
  go_enter Try.func25, Try.ntmps25
  go_wp2
  go_loopw [8] (fun iv wr => ∃ k : Nat, k ≤ n ∧ iv = .int .i64 k ∧ Old w wr) (fun iv _ => n - (intOf iv).toNat)
  case atStart => exact ⟨0, by omega, rfl, Old.refl' w⟩
  case round =>
    obtain ⟨k, hk, rfl, hB⟩ := hrel
    by_cases hlt : k < n
    · obtain ⟨m, hm⟩ : ∃ m, ms[k]? = some m := ⟨ms[k]'(by rw [← HL.out]; exact hlt), List.getElem?_eq_getElem _⟩
      obtain ⟨b, o, rfl, hbb, g0, g1, g2⟩ := hM.at_ hm
      have d0 := (hB.cell (p := ⟨b, o + k * 3, none⟩) hbb).trans g0
      have d1 := (hB.cell (p := ⟨b, o + k * 3 + 1, none⟩) hbb).trans g1
      have d2 := (hB.cell (p := ⟨b, o + k * 3 + 2, none⟩) hbb).trans g2
      have hmd : toAt ms k = m.to_ := by rw [toAt, hm]; rfl
      have HM := hide hmd
      obtain ⟨frm, to_, A, mc, bs⟩ := m
      simp only [Msg.sl] at d0 d1 d2
      clear hm g0 g1 g2 hmd
      have hne := HB.out k hlt
      have cL := hide (Lose1 bx who frm to_ A bs.length mc false (by have h1 := HM.out; simp only at h1; rw [h1] at hne; simpa using hne) wr (hb.old hB))
      clear hne
      go_wp2_with (go_at_call 23; refine cL.out.mono ?_; rintro e w1 ⟨rfl, hb1⟩)
      go_roundw
      case rel => exact ⟨k + 1, by omega, by go_num, hB.trans' hb1⟩
      case measure => simp [intOf]; omega
    · go_wp2
      go_ret
      exact ⟨rfl, hB⟩
end Go.Proofs.Ytjjcdpcnokckiaa
