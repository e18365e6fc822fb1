/- req: SameReply, Same. -/
import Derived.Test.YtffahoocbjfdaaaHRef
import Derived.Test.YtffahoocbjfdaaaHOp
namespace Go.Proofs.Ytffahoocbjfdaaa
open Go.RowKit
set_option maxHeartbeats 400000 in
theorem Alike_len (n m : Nat) (A B : Option Addr) (ca cb : Nat) (w : World) (_hn : n ≤ 1000) (_hm : m ≤ 1000) (hne : n ≠ m) :
    Calls Try.prog 52 #[.slice A n ca, .slice B m cb] w fun e w' => e = .returned (.bool false) ∧ Old w w' := by
  go_enter Try.func52, Try.ntmps52
  go_wp2
  go_ret
  exact ⟨rfl, Old.refl' w⟩
set_option maxHeartbeats 1000000 in
theorem Alike_eq (n : Nat) (A B : Option Addr) (vs us : List Int) (ca cb : Nat) (w : World) (ha : IntsAt w A vs) (hb : IntsAt w B us) (hn : n ≤ 1000) (hl : n = vs.length) (hl' : n = us.length) :
    Calls Try.prog 52 #[.slice A n ca, .slice B n cb] w fun e w' => e = .returned (.bool (decide (vs = us))) ∧ Old w w' := by
  have HL := hide hl
  have HL' := hide hl'
  clear hl hl'
  go_enter Try.func52, Try.ntmps52
  go_wp2
  go_loopw [13] (fun i wr => ∃ k : Nat, k ≤ n ∧ i = .int .i64 k ∧ Old w wr ∧ vs.take k = us.take k) (fun i _ => n - (intOf i).toNat)
  case atStart => exact ⟨0, by omega, rfl, Old.refl' w, by simp⟩
  case round =>
    obtain ⟨k, hk, rfl, hbel, htk⟩ := hrel
    have HT := hide htk
    clear htk
    by_cases hlt : k < n
    · obtain ⟨b1, o1, rfl, hb1, h1⟩ := ha.at_ (k := k) (by have := HL.out; omega)
      obtain ⟨b2, o2, rfl, hb2, h3⟩ := hb.at_ (k := k) (by have := HL'.out; omega)
      obtain ⟨x, hx⟩ : ∃ x, x = vs[k]?.getD 0 := ⟨_, rfl⟩
      obtain ⟨y, hy⟩ : ∃ x, x = us[k]?.getD 0 := ⟨_, rfl⟩
      rw [← hx] at h1
      rw [← hy] at h3
      have HX := hide hx
      have HY := hide hy
      clear hx hy
      have g1 := (hbel.cell (p := ⟨b1, o1 + k, none⟩) hb1).trans h1
      have g3 := (hbel.cell (p := ⟨b2, o2 + k, none⟩) hb2).trans h3
      clear h1 h3
      by_cases e1 : x = y
      · have E1 : (x != y) = false := by simpa using e1
        have E2 := hide e1
        clear e1
        go_wp2
        go_region
        go_wp2
        go_roundw
        case rel => exact ⟨k + 1, by omega, by go_num, hbel.drew, take_same HT.out (by have := HL.out; omega) (by have := HL'.out; omega) (by show vs[k]?.getD 0 = us[k]?.getD 0; rw [← HX.out, ← HY.out]; exact E2.out)⟩
        case measure => simp [intOf]; omega
      · have E1 : (x != y) = true := by simpa using e1
        go_wp2
        go_region
        go_wp2
        go_ret
        exact ⟨retb (decide_eq_false (take_other (k := k) (by show vs[k]?.getD 0 ≠ us[k]?.getD 0; rw [← HX.out, ← HY.out]; exact e1))).symm, hbel.drew⟩
    · go_wp2
      go_ret
      have h1 := HT.out
      rw [List.take_of_length_le (by have := HL.out; omega), List.take_of_length_le (by have := HL'.out; omega)] at h1
      exact ⟨retb (decide_eq_true h1).symm, hbel⟩
theorem Alike_any (A B : Option Addr) (n m : Nat) (vs us : List Int) (ca cb : Nat) (w : World) (ha : IntsAt w A vs) (hb : IntsAt w B us) (hl : n = vs.length) (hl' : m = us.length) (hn : n ≤ 1000) (hm : m ≤ 1000) :
    Calls Try.prog 52 #[.slice A n ca, .slice B m cb] w fun e w' => e = .returned (.bool (decide (vs = us))) ∧ Old w w' := by
  by_cases h : n = m
  · subst h
    exact Alike_eq n A B vs us ca cb w ha hb hn hl hl'
  · rw [decide_eq_false (by rintro rfl; omega)]
    exact Alike_len n m A B ca cb w hn hm h
set_option maxHeartbeats 1000000 in
theorem PSame_any (r s : Rep) (A B : Option Addr) (n m ca cb : Nat) (w : World) (ha : IntsAt w A r.vs) (hb : IntsAt w B s.vs) (hl : n = r.vs.length) (hl' : m = s.vs.length) (hn : n ≤ 1000) (hm : m ≤ 1000) :
    Calls Try.prog 41 #[.agg #[.int .i64 r.code, .int .i64 r.ver, .string r.data, .slice A n ca], .agg #[.int .i64 s.code, .int .i64 s.ver, .string s.data, .slice B m cb]] w
      fun e w' => e = .returned (.bool (r.same s)) ∧ Old w w' := by
  obtain ⟨c1, v1, d1, l1⟩ := r
  obtain ⟨c2, v2, d2, l2⟩ := s
  have HL := hide hl
  have HL' := hide hl'
  clear hl hl'
  simp only [] at *
  by_cases e1 : c1 = c2
  · by_cases e2 : v1 = v2
    · by_cases e3 : d1 = d2
      · subst e1 e2 e3
        have hI := Alike_any A B n m l1 l2 ca cb (((w.alloc (.cells #[.int .i64 c1, .int .i64 v1, .string d1, .slice A n ca] 43)).alloc (.cells #[.int .i64 c1, .int .i64 v1, .string d1, .slice B m cb] 43))) ((ha.alloc _).alloc _) ((hb.alloc _).alloc _) HL.out HL'.out hn hm
        have HI := hide hI
        clear hI
        go_enter Try.func41, Try.ntmps41
        go_wp2_with (go_at_call 52; refine HI.out.mono ?_; rintro e w1 ⟨rfl, hb1⟩)
        go_ret
        exact ⟨retb (by simp [Rep.same]), (((Old.refl' w).alloc' _).alloc' _).trans' hb1⟩
      · have E1 : (d1.toList == d2.toList) = false := by simpa [bytes_eq] using e3
        subst e1 e2
        go_enter Try.func41, Try.ntmps41
        go_wp2
        go_ret
        exact ⟨retb (by simp [Rep.same, e3]), ((Old.refl' w).alloc' _).alloc' _⟩
    · have E1 : (v1 == v2) = false := by simpa using e2
      subst e1
      go_enter Try.func41, Try.ntmps41
      go_wp2
      go_ret
      exact ⟨retb (by simp [Rep.same, e2]), ((Old.refl' w).alloc' _).alloc' _⟩
  · have E1 : (c1 == c2) = false := by simpa using e1
    go_enter Try.func41, Try.ntmps41
    go_wp2
    go_ret
    exact ⟨retb (by simp [Rep.same, e1]), ((Old.refl' w).alloc' _).alloc' _⟩
def ReqV.eqb (q r : ReqV) : Bool := decide (q.client = r.client) && decide (q.seq = r.seq) && decide (q.kind = r.kind) && decide (q.id = r.id) && decide (q.mat = r.mat) && decide (q.data = r.data)
theorem ReqV.eqb_iff {q r : ReqV} : q.eqb r = true ↔ q = r := by
  obtain ⟨a0, a1, a2, a3, a4, a5⟩ := q
  obtain ⟨b0, b1, b2, b3, b4, b5⟩ := r
  simp [ReqV.eqb, and_assoc]
set_option maxHeartbeats 1000000 in
theorem PSameReq_any (q r : ReqV) (w : World) :
    Calls Try.prog 43 #[.agg #[.int .i64 q.client, .int .i64 q.seq, .int .i64 q.kind, .int .i64 q.id, .int .i64 q.mat, .string q.data], .agg #[.int .i64 r.client, .int .i64 r.seq, .int .i64 r.kind, .int .i64 r.id, .int .i64 r.mat, .string r.data]] w
      fun e w' => e = .returned (.bool (q.eqb r)) ∧ Old w w' := by
  obtain ⟨a0, a1, a2, a3, a4, a5⟩ := q
  obtain ⟨b0, b1, b2, b3, b4, b5⟩ := r
  simp only []
  go_enter Try.func43, Try.ntmps43
  go_wp2
  all_goals
    go_ret
    refine ⟨retb ?_, ((Old.refl' w).alloc' _).alloc' _⟩
    simp_all [ReqV.eqb, bytes_eq]
end Go.Proofs.Ytffahoocbjfdaaa
