/- past.same. -/
import Derived.Test.YtffahoocbjfdaaaHPaA
namespace Go.Proofs.Ytffahoocbjfdaaa
open Go.RowKit
set_option maxRecDepth 100000 in
set_option maxHeartbeats 4000000 in
theorem PaSame_any (a b : ActV) (n m : Nat) (w : World) (hl : n = a.r.vs.length) (hl' : m = b.r.vs.length) (ha : IntsAt w a.A a.r.vs) (hb : IntsAt w b.A b.r.vs) (hn : n ≤ 1000) (hm : m ≤ 1000) :
    Calls Try.prog 39 #[.agg #[.int .i64 a.client, .int .i64 a.seq, .bool a.ans, .int .i64 a.q.client, .int .i64 a.q.seq, .int .i64 a.q.kind, .int .i64 a.q.id, .int .i64 a.q.mat, .string a.q.data, .int .i64 a.r.code, .int .i64 a.r.ver, .string a.r.data, .slice a.A n a.cap, .int .i64 a.at_],
      .agg #[.int .i64 b.client, .int .i64 b.seq, .bool b.ans, .int .i64 b.q.client, .int .i64 b.q.seq, .int .i64 b.q.kind, .int .i64 b.q.id, .int .i64 b.q.mat, .string b.q.data, .int .i64 b.r.code, .int .i64 b.r.ver, .string b.r.data, .slice b.A m b.cap, .int .i64 b.at_]] w
      fun e w' => e = .returned (.bool (a.same b)) ∧ Old w w' := by
  obtain ⟨c1, s1, n1, ⟨q0, q1, q2, q3, q4, q5⟩, ⟨rc1, rv1, rd1, vs1⟩, A1, ca1, t1⟩ := a
  obtain ⟨c2, s2, n2, ⟨p0, p1, p2, p3, p4, p5⟩, ⟨rc2, rv2, rd2, vs2⟩, A2, ca2, t2⟩ := b
  obtain ⟨vn1, rfl⟩ : ∃ x, x = n := ⟨_, rfl⟩
  obtain ⟨vn2, rfl⟩ : ∃ x, x = m := ⟨_, rfl⟩
  simp only [] at *
  by_cases e1 : c1 = c2
  · subst e1
    by_cases e2 : s1 = s2
    · subst e2
      by_cases e3 : n1 = n2
      · subst e3
        by_cases e4 : (⟨q0, q1, q2, q3, q4, q5⟩ : ReqV) = ⟨p0, p1, p2, p3, p4, p5⟩
        · injection e4 with h0 h1 h2 h3 h4 h5
          subst h0 h1 h2 h3 h4 h5
          by_cases e6 : t1 = t2
          · subst e6
            have hI := PSame_any ⟨rc1, rv1, rd1, vs1⟩ ⟨rc2, rv2, rd2, vs2⟩ A1 A2 vn1 vn2 ca1 ca2 ((w.alloc (.cells #[.int .i64 c1, .int .i64 s1, .bool n1, .int .i64 q0, .int .i64 q1, .int .i64 q2, .int .i64 q3, .int .i64 q4, .string q5, .int .i64 rc1, .int .i64 rv1, .string rd1, .slice A1 vn1 ca1, .int .i64 t1] 45)).alloc (.cells #[.int .i64 c1, .int .i64 s1, .bool n1, .int .i64 q0, .int .i64 q1, .int .i64 q2, .int .i64 q3, .int .i64 q4, .string q5, .int .i64 rc2, .int .i64 rv2, .string rd2, .slice A2 vn2 ca2, .int .i64 t1] 45)) ((ha.alloc _).alloc _) ((hb.alloc _).alloc _) hl hl' hn hm
            have HI := hide hI
            clear hI ha hb hl hl'
            go_enter Try.func39, Try.ntmps39
            go_wp2_with (go_at_call 41; refine HI.out.mono ?_; rintro e w1 ⟨rfl, hb1⟩)
            go_ret
            exact ⟨retb (by simp [ActV.same, (ReqV.eqb_iff (q := ⟨q0, q1, q2, q3, q4, q5⟩) (r := ⟨q0, q1, q2, q3, q4, q5⟩)).2 rfl]), (((Old.refl' w).alloc' _).alloc' _).trans' hb1⟩
          · have E : (t1 == t2) = false := by simpa using e6
            go_enter Try.func39, Try.ntmps39
            go_wp2
            go_ret
            exact ⟨retb (by simp [ActV.same, e6]), ((Old.refl' w).alloc' _).alloc' _⟩
        · have e4' : ReqV.eqb ⟨q0, q1, q2, q3, q4, q5⟩ ⟨p0, p1, p2, p3, p4, p5⟩ = false := by
            rw [← Bool.not_eq_true, ReqV.eqb_iff]
            exact e4
          have E4 := hide e4'
          have e5 : ¬ (q0 = p0 ∧ q1 = p1 ∧ q2 = p2 ∧ q3 = p3 ∧ q4 = p4 ∧ q5 = p5) := fun ⟨h0, h1, h2, h3, h4, h5⟩ => e4 (by subst h0 h1 h2 h3 h4 h5; rfl)
          have E5 := hide e5
          clear e4 e4' e5 ha hb
          go_enter Try.func39, Try.ntmps39
          go_wp2
          all_goals first
            | (go_ret
               exact ⟨retb (by simp [ActV.same, E4.out]), ((Old.refl' w).alloc' _).alloc' _⟩)
            | (exfalso
               have h := E5.out
               simp_all [bytes_eq])
      · have E : (n1 == n2) = false := by simpa using e3
        go_enter Try.func39, Try.ntmps39
        go_wp2
        go_ret
        exact ⟨retb (by simp [ActV.same, e3]), ((Old.refl' w).alloc' _).alloc' _⟩
    · have E : (s1 == s2) = false := by simpa using e2
      go_enter Try.func39, Try.ntmps39
      go_wp2
      go_ret
      exact ⟨retb (by simp [ActV.same, e2]), ((Old.refl' w).alloc' _).alloc' _⟩
  · have E : (c1 == c2) = false := by simpa using e1
    go_enter Try.func39, Try.ntmps39
    go_wp2
    go_ret
    exact ⟨retb (by simp [ActV.same, e1]), ((Old.refl' w).alloc' _).alloc' _⟩
end Go.Proofs.Ytffahoocbjfdaaa
