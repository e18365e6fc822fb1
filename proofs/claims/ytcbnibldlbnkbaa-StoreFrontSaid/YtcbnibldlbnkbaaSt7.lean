/- store.Store.Last; Put joined. -/
import Derived.Test.YtcbnibldlbnkbaaStJ
namespace Go.Proofs.Ytcbnibldlbnkbaa
open Go.RowKit

set_option maxRecDepth 100000 in
set_option maxHeartbeats 2000000 in
theorem Last_at (p : Value) (c : Int) (sq pl c0 v0 : Int) (d0 : ByteArray) (w : World) (hof : ∀ W, Old w W → Calls Try.prog 43 #[p, .int .i64 c] W fun e w' => ∃ A k, e = .returned (.agg #[.int .i64 sq, .int .i64 pl, .int .i64 c0, .int .i64 v0, .string d0, .slice A 0 k]) ∧ Old W w') :
    Calls Try.prog 21 #[p, .int .i64 c] w fun e w' => ∃ A k, e = .returned (.tuple #[.agg #[.int .i64 c0, .int .i64 v0, .string d0, .slice A 0 k], .int .i64 pl]) ∧ Old w w' := by
  have cO := hide hof
  clear hof
  go_enter Try.func21, Try.ntmps21
  go_wp2_with fail
  refine (cO.out _ ((Old.refl' w).alloc' _)).mono ?_
  rintro e w1 ⟨A1, k1, rfl, hb1⟩
  have hk4 := (((Bk.new w 32 #[.int .i64 0, .int .i64 0, .string ByteArray.empty, .slice none 0 0]).old hb1).alloc (.cells #[.int .i64 sq, .int .i64 pl, .int .i64 c0, .int .i64 v0, .string d0, .slice A1 0 k1] 66))
  have hk6 := Bk.new w1 66 #[.int .i64 sq, .int .i64 pl, .int .i64 c0, .int .i64 v0, .string d0, .slice A1 0 k1]
  have hO2 : Old w (w1.alloc (.cells #[.int .i64 sq, .int .i64 pl, .int .i64 c0, .int .i64 v0, .string d0, .slice A1 0 k1] 66)) := (((Old.refl' w).alloc' _).trans' hb1).alloc' _
  have hne : w1.heap.size ≠ w.heap.size := by have := hb1.size; simp at this; omega
  clear hb1
  go_wp2_with fail
  refine region_steps (R := pick [eqv (.pointer (some ⟨w1.heap.size, 2, none⟩)), eqv (.agg #[.int .i64 c0, .int .i64 v0, .string d0, .slice A1 0 k1]), fun v _ => ∃ A2 k2, v = .agg #[.int .i64 c0, .int .i64 v0, .string d0, .slice A2 0 k2], eqv (.pointer (some ⟨w1.heap.size, 1, none⟩)), eqv (.int .i64 pl), eqv (undef), eqv (.int .i64 pl)]) (S := fun σ w' => Old w w' ∧ Bk w' w1.heap.size 66 #[.int .i64 sq, .int .i64 pl, .int .i64 c0, .int .i64 v0, .string d0, .slice A1 0 k1] ∧ (σ 5 = none → Bk w' w.heap.size 32 #[.int .i64 0, .int .i64 0, .string ByteArray.empty, .slice none 0 0]) ∧ (σ 5 ≠ none → ∃ A c, Bk w' w.heap.size 32 #[.int .i64 c0, .int .i64 v0, .string d0, .slice A 0 c])) (T := (fun _ _ => True)) (by kernel_rfl) (by kernel_rfl) (by kernel_rfl) (Stab.pick (Stab.eqv (Stab.eqv (Stab.cons (fun _ _ _ _ h => h) (Stab.eqv (Stab.eqv (Stab.eqv (Stab.eqv (Stab.nil))))))))) (⟨hO2.drew', Bk.drew hk6, fun _ => Bk.drew hk4, fun h => absurd rfl h⟩) ?steps ?ends
  case steps =>
    refine StepsOk.cons (stepOk_pure [] [(6, .pointer (some ⟨w1.heap.size, 0, none⟩))] rfl rfl (by kernel_rfl) (by kernel_rfl) rfl (fun _ => trivial) (fun σ v w h => ⟨h.1, h.2.1, fun e => h.2.2.1 (by simpa [upd] using e), fun e => h.2.2.2 (by simpa [upd] using e)⟩) (fun d E w' hk hda hS hc hf => by rintro  e6; exact ⟨_, by go_simp, rfl⟩)) ?_
    refine StepsOk.cons (stepOk_pure [(0, 10)] [] rfl rfl (by kernel_rfl) (by kernel_rfl) rfl (fun _ => trivial) (fun σ v w h => ⟨h.1, h.2.1, fun e => h.2.2.1 (by simpa [upd] using e), fun e => h.2.2.2 (by simpa [upd] using e)⟩) (fun d E w' hk hda hS hc hf => by rintro _ q0 rfl e10 ; obtain ⟨⟨s0, s1, s2, s3, s4, s5⟩, ls⟩ := bk6 hS.2.1; exact ⟨_, by go_simp, rfl⟩)) ?_
    refine StepsOk.cons (stepOk_mk [(1, 11)] [] rfl rfl (by kernel_rfl) (by kernel_rfl) rfl ?_) ?_
    · rintro d a w' hk hda hS _ q1 rfl e11 
      first | refine Given.nil (Known.nil ?_) | refine Known.nil ?_
      refine wp_call 34 _ Try.func34 (by kernel_rfl) (by kernel_rfl) _ _ (by rfl) [.agg #[.int .i64 c0, .int .i64 v0, .string d0, .slice A1 0 k1]] (by simp only [List.map_cons, List.map_nil, *]; try rfl) (copied_any c0 v0 d0 [] 0 k1 A1 (by omega) rfl _ (CellsAt.nil _ _)) ?_
      rintro e w1 ⟨A2, k2, rfl, -, -, hb2⟩
      exact ⟨_, rfl, _, rfl, ⟨A2, k2, rfl⟩, trivial, ⟨hS.1.trans' hb2, hS.2.1.old hb2, fun e => (hS.2.2.1 (by simpa [upd] using e)).old hb2, fun e => by obtain ⟨A, c, hb⟩ := hS.2.2.2 (by simpa [upd] using e); exact ⟨A, c, hb.old hb2⟩⟩⟩
    refine StepsOk.cons (stepOk_pure [] [(6, .pointer (some ⟨w1.heap.size, 0, none⟩))] rfl rfl (by kernel_rfl) (by kernel_rfl) rfl (fun _ => trivial) (fun σ v w h => ⟨h.1, h.2.1, fun e => h.2.2.1 (by simpa [upd] using e), fun e => h.2.2.2 (by simpa [upd] using e)⟩) (fun d E w' hk hda hS hc hf => by rintro  e6; exact ⟨_, by go_simp, rfl⟩)) ?_
    refine StepsOk.cons (stepOk_pure [(3, 13)] [] rfl rfl (by kernel_rfl) (by kernel_rfl) rfl (fun _ => trivial) (fun σ v w h => ⟨h.1, h.2.1, fun e => h.2.2.1 (by simpa [upd] using e), fun e => h.2.2.2 (by simpa [upd] using e)⟩) (fun d E w' hk hda hS hc hf => by rintro _ q3 rfl e13 ; obtain ⟨⟨s0, s1, s2, s3, s4, s5⟩, ls⟩ := bk6 hS.2.1; exact ⟨_, by go_simp, rfl⟩)) ?_
    refine StepsOk.cons (stepOk_store [(2, 12)] [(4, .pointer (some ⟨w.heap.size, 0, none⟩))] rfl rfl (by kernel_rfl) (by kernel_rfl) rfl (fun d E w' hk hda hS hc hf => by rintro _ q2 ⟨A2, k2, rfl⟩ e12 e4; have hz := hS.2.2.1 (hk 5 (by kernel_rfl)); obtain ⟨⟨z0, z1, z2, z3⟩, ⟨f0, f1, f2, f3⟩, lz⟩ := bk4 hz; exact ⟨((((w'.setCell ⟨w.heap.size, 0, none⟩ (.int .i64 c0)).setCell ⟨w.heap.size, 1, none⟩ (.int .i64 v0)).setCell ⟨w.heap.size, 2, none⟩ (.string d0)).setCell ⟨w.heap.size, 3, none⟩ (.slice A2 0 k2)), by go_simp, rfl, trivial, ⟨Old.setCell' (Old.setCell' (Old.setCell' (Old.setCell' hS.1 (Nat.le_refl _) _) (Nat.le_refl _) _) (Nat.le_refl _) _) (Nat.le_refl _) _, ((((hS.2.1.far (p := ⟨w.heap.size, 0, none⟩) hne _).far (p := ⟨w.heap.size, 1, none⟩) hne _).far (p := ⟨w.heap.size, 2, none⟩) hne _).far (p := ⟨w.heap.size, 3, none⟩) hne _), fun h => by simp [upd] at h, fun _ => ⟨A2, k2, Bk.set4 hz⟩⟩⟩)) ?_
    refine StepsOk.cons (stepOk_pure [(4, 14)] [] rfl rfl (by kernel_rfl) (by kernel_rfl) rfl (fun _ => trivial) (fun σ v w h => ⟨h.1, h.2.1, fun e => h.2.2.1 (by simpa [upd] using e), fun e => h.2.2.2 (by simpa [upd] using e)⟩) (fun d E w' hk hda hS hc hf => by rintro _ q4 rfl e14 ; exact ⟨_, by go_simp, rfl⟩)) ?_
    exact StepsOk.nil
  case ends =>
    intro σ9 w9 hS9 hA9
    refine Ends.eqv (some 10) (.pointer (some ⟨w1.heap.size, 2, none⟩)) rfl (fun _ h => h) ?_
    refine Ends.eqv (some 11) (.agg #[.int .i64 c0, .int .i64 v0, .string d0, .slice A1 0 k1]) rfl (fun _ h => h) ?_
    refine Ends.ex (some 12) rfl ?_
    rintro _ p2 ⟨A2, k2, rfl⟩
    refine Ends.eqv (some 13) (.pointer (some ⟨w1.heap.size, 1, none⟩)) rfl (fun _ h => h) ?_
    refine Ends.eqv (some 14) (.int .i64 pl) rfl (fun _ h => h) ?_
    refine Ends.eqv none (undef) rfl (fun _ h => h) ?_
    refine Ends.eqv (some 5) (.int .i64 pl) rfl (fun _ h => h) ?_
    refine Ends.nil ?_
    have hA9' := hA9
    clear hA9
    simp only [put_lit, put_none, List.set_cons_zero, List.set_cons_succ]
    obtain ⟨A3, k3, hk9⟩ := hS9.2.2.2 (by have := hA9' 5 (by simp); intro e; rw [e] at this; simp at this)
    have ho9 := hS9.1
    clear hS9 hA9'
    obtain ⟨⟨z0, z1, z2, z3⟩, -, lz⟩ := bk4 hk9
    go_wp2_with fail
    refine bodyPost_ret (v := .tuple #[.agg #[.int .i64 c0, .int .i64 v0, .string d0, .slice A3 0 k3], .int .i64 pl]) ?_ rfl ⟨A3, k3, rfl, ho9⟩
    simp [results, Try.results21, go_sem, *]
theorem Last_st (g c : Nat) (hc : c < 4) (F : Nat → Prop) (s : StV) (w : World) (h : StAt w g F s) :
    Calls Try.prog 21 #[.pointer (some ⟨g, 0, none⟩), .int .i64 c] w fun e w' => ∃ A k, e = .returned (.tuple #[.agg #[.int .i64 (s.ss c).rep.code, .int .i64 (s.ss c).rep.ver, .string (s.ss c).rep.data, .slice A 0 k], .int .i64 (s.ss c).place]) ∧ Old w w' :=
  Last_at _ _ (s.ss c).seq (s.ss c).place _ _ _ w fun W hW => of_st g c hc F s W (h.old hW)
theorem Last_out (g : Nat) (c : Int) (hc : ¬ (0 ≤ c ∧ c < 4)) (w : World) :
    Calls Try.prog 21 #[.pointer (some ⟨g, 0, none⟩), .int .i64 c] w fun e w' => ∃ A k, e = .returned (.tuple #[.agg #[.int .i64 0, .int .i64 0, .string ByteArray.empty, .slice A 0 k], .int .i64 0]) ∧ Old w w' :=
  Last_at _ _ 0 0 _ _ _ w fun W hW => (of_out g c hc W).mono fun e w' ⟨he, hb⟩ => ⟨none, 0, he, hb⟩

theorem doRep_vs {vs : List Ver} {k m quota : Int} {d : ByteArray} (h : Writes k = true) : (doRep vs k m quota d).vs = [] := by
  unfold doRep
  have : k = 1 ∨ k = 2 ∨ k = 3 := by simpa [Writes, or_assoc] using h
  rw [if_pos this]
/-- Put, whatever is put -/
theorem Put_st (g : Nat) (F : Nat → Prop) (st : StV) (q : Q) (hfew : st.n ≤ 50000) (w : World) (h : StAt w g F st) :
    Calls Try.prog 13 #[.pointer (some ⟨g, 0, none⟩), q.v] w fun e w' => (∃ A c, e = .returned (.tuple #[.agg #[.int .i64 (st.rep q).code, .int .i64 (st.rep q).ver, .string (st.rep q).data, .slice A 0 c], .int .i64 (st.err q)])) ∧
      (∃ F', StAt w' g F' (st.put q) ∧ ∀ k, F' k → F k ∨ w.heap.size ≤ k) ∧ Fr F w w' := by
  by_cases h1 : (q.may && Writes q.kind) = true
  · by_cases h2 : (st.ss q.client).seq < q.seq
    · have hm : st.may q = true := by unfold StV.may; rw [h1]; simpa using h2
      refine (Put_done g F st q h1 h2 hfew w h).mono ?_
      unfold StV.rep StV.err StV.put
      rw [hm, h1, if_pos rfl, if_pos rfl, if_pos rfl, if_pos h2]
      exact fun e w' h => h
    · have hm : st.may q = false := by unfold StV.may; rw [h1]; simpa using h2
      refine (Put_order g F st q h1 h2 w h).mono ?_
      rintro e w' ⟨rfl, hb⟩
      unfold StV.rep StV.err StV.put
      rw [hm, h1, if_pos rfl, if_neg h2]
      exact ⟨⟨none, 0, rfl⟩, ⟨F, h.old hb, fun k hk => .inl hk⟩, Fr.of_old hb⟩
  · have h1' : (q.may && Writes q.kind) = false := by simpa using h1
    have hm : st.may q = false := by unfold StV.may; rw [h1']; rfl
    refine (Put_arg (some ⟨g, 0, none⟩) q (fun _ => h1') w).mono ?_
    rintro e w' ⟨rfl, hb⟩
    unfold StV.rep StV.err StV.put
    rw [hm, h1']
    exact ⟨⟨none, 0, rfl⟩, ⟨F, h.old hb, fun k hk => .inl hk⟩, Fr.of_old hb⟩
/-- Ask, whatever is asked -/
theorem Ask_st (g : Nat) (F : Nat → Prop) (st : StV) (q : Q) (hfew : st.n ≤ 50000) (nR : Nat) (hnR : (st.ask q).vs.length = nR) (w : World) (h : StAt w g F st) :
    Calls Try.prog 26 #[.pointer (some ⟨g, 0, none⟩), q.v] w fun e w' => ∃ A c, e = .returned (.tuple #[.agg #[.int .i64 (st.ask q).code, .int .i64 (st.ask q).ver, .string (st.ask q).data, .slice A nR c], .int .i64 (if askOk q then 0 else 1)]) ∧ IntsAt w' A (st.ask q).vs ∧ Old w w' := by
  by_cases h1 : askOk q = true
  · rw [if_pos h1]
    exact Ask_yes g F st q h1 _ rfl nR hnR (by have := h.few q.id; omega) w h
  · have h1' : askOk q = false := by simpa using h1
    have e : st.ask q = Rep.zero := by unfold StV.ask; rw [if_neg h1]
    rw [e] at hnR ⊢
    have : nR = 0 := by rw [← hnR]; rfl
    subst this
    refine (Ask_no (some ⟨g, 0, none⟩) q h1' w).mono ?_
    rintro e w' ⟨rfl, hb⟩
    rw [if_neg h1]
    exact ⟨none, 0, rfl, CellsAt.nil _ _, hb⟩

theorem StOk.new (quota : Int) : StOk (StV.new quota) := ⟨fun c => by simp [StV.new, Sess.zero], fun c => by simp [StV.new, Sess.zero], fun k v hv => by simp [StV.new] at hv⟩
theorem StOk.put {s : StV} (h : StOk s) (q : Q) : StOk (s.put q) := by
  unfold StV.put
  split
  · rename_i hm
    simp only [StV.may, Q.may, mayQ, Bool.and_eq_true, decide_eq_true_eq] at hm
    obtain ⟨⟨⟨⟨⟨⟨-, hsq⟩, -⟩, -⟩, hk⟩, hw⟩, -⟩ := hm
    refine ⟨fun c => ?_, fun c => ?_, fun k v hv => ?_⟩
    · have e : (s.done q).ss c = if c = q.client then (⟨q.seq, s.n + 1, s.doRep q⟩ : Sess) else s.ss c := rfl
      rw [e]
      split
      · exact ⟨by show 0 ≤ q.seq; omega, by show q.seq ≤ 1073741824; omega⟩
      · exact h.seq c
    · show (if c = q.client then (⟨q.seq, s.n + 1, s.doRep q⟩ : Sess) else s.ss c).place ≤ s.n + 1
      split
      · simp
      · have := h.place c; omega
    · have hv' : v ∈ (if k = q.id then s.doL q else s.f k) := hv
      split at hv'
      · rename_i e
        subst e
        unfold StV.doL doL at hv'
        split at hv'
        · unfold doR at hv'
          have base : v ∈ s.f q.id → v.2.size ≤ 64 := h.data _ v
          repeat' split at hv'
          all_goals first
            | exact base hv'
            | (simp only [List.mem_append, List.mem_singleton] at hv'
               rcases hv' with hv' | rfl
               · exact base hv'
               · first
                   | (show ByteArray.empty.size ≤ 64; decide)
                   | (show q.data.size ≤ 64
                      have hk12 : q.kind = 1 ∨ q.kind = 2 := by
                        have : q.kind = 1 ∨ q.kind = 2 ∨ q.kind = 3 := by simpa [Writes, or_assoc] using hw
                        omega
                      unfold mayK at hk
                      rcases hk12 with e | e
                      · rw [if_pos e] at hk; simp at hk; exact hk.2
                      · rw [if_neg (by omega), if_pos e] at hk; simpa using hk))
        · exact h.data _ v hv'
      · exact h.data _ v hv'
  · exact h
theorem put_n (s : StV) (q : Q) : (s.put q).n ≤ s.n + 1 ∧ s.n ≤ (s.put q).n := by
  unfold StV.put
  split
  · exact ⟨Nat.le_refl _, Nat.le_succ _⟩
  · omega
theorem put_quota (s : StV) (q : Q) : (s.put q).quota = s.quota := by
  unfold StV.put
  split <;> rfl
end Go.Proofs.Ytcbnibldlbnkbaa
