/- The document's store: Ask, Ids, Bytes. -/
import Derived.Test.YtcbnibldlbnkbaaSdP
namespace Go.Proofs.Ytcbnibldlbnkbaa
open Go.RowKit

theorem fr4 {w W : World} {b : Nat} {u0 u1 u2 u3 : Value} (h : Fr (fun k => k = b) w W) :
    Fr (fun k => k = b) w ((((W.setCell ⟨b, 0, none⟩ u0).setCell ⟨b, 1, none⟩ u1).setCell ⟨b, 2, none⟩ u2).setCell ⟨b, 3, none⟩ u3) := by
  have stp : ∀ {W : World} (j : Nat) (u : Value), Fr (fun k => k = b) w W → Fr (fun k => k = b) w (W.setCell ⟨b, j, none⟩ u) := fun j u h => Fr.setCell (p := ⟨b, j, none⟩) h (.inr rfl) u
  exact stp _ _ (stp _ _ (stp _ _ (stp _ _ h)))

set_option maxRecDepth 100000 in
set_option maxHeartbeats 1000000 in
theorem SAsk_no (g : Nat) (q : Q) (hq : askOk q = false) (w : World) :
    Calls Try.prog 27 #[.pointer (some ⟨g, 0, none⟩), q.v] w fun e w' => e = .returned (.tuple #[.agg #[.int .i64 0, .int .i64 0, .string ByteArray.empty, .slice none 0 0], .int .i64 1]) ∧ Old w w' := by
  obtain ⟨c, s, k, i, m, d⟩ := q
  simp only [Q.v]
  obtain ⟨b1, h1⟩ : ∃ b, mayQ c s k i m d = b := ⟨_, rfl⟩
  have cM := hide (fun (W : World) => rMay_at c s k i m d b1 h1 W)
  have hX := hide (fun (W : World) (h : Old ((w.alloc (.cells #[.int .i64 c, .int .i64 s, .int .i64 k, .int .i64 i, .int .i64 m, .string d] 36)).alloc (.cells #[.int .i64 0, .int .i64 0, .string ByteArray.empty, .slice none 0 0] 32)) W) => boxed h)
  cases b1 with
  | false =>
    clear hq h1
    go_enter Try.func27, Try.ntmps27
    go_wp2_with (go_at_call 44; refine (cM.out _).mono ?_; rintro e w1 ⟨rfl, hb1⟩; obtain ⟨⟨x0, x1, x2, x3, x4, x5⟩, ⟨y0, y1, y2, y3⟩, ⟨f0, f1, f2, f3⟩, l1, o1⟩ := hX.out _ hb1)
    refine bodyPost_ret (v := .tuple #[.agg #[.int .i64 0, .int .i64 0, .string ByteArray.empty, .slice none 0 0], .int .i64 1]) ?_ rfl ⟨rfl, ?_⟩
    · simp [results, Try.results27, go_sem, *]
      try rfl
    · repeat (first | with_reducible exact o1 | with_reducible refine Old.setCell' ?_ (by simp) _)
  | true =>
    have hw : Writes k = true := by simpa [askOk, Q.may, h1] using hq
    have cW := hide (fun (W : World) => rWrites_at c s k i m d true hw W)
    clear hq h1 hw
    go_enter Try.func27, Try.ntmps27
    go_wp2_with (first
      | (go_at_call 44; refine (cM.out _).mono ?_; rintro e w1 ⟨rfl, hb1⟩; obtain ⟨⟨x0, x1, x2, x3, x4, x5⟩, ⟨y0, y1, y2, y3⟩, ⟨f0, f1, f2, f3⟩, l1, o1⟩ := hX.out _ hb1)
      | (go_at_call 25; refine (cW.out _).mono ?_; rintro e w2 ⟨rfl, hb2⟩; clear x0 x1 x2 x3 x4 x5 y0 y1 y2 y3 f0 f1 f2 f3 l1 o1; obtain ⟨⟨x0, x1, x2, x3, x4, x5⟩, ⟨y0, y1, y2, y3⟩, ⟨f0, f1, f2, f3⟩, l1, o1⟩ := hX.out _ (hb1.trans' hb2); have hbb := hb1.trans' hb2; clear hb1 hb2))
    refine bodyPost_ret (v := .tuple #[.agg #[.int .i64 0, .int .i64 0, .string ByteArray.empty, .slice none 0 0], .int .i64 1]) ?_ rfl ⟨rfl, ?_⟩
    · simp [results, Try.results27, go_sem, *]
      try rfl
    · repeat (first | with_reducible exact o1 | with_reducible refine Old.setCell' ?_ (by simp) _)

set_option maxRecDepth 100000 in
set_option maxHeartbeats 4000000 in
theorem SAsk_yes (g : Nat) (F : Nat → Prop) (st : StV) (q : Q) (hq : askOk q = true) (ra : Rep) (ha : askR (st.f q.id) q.kind q.mat = ra) (nR : Nat) (hnR : ra.vs.length = nR) (hfew : st.n ≤ 50000) (w : World) (h : SDAt w g F st) :
    Calls Try.prog 27 #[.pointer (some ⟨g, 0, none⟩), q.v] w fun e w' => ∃ A c, e = .returned (.tuple #[.agg #[.int .i64 ra.code, .int .i64 ra.ver, .string ra.data, .slice A nR c], .int .i64 0]) ∧ IntsAt w' A ra.vs ∧ Old w w' := by
  obtain ⟨c, s, k, i, m, dt⟩ := q
  simp only [Q.v, Q.may, askOk, Bool.and_eq_true, Bool.not_eq_true'] at hq ha ⊢
  obtain ⟨h1, h2⟩ := hq
  have hcc : 0 ≤ i ∧ i ≤ 31 ∧ -9223372036854775808 ≤ m ∧ m ≤ 9223372036854775807 := by
    simp only [mayQ, Bool.and_eq_true, decide_eq_true_eq] at h1
    omega
  obtain ⟨hi0, hi31, hm0, hm1⟩ := hcc
  obtain ⟨i, rfl⟩ : ∃ n : Nat, i = n := ⟨i.toNat, by omega⟩
  obtain ⟨n, hn⟩ : ∃ n, (st.f i).length = n := ⟨_, rfl⟩
  have hnf := h.2.1 i
  obtain ⟨A, cc, hA, hV, hAF⟩ := h.1.fm i (by omega)
  rw [hn] at hA
  have cA := hide (fun (W : World) (hW : Old w W) => (RAsk_any A n cc (st.f i) (by omega) hn.symm c s k i m dt W (CellsAt.old hV hW) hm0 hm1).mono (fun e w' (he : ∃ v, e = .returned v ∧ RepAt W w' v (askR (st.f i) k m) ∧ Old W w') => (by
    obtain ⟨v, rfl, ⟨A2, c2, rfl, hi2, ha2⟩, hb2⟩ := he
    rw [ha, hnR]
    rw [ha] at hi2
    exact ⟨A2, c2, rfl, hi2, ha2, hb2⟩ : ∃ A2 c2, e = .returned (.agg #[.int .i64 ra.code, .int .i64 ra.ver, .string ra.data, .slice A2 nR c2]) ∧ IntsAt w' A2 ra.vs ∧ (∀ a', A2 = some a' → W.heap.size ≤ a'.block) ∧ Old W w')))
  have hQF := hide (fun (W : World) (hW : Old w W) => ((bcell hW).1 g (2 + i) (h.1.lt g h.1.gF)).trans hA)
  have cM := hide (fun (W : World) => rMay_at c s k i m dt true h1 W)
  have cW := hide (fun (W : World) => rWrites_at c s k i m dt false h2 W)
  have hX := hide (fun (W : World) (h : Old ((w.alloc (.cells #[.int .i64 c, .int .i64 s, .int .i64 k, .int .i64 i, .int .i64 m, .string dt] 36)).alloc (.cells #[.int .i64 0, .int .i64 0, .string ByteArray.empty, .slice none 0 0] 32)) W) => boxed h)
  have hi32 : (i : Int) < 32 := by omega
  clear h1 h2 h hV hA hAF hn hnf ha hnR
  go_enter Try.func27, Try.ntmps27
  go_wp2_with (first
    | (go_at_call 44; refine (cM.out _).mono ?_; rintro e w1 ⟨rfl, hb1⟩; obtain ⟨⟨x0, x1, x2, x3, x4, x5⟩, ⟨y0, y1, y2, y3⟩, ⟨f0, f1, f2, f3⟩, l1, o1⟩ := hX.out _ hb1)
    | (go_at_call 25; refine (cW.out _).mono ?_; rintro e w2 ⟨rfl, hb2⟩; clear x0 x1 x2 x3 x4 x5 y0 y1 y2 y3 f0 f1 f2 f3 l1 o1; obtain ⟨⟨x0, x1, x2, x3, x4, x5⟩, ⟨y0, y1, y2, y3⟩, ⟨f0, f1, f2, f3⟩, l1, o1⟩ := hX.out _ (hb1.trans' hb2); have hbb := hb1.trans' hb2; clear hb1 hb2))
  refine region_steps (R := pick [eqv (.pointer (some ⟨g, 0, none⟩)), eqv (.pointer (some ⟨w.heap.size, 3, none⟩)), eqv (.int .i64 i), eqv (.pointer (some ⟨g, 0, none⟩)), eqv (.pointer (some ⟨g, 2, none⟩)), eqv (.pointer (some ⟨g, 2 + i, none⟩)), eqv (.slice A n cc), eqv (.agg #[.int .i64 c, .int .i64 s, .int .i64 k, .int .i64 i, .int .i64 m, .string dt]), fun v w' => ∃ A2 c2, v = .agg #[.int .i64 ra.code, .int .i64 ra.ver, .string ra.data, .slice A2 nR c2] ∧ IntsAt w' A2 ra.vs ∧ ∀ a', A2 = some a' → w.heap.size + 2 ≤ a'.block, eqv (undef), eqv (.int .i64 0)]) (S := fun σ w' => (σ 9 = none → Old ((w.alloc (.cells #[.int .i64 c, .int .i64 s, .int .i64 k, .int .i64 i, .int .i64 m, .string dt] 36)).alloc (.cells #[.int .i64 0, .int .i64 0, .string ByteArray.empty, .slice none 0 0] 32)) w') ∧ (σ 9 ≠ none → Old w w' ∧ ∃ A2 c2, Bk w' (w.heap.size + 1) 32 #[.int .i64 ra.code, .int .i64 ra.ver, .string ra.data, .slice A2 nR c2] ∧ IntsAt w' A2 ra.vs)) (T := Fr (fun k => k = w.heap.size + 1)) (by kernel_rfl) (by kernel_rfl) (by kernel_rfl) (Stab.pick (Stab.eqv (Stab.eqv (Stab.eqv (Stab.eqv (Stab.eqv (Stab.eqv (Stab.eqv (Stab.eqv (Stab.cons (fun v w1 w2 hT h => by obtain ⟨A2, c2, e, hi, ha⟩ := h; exact ⟨A2, c2, e, CellsAt.fr hi hT (fun _ a' h' e' => by have := ha a' h'; omega), ha⟩) (Stab.eqv (Stab.eqv (Stab.nil))))))))))))) (⟨fun _ => hbb.drew', fun h => absurd rfl h⟩) ?steps ?ends
  case steps =>
    refine StepsOk.cons (stepOk_pure [] [(0, .pointer (some ⟨g, 0, none⟩))] rfl rfl (by kernel_rfl) (by kernel_rfl) rfl (fun _ => Fr.refl _ _) (fun σ v w h => ⟨fun e => h.1 (by simpa [upd] using e), fun e => h.2 (by simpa [upd] using e)⟩) (fun d E w' hk hda hS hc hf => by rintro  e0; exact ⟨_, by go_simp, rfl⟩)) ?_
    refine StepsOk.cons (stepOk_pure [] [(3, .pointer (some ⟨w.heap.size, 0, none⟩))] rfl rfl (by kernel_rfl) (by kernel_rfl) rfl (fun _ => Fr.refl _ _) (fun σ v w h => ⟨fun e => h.1 (by simpa [upd] using e), fun e => h.2 (by simpa [upd] using e)⟩) (fun d E w' hk hda hS hc hf => by rintro  e3; exact ⟨_, by go_simp, rfl⟩)) ?_
    refine StepsOk.cons (stepOk_pure [(1, 15)] [] rfl rfl (by kernel_rfl) (by kernel_rfl) rfl (fun _ => Fr.refl _ _) (fun σ v w h => ⟨fun e => h.1 (by simpa [upd] using e), fun e => h.2 (by simpa [upd] using e)⟩) (fun d E w' hk hda hS hc hf => by rintro _ q1 rfl e15 ; obtain ⟨⟨s0, s1, s2, s3, s4, s5⟩, -, -, -, ho⟩ := hX.out _ (hS.1 (hk 9 (by kernel_rfl))); have t0 := hQF.out _ ho; exact ⟨_, by go_simp, rfl⟩)) ?_
    refine StepsOk.cons (stepOk_pure [(0, 14)] [] rfl rfl (by kernel_rfl) (by kernel_rfl) rfl (fun _ => Fr.refl _ _) (fun σ v w h => ⟨fun e => h.1 (by simpa [upd] using e), fun e => h.2 (by simpa [upd] using e)⟩) (fun d E w' hk hda hS hc hf => by rintro _ q0 rfl e14 ; exact ⟨_, by go_simp, rfl⟩)) ?_
    refine StepsOk.cons (stepOk_pure [(3, 17)] [] rfl rfl (by kernel_rfl) (by kernel_rfl) rfl (fun _ => Fr.refl _ _) (fun σ v w h => ⟨fun e => h.1 (by simpa [upd] using e), fun e => h.2 (by simpa [upd] using e)⟩) (fun d E w' hk hda hS hc hf => by rintro _ q3 rfl e17 ; exact ⟨_, by go_simp, rfl⟩)) ?_
    refine StepsOk.cons (stepOk_pure [(4, 18), (2, 16)] [] rfl rfl (by kernel_rfl) (by kernel_rfl) rfl (fun _ => Fr.refl _ _) (fun σ v w h => ⟨fun e => h.1 (by simpa [upd] using e), fun e => h.2 (by simpa [upd] using e)⟩) (fun d E w' hk hda hS hc hf => by rintro _ q4 rfl e18 _ q2 rfl e16 ; obtain ⟨⟨s0, s1, s2, s3, s4, s5⟩, -, -, -, ho⟩ := hX.out _ (hS.1 (hk 9 (by kernel_rfl))); have t0 := hQF.out _ ho; exact ⟨_, by go_simp, rfl⟩)) ?_
    refine StepsOk.cons (stepOk_pure [(5, 19)] [] rfl rfl (by kernel_rfl) (by kernel_rfl) rfl (fun _ => Fr.refl _ _) (fun σ v w h => ⟨fun e => h.1 (by simpa [upd] using e), fun e => h.2 (by simpa [upd] using e)⟩) (fun d E w' hk hda hS hc hf => by rintro _ q5 rfl e19 ; obtain ⟨⟨s0, s1, s2, s3, s4, s5⟩, -, -, -, ho⟩ := hX.out _ (hS.1 (hk 9 (by kernel_rfl))); have t0 := hQF.out _ ho; exact ⟨_, by go_simp, rfl⟩)) ?_
    refine StepsOk.cons (stepOk_pure [] [(3, .pointer (some ⟨w.heap.size, 0, none⟩))] rfl rfl (by kernel_rfl) (by kernel_rfl) rfl (fun _ => Fr.refl _ _) (fun σ v w h => ⟨fun e => h.1 (by simpa [upd] using e), fun e => h.2 (by simpa [upd] using e)⟩) (fun d E w' hk hda hS hc hf => by rintro  e3; obtain ⟨⟨s0, s1, s2, s3, s4, s5⟩, -, -, -, ho⟩ := hX.out _ (hS.1 (hk 9 (by kernel_rfl))); have t0 := hQF.out _ ho; exact ⟨_, by go_simp, rfl⟩)) ?_
    refine StepsOk.cons (stepOk_mk [(6, 20), (7, 21)] [] rfl rfl (by kernel_rfl) (by kernel_rfl) rfl ?_) ?_
    · rintro d a w' hk hda hS _ q6 rfl e20 _ q7 rfl e21 
      first | refine Given.nil (Known.nil ?_) | refine Known.nil ?_
      have hW := hS.1 (hk 9 (by kernel_rfl))
      have hsz := hW.size
      simp at hsz
      refine wp_call 35 _ Try.func35 (by kernel_rfl) (by kernel_rfl) _ _ (by rfl) [.slice A n cc, .agg #[.int .i64 c, .int .i64 s, .int .i64 k, .int .i64 i, .int .i64 m, .string dt]] (by simp only [List.map_cons, List.map_nil, *]; try rfl) (cA.out _ (hX.out _ hW).2.2.2.2) ?_
      rintro e w1 ⟨A2, c2, rfl, hi2, ha2, hb2⟩
      exact ⟨_, rfl, _, rfl, ⟨A2, c2, rfl, hi2, fun a' h' => by have := ha2 a' h'; omega⟩, Fr.of_old hb2, ⟨fun e => hW.trans' hb2, fun e => absurd (hk 9 (by kernel_rfl)) (by simpa [upd] using e)⟩⟩
    refine StepsOk.cons (stepOk_store [(8, 22)] [(4, .pointer (some ⟨w.heap.size + 1, 0, none⟩))] rfl rfl (by kernel_rfl) (by kernel_rfl) rfl (fun d E w' hk hda hS hc hf => by rintro _ q8 ⟨A2, c2, rfl, hi2, ha2⟩ e22 e4; have hW := hS.1 (hk 9 (by kernel_rfl)); obtain ⟨-, ⟨z0, z1, z2, z3⟩, ⟨v0, v1, v2, v3⟩, lz, hoz⟩ := hX.out _ hW; have hbr := (bk_new1 w (.cells #[.int .i64 c, .int .i64 s, .int .i64 k, .int .i64 i, .int .i64 m, .string dt] 36) 32 #[.int .i64 0, .int .i64 0, .string ByteArray.empty, .slice none 0 0]).old hW; exact ⟨((((w'.setCell ⟨w.heap.size + 1, 0, none⟩ (.int .i64 ra.code)).setCell ⟨w.heap.size + 1, 1, none⟩ (.int .i64 ra.ver)).setCell ⟨w.heap.size + 1, 2, none⟩ (.string ra.data)).setCell ⟨w.heap.size + 1, 3, none⟩ (.slice A2 nR c2)), by go_simp, rfl, fr4 (Fr.refl _ _), ⟨fun h => by simp [upd] at h, fun _ => ⟨Old.setCell' (Old.setCell' (Old.setCell' (Old.setCell' hoz (Nat.le_succ _) _) (Nat.le_succ _) _) (Nat.le_succ _) _) (Nat.le_succ _) _, A2, c2, Bk.set4 hbr, CellsAt.fr hi2 (fr4 (Fr.refl _ _)) (fun _ a' h' e' => by have := ha2 a' h'; omega)⟩⟩⟩)) ?_
    refine StepsOk.cons (stepOk_pure [] [] rfl rfl (by kernel_rfl) (by kernel_rfl) rfl (fun _ => Fr.refl _ _) (fun σ v w h => ⟨fun e => h.1 (by simpa [upd] using e), fun e => h.2 (by simpa [upd] using e)⟩) (fun d E w' hk hda hS hc hf => by exact ⟨_, by go_simp, rfl⟩)) ?_
    exact StepsOk.nil
  case ends =>
    intro σ9 w9 hS9 hA9
    refine Ends.eqv (some 14) (.pointer (some ⟨g, 0, none⟩)) rfl (fun _ h => h) ?_
    refine Ends.eqv (some 15) (.pointer (some ⟨w.heap.size, 3, none⟩)) rfl (fun _ h => h) ?_
    refine Ends.eqv (some 16) (.int .i64 i) rfl (fun _ h => h) ?_
    refine Ends.eqv (some 17) (.pointer (some ⟨g, 0, none⟩)) rfl (fun _ h => h) ?_
    refine Ends.eqv (some 18) (.pointer (some ⟨g, 2, none⟩)) rfl (fun _ h => h) ?_
    refine Ends.eqv (some 19) (.pointer (some ⟨g, 2 + i, none⟩)) rfl (fun _ h => h) ?_
    refine Ends.eqv (some 20) (.slice A n cc) rfl (fun _ h => h) ?_
    refine Ends.eqv (some 21) (.agg #[.int .i64 c, .int .i64 s, .int .i64 k, .int .i64 i, .int .i64 m, .string dt]) rfl (fun _ h => h) ?_
    refine Ends.ex (some 22) rfl ?_
    rintro _ p8 ⟨A2, c2, rfl, hi2, ha2⟩
    refine Ends.eqv none (undef) rfl (fun _ h => h) ?_
    refine Ends.eqv (some 5) (.int .i64 0) rfl (fun _ h => h) ?_
    refine Ends.nil ?_
    have hA9' := hA9
    clear hA9
    simp only [put_lit, put_none, List.set_cons_zero, List.set_cons_succ]
    have h9 := hS9.2 (by have := hA9' 9 (by simp); intro e; rw [e] at this; simp at this)
    clear hS9 hA9'
    obtain ⟨ho9, A3, c3, hk9, hi9⟩ := h9
    have HI := hide hi9
    clear hi9
    obtain ⟨⟨z0, z1, z2, z3⟩, -, lz⟩ := bk4 hk9
    go_wp2_with fail
    refine bodyPost_ret (v := .tuple #[.agg #[.int .i64 ra.code, .int .i64 ra.ver, .string ra.data, .slice A3 nR c3], .int .i64 0]) ?_ rfl ⟨A3, c3, rfl, HI.out, ho9⟩
    simp [results, Try.results27, go_sem, *]

/-! ### Ids -/
def idsL (f : Int → List Ver) (j : Nat) : List Int := ((List.range j).map Int.ofNat).filter fun i => decide (f i ≠ [])
theorem idsL_succ (f : Int → List Ver) (j : Nat) : idsL f (j + 1) = idsL f j ++ (if f (j : Int) = [] then [] else [(j : Int)]) := by
  unfold idsL
  rw [List.range_succ, List.map_append, List.filter_append]
  by_cases h : f (j : Int) = [] <;> simp [h]
theorem idsL_len (f : Int → List Ver) (j : Nat) : (idsL f j).length ≤ j := by
  unfold idsL
  refine Nat.le_trans (List.length_filter_le _ _) ?_
  simp

set_option maxRecDepth 100000 in
set_option maxHeartbeats 2000000 in
theorem SIds_st (g : Nat) (F : Nat → Prop) (st : StV) (nk : Nat) (hnk : (ksOf st.f).length = nk) (w : World) (h : SDAt w g F st) :
    Calls Try.prog 49 #[.pointer (some ⟨g, 0, none⟩)] w fun e w' => ∃ A c, e = .returned (.slice A nk c) ∧ IntsAt w' A (ksOf st.f) ∧ Old w w' := by
  obtain ⟨i0, hi, hz0, hz1, hz2⟩ := info_parts info_intC
  have HF := hide (fun (k : Nat) (hk : k < 32) (W : World) (hW : Old w W) => (by
    obtain ⟨A, c, hA, -, -⟩ := h.1.fm k hk
    exact ⟨A, c, ((bcell hW).1 g (2 + k) (h.1.lt g h.1.gF)).trans hA⟩ : ∃ A c, W.cell? ⟨g, 2 + k, none⟩ = some (.slice A (st.f k).length c)))
  have HNK := hide hnk
  clear h hnk
  go_enter Try.func49, Try.ntmps49
  go_wp2
  go_loopw [3, 4] (fun v iv wr => ∃ j : Nat, j ≤ 32 ∧ iv = .int .i64 j ∧ Old w wr ∧ wr.ownsRow w.heap.size 3 1 v (idsL st.f j).length ((idsL st.f j).map (Value.int .i64)))
    (fun _ iv _ => 32 - (intOf iv).toNat)
  case atStart => exact ⟨0, Nat.zero_le _, rfl, Old.refl' w, World.ownsRow_nil _ _ _ _⟩
  case round =>
    obtain ⟨j, hj, rfl, hB, hown⟩ := hrel
    obtain ⟨Av, cv, rfl, -, -⟩ := own_form hown
    by_cases hlt : j < 32
    · obtain ⟨A, c, t0⟩ := HF.out j hlt wr hB
      have HS := hide (idsL_succ st.f j)
      have hjl := idsL_len st.f j
      have hj32 : (j : Int) ≤ 31 := by omega
      have hj32' : (j : Int) < 32 := by omega
      obtain ⟨L, hL⟩ : ∃ L, idsL st.f j = L := ⟨_, rfl⟩
      rw [hL] at hown hjl
      have HLL := hide hL
      obtain ⟨n, hn⟩ : ∃ n, (st.f j).length = n := ⟨_, rfl⟩
      rw [hn] at t0
      clear hL
      rcases Nat.eq_zero_or_pos n with h0 | h0
      · subst h0
        have HE := hide (List.eq_nil_of_length_eq_zero hn)
        have HO := hide hown
        clear hn hown
        rw [HLL.out]
        go_wp2
        go_roundw
        case rel => exact ⟨j + 1, by omega, by go_num, hB, by rw [HS.out, HE.out, HLL.out]; simpa using HO.out⟩
        case measure => simp [intOf]; omega
      · have HE := hide (show ¬ st.f (j : Int) = [] from fun e => by rw [e] at hn; simp at hn; omega)
        have hpos : (0 : Int) < n := by omega
        clear hn
        rw [HLL.out]
        go_wp2_with (at_builtin; refine wpList_app _ rfl (.tmp 17) (.tmp 19) 30 rfl w.heap.size 3 i0 (.int .i64 0) 1 8 Try.underlying30 hi hz0 hz1 hz2 rfl (by decide) _ _ _ rfl (hown.alloc _) (some ⟨wr.heap.size, 0, none⟩) 1 1 [.int .i64 (j : Int)] rfl rfl (cells_bk (Bk.new wr 3 #[.int .i64 (j : Int)])) (by simp [Value.oneCell']) (by unfold maxLen; omega) (by omega) (by have := hB.size; simp; omega) _ rfl _ rfl ?_; intro A2 c2 w2 h2)
        go_roundw
        case rel =>
          refine ⟨j + 1, by omega, by go_num, h2.old (hB.alloc' _) (fun j hj => (hown.lt j hj).1), ?_⟩
          rw [HS.out, if_neg HE.out, HLL.out, List.length_append, List.map_append]
          exact h2.own
        case measure => simp [intOf]; omega
    · obtain rfl : j = 32 := by omega
      have e : idsL st.f 32 = ksOf st.f := rfl
      rw [e] at hown ⊢
      rw [HNK.out] at hown ⊢
      have HO := hide (CellsAt.of_own hown : IntsAt wr Av (ksOf st.f))
      clear hown e
      go_wp2
      go_ret
      first | exact ⟨Av, cv, rfl, HO.out, hB⟩ | exact ⟨Av, ⟨cv, rfl⟩, HO.out, hB⟩

/-! ### Bytes -/
def tabL (f : Int → List Ver) (j : Nat) : List Int := (idsL f j).flatMap (tabB f)
theorem tabL_succ (f : Int → List Ver) (j : Nat) : tabL f (j + 1) = tabL f j ++ (if f (j : Int) = [] then [] else tabB f j) := by
  unfold tabL
  rw [idsL_succ, List.flatMap_append]
  by_cases h : f (j : Int) = [] <;> simp [h]
theorem tabL_len {s : StV} (h : StOk s) (hn : s.n ≤ 1000) (hf : ∀ k, (s.f k).length ≤ s.n) (j : Nat) (hj : j ≤ 32) : (tabL s.f j).length ≤ j * 75020 := by
  induction j with
  | zero => simp [tabL, idsL]
  | succ j ih =>
    rw [tabL_succ, List.length_append]
    have h1 := ih (by omega)
    have h2 := tabB_len h hn hf (k := (j : Int)) (by omega)
    have h3 : (j + 1) * 75020 = j * 75020 + 75020 := Nat.succ_mul j 75020
    rw [h3]
    split
    · simp only [List.length_nil]; exact Nat.le_trans h1 (Nat.le_add_right _ _)
    · exact Nat.add_le_add h1 h2

set_option maxRecDepth 100000 in
set_option maxHeartbeats 4000000 in
theorem SBytes_st (g : Nat) (F : Nat → Prop) (st : StV) (hsn : st.n ≤ 1000) (hok : StOk st) (w : World) (h : SDAt w g F st) :
    Calls Try.prog 23 #[.pointer (some ⟨g, 0, none⟩)] w fun e w' => e = .returned (.string (strOfNums st.bytes)) ∧ Old w w' := by
  have n0 := h.1.n0
  have hgl := h.1.lt g h.1.gF
  have hw64 : IntKind.u64.wrap (st.n : Int) = st.n := by simp [IntKind.wrap_u64]; omega
  have HST := hide h
  have HOK := hide hok
  have HSN := hide hsn
  clear h hok
  obtain ⟨N, hN⟩ : ∃ N, st.n = N := ⟨_, rfl⟩
  rw [hN] at n0 hw64 hsn
  have cN := hide (fun W => RNum_any N (by omega) W)
  have HN := hide hN
  clear hN
  go_enter Try.func23, Try.ntmps23
  go_wp2_with (go_at_call 45; refine (cN.out _).mono ?_; rintro e w1 ⟨rfl, hb1⟩)
  go_loopw [3, 4] (fun sv iv wr => ∃ k : Nat, k ≤ 4 ∧ iv = .int .i64 k ∧ Old w wr ∧ sv = .string (strOfNums (numB N ++ sesL st k))) (fun _ iv _ => 4 - (intOf iv).toNat)
  case atStart => exact ⟨0, Nat.zero_le _, rfl, hb1, by simp [sesL]⟩
  case round =>
    clear hb1 n0 hw64
    obtain ⟨k, hk, rfl, hB, rfl⟩ := hrel
    have hlen : (numB N ++ sesL st k).length ≤ 100 := by
      rw [List.length_append]
      have h1 := numB_len N (by omega)
      have h2 := sesL_len HOK.out HSN.out k
      omega
    by_cases hlt : k < 4
    · have hseq := HOK.out.seq k
      have hpl := HOK.out.place k
      obtain ⟨sa, ha⟩ : ∃ sa : Nat, (st.ss k).seq = sa := ⟨(st.ss k).seq.toNat, by omega⟩
      obtain ⟨b, hb⟩ : ∃ b : Nat, (st.ss k).place = b := ⟨_, rfl⟩
      have hQ := hide (fun (W : World) (hW : Old w W) => (ha ▸ (HST.out.old hW).1.sqs k hlt : W.cell? ⟨g, 34 + k, none⟩ = some (.int .i64 sa)))
      have hP := hide (fun (W : World) (hW : Old w W) => (hb ▸ (HST.out.old hW).1.pls k hlt : W.cell? ⟨g, 38 + k, none⟩ = some (.int .i64 b)))
      have ha2 : sa ≤ 1073741824 := by omega
      have hb2 : b ≤ 1000 := by have := HSN.out; omega
      have hwa : IntKind.u64.wrap (sa : Int) = sa := by simp [IntKind.wrap_u64]; omega
      have hwb : IntKind.u64.wrap (b : Int) = b := by simp [IntKind.wrap_u64]; omega
      have cNa := hide (fun W => RNum_any sa (by omega) W)
      have cNb := hide (fun W => RNum_any b (by omega) W)
      have hza : (strOfNums (numB sa)).size ≤ 10 := by rw [strOfNums_size]; exact numB_len _ (by omega)
      have hzb : (strOfNums (numB b)).size ≤ 10 := by rw [strOfNums_size]; exact numB_len _ (by omega)
      have hk4 : (k : Int) < 4 := by omega
      have HSUC := hide (show numB N ++ sesL st (k + 1) = numB N ++ sesL st k ++ numB sa ++ numB b by rw [sesL_succ, ha, hb]; simp [List.append_assoc])
      obtain ⟨cs, hcs⟩ : ∃ cs, numB N ++ sesL st k = cs := ⟨_, rfl⟩
      rw [hcs] at hlen
      have hzc : (strOfNums cs).size ≤ 100 := by rw [strOfNums_size]; exact hlen
      have HCS := hide hcs
      rw [hcs]
      clear hcs ha hb hseq hpl hlen
      go_wp2_with fail
      refine region_steps (R := pick [eqv (.string (strOfNums cs)), eqv (.pointer (some ⟨g, 0, none⟩)), eqv (.int .i64 k), eqv (.pointer (some ⟨g, 0, none⟩)), eqv (.pointer (some ⟨g, 34, none⟩)), eqv (.pointer (some ⟨g, 34 + k, none⟩)), eqv (.int .i64 sa), eqv (.int .u64 sa), eqv (.string (strOfNums (numB sa))), eqv (.string (strOfNums cs ++ strOfNums (numB sa))), eqv (.pointer (some ⟨g, 0, none⟩)), eqv (.int .i64 k), eqv (.pointer (some ⟨g, 0, none⟩)), eqv (.pointer (some ⟨g, 38, none⟩)), eqv (.pointer (some ⟨g, 38 + k, none⟩)), eqv (.int .i64 b), eqv (.int .u64 b), eqv (.string (strOfNums (numB b))), eqv (.string (strOfNums cs ++ strOfNums (numB sa) ++ strOfNums (numB b))), eqv (.string (strOfNums cs ++ strOfNums (numB sa) ++ strOfNums (numB b)))]) (S := fun _ w' => Old w w') (T := Old) (by kernel_rfl) (by kernel_rfl) (by kernel_rfl) (Stab.pick (Stab.eqv (Stab.eqv (Stab.eqv (Stab.eqv (Stab.eqv (Stab.eqv (Stab.eqv (Stab.eqv (Stab.eqv (Stab.eqv (Stab.eqv (Stab.eqv (Stab.eqv (Stab.eqv (Stab.eqv (Stab.eqv (Stab.eqv (Stab.eqv (Stab.eqv (Stab.eqv (Stab.nil)))))))))))))))))))))) (hB.drew') ?steps ?ends
      case steps =>
        refine StepsOk.cons (stepOk_pure [] [(3, .string (strOfNums cs))] rfl rfl (by kernel_rfl) (by kernel_rfl) rfl Old.refl' (fun _ _ _ h => h) (fun d E w' hk hda hS hc hf => by rintro  e3; exact ⟨_, by go_simp, rfl⟩)) ?_
        refine StepsOk.cons (stepOk_pure [] [(0, .pointer (some ⟨g, 0, none⟩))] rfl rfl (by kernel_rfl) (by kernel_rfl) rfl Old.refl' (fun _ _ _ h => h) (fun d E w' hk hda hS hc hf => by rintro  e0; exact ⟨_, by go_simp, rfl⟩)) ?_
        refine StepsOk.cons (stepOk_pure [] [(4, .int .i64 k)] rfl rfl (by kernel_rfl) (by kernel_rfl) rfl Old.refl' (fun _ _ _ h => h) (fun d E w' hk hda hS hc hf => by rintro  e4; exact ⟨_, by go_simp, rfl⟩)) ?_
        refine StepsOk.cons (stepOk_pure [(1, 18)] [] rfl rfl (by kernel_rfl) (by kernel_rfl) rfl Old.refl' (fun _ _ _ h => h) (fun d E w' hk hda hS hc hf => by rintro _ q1 rfl e18 ; exact ⟨_, by go_simp, rfl⟩)) ?_
        refine StepsOk.cons (stepOk_pure [(3, 20)] [] rfl rfl (by kernel_rfl) (by kernel_rfl) rfl Old.refl' (fun _ _ _ h => h) (fun d E w' hk hda hS hc hf => by rintro _ q3 rfl e20 ; exact ⟨_, by go_simp, rfl⟩)) ?_
        refine StepsOk.cons (stepOk_pure [(4, 21), (2, 19)] [] rfl rfl (by kernel_rfl) (by kernel_rfl) rfl Old.refl' (fun _ _ _ h => h) (fun d E w' hk hda hS hc hf => by rintro _ q4 rfl e21 _ q2 rfl e19 ; obtain t0 := hQ.out _ hS; have t1 := hP.out _ hS; exact ⟨_, by go_simp, rfl⟩)) ?_
        refine StepsOk.cons (stepOk_pure [(5, 22)] [] rfl rfl (by kernel_rfl) (by kernel_rfl) rfl Old.refl' (fun _ _ _ h => h) (fun d E w' hk hda hS hc hf => by rintro _ q5 rfl e22 ; obtain t0 := hQ.out _ hS; have t1 := hP.out _ hS; exact ⟨_, by go_simp, rfl⟩)) ?_
        refine StepsOk.cons (stepOk_pure [(6, 23)] [] rfl rfl (by kernel_rfl) (by kernel_rfl) rfl Old.refl' (fun _ _ _ h => h) (fun d E w' hk hda hS hc hf => by rintro _ q6 rfl e23 ; obtain t0 := hQ.out _ hS; have t1 := hP.out _ hS; exact ⟨_, by go_simp, rfl⟩)) ?_
        refine StepsOk.cons (stepOk_mk [(7, 24)] [] rfl rfl (by kernel_rfl) (by kernel_rfl) rfl ?_) ?_
        · rintro d a w' hk hda hS _ q7 rfl e24 
          first | refine Given.nil (Known.nil ?_) | refine Known.nil ?_
          refine wp_call 45 _ Try.func45 (by kernel_rfl) (by kernel_rfl) _ _ (by rfl) [.int .u64 sa] (by simp only [List.map_cons, List.map_nil, *]; try rfl) (cNa.out _) ?_
          rintro e w1 ⟨rfl, hb⟩
          exact ⟨_, rfl, _, rfl, rfl, hb, hS.trans' hb⟩
        refine StepsOk.cons (stepOk_pure [(0, 17), (8, 25)] [] rfl rfl (by kernel_rfl) (by kernel_rfl) rfl Old.refl' (fun _ _ _ h => h) (fun d E w' hk hda hS hc hf => by rintro _ q0 rfl e17 _ q8 rfl e25 ; have hbd : (strOfNums cs).size + (strOfNums (numB sa)).size ≤ 9223372036854775807 := (by omega); exact ⟨_, by go_simp, rfl⟩)) ?_
        refine StepsOk.cons (stepOk_pure [] [(0, .pointer (some ⟨g, 0, none⟩))] rfl rfl (by kernel_rfl) (by kernel_rfl) rfl Old.refl' (fun _ _ _ h => h) (fun d E w' hk hda hS hc hf => by rintro  e0; exact ⟨_, by go_simp, rfl⟩)) ?_
        refine StepsOk.cons (stepOk_pure [] [(4, .int .i64 k)] rfl rfl (by kernel_rfl) (by kernel_rfl) rfl Old.refl' (fun _ _ _ h => h) (fun d E w' hk hda hS hc hf => by rintro  e4; exact ⟨_, by go_simp, rfl⟩)) ?_
        refine StepsOk.cons (stepOk_pure [(10, 27)] [] rfl rfl (by kernel_rfl) (by kernel_rfl) rfl Old.refl' (fun _ _ _ h => h) (fun d E w' hk hda hS hc hf => by rintro _ q10 rfl e27 ; exact ⟨_, by go_simp, rfl⟩)) ?_
        refine StepsOk.cons (stepOk_pure [(12, 29)] [] rfl rfl (by kernel_rfl) (by kernel_rfl) rfl Old.refl' (fun _ _ _ h => h) (fun d E w' hk hda hS hc hf => by rintro _ q12 rfl e29 ; exact ⟨_, by go_simp, rfl⟩)) ?_
        refine StepsOk.cons (stepOk_pure [(13, 30), (11, 28)] [] rfl rfl (by kernel_rfl) (by kernel_rfl) rfl Old.refl' (fun _ _ _ h => h) (fun d E w' hk hda hS hc hf => by rintro _ q13 rfl e30 _ q11 rfl e28 ; obtain t0 := hQ.out _ hS; have t1 := hP.out _ hS; exact ⟨_, by go_simp, rfl⟩)) ?_
        refine StepsOk.cons (stepOk_pure [(14, 31)] [] rfl rfl (by kernel_rfl) (by kernel_rfl) rfl Old.refl' (fun _ _ _ h => h) (fun d E w' hk hda hS hc hf => by rintro _ q14 rfl e31 ; obtain t0 := hQ.out _ hS; have t1 := hP.out _ hS; exact ⟨_, by go_simp, rfl⟩)) ?_
        refine StepsOk.cons (stepOk_pure [(15, 32)] [] rfl rfl (by kernel_rfl) (by kernel_rfl) rfl Old.refl' (fun _ _ _ h => h) (fun d E w' hk hda hS hc hf => by rintro _ q15 rfl e32 ; obtain t0 := hQ.out _ hS; have t1 := hP.out _ hS; exact ⟨_, by go_simp, rfl⟩)) ?_
        refine StepsOk.cons (stepOk_mk [(16, 33)] [] rfl rfl (by kernel_rfl) (by kernel_rfl) rfl ?_) ?_
        · rintro d a w' hk hda hS _ q16 rfl e33 
          first | refine Given.nil (Known.nil ?_) | refine Known.nil ?_
          refine wp_call 45 _ Try.func45 (by kernel_rfl) (by kernel_rfl) _ _ (by rfl) [.int .u64 b] (by simp only [List.map_cons, List.map_nil, *]; try rfl) (cNb.out _) ?_
          rintro e w1 ⟨rfl, hb⟩
          exact ⟨_, rfl, _, rfl, rfl, hb, hS.trans' hb⟩
        refine StepsOk.cons (stepOk_pure [(9, 26), (17, 34)] [] rfl rfl (by kernel_rfl) (by kernel_rfl) rfl Old.refl' (fun _ _ _ h => h) (fun d E w' hk hda hS hc hf => by rintro _ q9 rfl e26 _ q17 rfl e34 ; have hbd : (strOfNums cs).size + (strOfNums (numB sa)).size + (strOfNums (numB b)).size ≤ 9223372036854775807 := (by omega); exact ⟨_, by go_simp, rfl⟩)) ?_
        refine StepsOk.cons (stepOk_pure [(18, 35)] [] rfl rfl (by kernel_rfl) (by kernel_rfl) rfl Old.refl' (fun _ _ _ h => h) (fun d E w' hk hda hS hc hf => by rintro _ q18 rfl e35 ; exact ⟨_, by go_simp, rfl⟩)) ?_
        exact StepsOk.nil
      case ends =>
        intro σ9 w9 hS9 hA9
        refine Ends.eqv (some 17) (.string (strOfNums cs)) rfl (fun _ h => h) ?_
        refine Ends.eqv (some 18) (.pointer (some ⟨g, 0, none⟩)) rfl (fun _ h => h) ?_
        refine Ends.eqv (some 19) (.int .i64 k) rfl (fun _ h => h) ?_
        refine Ends.eqv (some 20) (.pointer (some ⟨g, 0, none⟩)) rfl (fun _ h => h) ?_
        refine Ends.eqv (some 21) (.pointer (some ⟨g, 34, none⟩)) rfl (fun _ h => h) ?_
        refine Ends.eqv (some 22) (.pointer (some ⟨g, 34 + k, none⟩)) rfl (fun _ h => h) ?_
        refine Ends.eqv (some 23) (.int .i64 sa) rfl (fun _ h => h) ?_
        refine Ends.eqv (some 24) (.int .u64 sa) rfl (fun _ h => h) ?_
        refine Ends.eqv (some 25) (.string (strOfNums (numB sa))) rfl (fun _ h => h) ?_
        refine Ends.eqv (some 26) (.string (strOfNums cs ++ strOfNums (numB sa))) rfl (fun _ h => h) ?_
        refine Ends.eqv (some 27) (.pointer (some ⟨g, 0, none⟩)) rfl (fun _ h => h) ?_
        refine Ends.eqv (some 28) (.int .i64 k) rfl (fun _ h => h) ?_
        refine Ends.eqv (some 29) (.pointer (some ⟨g, 0, none⟩)) rfl (fun _ h => h) ?_
        refine Ends.eqv (some 30) (.pointer (some ⟨g, 38, none⟩)) rfl (fun _ h => h) ?_
        refine Ends.eqv (some 31) (.pointer (some ⟨g, 38 + k, none⟩)) rfl (fun _ h => h) ?_
        refine Ends.eqv (some 32) (.int .i64 b) rfl (fun _ h => h) ?_
        refine Ends.eqv (some 33) (.int .u64 b) rfl (fun _ h => h) ?_
        refine Ends.eqv (some 34) (.string (strOfNums (numB b))) rfl (fun _ h => h) ?_
        refine Ends.eqv (some 35) (.string (strOfNums cs ++ strOfNums (numB sa) ++ strOfNums (numB b))) rfl (fun _ h => h) ?_
        refine Ends.eqv (some 3) (.string (strOfNums cs ++ strOfNums (numB sa) ++ strOfNums (numB b))) rfl (fun _ h => h) ?_
        refine Ends.nil ?_
        clear hA9
        simp only [put_lit, put_none, List.set_cons_zero, List.set_cons_succ]
        clear hB
        go_wp2_with fail
        go_roundw
        case rel => exact ⟨k + 1, by omega, by go_num, hS9, by rw [HSUC.out, HCS.out, strOf_append, strOf_append]⟩
        case measure => simp [intOf]; omega
    · obtain rfl : k = 4 := by omega
      obtain ⟨base, hbase⟩ : ∃ base, numB N ++ sesL st 4 = base := ⟨_, rfl⟩
      rw [hbase] at hlen
      rw [hbase]
      have HBASE := hide hbase
      clear hbase
      obtain ⟨W0, rfl⟩ : ∃ W : World, W = wr := ⟨_, rfl⟩
      have HB0 := hide hB
      clear hB
      go_wp2_with fail
      go_loopw [3, 5] (fun sv iv wr => ∃ k : Nat, k ≤ 32 ∧ iv = .int .i64 k ∧ Old w wr ∧ sv = .string (strOfNums (base ++ tabL st.f k))) (fun _ iv _ => 32 - (intOf iv).toNat)
      case atStart => exact ⟨0, Nat.zero_le _, rfl, HB0.out, by simp [tabL, idsL]⟩
      case round =>
        obtain ⟨k, hk, rfl, hB, rfl⟩ := hrel
        have htl := tabL_len HOK.out HSN.out HST.out.2.1 k hk
        by_cases hlt : k < 32
        · obtain ⟨A, c, hA, hV, -⟩ := HST.out.1.fm k hlt
          obtain ⟨n, hn⟩ : ∃ n, (st.f k).length = n := ⟨_, rfl⟩
          have hnf := HST.out.2.1 k
          have hQ := hide (fun (W : World) (hW : Old w W) => (hn ▸ ((bcell hW).1 g (2 + k) hgl).trans hA : W.cell? ⟨g, 2 + k, none⟩ = some (.slice A n c)))
          have t0 := hQ.out _ hB
          have hn1 : n ≤ 1000 := by have := HSN.out; omega
          have hk31 : (k : Int) ≤ 31 := by omega
          have hk32 : (k : Int) < 32 := by omega
          have HSUC := hide (tabL_succ st.f k)
          obtain ⟨cs, hcs⟩ : ∃ cs, base ++ tabL st.f k = cs := ⟨_, rfl⟩
          have hcl : cs.length ≤ 100 + 32 * 75020 := by rw [← hcs, List.length_append]; omega
          have HCS := hide hcs
          rw [hcs]
          rcases Nat.eq_zero_or_pos n with h0 | h0
          · subst h0
            have HE := hide (List.eq_nil_of_length_eq_zero hn)
            clear hcs hn hA hV hnf htl hcl
            go_wp2_with fail
            go_roundw
            case rel => exact ⟨k + 1, by omega, by go_num, hB, by rw [HSUC.out, HE.out, if_pos rfl, List.append_nil, HCS.out]⟩
            case measure => simp [intOf]; omega
          · have HE := hide (show ¬ st.f (k : Int) = [] from fun e => by rw [e] at hn; simp at hn; omega)
            have hn0 : ¬ n = 0 := by omega
            have hwk : IntKind.u64.wrap (k : Int) = k := by simp [IntKind.wrap_u64]; omega
            have hwn : IntKind.u64.wrap (n : Int) = n := by simp [IntKind.wrap_u64]; omega
            have cNk := hide (fun W => RNum_any k (by omega) W)
            have cNn := hide (fun W => RNum_any n (by omega) W)
            have hzk : (strOfNums (numB k)).size ≤ 10 := by rw [strOfNums_size]; exact numB_len _ (by omega)
            have hzn : (strOfNums (numB n)).size ≤ 10 := by rw [strOfNums_size]; exact numB_len _ (by omega)
            have hzc : (strOfNums cs).size ≤ 100 + 32 * 75020 := by rw [strOfNums_size]; exact hcl
            obtain ⟨b, o, rfl, hb, -⟩ := hV.at_ (k := 0) (by omega)
            have HV := hide hV
            have HNL := hide hn
            have HD := hide (HOK.out.data (k : Int))
            clear hcs hn hA hV hnf htl
            go_wp2_with fail
            refine region_steps (R := pick [eqv (.string (strOfNums cs)), eqv (.int .i64 k), eqv (.int .u64 k), eqv (.string (strOfNums (numB k))), eqv (.string (strOfNums cs ++ strOfNums (numB k))), eqv (.pointer (some ⟨g, 0, none⟩)), eqv (.int .i64 k), eqv (.pointer (some ⟨g, 0, none⟩)), eqv (.pointer (some ⟨g, 2, none⟩)), eqv (.pointer (some ⟨g, 2 + k, none⟩)), eqv (.slice (some ⟨b, o, none⟩) n c), eqv (.int .i64 n), eqv (.int .u64 n), eqv (.string (strOfNums (numB n))), eqv (.string (strOfNums cs ++ strOfNums (numB k) ++ strOfNums (numB n))), eqv (.string (strOfNums cs ++ strOfNums (numB k) ++ strOfNums (numB n)))]) (S := fun _ w' => Old w w') (T := Old) (by kernel_rfl) (by kernel_rfl) (by kernel_rfl) (Stab.pick (Stab.eqv (Stab.eqv (Stab.eqv (Stab.eqv (Stab.eqv (Stab.eqv (Stab.eqv (Stab.eqv (Stab.eqv (Stab.eqv (Stab.eqv (Stab.eqv (Stab.eqv (Stab.eqv (Stab.eqv (Stab.eqv (Stab.nil)))))))))))))))))) (hB.drew') ?steps ?ends
            case steps =>
              refine StepsOk.cons (stepOk_pure [] [(3, .string (strOfNums cs))] rfl rfl (by kernel_rfl) (by kernel_rfl) rfl Old.refl' (fun _ _ _ h => h) (fun d E w' hk hda hS hc hf => by rintro  e3; exact ⟨_, by go_simp, rfl⟩)) ?_
              refine StepsOk.cons (stepOk_pure [] [(5, .int .i64 k)] rfl rfl (by kernel_rfl) (by kernel_rfl) rfl Old.refl' (fun _ _ _ h => h) (fun d E w' hk hda hS hc hf => by rintro  e5; exact ⟨_, by go_simp, rfl⟩)) ?_
              refine StepsOk.cons (stepOk_pure [(1, 49)] [] rfl rfl (by kernel_rfl) (by kernel_rfl) rfl Old.refl' (fun _ _ _ h => h) (fun d E w' hk hda hS hc hf => by rintro _ q1 rfl e49 ; obtain t0 := hQ.out _ hS; exact ⟨_, by go_simp, rfl⟩)) ?_
              refine StepsOk.cons (stepOk_mk [(2, 50)] [] rfl rfl (by kernel_rfl) (by kernel_rfl) rfl ?_) ?_
              · rintro d a w' hk hda hS _ q2 rfl e50 
                first | refine Given.nil (Known.nil ?_) | refine Known.nil ?_
                refine wp_call 45 _ Try.func45 (by kernel_rfl) (by kernel_rfl) _ _ (by rfl) [.int .u64 k] (by simp only [List.map_cons, List.map_nil, *]; try rfl) (cNk.out _) ?_
                rintro e w1 ⟨rfl, hb⟩
                exact ⟨_, rfl, _, rfl, rfl, hb, hS.trans' hb⟩
              refine StepsOk.cons (stepOk_pure [(0, 48), (3, 51)] [] rfl rfl (by kernel_rfl) (by kernel_rfl) rfl Old.refl' (fun _ _ _ h => h) (fun d E w' hk hda hS hc hf => by rintro _ q0 rfl e48 _ q3 rfl e51 ; have hbd : (strOfNums cs).size + (strOfNums (numB k)).size ≤ 9223372036854775807 := (by omega); exact ⟨_, by go_simp, rfl⟩)) ?_
              refine StepsOk.cons (stepOk_pure [] [(0, .pointer (some ⟨g, 0, none⟩))] rfl rfl (by kernel_rfl) (by kernel_rfl) rfl Old.refl' (fun _ _ _ h => h) (fun d E w' hk hda hS hc hf => by rintro  e0; exact ⟨_, by go_simp, rfl⟩)) ?_
              refine StepsOk.cons (stepOk_pure [] [(5, .int .i64 k)] rfl rfl (by kernel_rfl) (by kernel_rfl) rfl Old.refl' (fun _ _ _ h => h) (fun d E w' hk hda hS hc hf => by rintro  e5; exact ⟨_, by go_simp, rfl⟩)) ?_
              refine StepsOk.cons (stepOk_pure [(5, 53)] [] rfl rfl (by kernel_rfl) (by kernel_rfl) rfl Old.refl' (fun _ _ _ h => h) (fun d E w' hk hda hS hc hf => by rintro _ q5 rfl e53 ; exact ⟨_, by go_simp, rfl⟩)) ?_
              refine StepsOk.cons (stepOk_pure [(7, 55)] [] rfl rfl (by kernel_rfl) (by kernel_rfl) rfl Old.refl' (fun _ _ _ h => h) (fun d E w' hk hda hS hc hf => by rintro _ q7 rfl e55 ; exact ⟨_, by go_simp, rfl⟩)) ?_
              refine StepsOk.cons (stepOk_pure [(8, 56), (6, 54)] [] rfl rfl (by kernel_rfl) (by kernel_rfl) rfl Old.refl' (fun _ _ _ h => h) (fun d E w' hk hda hS hc hf => by rintro _ q8 rfl e56 _ q6 rfl e54 ; obtain t0 := hQ.out _ hS; exact ⟨_, by go_simp, rfl⟩)) ?_
              refine StepsOk.cons (stepOk_pure [(9, 57)] [] rfl rfl (by kernel_rfl) (by kernel_rfl) rfl Old.refl' (fun _ _ _ h => h) (fun d E w' hk hda hS hc hf => by rintro _ q9 rfl e57 ; obtain t0 := hQ.out _ hS; exact ⟨_, by go_simp, rfl⟩)) ?_
              refine StepsOk.cons (stepOk_pure [(10, 58)] [] rfl rfl (by kernel_rfl) (by kernel_rfl) rfl Old.refl' (fun _ _ _ h => h) (fun d E w' hk hda hS hc hf => by rintro _ q10 rfl e58 ; exact ⟨_, by go_simp, rfl⟩)) ?_
              refine StepsOk.cons (stepOk_pure [(11, 59)] [] rfl rfl (by kernel_rfl) (by kernel_rfl) rfl Old.refl' (fun _ _ _ h => h) (fun d E w' hk hda hS hc hf => by rintro _ q11 rfl e59 ; obtain t0 := hQ.out _ hS; exact ⟨_, by go_simp, rfl⟩)) ?_
              refine StepsOk.cons (stepOk_mk [(12, 60)] [] rfl rfl (by kernel_rfl) (by kernel_rfl) rfl ?_) ?_
              · rintro d a w' hk hda hS _ q12 rfl e60 
                first | refine Given.nil (Known.nil ?_) | refine Known.nil ?_
                refine wp_call 45 _ Try.func45 (by kernel_rfl) (by kernel_rfl) _ _ (by rfl) [.int .u64 n] (by simp only [List.map_cons, List.map_nil, *]; try rfl) (cNn.out _) ?_
                rintro e w1 ⟨rfl, hb⟩
                exact ⟨_, rfl, _, rfl, rfl, hb, hS.trans' hb⟩
              refine StepsOk.cons (stepOk_pure [(4, 52), (13, 61)] [] rfl rfl (by kernel_rfl) (by kernel_rfl) rfl Old.refl' (fun _ _ _ h => h) (fun d E w' hk hda hS hc hf => by rintro _ q4 rfl e52 _ q13 rfl e61 ; have hbd : (strOfNums cs).size + (strOfNums (numB k)).size + (strOfNums (numB n)).size ≤ 9223372036854775807 := (by omega); exact ⟨_, by go_simp, rfl⟩)) ?_
              refine StepsOk.cons (stepOk_pure [(14, 62)] [] rfl rfl (by kernel_rfl) (by kernel_rfl) rfl Old.refl' (fun _ _ _ h => h) (fun d E w' hk hda hS hc hf => by rintro _ q14 rfl e62 ; exact ⟨_, by go_simp, rfl⟩)) ?_
              exact StepsOk.nil
            case ends =>
              intro σ9 w9 hS9 hA9
              refine Ends.eqv (some 48) (.string (strOfNums cs)) rfl (fun _ h => h) ?_
              refine Ends.eqv (some 49) (.int .i64 k) rfl (fun _ h => h) ?_
              refine Ends.eqv (some 50) (.int .u64 k) rfl (fun _ h => h) ?_
              refine Ends.eqv (some 51) (.string (strOfNums (numB k))) rfl (fun _ h => h) ?_
              refine Ends.eqv (some 52) (.string (strOfNums cs ++ strOfNums (numB k))) rfl (fun _ h => h) ?_
              refine Ends.eqv (some 53) (.pointer (some ⟨g, 0, none⟩)) rfl (fun _ h => h) ?_
              refine Ends.eqv (some 54) (.int .i64 k) rfl (fun _ h => h) ?_
              refine Ends.eqv (some 55) (.pointer (some ⟨g, 0, none⟩)) rfl (fun _ h => h) ?_
              refine Ends.eqv (some 56) (.pointer (some ⟨g, 2, none⟩)) rfl (fun _ h => h) ?_
              refine Ends.eqv (some 57) (.pointer (some ⟨g, 2 + k, none⟩)) rfl (fun _ h => h) ?_
              refine Ends.eqv (some 58) (.slice (some ⟨b, o, none⟩) n c) rfl (fun _ h => h) ?_
              refine Ends.eqv (some 59) (.int .i64 n) rfl (fun _ h => h) ?_
              refine Ends.eqv (some 60) (.int .u64 n) rfl (fun _ h => h) ?_
              refine Ends.eqv (some 61) (.string (strOfNums (numB n))) rfl (fun _ h => h) ?_
              refine Ends.eqv (some 62) (.string (strOfNums cs ++ strOfNums (numB k) ++ strOfNums (numB n))) rfl (fun _ h => h) ?_
              refine Ends.eqv (some 3) (.string (strOfNums cs ++ strOfNums (numB k) ++ strOfNums (numB n))) rfl (fun _ h => h) ?_
              refine Ends.nil ?_
              clear hA9
              simp only [put_lit, put_none, List.set_cons_zero, List.set_cons_succ]
              clear hB
              have HB9 := hide hS9
              clear hS9 t0
              obtain ⟨W9, rfl⟩ : ∃ W : World, W = w9 := ⟨_, rfl⟩
              go_wp2_with fail
              go_loopw [3, 6] (fun sv iv wr => ∃ j : Nat, j ≤ n ∧ iv = .int .i64 j ∧ Old w wr ∧ sv = .string (strOfNums (cs ++ numB k ++ numB n ++ ((st.f k).take j).flatMap verB))) (fun _ iv _ => n - (intOf iv).toNat)
              case atStart => exact ⟨0, Nat.zero_le _, rfl, HB9.out, by simp [strOf_append, ByteArray.append_assoc]⟩
              case round =>
                obtain ⟨j, hj, rfl, hB, rfl⟩ := hrel
                have t0 := hQ.out _ hB
                have hvl := versB_len (l := (st.f k).take j) (fun v hv => HD.out v (List.mem_of_mem_take hv))
                by_cases hjl : j < n
                · have hjl' : (j : Int) < n := by omega
                  obtain ⟨b', o', e', hb', g1, g2⟩ := HV.out.at_ (k := j) (by have := HNL.out; omega)
                  cases e'
                  obtain ⟨v, hv⟩ : ∃ v, (st.f k)[j]?.getD default = v := ⟨_, rfl⟩
                  rw [hv] at g1 g2
                  have htk : (st.f k).take (j + 1) = (st.f k).take j ++ [v] := by
                    rw [List.take_succ_eq_append_getElem (by have := HNL.out; omega), ← hv, List.getElem?_eq_getElem (by have := HNL.out; omega)]
                    rfl
                  have hvm : v ∈ st.f k := by
                    rw [← hv, List.getElem?_eq_getElem (by have := HNL.out; omega)]
                    exact List.getElem_mem _
                  have hvd := HD.out v hvm
                  obtain ⟨x, y⟩ := v
                  simp only at g1 g2 hvd
                  have hQ0 := hide (fun (W : World) (hW : Old w W) => ((bcell hW).1 b (o + j * 2) hb).trans g1)
                  have hQ1 := hide (fun (W : World) (hW : Old w W) => ((bcell hW).1 b (o + j * 2 + 1) hb).trans g2)
                  have cT := hide (fun W => RText_any y (by omega) W)
                  obtain ⟨ds, hds⟩ : ∃ ds, cs ++ numB k ++ numB n ++ ((st.f k).take j).flatMap verB = ds := ⟨_, rfl⟩
                  have hdl : ds.length ≤ 200 + 32 * 75020 + 75000 := by
                    rw [← hds, List.length_append, List.length_append, List.length_append]
                    have h1 := numB_len k (by omega)
                    have h2 := numB_len n (by omega)
                    rw [List.length_take] at hvl
                    omega
                  have HSUC3 := hide (show cs ++ numB k ++ numB n ++ ((st.f k).take (j + 1)).flatMap verB = ds ++ yesB x ++ textB y by rw [htk, List.flatMap_append, ← List.append_assoc, hds]; simp [verB])
                  rw [hds]
                  have hzy : (strOfNums (yesB x)).size ≤ 1 := by rw [strOfNums_size]; cases x <;> simp [yesB]
                  have hzt : (strOfNums (textB y)).size ≤ 80 := by
                    rw [strOfNums_size, textB, List.length_append, numsOf_length]
                    have := numB_len y.size (by omega)
                    omega
                  have hzd : (strOfNums ds).size ≤ 200 + 32 * 75020 + 75000 := by rw [strOfNums_size]; exact hdl
                  have HC3 := hide hcl
                  clear hds hv htk hvm g1 g2 hvl hvd hcl hzc hzk hzn
                  obtain ⟨cs', hcs'⟩ : ∃ c, c = cs := ⟨_, rfl⟩
                  obtain ⟨cs, rfl⟩ : ∃ c, c = ds := ⟨_, rfl⟩
                  go_wp2_with fail
                  refine region_steps (R := pick [eqv (.string (strOfNums cs)), eqv (.pointer (some ⟨g, 0, none⟩)), eqv (.int .i64 k), eqv (.pointer (some ⟨g, 0, none⟩)), eqv (.pointer (some ⟨g, 2, none⟩)), eqv (.pointer (some ⟨g, 2 + k, none⟩)), eqv (.slice (some ⟨b, o, none⟩) n c), eqv (.int .i64 j), eqv (.pointer (some ⟨b, o + j * 2, none⟩)), eqv (.pointer (some ⟨b, o + j * 2, none⟩)), eqv (.bool x), eqv (.string (strOfNums (yesB x))), eqv (.string (strOfNums cs ++ strOfNums (yesB x))), eqv (.pointer (some ⟨g, 0, none⟩)), eqv (.int .i64 k), eqv (.pointer (some ⟨g, 0, none⟩)), eqv (.pointer (some ⟨g, 2, none⟩)), eqv (.pointer (some ⟨g, 2 + k, none⟩)), eqv (.slice (some ⟨b, o, none⟩) n c), eqv (.int .i64 j), eqv (.pointer (some ⟨b, o + j * 2, none⟩)), eqv (.pointer (some ⟨b, o + j * 2 + 1, none⟩)), eqv (.string y), eqv (.string (strOfNums (textB y))), eqv (.string (strOfNums cs ++ strOfNums (yesB x) ++ strOfNums (textB y))), eqv (.string (strOfNums cs ++ strOfNums (yesB x) ++ strOfNums (textB y)))]) (S := fun _ w' => Old w w') (T := Old) (by kernel_rfl) (by kernel_rfl) (by kernel_rfl) (Stab.pick (Stab.eqv (Stab.eqv (Stab.eqv (Stab.eqv (Stab.eqv (Stab.eqv (Stab.eqv (Stab.eqv (Stab.eqv (Stab.eqv (Stab.eqv (Stab.eqv (Stab.eqv (Stab.eqv (Stab.eqv (Stab.eqv (Stab.eqv (Stab.eqv (Stab.eqv (Stab.eqv (Stab.eqv (Stab.eqv (Stab.eqv (Stab.eqv (Stab.eqv (Stab.eqv (Stab.nil)))))))))))))))))))))))))))) (hB.drew') ?steps ?ends
                  case steps =>
                    refine StepsOk.cons (stepOk_pure [] [(3, .string (strOfNums cs))] rfl rfl (by kernel_rfl) (by kernel_rfl) rfl Old.refl' (fun _ _ _ h => h) (fun d E w' hk hda hS hc hf => by rintro  e3; exact ⟨_, by go_simp, rfl⟩)) ?_
                    refine StepsOk.cons (stepOk_pure [] [(0, .pointer (some ⟨g, 0, none⟩))] rfl rfl (by kernel_rfl) (by kernel_rfl) rfl Old.refl' (fun _ _ _ h => h) (fun d E w' hk hda hS hc hf => by rintro  e0; exact ⟨_, by go_simp, rfl⟩)) ?_
                    refine StepsOk.cons (stepOk_pure [] [(5, .int .i64 k)] rfl rfl (by kernel_rfl) (by kernel_rfl) rfl Old.refl' (fun _ _ _ h => h) (fun d E w' hk hda hS hc hf => by rintro  e5; exact ⟨_, by go_simp, rfl⟩)) ?_
                    refine StepsOk.cons (stepOk_pure [(1, 75)] [] rfl rfl (by kernel_rfl) (by kernel_rfl) rfl Old.refl' (fun _ _ _ h => h) (fun d E w' hk hda hS hc hf => by rintro _ q1 rfl e75 ; exact ⟨_, by go_simp, rfl⟩)) ?_
                    refine StepsOk.cons (stepOk_pure [(3, 77)] [] rfl rfl (by kernel_rfl) (by kernel_rfl) rfl Old.refl' (fun _ _ _ h => h) (fun d E w' hk hda hS hc hf => by rintro _ q3 rfl e77 ; exact ⟨_, by go_simp, rfl⟩)) ?_
                    refine StepsOk.cons (stepOk_pure [(4, 78), (2, 76)] [] rfl rfl (by kernel_rfl) (by kernel_rfl) rfl Old.refl' (fun _ _ _ h => h) (fun d E w' hk hda hS hc hf => by rintro _ q4 rfl e78 _ q2 rfl e76 ; obtain t0 := hQ.out _ hS; have t1 := hQ0.out _ hS; have t2 := hQ1.out _ hS; exact ⟨_, by go_simp, rfl⟩)) ?_
                    refine StepsOk.cons (stepOk_pure [(5, 79)] [] rfl rfl (by kernel_rfl) (by kernel_rfl) rfl Old.refl' (fun _ _ _ h => h) (fun d E w' hk hda hS hc hf => by rintro _ q5 rfl e79 ; obtain t0 := hQ.out _ hS; have t1 := hQ0.out _ hS; have t2 := hQ1.out _ hS; exact ⟨_, by go_simp, rfl⟩)) ?_
                    refine StepsOk.cons (stepOk_pure [] [(6, .int .i64 j)] rfl rfl (by kernel_rfl) (by kernel_rfl) rfl Old.refl' (fun _ _ _ h => h) (fun d E w' hk hda hS hc hf => by rintro  e6; exact ⟨_, by go_simp, rfl⟩)) ?_
                    refine StepsOk.cons (stepOk_pure [(6, 80), (7, 81)] [] rfl rfl (by kernel_rfl) (by kernel_rfl) rfl Old.refl' (fun _ _ _ h => h) (fun d E w' hk hda hS hc hf => by rintro _ q6 rfl e80 _ q7 rfl e81 ; obtain t0 := hQ.out _ hS; have t1 := hQ0.out _ hS; have t2 := hQ1.out _ hS; exact ⟨_, by go_simp, rfl⟩)) ?_
                    refine StepsOk.cons (stepOk_pure [(8, 82)] [] rfl rfl (by kernel_rfl) (by kernel_rfl) rfl Old.refl' (fun _ _ _ h => h) (fun d E w' hk hda hS hc hf => by rintro _ q8 rfl e82 ; exact ⟨_, by go_simp, rfl⟩)) ?_
                    refine StepsOk.cons (stepOk_pure [(9, 83)] [] rfl rfl (by kernel_rfl) (by kernel_rfl) rfl Old.refl' (fun _ _ _ h => h) (fun d E w' hk hda hS hc hf => by rintro _ q9 rfl e83 ; obtain t0 := hQ.out _ hS; have t1 := hQ0.out _ hS; have t2 := hQ1.out _ hS; exact ⟨_, by go_simp, rfl⟩)) ?_
                    refine StepsOk.cons (stepOk_mk [(10, 84)] [] rfl rfl (by kernel_rfl) (by kernel_rfl) rfl ?_) ?_
                    · rintro d a w' hk hda hS _ q10 rfl e84 
                      first | refine Given.nil (Known.nil ?_) | refine Known.nil ?_
                      refine wp_call 46 _ Try.func46 (by kernel_rfl) (by kernel_rfl) _ _ (by rfl) [.bool x] (by simp only [List.map_cons, List.map_nil, *]; try rfl) (RYes_any x _) ?_
                      rintro e w1 ⟨rfl, rfl⟩
                      exact ⟨_, rfl, _, rfl, rfl, Old.refl' _, hS⟩
                    refine StepsOk.cons (stepOk_pure [(0, 74), (11, 85)] [] rfl rfl (by kernel_rfl) (by kernel_rfl) rfl Old.refl' (fun _ _ _ h => h) (fun d E w' hk hda hS hc hf => by rintro _ q0 rfl e74 _ q11 rfl e85 ; have hbd : (strOfNums cs).size + (strOfNums (yesB x)).size ≤ 9223372036854775807 := (by omega); exact ⟨_, by go_simp, rfl⟩)) ?_
                    refine StepsOk.cons (stepOk_pure [] [(0, .pointer (some ⟨g, 0, none⟩))] rfl rfl (by kernel_rfl) (by kernel_rfl) rfl Old.refl' (fun _ _ _ h => h) (fun d E w' hk hda hS hc hf => by rintro  e0; exact ⟨_, by go_simp, rfl⟩)) ?_
                    refine StepsOk.cons (stepOk_pure [] [(5, .int .i64 k)] rfl rfl (by kernel_rfl) (by kernel_rfl) rfl Old.refl' (fun _ _ _ h => h) (fun d E w' hk hda hS hc hf => by rintro  e5; exact ⟨_, by go_simp, rfl⟩)) ?_
                    refine StepsOk.cons (stepOk_pure [(13, 87)] [] rfl rfl (by kernel_rfl) (by kernel_rfl) rfl Old.refl' (fun _ _ _ h => h) (fun d E w' hk hda hS hc hf => by rintro _ q13 rfl e87 ; exact ⟨_, by go_simp, rfl⟩)) ?_
                    refine StepsOk.cons (stepOk_pure [(15, 89)] [] rfl rfl (by kernel_rfl) (by kernel_rfl) rfl Old.refl' (fun _ _ _ h => h) (fun d E w' hk hda hS hc hf => by rintro _ q15 rfl e89 ; exact ⟨_, by go_simp, rfl⟩)) ?_
                    refine StepsOk.cons (stepOk_pure [(16, 90), (14, 88)] [] rfl rfl (by kernel_rfl) (by kernel_rfl) rfl Old.refl' (fun _ _ _ h => h) (fun d E w' hk hda hS hc hf => by rintro _ q16 rfl e90 _ q14 rfl e88 ; obtain t0 := hQ.out _ hS; have t1 := hQ0.out _ hS; have t2 := hQ1.out _ hS; exact ⟨_, by go_simp, rfl⟩)) ?_
                    refine StepsOk.cons (stepOk_pure [(17, 91)] [] rfl rfl (by kernel_rfl) (by kernel_rfl) rfl Old.refl' (fun _ _ _ h => h) (fun d E w' hk hda hS hc hf => by rintro _ q17 rfl e91 ; obtain t0 := hQ.out _ hS; have t1 := hQ0.out _ hS; have t2 := hQ1.out _ hS; exact ⟨_, by go_simp, rfl⟩)) ?_
                    refine StepsOk.cons (stepOk_pure [] [(6, .int .i64 j)] rfl rfl (by kernel_rfl) (by kernel_rfl) rfl Old.refl' (fun _ _ _ h => h) (fun d E w' hk hda hS hc hf => by rintro  e6; exact ⟨_, by go_simp, rfl⟩)) ?_
                    refine StepsOk.cons (stepOk_pure [(18, 92), (19, 93)] [] rfl rfl (by kernel_rfl) (by kernel_rfl) rfl Old.refl' (fun _ _ _ h => h) (fun d E w' hk hda hS hc hf => by rintro _ q18 rfl e92 _ q19 rfl e93 ; obtain t0 := hQ.out _ hS; have t1 := hQ0.out _ hS; have t2 := hQ1.out _ hS; exact ⟨_, by go_simp, rfl⟩)) ?_
                    refine StepsOk.cons (stepOk_pure [(20, 94)] [] rfl rfl (by kernel_rfl) (by kernel_rfl) rfl Old.refl' (fun _ _ _ h => h) (fun d E w' hk hda hS hc hf => by rintro _ q20 rfl e94 ; exact ⟨_, by go_simp, rfl⟩)) ?_
                    refine StepsOk.cons (stepOk_pure [(21, 95)] [] rfl rfl (by kernel_rfl) (by kernel_rfl) rfl Old.refl' (fun _ _ _ h => h) (fun d E w' hk hda hS hc hf => by rintro _ q21 rfl e95 ; obtain t0 := hQ.out _ hS; have t1 := hQ0.out _ hS; have t2 := hQ1.out _ hS; exact ⟨_, by go_simp, rfl⟩)) ?_
                    refine StepsOk.cons (stepOk_mk [(22, 96)] [] rfl rfl (by kernel_rfl) (by kernel_rfl) rfl ?_) ?_
                    · rintro d a w' hk hda hS _ q22 rfl e96 
                      first | refine Given.nil (Known.nil ?_) | refine Known.nil ?_
                      refine wp_call 47 _ Try.func47 (by kernel_rfl) (by kernel_rfl) _ _ (by rfl) [.string y] (by simp only [List.map_cons, List.map_nil, *]; try rfl) (cT.out _) ?_
                      rintro e w1 ⟨rfl, hb⟩
                      exact ⟨_, rfl, _, rfl, rfl, hb, hS.trans' hb⟩
                    refine StepsOk.cons (stepOk_pure [(12, 86), (23, 97)] [] rfl rfl (by kernel_rfl) (by kernel_rfl) rfl Old.refl' (fun _ _ _ h => h) (fun d E w' hk hda hS hc hf => by rintro _ q12 rfl e86 _ q23 rfl e97 ; have hbd : (strOfNums cs).size + (strOfNums (yesB x)).size + (strOfNums (textB y)).size ≤ 9223372036854775807 := (by omega); exact ⟨_, by go_simp, rfl⟩)) ?_
                    refine StepsOk.cons (stepOk_pure [(24, 98)] [] rfl rfl (by kernel_rfl) (by kernel_rfl) rfl Old.refl' (fun _ _ _ h => h) (fun d E w' hk hda hS hc hf => by rintro _ q24 rfl e98 ; exact ⟨_, by go_simp, rfl⟩)) ?_
                    exact StepsOk.nil
                  case ends =>
                    intro σ9 w9 hS9 hA9
                    refine Ends.eqv (some 74) (.string (strOfNums cs)) rfl (fun _ h => h) ?_
                    refine Ends.eqv (some 75) (.pointer (some ⟨g, 0, none⟩)) rfl (fun _ h => h) ?_
                    refine Ends.eqv (some 76) (.int .i64 k) rfl (fun _ h => h) ?_
                    refine Ends.eqv (some 77) (.pointer (some ⟨g, 0, none⟩)) rfl (fun _ h => h) ?_
                    refine Ends.eqv (some 78) (.pointer (some ⟨g, 2, none⟩)) rfl (fun _ h => h) ?_
                    refine Ends.eqv (some 79) (.pointer (some ⟨g, 2 + k, none⟩)) rfl (fun _ h => h) ?_
                    refine Ends.eqv (some 80) (.slice (some ⟨b, o, none⟩) n c) rfl (fun _ h => h) ?_
                    refine Ends.eqv (some 81) (.int .i64 j) rfl (fun _ h => h) ?_
                    refine Ends.eqv (some 82) (.pointer (some ⟨b, o + j * 2, none⟩)) rfl (fun _ h => h) ?_
                    refine Ends.eqv (some 83) (.pointer (some ⟨b, o + j * 2, none⟩)) rfl (fun _ h => h) ?_
                    refine Ends.eqv (some 84) (.bool x) rfl (fun _ h => h) ?_
                    refine Ends.eqv (some 85) (.string (strOfNums (yesB x))) rfl (fun _ h => h) ?_
                    refine Ends.eqv (some 86) (.string (strOfNums cs ++ strOfNums (yesB x))) rfl (fun _ h => h) ?_
                    refine Ends.eqv (some 87) (.pointer (some ⟨g, 0, none⟩)) rfl (fun _ h => h) ?_
                    refine Ends.eqv (some 88) (.int .i64 k) rfl (fun _ h => h) ?_
                    refine Ends.eqv (some 89) (.pointer (some ⟨g, 0, none⟩)) rfl (fun _ h => h) ?_
                    refine Ends.eqv (some 90) (.pointer (some ⟨g, 2, none⟩)) rfl (fun _ h => h) ?_
                    refine Ends.eqv (some 91) (.pointer (some ⟨g, 2 + k, none⟩)) rfl (fun _ h => h) ?_
                    refine Ends.eqv (some 92) (.slice (some ⟨b, o, none⟩) n c) rfl (fun _ h => h) ?_
                    refine Ends.eqv (some 93) (.int .i64 j) rfl (fun _ h => h) ?_
                    refine Ends.eqv (some 94) (.pointer (some ⟨b, o + j * 2, none⟩)) rfl (fun _ h => h) ?_
                    refine Ends.eqv (some 95) (.pointer (some ⟨b, o + j * 2 + 1, none⟩)) rfl (fun _ h => h) ?_
                    refine Ends.eqv (some 96) (.string y) rfl (fun _ h => h) ?_
                    refine Ends.eqv (some 97) (.string (strOfNums (textB y))) rfl (fun _ h => h) ?_
                    refine Ends.eqv (some 98) (.string (strOfNums cs ++ strOfNums (yesB x) ++ strOfNums (textB y))) rfl (fun _ h => h) ?_
                    refine Ends.eqv (some 3) (.string (strOfNums cs ++ strOfNums (yesB x) ++ strOfNums (textB y))) rfl (fun _ h => h) ?_
                    refine Ends.nil ?_
                    clear hA9
                    simp only [put_lit, put_none, List.set_cons_zero, List.set_cons_succ]
                    clear hB
                    go_wp2_with fail
                    go_roundw
                    case rel => exact ⟨j + 1, by omega, by go_num, hS9, by subst hcs'; rw [HSUC3.out, strOf_append, strOf_append]⟩
                    case measure => simp [intOf]; omega
                · obtain rfl : j = n := by omega
                  have hall : cs ++ numB k ++ numB j ++ ((st.f k).take j).flatMap verB = cs ++ tabB st.f k := by
                    rw [List.take_of_length_le (by have := HNL.out; omega)]
                    unfold tabB
                    rw [HNL.out]
                    simp [List.append_assoc]
                  rw [hall]
                  clear hall hvl
                  go_wp2_with fail
                  go_roundw
                  case rel => exact ⟨k + 1, by omega, by go_num, hB, by rw [HSUC.out, if_neg HE.out, ← List.append_assoc, HCS.out]⟩
                  case measure => simp [intOf]; omega
        · obtain rfl : k = 32 := by omega
          have hall : base ++ tabL st.f 32 = st.bytes := by
            rw [← HBASE.out, sesL_four, ← HN.out]
            rfl
          rw [hall]
          clear hall htl
          go_wp2_with fail
          go_ret
          exact ⟨rfl, hB⟩
end Go.Proofs.Ytcbnibldlbnkbaa
