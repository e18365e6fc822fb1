/- store.Store.Put: what is refused. -/
import Derived.Test.YtcbnibldlbnkbaaSt3
namespace Go.Proofs.Ytcbnibldlbnkbaa
open Go.RowKit

set_option maxRecDepth 100000 in
set_option maxHeartbeats 1000000 in
theorem Put_arg (p : Option Addr) (q : Q) (hq : p ≠ none → (q.may && Writes q.kind) = false) (w : World) :
    Calls Try.prog 13 #[.pointer p, q.v] w fun e w' => e = .returned (.tuple #[.agg #[.int .i64 0, .int .i64 0, .string ByteArray.empty, .slice none 0 0], .int .i64 1]) ∧ Old w w' := by
  obtain ⟨c, s, k, i, m, d⟩ := q
  simp only [Q.v]
  cases p with
  | none =>
    clear hq
    go_enter Try.func13, Try.ntmps13
    go_wp2
    refine bodyPost_ret (v := .tuple #[.agg #[.int .i64 0, .int .i64 0, .string ByteArray.empty, .slice none 0 0], .int .i64 1]) ?_ rfl ⟨rfl, ?_⟩
    · simp [results, Try.results13, go_sem, *]
      try rfl
    · repeat (first | with_reducible exact (((Old.refl' w).alloc' _).alloc' _) | with_reducible refine Old.setCell' ?_ (by simp) _)
  | some a =>
    have hq := hq (by simp)
    obtain ⟨b1, h1⟩ : ∃ b, mayQ c s k i m d = b := ⟨_, rfl⟩
    have cM := hide (fun (W : World) => iMay_at c s k i m d b1 h1 W)
    have hX := hide (fun (W : World) (h : Old ((w.alloc (.cells #[.int .i64 c, .int .i64 s, .int .i64 k, .int .i64 i, .int .i64 m, .string d] 36)).alloc (.cells #[.int .i64 0, .int .i64 0, .string ByteArray.empty, .slice none 0 0] 32)) W) => boxed h)
    cases b1 with
    | false =>
      clear hq h1
      go_enter Try.func13, Try.ntmps13
      go_wp2_with (go_at_call 29; refine (cM.out _).mono ?_; rintro e w1 ⟨rfl, hb1⟩; obtain ⟨⟨x0, x1, x2, x3, x4, x5⟩, ⟨y0, y1, y2, y3⟩, ⟨f0, f1, f2, f3⟩, l1, o1⟩ := hX.out _ hb1)
      refine bodyPost_ret (v := .tuple #[.agg #[.int .i64 0, .int .i64 0, .string ByteArray.empty, .slice none 0 0], .int .i64 1]) ?_ rfl ⟨rfl, ?_⟩
      · simp [results, Try.results13, go_sem, *]
        try rfl
      · repeat (first | with_reducible exact o1 | with_reducible refine Old.setCell' ?_ (by simp) _)
    | true =>
      have hw : Writes k = false := by simpa [Q.may, h1] using hq
      have cW := hide (fun (W : World) => iWrites_at c s k i m d false hw W)
      clear hq h1 hw
      go_enter Try.func13, Try.ntmps13
      go_wp2_with (first
        | (go_at_call 29; refine (cM.out _).mono ?_; rintro e w1 ⟨rfl, hb1⟩; obtain ⟨⟨x0, x1, x2, x3, x4, x5⟩, ⟨y0, y1, y2, y3⟩, ⟨f0, f1, f2, f3⟩, l1, o1⟩ := hX.out _ hb1)
        | (go_at_call 30; refine (cW.out _).mono ?_; rintro e w2 ⟨rfl, hb2⟩; clear x0 x1 x2 x3 x4 x5 y0 y1 y2 y3 f0 f1 f2 f3 l1 o1; obtain ⟨⟨x0, x1, x2, x3, x4, x5⟩, ⟨y0, y1, y2, y3⟩, ⟨f0, f1, f2, f3⟩, l1, o1⟩ := hX.out _ (hb1.trans' hb2); have hbb := hb1.trans' hb2; clear hb1 hb2))
      refine bodyPost_ret (v := .tuple #[.agg #[.int .i64 0, .int .i64 0, .string ByteArray.empty, .slice none 0 0], .int .i64 1]) ?_ rfl ⟨rfl, ?_⟩
      · simp [results, Try.results13, go_sem, *]
        try rfl
      · repeat (first | with_reducible exact o1 | with_reducible refine Old.setCell' ?_ (by simp) _)

set_option maxRecDepth 100000 in
set_option maxHeartbeats 4000000 in
theorem Put_order (g : Nat) (F : Nat → Prop) (st : StV) (q : Q) (hq : (q.may && Writes q.kind) = true) (hs : ¬ (st.ss q.client).seq < q.seq) (w : World) (h : StAt w g F st) :
    Calls Try.prog 13 #[.pointer (some ⟨g, 0, none⟩), q.v] w fun e w' => e = .returned (.tuple #[.agg #[.int .i64 0, .int .i64 0, .string ByteArray.empty, .slice none 0 0], .int .i64 9]) ∧ Old w w' := by
  obtain ⟨c, s, k, i, m, d⟩ := q
  simp only [Q.v, Q.may, Bool.and_eq_true] at hq hs ⊢
  obtain ⟨h1, h2⟩ := hq
  have hcc : 0 ≤ c ∧ c ≤ 3 := by
    simp only [mayQ, Bool.and_eq_true, decide_eq_true_eq] at h1
    omega
  obtain ⟨c, rfl⟩ : ∃ n : Nat, c = n := ⟨c.toNat, by omega⟩
  obtain ⟨x, hx⟩ : ∃ x, (st.ss c).seq = x := ⟨_, rfl⟩
  rw [hx] at hs
  have hQ := hide (fun (W : World) (hW : Old w W) => (hx ▸ ((h.old hW).ses c (by omega)).1 : W.cell? ⟨g, 4 + c * 6, none⟩ = some (.int .i64 x)))
  have cM := hide (fun (W : World) => iMay_at c s k i m d true h1 W)
  have cW := hide (fun (W : World) => iWrites_at c s k i m d true h2 W)
  have hX := hide (fun (W : World) (h : Old ((w.alloc (.cells #[.int .i64 c, .int .i64 s, .int .i64 k, .int .i64 i, .int .i64 m, .string d] 36)).alloc (.cells #[.int .i64 0, .int .i64 0, .string ByteArray.empty, .slice none 0 0] 32)) W) => boxed h)
  have hle : s ≤ x := by omega
  have hc4 : (c : Int) < 4 := by omega
  clear h1 h2 hs hx h hcc
  go_enter Try.func13, Try.ntmps13
  go_wp2_with (first
    | (go_at_call 29; refine (cM.out _).mono ?_; rintro e w1 ⟨rfl, hb1⟩; obtain ⟨⟨x0, x1, x2, x3, x4, x5⟩, ⟨y0, y1, y2, y3⟩, ⟨f0, f1, f2, f3⟩, l1, o1⟩ := hX.out _ hb1)
    | (go_at_call 30; refine (cW.out _).mono ?_; rintro e w2 ⟨rfl, hb2⟩; clear x0 x1 x2 x3 x4 x5 y0 y1 y2 y3 f0 f1 f2 f3 l1 o1; obtain ⟨⟨x0, x1, x2, x3, x4, x5⟩, ⟨y0, y1, y2, y3⟩, ⟨f0, f1, f2, f3⟩, l1, o1⟩ := hX.out _ (hb1.trans' hb2); have hbb := hb1.trans' hb2; clear hb1 hb2))
  refine region_steps (R := pick [eqv (.pointer (some ⟨w.heap.size, 1, none⟩)), eqv (.int .i64 s), eqv (.pointer (some ⟨g, 0, none⟩)), eqv (.pointer (some ⟨w.heap.size, 0, none⟩)), eqv (.int .i64 c), eqv (.pointer (some ⟨g, 0, none⟩)), eqv (.pointer (some ⟨g, 4, none⟩)), eqv (.pointer (some ⟨g, 4 + c * 6, none⟩)), eqv (.pointer (some ⟨g, 4 + c * 6, none⟩)), eqv (.int .i64 x), eqv (.bool true), eqv (.bool true)]) (S := fun _ w' => Old ((w.alloc (.cells #[.int .i64 c, .int .i64 s, .int .i64 k, .int .i64 i, .int .i64 m, .string d] 36)).alloc (.cells #[.int .i64 0, .int .i64 0, .string ByteArray.empty, .slice none 0 0] 32)) w') (T := Old) (by kernel_rfl) (by kernel_rfl) (by kernel_rfl) (Stab.pick (Stab.eqv (Stab.eqv (Stab.eqv (Stab.eqv (Stab.eqv (Stab.eqv (Stab.eqv (Stab.eqv (Stab.eqv (Stab.eqv (Stab.eqv (Stab.eqv (Stab.nil)))))))))))))) (hbb.drew') ?steps ?ends
  case steps =>
    refine StepsOk.cons (stepOk_pure [] [(3, .pointer (some ⟨w.heap.size, 0, none⟩))] rfl rfl (by kernel_rfl) (by kernel_rfl) rfl Old.refl' (fun _ _ _ h => h) (fun d E w' hk hda hS hc hf => by rintro  e3; exact ⟨_, by go_simp, rfl⟩)) ?_
    refine StepsOk.cons (stepOk_pure [(0, 24)] [] rfl rfl (by kernel_rfl) (by kernel_rfl) rfl Old.refl' (fun _ _ _ h => h) (fun d E w' hk hda hS hc hf => by rintro _ q0 rfl e24 ; obtain ⟨⟨s0, s1, s2, s3, s4, s5⟩, -, -, -, ho⟩ := hX.out _ hS; have t0 := hQ.out _ ho; exact ⟨_, by go_simp, rfl⟩)) ?_
    refine StepsOk.cons (stepOk_pure [] [(0, .pointer (some ⟨g, 0, none⟩))] rfl rfl (by kernel_rfl) (by kernel_rfl) rfl Old.refl' (fun _ _ _ h => h) (fun d E w' hk hda hS hc hf => by rintro  e0; exact ⟨_, by go_simp, rfl⟩)) ?_
    refine StepsOk.cons (stepOk_pure [] [(3, .pointer (some ⟨w.heap.size, 0, none⟩))] rfl rfl (by kernel_rfl) (by kernel_rfl) rfl Old.refl' (fun _ _ _ h => h) (fun d E w' hk hda hS hc hf => by rintro  e3; exact ⟨_, by go_simp, rfl⟩)) ?_
    refine StepsOk.cons (stepOk_pure [(3, 27)] [] rfl rfl (by kernel_rfl) (by kernel_rfl) rfl Old.refl' (fun _ _ _ h => h) (fun d E w' hk hda hS hc hf => by rintro _ q3 rfl e27 ; obtain ⟨⟨s0, s1, s2, s3, s4, s5⟩, -, -, -, ho⟩ := hX.out _ hS; have t0 := hQ.out _ ho; exact ⟨_, by go_simp, rfl⟩)) ?_
    refine StepsOk.cons (stepOk_pure [(2, 26)] [] rfl rfl (by kernel_rfl) (by kernel_rfl) rfl Old.refl' (fun _ _ _ h => h) (fun d E w' hk hda hS hc hf => by rintro _ q2 rfl e26 ; exact ⟨_, by go_simp, rfl⟩)) ?_
    refine StepsOk.cons (stepOk_pure [(5, 29)] [] rfl rfl (by kernel_rfl) (by kernel_rfl) rfl Old.refl' (fun _ _ _ h => h) (fun d E w' hk hda hS hc hf => by rintro _ q5 rfl e29 ; exact ⟨_, by go_simp, rfl⟩)) ?_
    refine StepsOk.cons (stepOk_pure [(6, 30), (4, 28)] [] rfl rfl (by kernel_rfl) (by kernel_rfl) rfl Old.refl' (fun _ _ _ h => h) (fun d E w' hk hda hS hc hf => by rintro _ q6 rfl e30 _ q4 rfl e28 ; obtain ⟨⟨s0, s1, s2, s3, s4, s5⟩, -, -, -, ho⟩ := hX.out _ hS; have t0 := hQ.out _ ho; exact ⟨_, by go_simp, rfl⟩)) ?_
    refine StepsOk.cons (stepOk_pure [(7, 31)] [] rfl rfl (by kernel_rfl) (by kernel_rfl) rfl Old.refl' (fun _ _ _ h => h) (fun d E w' hk hda hS hc hf => by rintro _ q7 rfl e31 ; exact ⟨_, by go_simp, rfl⟩)) ?_
    refine StepsOk.cons (stepOk_pure [(8, 32)] [] rfl rfl (by kernel_rfl) (by kernel_rfl) rfl Old.refl' (fun _ _ _ h => h) (fun d E w' hk hda hS hc hf => by rintro _ q8 rfl e32 ; obtain ⟨⟨s0, s1, s2, s3, s4, s5⟩, -, -, -, ho⟩ := hX.out _ hS; have t0 := hQ.out _ ho; exact ⟨_, by go_simp, rfl⟩)) ?_
    refine StepsOk.cons (stepOk_pure [(1, 25), (9, 33)] [] rfl rfl (by kernel_rfl) (by kernel_rfl) rfl Old.refl' (fun _ _ _ h => h) (fun d E w' hk hda hS hc hf => by rintro _ q1 rfl e25 _ q9 rfl e33 ; exact ⟨_, by go_simp, rfl⟩)) ?_
    refine StepsOk.cons (stepOk_pure [(10, 34)] [] rfl rfl (by kernel_rfl) (by kernel_rfl) rfl Old.refl' (fun _ _ _ h => h) (fun d E w' hk hda hS hc hf => by rintro _ q10 rfl e34 ; exact ⟨_, by go_simp, rfl⟩)) ?_
    exact StepsOk.nil
  case ends =>
    intro σ9 w9 hS9 hA9
    refine Ends.eqv (some 24) (.pointer (some ⟨w.heap.size, 1, none⟩)) rfl (fun _ h => h) ?_
    refine Ends.eqv (some 25) (.int .i64 s) rfl (fun _ h => h) ?_
    refine Ends.eqv (some 26) (.pointer (some ⟨g, 0, none⟩)) rfl (fun _ h => h) ?_
    refine Ends.eqv (some 27) (.pointer (some ⟨w.heap.size, 0, none⟩)) rfl (fun _ h => h) ?_
    refine Ends.eqv (some 28) (.int .i64 c) rfl (fun _ h => h) ?_
    refine Ends.eqv (some 29) (.pointer (some ⟨g, 0, none⟩)) rfl (fun _ h => h) ?_
    refine Ends.eqv (some 30) (.pointer (some ⟨g, 4, none⟩)) rfl (fun _ h => h) ?_
    refine Ends.eqv (some 31) (.pointer (some ⟨g, 4 + c * 6, none⟩)) rfl (fun _ h => h) ?_
    refine Ends.eqv (some 32) (.pointer (some ⟨g, 4 + c * 6, none⟩)) rfl (fun _ h => h) ?_
    refine Ends.eqv (some 33) (.int .i64 x) rfl (fun _ h => h) ?_
    refine Ends.eqv (some 34) (.bool true) rfl (fun _ h => h) ?_
    refine Ends.eqv (some 23) (.bool true) rfl (fun _ h => h) ?_
    refine Ends.nil ?_
    clear hA9
    simp only [put_lit, put_none, List.set_cons_zero, List.set_cons_succ]
    clear x0 x1 x2 x3 x4 x5 y0 y1 y2 y3 f0 f1 f2 f3 l1 o1 hbb
    obtain ⟨⟨x0, x1, x2, x3, x4, x5⟩, ⟨y0, y1, y2, y3⟩, ⟨f0, f1, f2, f3⟩, l1, o1⟩ := hX.out _ hS9
    have hbb := hS9
    clear hS9
    go_wp2_with fail
    refine bodyPost_ret (v := .tuple #[.agg #[.int .i64 0, .int .i64 0, .string ByteArray.empty, .slice none 0 0], .int .i64 9]) ?_ rfl ⟨rfl, ?_⟩
    · simp [results, Try.results13, go_sem, *]
      try rfl
    · repeat (first | with_reducible exact o1 | with_reducible refine Old.setCell' ?_ (by simp) _)
end Go.Proofs.Ytcbnibldlbnkbaa

/- book.Table[int, []api.Version].Put, at a store's table. -/
namespace Go.Proofs.Ytcbnibldlbnkbaa
open Go.RowKit

theorem VTab.gF {w : World} {g o : Nat} {F : Nat → Prop} {f : Int → List Ver} (h : VTab w g o F f) : F g := by
  obtain ⟨A, ck, B, cv, vs, -, hF, -⟩ := h.ex
  exact hF g (.inl rfl)
theorem VPut {w : World} {g o : Nat} {F : Nat → Prop} {f : Int → List Ver} (h : VTab w g o F f) (hlt : ∀ x, F x → x < w.heap.size) (k : Int) (hk : 0 ≤ k ∧ k ≤ 31) (A3 : Option Addr) (n3 c3 : Nat) (l : List Ver) (hV : Vers w A3 l) (hn : l.length = n3)
    (hc : n3 ≤ c3) (hl : l ≠ []) (hA : ∀ a, A3 = some a → ¬ F a.block ∧ a.block < w.heap.size) :
    Calls Try.prog 33 #[.pointer (some ⟨g, o, none⟩), .int .i64 k, .slice A3 n3 c3] w fun e w' => (∃ r fl, e = .returned (.tuple #[r, .bool fl])) ∧
      (∃ F', VTab w' g o F' (fun i => if i = k then l else f i) ∧ ∀ x, F' x → (F x ∨ (∃ a, A3 = some a ∧ x = a.block) ∨ w.heap.size ≤ x) ∧ x < w'.heap.size) ∧ Fr F w w' ∧ Keeps g o w w' := by
  obtain ⟨A, ck, B, cv, vs, ht, hF, hrows⟩ := h.ex
  have hr := ksOf_rise f
  have hp := plc_place hr k
  have hlen := ksOf_length f
  have hvl : vs.length = (ksOf f).length := by have := ht.vo.1; omega
  have hput := ksOf_put (f := f) hk hl
  have fin : ∀ (w' : World) (A' : Option Addr) (m ck' : Nat) (B' : Option Addr) (cv' : Nat), (putK (ksOf f) k).length = m → VTabAt w' 0 g o (.slice A' m ck') (.slice B' m cv') (putK (ksOf f) k) (putV (ksOf f) vs k (.slice A3 n3 c3)) →
      Fr (Foot g (.slice A (ksOf f).length ck) (.slice B (ksOf f).length cv)) w w' → (∀ x, Foot g (.slice A' m ck') (.slice B' m cv') x → Foot g (.slice A (ksOf f).length ck) (.slice B (ksOf f).length cv) x ∨ w.heap.size ≤ x) → Keeps g o w w' →
      (∃ F', VTab w' g o F' (fun i => if i = k then l else f i) ∧ ∀ x, F' x → (F x ∨ (∃ a, A3 = some a ∧ x = a.block) ∨ w.heap.size ≤ x) ∧ x < w'.heap.size) ∧ Fr F w w' ∧ Keeps g o w w' := by
    intro w' A' m ck' B' cv' hm ht' hfr hnew hkeep
    subst hm
    refine ⟨⟨fun x => F x ∨ (∃ a, A3 = some a ∧ x = a.block) ∨ Foot g (.slice A' (putK (ksOf f) k).length ck') (.slice B' (putK (ksOf f) k).length cv') x, ⟨A', ck', B', cv', _, by rw [← hput]; exact ht', ?_, ?_⟩, ?_⟩, hfr.mono fun x _ hx => hF x hx, hkeep⟩
    · rw [← hput]; exact fun x hx => .inr (.inr hx)
    · rw [← hput]
      intro i k' v hk' hv'
      rcases putV_at hr hvl hk' hv' with ⟨rfl, rfl⟩ | ⟨j, hj1, hj2, hne⟩
      · refine ⟨A3, c3, by simp [hn], ?_, by simpa [hn] using hc, fun _ a ha => ⟨.inr (.inl ⟨a, ha, rfl⟩), fun hx => ?_⟩⟩
        · simp only [if_true]
          exact CellsAt.fr hV hfr (fun _ a ha hx => (hA a ha).1 (hF _ hx))
        · rcases hnew _ hx with hx | hx
          · exact (hA a ha).1 (hF _ hx)
          · have := (hA a ha).2; omega
      · simp only [if_neg hne]
        obtain ⟨A1, c1, rfl, hV1, hc1, hoff⟩ := (hrows j k' v hj1 hj2).fr' hfr
        refine ⟨A1, c1, rfl, hV1, hc1, fun hne' a ha => ⟨.inl (hoff hne' a ha).1, fun hx => ?_⟩⟩
        rcases hnew _ hx with hx | hx
        · exact (hoff hne' a ha).2 hx
        · have := hlt _ (hoff hne' a ha).1; omega
    · rintro x (hx | hx | hx)
      · exact ⟨.inl hx, Nat.lt_of_lt_of_le (hlt x hx) hfr.size⟩
      · obtain ⟨a, ha, rfl⟩ := hx
        exact ⟨.inr (.inl ⟨a, ha, rfl⟩), Nat.lt_of_lt_of_le (hA a ha).2 hfr.size⟩
      · refine ⟨?_, ?_⟩
        · rcases hnew x hx with hx | hx
          · exact .inl (hF x hx)
          · exact .inr (.inr hx)
        · rcases hx with rfl | hx | hx
          · exact ht'.lt
          · exact (ht'.ko.lt x hx).2
          · exact (ht'.vo.lt x hx).2
  by_cases hm : k ∈ ksOf f
  · obtain ⟨hil, hat⟩ := plc_lt hr hm
    have hv : vs[plc (ksOf f) k]? = some (vs[plc (ksOf f) k]'(by omega)) := List.getElem?_eq_getElem (by omega)
    refine (VPut_old 0 g o _ _ ck cv A B (ksOf f) vs k A3 n3 c3 _ rfl (by omega) hp hil hat hv w ht).mono ?_
    rintro e w' ⟨rfl, ht', hfr, hkeep⟩
    have e1 : putK (ksOf f) k = ksOf f := by unfold putK; rw [if_pos hm]
    have e2 : putV (ksOf f) vs k (.slice A3 n3 c3) = vs.set (plc (ksOf f) k) (.slice A3 n3 c3) := by unfold putV; rw [if_pos hm]
    exact ⟨⟨_, _, rfl⟩, fin w' A _ ck B cv (by rw [e1]) (by rw [e1, e2]; exact ht') hfr (fun x hx => .inl hx) hkeep⟩
  · refine (VPut_new 0 g o _ _ ck cv A B (ksOf f) vs k A3 n3 c3 rfl (by omega) hp (by rw [found_iff hr hp, decide_eq_false hm]) w ht).mono ?_
    rintro e w' ⟨A', c', B', d', rfl, ht', hfr, hkeep, hnew⟩
    have e1 : putK (ksOf f) k = (ksOf f).take (plc (ksOf f) k) ++ ([k] ++ (ksOf f).drop (plc (ksOf f) k)) := by unfold putK; rw [if_neg hm]
    have e2 : putV (ksOf f) vs k (.slice A3 n3 c3) = vs.take (plc (ksOf f) k) ++ ([.slice A3 n3 c3] ++ vs.drop (plc (ksOf f) k)) := by unfold putV; rw [if_neg hm]
    exact ⟨⟨_, _, rfl⟩, fin w' A' _ c' B' d' (by rw [len_putK hr, if_neg hm]) (by rw [e1, e2]; exact ht') hfr hnew hkeep⟩
end Go.Proofs.Ytcbnibldlbnkbaa
