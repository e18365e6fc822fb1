/- store.Store.Put of a request that may be put. -/
import Derived.Deep.CutBlock
import Derived.Test.YtcbnibldlbnkbaaStB
namespace Go.Proofs.Ytcbnibldlbnkbaa
open Go.RowKit

theorem Do_at2 (L : List Ver) (R : Rep) (A : Option Addr) (n cap : Nat) (vs : List Ver) (hn : n ≤ 100000) (hl : n = vs.length) (c s k i m quota : Int) (d : ByteArray) (w : World) (hV : Vers w A vs) (hm : -9223372036854775808 ≤ m) (hm2 : m ≤ 9223372036854775807)
    (hL : doL vs k m quota d = L) (hR : doRep vs k m quota d = R) (nL nR : Nat) (h1 : L.length = nL) (h2 : R.vs.length = nR) :
    Calls Try.prog 32 #[.slice A n cap, .agg #[.int .i64 c, .int .i64 s, .int .i64 k, .int .i64 i, .int .i64 m, .string d], .int .i64 quota] w fun e w' =>
      ∃ A1 c1 A2 c2, e = .returned (.tuple #[.slice A1 nL c1, .agg #[.int .i64 R.code, .int .i64 R.ver, .string R.data, .slice A2 nR c2]]) ∧ (Vers w' A1 L ∧ (∀ a, A1 = some a → w.heap.size ≤ a.block) ∧ nL ≤ c1) ∧ Old w w' := by
  subst hL hR h1 h2
  refine (Do_any A n cap vs hn hl c s k i m quota d w hV hm hm2).mono ?_
  rintro e w' ⟨v, u, rfl, ⟨A1, c1, rfl, hv, hnew, hc⟩, ⟨A2, c2, rfl, hi, _⟩, hb⟩
  exact ⟨A1, c1, A2, c2, rfl, ⟨hv, hnew, hc⟩, hb⟩

theorem doL_len (vs : List Ver) (k m quota : Int) (d : ByteArray) : vs.length ≤ (doL vs k m quota d).length := by
  unfold doL
  split
  · unfold doR
    repeat' split
    all_goals simp
  · omega
set_option maxRecDepth 100000 in
set_option maxHeartbeats 4000000 in
theorem Put_done (g : Nat) (F : Nat → Prop) (st : StV) (q : Q) (hq : (q.may && Writes q.kind) = true) (hs : (st.ss q.client).seq < q.seq) (hfew : st.n ≤ 50000) (w : World) (h : StAt w g F st) :
    Calls Try.prog 13 #[.pointer (some ⟨g, 0, none⟩), q.v] w fun e w' => (∃ A c, e = .returned (.tuple #[.agg #[.int .i64 (st.doRep q).code, .int .i64 (st.doRep q).ver, .string (st.doRep q).data, .slice A 0 c], .int .i64 0])) ∧
      (∃ F', StAt w' g F' (st.done q) ∧ ∀ k, F' k → F k ∨ w.heap.size ≤ k) ∧ Fr F w w' := by
  obtain ⟨c, s, k, i, m, d⟩ := q
  obtain ⟨R, hR⟩ : ∃ R, st.doRep ⟨c, s, k, i, m, d⟩ = R := ⟨_, rfl⟩
  obtain ⟨L, hL⟩ : ∃ L, st.doL ⟨c, s, k, i, m, d⟩ = L := ⟨_, rfl⟩
  have hL' : doL (st.f i) k m st.quota d = L := hL
  have hR' : doRep (st.f i) k m st.quota d = R := hR
  have HR := hide hR
  have HL := hide hL
  rw [hR]
  clear hR hL
  simp only [Q.v, Q.may, Bool.and_eq_true] at hq hs ⊢
  obtain ⟨h1, h2⟩ := hq
  have hcc : 0 ≤ c ∧ c ≤ 3 ∧ 0 ≤ i ∧ i ≤ 31 ∧ -9223372036854775808 ≤ m ∧ m ≤ 9223372036854775807 := by
    simp only [mayQ, Bool.and_eq_true, decide_eq_true_eq] at h1
    omega
  obtain ⟨hc0, hc3, hi0, hi31, hm0, hm1⟩ := hcc
  obtain ⟨c, rfl⟩ : ∃ n : Nat, c = n := ⟨c.toNat, by omega⟩
  obtain ⟨x, hx⟩ : ∃ x, (st.ss c).seq = x := ⟨_, rfl⟩
  rw [hx] at hs
  obtain ⟨n, hn⟩ : ∃ n, (st.f i).length = n := ⟨_, rfl⟩
  have hnf := h.few i
  obtain ⟨A, cc, fl, hV, -, hg⟩ := h.get i n hn
  have cG := hide hg
  have hRv : R.vs = [] := by
    rw [← hR']
    unfold doRep
    have : k = 1 ∨ k = 2 ∨ k = 3 := by simpa [Writes, or_assoc] using h2
    rw [if_pos this]
  have hLlen : L.length ≤ n + 1 := by
    rw [← hL', ← hn]
    unfold doL
    split
    · unfold doR
      repeat' split
      all_goals simp
    · omega
  obtain ⟨nL, hnL⟩ : ∃ nL, L.length = nL := ⟨_, rfl⟩
  have cD := hide (fun (W : World) (hW : Old w W) => Do_at2 L R A n cc (st.f i) (by omega) hn.symm c s k i m st.quota d W (CellsAt.old hV hW) hm0 hm1 hL' hR' nL 0 hnL (by rw [hRv]; rfl))
  have hQ := hide (fun (W : World) (hW : Old w W) => (hx ▸ ((h.old hW).ses c (by omega)).1 : W.cell? ⟨g, 4 + c * 6, none⟩ = some (.int .i64 x)))
  have hQ0 := hide (fun (W : World) (hW : Old w W) => (h.old hW).q0)
  have cM := hide (fun (W : World) => iMay_at c s k i m d true h1 W)
  have cW := hide (fun (W : World) => iWrites_at c s k i m d true h2 W)
  have hX := hide (fun (W : World) (h : Old ((w.alloc (.cells #[.int .i64 c, .int .i64 s, .int .i64 k, .int .i64 i, .int .i64 m, .string d] 36)).alloc (.cells #[.int .i64 0, .int .i64 0, .string ByteArray.empty, .slice none 0 0] 32)) W) => boxed h)
  have hle : ¬ s ≤ x := by omega
  have hc4 : (c : Int) < 4 := by omega
  have hgl := h.lt g h.gF
  have HS := hide h
  have HV := hide hV
  have HN := hide hn
  have HNL := hide hnL
  have HRV := hide hRv
  obtain ⟨qt, hqt⟩ : ∃ qt, st.quota = qt := ⟨_, rfl⟩
  rw [hqt] at hQ0 cD
  have HQT := hide hqt
  have HDL := hide (show n ≤ L.length by rw [← hL', ← hn]; exact doL_len _ _ _ _ _)
  clear h1 h2 hs hx h hV hg hn hnL hRv hL' hR' hqt
  go_enter Try.func13, Try.ntmps13
  go_wp2_with (first
    | (go_at_call 29; refine (cM.out _).mono ?_; rintro e w1 ⟨rfl, hb1⟩; obtain ⟨⟨x0, x1, x2, x3, x4, x5⟩, ⟨y0, y1, y2, y3⟩, ⟨f0, f1, f2, f3⟩, l1, o1⟩ := hX.out _ hb1)
    | (go_at_call 30; refine (cW.out _).mono ?_; rintro e w2 ⟨rfl, hb2⟩; clear x0 x1 x2 x3 x4 x5 y0 y1 y2 y3 f0 f1 f2 f3 l1 o1; obtain ⟨⟨x0, x1, x2, x3, x4, x5⟩, ⟨y0, y1, y2, y3⟩, ⟨f0, f1, f2, f3⟩, l1, o1⟩ := hX.out _ (hb1.trans' hb2); have hbb := hb1.trans' hb2; clear hb1 hb2))
  refine region_steps (R := pick [eqv (.pointer (some ⟨w.heap.size, 1, none⟩)), eqv (.int .i64 s), eqv (.pointer (some ⟨g, 0, none⟩)), eqv (.pointer (some ⟨w.heap.size, 0, none⟩)), eqv (.int .i64 c), eqv (.pointer (some ⟨g, 0, none⟩)), eqv (.pointer (some ⟨g, 4, none⟩)), eqv (.pointer (some ⟨g, 4 + c * 6, none⟩)), eqv (.pointer (some ⟨g, 4 + c * 6, none⟩)), eqv (.int .i64 x), eqv (.bool false), eqv (.bool false)]) (S := fun _ w' => Old ((w.alloc (.cells #[.int .i64 c, .int .i64 s, .int .i64 k, .int .i64 i, .int .i64 m, .string d] 36)).alloc (.cells #[.int .i64 0, .int .i64 0, .string ByteArray.empty, .slice none 0 0] 32)) w') (T := Old) (by kernel_rfl) (by kernel_rfl) (by kernel_rfl) (Stab.pick (Stab.eqv (Stab.eqv (Stab.eqv (Stab.eqv (Stab.eqv (Stab.eqv (Stab.eqv (Stab.eqv (Stab.eqv (Stab.eqv (Stab.eqv (Stab.eqv (Stab.nil)))))))))))))) (hbb.drew') ?steps ?ends
  case steps =>
    refine StepsOk.cons (stepOk_pure [] [(3, .pointer (some ⟨w.heap.size, 0, none⟩))] rfl rfl (by kernel_rfl) (by kernel_rfl) rfl Old.refl' (fun _ _ _ h => h) (fun d E w' hk hda hS hc hf => by rintro  e3; exact ⟨_, by go_simp, rfl⟩)) ?_
    refine StepsOk.cons (stepOk_pure [(0, 24)] [] rfl rfl (by kernel_rfl) (by kernel_rfl) rfl Old.refl' (fun _ _ _ h => h) (fun d E w' hk hda hS hc hf => by rintro _ q0 rfl e24 ; obtain ⟨⟨s0, s1, s2, s3, s4, s5⟩, -, -, -, ho⟩ := hX.out _ hS; have t0 := hQ.out _ ho; exact ⟨_, by go_simp, rfl⟩)) ?_
    refine StepsOk.cons (stepOk_pure [] [(0, .pointer (some ⟨g, 0, none⟩))] rfl rfl (by kernel_rfl) (by kernel_rfl) rfl Old.refl' (fun _ _ _ h => h) (fun d E w' hk hda hS hc hf => by rintro  e0; exact ⟨_, by go_simp, rfl⟩)) ?_
    refine StepsOk.cons (stepOk_pure [] [(3, .pointer (some ⟨w.heap.size, 0, none⟩))] rfl rfl (by kernel_rfl) (by kernel_rfl) rfl Old.refl' (fun _ _ _ h => h) (fun d E w' hk hda hS hc hf => by rintro  e3; exact ⟨_, by go_simp, rfl⟩)) ?_
    refine StepsOk.cons (stepOk_pure [(3, 27)] [] rfl rfl (by kernel_rfl) (by kernel_rfl) rfl Old.refl' (fun _ _ _ h => h) (fun d E w' hk hda hS hc hf => by rintro _ q3 rfl e27 ; obtain ⟨⟨s0, s1, s2, s3, s4, s5⟩, -, -, -, ho⟩ := hX.out _ hS; have t0 := hQ.out _ ho; exact ⟨_, by go_simp, rfl⟩)) ?_
    refine StepsOk.cons (stepOk_pure [(2, 26)] [] rfl rfl (by kernel_rfl) (by kernel_rfl) rfl Old.refl' (fun _ _ _ h => h) (fun d E w' hk hda hS hc hf => by rintro _ q2 rfl e26 ; exact ⟨_, by go_simp, rfl⟩)) ?_
    refine StepsOk.cons (stepOk_pure [(5, 29)] [] rfl rfl (by kernel_rfl) (by kernel_rfl) rfl Old.refl' (fun _ _ _ h => h) (fun d E w' hk hda hS hc hf => by rintro _ q5 rfl e29 ; exact ⟨_, by go_simp, rfl⟩)) ?_
    refine StepsOk.cons (stepOk_pure [(6, 30), (4, 28)] [] rfl rfl (by kernel_rfl) (by kernel_rfl) rfl Old.refl' (fun _ _ _ h => h) (fun d E w' hk hda hS hc hf => by rintro _ q6 rfl e30 _ q4 rfl e28 ; obtain ⟨⟨s0, s1, s2, s3, s4, s5⟩, -, -, -, ho⟩ := hX.out _ hS; have t0 := hQ.out _ ho; exact ⟨_, by go_simp, rfl⟩)) ?_
    refine StepsOk.cons (stepOk_pure [(7, 31)] [] rfl rfl (by kernel_rfl) (by kernel_rfl) rfl Old.refl' (fun _ _ _ h => h) (fun d E w' hk hda hS hc hf => by rintro _ q7 rfl e31 ; exact ⟨_, by go_simp, rfl⟩)) ?_
    refine StepsOk.cons (stepOk_pure [(8, 32)] [] rfl rfl (by kernel_rfl) (by kernel_rfl) rfl Old.refl' (fun _ _ _ h => h) (fun d E w' hk hda hS hc hf => by rintro _ q8 rfl e32 ; obtain ⟨⟨s0, s1, s2, s3, s4, s5⟩, -, -, -, ho⟩ := hX.out _ hS; have t0 := hQ.out _ ho; exact ⟨_, by go_simp, rfl⟩)) ?_
    refine StepsOk.cons (stepOk_pure [(1, 25), (9, 33)] [] rfl rfl (by kernel_rfl) (by kernel_rfl) rfl Old.refl' (fun _ _ _ h => h) (fun d E w' hk hda hS hc hf => by rintro _ q1 rfl e25 _ q9 rfl e33 ; exact ⟨_, by go_simp, rfl⟩)) ?_
    refine StepsOk.cons (stepOk_pure [(10, 34)] [] rfl rfl (by kernel_rfl) (by kernel_rfl) rfl Old.refl' (fun _ _ _ h => h) (fun d E w' hk hda hS hc hf => by rintro _ q10 rfl e34 ; exact ⟨_, by go_simp, rfl⟩)) ?_
    exact StepsOk.nil
  case ends =>
    intro σ9 w9 hS9 hA9
    refine Ends.eqv (some 24) (.pointer (some ⟨w.heap.size, 1, none⟩)) rfl (fun _ h => h) ?_
    refine Ends.eqv (some 25) (.int .i64 s) rfl (fun _ h => h) ?_
    refine Ends.eqv (some 26) (.pointer (some ⟨g, 0, none⟩)) rfl (fun _ h => h) ?_
    refine Ends.eqv (some 27) (.pointer (some ⟨w.heap.size, 0, none⟩)) rfl (fun _ h => h) ?_
    refine Ends.eqv (some 28) (.int .i64 c) rfl (fun _ h => h) ?_
    refine Ends.eqv (some 29) (.pointer (some ⟨g, 0, none⟩)) rfl (fun _ h => h) ?_
    refine Ends.eqv (some 30) (.pointer (some ⟨g, 4, none⟩)) rfl (fun _ h => h) ?_
    refine Ends.eqv (some 31) (.pointer (some ⟨g, 4 + c * 6, none⟩)) rfl (fun _ h => h) ?_
    refine Ends.eqv (some 32) (.pointer (some ⟨g, 4 + c * 6, none⟩)) rfl (fun _ h => h) ?_
    refine Ends.eqv (some 33) (.int .i64 x) rfl (fun _ h => h) ?_
    refine Ends.eqv (some 34) (.bool false) rfl (fun _ h => h) ?_
    refine Ends.eqv (some 23) (.bool false) rfl (fun _ h => h) ?_
    refine Ends.nil ?_
    clear hA9
    simp only [put_lit, put_none, List.set_cons_zero, List.set_cons_succ]
    clear x0 x1 x2 x3 x4 x5 y0 y1 y2 y3 f0 f1 f2 f3 l1 o1 hbb
    obtain ⟨⟨x0, x1, x2, x3, x4, x5⟩, ⟨y0, y1, y2, y3⟩, ⟨f0, f1, f2, f3⟩, l1, o1⟩ := hX.out _ hS9
    have hbb := hS9
    clear hS9
    go_wp2_with fail
    refine region_steps (R := pick [eqv (.pointer (some ⟨g, 0, none⟩)), eqv (.pointer (some ⟨g, 0, none⟩)), eqv (.pointer (some ⟨g, 2, none⟩)), eqv (.pointer (some ⟨w.heap.size, 3, none⟩)), eqv (.int .i64 i), eqv (.tuple #[.slice A n cc, .bool fl]), eqv (.tuple #[.slice A n cc, .bool fl]), eqv (.slice A n cc), eqv (.bool fl), eqv (.slice A n cc), eqv (.bool fl)]) (S := fun _ w' => Old ((w.alloc (.cells #[.int .i64 c, .int .i64 s, .int .i64 k, .int .i64 i, .int .i64 m, .string d] 36)).alloc (.cells #[.int .i64 0, .int .i64 0, .string ByteArray.empty, .slice none 0 0] 32)) w') (T := Old) (by kernel_rfl) (by kernel_rfl) (by kernel_rfl) (Stab.pick (Stab.eqv (Stab.eqv (Stab.eqv (Stab.eqv (Stab.eqv (Stab.eqv (Stab.eqv (Stab.eqv (Stab.eqv (Stab.eqv (Stab.eqv (Stab.nil))))))))))))) (hbb.drew') ?steps ?ends
    case steps =>
      refine StepsOk.cons (stepOk_pure [] [(0, .pointer (some ⟨g, 0, none⟩))] rfl rfl (by kernel_rfl) (by kernel_rfl) rfl Old.refl' (fun _ _ _ h => h) (fun d E w' hk hda hS hc hf => by rintro  e0; exact ⟨_, by go_simp, rfl⟩)) ?_
      refine StepsOk.cons (stepOk_pure [(0, 37)] [] rfl rfl (by kernel_rfl) (by kernel_rfl) rfl Old.refl' (fun _ _ _ h => h) (fun d E w' hk hda hS hc hf => by rintro _ q0 rfl e37 ; exact ⟨_, by go_simp, rfl⟩)) ?_
      refine StepsOk.cons (stepOk_pure [(1, 38)] [] rfl rfl (by kernel_rfl) (by kernel_rfl) rfl Old.refl' (fun _ _ _ h => h) (fun d E w' hk hda hS hc hf => by rintro _ q1 rfl e38 ; exact ⟨_, by go_simp, rfl⟩)) ?_
      refine StepsOk.cons (stepOk_pure [] [(3, .pointer (some ⟨w.heap.size, 0, none⟩))] rfl rfl (by kernel_rfl) (by kernel_rfl) rfl Old.refl' (fun _ _ _ h => h) (fun d E w' hk hda hS hc hf => by rintro  e3; exact ⟨_, by go_simp, rfl⟩)) ?_
      refine StepsOk.cons (stepOk_pure [(3, 40)] [] rfl rfl (by kernel_rfl) (by kernel_rfl) rfl Old.refl' (fun _ _ _ h => h) (fun d E w' hk hda hS hc hf => by rintro _ q3 rfl e40 ; obtain ⟨⟨s0, s1, s2, s3, s4, s5⟩, -, -, -, ho⟩ := hX.out _ hS; exact ⟨_, by go_simp, rfl⟩)) ?_
      refine StepsOk.cons (stepOk_mk [(2, 39), (4, 41)] [] rfl rfl (by kernel_rfl) (by kernel_rfl) rfl ?_) ?_
      · rintro d a w' hk hda hS _ q2 rfl e39 _ q4 rfl e41 
        first | refine Given.nil (Known.nil ?_) | refine Known.nil ?_
        refine wp_call 31 _ Try.func31 (by kernel_rfl) (by kernel_rfl) _ _ (by rfl) [.pointer (some ⟨g, 2, none⟩), .int .i64 i] (by simp only [List.map_cons, List.map_nil, *]; try rfl) (cG.out _ (hX.out _ hS).2.2.2.2) ?_
        rintro e w1 ⟨rfl, rfl⟩
        exact ⟨_, rfl, _, rfl, rfl, Old.refl' _, hS⟩
      refine StepsOk.cons (stepOk_pure [(5, 42)] [] rfl rfl (by kernel_rfl) (by kernel_rfl) rfl Old.refl' (fun _ _ _ h => h) (fun d E w' hk hda hS hc hf => by rintro _ q5 rfl e42 ; exact ⟨_, by go_simp, rfl⟩)) ?_
      refine StepsOk.cons (stepOk_pure [(6, 36)] [] rfl rfl (by kernel_rfl) (by kernel_rfl) rfl Old.refl' (fun _ _ _ h => h) (fun d E w' hk hda hS hc hf => by rintro _ q6 rfl e36 ; exact ⟨_, by go_simp, rfl⟩)) ?_
      refine StepsOk.cons (stepOk_pure [(6, 36)] [] rfl rfl (by kernel_rfl) (by kernel_rfl) rfl Old.refl' (fun _ _ _ h => h) (fun d E w' hk hda hS hc hf => by rintro _ q6 rfl e36 ; exact ⟨_, by go_simp, rfl⟩)) ?_
      refine StepsOk.cons (stepOk_pure [(7, 43)] [] rfl rfl (by kernel_rfl) (by kernel_rfl) rfl Old.refl' (fun _ _ _ h => h) (fun d E w' hk hda hS hc hf => by rintro _ q7 rfl e43 ; exact ⟨_, by go_simp, rfl⟩)) ?_
      refine StepsOk.cons (stepOk_pure [(8, 44)] [] rfl rfl (by kernel_rfl) (by kernel_rfl) rfl Old.refl' (fun _ _ _ h => h) (fun d E w' hk hda hS hc hf => by rintro _ q8 rfl e44 ; exact ⟨_, by go_simp, rfl⟩)) ?_
      exact StepsOk.nil
    case ends =>
      intro σ9 w9 hS9 hA9
      refine Ends.eqv (some 37) (.pointer (some ⟨g, 0, none⟩)) rfl (fun _ h => h) ?_
      refine Ends.eqv (some 38) (.pointer (some ⟨g, 0, none⟩)) rfl (fun _ h => h) ?_
      refine Ends.eqv (some 39) (.pointer (some ⟨g, 2, none⟩)) rfl (fun _ h => h) ?_
      refine Ends.eqv (some 40) (.pointer (some ⟨w.heap.size, 3, none⟩)) rfl (fun _ h => h) ?_
      refine Ends.eqv (some 41) (.int .i64 i) rfl (fun _ h => h) ?_
      refine Ends.eqv (some 42) (.tuple #[.slice A n cc, .bool fl]) rfl (fun _ h => h) ?_
      refine Ends.eqv (some 36) (.tuple #[.slice A n cc, .bool fl]) rfl (fun _ h => h) ?_
      refine Ends.eqv (some 43) (.slice A n cc) rfl (fun _ h => h) ?_
      refine Ends.eqv (some 44) (.bool fl) rfl (fun _ h => h) ?_
      refine Ends.eqv (some 6) (.slice A n cc) rfl (fun _ h => h) ?_
      refine Ends.eqv (some 7) (.bool fl) rfl (fun _ h => h) ?_
      refine Ends.nil ?_
      clear hA9
      simp only [put_lit, put_none, List.set_cons_zero, List.set_cons_succ]
      clear x0 x1 x2 x3 x4 x5 y0 y1 y2 y3 f0 f1 f2 f3 l1 o1 hbb
      obtain ⟨⟨x0, x1, x2, x3, x4, x5⟩, ⟨y0, y1, y2, y3⟩, ⟨f0, f1, f2, f3⟩, l1, o1⟩ := hX.out _ hS9
      have hbb := hS9
      clear hS9
      clear x0 x1 x2 x3 x4 x5 y0 y1 y2 y3 f0 f1 f2 f3
      go_wp2_with fail
      go_cut [6, 8] from 45 to 54 (fun v6 v8 w' => AfterDo w ((w.alloc (.cells #[.int .i64 c, .int .i64 s, .int .i64 k, .int .i64 i, .int .i64 m, .string d] 36)).alloc (.cells #[.int .i64 0, .int .i64 0, .string ByteArray.empty, .slice none 0 0] 32)) w' nL L R v6 v8)
      case first =>
        refine wp_region_Z (S := fun w' => Old ((w.alloc (.cells #[.int .i64 c, .int .i64 s, .int .i64 k, .int .i64 i, .int .i64 m, .string d] 36)).alloc (.cells #[.int .i64 0, .int .i64 0, .string ByteArray.empty, .slice none 0 0] 32)) w') (Z := ([12] : List Nat).contains) (by kernel_rfl) ?_
        refine wpAnyZ_pureD 0 (some 46) (.slice A n cc) rfl rfl (by kernel_rfl) (by kernel_rfl) (by kernel_rfl) (fun _ _ _ h => h) (Or.inl ⟨by kernel_rfl, fun w _ => by generalize hE : Act.eval _ = E; have e0 : E (.tmp 6) = .slice A n cc := (by rw [← hE]; kernel_rfl); clear hE; go_simp⟩) ?_
        refine wpAnyZ_takeD 1 (some 47) (.agg #[.int .i64 c, .int .i64 s, .int .i64 k, .int .i64 i, .int .i64 m, .string d]) rfl rfl (by kernel_rfl) (by kernel_rfl) (by kernel_rfl) (by kernel_rfl) (fun _ _ _ h => h) (Or.inl ⟨by kernel_rfl, fun w' hS => by obtain ⟨⟨s0, s1, s2, s3, s4, s5⟩, -, -, -, ho⟩ := hX.out _ hS; generalize hE : Act.eval _ = E; have e0 : E (.tmp 3) = .pointer (some ⟨w.heap.size, 0, none⟩) := (by rw [← hE]; kernel_rfl); clear hE; go_simp⟩) (by exact hbb.drew') ?_
        refine wpAnyZ_pureD 2 (some 48) (.pointer (some ⟨g, 0, none⟩)) rfl rfl (by kernel_rfl) (by kernel_rfl) (by kernel_rfl) (fun _ _ _ h => h) (Or.inl ⟨by kernel_rfl, fun w _ => by generalize hE : Act.eval _ = E; have e0 : E (.tmp 0) = .pointer (some ⟨g, 0, none⟩) := (by rw [← hE]; kernel_rfl); clear hE; go_simp⟩) ?_
        refine wpAnyZ_pureD 3 (some 49) (.pointer (some ⟨g, 0, none⟩)) rfl rfl (by kernel_rfl) (by kernel_rfl) (by kernel_rfl) (fun _ _ _ h => h) (Or.inl ⟨by kernel_rfl, fun w _ => by generalize hE : Act.eval _ = E; have e0 : E (.tmp 48) = .pointer (some ⟨g, 0, none⟩) := (by rw [← hE]; kernel_rfl); clear hE; go_simp⟩) ?_
        refine wpAnyZ_pureD 4 (some 50) (.pointer (some ⟨g, 0, none⟩)) rfl rfl (by kernel_rfl) (by kernel_rfl) (by kernel_rfl) (fun _ _ _ h => h) (Or.inl ⟨by kernel_rfl, fun w _ => by generalize hE : Act.eval _ = E; have e0 : E (.tmp 49) = .pointer (some ⟨g, 0, none⟩) := (by rw [← hE]; kernel_rfl); clear hE; go_simp⟩) ?_
        refine wpAnyZ_takeD 5 (some 51) (.int .i64 qt) rfl rfl (by kernel_rfl) (by kernel_rfl) (by kernel_rfl) (by kernel_rfl) (fun _ _ _ h => h) (Or.inl ⟨by kernel_rfl, fun w' hS => by obtain ⟨⟨s0, s1, s2, s3, s4, s5⟩, -, -, -, ho⟩ := hX.out _ hS; have t0 := hQ0.out _ ho; generalize hE : Act.eval _ = E; have e0 : E (.tmp 50) = .pointer (some ⟨g, 0, none⟩) := (by rw [← hE]; kernel_rfl); clear hE; go_simp⟩) (by exact hbb.drew') ?_
        refine wpAnyZ_all (rs := [6, 10]) (by kernel_rfl) (by simp) ?_
        intro j hj
        simp only [List.mem_cons, List.not_mem_nil, or_false] at hj
        rcases hj with rfl | rfl
        · refine wpOp_callD (some 52) rfl rfl (by kernel_rfl) 32 _ Try.func32 (by kernel_rfl) (by kernel_rfl) [.tmp 46, .tmp 47, .tmp 51] #[29, 36, 3] rfl [.slice A n cc, .agg #[.int .i64 c, .int .i64 s, .int .i64 k, .int .i64 i, .int .i64 m, .string d], .int .i64 qt] (by kernel_rfl) (cD.out _ (o1.drew')) ?_
          rintro e w3 ⟨A1, c1, A2, c2, rfl, ⟨hv3, hn3, hc3⟩, hb3⟩
          refine ⟨_, rfl, .inr fun h => h.trans' hb3, ?_⟩
          refine wpAnyZ_pureD 7 (some 45) (.tuple #[.slice A1 nL c1, .agg #[.int .i64 R.code, .int .i64 R.ver, .string R.data, .slice A2 0 c2]]) rfl rfl (by kernel_rfl) (by kernel_rfl) (by kernel_rfl) (fun _ _ _ h => h) (Or.inl ⟨by kernel_rfl, fun w _ => by generalize hE : Act.eval _ = E; have e0 : E (.tmp 52) = .tuple #[.slice A1 nL c1, .agg #[.int .i64 R.code, .int .i64 R.ver, .string R.data, .slice A2 0 c2]] := (by rw [← hE]; kernel_rfl); clear hE; go_simp⟩) ?_
          refine wpAnyZ_pureD 8 (some 53) (.slice A1 nL c1) rfl rfl (by kernel_rfl) (by kernel_rfl) (by kernel_rfl) (fun _ _ _ h => h) (Or.inl ⟨by kernel_rfl, fun w _ => by generalize hE : Act.eval _ = E; have e0 : E (.tmp 45) = .tuple #[.slice A1 nL c1, .agg #[.int .i64 R.code, .int .i64 R.ver, .string R.data, .slice A2 0 c2]] := (by rw [← hE]; kernel_rfl); clear hE; go_simp⟩) ?_
          refine wpAnyZ_pureD 9 (some 54) (.agg #[.int .i64 R.code, .int .i64 R.ver, .string R.data, .slice A2 0 c2]) rfl rfl (by kernel_rfl) (by kernel_rfl) (by kernel_rfl) (fun _ _ _ h => h) (Or.inl ⟨by kernel_rfl, fun w _ => by generalize hE : Act.eval _ = E; have e0 : E (.tmp 45) = .tuple #[.slice A1 nL c1, .agg #[.int .i64 R.code, .int .i64 R.ver, .string R.data, .slice A2 0 c2]] := (by rw [← hE]; kernel_rfl); clear hE; go_simp⟩) ?_
          refine wpAnyZ_one 10 (by kernel_rfl) ?_
          refine wpOp_runD (w' := w3.alloc (.cells #[.int .i64 0, .int .i64 0, .string ByteArray.empty, .slice none 0 0] 32)) (some 8) (.pointer (some ⟨w3.heap.size, 0, none⟩)) rfl rfl rfl (by go_simp; try rfl) ⟨.inr fun h => h.alloc' _, ?_⟩
          refine wpAnyZ_pureD 11 (some 6) (.slice A1 nL c1) rfl rfl (by kernel_rfl) (by kernel_rfl) (by kernel_rfl) (fun _ _ _ h => h) (Or.inl ⟨by kernel_rfl, fun w _ => by generalize hE : Act.eval _ = E; have e0 : E (.tmp 53) = .slice A1 nL c1 := (by rw [← hE]; kernel_rfl); clear hE; go_simp⟩) ?_
          refine wpAnyZ_one 12 (by kernel_rfl) ?_
          simp only [put_lit, put_none, List.set_cons_zero, List.set_cons_succ]
          refine wpOp_mk rfl rfl ?_
          go_simp
          refine wpAnyZ_end (by kernel_rfl) ?_ _
          try simp only [put_lit, put_none, List.set_cons_zero, List.set_cons_succ]
          go_wp2_with fail
          go_meet
          case rel => exact ⟨A1, c1, w3.heap.size, A2, c2, rfl, rfl, (hbb.drew'.trans' hb3).alloc' _, CellsAt.alloc hv3 _, fun a ha => by have := hn3 a ha; have := hbb.size; simp at *; omega, hc3, Bk.new w3 32 _, by have := hb3.size; have := hbb.size; simp at *; omega, fun hL a ha => by have := vers_len hv3 hL a ha; omega⟩
        · refine wpOp_runD (w' := w9.drew.alloc (.cells #[.int .i64 0, .int .i64 0, .string ByteArray.empty, .slice none 0 0] 32)) (some 8) (.pointer (some ⟨w9.drew.heap.size, 0, none⟩)) rfl rfl rfl (by go_simp; try rfl) ⟨.inr fun h => h.alloc' _, ?_⟩
          refine wpAnyZ_one 6 (by kernel_rfl) ?_
          refine wpOp_callD (some 52) rfl rfl (by kernel_rfl) 32 _ Try.func32 (by kernel_rfl) (by kernel_rfl) [.tmp 46, .tmp 47, .tmp 51] #[29, 36, 3] rfl [.slice A n cc, .agg #[.int .i64 c, .int .i64 s, .int .i64 k, .int .i64 i, .int .i64 m, .string d], .int .i64 qt] (by kernel_rfl) (cD.out _ (o1.drew'.alloc' _)) ?_
          rintro e w3 ⟨A1, c1, A2, c2, rfl, ⟨hv3, hn3, hc3⟩, hb3⟩
          refine ⟨_, rfl, .inr fun h => h.trans' hb3, ?_⟩
          have hk8 : Bk w3 w9.heap.size 32 #[.int .i64 0, .int .i64 0, .string ByteArray.empty, .slice none 0 0] := (Bk.new w9.drew 32 #[.int .i64 0, .int .i64 0, .string ByteArray.empty, .slice none 0 0]).old hb3
          obtain ⟨⟨r0, r1, r2, r3⟩, ⟨v0, v1, v2, v3⟩, l8⟩ := bk4 hk8
          have hne : ∀ a, A1 = some a → a.block ≠ w9.heap.size := fun a ha => by have := hn3 a ha; simp at this; omega
          refine wpAnyZ_pureD 7 (some 45) (.tuple #[.slice A1 nL c1, .agg #[.int .i64 R.code, .int .i64 R.ver, .string R.data, .slice A2 0 c2]]) rfl rfl (by kernel_rfl) (by kernel_rfl) (by kernel_rfl) (fun _ _ _ h => h) (Or.inl ⟨by kernel_rfl, fun w _ => by generalize hE : Act.eval _ = E; have e0 : E (.tmp 52) = .tuple #[.slice A1 nL c1, .agg #[.int .i64 R.code, .int .i64 R.ver, .string R.data, .slice A2 0 c2]] := (by rw [← hE]; kernel_rfl); clear hE; go_simp⟩) ?_
          refine wpAnyZ_pureD 8 (some 53) (.slice A1 nL c1) rfl rfl (by kernel_rfl) (by kernel_rfl) (by kernel_rfl) (fun _ _ _ h => h) (Or.inl ⟨by kernel_rfl, fun w _ => by generalize hE : Act.eval _ = E; have e0 : E (.tmp 45) = .tuple #[.slice A1 nL c1, .agg #[.int .i64 R.code, .int .i64 R.ver, .string R.data, .slice A2 0 c2]] := (by rw [← hE]; kernel_rfl); clear hE; go_simp⟩) ?_
          refine wpAnyZ_pureD 9 (some 54) (.agg #[.int .i64 R.code, .int .i64 R.ver, .string R.data, .slice A2 0 c2]) rfl rfl (by kernel_rfl) (by kernel_rfl) (by kernel_rfl) (fun _ _ _ h => h) (Or.inl ⟨by kernel_rfl, fun w _ => by generalize hE : Act.eval _ = E; have e0 : E (.tmp 45) = .tuple #[.slice A1 nL c1, .agg #[.int .i64 R.code, .int .i64 R.ver, .string R.data, .slice A2 0 c2]] := (by rw [← hE]; kernel_rfl); clear hE; go_simp⟩) ?_
          refine wpAnyZ_pureD 11 (some 6) (.slice A1 nL c1) rfl rfl (by kernel_rfl) (by kernel_rfl) (by kernel_rfl) (fun _ _ _ h => h) (Or.inl ⟨by kernel_rfl, fun w _ => by generalize hE : Act.eval _ = E; have e0 : E (.tmp 53) = .slice A1 nL c1 := (by rw [← hE]; kernel_rfl); clear hE; go_simp⟩) ?_
          refine wpAnyZ_one 12 (by kernel_rfl) ?_
          simp only [put_lit, put_none, List.set_cons_zero, List.set_cons_succ]
          refine wpOp_mk rfl rfl ?_
          go_simp
          refine wpAnyZ_end (by kernel_rfl) ?_ _
          try simp only [put_lit, put_none, List.set_cons_zero, List.set_cons_succ]
          go_wp2_with fail
          go_meet
          case rel => exact ⟨A1, c1, w9.heap.size, A2, c2, rfl, rfl, Old.setCell' (Old.setCell' (Old.setCell' (Old.setCell' ((hbb.drew'.alloc' _).trans' hb3) (by have := hbb.size; simpa using this) _) (by have := hbb.size; simpa using this) _) (by have := hbb.size; simpa using this) _) (by have := hbb.size; simpa using this) _, (((CellsAt.set_ hv3 hne _).set_ hne _).set_ hne _).set_ hne _, fun a ha => by have := hn3 a ha; have := hbb.size; simp at *; omega, hc3, Bk.set4 hk8, by have := hbb.size; simp at *; omega, fun _ => hne⟩
      case rest =>
        clear hbb l1 o1 cG cD
        obtain ⟨V1, rfl⟩ : ∃ W, W = wc := ⟨_, rfl⟩
        obtain ⟨A1, c1, b8, A2, c2, rfl, rfl, hbb, hv1, hn1, hcap, hk8, hb8, hne8⟩ := hcut
        obtain ⟨⟨x0, x1, x2, x3, x4, x5⟩, ⟨y0, y1, y2, y3⟩, ⟨f0, f1, f2, f3⟩, l1, o1⟩ := hX.out _ hbb
        have bq : Bk V1 w.heap.size 36 #[.int .i64 c, .int .i64 s, .int .i64 k, .int .i64 i, .int .i64 m, .string d] := ((Bk.new w 36 _).alloc _).old hbb
        have br : Bk V1 (w.heap.size + 1) 32 #[.int .i64 0, .int .i64 0, .string ByteArray.empty, .slice none 0 0] := (bk_new1 w _ 32 _).old hbb
        obtain ⟨f', hf'⟩ : ∃ f', (fun k' => if k' = i then L else st.f k') = f' := ⟨_, rfl⟩
        obtain ⟨n0, hn0⟩ : ∃ n0, st.n = n0 := ⟨_, rfl⟩
        have HST := hide (hn0 ▸ HQT.out ▸ (HS.out.old o1).b : StB V1 g F qt n0 st.f st.ss)
        have HF' := hide hf'
        have HN0 := hide hn0
        clear hf' hn0
        go_upto_if 57 with fail
        go_cut [] from 58 to 64 (fun w' => AfterPut w w' g b8 F qt n0 f' st.ss #[.int .i64 c, .int .i64 s, .int .i64 k, .int .i64 i, .int .i64 m, .string d] #[.int .i64 R.code, .int .i64 R.ver, .string R.data, .slice A2 0 c2])
        case first =>
          have hFw : ∀ x, F x → x < w.heap.size := HS.out.lt
          by_cases hL0 : nL = 0
          · subst hL0
            have hLn : L = [] := List.eq_nil_of_length_eq_zero HNL.out
            have hfe : f' = st.f := by
              rw [← HF'.out, hLn]
              funext k'
              split
              · rename_i e
                subst e
                exact (List.eq_nil_of_length_eq_zero (by have h1 := HNL.out; have h2 := HN.out; have h3 := HDL.out; omega)).symm
              · rfl
            have HFE := hide hfe
            clear hfe hLn x0 x1 x2 x3 x4 x5 y0 y1 y2 y3 f0 f1 f2 f3
            go_wp2_with fail
            go_meet
            case rel => exact ⟨F, by rw [HFE.out]; exact HST.out, fun x hx => .inl hx, Fr.of_old o1, bq, br, hk8, fun hx => by have := hFw _ hx; omega, fun hx => by have := hFw _ hx; omega, fun hx => by have := hFw _ hx; omega⟩
          · have hLne : L ≠ [] := fun e => hL0 (by rw [← HNL.out, e]; rfl)
            have hnpos : (0 : Int) < nL := by omega
            obtain ⟨W8, rfl⟩ : ∃ W, W = V1 := ⟨_, rfl⟩
            have cP := hide (VPut (HST.out.drew).tab (HST.out.drew).lt i ⟨hi0, hi31⟩ A1 nL c1 L (CellsAt.drew hv1) HNL.out hcap hLne (fun a ha => ⟨fun hx => by have := hFw _ hx; have := hn1 a ha; omega, vers_len hv1 hLne a ha⟩))
            rw [HF'.out] at cP
            obtain ⟨P8, hP8⟩ : ∃ P : World → Prop, P = fun w' => (∃ F', VTab w' g 2 F' f' ∧ ∀ x, F' x → (F x ∨ (∃ a, A1 = some a ∧ x = a.block) ∨ W8.drew.heap.size ≤ x) ∧ x < w'.heap.size) ∧ Fr F W8.drew w' ∧ Keeps g 2 W8.drew w' := ⟨_, rfl⟩
            have HP8 := hide (fun w' => congrFun hP8 w')
            have cP := hide (cP.out.mono fun e w' (h : _ ∧ _) => (⟨h.1, (HP8.out w').mpr h.2⟩ : (∃ r fl, e = .returned (.tuple #[r, .bool fl])) ∧ P8 w'))
            clear hP8 hLne
            go_wp2_with fail
            refine region_steps (R := pick [eqv (.pointer (some ⟨g, 0, none⟩)), eqv (.pointer (some ⟨g, 0, none⟩)), eqv (.pointer (some ⟨g, 2, none⟩)), eqv (.pointer (some ⟨w.heap.size, 3, none⟩)), eqv (.int .i64 i), eqv (.slice A1 nL c1), fun v _ => ∃ r fl, v = .tuple #[r, .bool fl]]) (S := fun σ w' => (σ 6 = none → w' = W8.drew) ∧ (σ 6 ≠ none → P8 w')) (T := (fun _ _ => True)) (by kernel_rfl) (by kernel_rfl) (by kernel_rfl) (Stab.pick (Stab.eqv (Stab.eqv (Stab.eqv (Stab.eqv (Stab.eqv (Stab.eqv (Stab.cons (fun _ _ _ _ h => h) (Stab.nil))))))))) (⟨fun _ => rfl, fun h => absurd rfl h⟩) ?steps ?ends
            case steps =>
              refine StepsOk.cons (stepOk_pure [] [(0, .pointer (some ⟨g, 0, none⟩))] rfl rfl (by kernel_rfl) (by kernel_rfl) rfl (fun _ => trivial) (fun σ v w h => by simpa [upd] using h) (fun d E w' hk hda hS hc hf => by rintro  e0; exact ⟨_, by go_simp, rfl⟩)) ?_
              refine StepsOk.cons (stepOk_pure [(0, 58)] [] rfl rfl (by kernel_rfl) (by kernel_rfl) rfl (fun _ => trivial) (fun σ v w h => by simpa [upd] using h) (fun d E w' hk hda hS hc hf => by rintro _ q0 rfl e58 ; exact ⟨_, by go_simp, rfl⟩)) ?_
              refine StepsOk.cons (stepOk_pure [(1, 59)] [] rfl rfl (by kernel_rfl) (by kernel_rfl) rfl (fun _ => trivial) (fun σ v w h => by simpa [upd] using h) (fun d E w' hk hda hS hc hf => by rintro _ q1 rfl e59 ; exact ⟨_, by go_simp, rfl⟩)) ?_
              refine StepsOk.cons (stepOk_pure [] [(3, .pointer (some ⟨w.heap.size, 0, none⟩))] rfl rfl (by kernel_rfl) (by kernel_rfl) rfl (fun _ => trivial) (fun σ v w h => by simpa [upd] using h) (fun d E w' hk hda hS hc hf => by rintro  e3; exact ⟨_, by go_simp, rfl⟩)) ?_
              refine StepsOk.cons (stepOk_pure [(3, 61)] [] rfl rfl (by kernel_rfl) (by kernel_rfl) rfl (fun _ => trivial) (fun σ v w h => by simpa [upd] using h) (fun d E w' hk hda hS hc hf => by rintro _ q3 rfl e61 ; obtain rfl := hS.1 (hk 6 (by kernel_rfl)); exact ⟨_, by go_simp, rfl⟩)) ?_
              refine StepsOk.cons (stepOk_pure [] [(6, .slice A1 nL c1)] rfl rfl (by kernel_rfl) (by kernel_rfl) rfl (fun _ => trivial) (fun σ v w h => by simpa [upd] using h) (fun d E w' hk hda hS hc hf => by rintro  e6; exact ⟨_, by go_simp, rfl⟩)) ?_
              refine StepsOk.cons (stepOk_mk [(2, 60), (4, 62), (5, 63)] [] rfl rfl (by kernel_rfl) (by kernel_rfl) rfl ?_) ?_
              · rintro d a w' hk hda hS _ q2 rfl e60 _ q4 rfl e62 _ q5 rfl e63 
                first | refine Given.nil (Known.nil ?_) | refine Known.nil ?_
                obtain rfl := hS.1 (hk 6 (by kernel_rfl))
                refine wp_call 33 _ Try.func33 (by kernel_rfl) (by kernel_rfl) _ _ (by rfl) [.pointer (some ⟨g, 2, none⟩), .int .i64 i, .slice A1 nL c1] (by simp only [List.map_cons, List.map_nil, *]; try rfl) (cP.out) ?_
                rintro e w1 ⟨⟨r8, fl8, rfl⟩, hp8⟩
                exact ⟨_, rfl, _, rfl, ⟨r8, fl8, rfl⟩, trivial, ⟨fun h => by simp [upd] at h, fun _ => hp8⟩⟩
              exact StepsOk.nil
            case ends =>
              intro σ9 w9 hS9 hA9
              refine Ends.eqv (some 58) (.pointer (some ⟨g, 0, none⟩)) rfl (fun _ h => h) ?_
              refine Ends.eqv (some 59) (.pointer (some ⟨g, 0, none⟩)) rfl (fun _ h => h) ?_
              refine Ends.eqv (some 60) (.pointer (some ⟨g, 2, none⟩)) rfl (fun _ h => h) ?_
              refine Ends.eqv (some 61) (.pointer (some ⟨w.heap.size, 3, none⟩)) rfl (fun _ h => h) ?_
              refine Ends.eqv (some 62) (.int .i64 i) rfl (fun _ h => h) ?_
              refine Ends.eqv (some 63) (.slice A1 nL c1) rfl (fun _ h => h) ?_
              refine Ends.ex (some 64) rfl ?_
              rintro _ p6 ⟨r8, fl8, rfl⟩
              refine Ends.nil ?_
              have hA9' := hA9
              clear hA9
              simp only [put_lit, put_none, List.set_cons_zero, List.set_cons_succ]
              have hp8 := hS9.2 (by have := hA9' 6 (by simp); intro e; rw [e] at this; simp at this)
              clear hS9 hA9'
              go_wp2_with fail
              go_meet
              case rel =>
                obtain ⟨⟨F', hT, hlt'⟩, hfr, hkp⟩ := (HP8.out _).mp hp8
                have hfr0 : Fr F w w9 := (Fr.of_old (o1.drew')).trans hfr
                have hbl : ∀ x, w.heap.size ≤ x → ¬ F x := fun x hx h => by have := hFw x h; omega
                have hL' : L ≠ [] := fun e => hL0 (by rw [← HNL.out, e]; rfl)
                have hno : ∀ x, w.heap.size ≤ x → x < W8.heap.size → (∀ a, A1 = some a → a.block ≠ x) → ¬ F' x := fun x h1 h2 h3 hx => by
                  rcases (hlt' x hx).1 with h | ⟨a, ha, h⟩ | h
                  · exact hbl x h1 h
                  · exact h3 a ha h.symm
                  · exact absurd h (by show ¬ W8.heap.size ≤ x; omega)
                have hq8 := hk8.lt
                refine ⟨F', (HST.out.drew).keep hkp hT (fun x hx => (hlt' x hx).2) hT.gF, fun x hx => ?_, hfr0, bq.drew.fr hfr (hbl _ (Nat.le_refl _)), br.drew.fr hfr (hbl _ (by omega)), hk8.drew.fr hfr (hbl _ (by omega)), hno _ (Nat.le_refl _) (by omega) (fun a ha => by have := hn1 a ha; omega), hno _ (by omega) (by omega) (fun a ha => by have := hn1 a ha; omega), hno _ (by omega) hq8 (hne8 hL')⟩
                rcases (hlt' x hx).1 with h | ⟨a, ha, rfl⟩ | h
                · exact .inl h
                · exact .inr (by have := hn1 a ha; omega)
                · exact .inr (by have : W8.heap.size ≤ x := h; omega)
        case rest =>
          clear hbb x0 x1 x2 x3 x4 x5 y0 y1 y2 y3 f0 f1 f2 f3 l1 bq br hk8 HST hv1 hn1 hne8 hcap
          obtain ⟨F1, hB, hF1, hfr, bq, br, hk8, nq, nr, n8⟩ := hcut
          obtain ⟨⟨x0, x1, x2, x3, x4, x5⟩, lq⟩ := bk6 bq
          have c0 := hB.n0
          have z0 := hB.fz 1
          have lg := hB.lt g hB.gF
          have ne8 : g ≠ b8 := fun e => n8 (e ▸ hB.gF)
          have neq : g ≠ w.heap.size := fun e => nq (e ▸ hB.gF)
          have ner : g ≠ w.heap.size + 1 := fun e => nr (e ▸ hB.gF)
          have hn01 : (n0 : Int) ≤ 50000 := by have := HN0.out; omega
          go_wp2_with fail
          obtain ⟨W10, hW10⟩ : ∃ W, wc.setCell ⟨g, 1, none⟩ (.int .i64 ((n0 : Int) + 1)) = W := ⟨_, rfl⟩
          have h10 : StB W10 g F1 qt (n0 + 1) f' st.ss := hW10 ▸ hB.setN (n0 + 1) _ (by omega)
          have q10 : Bk W10 w.heap.size 36 #[.int .i64 c, .int .i64 s, .int .i64 k, .int .i64 i, .int .i64 m, .string d] := hW10 ▸ bq.far (p := ⟨g, 1, none⟩) (Ne.symm neq) _
          have r10 : Bk W10 (w.heap.size + 1) 32 #[.int .i64 0, .int .i64 0, .string ByteArray.empty, .slice none 0 0] := hW10 ▸ br.far (p := ⟨g, 1, none⟩) (Ne.symm ner) _
          have k10 : Bk W10 b8 32 #[.int .i64 R.code, .int .i64 R.ver, .string R.data, .slice A2 0 c2] := hW10 ▸ hk8.far (p := ⟨g, 1, none⟩) (Ne.symm ne8) _
          have f10 : Fr F w W10 := hW10 ▸ hfr.setCell (p := ⟨g, 1, none⟩) (.inr HS.out.gF) _
          rw [hW10]
          clear hW10 x0 x1 x2 x3 x4 x5 lq c0 z0 lg hB hfr bq br hk8
          obtain ⟨⟨x0, x1, x2, x3, x4, x5⟩, lq⟩ := bk6 q10
          obtain ⟨⟨r0, r1, r2, r3⟩, -, lr⟩ := bk4 k10
          have c1' : W10.cell? ⟨g, 1, none⟩ = some (.int .i64 ((n0 : Int) + 1)) := h10.n0
          obtain ⟨t0, t1, t2, t3, t4, -, A5, c5, t5⟩ := h10.ses c (by omega)
          have z0 := h10.fz (4 + c * 6)
          have z1 := h10.fz (4 + c * 6 + 1)
          have z2 := h10.fz (4 + c * 6 + 2)
          have z3 := h10.fz (4 + c * 6 + 3)
          have z4 := h10.fz (4 + c * 6 + 4)
          have z5 := h10.fz (4 + c * 6 + 5)
          have lg := h10.lt g h10.gF
          have hcast : ((n0 : Int) + 1) = ((n0 + 1 : Nat) : Int) := by omega
          have HCAST := hide hcast
          clear hcast
          have H10 := hide h10
          clear h10
          refine region_steps (R := pick [eqv (.pointer (some ⟨g, 0, none⟩)), eqv (.pointer (some ⟨w.heap.size, 0, none⟩)), eqv (.int .i64 c), eqv (.pointer (some ⟨w.heap.size, 1, none⟩)), eqv (.int .i64 s), eqv (.pointer (some ⟨g, 0, none⟩)), eqv (.pointer (some ⟨g, 0, none⟩)), eqv (.pointer (some ⟨g, 1, none⟩)), eqv (.int .i64 (n0 + 1)), eqv (.agg #[.int .i64 R.code, .int .i64 R.ver, .string R.data, .slice A2 0 c2]), eqv (.agg #[.int .i64 s, .int .i64 (n0 + 1), .int .i64 R.code, .int .i64 R.ver, .string R.data, .slice A2 0 c2]), eqv (.pointer (some ⟨g, 0, none⟩)), eqv (.pointer (some ⟨g, 4, none⟩)), eqv (.pointer (some ⟨g, 4 + c * 6, none⟩)), eqv (undef)]) (S := fun σ w' => (σ 14 = none → w' = W10.drew) ∧ (σ 14 ≠ none → w' = setSes W10.drew g (4 + c * 6) ⟨s, n0 + 1, R⟩ A2 c2)) (T := (fun _ _ => True)) (by kernel_rfl) (by kernel_rfl) (by kernel_rfl) (Stab.pick (Stab.eqv (Stab.eqv (Stab.eqv (Stab.eqv (Stab.eqv (Stab.eqv (Stab.eqv (Stab.eqv (Stab.eqv (Stab.eqv (Stab.eqv (Stab.eqv (Stab.eqv (Stab.eqv (Stab.eqv (Stab.nil))))))))))))))))) (⟨fun _ => rfl, fun h => absurd rfl h⟩) ?steps ?ends
          case steps =>
            refine StepsOk.cons (stepOk_pure [] [(0, .pointer (some ⟨g, 0, none⟩))] rfl rfl (by kernel_rfl) (by kernel_rfl) rfl (fun _ => trivial) (fun σ v w h => by simpa [upd] using h) (fun d E w' hk hda hS hc hf => by rintro  e0; exact ⟨_, by go_simp, rfl⟩)) ?_
            refine StepsOk.cons (stepOk_pure [] [(3, .pointer (some ⟨w.heap.size, 0, none⟩))] rfl rfl (by kernel_rfl) (by kernel_rfl) rfl (fun _ => trivial) (fun σ v w h => by simpa [upd] using h) (fun d E w' hk hda hS hc hf => by rintro  e3; exact ⟨_, by go_simp, rfl⟩)) ?_
            refine StepsOk.cons (stepOk_pure [(1, 73)] [] rfl rfl (by kernel_rfl) (by kernel_rfl) rfl (fun _ => trivial) (fun σ v w h => by simpa [upd] using h) (fun d E w' hk hda hS hc hf => by rintro _ q1 rfl e73 ; obtain rfl := hS.1 (hk 14 (by kernel_rfl)); exact ⟨_, by go_simp, rfl⟩)) ?_
            refine StepsOk.cons (stepOk_pure [] [(3, .pointer (some ⟨w.heap.size, 0, none⟩))] rfl rfl (by kernel_rfl) (by kernel_rfl) rfl (fun _ => trivial) (fun σ v w h => by simpa [upd] using h) (fun d E w' hk hda hS hc hf => by rintro  e3; exact ⟨_, by go_simp, rfl⟩)) ?_
            refine StepsOk.cons (stepOk_pure [(3, 75)] [] rfl rfl (by kernel_rfl) (by kernel_rfl) rfl (fun _ => trivial) (fun σ v w h => by simpa [upd] using h) (fun d E w' hk hda hS hc hf => by rintro _ q3 rfl e75 ; obtain rfl := hS.1 (hk 14 (by kernel_rfl)); exact ⟨_, by go_simp, rfl⟩)) ?_
            refine StepsOk.cons (stepOk_pure [] [(0, .pointer (some ⟨g, 0, none⟩))] rfl rfl (by kernel_rfl) (by kernel_rfl) rfl (fun _ => trivial) (fun σ v w h => by simpa [upd] using h) (fun d E w' hk hda hS hc hf => by rintro  e0; exact ⟨_, by go_simp, rfl⟩)) ?_
            refine StepsOk.cons (stepOk_pure [(5, 77)] [] rfl rfl (by kernel_rfl) (by kernel_rfl) rfl (fun _ => trivial) (fun σ v w h => by simpa [upd] using h) (fun d E w' hk hda hS hc hf => by rintro _ q5 rfl e77 ; exact ⟨_, by go_simp, rfl⟩)) ?_
            refine StepsOk.cons (stepOk_pure [(6, 78)] [] rfl rfl (by kernel_rfl) (by kernel_rfl) rfl (fun _ => trivial) (fun σ v w h => by simpa [upd] using h) (fun d E w' hk hda hS hc hf => by rintro _ q6 rfl e78 ; exact ⟨_, by go_simp, rfl⟩)) ?_
            refine StepsOk.cons (stepOk_pure [(7, 79)] [] rfl rfl (by kernel_rfl) (by kernel_rfl) rfl (fun _ => trivial) (fun σ v w h => by simpa [upd] using h) (fun d E w' hk hda hS hc hf => by rintro _ q7 rfl e79 ; obtain rfl := hS.1 (hk 14 (by kernel_rfl)); exact ⟨_, by go_simp, rfl⟩)) ?_
            refine StepsOk.cons (stepOk_pure [] [(8, .pointer (some ⟨b8, 0, none⟩))] rfl rfl (by kernel_rfl) (by kernel_rfl) rfl (fun _ => trivial) (fun σ v w h => by simpa [upd] using h) (fun d E w' hk hda hS hc hf => by rintro  e8; obtain rfl := hS.1 (hk 14 (by kernel_rfl)); exact ⟨_, by go_simp, rfl⟩)) ?_
            refine StepsOk.cons (stepOk_pure [(4, 76), (8, 80), (9, 81)] [] rfl rfl (by kernel_rfl) (by kernel_rfl) rfl (fun _ => trivial) (fun σ v w h => by simpa [upd] using h) (fun d E w' hk hda hS hc hf => by rintro _ q4 rfl e76 _ q8 rfl e80 _ q9 rfl e81 ; exact ⟨_, by go_simp, rfl⟩)) ?_
            refine StepsOk.cons (stepOk_pure [(0, 72)] [] rfl rfl (by kernel_rfl) (by kernel_rfl) rfl (fun _ => trivial) (fun σ v w h => by simpa [upd] using h) (fun d E w' hk hda hS hc hf => by rintro _ q0 rfl e72 ; exact ⟨_, by go_simp, rfl⟩)) ?_
            refine StepsOk.cons (stepOk_pure [(11, 83)] [] rfl rfl (by kernel_rfl) (by kernel_rfl) rfl (fun _ => trivial) (fun σ v w h => by simpa [upd] using h) (fun d E w' hk hda hS hc hf => by rintro _ q11 rfl e83 ; exact ⟨_, by go_simp, rfl⟩)) ?_
            refine StepsOk.cons (stepOk_pure [(12, 84), (2, 74)] [] rfl rfl (by kernel_rfl) (by kernel_rfl) rfl (fun _ => trivial) (fun σ v w h => by simpa [upd] using h) (fun d E w' hk hda hS hc hf => by rintro _ q12 rfl e84 _ q2 rfl e74 ; obtain rfl := hS.1 (hk 14 (by kernel_rfl)); exact ⟨_, by go_simp, rfl⟩)) ?_
            refine StepsOk.cons (stepOk_store [(13, 85), (10, 82)] [] rfl rfl (by kernel_rfl) (by kernel_rfl) rfl (fun d E w' hk hda hS hc hf => by rintro _ q13 rfl e85 _ q10 rfl e82 ; obtain rfl := hS.1 (hk 14 (by kernel_rfl)); exact ⟨(((((W10.drew.setCell ⟨g, 4 + c * 6, none⟩ (.int .i64 s)).setCell ⟨g, 4 + c * 6 + 1, none⟩ (.int .i64 (n0 + 1))).setCell ⟨g, 4 + c * 6 + 2, none⟩ (.int .i64 R.code)).setCell ⟨g, 4 + c * 6 + 3, none⟩ (.int .i64 R.ver)).setCell ⟨g, 4 + c * 6 + 4, none⟩ (.string R.data)).setCell ⟨g, 4 + c * 6 + 5, none⟩ (.slice A2 0 c2), by go_simp, rfl, trivial, ⟨fun h => by simp [upd] at h, fun _ => rfl⟩⟩)) ?_
            exact StepsOk.nil
          case ends =>
            intro σ9 w9 hS9 hA9
            refine Ends.eqv (some 72) (.pointer (some ⟨g, 0, none⟩)) rfl (fun _ h => h) ?_
            refine Ends.eqv (some 73) (.pointer (some ⟨w.heap.size, 0, none⟩)) rfl (fun _ h => h) ?_
            refine Ends.eqv (some 74) (.int .i64 c) rfl (fun _ h => h) ?_
            refine Ends.eqv (some 75) (.pointer (some ⟨w.heap.size, 1, none⟩)) rfl (fun _ h => h) ?_
            refine Ends.eqv (some 76) (.int .i64 s) rfl (fun _ h => h) ?_
            refine Ends.eqv (some 77) (.pointer (some ⟨g, 0, none⟩)) rfl (fun _ h => h) ?_
            refine Ends.eqv (some 78) (.pointer (some ⟨g, 0, none⟩)) rfl (fun _ h => h) ?_
            refine Ends.eqv (some 79) (.pointer (some ⟨g, 1, none⟩)) rfl (fun _ h => h) ?_
            refine Ends.eqv (some 80) (.int .i64 (n0 + 1)) rfl (fun _ h => h) ?_
            refine Ends.eqv (some 81) (.agg #[.int .i64 R.code, .int .i64 R.ver, .string R.data, .slice A2 0 c2]) rfl (fun _ h => h) ?_
            refine Ends.eqv (some 82) (.agg #[.int .i64 s, .int .i64 (n0 + 1), .int .i64 R.code, .int .i64 R.ver, .string R.data, .slice A2 0 c2]) rfl (fun _ h => h) ?_
            refine Ends.eqv (some 83) (.pointer (some ⟨g, 0, none⟩)) rfl (fun _ h => h) ?_
            refine Ends.eqv (some 84) (.pointer (some ⟨g, 4, none⟩)) rfl (fun _ h => h) ?_
            refine Ends.eqv (some 85) (.pointer (some ⟨g, 4 + c * 6, none⟩)) rfl (fun _ h => h) ?_
            refine Ends.eqv none (undef) rfl (fun _ h => h) ?_
            refine Ends.nil ?_
            have hA9' := hA9
            clear hA9
            simp only [put_lit, put_none, List.set_cons_zero, List.set_cons_succ]
            have hw9 := hS9.2 (by have := hA9' 14 (by simp); intro e; rw [e] at this; simp at this)
            clear hS9 hA9'
            have h11 := hide (hw9 ▸ (H10.out.drew).setS (c := c) (by omega) ⟨s, n0 + 1, R⟩ HRV.out A2 c2 : StB w9 g F1 qt (n0 + 1) f' _)
            have f11 : Fr (fun k => k = g) W10.drew w9 := hw9 ▸ setSes_fr
            have r11 := r10.drew.fr f11 (Ne.symm ner)
            have k11 := k10.drew.fr f11 (Ne.symm ne8)
            have f11' := hide ((f10.drew).trans (f11.mono fun x _ hx => by subst hx; exact HS.out.gF))
            clear hw9 x0 x1 x2 x3 x4 x5 r0 r1 r2 r3 t0 t1 t2 t3 t4 t5 z0 z1 z2 z3 z4 z5 c1' lg lr lq f11 r10 k10 f10
            obtain ⟨⟨x0, x1, x2, x3⟩, -, lx⟩ := bk4 k11
            go_wp2_with fail
            refine (copied_any R.code R.ver R.data [] 0 c2 A2 (by omega) rfl _ (CellsAt.nil _ _)).mono ?_
            rintro e w12 ⟨A4, c4, rfl, -, -, hb12⟩
            obtain ⟨⟨y0, y1, y2, y3⟩, ⟨v0, v1, v2, v3⟩, ly⟩ := bk4 (r11.old hb12)
            go_wp2_with fail
            have hfin : Fr (fun k => k = w.heap.size + 1) w12 ((((w12.setCell ⟨w.heap.size + 1, 0, none⟩ (.int .i64 R.code)).setCell ⟨w.heap.size + 1, 1, none⟩ (.int .i64 R.ver)).setCell ⟨w.heap.size + 1, 2, none⟩ (.string R.data)).setCell ⟨w.heap.size + 1, 3, none⟩ (.slice A4 0 c4)) := by
              have stp : ∀ {W : World} (j : Nat) (u : Value), Fr (fun k => k = w.heap.size + 1) w12 W → Fr (fun k => k = w.heap.size + 1) w12 (W.setCell ⟨w.heap.size + 1, j, none⟩ u) := fun j u h => Fr.setCell (p := ⟨w.heap.size + 1, j, none⟩) h (.inr rfl) u
              exact stp _ _ (stp _ _ (stp _ _ (stp _ _ (Fr.refl _ w12))))
            refine bodyPost_ret (v := .tuple #[.agg #[.int .i64 R.code, .int .i64 R.ver, .string R.data, .slice A4 0 c4], .int .i64 0]) ?_ rfl ⟨⟨A4, c4, rfl⟩, ⟨F1, ?_, hF1⟩, ?_⟩
            · simp [results, Try.results13, go_sem, *]
            · have hb := (h11.out.old hb12).fr hfin (fun x hx e => nr (e ▸ hx))
              have e1 : st.done ⟨c, s, k, i, m, d⟩ = ⟨qt, n0 + 1, f', fun k => if k = (c : Int) then ⟨s, n0 + 1, R⟩ else st.ss k⟩ := by
                unfold StV.done
                rw [HL.out, HR.out, HQT.out, HN0.out]
                simp only [HF'.out]
              rw [e1]
              refine hb.a (s := ⟨qt, n0 + 1, f', fun k => if k = (c : Int) then ⟨s, n0 + 1, R⟩ else st.ss k⟩) (fun x => ?_) (fun x hx => ?_)
              · show (f' x).length ≤ n0 + 1
                rw [← HF'.out]
                simp only
                have h1 := HN0.out
                have h2 := HN.out
                have h3 := HS.out.few x
                split
                · omega
                · omega
              · show f' x = []
                rw [← HF'.out]
                simp only
                rw [if_neg (by omega)]
                exact HS.out.off x hx
            · exact ((f11'.out.trans (Fr.of_old hb12)).trans' hfin (fun x hx e => by omega))
end Go.Proofs.Ytcbnibldlbnkbaa
