/- casebooklaw18.LinePlays: the walk. -/
import Derived.Test.YtmhnlpilbbfgnaaHFewL
import Derived.Test.YtmhnlpilbbfgnaaHLi
namespace Go.Proofs.Ytmhnlpilbbfgnaa
open Go.RowKit

set_option maxRecDepth 100000 in
set_option maxHeartbeats 4000000 in
theorem LPlays_walk (qt : Int) (A0 : Option Addr) (n k0 : Nat) (os : List LOpV) (hl : n = os.length) (hn : n ≤ 9223372036854775807) (hok : ∀ o ∈ os, o.ok) (w : World) (hQ : LOpsAt w A0 os) :
    Calls Try.prog 8 #[.int .i64 qt, .slice A0 n k0] w fun e w' => e = .returned (.bool true) ∧ Old w w' := by
  obtain ⟨f1, hf1⟩ : ∃ f, few18 os = f := ⟨_, rfl⟩
  have cF1 := hide (fun (W : World) (h : Old w W) => few18_any A0 n k0 os f1 hf1 hl hn W (CellsAt.old hQ h))
  have HL := hide hl
  have hOK := hide hok
  have hn60 := hide (fun (h : f1 = true) => (by rw [hl]; rw [h] at hf1; unfold few18 at hf1; simp at hf1; omega : n ≤ 60))
  clear hl hf1 hok
  by_cases hqt : 1 ≤ qt ∧ qt ≤ 100
  · have HQT := hide hqt
    have q1 : ¬ qt < 1 := by omega
    have q2 : ¬ 100 < qt := by omega
    have cNw := hide (New_ln qt hqt w)
    clear hqt
    cases f1 with
    | true =>
      have hn2 := hn60.out rfl
      have hn2' : (n : Int) ≤ 60 := by omega
      go_enter Try.func8, Try.ntmps8
      go_wp2_with fail
      refine cNw.out.mono ?_
      rintro e w1 ⟨g, F, rfl, a1, a2, a3⟩
      have hp : LX w _ g w1.heap.size (runO qt (os.take 0)) (runO qt (os.take 0)) [] := LX.new a1 a2 a3
      go_wp2_with (go_at_call 32; (with_reducible refine (cF1.out _ a3).mono ?_); rintro e w3 ⟨rfl, rfl⟩)
      obtain ⟨x, hx⟩ : ∃ x, w1.heap.size = x := ⟨_, rfl⟩
      simp only [hx] at hp ⊢
      clear hx a1 a2 a3
      go_loopw [8] (fun iv wr => ∃ k : Nat, k ≤ n ∧ iv = .int .i64 k ∧ LX w wr g x (runO qt (os.take k)) (runO qt (os.take k)) []) (fun iv _ => n - (intOf iv).toNat)
      case atStart => exact ⟨0, Nat.zero_le _, rfl, hp⟩
      case round =>
        clear hp
        obtain ⟨k, hk, rfl, pr⟩ := hrel
        by_cases hlt : k < n
        · have hkq : k < os.length := by have := HL.out; omega
          obtain ⟨b, o_, rfl, hb, hc⟩ := lops_at hQ (k := k) hkq
          obtain ⟨o, ho⟩ : ∃ o, os[k]?.getD default = o := ⟨_, rfl⟩
          rw [ho] at hc
          have hoo : os[k] = o := by rw [List.getElem?_eq_getElem hkq] at ho; simpa using ho
          have htk : runO qt (os.take (k + 1)) = (runO qt (os.take k)).step o.kind o.n o.m o.q := by rw [List.take_succ_eq_append_getElem hkq, hoo, runO_snoc]
          have hok : o.n ≤ 9223372036854775807 := (hOK.out o (hoo ▸ List.getElem_mem hkq)).2.1.2
          obtain ⟨hqt, hlen⟩ := runO_ok qt (os.take k)
          rw [List.length_take] at hlen
          obtain ⟨l0, hl0⟩ : ∃ s, runO qt (os.take k) = s := ⟨_, rfl⟩
          rw [hl0] at pr hqt hlen htk
          obtain ⟨l1, hl1⟩ : ∃ s, l0.step o.kind o.n o.m o.q = s := ⟨_, rfl⟩
          rw [hl1] at htk
          have HTK := hide htk
          have cD := hide (fun (W : World) (h : LX w W g x l0 l0 []) => by have := DoL_any o.kind o.n o.m o.q g x l0 w W h (by rw [hqt]; exact HQT.out) (by omega) hok; rw [hl1] at this; exact this)
          obtain ⟨N1, hN1⟩ : ∃ N, l1.qs.length = N := ⟨_, rfl⟩
          obtain ⟨K1, hK1⟩ : ∃ N, l1.k = N := ⟨_, rfl⟩
          have cN := hide (fun (W : World) (h : LX w W g x l1 l1 []) => h.ln.elim fun F hF => Len_ln g F l1 N1 hN1 W hF)
          have cK := hide (fun (W : World) (h : LX w W g x l1 l1 []) => h.ln.elim fun F hF => Com_ln g F l1 K1 hK1 W hF)
          have cX9 := hide (fun (W : World) (h : LX w W g x l1 l1 []) => (by obtain ⟨A, ca, t1, t2, -⟩ := h.cells hN1 hK1; exact ⟨⟨A, ca, t1⟩, t2⟩ : (∃ A ca, W.cell? ⟨x, 1, none⟩ = some (.slice A N1 ca)) ∧ W.cell? ⟨x, 2, none⟩ = some (.int .i64 K1)))
          have hO9 := hide (fun (W : World) (hW : Old w W) => (⟨(hW.cell (p := ⟨b, o_ + k * 9, none⟩) hb).trans (hc 0 _ (by omega) rfl), (hW.cell (p := ⟨b, o_ + k * 9 + 1, none⟩) hb).trans (hc 1 _ (by omega) rfl), (hW.cell (p := ⟨b, o_ + k * 9 + 2, none⟩) hb).trans (hc 2 _ (by omega) rfl), (hW.cell (p := ⟨b, o_ + k * 9 + 3, none⟩) hb).trans (hc 3 _ (by omega) rfl), (hW.cell (p := ⟨b, o_ + k * 9 + 4, none⟩) hb).trans (hc 4 _ (by omega) rfl), (hW.cell (p := ⟨b, o_ + k * 9 + 5, none⟩) hb).trans (hc 5 _ (by omega) rfl), (hW.cell (p := ⟨b, o_ + k * 9 + 6, none⟩) hb).trans (hc 6 _ (by omega) rfl), (hW.cell (p := ⟨b, o_ + k * 9 + 7, none⟩) hb).trans (hc 7 _ (by omega) rfl), (hW.cell (p := ⟨b, o_ + k * 9 + 8, none⟩) hb).trans (hc 8 _ (by omega) rfl)⟩ :
            W.cell? ⟨b, o_ + k * 9, none⟩ = some (.int .i64 o.kind) ∧ W.cell? ⟨b, o_ + k * 9 + 1, none⟩ = some (.int .i64 o.n) ∧ W.cell? ⟨b, o_ + k * 9 + 2, none⟩ = some (.int .i64 o.m) ∧ W.cell? ⟨b, o_ + k * 9 + 3, none⟩ = some (.int .i64 o.q.client) ∧ W.cell? ⟨b, o_ + k * 9 + 4, none⟩ = some (.int .i64 o.q.seq) ∧ W.cell? ⟨b, o_ + k * 9 + 5, none⟩ = some (.int .i64 o.q.kind) ∧ W.cell? ⟨b, o_ + k * 9 + 6, none⟩ = some (.int .i64 o.q.id) ∧ W.cell? ⟨b, o_ + k * 9 + 7, none⟩ = some (.int .i64 o.q.mat) ∧ W.cell? ⟨b, o_ + k * 9 + 8, none⟩ = some (.string o.q.data)))
          clear hc ho hoo htk hok hqt hlen hl0 hl1 hN1 hK1
          obtain ⟨cp, hcp⟩ : ∃ c, k0 = c := ⟨_, rfl⟩
          have hltI : (k : Int) < n := by omega
          simp only [hcp]
          clear hcp
          go_wp2_with fail
          refine region_steps (R := pick [eqv (.pointer (some ⟨g, 0, none⟩)), eqv (.pointer (some ⟨x, 0, none⟩)), eqv (.slice (some ⟨b, o_, none⟩) n cp), eqv (.int .i64 k), eqv (.pointer (some ⟨b, o_ + k * 9, none⟩)), eqv (.agg #[.int .i64 o.kind, .int .i64 o.n, .int .i64 o.m, .int .i64 o.q.client, .int .i64 o.q.seq, .int .i64 o.q.kind, .int .i64 o.q.id, .int .i64 o.q.mat, .string o.q.data]), fun v w' => v = .bool true ∧ LX w w' g x l1 l1 [], fun v w' => v = .bool false ∧ LX w w' g x l1 l1 [], fun v w' => v = .bool false ∧ LX w w' g x l1 l1 [], eqv (.pointer (some ⟨g, 0, none⟩)), eqv (.int .i64 N1), eqv (.pointer (some ⟨x, 0, none⟩)), eqv (.pointer (some ⟨x, 0, none⟩)), eqv (.pointer (some ⟨x, 1, none⟩)), fun v _ => ∃ A c, v = .slice A N1 c, eqv (.int .i64 N1), eqv (.bool false), fun v w' => v = .bool false ∧ LX w w' g x l1 l1 [], fun v w' => v = .bool false ∧ LX w w' g x l1 l1 [], eqv (.pointer (some ⟨g, 0, none⟩)), eqv (.int .i64 K1), eqv (.pointer (some ⟨x, 0, none⟩)), eqv (.pointer (some ⟨x, 0, none⟩)), eqv (.pointer (some ⟨x, 2, none⟩)), eqv (.int .i64 K1), eqv (.bool false), eqv (.bool false)]) (S := fun σ w' => σ 6 = none → LX w w' g x l0 l0 []) (T := (fun a b => LX w a g x l1 l1 [] → LX w b g x l1 l1 [])) (by kernel_rfl) (by kernel_rfl) (by kernel_rfl) (Stab.pick (Stab.eqv (Stab.eqv (Stab.eqv (Stab.eqv (Stab.eqv (Stab.eqv (Stab.cons (fun v a b hT h => ⟨h.1, hT h.2⟩) (Stab.cons (fun v a b hT h => ⟨h.1, hT h.2⟩) (Stab.cons (fun v a b hT h => ⟨h.1, hT h.2⟩) (Stab.eqv (Stab.eqv (Stab.eqv (Stab.eqv (Stab.eqv (Stab.cons (fun _ _ _ _ h => h) (Stab.eqv (Stab.eqv (Stab.cons (fun v a b hT h => ⟨h.1, hT h.2⟩) (Stab.cons (fun v a b hT h => ⟨h.1, hT h.2⟩) (Stab.eqv (Stab.eqv (Stab.eqv (Stab.eqv (Stab.eqv (Stab.eqv (Stab.eqv (Stab.eqv (Stab.nil))))))))))))))))))))))))))))) (fun _ => pr.old ((Old.refl' _).drew')) ?steps ?ends
          case steps =>
            refine StepsOk.cons (stepOk_pure [] [(5, .pointer (some ⟨g, 0, none⟩))] rfl rfl (by kernel_rfl) (by kernel_rfl) rfl (fun _ h => h) (fun _ _ _ h e => h (by simpa [upd] using e)) (fun d E w' hk hda hS hc hf => by rintro  e5; exact ⟨_, by go_simp, rfl⟩)) ?_
            refine StepsOk.cons (stepOk_pure [] [(7, .pointer (some ⟨x, 0, none⟩))] rfl rfl (by kernel_rfl) (by kernel_rfl) rfl (fun _ h => h) (fun _ _ _ h e => h (by simpa [upd] using e)) (fun d E w' hk hda hS hc hf => by rintro  e7; exact ⟨_, by go_simp, rfl⟩)) ?_
            refine StepsOk.cons (stepOk_pure [] [(1, .slice (some ⟨b, o_, none⟩) n cp)] rfl rfl (by kernel_rfl) (by kernel_rfl) rfl (fun _ h => h) (fun _ _ _ h e => h (by simpa [upd] using e)) (fun d E w' hk hda hS hc hf => by rintro  e1; exact ⟨_, by go_simp, rfl⟩)) ?_
            refine StepsOk.cons (stepOk_pure [] [(8, .int .i64 k)] rfl rfl (by kernel_rfl) (by kernel_rfl) rfl (fun _ h => h) (fun _ _ _ h e => h (by simpa [upd] using e)) (fun d E w' hk hda hS hc hf => by rintro  e8; exact ⟨_, by go_simp, rfl⟩)) ?_
            refine StepsOk.cons (stepOk_pure [(2, 50), (3, 51)] [] rfl rfl (by kernel_rfl) (by kernel_rfl) rfl (fun _ h => h) (fun _ _ _ h e => h (by simpa [upd] using e)) (fun d E w' hk hda hS hc hf => by rintro _ q2 rfl e50 _ q3 rfl e51 ; exact ⟨_, by go_simp, rfl⟩)) ?_
            refine StepsOk.cons (stepOk_pure [(4, 52)] [] rfl rfl (by kernel_rfl) (by kernel_rfl) rfl (fun _ h => h) (fun _ _ _ h e => h (by simpa [upd] using e)) (fun d E w' hk hda hS hc hf => by rintro _ q4 rfl e52 ; obtain ⟨x0, x1, x2, x3, x4, x5, x6, x7, x8⟩ := hO9.out _ (hS (hk 6 (by kernel_rfl))).o; exact ⟨_, by go_simp, rfl⟩)) ?_
            refine StepsOk.cons (stepOk_mk [(0, 48), (1, 49), (5, 53)] [] rfl rfl (by kernel_rfl) (by kernel_rfl) rfl ?_) ?_
            · rintro d a w' hk hda hS _ q0 rfl e48 _ q1 rfl e49 _ q5 rfl e53 
              first | refine Given.nil (Known.nil ?_) | refine Known.nil ?_
              have p := hS (hk 6 (by kernel_rfl))
              refine wp_call 33 _ Try.func33 (by kernel_rfl) (by kernel_rfl) _ _ (by rfl) [.pointer (some ⟨g, 0, none⟩), .pointer (some ⟨x, 0, none⟩), .agg #[.int .i64 o.kind, .int .i64 o.n, .int .i64 o.m, .int .i64 o.q.client, .int .i64 o.q.seq, .int .i64 o.q.kind, .int .i64 o.q.id, .int .i64 o.q.mat, .string o.q.data]] (by simp only [List.map_cons, List.map_nil, *]; try rfl) (cD.out _ p) ?_
              rintro e w1 ⟨rfl, p1⟩
              exact ⟨_, rfl, _, rfl, ⟨rfl, p1⟩, fun _ => p1, fun e => absurd e (by simp [upd])⟩
            refine StepsOk.cons (stepOk_mk [(6, 54)] [] rfl rfl (by kernel_rfl) (by kernel_rfl) rfl ?_) ?_
            · rintro d a w' hk hda hS _ q6 ⟨rfl, z6⟩ e54 
              first | refine Given.nil (Known.nil ?_) | refine Known.nil ?_
              refine wp_runv (w' := w') (.bool false) (by revert e54; generalize a.eval = E; intro e54; go_simp) ⟨_, rfl, ⟨rfl, z6⟩, fun h => h, fun e => hS (by simpa [upd] using e)⟩
            refine StepsOk.cons (stepOk_mk [(7, 55)] [] rfl rfl (by kernel_rfl) (by kernel_rfl) rfl ?_) ?_
            · rintro d a w' hk hda hS _ q7 ⟨rfl, z7⟩ e55 
              first | refine Given.nil (Known.nil ?_) | refine Known.nil ?_
              refine wp_runv (w' := w') (.bool false) (by revert e55; generalize a.eval = E; intro e55; go_simp) ⟨_, rfl, ⟨rfl, z7⟩, fun h => h, fun e => hS (by simpa [upd] using e)⟩
            refine StepsOk.cons (stepOk_pureG 8 56 false rfl rfl (by kernel_rfl) (fun _ _ h => h.1) [] [(5, .pointer (some ⟨g, 0, none⟩))] (by kernel_rfl) (by kernel_rfl) rfl (fun _ h => h) (fun _ _ _ h e => h (by simpa [upd] using e)) (fun d E w' hk hda hS hc hf => by rintro  e5; exact ⟨_, by go_simp, rfl⟩)) ?_
            refine StepsOk.cons (stepOk_guard 8 56 false rfl rfl (by kernel_rfl) (fun _ _ h => h.1) [(9, 57), (8, 56)] [] (by kernel_rfl) (by kernel_rfl) rfl ?_) ?_
            · rintro d a w' hk hda hS _ q9 rfl e57 _ q8 ⟨rfl, z8⟩ e56 
              first | refine Given.nil (Known.nil ?_) | refine Known.nil ?_
              refine wp_call 18 _ Try.func18 (by kernel_rfl) (by kernel_rfl) _ _ (by rfl) [.pointer (some ⟨g, 0, none⟩)] (by simp only [List.map_cons, List.map_nil, *]; try rfl) (cN.out _ z8) ?_
              rintro e w1 ⟨rfl, rfl⟩
              exact ⟨_, rfl, _, rfl, rfl, fun h => h, fun e => hS (by simpa [upd] using e)⟩
            refine StepsOk.cons (stepOk_pureG 8 56 false rfl rfl (by kernel_rfl) (fun _ _ h => h.1) [] [(7, .pointer (some ⟨x, 0, none⟩))] (by kernel_rfl) (by kernel_rfl) rfl (fun _ h => h) (fun _ _ _ h e => h (by simpa [upd] using e)) (fun d E w' hk hda hS hc hf => by rintro  e7; exact ⟨_, by go_simp, rfl⟩)) ?_
            refine StepsOk.cons (stepOk_pureG 8 56 false rfl rfl (by kernel_rfl) (fun _ _ h => h.1) [(11, 59)] [] (by kernel_rfl) (by kernel_rfl) rfl (fun _ h => h) (fun _ _ _ h e => h (by simpa [upd] using e)) (fun d E w' hk hda hS hc hf => by rintro _ q11 rfl e59 ; exact ⟨_, by go_simp, rfl⟩)) ?_
            refine StepsOk.cons (stepOk_pureG 8 56 false rfl rfl (by kernel_rfl) (fun _ _ h => h.1) [(12, 60)] [] (by kernel_rfl) (by kernel_rfl) rfl (fun _ h => h) (fun _ _ _ h e => h (by simpa [upd] using e)) (fun d E w' hk hda hS hc hf => by rintro _ q12 rfl e60 ; exact ⟨_, by go_simp, rfl⟩)) ?_
            refine StepsOk.cons (stepOk_guard 8 56 false rfl rfl (by kernel_rfl) (fun _ _ h => h.1) [(13, 61), (8, 56)] [] (by kernel_rfl) (by kernel_rfl) rfl ?_) ?_
            · rintro d a w' hk hda hS _ q13 rfl e61 _ q8 ⟨rfl, z8⟩ e56 
              first | refine Given.nil (Known.nil ?_) | refine Known.nil ?_
              obtain ⟨AX, cX, t1⟩ := (cX9.out _ z8).1
              refine wp_runv (w' := w') (.slice AX N1 cX) (by revert e61; generalize a.eval = E; intro e61; go_simp) ⟨_, rfl, ⟨AX, cX, rfl⟩, fun h => h, fun e => hS (by simpa [upd] using e)⟩
            refine StepsOk.cons (stepOk_pureG 8 56 false rfl rfl (by kernel_rfl) (fun _ _ h => h.1) [(14, 62)] [] (by kernel_rfl) (by kernel_rfl) rfl (fun _ h => h) (fun _ _ _ h e => h (by simpa [upd] using e)) (fun d E w' hk hda hS hc hf => by rintro _ q14 ⟨AX, cX, rfl⟩ e62 ; exact ⟨_, by go_simp, rfl⟩)) ?_
            refine StepsOk.cons (stepOk_pureG 8 56 false rfl rfl (by kernel_rfl) (fun _ _ h => h.1) [(10, 58), (15, 63)] [] (by kernel_rfl) (by kernel_rfl) rfl (fun _ h => h) (fun _ _ _ h e => h (by simpa [upd] using e)) (fun d E w' hk hda hS hc hf => by rintro _ q10 rfl e58 _ q15 rfl e63 ; exact ⟨_, by go_simp, rfl⟩)) ?_
            refine StepsOk.cons (stepOk_mk [(8, 56), (16, 64)] [] rfl rfl (by kernel_rfl) (by kernel_rfl) rfl ?_) ?_
            · rintro d a w' hk hda hS _ q8 ⟨rfl, z8⟩ e56 _ q16 rfl e64 
              first | refine Given.nil (Known.nil ?_) | refine Known.nil ?_
              refine wp_runv (w' := w') (.bool false) (by revert e56 e64; generalize a.eval = E; intro e56 e64; go_simp) ⟨_, rfl, ⟨rfl, z8⟩, fun h => h, fun e => hS (by simpa [upd] using e)⟩
            refine StepsOk.cons (stepOk_mk [(17, 65)] [] rfl rfl (by kernel_rfl) (by kernel_rfl) rfl ?_) ?_
            · rintro d a w' hk hda hS _ q17 ⟨rfl, z17⟩ e65 
              first | refine Given.nil (Known.nil ?_) | refine Known.nil ?_
              refine wp_runv (w' := w') (.bool false) (by revert e65; generalize a.eval = E; intro e65; go_simp) ⟨_, rfl, ⟨rfl, z17⟩, fun h => h, fun e => hS (by simpa [upd] using e)⟩
            refine StepsOk.cons (stepOk_pureG 18 66 false rfl rfl (by kernel_rfl) (fun _ _ h => h.1) [] [(5, .pointer (some ⟨g, 0, none⟩))] (by kernel_rfl) (by kernel_rfl) rfl (fun _ h => h) (fun _ _ _ h e => h (by simpa [upd] using e)) (fun d E w' hk hda hS hc hf => by rintro  e5; exact ⟨_, by go_simp, rfl⟩)) ?_
            refine StepsOk.cons (stepOk_guard 18 66 false rfl rfl (by kernel_rfl) (fun _ _ h => h.1) [(19, 67), (18, 66)] [] (by kernel_rfl) (by kernel_rfl) rfl ?_) ?_
            · rintro d a w' hk hda hS _ q19 rfl e67 _ q18 ⟨rfl, z18⟩ e66 
              first | refine Given.nil (Known.nil ?_) | refine Known.nil ?_
              refine wp_call 19 _ Try.func19 (by kernel_rfl) (by kernel_rfl) _ _ (by rfl) [.pointer (some ⟨g, 0, none⟩)] (by simp only [List.map_cons, List.map_nil, *]; try rfl) (cK.out _ z18) ?_
              rintro e w1 ⟨rfl, rfl⟩
              exact ⟨_, rfl, _, rfl, rfl, fun h => h, fun e => hS (by simpa [upd] using e)⟩
            refine StepsOk.cons (stepOk_pureG 18 66 false rfl rfl (by kernel_rfl) (fun _ _ h => h.1) [] [(7, .pointer (some ⟨x, 0, none⟩))] (by kernel_rfl) (by kernel_rfl) rfl (fun _ h => h) (fun _ _ _ h e => h (by simpa [upd] using e)) (fun d E w' hk hda hS hc hf => by rintro  e7; exact ⟨_, by go_simp, rfl⟩)) ?_
            refine StepsOk.cons (stepOk_pureG 18 66 false rfl rfl (by kernel_rfl) (fun _ _ h => h.1) [(21, 69)] [] (by kernel_rfl) (by kernel_rfl) rfl (fun _ h => h) (fun _ _ _ h e => h (by simpa [upd] using e)) (fun d E w' hk hda hS hc hf => by rintro _ q21 rfl e69 ; exact ⟨_, by go_simp, rfl⟩)) ?_
            refine StepsOk.cons (stepOk_pureG 18 66 false rfl rfl (by kernel_rfl) (fun _ _ h => h.1) [(22, 70)] [] (by kernel_rfl) (by kernel_rfl) rfl (fun _ h => h) (fun _ _ _ h e => h (by simpa [upd] using e)) (fun d E w' hk hda hS hc hf => by rintro _ q22 rfl e70 ; exact ⟨_, by go_simp, rfl⟩)) ?_
            refine StepsOk.cons (stepOk_pureG 18 66 false rfl rfl (by kernel_rfl) (fun _ _ h => h.1) [(23, 71), (18, 66)] [] (by kernel_rfl) (by kernel_rfl) rfl (fun _ h => h) (fun _ _ _ h e => h (by simpa [upd] using e)) (fun d E w' hk hda hS hc hf => by rintro _ q23 rfl e71 _ q18 ⟨rfl, z18⟩ e66 ; have t2 := (cX9.out _ z18).2; exact ⟨_, by go_simp, rfl⟩)) ?_
            refine StepsOk.cons (stepOk_pureG 18 66 false rfl rfl (by kernel_rfl) (fun _ _ h => h.1) [(20, 68), (24, 72)] [] (by kernel_rfl) (by kernel_rfl) rfl (fun _ h => h) (fun _ _ _ h e => h (by simpa [upd] using e)) (fun d E w' hk hda hS hc hf => by rintro _ q20 rfl e68 _ q24 rfl e72 ; exact ⟨_, by go_simp, rfl⟩)) ?_
            refine StepsOk.cons (stepOk_pure [(18, 66), (25, 73)] [] rfl rfl (by kernel_rfl) (by kernel_rfl) rfl (fun _ h => h) (fun _ _ _ h e => h (by simpa [upd] using e)) (fun d E w' hk hda hS hc hf => by rintro _ q18 ⟨rfl, z18⟩ e66 _ q25 rfl e73 ; exact ⟨_, by go_simp, rfl⟩)) ?_
            exact StepsOk.nil
          case ends =>
            intro σ9 w9 hS9 hA9
            refine Ends.eqv (some 48) (.pointer (some ⟨g, 0, none⟩)) rfl (fun _ h => h) ?_
            refine Ends.eqv (some 49) (.pointer (some ⟨x, 0, none⟩)) rfl (fun _ h => h) ?_
            refine Ends.eqv (some 50) (.slice (some ⟨b, o_, none⟩) n cp) rfl (fun _ h => h) ?_
            refine Ends.eqv (some 51) (.int .i64 k) rfl (fun _ h => h) ?_
            refine Ends.eqv (some 52) (.pointer (some ⟨b, o_ + k * 9, none⟩)) rfl (fun _ h => h) ?_
            refine Ends.eqv (some 53) (.agg #[.int .i64 o.kind, .int .i64 o.n, .int .i64 o.m, .int .i64 o.q.client, .int .i64 o.q.seq, .int .i64 o.q.kind, .int .i64 o.q.id, .int .i64 o.q.mat, .string o.q.data]) rfl (fun _ h => h) ?_
            refine Ends.ex (some 54) rfl ?_
            rintro _ p6 ⟨rfl, z6⟩
            refine Ends.ex (some 55) rfl ?_
            rintro _ p7 ⟨rfl, z7⟩
            refine Ends.ex (some 56) rfl ?_
            rintro _ p8 ⟨rfl, z8⟩
            refine Ends.eqv (some 57) (.pointer (some ⟨g, 0, none⟩)) rfl (fun _ h => h) ?_
            refine Ends.eqv (some 58) (.int .i64 N1) rfl (fun _ h => h) ?_
            refine Ends.eqv (some 59) (.pointer (some ⟨x, 0, none⟩)) rfl (fun _ h => h) ?_
            refine Ends.eqv (some 60) (.pointer (some ⟨x, 0, none⟩)) rfl (fun _ h => h) ?_
            refine Ends.eqv (some 61) (.pointer (some ⟨x, 1, none⟩)) rfl (fun _ h => h) ?_
            refine Ends.ex (some 62) rfl ?_
            rintro _ p14 ⟨AX, cX, rfl⟩
            refine Ends.eqv (some 63) (.int .i64 N1) rfl (fun _ h => h) ?_
            refine Ends.eqv (some 64) (.bool false) rfl (fun _ h => h) ?_
            refine Ends.ex (some 65) rfl ?_
            rintro _ p17 ⟨rfl, z17⟩
            refine Ends.ex (some 66) rfl ?_
            rintro _ p18 ⟨rfl, z18⟩
            refine Ends.eqv (some 67) (.pointer (some ⟨g, 0, none⟩)) rfl (fun _ h => h) ?_
            refine Ends.eqv (some 68) (.int .i64 K1) rfl (fun _ h => h) ?_
            refine Ends.eqv (some 69) (.pointer (some ⟨x, 0, none⟩)) rfl (fun _ h => h) ?_
            refine Ends.eqv (some 70) (.pointer (some ⟨x, 0, none⟩)) rfl (fun _ h => h) ?_
            refine Ends.eqv (some 71) (.pointer (some ⟨x, 2, none⟩)) rfl (fun _ h => h) ?_
            refine Ends.eqv (some 72) (.int .i64 K1) rfl (fun _ h => h) ?_
            refine Ends.eqv (some 73) (.bool false) rfl (fun _ h => h) ?_
            refine Ends.eqv (some 74) (.bool false) rfl (fun _ h => h) ?_
            refine Ends.nil ?_
            clear hA9
            simp only [put_lit, put_none, List.set_cons_zero, List.set_cons_succ]
            clear hS9
            go_wp2_with fail
            go_roundw
            case rel => exact ⟨k + 1, by omega, by go_num, by rw [HTK.out]; exact z18⟩
            case measure => simp [intOf]; omega
        · obtain rfl : k = n := by omega
          obtain ⟨hqt, hlen⟩ := runO_ok qt (os.take k)
          rw [List.length_take] at hlen
          obtain ⟨l9, hl9⟩ : ∃ s, runO qt (os.take k) = s := ⟨_, rfl⟩
          rw [hl9] at pr hlen
          obtain ⟨N, hN⟩ : ∃ N, l9.qs.length = N := ⟨_, rfl⟩
          rw [hN] at hlen
          obtain ⟨W9, hW9⟩ : ∃ W : World, W = wr := ⟨_, rfl⟩
          rw [← hW9] at pr
          simp only [← hW9]
          clear hW9
          obtain ⟨AX, cX, t1, -, -, hxl, hr⟩ := pr.cells hN rfl
          have hX := hide (fun (W : World) (hW : Old W9 W) => ((hW.cell (p := ⟨x, 1, none⟩) hxl).trans t1 : W.cell? ⟨x, 1, none⟩ = some (.slice AX N cX)))
          have hall : sinceL l9.qs 0 1000 = l9.qs := sinceL_all _ _ (by omega)
          have cS := hide (fun (W : World) (hW : Old W9 W) => (pr.old hW).ln.elim fun F hF => by have := Since_at g F l9 0 1000 N (by rw [hall, hN]) (by omega) W hF; rw [hall] at this; exact this)
          have cQ := hide (fun (A : Option Addr) (ca : Nat) (W : World) (hW : Old W9 W) (ha : ReqsAt W A l9.qs) => Reqs_same N A AX l9.qs ca cX W ha (CellsAt.old hr hW) (by omega) hN.symm)
          have HO := hide pr.o
          clear hqt hlen hl9 hN t1 hr hall pr
          go_wp2_with fail
          refine region_steps (R := pick [eqv (.bool true), eqv (.bool true), eqv (.pointer (some ⟨g, 0, none⟩)), fun v w' => ∃ A c, v = .slice A N c ∧ ReqsAt w' A l9.qs, eqv (.pointer (some ⟨x, 0, none⟩)), eqv (.pointer (some ⟨x, 0, none⟩)), eqv (.pointer (some ⟨x, 1, none⟩)), eqv (.slice AX N cX), eqv (.bool true), eqv (.bool true), eqv (.bool true)]) (S := fun _ w' => Old W9 w') (T := Old) (by kernel_rfl) (by kernel_rfl) (by kernel_rfl) (Stab.pick (Stab.eqv (Stab.eqv (Stab.eqv (Stab.cons (fun v w w' ht ⟨A, c, h, i⟩ => ⟨A, c, h, CellsAt.old i ht⟩) (Stab.eqv (Stab.eqv (Stab.eqv (Stab.eqv (Stab.eqv (Stab.eqv (Stab.eqv (Stab.nil))))))))))))) ((Old.refl' _).drew') ?steps ?ends
          case steps =>
            refine StepsOk.cons (stepOk_mk [] [] rfl rfl (by kernel_rfl) (by kernel_rfl) rfl ?_) ?_
            · rintro d a w' hk hda hS  
              first | refine Given.nil (Known.nil ?_) | refine Known.nil ?_
              refine wp_call 12 _ Try.func12 (by kernel_rfl) (by kernel_rfl) _ _ (by rfl) [] (by simp only [List.map_cons, List.map_nil, *]; try rfl) (told18_any _) ?_
              rintro e w1 ⟨rfl, f4⟩
              exact ⟨_, rfl, _, rfl, rfl, f4, hS.trans' f4⟩
            refine StepsOk.cons (stepOk_pure [(0, 75)] [] rfl rfl (by kernel_rfl) (by kernel_rfl) rfl Old.refl' (fun _ _ _ h => h) (fun d E w' hk hda hS hc hf => by rintro _ q0 rfl e75 ; exact ⟨_, by go_simp, rfl⟩)) ?_
            refine StepsOk.cons (stepOk_pureG 1 76 true rfl rfl (by kernel_rfl) (fun _ _ h => h) [] [(5, .pointer (some ⟨g, 0, none⟩))] (by kernel_rfl) (by kernel_rfl) rfl Old.refl' (fun _ _ _ h => h) (fun d E w' hk hda hS hc hf => by rintro  e5; exact ⟨_, by go_simp, rfl⟩)) ?_
            refine StepsOk.cons (stepOk_guard 1 76 true rfl rfl (by kernel_rfl) (fun _ _ h => h) [(2, 77)] [] (by kernel_rfl) (by kernel_rfl) rfl ?_) ?_
            · rintro d a w' hk hda hS _ q2 rfl e77 
              first | refine Given.nil (Known.nil ?_) | refine Known.nil ?_
              refine wp_call 20 _ Try.func20 (by kernel_rfl) (by kernel_rfl) _ _ (by rfl) [.pointer (some ⟨g, 0, none⟩), .int .i64 0, .int .i64 1000] (by simp only [List.map_cons, List.map_nil, *]; try rfl) (cS.out _ hS) ?_
              rintro e w1 ⟨As, cs, rfl, ho, f4⟩
              exact ⟨_, rfl, _, rfl, ⟨As, cs, rfl, ho⟩, f4, hS.trans' f4⟩
            refine StepsOk.cons (stepOk_pureG 1 76 true rfl rfl (by kernel_rfl) (fun _ _ h => h) [] [(7, .pointer (some ⟨x, 0, none⟩))] (by kernel_rfl) (by kernel_rfl) rfl Old.refl' (fun _ _ _ h => h) (fun d E w' hk hda hS hc hf => by rintro  e7; exact ⟨_, by go_simp, rfl⟩)) ?_
            refine StepsOk.cons (stepOk_pureG 1 76 true rfl rfl (by kernel_rfl) (fun _ _ h => h) [(4, 79)] [] (by kernel_rfl) (by kernel_rfl) rfl Old.refl' (fun _ _ _ h => h) (fun d E w' hk hda hS hc hf => by rintro _ q4 rfl e79 ; exact ⟨_, by go_simp, rfl⟩)) ?_
            refine StepsOk.cons (stepOk_pureG 1 76 true rfl rfl (by kernel_rfl) (fun _ _ h => h) [(5, 80)] [] (by kernel_rfl) (by kernel_rfl) rfl Old.refl' (fun _ _ _ h => h) (fun d E w' hk hda hS hc hf => by rintro _ q5 rfl e80 ; exact ⟨_, by go_simp, rfl⟩)) ?_
            refine StepsOk.cons (stepOk_pureG 1 76 true rfl rfl (by kernel_rfl) (fun _ _ h => h) [(6, 81)] [] (by kernel_rfl) (by kernel_rfl) rfl Old.refl' (fun _ _ _ h => h) (fun d E w' hk hda hS hc hf => by rintro _ q6 rfl e81 ; obtain t1 := hX.out _ hS; exact ⟨_, by go_simp, rfl⟩)) ?_
            refine StepsOk.cons (stepOk_guard 1 76 true rfl rfl (by kernel_rfl) (fun _ _ h => h) [(3, 78), (7, 82)] [] (by kernel_rfl) (by kernel_rfl) rfl ?_) ?_
            · rintro d a w' hk hda hS _ q3 ⟨As, cs, rfl, is⟩ e78 _ q7 rfl e82 
              first | refine Given.nil (Known.nil ?_) | refine Known.nil ?_
              refine wp_call 23 _ Try.func23 (by kernel_rfl) (by kernel_rfl) _ _ (by rfl) [.slice As N cs, .slice AX N cX] (by simp only [List.map_cons, List.map_nil, *]; try rfl) (cQ.out _ _ _ hS is) ?_
              rintro e w1 ⟨rfl, f4⟩
              exact ⟨_, rfl, _, rfl, rfl, f4, hS.trans' f4⟩
            refine StepsOk.cons (stepOk_pure [(1, 76), (8, 83)] [] rfl rfl (by kernel_rfl) (by kernel_rfl) rfl Old.refl' (fun _ _ _ h => h) (fun d E w' hk hda hS hc hf => by rintro _ q1 rfl e76 _ q8 rfl e83 ; exact ⟨_, by go_simp, rfl⟩)) ?_
            refine StepsOk.cons (stepOk_pure [(9, 84)] [] rfl rfl (by kernel_rfl) (by kernel_rfl) rfl Old.refl' (fun _ _ _ h => h) (fun d E w' hk hda hS hc hf => by rintro _ q9 rfl e84 ; exact ⟨_, by go_simp, rfl⟩)) ?_
            exact StepsOk.nil
          case ends =>
            intro σ9 w9 hS9 hA9
            refine Ends.eqv (some 75) (.bool true) rfl (fun _ h => h) ?_
            refine Ends.eqv (some 76) (.bool true) rfl (fun _ h => h) ?_
            refine Ends.eqv (some 77) (.pointer (some ⟨g, 0, none⟩)) rfl (fun _ h => h) ?_
            refine Ends.ex (some 78) rfl ?_
            rintro _ p3 ⟨As, cs, rfl, is⟩
            refine Ends.eqv (some 79) (.pointer (some ⟨x, 0, none⟩)) rfl (fun _ h => h) ?_
            refine Ends.eqv (some 80) (.pointer (some ⟨x, 0, none⟩)) rfl (fun _ h => h) ?_
            refine Ends.eqv (some 81) (.pointer (some ⟨x, 1, none⟩)) rfl (fun _ h => h) ?_
            refine Ends.eqv (some 82) (.slice AX N cX) rfl (fun _ h => h) ?_
            refine Ends.eqv (some 83) (.bool true) rfl (fun _ h => h) ?_
            refine Ends.eqv (some 84) (.bool true) rfl (fun _ h => h) ?_
            refine Ends.eqv (some 4) (.bool true) rfl (fun _ h => h) ?_
            refine Ends.nil ?_
            clear hA9
            simp only [put_lit, put_none, List.set_cons_zero, List.set_cons_succ]
            have o9 := hS9
            clear hS9
            go_wp2_with fail
            go_ret
            exact ⟨rfl, HO.out.trans' o9⟩
    | false =>
      go_enter Try.func8, Try.ntmps8
      go_wp2_with fail
      refine cNw.out.mono ?_
      rintro e w1 ⟨g, F, rfl, a1, a2, a3⟩
      go_wp2_with (first
        | (go_at_call 32; (with_reducible refine (cF1.out _ a3).mono ?_); rintro e w3 ⟨rfl, rfl⟩)
        | (go_at_call 12; refine (told18_any _).mono ?_; rintro e w4 ⟨rfl, b4⟩))
      go_ret
      exact ⟨rfl, a3.trans' b4⟩
  · have cNo := hide (New_ln_no qt hqt w)
    have hc : qt < 1 ∨ (¬ qt < 1 ∧ 100 < qt) := by omega
    clear hqt
    rcases hc with hc | ⟨hc, hc2⟩
    all_goals
      go_enter Try.func8, Try.ntmps8
      go_wp2_with (first
        | (go_at_call 24; refine cNo.out.mono ?_; rintro e w1 ⟨rfl, rfl⟩)
        | (go_at_call 12; refine (told18_any _).mono ?_; rintro e w4 ⟨rfl, b4⟩))
      go_ret
      exact ⟨rfl, b4⟩
end Go.Proofs.Ytmhnlpilbbfgnaa
