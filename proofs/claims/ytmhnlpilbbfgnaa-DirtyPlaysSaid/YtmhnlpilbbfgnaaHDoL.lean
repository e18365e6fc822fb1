/- casebooklaw18.Do: a step on both logs. -/
import Derived.Deep.CutBlock
import Derived.BigQuiet
import Derived.Test.YtmhnlpilbbfgnaaHLX
import Derived.Test.YtmhnlpilbbfgnaaHSame5
import Derived.Test.YtmhnlpilbbfgnaaHLnU
namespace Go.Proofs.Ytmhnlpilbbfgnaa
open Go.RowKit

def LnV.takeAt (l : LnV) (n m : Int) : Int := if bits .and .i64 m 1 = 0 then (l.qs.length : Int) + 1 else n
def LnV.comAt (l : LnV) (n m : Int) : Int := if bits .and .i64 m 1 = 0 then wrap64 ((l.k : Int) + wrap64 ((IntKind.u64.wrap (wrap64 (m.tdiv 2))).tmod ((l.qs.length : Int) - l.k + 1))) else n
/-- what a step makes of a log -/
def LnV.step (l : LnV) (kd n m : Int) (q : ReqV) : LnV :=
  if kd = 0 then l.put q else if kd = 1 then l.take (l.takeAt n m) q else if kd = 2 then (if (l.k : Int) ≤ l.comAt n m ∧ l.comAt n m ≤ l.qs.length then l.commit (l.comAt n m).toNat else l) else l
theorem LnV.step2 (l : LnV) (n m : Int) (q : ReqV) : l.step 2 n m q = if (l.k : Int) ≤ l.comAt n m ∧ l.comAt n m ≤ l.qs.length then l.commit (l.comAt n m).toNat else l := by
  unfold LnV.step
  rw [if_neg (by decide), if_neg (by decide), if_pos rfl]
theorem LnV.step_facts (l : LnV) (kd n m : Int) (q : ReqV) : (l.step kd n m q).quota = l.quota ∧ (l.step kd n m q).qs.length ≤ l.qs.length + 1 := by
  obtain ⟨f1, f2, f3⟩ := put_facts l q
  unfold LnV.step
  split
  · exact ⟨f1, f3⟩
  · split
    · unfold LnV.take
      split
      · exact ⟨f1, f3⟩
      · exact ⟨rfl, Nat.le_succ _⟩
    · split
      · split
        · exact ⟨rfl, Nat.le_succ _⟩
        · exact ⟨rfl, Nat.le_succ _⟩
      · exact ⟨rfl, Nat.le_succ _⟩
theorem DN (W : World) (n : Nat) : Old W (W.drewN n) := ((Fr.refl (fun _ => False) W).drewN n).old
set_option maxRecDepth 100000 in
set_option maxHeartbeats 4000000 in
theorem DoL_put (n m : Int) (q : ReqV) (g x : Nat) (l : LnV) (w wr : World) (hp : LX w wr g x l l []) (hqt : 1 ≤ l.quota ∧ l.quota ≤ 100) (hlen : l.qs.length ≤ 200) (hn63 : n ≤ 9223372036854775807) :
    Calls Try.prog 33 #[.pointer (some ⟨g, 0, none⟩), .pointer (some ⟨x, 0, none⟩), .agg #[.int .i64 0, .int .i64 n, .int .i64 m, .int .i64 q.client, .int .i64 q.seq, .int .i64 q.kind, .int .i64 q.id, .int .i64 q.mat, .string q.data]] wr fun e w' => e = .returned (.bool true) ∧ LX w w' g x (l.step 0 n m q) (l.step 0 n m q) [] := by
  obtain ⟨N, hN⟩ : ∃ N, l.qs.length = N := ⟨_, rfl⟩
  obtain ⟨K, hK⟩ : ∃ K, l.k = K := ⟨_, rfl⟩
  have hKN : K ≤ N := by obtain ⟨F, hF⟩ := hp.ln; have := hF.kl; omega
  rw [hN] at hlen
  have pr := hp.alloc #[.int .i64 0, .int .i64 n, .int .i64 m, .int .i64 q.client, .int .i64 q.seq, .int .i64 q.kind, .int .i64 q.id, .int .i64 q.mat, .string q.data] 63
  have drop := hide (fun (W : World) (l' : LnV) (h : LX w W g x l' l' [(wr.heap.size, 63, #[.int .i64 0, .int .i64 n, .int .i64 m, .int .i64 q.client, .int .i64 q.seq, .int .i64 q.kind, .int .i64 q.id, .int .i64 q.mat, .string q.data])]) => h.drop (D' := []) (fun d hd => absurd hd List.not_mem_nil))
  obtain ⟨⟨y0, y1, y2, y3, y4, y5, y6, y7, y8⟩, ly⟩ := bk9 (Bk.new wr 63 #[.int .i64 0, .int .i64 n, .int .i64 m, .int .i64 q.client, .int .i64 q.seq, .int .i64 q.kind, .int .i64 q.id, .int .i64 q.mat, .string q.data])
  have HN := hide hN
  obtain ⟨l1, hl1⟩ : ∃ l', l.put q = l' := ⟨_, rfl⟩
  obtain ⟨AT, hAT⟩ : ∃ a : Int, (l.at_ q : Int) = a := ⟨_, rfl⟩
  obtain ⟨E, hE⟩ : ∃ a : Int, l.err q = a := ⟨_, rfl⟩
  have cP := hide (pr.put N hN (by omega) q AT E l1 hAT hE hl1)
  have cX := hide (fun (W : World) (h : LX w W g x l1 l [(wr.heap.size, 63, #[.int .i64 0, .int .i64 n, .int .i64 m, .int .i64 q.client, .int .i64 q.seq, .int .i64 q.kind, .int .i64 q.id, .int .i64 q.mat, .string q.data])]) => h.xput N hN (by omega) q AT E l1 hAT hE hl1)
  have HF := hide (show l.step 0 n m q = l1 from hl1)
  clear hN hK hl1 hAT hE hp hqt hlen hn63 pr
  go_enter Try.func33, Try.ntmps33
  go_wp2_with fail
  refine cP.out.mono ?_
  rintro e w2 ⟨rfl, p2⟩
  clear y0 y1 y2 y3 y4 y5 y6 y7 y8 ly
  obtain ⟨⟨y0, y1, y2, y3, y4, y5, y6, y7, y8⟩, ly⟩ := bk9 (p2.held List.mem_cons_self)
  go_wp2_with fail
  refine (cX.out _ p2).mono ?_
  rintro e w3 ⟨rfl, p3⟩
  go_wp2_with fail
  go_ret
  exact ⟨rfl, HF.out ▸ drop.out _ _ p3⟩
set_option maxRecDepth 100000 in
set_option maxHeartbeats 4000000 in
theorem DoL_take (n m : Int) (q : ReqV) (g x : Nat) (l : LnV) (w wr : World) (hp : LX w wr g x l l []) (hqt : 1 ≤ l.quota ∧ l.quota ≤ 100) (hlen : l.qs.length ≤ 200) (hn63 : n ≤ 9223372036854775807) :
    Calls Try.prog 33 #[.pointer (some ⟨g, 0, none⟩), .pointer (some ⟨x, 0, none⟩), .agg #[.int .i64 1, .int .i64 n, .int .i64 m, .int .i64 q.client, .int .i64 q.seq, .int .i64 q.kind, .int .i64 q.id, .int .i64 q.mat, .string q.data]] wr fun e w' => e = .returned (.bool true) ∧ LX w w' g x (l.step 1 n m q) (l.step 1 n m q) [] := by
  obtain ⟨N, hN⟩ : ∃ N, l.qs.length = N := ⟨_, rfl⟩
  obtain ⟨K, hK⟩ : ∃ K, l.k = K := ⟨_, rfl⟩
  have hKN : K ≤ N := by obtain ⟨F, hF⟩ := hp.ln; have := hF.kl; omega
  rw [hN] at hlen
  have pr := hp.alloc #[.int .i64 1, .int .i64 n, .int .i64 m, .int .i64 q.client, .int .i64 q.seq, .int .i64 q.kind, .int .i64 q.id, .int .i64 q.mat, .string q.data] 63
  have drop := hide (fun (W : World) (l' : LnV) (h : LX w W g x l' l' [(wr.heap.size, 63, #[.int .i64 1, .int .i64 n, .int .i64 m, .int .i64 q.client, .int .i64 q.seq, .int .i64 q.kind, .int .i64 q.id, .int .i64 q.mat, .string q.data])]) => h.drop (D' := []) (fun d hd => absurd hd List.not_mem_nil))
  obtain ⟨⟨y0, y1, y2, y3, y4, y5, y6, y7, y8⟩, ly⟩ := bk9 (Bk.new wr 63 #[.int .i64 1, .int .i64 n, .int .i64 m, .int .i64 q.client, .int .i64 q.seq, .int .i64 q.kind, .int .i64 q.id, .int .i64 q.mat, .string q.data])
  have HN := hide hN
  obtain ⟨A, ca, c1, -, -, hxl, -⟩ := pr.cells hN hK
  obtain ⟨r1, hr1⟩ : ∃ r, bits .and .i64 m 1 = r := ⟨_, rfl⟩
  have hN200 : (N : Int) ≤ 200 := by omega
  have HP := hide pr
  have HN63 := hide hn63
  have HR1 := hide hr1
  clear hK hp hqt pr hn63 hN
  go_enter Try.func33, Try.ntmps33
  go_upto_if 58 with fail
  go_cut [11] from 59 to 64 (fun v w' => v = .int .i64 (l.takeAt n m) ∧ LX w w' g x l l [(wr.heap.size, 63, #[.int .i64 1, .int .i64 n, .int .i64 m, .int .i64 q.client, .int .i64 q.seq, .int .i64 q.kind, .int .i64 q.id, .int .i64 q.mat, .string q.data])])
  case first =>
    by_cases hz : r1 = 0
    · subst hz
      go_wp2_with fail
      go_meet
      case rel => exact ⟨by unfold LnV.takeAt; rw [HR1.out, if_pos rfl, HN.out], HP.out⟩
    · have HZ := hide hz
      go_wp2_with fail
      go_meet
      case rel => exact ⟨by unfold LnV.takeAt; rw [HR1.out, if_neg HZ.out], HP.out⟩
  case rest =>
    obtain ⟨W2, rfl⟩ : ∃ W, W = wc := ⟨_, rfl⟩
    obtain ⟨rfl, pr⟩ := hcut
    obtain ⟨at_, hat0⟩ : ∃ a, l.takeAt n m = a := ⟨_, rfl⟩
    have hat : at_ ≤ 9223372036854775807 := by
      rw [← hat0]
      unfold LnV.takeAt
      split
      · rw [HN.out]; omega
      · exact HN63.out
    have hst : l.step 1 n m q = l.take at_ q := by rw [← hat0]; rfl
    simp only [hat0]
    obtain ⟨l1, hl1⟩ : ∃ l', l.take at_ q = l' := ⟨_, rfl⟩
    obtain ⟨E, hE⟩ : ∃ a : Int, l.terr at_ q = a := ⟨_, rfl⟩
    have HF := hide (show l.step 1 n m q = l1 by rw [hst, hl1])
    obtain ⟨b5, hb5⟩ : ∃ b, wr.heap.size = b := ⟨_, rfl⟩
    rw [hb5] at pr drop
    simp only [hb5]
    have cT := hide (fun (W : World) (h : LX w W g x l l [(b5, 63, #[.int .i64 1, .int .i64 n, .int .i64 m, .int .i64 q.client, .int .i64 q.seq, .int .i64 q.kind, .int .i64 q.id, .int .i64 q.mat, .string q.data])]) => h.take N HN.out (by omega) at_ q E l1 hE hl1)
    have cX := hide (fun (W : World) (h : LX w W g x l1 l [(b5, 63, #[.int .i64 1, .int .i64 n, .int .i64 m, .int .i64 q.client, .int .i64 q.seq, .int .i64 q.kind, .int .i64 q.id, .int .i64 q.mat, .string q.data])]) => h.xtake N HN.out (by omega) at_ hat q E l1 hE hl1)
    clear y0 y1 y2 y3 y4 y5 y6 y7 y8 ly hE hl1 hat hat0 hst c1 hr1 HR1 HP hb5
    go_wp2_with fail
    refine region_steps (R := pick [eqv (.pointer (some ⟨g, 0, none⟩)), eqv (.int .i64 at_), eqv (.pointer (some ⟨b5, 3, none⟩)), eqv (.agg #[.int .i64 q.client, .int .i64 q.seq, .int .i64 q.kind, .int .i64 q.id, .int .i64 q.mat, .string q.data]), eqv (.int .i64 E), eqv (.pointer (some ⟨x, 0, none⟩)), eqv (.int .i64 at_), eqv (.pointer (some ⟨b5, 3, none⟩)), eqv (.agg #[.int .i64 q.client, .int .i64 q.seq, .int .i64 q.kind, .int .i64 q.id, .int .i64 q.mat, .string q.data]), eqv (.int .i64 E), eqv (.bool true), eqv (.bool true)]) (S := fun σ w' => ∃ la lb, LX w w' g x la lb [(b5, 63, #[.int .i64 1, .int .i64 n, .int .i64 m, .int .i64 q.client, .int .i64 q.seq, .int .i64 q.kind, .int .i64 q.id, .int .i64 q.mat, .string q.data])] ∧ (la = if σ 4 = none then l else l1) ∧ (lb = if σ 9 = none then l else l1)) (T := (fun _ _ => True)) (by kernel_rfl) (by kernel_rfl) (by kernel_rfl) (Stab.pick (Stab.eqv (Stab.eqv (Stab.eqv (Stab.eqv (Stab.eqv (Stab.eqv (Stab.eqv (Stab.eqv (Stab.eqv (Stab.eqv (Stab.eqv (Stab.eqv (Stab.nil)))))))))))))) (⟨l, l, pr.old ((Old.refl' _).drew'), rfl, rfl⟩) ?steps ?ends
    case steps =>
      refine StepsOk.cons (stepOk_pure [] [(0, .pointer (some ⟨g, 0, none⟩))] rfl rfl (by kernel_rfl) (by kernel_rfl) rfl (fun _ => trivial) (fun σ v w h => by simpa [upd] using h) (fun d E w' hk hda hS hc hf => by rintro  e0; exact ⟨_, by go_simp, rfl⟩)) ?_
      refine StepsOk.cons (stepOk_pure [] [(11, .int .i64 at_)] rfl rfl (by kernel_rfl) (by kernel_rfl) rfl (fun _ => trivial) (fun σ v w h => by simpa [upd] using h) (fun d E w' hk hda hS hc hf => by rintro  e11; exact ⟨_, by go_simp, rfl⟩)) ?_
      refine StepsOk.cons (stepOk_pure [] [(5, .pointer (some ⟨b5, 0, none⟩))] rfl rfl (by kernel_rfl) (by kernel_rfl) rfl (fun _ => trivial) (fun σ v w h => by simpa [upd] using h) (fun d E w' hk hda hS hc hf => by rintro  e5; exact ⟨_, by go_simp, rfl⟩)) ?_
      refine StepsOk.cons (stepOk_pure [(2, 67)] [] rfl rfl (by kernel_rfl) (by kernel_rfl) rfl (fun _ => trivial) (fun σ v w h => by simpa [upd] using h) (fun d E w' hk hda hS hc hf => by rintro _ q2 rfl e67 ; obtain ⟨la, lb, p, -, -⟩ := hS; obtain ⟨⟨y0, y1, y2, y3, y4, y5, y6, y7, y8⟩, ly⟩ := bk9 (p.held List.mem_cons_self); exact ⟨_, by go_simp, rfl⟩)) ?_
      refine StepsOk.cons (stepOk_mk [(0, 65), (1, 66), (3, 68)] [] rfl rfl (by kernel_rfl) (by kernel_rfl) rfl ?_) ?_
      · rintro d a w' hk hda hS _ q0 rfl e65 _ q1 rfl e66 _ q3 rfl e68 
        first | refine Given.nil (Known.nil ?_) | refine Known.nil ?_
        obtain ⟨la, lb, p, e1, e2⟩ := hS
        rw [if_pos (hk 4 (by kernel_rfl))] at e1
        rw [if_pos (hk 9 (by kernel_rfl))] at e2
        rw [e1, e2] at p
        refine wp_call 16 _ Try.func16 (by kernel_rfl) (by kernel_rfl) _ _ (by rfl) [.pointer (some ⟨g, 0, none⟩), .int .i64 at_, .agg #[.int .i64 q.client, .int .i64 q.seq, .int .i64 q.kind, .int .i64 q.id, .int .i64 q.mat, .string q.data]] (by simp only [List.map_cons, List.map_nil, *]; try rfl) (cT.out _ p) ?_
        rintro e w1 ⟨rfl, p2⟩
        exact ⟨_, rfl, _, rfl, rfl, trivial, ⟨l1, _, p2, by simp [upd], by simp [upd, hk 9 (by kernel_rfl)]⟩⟩
      refine StepsOk.cons (stepOk_pure [] [(1, .pointer (some ⟨x, 0, none⟩))] rfl rfl (by kernel_rfl) (by kernel_rfl) rfl (fun _ => trivial) (fun σ v w h => by simpa [upd] using h) (fun d E w' hk hda hS hc hf => by rintro  e1; exact ⟨_, by go_simp, rfl⟩)) ?_
      refine StepsOk.cons (stepOk_pure [] [(11, .int .i64 at_)] rfl rfl (by kernel_rfl) (by kernel_rfl) rfl (fun _ => trivial) (fun σ v w h => by simpa [upd] using h) (fun d E w' hk hda hS hc hf => by rintro  e11; exact ⟨_, by go_simp, rfl⟩)) ?_
      refine StepsOk.cons (stepOk_pure [] [(5, .pointer (some ⟨b5, 0, none⟩))] rfl rfl (by kernel_rfl) (by kernel_rfl) rfl (fun _ => trivial) (fun σ v w h => by simpa [upd] using h) (fun d E w' hk hda hS hc hf => by rintro  e5; exact ⟨_, by go_simp, rfl⟩)) ?_
      refine StepsOk.cons (stepOk_pure [(7, 72)] [] rfl rfl (by kernel_rfl) (by kernel_rfl) rfl (fun _ => trivial) (fun σ v w h => by simpa [upd] using h) (fun d E w' hk hda hS hc hf => by rintro _ q7 rfl e72 ; obtain ⟨la, lb, p, -, -⟩ := hS; obtain ⟨⟨y0, y1, y2, y3, y4, y5, y6, y7, y8⟩, ly⟩ := bk9 (p.held List.mem_cons_self); exact ⟨_, by go_simp, rfl⟩)) ?_
      refine StepsOk.cons (stepOk_mk [(5, 70), (6, 71), (8, 73)] [] rfl rfl (by kernel_rfl) (by kernel_rfl) rfl ?_) ?_
      · rintro d a w' hk hda hS _ q5 rfl e70 _ q6 rfl e71 _ q8 rfl e73 
        first | refine Given.nil (Known.nil ?_) | refine Known.nil ?_
        obtain ⟨la, lb, p, e1, e2⟩ := hS
        rw [if_neg (by have := hda 4 (by kernel_rfl); intro e; rw [e] at this; simp at this)] at e1
        rw [if_pos (hk 9 (by kernel_rfl))] at e2
        rw [e1, e2] at p
        refine wp_call 58 _ Try.func58 (by kernel_rfl) (by kernel_rfl) _ _ (by rfl) [.pointer (some ⟨x, 0, none⟩), .int .i64 at_, .agg #[.int .i64 q.client, .int .i64 q.seq, .int .i64 q.kind, .int .i64 q.id, .int .i64 q.mat, .string q.data]] (by simp only [List.map_cons, List.map_nil, *]; try rfl) (cX.out _ p) ?_
        rintro e w1 ⟨rfl, p2⟩
        exact ⟨_, rfl, _, rfl, rfl, trivial, ⟨_, l1, p2, by rw [show upd d 9 _ 4 = d 4 from by simp [upd], if_neg (by have := hda 4 (by kernel_rfl); intro e; rw [e] at this; simp at this)], by simp [upd]⟩⟩
      refine StepsOk.cons (stepOk_pure [(4, 69), (9, 74)] [] rfl rfl (by kernel_rfl) (by kernel_rfl) rfl (fun _ => trivial) (fun σ v w h => by simpa [upd] using h) (fun d E w' hk hda hS hc hf => by rintro _ q4 rfl e69 _ q9 rfl e74 ; exact ⟨_, by go_simp, rfl⟩)) ?_
      refine StepsOk.cons (stepOk_pure [(10, 75)] [] rfl rfl (by kernel_rfl) (by kernel_rfl) rfl (fun _ => trivial) (fun σ v w h => by simpa [upd] using h) (fun d E w' hk hda hS hc hf => by rintro _ q10 rfl e75 ; exact ⟨_, by go_simp, rfl⟩)) ?_
      exact StepsOk.nil
    case ends =>
      intro σ9 w9 hS9 hA9
      refine Ends.eqv (some 65) (.pointer (some ⟨g, 0, none⟩)) rfl (fun _ h => h) ?_
      refine Ends.eqv (some 66) (.int .i64 at_) rfl (fun _ h => h) ?_
      refine Ends.eqv (some 67) (.pointer (some ⟨b5, 3, none⟩)) rfl (fun _ h => h) ?_
      refine Ends.eqv (some 68) (.agg #[.int .i64 q.client, .int .i64 q.seq, .int .i64 q.kind, .int .i64 q.id, .int .i64 q.mat, .string q.data]) rfl (fun _ h => h) ?_
      refine Ends.eqv (some 69) (.int .i64 E) rfl (fun _ h => h) ?_
      refine Ends.eqv (some 70) (.pointer (some ⟨x, 0, none⟩)) rfl (fun _ h => h) ?_
      refine Ends.eqv (some 71) (.int .i64 at_) rfl (fun _ h => h) ?_
      refine Ends.eqv (some 72) (.pointer (some ⟨b5, 3, none⟩)) rfl (fun _ h => h) ?_
      refine Ends.eqv (some 73) (.agg #[.int .i64 q.client, .int .i64 q.seq, .int .i64 q.kind, .int .i64 q.id, .int .i64 q.mat, .string q.data]) rfl (fun _ h => h) ?_
      refine Ends.eqv (some 74) (.int .i64 E) rfl (fun _ h => h) ?_
      refine Ends.eqv (some 75) (.bool true) rfl (fun _ h => h) ?_
      refine Ends.eqv (some 6) (.bool true) rfl (fun _ h => h) ?_
      refine Ends.nil ?_
      have hA9' := hA9
      clear hA9
      simp only [put_lit, put_none, List.set_cons_zero, List.set_cons_succ]
      obtain ⟨la, lb, p9, e1, e2⟩ := hS9
      rw [if_neg (by have := hA9' 4 (by simp); intro e; rw [e] at this; simp at this)] at e1
      rw [if_neg (by have := hA9' 9 (by simp); intro e; rw [e] at this; simp at this)] at e2
      rw [e1, e2] at p9
      clear hA9'
      go_wp2_with fail
      go_ret
      exact ⟨rfl, HF.out ▸ drop.out _ _ p9⟩
set_option maxRecDepth 100000 in
set_option maxHeartbeats 4000000 in
theorem DoL_com (n m : Int) (q : ReqV) (g x : Nat) (l : LnV) (w wr : World) (hp : LX w wr g x l l []) (hqt : 1 ≤ l.quota ∧ l.quota ≤ 100) (hlen : l.qs.length ≤ 200) (hn63 : n ≤ 9223372036854775807) :
    Calls Try.prog 33 #[.pointer (some ⟨g, 0, none⟩), .pointer (some ⟨x, 0, none⟩), .agg #[.int .i64 2, .int .i64 n, .int .i64 m, .int .i64 q.client, .int .i64 q.seq, .int .i64 q.kind, .int .i64 q.id, .int .i64 q.mat, .string q.data]] wr fun e w' => e = .returned (.bool true) ∧ LX w w' g x (l.step 2 n m q) (l.step 2 n m q) [] := by
  obtain ⟨N, hN⟩ : ∃ N, l.qs.length = N := ⟨_, rfl⟩
  obtain ⟨K, hK⟩ : ∃ K, l.k = K := ⟨_, rfl⟩
  have hKN : K ≤ N := by obtain ⟨F, hF⟩ := hp.ln; have := hF.kl; omega
  rw [hN] at hlen
  have pr := hp.alloc #[.int .i64 2, .int .i64 n, .int .i64 m, .int .i64 q.client, .int .i64 q.seq, .int .i64 q.kind, .int .i64 q.id, .int .i64 q.mat, .string q.data] 63
  have drop := hide (fun (W : World) (l' : LnV) (h : LX w W g x l' l' [(wr.heap.size, 63, #[.int .i64 2, .int .i64 n, .int .i64 m, .int .i64 q.client, .int .i64 q.seq, .int .i64 q.kind, .int .i64 q.id, .int .i64 q.mat, .string q.data])]) => h.drop (D' := []) (fun d hd => absurd hd List.not_mem_nil))
  obtain ⟨⟨y0, y1, y2, y3, y4, y5, y6, y7, y8⟩, ly⟩ := bk9 (Bk.new wr 63 #[.int .i64 2, .int .i64 n, .int .i64 m, .int .i64 q.client, .int .i64 q.seq, .int .i64 q.kind, .int .i64 q.id, .int .i64 q.mat, .string q.data])
  have HN := hide hN
  obtain ⟨A, ca, c1, c2, -, hxl, -⟩ := pr.cells hN hK
  obtain ⟨r1, hr1⟩ : ∃ r, bits .and .i64 m 1 = r := ⟨_, rfl⟩
  have hN200 : (N : Int) ≤ 200 := by omega
  have hKN' : (K : Int) ≤ N := by omega
  have hnu : IntKind.u64.wrap ((N : Int) - K + 1) = (N : Int) - K + 1 := by rw [IntKind.wrap_u64]; omega
  have hnz : ¬ ((N : Int) - K + 1 = 0) := by omega
  have HP := hide pr
  have HK := hide hK
  have HR1 := hide hr1
  clear hp hqt pr hn63 hN hK
  go_enter Try.func33, Try.ntmps33
  go_upto_if 83 with fail
  go_cut [12] from 84 to 106 (fun v w' => v = .int .i64 (l.comAt n m) ∧ LX w w' g x l l [(wr.heap.size, 63, #[.int .i64 2, .int .i64 n, .int .i64 m, .int .i64 q.client, .int .i64 q.seq, .int .i64 q.kind, .int .i64 q.id, .int .i64 q.mat, .string q.data])])
  case first =>
    by_cases hz : r1 = 0
    · subst hz
      go_wp2_with fail
      go_quiet (fail)
      go_wp2_with fail
      go_meet
      case rel => exact ⟨by unfold LnV.comAt; rw [HR1.out, if_pos rfl, HN.out, HK.out], HP.out.old (DN _ _)⟩
    · have HZ := hide hz
      go_wp2_with fail
      go_meet
      case rel => exact ⟨by unfold LnV.comAt; rw [HR1.out, if_neg HZ.out], HP.out⟩
  case rest =>
    obtain ⟨W2, rfl⟩ : ∃ W, W = wc := ⟨_, rfl⟩
    obtain ⟨rfl, pr⟩ := hcut
    obtain ⟨a, ha⟩ : ∃ a, l.comAt n m = a := ⟨_, rfl⟩
    simp only [ha]
    have HA := hide ha
    clear ha HR1
    clear y0 y1 y2 y3 y4 y5 y6 y7 y8 ly c1 c2 hr1 HP hnu hnz
    by_cases hok : (K : Int) ≤ a ∧ a ≤ N
    · obtain ⟨hk1, hk2⟩ := hok
      obtain ⟨j, rfl⟩ : ∃ j : Nat, a = j := ⟨a.toNat, by omega⟩
      have HF := hide (show l.step 2 n m q = l.commit j by rw [LnV.step2, HA.out, HK.out, HN.out, if_pos ⟨hk1, hk2⟩, Int.toNat_natCast])
      have cC := hide (pr.com (j : Int) 0 (l.commit j) (by rw [HK.out, HN.out, if_pos ⟨hk1, hk2⟩]) (by rw [HK.out, HN.out, if_pos ⟨hk1, hk2⟩, Int.toNat_natCast]) (by rw [HN.out]; omega))
      have hk1' : ¬ ((j : Int) < K) := by omega
      have hk2' : ¬ ((N : Int) < j) := by omega
      have hx := hide (fun (W : World) (h : LX w W g x (l.commit j) l [(wr.heap.size, 63, #[.int .i64 2, .int .i64 n, .int .i64 m, .int .i64 q.client, .int .i64 q.seq, .int .i64 q.kind, .int .i64 q.id, .int .i64 q.mat, .string q.data])]) => h.cells HN.out HK.out)
      clear pr
      go_wp2_with fail
      refine cC.out.mono ?_
      rintro e w2 ⟨rfl, p2⟩
      obtain ⟨A2, ca2, c1, c2, f2, hxl2, -⟩ := hx.out _ p2
      have hfin := hide (drop.out _ _ (p2.xcom j))
      clear p2 hx cC
      go_wp2_with fail
      go_ret
      exact ⟨rfl, HF.out ▸ hfin.out⟩
    · have HF := hide (show l.step 2 n m q = l by rw [LnV.step2, HA.out, HK.out, HN.out, if_neg hok])
      have cC := hide (pr.com a 6 l (by rw [HK.out, HN.out, if_neg hok]) (by rw [HK.out, HN.out, if_neg hok]) (by rw [HN.out]; omega))
      have hx := hide (fun (W : World) (h : LX w W g x l l [(wr.heap.size, 63, #[.int .i64 2, .int .i64 n, .int .i64 m, .int .i64 q.client, .int .i64 q.seq, .int .i64 q.kind, .int .i64 q.id, .int .i64 q.mat, .string q.data])]) => h.cells HN.out HK.out)
      clear pr
      have hc : (a < K) ∨ (¬ a < K ∧ (N : Int) < a) := by omega
      clear hok
      rcases hc with hc | ⟨hc, hc2⟩
      · have hc' : ¬ ((K : Int) ≤ a) := by omega
        go_wp2_with fail
        refine cC.out.mono ?_
        rintro e w2 ⟨rfl, p2⟩
        obtain ⟨A2, ca2, c1, c2, f2, hxl2, -⟩ := hx.out _ p2
        have hfin := hide (drop.out _ _ p2)
        clear p2 hx cC
        go_wp2_with fail
        go_ret
        exact ⟨rfl, HF.out.symm ▸ hfin.out⟩
      · have hc' : (K : Int) ≤ a := by omega
        have hc3 : decide (a ≤ (N : Int)) = false := by simpa using hc2
        clear hc2
        go_wp2_with fail
        refine cC.out.mono ?_
        rintro e w2 ⟨rfl, p2⟩
        obtain ⟨A2, ca2, c1, c2, f2, hxl2, -⟩ := hx.out _ p2
        have hfin := hide (drop.out _ _ p2)
        clear p2 hx cC
        go_wp2_with fail
        go_ret
        exact ⟨rfl, HF.out.symm ▸ hfin.out⟩
set_option maxRecDepth 100000 in
set_option maxHeartbeats 4000000 in
theorem DoL_since (n m : Int) (q : ReqV) (g x : Nat) (l : LnV) (w wr : World) (hp : LX w wr g x l l []) (hqt : 1 ≤ l.quota ∧ l.quota ≤ 100) (hlen : l.qs.length ≤ 200) (hn63 : n ≤ 9223372036854775807) :
    Calls Try.prog 33 #[.pointer (some ⟨g, 0, none⟩), .pointer (some ⟨x, 0, none⟩), .agg #[.int .i64 3, .int .i64 n, .int .i64 m, .int .i64 q.client, .int .i64 q.seq, .int .i64 q.kind, .int .i64 q.id, .int .i64 q.mat, .string q.data]] wr fun e w' => e = .returned (.bool true) ∧ LX w w' g x (l.step 3 n m q) (l.step 3 n m q) [] := by
  obtain ⟨N, hN⟩ : ∃ N, l.qs.length = N := ⟨_, rfl⟩
  obtain ⟨K, hK⟩ : ∃ K, l.k = K := ⟨_, rfl⟩
  have hKN : K ≤ N := by obtain ⟨F, hF⟩ := hp.ln; have := hF.kl; omega
  rw [hN] at hlen
  have pr := hp.alloc #[.int .i64 3, .int .i64 n, .int .i64 m, .int .i64 q.client, .int .i64 q.seq, .int .i64 q.kind, .int .i64 q.id, .int .i64 q.mat, .string q.data] 63
  have drop := hide (fun (W : World) (l' : LnV) (h : LX w W g x l' l' [(wr.heap.size, 63, #[.int .i64 3, .int .i64 n, .int .i64 m, .int .i64 q.client, .int .i64 q.seq, .int .i64 q.kind, .int .i64 q.id, .int .i64 q.mat, .string q.data])]) => h.drop (D' := []) (fun d hd => absurd hd List.not_mem_nil))
  obtain ⟨⟨y0, y1, y2, y3, y4, y5, y6, y7, y8⟩, ly⟩ := bk9 (Bk.new wr 63 #[.int .i64 3, .int .i64 n, .int .i64 m, .int .i64 q.client, .int .i64 q.seq, .int .i64 q.kind, .int .i64 q.id, .int .i64 q.mat, .string q.data])
  have HN := hide hN
  obtain ⟨L, hL⟩ : ∃ L, sinceL l.qs n m = L := ⟨_, rfl⟩
  obtain ⟨sk, hsk⟩ : ∃ k, L.length = k := ⟨_, rfl⟩
  have hsk2 : sk ≤ 200 := by rw [← hsk, ← hL]; have := sinceL_len l.qs n m; omega
  obtain ⟨b5, hb5⟩ : ∃ b, wr.heap.size = b := ⟨_, rfl⟩
  have hY0 := Bk.new wr 63 #[.int .i64 3, .int .i64 n, .int .i64 m, .int .i64 q.client, .int .i64 q.seq, .int .i64 q.kind, .int .i64 q.id, .int .i64 q.mat, .string q.data]
  obtain ⟨WB, hWB⟩ : ∃ W : World, W = wr.alloc (.cells #[.int .i64 3, .int .i64 n, .int .i64 m, .int .i64 q.client, .int .i64 q.seq, .int .i64 q.kind, .int .i64 q.id, .int .i64 q.mat, .string q.data] 63) := ⟨_, rfl⟩
  rw [← hWB] at pr hY0 y0 y1 y2 y3 y4 y5 y6 y7 y8 ly
  rw [hb5] at hY0 y0 y1 y2 y3 y4 y5 y6 y7 y8 ly drop pr
  have hY := hide (fun (W : World) (hW : Old WB W) => (⟨(bk9 (hY0.old hW)).1.2.1, (bk9 (hY0.old hW)).1.2.2.1⟩ : W.cell? ⟨b5, 1, none⟩ = some (.int .i64 n) ∧ W.cell? ⟨b5, 2, none⟩ = some (.int .i64 m)))
  have cS := hide (fun (W : World) (hW : Old WB W) => (pr.old hW).ln.elim fun F hF => by have := Since_at g F l n m sk (by rw [hL, hsk]) (by omega) W hF; rw [hL] at this; exact this)
  have cX := hide (fun (W : World) (hW : Old WB W) => (pr.old hW).xl.elim fun F hF => by have := XSince_at x F l (by omega) n m sk (by rw [hL, hsk]) W hF; rw [hL] at this; exact this)
  have cQ := hide (fun (A B : Option Addr) (ca cb : Nat) (W : World) (ha : ReqsAt W A L) (hb : ReqsAt W B L) => Reqs_same sk A B L ca cb W ha hb (by omega) hsk.symm)
  have HP := hide pr
  clear hN hK hp hqt pr hn63 hL hsk hY0
  go_enter Try.func33, Try.ntmps33
  go_wp2_with fail
  simp only [hb5, ← hWB]
  clear hWB hb5 y0 y1 y2 y3 y4 y5 y6 y7 y8 ly
  refine region_steps (R := pick [eqv (.pointer (some ⟨g, 0, none⟩)), eqv (.pointer (some ⟨b5, 1, none⟩)), eqv (.int .i64 n), eqv (.pointer (some ⟨b5, 2, none⟩)), eqv (.int .i64 m), fun v w' => ∃ A c, v = .slice A sk c ∧ ReqsAt w' A L, eqv (.pointer (some ⟨x, 0, none⟩)), eqv (.pointer (some ⟨b5, 1, none⟩)), eqv (.int .i64 n), eqv (.pointer (some ⟨b5, 2, none⟩)), eqv (.int .i64 m), fun v w' => ∃ A c, v = .slice A sk c ∧ ReqsAt w' A L, eqv (.bool true), eqv (.bool true)]) (S := fun _ w' => Old WB w') (T := Old) (by kernel_rfl) (by kernel_rfl) (by kernel_rfl) (Stab.pick (Stab.eqv (Stab.eqv (Stab.eqv (Stab.eqv (Stab.eqv (Stab.cons (fun v w w' ht ⟨A, c, h, i⟩ => ⟨A, c, h, CellsAt.old i ht⟩) (Stab.eqv (Stab.eqv (Stab.eqv (Stab.eqv (Stab.eqv (Stab.cons (fun v w w' ht ⟨A, c, h, i⟩ => ⟨A, c, h, CellsAt.old i ht⟩) (Stab.eqv (Stab.eqv (Stab.nil)))))))))))))))) ((Old.refl' _).drew') ?steps ?ends
  case steps =>
    refine StepsOk.cons (stepOk_pure [] [(0, .pointer (some ⟨g, 0, none⟩))] rfl rfl (by kernel_rfl) (by kernel_rfl) rfl Old.refl' (fun _ _ _ h => h) (fun d E w' hk hda hS hc hf => by rintro  e0; exact ⟨_, by go_simp, rfl⟩)) ?_
    refine StepsOk.cons (stepOk_pure [] [(5, .pointer (some ⟨b5, 0, none⟩))] rfl rfl (by kernel_rfl) (by kernel_rfl) rfl Old.refl' (fun _ _ _ h => h) (fun d E w' hk hda hS hc hf => by rintro  e5; exact ⟨_, by go_simp, rfl⟩)) ?_
    refine StepsOk.cons (stepOk_pure [(1, 145)] [] rfl rfl (by kernel_rfl) (by kernel_rfl) rfl Old.refl' (fun _ _ _ h => h) (fun d E w' hk hda hS hc hf => by rintro _ q1 rfl e145 ; obtain ⟨t1, t2⟩ := hY.out _ hS; exact ⟨_, by go_simp, rfl⟩)) ?_
    refine StepsOk.cons (stepOk_pure [] [(5, .pointer (some ⟨b5, 0, none⟩))] rfl rfl (by kernel_rfl) (by kernel_rfl) rfl Old.refl' (fun _ _ _ h => h) (fun d E w' hk hda hS hc hf => by rintro  e5; exact ⟨_, by go_simp, rfl⟩)) ?_
    refine StepsOk.cons (stepOk_pure [(3, 147)] [] rfl rfl (by kernel_rfl) (by kernel_rfl) rfl Old.refl' (fun _ _ _ h => h) (fun d E w' hk hda hS hc hf => by rintro _ q3 rfl e147 ; obtain ⟨t1, t2⟩ := hY.out _ hS; exact ⟨_, by go_simp, rfl⟩)) ?_
    refine StepsOk.cons (stepOk_mk [(0, 144), (2, 146), (4, 148)] [] rfl rfl (by kernel_rfl) (by kernel_rfl) rfl ?_) ?_
    · rintro d a w' hk hda hS _ q0 rfl e144 _ q2 rfl e146 _ q4 rfl e148 
      first | refine Given.nil (Known.nil ?_) | refine Known.nil ?_
      refine wp_call 20 _ Try.func20 (by kernel_rfl) (by kernel_rfl) _ _ (by rfl) [.pointer (some ⟨g, 0, none⟩), .int .i64 n, .int .i64 m] (by simp only [List.map_cons, List.map_nil, *]; try rfl) (cS.out _ hS) ?_
      rintro e w1 ⟨As, cs, rfl, ho, f4⟩
      exact ⟨_, rfl, _, rfl, ⟨As, cs, rfl, ho⟩, f4, hS.trans' f4⟩
    refine StepsOk.cons (stepOk_pure [] [(1, .pointer (some ⟨x, 0, none⟩))] rfl rfl (by kernel_rfl) (by kernel_rfl) rfl Old.refl' (fun _ _ _ h => h) (fun d E w' hk hda hS hc hf => by rintro  e1; exact ⟨_, by go_simp, rfl⟩)) ?_
    refine StepsOk.cons (stepOk_pure [] [(5, .pointer (some ⟨b5, 0, none⟩))] rfl rfl (by kernel_rfl) (by kernel_rfl) rfl Old.refl' (fun _ _ _ h => h) (fun d E w' hk hda hS hc hf => by rintro  e5; exact ⟨_, by go_simp, rfl⟩)) ?_
    refine StepsOk.cons (stepOk_pure [(7, 151)] [] rfl rfl (by kernel_rfl) (by kernel_rfl) rfl Old.refl' (fun _ _ _ h => h) (fun d E w' hk hda hS hc hf => by rintro _ q7 rfl e151 ; obtain ⟨t1, t2⟩ := hY.out _ hS; exact ⟨_, by go_simp, rfl⟩)) ?_
    refine StepsOk.cons (stepOk_pure [] [(5, .pointer (some ⟨b5, 0, none⟩))] rfl rfl (by kernel_rfl) (by kernel_rfl) rfl Old.refl' (fun _ _ _ h => h) (fun d E w' hk hda hS hc hf => by rintro  e5; exact ⟨_, by go_simp, rfl⟩)) ?_
    refine StepsOk.cons (stepOk_pure [(9, 153)] [] rfl rfl (by kernel_rfl) (by kernel_rfl) rfl Old.refl' (fun _ _ _ h => h) (fun d E w' hk hda hS hc hf => by rintro _ q9 rfl e153 ; obtain ⟨t1, t2⟩ := hY.out _ hS; exact ⟨_, by go_simp, rfl⟩)) ?_
    refine StepsOk.cons (stepOk_mk [(6, 150), (8, 152), (10, 154)] [] rfl rfl (by kernel_rfl) (by kernel_rfl) rfl ?_) ?_
    · rintro d a w' hk hda hS _ q6 rfl e150 _ q8 rfl e152 _ q10 rfl e154 
      first | refine Given.nil (Known.nil ?_) | refine Known.nil ?_
      refine wp_call 59 _ Try.func59 (by kernel_rfl) (by kernel_rfl) _ _ (by rfl) [.pointer (some ⟨x, 0, none⟩), .int .i64 n, .int .i64 m] (by simp only [List.map_cons, List.map_nil, *]; try rfl) (cX.out _ hS) ?_
      rintro e w1 ⟨Ax, cx, rfl, ho, f4⟩
      exact ⟨_, rfl, _, rfl, ⟨Ax, cx, rfl, ho⟩, f4, hS.trans' f4⟩
    refine StepsOk.cons (stepOk_mk [(5, 149), (11, 155)] [] rfl rfl (by kernel_rfl) (by kernel_rfl) rfl ?_) ?_
    · rintro d a w' hk hda hS _ q5 ⟨As, cs, rfl, is⟩ e149 _ q11 ⟨Ax, cx, rfl, ix⟩ e155 
      first | refine Given.nil (Known.nil ?_) | refine Known.nil ?_
      refine wp_call 23 _ Try.func23 (by kernel_rfl) (by kernel_rfl) _ _ (by rfl) [.slice As sk cs, .slice Ax sk cx] (by simp only [List.map_cons, List.map_nil, *]; try rfl) (cQ.out _ _ _ _ _ is ix) ?_
      rintro e w1 ⟨rfl, f4⟩
      exact ⟨_, rfl, _, rfl, rfl, f4, hS.trans' f4⟩
    refine StepsOk.cons (stepOk_pure [(12, 156)] [] rfl rfl (by kernel_rfl) (by kernel_rfl) rfl Old.refl' (fun _ _ _ h => h) (fun d E w' hk hda hS hc hf => by rintro _ q12 rfl e156 ; exact ⟨_, by go_simp, rfl⟩)) ?_
    exact StepsOk.nil
  case ends =>
    intro σ9 w9 hS9 hA9
    refine Ends.eqv (some 144) (.pointer (some ⟨g, 0, none⟩)) rfl (fun _ h => h) ?_
    refine Ends.eqv (some 145) (.pointer (some ⟨b5, 1, none⟩)) rfl (fun _ h => h) ?_
    refine Ends.eqv (some 146) (.int .i64 n) rfl (fun _ h => h) ?_
    refine Ends.eqv (some 147) (.pointer (some ⟨b5, 2, none⟩)) rfl (fun _ h => h) ?_
    refine Ends.eqv (some 148) (.int .i64 m) rfl (fun _ h => h) ?_
    refine Ends.ex (some 149) rfl ?_
    rintro _ p5 ⟨As, cs, rfl, is⟩
    refine Ends.eqv (some 150) (.pointer (some ⟨x, 0, none⟩)) rfl (fun _ h => h) ?_
    refine Ends.eqv (some 151) (.pointer (some ⟨b5, 1, none⟩)) rfl (fun _ h => h) ?_
    refine Ends.eqv (some 152) (.int .i64 n) rfl (fun _ h => h) ?_
    refine Ends.eqv (some 153) (.pointer (some ⟨b5, 2, none⟩)) rfl (fun _ h => h) ?_
    refine Ends.eqv (some 154) (.int .i64 m) rfl (fun _ h => h) ?_
    refine Ends.ex (some 155) rfl ?_
    rintro _ p11 ⟨Ax, cx, rfl, ix⟩
    refine Ends.eqv (some 156) (.bool true) rfl (fun _ h => h) ?_
    refine Ends.eqv (some 6) (.bool true) rfl (fun _ h => h) ?_
    refine Ends.nil ?_
    clear hA9
    simp only [put_lit, put_none, List.set_cons_zero, List.set_cons_succ]
    have o9 := hS9
    clear hS9
    go_wp2_with fail
    go_ret
    exact ⟨rfl, drop.out _ _ (HP.out.old o9)⟩
set_option maxRecDepth 100000 in
set_option maxHeartbeats 4000000 in
theorem DoL_find (n m : Int) (q : ReqV) (g x : Nat) (l : LnV) (w wr : World) (hp : LX w wr g x l l []) (hqt : 1 ≤ l.quota ∧ l.quota ≤ 100) (hlen : l.qs.length ≤ 200) (hn63 : n ≤ 9223372036854775807) :
    Calls Try.prog 33 #[.pointer (some ⟨g, 0, none⟩), .pointer (some ⟨x, 0, none⟩), .agg #[.int .i64 4, .int .i64 n, .int .i64 m, .int .i64 q.client, .int .i64 q.seq, .int .i64 q.kind, .int .i64 q.id, .int .i64 q.mat, .string q.data]] wr fun e w' => e = .returned (.bool true) ∧ LX w w' g x (l.step 4 n m q) (l.step 4 n m q) [] := by
  obtain ⟨N, hN⟩ : ∃ N, l.qs.length = N := ⟨_, rfl⟩
  obtain ⟨K, hK⟩ : ∃ K, l.k = K := ⟨_, rfl⟩
  have hKN : K ≤ N := by obtain ⟨F, hF⟩ := hp.ln; have := hF.kl; omega
  rw [hN] at hlen
  have pr := hp.alloc #[.int .i64 4, .int .i64 n, .int .i64 m, .int .i64 q.client, .int .i64 q.seq, .int .i64 q.kind, .int .i64 q.id, .int .i64 q.mat, .string q.data] 63
  have drop := hide (fun (W : World) (l' : LnV) (h : LX w W g x l' l' [(wr.heap.size, 63, #[.int .i64 4, .int .i64 n, .int .i64 m, .int .i64 q.client, .int .i64 q.seq, .int .i64 q.kind, .int .i64 q.id, .int .i64 q.mat, .string q.data])]) => h.drop (D' := []) (fun d hd => absurd hd List.not_mem_nil))
  obtain ⟨⟨y0, y1, y2, y3, y4, y5, y6, y7, y8⟩, ly⟩ := bk9 (Bk.new wr 63 #[.int .i64 4, .int .i64 n, .int .i64 m, .int .i64 q.client, .int .i64 q.seq, .int .i64 q.kind, .int .i64 q.id, .int .i64 q.mat, .string q.data])
  have HN := hide hN
  obtain ⟨fr, hfr⟩ : ∃ k, findR l.qs q.client q.seq = k := ⟨_, rfl⟩
  obtain ⟨fb, hfb⟩ : ∃ b, decide (fr ≠ 0) = b := ⟨_, rfl⟩
  obtain ⟨s1, hs1⟩ : ∃ v, lastSeq l.qs q.client = v := ⟨_, rfl⟩
  obtain ⟨m1, hm1⟩ : ∃ v, lastAt l.qs q.id = v := ⟨_, rfl⟩
  have cF := hide (pr.ln.elim fun F hF => by have := Find_ln g F l N q.client q.seq hN (by omega) _ hF; rw [hfr, hfb] at this; exact this)
  have cXF := hide (fun (W : World) (h : LX w W g x l l [(wr.heap.size, 63, #[.int .i64 4, .int .i64 n, .int .i64 m, .int .i64 q.client, .int .i64 q.seq, .int .i64 q.kind, .int .i64 q.id, .int .i64 q.mat, .string q.data])]) => h.xl.elim fun F hF => by have := XFind_any x F l (by omega) q.client q.seq W hF; rw [hfr, hfb] at this; exact this)
  have cS0 := hide (fun (W : World) (h : LX w W g x l l [(wr.heap.size, 63, #[.int .i64 4, .int .i64 n, .int .i64 m, .int .i64 q.client, .int .i64 q.seq, .int .i64 q.kind, .int .i64 q.id, .int .i64 q.mat, .string q.data])]) => h.ln.elim fun F hF => Seq_all g F l q.client s1 hs1 W hF)
  have cXS0 := hide (fun (W : World) (h : LX w W g x l l [(wr.heap.size, 63, #[.int .i64 4, .int .i64 n, .int .i64 m, .int .i64 q.client, .int .i64 q.seq, .int .i64 q.kind, .int .i64 q.id, .int .i64 q.mat, .string q.data])]) => h.xl.elim fun F hF => by have := XSeq_any x F l (by omega) q.client W hF; rw [hs1] at this; exact this)
  have cL0 := hide (fun (W : World) (h : LX w W g x l l [(wr.heap.size, 63, #[.int .i64 4, .int .i64 n, .int .i64 m, .int .i64 q.client, .int .i64 q.seq, .int .i64 q.kind, .int .i64 q.id, .int .i64 q.mat, .string q.data])]) => h.ln.elim fun F hF => Last_all g F l q.id m1 hm1 W hF)
  have cXL0 := hide (fun (W : World) (h : LX w W g x l l [(wr.heap.size, 63, #[.int .i64 4, .int .i64 n, .int .i64 m, .int .i64 q.client, .int .i64 q.seq, .int .i64 q.kind, .int .i64 q.id, .int .i64 q.mat, .string q.data])]) => h.xl.elim fun F hF => by have := XLast_any x F l (by omega) q.id W hF; rw [hm1] at this; exact this)
  have HP := hide pr
  clear hN hK hp hqt pr hn63 hfr hfb hs1 hm1
  go_enter Try.func33, Try.ntmps33
  go_wp2_with fail
  refine cF.out.mono ?_
  rintro e w2 ⟨rfl, b2⟩
  have p2 := HP.out.old b2
  clear y0 y1 y2 y3 y4 y5 y6 y7 y8 ly
  obtain ⟨⟨y0, y1, y2, y3, y4, y5, y6, y7, y8⟩, ly⟩ := bk9 (p2.held List.mem_cons_self)
  go_wp2_with (go_at_call 60; refine (cXF.out _ p2).mono ?_; rintro e w3 ⟨rfl, rfl⟩)
  obtain ⟨WB, hWB⟩ : ∃ W : World, W = w2 := ⟨_, rfl⟩
  rw [← hWB] at p2 y0 y1 y2 y3 y4 y5 y6 y7 y8 ly
  simp only [← hWB]
  clear hWB b2
  obtain ⟨b5, hb5⟩ : ∃ b, wr.heap.size = b := ⟨_, rfl⟩
  rw [hb5] at p2 cS0 cXS0 cL0 cXL0 drop
  simp only [hb5]
  have hY := hide (fun (W : World) (hW : Old WB W) => (by obtain ⟨⟨z0, z1, z2, z3, z4, z5, z6, z7, z8⟩, -⟩ := bk9 ((p2.old hW).held List.mem_cons_self); exact ⟨z3, z4, z6⟩ : W.cell? ⟨b5, 3, none⟩ = some (.int .i64 q.client) ∧ W.cell? ⟨b5, 4, none⟩ = some (.int .i64 q.seq) ∧ W.cell? ⟨b5, 6, none⟩ = some (.int .i64 q.id)))
  have cS := hide (fun (W : World) (hW : Old WB W) => cS0.out W (p2.old hW))
  have cXS := hide (fun (W : World) (hW : Old WB W) => cXS0.out W (p2.old hW))
  have cL := hide (fun (W : World) (hW : Old WB W) => cL0.out W (p2.old hW))
  have cXL := hide (fun (W : World) (hW : Old WB W) => cXL0.out W (p2.old hW))
  have HP2 := hide p2
  clear p2 y0 y1 y2 y3 y4 y5 y6 y7 y8 ly HP cF cXF hb5
  refine region_steps (R := pick [eqv (.int .i64 fr), eqv (.int .i64 fr), eqv (.bool true), eqv (.bool true), eqv (.bool fb), eqv (.bool fb), eqv (.bool true), eqv (.bool true), eqv (.bool true), eqv (.pointer (some ⟨g, 0, none⟩)), eqv (.pointer (some ⟨b5, 3, none⟩)), eqv (.pointer (some ⟨b5, 3, none⟩)), eqv (.int .i64 q.client), eqv (.int .i64 s1), eqv (.pointer (some ⟨x, 0, none⟩)), eqv (.pointer (some ⟨b5, 3, none⟩)), eqv (.pointer (some ⟨b5, 3, none⟩)), eqv (.int .i64 q.client), eqv (.int .i64 s1), eqv (.bool true), eqv (.bool true), eqv (.bool true), eqv (.pointer (some ⟨g, 0, none⟩)), eqv (.pointer (some ⟨b5, 3, none⟩)), eqv (.pointer (some ⟨b5, 6, none⟩)), eqv (.int .i64 q.id), eqv (.int .i64 m1), eqv (.pointer (some ⟨x, 0, none⟩)), eqv (.pointer (some ⟨b5, 3, none⟩)), eqv (.pointer (some ⟨b5, 6, none⟩)), eqv (.int .i64 q.id), eqv (.int .i64 m1), eqv (.bool true), eqv (.bool true), eqv (.bool true)]) (S := fun _ w' => Old WB w') (T := Old) (by kernel_rfl) (by kernel_rfl) (by kernel_rfl) (Stab.pick (Stab.eqv (Stab.eqv (Stab.eqv (Stab.eqv (Stab.eqv (Stab.eqv (Stab.eqv (Stab.eqv (Stab.eqv (Stab.eqv (Stab.eqv (Stab.eqv (Stab.eqv (Stab.eqv (Stab.eqv (Stab.eqv (Stab.eqv (Stab.eqv (Stab.eqv (Stab.eqv (Stab.eqv (Stab.eqv (Stab.eqv (Stab.eqv (Stab.eqv (Stab.eqv (Stab.eqv (Stab.eqv (Stab.eqv (Stab.eqv (Stab.eqv (Stab.eqv (Stab.eqv (Stab.eqv (Stab.eqv (Stab.nil))))))))))))))))))))))))))))))))))))) ((Old.refl' _).drew') ?steps ?ends
  case steps =>
    refine StepsOk.cons (stepOk_pure [] [(15, .int .i64 fr)] rfl rfl (by kernel_rfl) (by kernel_rfl) rfl Old.refl' (fun _ _ _ h => h) (fun d E w' hk hda hS hc hf => by rintro  e15; exact ⟨_, by go_simp, rfl⟩)) ?_
    refine StepsOk.cons (stepOk_pure [] [(17, .int .i64 fr)] rfl rfl (by kernel_rfl) (by kernel_rfl) rfl Old.refl' (fun _ _ _ h => h) (fun d E w' hk hda hS hc hf => by rintro  e17; exact ⟨_, by go_simp, rfl⟩)) ?_
    refine StepsOk.cons (stepOk_pure [(0, 181), (1, 182)] [] rfl rfl (by kernel_rfl) (by kernel_rfl) rfl Old.refl' (fun _ _ _ h => h) (fun d E w' hk hda hS hc hf => by rintro _ q0 rfl e181 _ q1 rfl e182 ; exact ⟨_, by go_simp, rfl⟩)) ?_
    refine StepsOk.cons (stepOk_pure [(2, 183)] [] rfl rfl (by kernel_rfl) (by kernel_rfl) rfl Old.refl' (fun _ _ _ h => h) (fun d E w' hk hda hS hc hf => by rintro _ q2 rfl e183 ; exact ⟨_, by go_simp, rfl⟩)) ?_
    refine StepsOk.cons (stepOk_pureG 3 184 true rfl rfl (by kernel_rfl) (fun _ _ h => h) [] [(16, .bool fb)] (by kernel_rfl) (by kernel_rfl) rfl Old.refl' (fun _ _ _ h => h) (fun d E w' hk hda hS hc hf => by rintro  e16; exact ⟨_, by go_simp, rfl⟩)) ?_
    refine StepsOk.cons (stepOk_pureG 3 184 true rfl rfl (by kernel_rfl) (fun _ _ h => h) [] [(18, .bool fb)] (by kernel_rfl) (by kernel_rfl) rfl Old.refl' (fun _ _ _ h => h) (fun d E w' hk hda hS hc hf => by rintro  e18; exact ⟨_, by go_simp, rfl⟩)) ?_
    refine StepsOk.cons (stepOk_pureG 3 184 true rfl rfl (by kernel_rfl) (fun _ _ h => h) [(4, 185), (5, 186)] [] (by kernel_rfl) (by kernel_rfl) rfl Old.refl' (fun _ _ _ h => h) (fun d E w' hk hda hS hc hf => by rintro _ q4 rfl e185 _ q5 rfl e186 ; exact ⟨_, by go_simp, rfl⟩)) ?_
    refine StepsOk.cons (stepOk_pure [(3, 184), (6, 187)] [] rfl rfl (by kernel_rfl) (by kernel_rfl) rfl Old.refl' (fun _ _ _ h => h) (fun d E w' hk hda hS hc hf => by rintro _ q3 rfl e184 _ q6 rfl e187 ; exact ⟨_, by go_simp, rfl⟩)) ?_
    refine StepsOk.cons (stepOk_pure [(7, 188)] [] rfl rfl (by kernel_rfl) (by kernel_rfl) rfl Old.refl' (fun _ _ _ h => h) (fun d E w' hk hda hS hc hf => by rintro _ q7 rfl e188 ; exact ⟨_, by go_simp, rfl⟩)) ?_
    refine StepsOk.cons (stepOk_pureG 8 189 true rfl rfl (by kernel_rfl) (fun _ _ h => h) [] [(0, .pointer (some ⟨g, 0, none⟩))] (by kernel_rfl) (by kernel_rfl) rfl Old.refl' (fun _ _ _ h => h) (fun d E w' hk hda hS hc hf => by rintro  e0; exact ⟨_, by go_simp, rfl⟩)) ?_
    refine StepsOk.cons (stepOk_pureG 8 189 true rfl rfl (by kernel_rfl) (fun _ _ h => h) [] [(5, .pointer (some ⟨b5, 0, none⟩))] (by kernel_rfl) (by kernel_rfl) rfl Old.refl' (fun _ _ _ h => h) (fun d E w' hk hda hS hc hf => by rintro  e5; exact ⟨_, by go_simp, rfl⟩)) ?_
    refine StepsOk.cons (stepOk_pureG 8 189 true rfl rfl (by kernel_rfl) (fun _ _ h => h) [(10, 191)] [] (by kernel_rfl) (by kernel_rfl) rfl Old.refl' (fun _ _ _ h => h) (fun d E w' hk hda hS hc hf => by rintro _ q10 rfl e191 ; exact ⟨_, by go_simp, rfl⟩)) ?_
    refine StepsOk.cons (stepOk_pureG 8 189 true rfl rfl (by kernel_rfl) (fun _ _ h => h) [(11, 192)] [] (by kernel_rfl) (by kernel_rfl) rfl Old.refl' (fun _ _ _ h => h) (fun d E w' hk hda hS hc hf => by rintro _ q11 rfl e192 ; obtain ⟨t3, t4, t6⟩ := hY.out _ hS; exact ⟨_, by go_simp, rfl⟩)) ?_
    refine StepsOk.cons (stepOk_guard 8 189 true rfl rfl (by kernel_rfl) (fun _ _ h => h) [(9, 190), (12, 193)] [] (by kernel_rfl) (by kernel_rfl) rfl ?_) ?_
    · rintro d a w' hk hda hS _ q9 rfl e190 _ q12 rfl e193 
      first | refine Given.nil (Known.nil ?_) | refine Known.nil ?_
      refine wp_call 21 _ Try.func21 (by kernel_rfl) (by kernel_rfl) _ _ (by rfl) [.pointer (some ⟨g, 0, none⟩), .int .i64 q.client] (by simp only [List.map_cons, List.map_nil, *]; try rfl) (cS.out _ hS) ?_
      rintro e w1 ⟨rfl, rfl⟩
      exact ⟨_, rfl, _, rfl, rfl, Old.refl' _, hS⟩
    refine StepsOk.cons (stepOk_pureG 8 189 true rfl rfl (by kernel_rfl) (fun _ _ h => h) [] [(1, .pointer (some ⟨x, 0, none⟩))] (by kernel_rfl) (by kernel_rfl) rfl Old.refl' (fun _ _ _ h => h) (fun d E w' hk hda hS hc hf => by rintro  e1; exact ⟨_, by go_simp, rfl⟩)) ?_
    refine StepsOk.cons (stepOk_pureG 8 189 true rfl rfl (by kernel_rfl) (fun _ _ h => h) [] [(5, .pointer (some ⟨b5, 0, none⟩))] (by kernel_rfl) (by kernel_rfl) rfl Old.refl' (fun _ _ _ h => h) (fun d E w' hk hda hS hc hf => by rintro  e5; exact ⟨_, by go_simp, rfl⟩)) ?_
    refine StepsOk.cons (stepOk_pureG 8 189 true rfl rfl (by kernel_rfl) (fun _ _ h => h) [(15, 196)] [] (by kernel_rfl) (by kernel_rfl) rfl Old.refl' (fun _ _ _ h => h) (fun d E w' hk hda hS hc hf => by rintro _ q15 rfl e196 ; exact ⟨_, by go_simp, rfl⟩)) ?_
    refine StepsOk.cons (stepOk_pureG 8 189 true rfl rfl (by kernel_rfl) (fun _ _ h => h) [(16, 197)] [] (by kernel_rfl) (by kernel_rfl) rfl Old.refl' (fun _ _ _ h => h) (fun d E w' hk hda hS hc hf => by rintro _ q16 rfl e197 ; obtain ⟨t3, t4, t6⟩ := hY.out _ hS; exact ⟨_, by go_simp, rfl⟩)) ?_
    refine StepsOk.cons (stepOk_guard 8 189 true rfl rfl (by kernel_rfl) (fun _ _ h => h) [(14, 195), (17, 198)] [] (by kernel_rfl) (by kernel_rfl) rfl ?_) ?_
    · rintro d a w' hk hda hS _ q14 rfl e195 _ q17 rfl e198 
      first | refine Given.nil (Known.nil ?_) | refine Known.nil ?_
      refine wp_call 61 _ Try.func61 (by kernel_rfl) (by kernel_rfl) _ _ (by rfl) [.pointer (some ⟨x, 0, none⟩), .int .i64 q.client] (by simp only [List.map_cons, List.map_nil, *]; try rfl) (cXS.out _ hS) ?_
      rintro e w1 ⟨rfl, rfl⟩
      exact ⟨_, rfl, _, rfl, rfl, Old.refl' _, hS⟩
    refine StepsOk.cons (stepOk_pureG 8 189 true rfl rfl (by kernel_rfl) (fun _ _ h => h) [(13, 194), (18, 199)] [] (by kernel_rfl) (by kernel_rfl) rfl Old.refl' (fun _ _ _ h => h) (fun d E w' hk hda hS hc hf => by rintro _ q13 rfl e194 _ q18 rfl e199 ; exact ⟨_, by go_simp, rfl⟩)) ?_
    refine StepsOk.cons (stepOk_pure [(8, 189), (19, 200)] [] rfl rfl (by kernel_rfl) (by kernel_rfl) rfl Old.refl' (fun _ _ _ h => h) (fun d E w' hk hda hS hc hf => by rintro _ q8 rfl e189 _ q19 rfl e200 ; exact ⟨_, by go_simp, rfl⟩)) ?_
    refine StepsOk.cons (stepOk_pure [(20, 201)] [] rfl rfl (by kernel_rfl) (by kernel_rfl) rfl Old.refl' (fun _ _ _ h => h) (fun d E w' hk hda hS hc hf => by rintro _ q20 rfl e201 ; exact ⟨_, by go_simp, rfl⟩)) ?_
    refine StepsOk.cons (stepOk_pureG 21 202 true rfl rfl (by kernel_rfl) (fun _ _ h => h) [] [(0, .pointer (some ⟨g, 0, none⟩))] (by kernel_rfl) (by kernel_rfl) rfl Old.refl' (fun _ _ _ h => h) (fun d E w' hk hda hS hc hf => by rintro  e0; exact ⟨_, by go_simp, rfl⟩)) ?_
    refine StepsOk.cons (stepOk_pureG 21 202 true rfl rfl (by kernel_rfl) (fun _ _ h => h) [] [(5, .pointer (some ⟨b5, 0, none⟩))] (by kernel_rfl) (by kernel_rfl) rfl Old.refl' (fun _ _ _ h => h) (fun d E w' hk hda hS hc hf => by rintro  e5; exact ⟨_, by go_simp, rfl⟩)) ?_
    refine StepsOk.cons (stepOk_pureG 21 202 true rfl rfl (by kernel_rfl) (fun _ _ h => h) [(23, 204)] [] (by kernel_rfl) (by kernel_rfl) rfl Old.refl' (fun _ _ _ h => h) (fun d E w' hk hda hS hc hf => by rintro _ q23 rfl e204 ; exact ⟨_, by go_simp, rfl⟩)) ?_
    refine StepsOk.cons (stepOk_pureG 21 202 true rfl rfl (by kernel_rfl) (fun _ _ h => h) [(24, 205)] [] (by kernel_rfl) (by kernel_rfl) rfl Old.refl' (fun _ _ _ h => h) (fun d E w' hk hda hS hc hf => by rintro _ q24 rfl e205 ; obtain ⟨t3, t4, t6⟩ := hY.out _ hS; exact ⟨_, by go_simp, rfl⟩)) ?_
    refine StepsOk.cons (stepOk_guard 21 202 true rfl rfl (by kernel_rfl) (fun _ _ h => h) [(22, 203), (25, 206)] [] (by kernel_rfl) (by kernel_rfl) rfl ?_) ?_
    · rintro d a w' hk hda hS _ q22 rfl e203 _ q25 rfl e206 
      first | refine Given.nil (Known.nil ?_) | refine Known.nil ?_
      refine wp_call 22 _ Try.func22 (by kernel_rfl) (by kernel_rfl) _ _ (by rfl) [.pointer (some ⟨g, 0, none⟩), .int .i64 q.id] (by simp only [List.map_cons, List.map_nil, *]; try rfl) (cL.out _ hS) ?_
      rintro e w1 ⟨rfl, rfl⟩
      exact ⟨_, rfl, _, rfl, rfl, Old.refl' _, hS⟩
    refine StepsOk.cons (stepOk_pureG 21 202 true rfl rfl (by kernel_rfl) (fun _ _ h => h) [] [(1, .pointer (some ⟨x, 0, none⟩))] (by kernel_rfl) (by kernel_rfl) rfl Old.refl' (fun _ _ _ h => h) (fun d E w' hk hda hS hc hf => by rintro  e1; exact ⟨_, by go_simp, rfl⟩)) ?_
    refine StepsOk.cons (stepOk_pureG 21 202 true rfl rfl (by kernel_rfl) (fun _ _ h => h) [] [(5, .pointer (some ⟨b5, 0, none⟩))] (by kernel_rfl) (by kernel_rfl) rfl Old.refl' (fun _ _ _ h => h) (fun d E w' hk hda hS hc hf => by rintro  e5; exact ⟨_, by go_simp, rfl⟩)) ?_
    refine StepsOk.cons (stepOk_pureG 21 202 true rfl rfl (by kernel_rfl) (fun _ _ h => h) [(28, 209)] [] (by kernel_rfl) (by kernel_rfl) rfl Old.refl' (fun _ _ _ h => h) (fun d E w' hk hda hS hc hf => by rintro _ q28 rfl e209 ; exact ⟨_, by go_simp, rfl⟩)) ?_
    refine StepsOk.cons (stepOk_pureG 21 202 true rfl rfl (by kernel_rfl) (fun _ _ h => h) [(29, 210)] [] (by kernel_rfl) (by kernel_rfl) rfl Old.refl' (fun _ _ _ h => h) (fun d E w' hk hda hS hc hf => by rintro _ q29 rfl e210 ; obtain ⟨t3, t4, t6⟩ := hY.out _ hS; exact ⟨_, by go_simp, rfl⟩)) ?_
    refine StepsOk.cons (stepOk_guard 21 202 true rfl rfl (by kernel_rfl) (fun _ _ h => h) [(27, 208), (30, 211)] [] (by kernel_rfl) (by kernel_rfl) rfl ?_) ?_
    · rintro d a w' hk hda hS _ q27 rfl e208 _ q30 rfl e211 
      first | refine Given.nil (Known.nil ?_) | refine Known.nil ?_
      refine wp_call 62 _ Try.func62 (by kernel_rfl) (by kernel_rfl) _ _ (by rfl) [.pointer (some ⟨x, 0, none⟩), .int .i64 q.id] (by simp only [List.map_cons, List.map_nil, *]; try rfl) (cXL.out _ hS) ?_
      rintro e w1 ⟨rfl, rfl⟩
      exact ⟨_, rfl, _, rfl, rfl, Old.refl' _, hS⟩
    refine StepsOk.cons (stepOk_pureG 21 202 true rfl rfl (by kernel_rfl) (fun _ _ h => h) [(26, 207), (31, 212)] [] (by kernel_rfl) (by kernel_rfl) rfl Old.refl' (fun _ _ _ h => h) (fun d E w' hk hda hS hc hf => by rintro _ q26 rfl e207 _ q31 rfl e212 ; exact ⟨_, by go_simp, rfl⟩)) ?_
    refine StepsOk.cons (stepOk_pure [(21, 202), (32, 213)] [] rfl rfl (by kernel_rfl) (by kernel_rfl) rfl Old.refl' (fun _ _ _ h => h) (fun d E w' hk hda hS hc hf => by rintro _ q21 rfl e202 _ q32 rfl e213 ; exact ⟨_, by go_simp, rfl⟩)) ?_
    refine StepsOk.cons (stepOk_pure [(33, 214)] [] rfl rfl (by kernel_rfl) (by kernel_rfl) rfl Old.refl' (fun _ _ _ h => h) (fun d E w' hk hda hS hc hf => by rintro _ q33 rfl e214 ; exact ⟨_, by go_simp, rfl⟩)) ?_
    exact StepsOk.nil
  case ends =>
    intro σ9 w9 hS9 hA9
    refine Ends.eqv (some 181) (.int .i64 fr) rfl (fun _ h => h) ?_
    refine Ends.eqv (some 182) (.int .i64 fr) rfl (fun _ h => h) ?_
    refine Ends.eqv (some 183) (.bool true) rfl (fun _ h => h) ?_
    refine Ends.eqv (some 184) (.bool true) rfl (fun _ h => h) ?_
    refine Ends.eqv (some 185) (.bool fb) rfl (fun _ h => h) ?_
    refine Ends.eqv (some 186) (.bool fb) rfl (fun _ h => h) ?_
    refine Ends.eqv (some 187) (.bool true) rfl (fun _ h => h) ?_
    refine Ends.eqv (some 188) (.bool true) rfl (fun _ h => h) ?_
    refine Ends.eqv (some 189) (.bool true) rfl (fun _ h => h) ?_
    refine Ends.eqv (some 190) (.pointer (some ⟨g, 0, none⟩)) rfl (fun _ h => h) ?_
    refine Ends.eqv (some 191) (.pointer (some ⟨b5, 3, none⟩)) rfl (fun _ h => h) ?_
    refine Ends.eqv (some 192) (.pointer (some ⟨b5, 3, none⟩)) rfl (fun _ h => h) ?_
    refine Ends.eqv (some 193) (.int .i64 q.client) rfl (fun _ h => h) ?_
    refine Ends.eqv (some 194) (.int .i64 s1) rfl (fun _ h => h) ?_
    refine Ends.eqv (some 195) (.pointer (some ⟨x, 0, none⟩)) rfl (fun _ h => h) ?_
    refine Ends.eqv (some 196) (.pointer (some ⟨b5, 3, none⟩)) rfl (fun _ h => h) ?_
    refine Ends.eqv (some 197) (.pointer (some ⟨b5, 3, none⟩)) rfl (fun _ h => h) ?_
    refine Ends.eqv (some 198) (.int .i64 q.client) rfl (fun _ h => h) ?_
    refine Ends.eqv (some 199) (.int .i64 s1) rfl (fun _ h => h) ?_
    refine Ends.eqv (some 200) (.bool true) rfl (fun _ h => h) ?_
    refine Ends.eqv (some 201) (.bool true) rfl (fun _ h => h) ?_
    refine Ends.eqv (some 202) (.bool true) rfl (fun _ h => h) ?_
    refine Ends.eqv (some 203) (.pointer (some ⟨g, 0, none⟩)) rfl (fun _ h => h) ?_
    refine Ends.eqv (some 204) (.pointer (some ⟨b5, 3, none⟩)) rfl (fun _ h => h) ?_
    refine Ends.eqv (some 205) (.pointer (some ⟨b5, 6, none⟩)) rfl (fun _ h => h) ?_
    refine Ends.eqv (some 206) (.int .i64 q.id) rfl (fun _ h => h) ?_
    refine Ends.eqv (some 207) (.int .i64 m1) rfl (fun _ h => h) ?_
    refine Ends.eqv (some 208) (.pointer (some ⟨x, 0, none⟩)) rfl (fun _ h => h) ?_
    refine Ends.eqv (some 209) (.pointer (some ⟨b5, 3, none⟩)) rfl (fun _ h => h) ?_
    refine Ends.eqv (some 210) (.pointer (some ⟨b5, 6, none⟩)) rfl (fun _ h => h) ?_
    refine Ends.eqv (some 211) (.int .i64 q.id) rfl (fun _ h => h) ?_
    refine Ends.eqv (some 212) (.int .i64 m1) rfl (fun _ h => h) ?_
    refine Ends.eqv (some 213) (.bool true) rfl (fun _ h => h) ?_
    refine Ends.eqv (some 214) (.bool true) rfl (fun _ h => h) ?_
    refine Ends.eqv (some 6) (.bool true) rfl (fun _ h => h) ?_
    refine Ends.nil ?_
    clear hA9
    simp only [put_lit, put_none, List.set_cons_zero, List.set_cons_succ]
    have o9 := hS9
    clear hS9
    go_wp2_with fail
    go_ret
    exact ⟨rfl, drop.out _ _ (HP2.out.old o9)⟩
set_option maxRecDepth 100000 in
set_option maxHeartbeats 4000000 in
theorem DoL_rep (n m : Int) (q : ReqV) (g x : Nat) (l : LnV) (w wr : World) (hp : LX w wr g x l l []) (hqt : 1 ≤ l.quota ∧ l.quota ≤ 100) (hlen : l.qs.length ≤ 200) (hn63 : n ≤ 9223372036854775807) :
    Calls Try.prog 33 #[.pointer (some ⟨g, 0, none⟩), .pointer (some ⟨x, 0, none⟩), .agg #[.int .i64 5, .int .i64 n, .int .i64 m, .int .i64 q.client, .int .i64 q.seq, .int .i64 q.kind, .int .i64 q.id, .int .i64 q.mat, .string q.data]] wr fun e w' => e = .returned (.bool true) ∧ LX w w' g x (l.step 5 n m q) (l.step 5 n m q) [] := by
  obtain ⟨N, hN⟩ : ∃ N, l.qs.length = N := ⟨_, rfl⟩
  obtain ⟨K, hK⟩ : ∃ K, l.k = K := ⟨_, rfl⟩
  have hKN : K ≤ N := by obtain ⟨F, hF⟩ := hp.ln; have := hF.kl; omega
  rw [hN] at hlen
  have pr := hp.alloc #[.int .i64 5, .int .i64 n, .int .i64 m, .int .i64 q.client, .int .i64 q.seq, .int .i64 q.kind, .int .i64 q.id, .int .i64 q.mat, .string q.data] 63
  have drop := hide (fun (W : World) (l' : LnV) (h : LX w W g x l' l' [(wr.heap.size, 63, #[.int .i64 5, .int .i64 n, .int .i64 m, .int .i64 q.client, .int .i64 q.seq, .int .i64 q.kind, .int .i64 q.id, .int .i64 q.mat, .string q.data])]) => h.drop (D' := []) (fun d hd => absurd hd List.not_mem_nil))
  obtain ⟨⟨y0, y1, y2, y3, y4, y5, y6, y7, y8⟩, ly⟩ := bk9 (Bk.new wr 63 #[.int .i64 5, .int .i64 n, .int .i64 m, .int .i64 q.client, .int .i64 q.seq, .int .i64 q.kind, .int .i64 q.id, .int .i64 q.mat, .string q.data])
  have HN := hide hN
  obtain ⟨A, ca, c1, -, -, hxl, -⟩ := pr.cells hN hK
  obtain ⟨r1, hr1⟩ : ∃ r, bits .and .i64 m 1 = r := ⟨_, rfl⟩
  have hN200 : (N : Int) ≤ 200 := by omega
  have hnu : IntKind.u64.wrap ((N : Int) + 1) = (N : Int) + 1 := by rw [IntKind.wrap_u64]; omega
  have hnz : ¬ ((N : Int) + 1 = 0) := by omega
  have HP := hide pr
  have HKN := hide (show l.k ≤ l.qs.length by omega)
  clear hp hqt pr hn63 hN hK
  go_enter Try.func33, Try.ntmps33
  go_upto_if 222 with fail
  go_cut [19] from 223 to 236 (fun v w' => (∃ a : Int, v = .int .i64 a) ∧ LX w w' g x l l [(wr.heap.size, 63, #[.int .i64 5, .int .i64 n, .int .i64 m, .int .i64 q.client, .int .i64 q.seq, .int .i64 q.kind, .int .i64 q.id, .int .i64 q.mat, .string q.data])])
  case first =>
    by_cases hz : r1 = 0
    · subst hz
      go_wp2_with fail
      go_quiet (fail)
      go_wp2_with fail
      go_meet
      case rel => exact ⟨⟨_, rfl⟩, HP.out.old (DN _ _)⟩
    · go_wp2_with fail
      go_meet
      case rel => exact ⟨⟨_, rfl⟩, HP.out⟩
  case rest =>
    obtain ⟨W2, rfl⟩ : ∃ W, W = wc := ⟨_, rfl⟩
    obtain ⟨⟨a, rfl⟩, pr⟩ := hcut
    obtain ⟨c0, hc0⟩ : ∃ v, (l.repR a).code = v := ⟨_, rfl⟩
    obtain ⟨v0, hv0⟩ : ∃ v, (l.repR a).ver = v := ⟨_, rfl⟩
    obtain ⟨d0, hd0⟩ : ∃ v, (l.repR a).data = v := ⟨_, rfl⟩
    obtain ⟨E, hE⟩ : ∃ v, l.repE a = v := ⟨_, rfl⟩
    have cR := hide (pr.ln.elim fun F hF => LRep_all g F l a c0 v0 E d0 hc0 hv0 hd0 hE (by rw [HN.out]; omega) _ hF)
    have cX := hide (fun (W : World) (h : LX w W g x l l [(wr.heap.size, 63, #[.int .i64 5, .int .i64 n, .int .i64 m, .int .i64 q.client, .int .i64 q.seq, .int .i64 q.kind, .int .i64 q.id, .int .i64 q.mat, .string q.data])]) => h.xl.elim fun F hF => XRep_all x F l a HKN.out c0 v0 E d0 hc0 hv0 hd0 hE (by rw [HN.out]; omega) W hF)
    have cS := hide (fun (A B : Option Addr) (ca cb : Nat) (W : World) => Same_none5 ⟨c0, v0, d0, []⟩ A B ca cb W)
    have HP := hide pr
    clear y0 y1 y2 y3 y4 y5 y6 y7 y8 ly c1 hr1 hnu hnz hc0 hv0 hd0 hE pr
    go_wp2_with fail
    refine cR.out.mono ?_
    rintro e w4 ⟨A4, c4, rfl, b4⟩
    have p4 := (HP.out.old b4).old ((Old.refl' w4).alloc' (.cells #[.int .i64 c0, .int .i64 v0, .string d0, .slice A4 0 c4] 32))
    have k4 := Bk.new w4 32 #[.int .i64 c0, .int .i64 v0, .string d0, .slice A4 0 c4]
    go_wp2_with fail
    refine (cX.out _ p4).mono ?_
    rintro e w6 ⟨A6, c6, rfl, b6⟩
    have k5 := (k4.old b6).alloc (.cells #[.int .i64 c0, .int .i64 v0, .string d0, .slice A6 0 c6] 32)
    have k6 := Bk.new w6 32 #[.int .i64 c0, .int .i64 v0, .string d0, .slice A6 0 c6]
    have p7 := (p4.old b6).old ((Old.refl' w6).alloc' (.cells #[.int .i64 c0, .int .i64 v0, .string d0, .slice A6 0 c6] 32))
    obtain ⟨b7, hb7⟩ : ∃ b, w4.heap.size = b := ⟨_, rfl⟩
    simp only [hb7] at k5 ⊢
    obtain ⟨⟨z0, z1, z2, z3⟩, -, lz⟩ := bk4 k5
    obtain ⟨⟨u0, u1, u2, u3⟩, -, lu⟩ := bk4 k6
    clear p4 k4 k5 k6 hb7 b4
    go_wp2_with (go_at_call 29; (with_reducible refine (cS.out A4 A6 c4 c6 _).mono ?_); rintro e w8 ⟨rfl, b8⟩)
    go_ret
    exact ⟨rfl, drop.out _ _ (p7.old b8)⟩
set_option maxRecDepth 100000 in
set_option maxHeartbeats 4000000 in
theorem DoL_sto (kd : Int) (n m : Int) (q : ReqV) (g x : Nat) (l : LnV) (w wr : World) (hp : LX w wr g x l l []) (hqt : 1 ≤ l.quota ∧ l.quota ≤ 100) (hlen : l.qs.length ≤ 200) (hn63 : n ≤ 9223372036854775807) (h0 : kd ≠ 0) (h1 : kd ≠ 1) (h2 : kd ≠ 2) (h3 : kd ≠ 3) (h4 : kd ≠ 4) (h5 : kd ≠ 5) :
    Calls Try.prog 33 #[.pointer (some ⟨g, 0, none⟩), .pointer (some ⟨x, 0, none⟩), .agg #[.int .i64 kd, .int .i64 n, .int .i64 m, .int .i64 q.client, .int .i64 q.seq, .int .i64 q.kind, .int .i64 q.id, .int .i64 q.mat, .string q.data]] wr fun e w' => e = .returned (.bool true) ∧ LX w w' g x (l.step kd n m q) (l.step kd n m q) [] := by
  obtain ⟨N, hN⟩ : ∃ N, l.qs.length = N := ⟨_, rfl⟩
  obtain ⟨K, hK⟩ : ∃ K, l.k = K := ⟨_, rfl⟩
  have hKN : K ≤ N := by obtain ⟨F, hF⟩ := hp.ln; have := hF.kl; omega
  rw [hN] at hlen
  have pr := hp.alloc #[.int .i64 kd, .int .i64 n, .int .i64 m, .int .i64 q.client, .int .i64 q.seq, .int .i64 q.kind, .int .i64 q.id, .int .i64 q.mat, .string q.data] 63
  have drop := hide (fun (W : World) (l' : LnV) (h : LX w W g x l' l' [(wr.heap.size, 63, #[.int .i64 kd, .int .i64 n, .int .i64 m, .int .i64 q.client, .int .i64 q.seq, .int .i64 q.kind, .int .i64 q.id, .int .i64 q.mat, .string q.data])]) => h.drop (D' := []) (fun d hd => absurd hd List.not_mem_nil))
  obtain ⟨⟨y0, y1, y2, y3, y4, y5, y6, y7, y8⟩, ly⟩ := bk9 (Bk.new wr 63 #[.int .i64 kd, .int .i64 n, .int .i64 m, .int .i64 q.client, .int .i64 q.seq, .int .i64 q.kind, .int .i64 q.id, .int .i64 q.mat, .string q.data])
  have HN := hide hN
  obtain ⟨st, hst⟩ : ∃ s, l.st = s := ⟨_, rfl⟩
  have hs2 : runS l.quota (l.qs.take K) = st := by rw [← hst, ← hK]; rfl
  obtain ⟨hok, hsn, -⟩ := runS_ok l.quota (l.qs.take K)
  have hvs := runS_vsL l.quota (l.qs.take K)
  rw [hs2] at hok hsn hvs
  rw [List.length_take] at hsn
  have cS := hide (pr.ln.elim fun F hF => by have := LSto_ln g F l hqt (by omega) _ hF; rw [hst] at this; exact this)
  have cF := hide (fun (W : World) (h : LX w W g x l l [(wr.heap.size, 63, #[.int .i64 kd, .int .i64 n, .int .i64 m, .int .i64 q.client, .int .i64 q.seq, .int .i64 q.kind, .int .i64 q.id, .int .i64 q.mat, .string q.data])]) => h.xl.elim fun F hF => by have := XFirst_any x F l (by omega) K (by omega) W hF; rw [hs2] at this; exact this)
  have cE := hide (fun (W1 W2 W : World) (gs gx : Nat) (h : One W1 W gs st) (h' : OneX W2 W gx st) => h.elim fun F hF => h'.sd.elim fun G hG => Same5_st gs gx F G st (by omega) hok hvs W hF.1 hG)
  have hX := hide (fun (W : World) (h : LX w W g x l l [(wr.heap.size, 63, #[.int .i64 kd, .int .i64 n, .int .i64 m, .int .i64 q.client, .int .i64 q.seq, .int .i64 q.kind, .int .i64 q.id, .int .i64 q.mat, .string q.data])]) => h.cells hN hK)
  have HP := hide pr
  have HF := hide (show l.step kd n m q = l by unfold LnV.step; rw [if_neg h0, if_neg h1, if_neg h2])
  have e0 : (kd == 0) = false := by simpa using h0
  have e1 : (kd == 1) = false := by simpa using h1
  have e2 : (kd == 2) = false := by simpa using h2
  have e3 : (kd == 3) = false := by simpa using h3
  have e4 : (kd == 4) = false := by simpa using h4
  have e5 : (kd == 5) = false := by simpa using h5
  clear hN hK hp hqt pr hn63 hst hs2 hok hsn hvs h0 h1 h2 h3 h4 h5
  go_enter Try.func33, Try.ntmps33
  go_wp2_with fail
  refine cS.out.mono ?_
  rintro e w2 ⟨gs, rfl, s2⟩
  have p2 := HP.out.old s2.o
  obtain ⟨A2, ca2, c1, c2, -, hxl2, -⟩ := hX.out _ p2
  clear y0 y1 y2 y3 y4 y5 y6 y7 y8 ly
  go_wp2_with (first
    | (go_at_call 65; refine (cF.out _ p2).mono ?_; rintro e w3 ⟨gx, rfl, s3⟩; have s4 := s2.old s3.o; have p3 := p2.old s3.o)
    | (go_at_call 64; refine (cE.out _ _ _ gs gx s4 s3).mono ?_; rintro e w4 ⟨rfl, b4⟩))
  go_ret
  exact ⟨rfl, HF.out.symm ▸ drop.out _ _ (p3.old b4)⟩

theorem DoL_any (kd n m : Int) (q : ReqV) (g x : Nat) (l : LnV) (w wr : World) (hp : LX w wr g x l l []) (hqt : 1 ≤ l.quota ∧ l.quota ≤ 100) (hlen : l.qs.length ≤ 200) (hn63 : n ≤ 9223372036854775807) :
    Calls Try.prog 33 #[.pointer (some ⟨g, 0, none⟩), .pointer (some ⟨x, 0, none⟩), .agg #[.int .i64 kd, .int .i64 n, .int .i64 m, .int .i64 q.client, .int .i64 q.seq, .int .i64 q.kind, .int .i64 q.id, .int .i64 q.mat, .string q.data]] wr fun e w' => e = .returned (.bool true) ∧ LX w w' g x (l.step kd n m q) (l.step kd n m q) [] := by
  by_cases h0 : kd = 0
  · subst h0; exact DoL_put n m q g x l w wr hp hqt hlen hn63
  by_cases h1 : kd = 1
  · subst h1; exact DoL_take n m q g x l w wr hp hqt hlen hn63
  by_cases h2 : kd = 2
  · subst h2; exact DoL_com n m q g x l w wr hp hqt hlen hn63
  by_cases h3 : kd = 3
  · subst h3; exact DoL_since n m q g x l w wr hp hqt hlen hn63
  by_cases h4 : kd = 4
  · subst h4; exact DoL_find n m q g x l w wr hp hqt hlen hn63
  by_cases h5 : kd = 5
  · subst h5; exact DoL_rep n m q g x l w wr hp hqt hlen hn63
  exact DoL_sto kd n m q g x l w wr hp hqt hlen hn63 h0 h1 h2 h3 h4 h5
end Go.Proofs.Ytmhnlpilbbfgnaa
