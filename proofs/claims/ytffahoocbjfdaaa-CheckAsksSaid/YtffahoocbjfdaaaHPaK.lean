/- past.Past.Ask. -/
import Derived.Test.YtffahoocbjfdaaaHPaA
import Derived.Test.YtffahoocbjfdaaaHBs
namespace Go.Proofs.Ytffahoocbjfdaaa
open Go.RowKit
set_option maxHeartbeats 400000 in
theorem Newer_at (c s k i m : Int) (d : ByteArray) (n : Int) (b1 b : Bool) (h1 : mayQ c s k i m d = b1) (hb : (b1 && decide (n < s)) = b) (w : World) :
    Calls Try.prog 51 #[.agg #[.int .i64 c, .int .i64 s, .int .i64 k, .int .i64 i, .int .i64 m, .string d], .int .i64 n] w fun e w' => e = .returned (.bool b) ∧ Old w w' := by
  have cM := hide (fun W => iMay_at c s k i m d b1 h1 W)
  have hbk := Bk.new w 24 #[.int .i64 c, .int .i64 s, .int .i64 k, .int .i64 i, .int .i64 m, .string d]
  clear h1
  by_cases hlt : n < s
  all_goals
    cases b1 <;> simp [hlt] at hb <;> subst hb
    all_goals
      go_enter Try.func51, Try.ntmps51
      go_wp2_with (go_at_call 45; refine (cM.out _).mono ?_; rintro e w1 ⟨rfl, hb1⟩; obtain ⟨⟨x0, x1, x2, x3, x4, x5⟩, l1⟩ := bk6 (hbk.old hb1))
      go_ret
      exact ⟨by first | rfl | simp [hlt] | simp, ((Old.refl' w).alloc' _).trans' hb1⟩
theorem own_lt8 {w : World} {e : TypeId} {size n : Nat} {V : Value} {xs : List Value} (h : w.ownsRow 0 e size V n xs) {b : Nat} (hb : V.ownBlock = some b) : b < w.heap.size := (own_blk h hb).2.elim fun _ h => h.lt
theorem info_Act : (Try.prog.info? 45).map (fun i => (i.zero, i.size, i.bytes)) = some (some (.agg #[.int .i64 0, .int .i64 0, .bool false, .int .i64 0, .int .i64 0, .int .i64 0, .int .i64 0, .int .i64 0, .string { data := #[] }, .int .i64 0, .int .i64 0, .string { data := #[] }, .slice none 0 0, .int .i64 0]), 14, 144) := by kernel_rfl
theorem mayQ_b {c s k i m : Int} {d : ByteArray} (h : mayQ c s k i m d = true) : (0 ≤ c ∧ c ≤ 3) ∧ (1 ≤ s ∧ s ≤ 1073741824) ∧ (0 ≤ i ∧ i ≤ 31) ∧ (0 ≤ m ∧ m ≤ 100) := by
  simp only [mayQ, Bool.and_eq_true, decide_eq_true_eq] at h
  omega
set_option maxRecDepth 100000 in
set_option maxHeartbeats 1000000 in
theorem PAsk_arg (p : Nat) (q : ReqV) (hq : q.q.may = false) (w : World) :
    Calls Try.prog 38 #[.pointer (some ⟨p, 0, none⟩), .agg #[.int .i64 q.client, .int .i64 q.seq, .int .i64 q.kind, .int .i64 q.id, .int .i64 q.mat, .string q.data]] w fun e w' => e = .returned (.int .i64 1) ∧ Old w w' := by
  obtain ⟨c, s, k, i, m, dt⟩ := q
  simp only [ReqV.q, Q.may] at hq
  have cM := hide (fun (W : World) => iMay_at c s k i m dt false hq W)
  have hX := hide (fun (W : World) (h : Old (w.alloc (.cells #[.int .i64 c, .int .i64 s, .int .i64 k, .int .i64 i, .int .i64 m, .string dt] 24)) W) => bk6 ((Bk.new w 24 #[.int .i64 c, .int .i64 s, .int .i64 k, .int .i64 i, .int .i64 m, .string dt]).old h))
  clear hq
  go_enter Try.func38, Try.ntmps38
  go_wp2_with (go_at_call 45; refine (cM.out _).mono ?_; rintro e w1 ⟨rfl, hbb⟩; obtain ⟨⟨x0, x1, x2, x3, x4, x5⟩, l1⟩ := hX.out _ hbb)
  go_ret
  exact ⟨rfl, ((Old.refl' w).alloc' _).trans' hbb⟩
set_option maxRecDepth 100000 in
set_option maxHeartbeats 2000000 in
theorem PAsk_state (p : Nat) (F : Nat → Prop) (st : PV) (q : ReqV) (hq : q.q.may = true) (r : ReqV) (hw : st.wait q.client = some r) (w : World) (h : PaAt w p F st) :
    Calls Try.prog 38 #[.pointer (some ⟨p, 0, none⟩), .agg #[.int .i64 q.client, .int .i64 q.seq, .int .i64 q.kind, .int .i64 q.id, .int .i64 q.mat, .string q.data]] w fun e w' => e = .returned (.int .i64 4) ∧ Old w w' := by
  obtain ⟨c, s, k, i, m, dt⟩ := q
  simp only [ReqV.q, Q.may] at hq hw
  obtain ⟨⟨c0, c3⟩, -, -, -⟩ := mayQ_b hq
  obtain ⟨c, rfl⟩ : ∃ n : Nat, c = n := ⟨c.toNat, by omega⟩
  obtain ⟨⟨cs, V, xs, hB, hC, hV⟩, gF, hlt, hwn⟩ := h
  have h1 := hC.wc c (by omega)
  rw [hw] at h1
  obtain ⟨bw, h1, -, -⟩ := h1
  have hgl := hB.bk.lt
  have hW5 := hide (fun (W : World) (hW : Old (w.alloc (.cells #[.int .i64 c, .int .i64 s, .int .i64 k, .int .i64 i, .int .i64 m, .string dt] 24)) W) => (((((Old.refl' w).alloc' _).trans' hW).cell (p := ⟨p, 5 + c, none⟩) hgl).trans ((hB.bk.cell _).trans h1) : W.cell? ⟨p, 5 + c, none⟩ = some (.pointer (some ⟨bw, 0, none⟩))))
  have cM := hide (fun (W : World) => iMay_at c s k i m dt true hq W)
  have hX := hide (fun (W : World) (h : Old (w.alloc (.cells #[.int .i64 c, .int .i64 s, .int .i64 k, .int .i64 i, .int .i64 m, .string dt] 24)) W) => bk6 ((Bk.new w 24 #[.int .i64 c, .int .i64 s, .int .i64 k, .int .i64 i, .int .i64 m, .string dt]).old h))
  have hc4 : (c : Int) < 4 := by omega
  clear hq hw hB hC hV hlt hwn h1
  go_enter Try.func38, Try.ntmps38
  go_wp2_with (go_at_call 45; refine (cM.out _).mono ?_; rintro e w1 ⟨rfl, hbb⟩; obtain ⟨⟨x0, x1, x2, x3, x4, x5⟩, l1⟩ := hX.out _ hbb)
  refine region_steps (R := pick [eqv (.pointer (some ⟨p, 0, none⟩)), eqv (.pointer (some ⟨w.heap.size, 0, none⟩)), eqv (.int .i64 c), eqv (.pointer (some ⟨p, 0, none⟩)), eqv (.pointer (some ⟨p, 5, none⟩)), eqv (.pointer (some ⟨p, 5 + c, none⟩)), eqv (.pointer (some ⟨bw, 0, none⟩)), eqv (.bool true), eqv (.bool true)]) (S := fun _ w' => Old (w.alloc (.cells #[.int .i64 c, .int .i64 s, .int .i64 k, .int .i64 i, .int .i64 m, .string dt] 24)) w') (T := Old) (by kernel_rfl) (by kernel_rfl) (by kernel_rfl) (Stab.pick (Stab.eqv (Stab.eqv (Stab.eqv (Stab.eqv (Stab.eqv (Stab.eqv (Stab.eqv (Stab.eqv (Stab.eqv (Stab.nil))))))))))) (hbb.drew') ?steps ?ends
  case steps =>
    refine StepsOk.cons (stepOk_pure [] [(0, .pointer (some ⟨p, 0, none⟩))] rfl rfl (by kernel_rfl) (by kernel_rfl) rfl Old.refl' (fun _ _ _ h => h) (fun d E w' hk hda hS hc hf => by rintro  e0; exact ⟨_, by go_simp, rfl⟩)) ?_
    refine StepsOk.cons (stepOk_pure [] [(3, .pointer (some ⟨w.heap.size, 0, none⟩))] rfl rfl (by kernel_rfl) (by kernel_rfl) rfl Old.refl' (fun _ _ _ h => h) (fun d E w' hk hda hS hc hf => by rintro  e3; exact ⟨_, by go_simp, rfl⟩)) ?_
    refine StepsOk.cons (stepOk_pure [(1, 15)] [] rfl rfl (by kernel_rfl) (by kernel_rfl) rfl Old.refl' (fun _ _ _ h => h) (fun d E w' hk hda hS hc hf => by rintro _ q1 rfl e15 ; obtain ⟨⟨s0, s1, s2, s3, s4, s5⟩, l9⟩ := hX.out _ hS; have t0 := hW5.out _ hS; exact ⟨_, by go_simp, rfl⟩)) ?_
    refine StepsOk.cons (stepOk_pure [(0, 14)] [] rfl rfl (by kernel_rfl) (by kernel_rfl) rfl Old.refl' (fun _ _ _ h => h) (fun d E w' hk hda hS hc hf => by rintro _ q0 rfl e14 ; exact ⟨_, by go_simp, rfl⟩)) ?_
    refine StepsOk.cons (stepOk_pure [(3, 17)] [] rfl rfl (by kernel_rfl) (by kernel_rfl) rfl Old.refl' (fun _ _ _ h => h) (fun d E w' hk hda hS hc hf => by rintro _ q3 rfl e17 ; exact ⟨_, by go_simp, rfl⟩)) ?_
    refine StepsOk.cons (stepOk_pure [(4, 18), (2, 16)] [] rfl rfl (by kernel_rfl) (by kernel_rfl) rfl Old.refl' (fun _ _ _ h => h) (fun d E w' hk hda hS hc hf => by rintro _ q4 rfl e18 _ q2 rfl e16 ; obtain ⟨⟨s0, s1, s2, s3, s4, s5⟩, l9⟩ := hX.out _ hS; have t0 := hW5.out _ hS; exact ⟨_, by go_simp, rfl⟩)) ?_
    refine StepsOk.cons (stepOk_pure [(5, 19)] [] rfl rfl (by kernel_rfl) (by kernel_rfl) rfl Old.refl' (fun _ _ _ h => h) (fun d E w' hk hda hS hc hf => by rintro _ q5 rfl e19 ; obtain ⟨⟨s0, s1, s2, s3, s4, s5⟩, l9⟩ := hX.out _ hS; have t0 := hW5.out _ hS; exact ⟨_, by go_simp, rfl⟩)) ?_
    refine StepsOk.cons (stepOk_pure [(6, 20)] [] rfl rfl (by kernel_rfl) (by kernel_rfl) rfl Old.refl' (fun _ _ _ h => h) (fun d E w' hk hda hS hc hf => by rintro _ q6 rfl e20 ; exact ⟨_, by go_simp, rfl⟩)) ?_
    refine StepsOk.cons (stepOk_pure [(7, 21)] [] rfl rfl (by kernel_rfl) (by kernel_rfl) rfl Old.refl' (fun _ _ _ h => h) (fun d E w' hk hda hS hc hf => by rintro _ q7 rfl e21 ; exact ⟨_, by go_simp, rfl⟩)) ?_
    exact StepsOk.nil
  case ends =>
    intro σ9 w9 hS9 hA9
    refine Ends.eqv (some 14) (.pointer (some ⟨p, 0, none⟩)) rfl (fun _ h => h) ?_
    refine Ends.eqv (some 15) (.pointer (some ⟨w.heap.size, 0, none⟩)) rfl (fun _ h => h) ?_
    refine Ends.eqv (some 16) (.int .i64 c) rfl (fun _ h => h) ?_
    refine Ends.eqv (some 17) (.pointer (some ⟨p, 0, none⟩)) rfl (fun _ h => h) ?_
    refine Ends.eqv (some 18) (.pointer (some ⟨p, 5, none⟩)) rfl (fun _ h => h) ?_
    refine Ends.eqv (some 19) (.pointer (some ⟨p, 5 + c, none⟩)) rfl (fun _ h => h) ?_
    refine Ends.eqv (some 20) (.pointer (some ⟨bw, 0, none⟩)) rfl (fun _ h => h) ?_
    refine Ends.eqv (some 21) (.bool true) rfl (fun _ h => h) ?_
    refine Ends.eqv (some 13) (.bool true) rfl (fun _ h => h) ?_
    refine Ends.nil ?_
    clear hA9
    simp only [put_lit, put_none, List.set_cons_zero, List.set_cons_succ]
    clear x0 x1 x2 x3 x4 x5 l1 hbb
    have hbb := hS9
    clear hS9
    obtain ⟨⟨x0, x1, x2, x3, x4, x5⟩, l1⟩ := hX.out _ hbb
    go_wp2_with fail
    go_ret
    exact ⟨rfl, ((Old.refl' w).alloc' _).trans' hbb⟩
set_option maxRecDepth 100000 in
set_option maxHeartbeats 2000000 in
theorem PAsk_order (p : Nat) (F : Nat → Prop) (st : PV) (q : ReqV) (hq : q.q.may = true) (hw : st.wait q.client = none) (hs : ¬ st.last q.client < q.seq) (w : World) (h : PaAt w p F st) :
    Calls Try.prog 38 #[.pointer (some ⟨p, 0, none⟩), .agg #[.int .i64 q.client, .int .i64 q.seq, .int .i64 q.kind, .int .i64 q.id, .int .i64 q.mat, .string q.data]] w fun e w' => e = .returned (.int .i64 9) ∧ Old w w' := by
  obtain ⟨c, s, k, i, m, dt⟩ := q
  simp only [ReqV.q, Q.may] at hq hw hs
  obtain ⟨⟨c0, c3⟩, -, -, -⟩ := mayQ_b hq
  obtain ⟨c, rfl⟩ : ∃ n : Nat, c = n := ⟨c.toNat, by omega⟩
  obtain ⟨⟨cs, V, xs, hB, hC, hV⟩, gF, hlt, hwn⟩ := h
  have h1 := hC.wc c (by omega)
  rw [hw] at h1
  obtain ⟨sq, hsq⟩ : ∃ v, st.last c = v := ⟨_, rfl⟩
  have h2 := hC.lc c (by omega)
  rw [hsq] at h2 hs
  have hgl := hB.bk.lt
  have hW5 := hide (fun (W : World) (hW : Old (w.alloc (.cells #[.int .i64 c, .int .i64 s, .int .i64 k, .int .i64 i, .int .i64 m, .string dt] 24)) W) => (((((Old.refl' w).alloc' _).trans' hW).cell (p := ⟨p, 5 + c, none⟩) hgl).trans ((hB.bk.cell _).trans h1) : W.cell? ⟨p, 5 + c, none⟩ = some (.pointer none)))
  have hL1 := hide (fun (W : World) (hW : Old (w.alloc (.cells #[.int .i64 c, .int .i64 s, .int .i64 k, .int .i64 i, .int .i64 m, .string dt] 24)) W) => (((((Old.refl' w).alloc' _).trans' hW).cell (p := ⟨p, 1 + c, none⟩) hgl).trans ((hB.bk.cell _).trans h2) : W.cell? ⟨p, 1 + c, none⟩ = some (.int .i64 sq)))
  have cM := hide (fun (W : World) => iMay_at c s k i m dt true hq W)
  have cN := hide (fun (W : World) => Newer_at c s k i m dt sq true false hq (by simpa using hs) W)
  have hX := hide (fun (W : World) (h : Old (w.alloc (.cells #[.int .i64 c, .int .i64 s, .int .i64 k, .int .i64 i, .int .i64 m, .string dt] 24)) W) => bk6 ((Bk.new w 24 #[.int .i64 c, .int .i64 s, .int .i64 k, .int .i64 i, .int .i64 m, .string dt]).old h))
  have hc4 : (c : Int) < 4 := by omega
  clear hq hw hB hC hV hlt hwn h1 h2 hs hsq
  go_enter Try.func38, Try.ntmps38
  go_wp2_with (go_at_call 45; refine (cM.out _).mono ?_; rintro e w1 ⟨rfl, hbb⟩; obtain ⟨⟨x0, x1, x2, x3, x4, x5⟩, l1⟩ := hX.out _ hbb)
  refine region_steps (R := pick [eqv (.pointer (some ⟨p, 0, none⟩)), eqv (.pointer (some ⟨w.heap.size, 0, none⟩)), eqv (.int .i64 c), eqv (.pointer (some ⟨p, 0, none⟩)), eqv (.pointer (some ⟨p, 5, none⟩)), eqv (.pointer (some ⟨p, 5 + c, none⟩)), eqv (.pointer none), eqv (.bool false), eqv (.bool false)]) (S := fun _ w' => Old (w.alloc (.cells #[.int .i64 c, .int .i64 s, .int .i64 k, .int .i64 i, .int .i64 m, .string dt] 24)) w') (T := Old) (by kernel_rfl) (by kernel_rfl) (by kernel_rfl) (Stab.pick (Stab.eqv (Stab.eqv (Stab.eqv (Stab.eqv (Stab.eqv (Stab.eqv (Stab.eqv (Stab.eqv (Stab.eqv (Stab.nil))))))))))) (hbb.drew') ?steps ?ends
  case steps =>
    refine StepsOk.cons (stepOk_pure [] [(0, .pointer (some ⟨p, 0, none⟩))] rfl rfl (by kernel_rfl) (by kernel_rfl) rfl Old.refl' (fun _ _ _ h => h) (fun d E w' hk hda hS hc hf => by rintro  e0; exact ⟨_, by go_simp, rfl⟩)) ?_
    refine StepsOk.cons (stepOk_pure [] [(3, .pointer (some ⟨w.heap.size, 0, none⟩))] rfl rfl (by kernel_rfl) (by kernel_rfl) rfl Old.refl' (fun _ _ _ h => h) (fun d E w' hk hda hS hc hf => by rintro  e3; exact ⟨_, by go_simp, rfl⟩)) ?_
    refine StepsOk.cons (stepOk_pure [(1, 15)] [] rfl rfl (by kernel_rfl) (by kernel_rfl) rfl Old.refl' (fun _ _ _ h => h) (fun d E w' hk hda hS hc hf => by rintro _ q1 rfl e15 ; obtain ⟨⟨s0, s1, s2, s3, s4, s5⟩, l9⟩ := hX.out _ hS; have t0 := hW5.out _ hS; exact ⟨_, by go_simp, rfl⟩)) ?_
    refine StepsOk.cons (stepOk_pure [(0, 14)] [] rfl rfl (by kernel_rfl) (by kernel_rfl) rfl Old.refl' (fun _ _ _ h => h) (fun d E w' hk hda hS hc hf => by rintro _ q0 rfl e14 ; exact ⟨_, by go_simp, rfl⟩)) ?_
    refine StepsOk.cons (stepOk_pure [(3, 17)] [] rfl rfl (by kernel_rfl) (by kernel_rfl) rfl Old.refl' (fun _ _ _ h => h) (fun d E w' hk hda hS hc hf => by rintro _ q3 rfl e17 ; exact ⟨_, by go_simp, rfl⟩)) ?_
    refine StepsOk.cons (stepOk_pure [(4, 18), (2, 16)] [] rfl rfl (by kernel_rfl) (by kernel_rfl) rfl Old.refl' (fun _ _ _ h => h) (fun d E w' hk hda hS hc hf => by rintro _ q4 rfl e18 _ q2 rfl e16 ; obtain ⟨⟨s0, s1, s2, s3, s4, s5⟩, l9⟩ := hX.out _ hS; have t0 := hW5.out _ hS; exact ⟨_, by go_simp, rfl⟩)) ?_
    refine StepsOk.cons (stepOk_pure [(5, 19)] [] rfl rfl (by kernel_rfl) (by kernel_rfl) rfl Old.refl' (fun _ _ _ h => h) (fun d E w' hk hda hS hc hf => by rintro _ q5 rfl e19 ; obtain ⟨⟨s0, s1, s2, s3, s4, s5⟩, l9⟩ := hX.out _ hS; have t0 := hW5.out _ hS; exact ⟨_, by go_simp, rfl⟩)) ?_
    refine StepsOk.cons (stepOk_pure [(6, 20)] [] rfl rfl (by kernel_rfl) (by kernel_rfl) rfl Old.refl' (fun _ _ _ h => h) (fun d E w' hk hda hS hc hf => by rintro _ q6 rfl e20 ; exact ⟨_, by go_simp, rfl⟩)) ?_
    refine StepsOk.cons (stepOk_pure [(7, 21)] [] rfl rfl (by kernel_rfl) (by kernel_rfl) rfl Old.refl' (fun _ _ _ h => h) (fun d E w' hk hda hS hc hf => by rintro _ q7 rfl e21 ; exact ⟨_, by go_simp, rfl⟩)) ?_
    exact StepsOk.nil
  case ends =>
    intro σ9 w9 hS9 hA9
    refine Ends.eqv (some 14) (.pointer (some ⟨p, 0, none⟩)) rfl (fun _ h => h) ?_
    refine Ends.eqv (some 15) (.pointer (some ⟨w.heap.size, 0, none⟩)) rfl (fun _ h => h) ?_
    refine Ends.eqv (some 16) (.int .i64 c) rfl (fun _ h => h) ?_
    refine Ends.eqv (some 17) (.pointer (some ⟨p, 0, none⟩)) rfl (fun _ h => h) ?_
    refine Ends.eqv (some 18) (.pointer (some ⟨p, 5, none⟩)) rfl (fun _ h => h) ?_
    refine Ends.eqv (some 19) (.pointer (some ⟨p, 5 + c, none⟩)) rfl (fun _ h => h) ?_
    refine Ends.eqv (some 20) (.pointer none) rfl (fun _ h => h) ?_
    refine Ends.eqv (some 21) (.bool false) rfl (fun _ h => h) ?_
    refine Ends.eqv (some 13) (.bool false) rfl (fun _ h => h) ?_
    refine Ends.nil ?_
    clear hA9
    simp only [put_lit, put_none, List.set_cons_zero, List.set_cons_succ]
    clear x0 x1 x2 x3 x4 x5 l1 hbb
    have hbb := hS9
    clear hS9
    obtain ⟨⟨x0, x1, x2, x3, x4, x5⟩, l1⟩ := hX.out _ hbb
    go_wp2_with fail
    refine region_steps (R := pick [eqv (.agg #[.int .i64 c, .int .i64 s, .int .i64 k, .int .i64 i, .int .i64 m, .string dt]), eqv (.pointer (some ⟨p, 0, none⟩)), eqv (.pointer (some ⟨w.heap.size, 0, none⟩)), eqv (.int .i64 c), eqv (.pointer (some ⟨p, 0, none⟩)), eqv (.pointer (some ⟨p, 1, none⟩)), eqv (.pointer (some ⟨p, 1 + c, none⟩)), eqv (.int .i64 sq), eqv (.bool false), eqv (.bool true), eqv (.bool true)]) (S := fun _ w' => Old (w.alloc (.cells #[.int .i64 c, .int .i64 s, .int .i64 k, .int .i64 i, .int .i64 m, .string dt] 24)) w') (T := Old) (by kernel_rfl) (by kernel_rfl) (by kernel_rfl) (Stab.pick (Stab.eqv (Stab.eqv (Stab.eqv (Stab.eqv (Stab.eqv (Stab.eqv (Stab.eqv (Stab.eqv (Stab.eqv (Stab.eqv (Stab.eqv (Stab.nil))))))))))))) (hbb.drew') ?steps ?ends
    case steps =>
      refine StepsOk.cons (stepOk_pure [] [(3, .pointer (some ⟨w.heap.size, 0, none⟩))] rfl rfl (by kernel_rfl) (by kernel_rfl) rfl Old.refl' (fun _ _ _ h => h) (fun d E w' hk hda hS hc hf => by rintro  e3; obtain ⟨⟨s0, s1, s2, s3, s4, s5⟩, l9⟩ := hX.out _ hS; have t0 := hL1.out _ hS; exact ⟨_, by go_simp, rfl⟩)) ?_
      refine StepsOk.cons (stepOk_pure [] [(0, .pointer (some ⟨p, 0, none⟩))] rfl rfl (by kernel_rfl) (by kernel_rfl) rfl Old.refl' (fun _ _ _ h => h) (fun d E w' hk hda hS hc hf => by rintro  e0; exact ⟨_, by go_simp, rfl⟩)) ?_
      refine StepsOk.cons (stepOk_pure [] [(3, .pointer (some ⟨w.heap.size, 0, none⟩))] rfl rfl (by kernel_rfl) (by kernel_rfl) rfl Old.refl' (fun _ _ _ h => h) (fun d E w' hk hda hS hc hf => by rintro  e3; exact ⟨_, by go_simp, rfl⟩)) ?_
      refine StepsOk.cons (stepOk_pure [(2, 25)] [] rfl rfl (by kernel_rfl) (by kernel_rfl) rfl Old.refl' (fun _ _ _ h => h) (fun d E w' hk hda hS hc hf => by rintro _ q2 rfl e25 ; obtain ⟨⟨s0, s1, s2, s3, s4, s5⟩, l9⟩ := hX.out _ hS; have t0 := hL1.out _ hS; exact ⟨_, by go_simp, rfl⟩)) ?_
      refine StepsOk.cons (stepOk_pure [(1, 24)] [] rfl rfl (by kernel_rfl) (by kernel_rfl) rfl Old.refl' (fun _ _ _ h => h) (fun d E w' hk hda hS hc hf => by rintro _ q1 rfl e24 ; exact ⟨_, by go_simp, rfl⟩)) ?_
      refine StepsOk.cons (stepOk_pure [(4, 27)] [] rfl rfl (by kernel_rfl) (by kernel_rfl) rfl Old.refl' (fun _ _ _ h => h) (fun d E w' hk hda hS hc hf => by rintro _ q4 rfl e27 ; exact ⟨_, by go_simp, rfl⟩)) ?_
      refine StepsOk.cons (stepOk_pure [(5, 28), (3, 26)] [] rfl rfl (by kernel_rfl) (by kernel_rfl) rfl Old.refl' (fun _ _ _ h => h) (fun d E w' hk hda hS hc hf => by rintro _ q5 rfl e28 _ q3 rfl e26 ; obtain ⟨⟨s0, s1, s2, s3, s4, s5⟩, l9⟩ := hX.out _ hS; have t0 := hL1.out _ hS; exact ⟨_, by go_simp, rfl⟩)) ?_
      refine StepsOk.cons (stepOk_pure [(6, 29)] [] rfl rfl (by kernel_rfl) (by kernel_rfl) rfl Old.refl' (fun _ _ _ h => h) (fun d E w' hk hda hS hc hf => by rintro _ q6 rfl e29 ; obtain ⟨⟨s0, s1, s2, s3, s4, s5⟩, l9⟩ := hX.out _ hS; have t0 := hL1.out _ hS; exact ⟨_, by go_simp, rfl⟩)) ?_
      refine StepsOk.cons (stepOk_mk [(0, 23), (7, 30)] [] rfl rfl (by kernel_rfl) (by kernel_rfl) rfl ?_) ?_
      · rintro d a w' hk hda hS _ q0 rfl e23 _ q7 rfl e30 
        first | refine Given.nil (Known.nil ?_) | refine Known.nil ?_
        refine wp_call 51 _ Try.func51 (by kernel_rfl) (by kernel_rfl) _ _ (by rfl) [.agg #[.int .i64 c, .int .i64 s, .int .i64 k, .int .i64 i, .int .i64 m, .string dt], .int .i64 sq] (by simp only [List.map_cons, List.map_nil, *]; try rfl) (cN.out _) ?_
        rintro e w1 ⟨rfl, hb⟩
        exact ⟨_, rfl, _, rfl, rfl, hb, hS.trans' hb⟩
      refine StepsOk.cons (stepOk_pure [(8, 31)] [] rfl rfl (by kernel_rfl) (by kernel_rfl) rfl Old.refl' (fun _ _ _ h => h) (fun d E w' hk hda hS hc hf => by rintro _ q8 rfl e31 ; exact ⟨_, by go_simp, rfl⟩)) ?_
      refine StepsOk.cons (stepOk_pure [(9, 32)] [] rfl rfl (by kernel_rfl) (by kernel_rfl) rfl Old.refl' (fun _ _ _ h => h) (fun d E w' hk hda hS hc hf => by rintro _ q9 rfl e32 ; exact ⟨_, by go_simp, rfl⟩)) ?_
      exact StepsOk.nil
    case ends =>
      intro σ9 w9 hS9 hA9
      refine Ends.eqv (some 23) (.agg #[.int .i64 c, .int .i64 s, .int .i64 k, .int .i64 i, .int .i64 m, .string dt]) rfl (fun _ h => h) ?_
      refine Ends.eqv (some 24) (.pointer (some ⟨p, 0, none⟩)) rfl (fun _ h => h) ?_
      refine Ends.eqv (some 25) (.pointer (some ⟨w.heap.size, 0, none⟩)) rfl (fun _ h => h) ?_
      refine Ends.eqv (some 26) (.int .i64 c) rfl (fun _ h => h) ?_
      refine Ends.eqv (some 27) (.pointer (some ⟨p, 0, none⟩)) rfl (fun _ h => h) ?_
      refine Ends.eqv (some 28) (.pointer (some ⟨p, 1, none⟩)) rfl (fun _ h => h) ?_
      refine Ends.eqv (some 29) (.pointer (some ⟨p, 1 + c, none⟩)) rfl (fun _ h => h) ?_
      refine Ends.eqv (some 30) (.int .i64 sq) rfl (fun _ h => h) ?_
      refine Ends.eqv (some 31) (.bool false) rfl (fun _ h => h) ?_
      refine Ends.eqv (some 32) (.bool true) rfl (fun _ h => h) ?_
      refine Ends.eqv (some 22) (.bool true) rfl (fun _ h => h) ?_
      refine Ends.nil ?_
      clear hA9
      simp only [put_lit, put_none, List.set_cons_zero, List.set_cons_succ]
      clear x0 x1 x2 x3 x4 x5 l1 hbb
      have hbb := hS9
      clear hS9
      obtain ⟨⟨x0, x1, x2, x3, x4, x5⟩, l1⟩ := hX.out _ hbb
      go_wp2_with fail
      go_ret
      exact ⟨rfl, ((Old.refl' w).alloc' _).trans' hbb⟩
theorem PaC.asked {w w' : World} {cs : Array Value} {V V2 : Value} {F G : Nat → Prop} {st : PV} {b3 : Nat} {c : Nat} {s k i m : Int} {dt : ByteArray} (h : PaC w cs V F st) (hc : c < 4) (hF : ∀ v q, Waits w F v q → Waits w' G v q) (hb : Bk w' b3 24 #[.int .i64 c, .int .i64 s, .int .i64 k, .int .i64 i, .int .i64 m, .string dt]) (hg : G b3) :
    PaC w' (((cs.setIfInBounds (5 + c) (.pointer (some ⟨b3, 0, none⟩))).setIfInBounds (1 + c) (.int .i64 s)).setIfInBounds 0 V2) V2 G (st.asked ⟨c, s, k, i, m, dt⟩) := by
  refine ⟨?_, fun c' hc' => ?_, fun c' hc' => ?_⟩
  · exact get_eq (v := V) (by rw [get_ne (by omega), get_ne (by omega)]; exact h.c0) _
  · rw [get_ne (by omega)]
    show _ = some (Value.int .i64 (if (c' : Int) = (c : Int) then s else st.last c'))
    by_cases e : c = c'
    · subst e
      rw [if_pos rfl]
      exact get_eq (v := .int .i64 (st.last c)) (by rw [get_ne (by omega)]; exact h.lc c hc) _
    · rw [get_ne (by omega), get_ne (by omega), if_neg (by omega)]; exact h.lc c' hc'
  · rw [get_ne (by omega), get_ne (by omega)]
    show Waits w' G _ (if (c' : Int) = (c : Int) then some ⟨c, s, k, i, m, dt⟩ else st.wait c')
    by_cases e : c = c'
    · subst e
      rw [if_pos rfl]
      have h0 := h.wc c hc
      obtain ⟨v, hv⟩ : ∃ v, cs[5 + c]? = some v := by
        cases hw : st.wait c with
        | none => rw [hw] at h0; exact ⟨_, h0⟩
        | some q => rw [hw] at h0; obtain ⟨b, h1, -, -⟩ := h0; exact ⟨_, h1⟩
      exact ⟨b3, get_eq hv _, hb, hg⟩
    · rw [get_ne (by omega), if_neg (by omega)]
      exact hF _ _ (h.wc c' hc')
set_option maxRecDepth 100000 in
set_option maxHeartbeats 4000000 in
theorem PAsk_done (p : Nat) (F : Nat → Prop) (st : PV) (n : Nat) (hn : st.n = n) (hfew : n ≤ 50000) (q : ReqV) (hq : q.q.may = true) (hw : st.wait q.client = none) (hs : st.last q.client < q.seq) (w : World) (h : PaAt w p F st) :
    Calls Try.prog 38 #[.pointer (some ⟨p, 0, none⟩), .agg #[.int .i64 q.client, .int .i64 q.seq, .int .i64 q.kind, .int .i64 q.id, .int .i64 q.mat, .string q.data]] w fun e w' => e = .returned (.int .i64 0) ∧ (∃ F', PaAt w' p F' (st.asked q) ∧ ∀ b, F' b → F b ∨ w.heap.size ≤ b) ∧ Fr F w w' ∧ LastIs w' p n [.int .i64 q.client, .int .i64 q.seq, .bool false, .int .i64 q.client, .int .i64 q.seq, .int .i64 q.kind, .int .i64 q.id, .int .i64 q.mat, .string q.data, .int .i64 0, .int .i64 0, .string { data := #[] }, .slice none 0 0, .int .i64 0] := by
  obtain ⟨j0, hj0, hj00, hj01, hj02⟩ := info_parts info_Act
  obtain ⟨c, s, k, i, m, dt⟩ := q
  simp only [ReqV.q, Q.may] at hq hw hs ⊢
  obtain ⟨⟨c0, c3⟩, -, -, -⟩ := mayQ_b hq
  obtain ⟨c, rfl⟩ : ∃ n : Nat, c = n := ⟨c.toNat, by omega⟩
  obtain ⟨⟨cs, V, xs, hB, hC, hV⟩, gF, hlt, hwn⟩ := h
  have h1 := hC.wc c (by omega)
  rw [hw] at h1
  obtain ⟨sq, hsq⟩ : ∃ v, st.last c = v := ⟨_, rfl⟩
  have h2 := hC.lc c (by omega)
  rw [hsq] at h2 hs
  rw [hn] at hB
  obtain ⟨A, ca, rfl, -, -⟩ := own_form hB.row
  have hxl : xs.length = n * 14 := hB.row.1
  have hgl := hB.bk.lt
  have hW5 := hide (fun (W : World) (hW : Old (w.alloc (.cells #[.int .i64 c, .int .i64 s, .int .i64 k, .int .i64 i, .int .i64 m, .string dt] 24)) W) => (((((Old.refl' w).alloc' _).trans' hW).cell (p := ⟨p, 5 + c, none⟩) hgl).trans ((hB.bk.cell _).trans h1) : W.cell? ⟨p, 5 + c, none⟩ = some (.pointer none)))
  have hL1 := hide (fun (W : World) (hW : Old (w.alloc (.cells #[.int .i64 c, .int .i64 s, .int .i64 k, .int .i64 i, .int .i64 m, .string dt] 24)) W) => (((((Old.refl' w).alloc' _).trans' hW).cell (p := ⟨p, 1 + c, none⟩) hgl).trans ((hB.bk.cell _).trans h2) : W.cell? ⟨p, 1 + c, none⟩ = some (.int .i64 sq)))
  have cM := hide (fun (W : World) => iMay_at c s k i m dt true hq W)
  have cN := hide (fun (W : World) => Newer_at c s k i m dt sq true true hq (by simpa using hs) W)
  have hX := hide (fun (W : World) (h : Old (w.alloc (.cells #[.int .i64 c, .int .i64 s, .int .i64 k, .int .i64 i, .int .i64 m, .string dt] 24)) W) => bk6 ((Bk.new w 24 #[.int .i64 c, .int .i64 s, .int .i64 k, .int .i64 i, .int .i64 m, .string dt]).old h))
  have hBQ := hide (fun (W : World) (h : Old (w.alloc (.cells #[.int .i64 c, .int .i64 s, .int .i64 k, .int .i64 i, .int .i64 m, .string dt] 24)) W) => (Bk.new w 24 #[.int .i64 c, .int .i64 s, .int .i64 k, .int .i64 i, .int .i64 m, .string dt]).old h)
  have hBB := hide (fun (W : World) (h : Old (w.alloc (.cells #[.int .i64 c, .int .i64 s, .int .i64 k, .int .i64 i, .int .i64 m, .string dt] 24)) W) => hB.old (((Old.refl' w).alloc' (.cells #[.int .i64 c, .int .i64 s, .int .i64 k, .int .i64 i, .int .i64 m, .string dt] 24)).trans' h))
  have HB := hide hB
  have HC := hide hC
  have HV := hide hV
  have HWN := hide hwn
  have HLT := hide hlt
  have HGF := hide gF
  have HXL := hide hxl
  have hc4 : (c : Int) < 4 := by omega
  have HC1 := hide h1
  have HC2 := hide h2
  clear hq hw hB hC hV hlt hwn h1 h2 hs hsq gF hxl
  go_enter Try.func38, Try.ntmps38
  go_wp2_with (go_at_call 45; refine (cM.out _).mono ?_; rintro e w1 ⟨rfl, hbb⟩; obtain ⟨⟨x0, x1, x2, x3, x4, x5⟩, l1⟩ := hX.out _ hbb)
  refine region_steps (R := pick [eqv (.pointer (some ⟨p, 0, none⟩)), eqv (.pointer (some ⟨w.heap.size, 0, none⟩)), eqv (.int .i64 c), eqv (.pointer (some ⟨p, 0, none⟩)), eqv (.pointer (some ⟨p, 5, none⟩)), eqv (.pointer (some ⟨p, 5 + c, none⟩)), eqv (.pointer none), eqv (.bool false), eqv (.bool false)]) (S := fun _ w' => Old (w.alloc (.cells #[.int .i64 c, .int .i64 s, .int .i64 k, .int .i64 i, .int .i64 m, .string dt] 24)) w') (T := Old) (by kernel_rfl) (by kernel_rfl) (by kernel_rfl) (Stab.pick (Stab.eqv (Stab.eqv (Stab.eqv (Stab.eqv (Stab.eqv (Stab.eqv (Stab.eqv (Stab.eqv (Stab.eqv (Stab.nil))))))))))) (hbb.drew') ?steps ?ends
  case steps =>
    refine StepsOk.cons (stepOk_pure [] [(0, .pointer (some ⟨p, 0, none⟩))] rfl rfl (by kernel_rfl) (by kernel_rfl) rfl Old.refl' (fun _ _ _ h => h) (fun d E w' hk hda hS hc hf => by rintro  e0; exact ⟨_, by go_simp, rfl⟩)) ?_
    refine StepsOk.cons (stepOk_pure [] [(3, .pointer (some ⟨w.heap.size, 0, none⟩))] rfl rfl (by kernel_rfl) (by kernel_rfl) rfl Old.refl' (fun _ _ _ h => h) (fun d E w' hk hda hS hc hf => by rintro  e3; exact ⟨_, by go_simp, rfl⟩)) ?_
    refine StepsOk.cons (stepOk_pure [(1, 15)] [] rfl rfl (by kernel_rfl) (by kernel_rfl) rfl Old.refl' (fun _ _ _ h => h) (fun d E w' hk hda hS hc hf => by rintro _ q1 rfl e15 ; obtain ⟨⟨s0, s1, s2, s3, s4, s5⟩, l9⟩ := hX.out _ hS; have t0 := hW5.out _ hS; exact ⟨_, by go_simp, rfl⟩)) ?_
    refine StepsOk.cons (stepOk_pure [(0, 14)] [] rfl rfl (by kernel_rfl) (by kernel_rfl) rfl Old.refl' (fun _ _ _ h => h) (fun d E w' hk hda hS hc hf => by rintro _ q0 rfl e14 ; exact ⟨_, by go_simp, rfl⟩)) ?_
    refine StepsOk.cons (stepOk_pure [(3, 17)] [] rfl rfl (by kernel_rfl) (by kernel_rfl) rfl Old.refl' (fun _ _ _ h => h) (fun d E w' hk hda hS hc hf => by rintro _ q3 rfl e17 ; exact ⟨_, by go_simp, rfl⟩)) ?_
    refine StepsOk.cons (stepOk_pure [(4, 18), (2, 16)] [] rfl rfl (by kernel_rfl) (by kernel_rfl) rfl Old.refl' (fun _ _ _ h => h) (fun d E w' hk hda hS hc hf => by rintro _ q4 rfl e18 _ q2 rfl e16 ; obtain ⟨⟨s0, s1, s2, s3, s4, s5⟩, l9⟩ := hX.out _ hS; have t0 := hW5.out _ hS; exact ⟨_, by go_simp, rfl⟩)) ?_
    refine StepsOk.cons (stepOk_pure [(5, 19)] [] rfl rfl (by kernel_rfl) (by kernel_rfl) rfl Old.refl' (fun _ _ _ h => h) (fun d E w' hk hda hS hc hf => by rintro _ q5 rfl e19 ; obtain ⟨⟨s0, s1, s2, s3, s4, s5⟩, l9⟩ := hX.out _ hS; have t0 := hW5.out _ hS; exact ⟨_, by go_simp, rfl⟩)) ?_
    refine StepsOk.cons (stepOk_pure [(6, 20)] [] rfl rfl (by kernel_rfl) (by kernel_rfl) rfl Old.refl' (fun _ _ _ h => h) (fun d E w' hk hda hS hc hf => by rintro _ q6 rfl e20 ; exact ⟨_, by go_simp, rfl⟩)) ?_
    refine StepsOk.cons (stepOk_pure [(7, 21)] [] rfl rfl (by kernel_rfl) (by kernel_rfl) rfl Old.refl' (fun _ _ _ h => h) (fun d E w' hk hda hS hc hf => by rintro _ q7 rfl e21 ; exact ⟨_, by go_simp, rfl⟩)) ?_
    exact StepsOk.nil
  case ends =>
    intro σ9 w9 hS9 hA9
    refine Ends.eqv (some 14) (.pointer (some ⟨p, 0, none⟩)) rfl (fun _ h => h) ?_
    refine Ends.eqv (some 15) (.pointer (some ⟨w.heap.size, 0, none⟩)) rfl (fun _ h => h) ?_
    refine Ends.eqv (some 16) (.int .i64 c) rfl (fun _ h => h) ?_
    refine Ends.eqv (some 17) (.pointer (some ⟨p, 0, none⟩)) rfl (fun _ h => h) ?_
    refine Ends.eqv (some 18) (.pointer (some ⟨p, 5, none⟩)) rfl (fun _ h => h) ?_
    refine Ends.eqv (some 19) (.pointer (some ⟨p, 5 + c, none⟩)) rfl (fun _ h => h) ?_
    refine Ends.eqv (some 20) (.pointer none) rfl (fun _ h => h) ?_
    refine Ends.eqv (some 21) (.bool false) rfl (fun _ h => h) ?_
    refine Ends.eqv (some 13) (.bool false) rfl (fun _ h => h) ?_
    refine Ends.nil ?_
    clear hA9
    simp only [put_lit, put_none, List.set_cons_zero, List.set_cons_succ]
    clear x0 x1 x2 x3 x4 x5 l1 hbb
    have hbb := hS9
    clear hS9
    obtain ⟨⟨x0, x1, x2, x3, x4, x5⟩, l1⟩ := hX.out _ hbb
    go_wp2_with fail
    refine region_steps (R := pick [eqv (.agg #[.int .i64 c, .int .i64 s, .int .i64 k, .int .i64 i, .int .i64 m, .string dt]), eqv (.pointer (some ⟨p, 0, none⟩)), eqv (.pointer (some ⟨w.heap.size, 0, none⟩)), eqv (.int .i64 c), eqv (.pointer (some ⟨p, 0, none⟩)), eqv (.pointer (some ⟨p, 1, none⟩)), eqv (.pointer (some ⟨p, 1 + c, none⟩)), eqv (.int .i64 sq), eqv (.bool true), eqv (.bool false), eqv (.bool false)]) (S := fun _ w' => Old (w.alloc (.cells #[.int .i64 c, .int .i64 s, .int .i64 k, .int .i64 i, .int .i64 m, .string dt] 24)) w') (T := Old) (by kernel_rfl) (by kernel_rfl) (by kernel_rfl) (Stab.pick (Stab.eqv (Stab.eqv (Stab.eqv (Stab.eqv (Stab.eqv (Stab.eqv (Stab.eqv (Stab.eqv (Stab.eqv (Stab.eqv (Stab.eqv (Stab.nil))))))))))))) (hbb.drew') ?steps ?ends
    case steps =>
      refine StepsOk.cons (stepOk_pure [] [(3, .pointer (some ⟨w.heap.size, 0, none⟩))] rfl rfl (by kernel_rfl) (by kernel_rfl) rfl Old.refl' (fun _ _ _ h => h) (fun d E w' hk hda hS hc hf => by rintro  e3; obtain ⟨⟨s0, s1, s2, s3, s4, s5⟩, l9⟩ := hX.out _ hS; have t0 := hL1.out _ hS; exact ⟨_, by go_simp, rfl⟩)) ?_
      refine StepsOk.cons (stepOk_pure [] [(0, .pointer (some ⟨p, 0, none⟩))] rfl rfl (by kernel_rfl) (by kernel_rfl) rfl Old.refl' (fun _ _ _ h => h) (fun d E w' hk hda hS hc hf => by rintro  e0; exact ⟨_, by go_simp, rfl⟩)) ?_
      refine StepsOk.cons (stepOk_pure [] [(3, .pointer (some ⟨w.heap.size, 0, none⟩))] rfl rfl (by kernel_rfl) (by kernel_rfl) rfl Old.refl' (fun _ _ _ h => h) (fun d E w' hk hda hS hc hf => by rintro  e3; exact ⟨_, by go_simp, rfl⟩)) ?_
      refine StepsOk.cons (stepOk_pure [(2, 25)] [] rfl rfl (by kernel_rfl) (by kernel_rfl) rfl Old.refl' (fun _ _ _ h => h) (fun d E w' hk hda hS hc hf => by rintro _ q2 rfl e25 ; obtain ⟨⟨s0, s1, s2, s3, s4, s5⟩, l9⟩ := hX.out _ hS; have t0 := hL1.out _ hS; exact ⟨_, by go_simp, rfl⟩)) ?_
      refine StepsOk.cons (stepOk_pure [(1, 24)] [] rfl rfl (by kernel_rfl) (by kernel_rfl) rfl Old.refl' (fun _ _ _ h => h) (fun d E w' hk hda hS hc hf => by rintro _ q1 rfl e24 ; exact ⟨_, by go_simp, rfl⟩)) ?_
      refine StepsOk.cons (stepOk_pure [(4, 27)] [] rfl rfl (by kernel_rfl) (by kernel_rfl) rfl Old.refl' (fun _ _ _ h => h) (fun d E w' hk hda hS hc hf => by rintro _ q4 rfl e27 ; exact ⟨_, by go_simp, rfl⟩)) ?_
      refine StepsOk.cons (stepOk_pure [(5, 28), (3, 26)] [] rfl rfl (by kernel_rfl) (by kernel_rfl) rfl Old.refl' (fun _ _ _ h => h) (fun d E w' hk hda hS hc hf => by rintro _ q5 rfl e28 _ q3 rfl e26 ; obtain ⟨⟨s0, s1, s2, s3, s4, s5⟩, l9⟩ := hX.out _ hS; have t0 := hL1.out _ hS; exact ⟨_, by go_simp, rfl⟩)) ?_
      refine StepsOk.cons (stepOk_pure [(6, 29)] [] rfl rfl (by kernel_rfl) (by kernel_rfl) rfl Old.refl' (fun _ _ _ h => h) (fun d E w' hk hda hS hc hf => by rintro _ q6 rfl e29 ; obtain ⟨⟨s0, s1, s2, s3, s4, s5⟩, l9⟩ := hX.out _ hS; have t0 := hL1.out _ hS; exact ⟨_, by go_simp, rfl⟩)) ?_
      refine StepsOk.cons (stepOk_mk [(0, 23), (7, 30)] [] rfl rfl (by kernel_rfl) (by kernel_rfl) rfl ?_) ?_
      · rintro d a w' hk hda hS _ q0 rfl e23 _ q7 rfl e30 
        first | refine Given.nil (Known.nil ?_) | refine Known.nil ?_
        refine wp_call 51 _ Try.func51 (by kernel_rfl) (by kernel_rfl) _ _ (by rfl) [.agg #[.int .i64 c, .int .i64 s, .int .i64 k, .int .i64 i, .int .i64 m, .string dt], .int .i64 sq] (by simp only [List.map_cons, List.map_nil, *]; try rfl) (cN.out _) ?_
        rintro e w1 ⟨rfl, hb⟩
        exact ⟨_, rfl, _, rfl, rfl, hb, hS.trans' hb⟩
      refine StepsOk.cons (stepOk_pure [(8, 31)] [] rfl rfl (by kernel_rfl) (by kernel_rfl) rfl Old.refl' (fun _ _ _ h => h) (fun d E w' hk hda hS hc hf => by rintro _ q8 rfl e31 ; exact ⟨_, by go_simp, rfl⟩)) ?_
      refine StepsOk.cons (stepOk_pure [(9, 32)] [] rfl rfl (by kernel_rfl) (by kernel_rfl) rfl Old.refl' (fun _ _ _ h => h) (fun d E w' hk hda hS hc hf => by rintro _ q9 rfl e32 ; exact ⟨_, by go_simp, rfl⟩)) ?_
      exact StepsOk.nil
    case ends =>
      intro σ9 w9 hS9 hA9
      refine Ends.eqv (some 23) (.agg #[.int .i64 c, .int .i64 s, .int .i64 k, .int .i64 i, .int .i64 m, .string dt]) rfl (fun _ h => h) ?_
      refine Ends.eqv (some 24) (.pointer (some ⟨p, 0, none⟩)) rfl (fun _ h => h) ?_
      refine Ends.eqv (some 25) (.pointer (some ⟨w.heap.size, 0, none⟩)) rfl (fun _ h => h) ?_
      refine Ends.eqv (some 26) (.int .i64 c) rfl (fun _ h => h) ?_
      refine Ends.eqv (some 27) (.pointer (some ⟨p, 0, none⟩)) rfl (fun _ h => h) ?_
      refine Ends.eqv (some 28) (.pointer (some ⟨p, 1, none⟩)) rfl (fun _ h => h) ?_
      refine Ends.eqv (some 29) (.pointer (some ⟨p, 1 + c, none⟩)) rfl (fun _ h => h) ?_
      refine Ends.eqv (some 30) (.int .i64 sq) rfl (fun _ h => h) ?_
      refine Ends.eqv (some 31) (.bool true) rfl (fun _ h => h) ?_
      refine Ends.eqv (some 32) (.bool false) rfl (fun _ h => h) ?_
      refine Ends.eqv (some 22) (.bool false) rfl (fun _ h => h) ?_
      refine Ends.nil ?_
      clear hA9
      simp only [put_lit, put_none, List.set_cons_zero, List.set_cons_succ]
      clear x0 x1 x2 x3 x4 x5 l1 hbb
      have hbb := hS9
      clear hS9
      obtain ⟨⟨x0, x1, x2, x3, x4, x5⟩, l1⟩ := hX.out _ hbb
      go_wp2_with fail
      clear x0 x1 x2 x3 x4 x5 l1
      have hB5 := hBB.out _ hbb
      have hQ5 := hBQ.out _ hbb
      have hO5 := hide (((Old.refl' w).alloc' (.cells #[.int .i64 c, .int .i64 s, .int .i64 k, .int .i64 i, .int .i64 m, .string dt] 24)).trans' hbb)
      obtain ⟨W5, hW5e⟩ : ∃ U, w9 = U := ⟨_, rfl⟩
      rw [hW5e] at hB5 hQ5 hO5
      simp only [hW5e]
      clear hW5e hbb
      obtain ⟨b3, hb3⟩ : ∃ b, w.heap.size = b := ⟨_, rfl⟩
      have HB3 := hide hb3
      have hqg : p ≠ b3 := by omega
      rw [hb3] at hQ5
      simp only [hb3]
      clear hb3
      have hC2 := fun o1 o2 => cs2_some (a := 5 + c) (b := 1 + c) (u := .pointer (some ⟨b3, 0, none⟩)) (v := .int .i64 s) (j := 5 + c) HC1.out o1 o2
      have hC3 := fun o1 o2 => cs2_some (a := 5 + c) (b := 1 + c) (u := .pointer (some ⟨b3, 0, none⟩)) (v := .int .i64 s) (j := 1 + c) HC2.out o1 o2
      have hST1 : ∀ (d : Nat → Option Value) (W : World), d 11 = none → PaB W p (cs2 cs (5 + c) (1 + c) (.pointer (some ⟨b3, 0, none⟩)) (.int .i64 s) (d 11) (d 15)) (.slice A n ca) n xs → PaB (W.setCell ⟨p, 5 + c, none⟩ (.pointer (some ⟨b3, 0, none⟩))) p (cs2 cs (5 + c) (1 + c) (.pointer (some ⟨b3, 0, none⟩)) (.int .i64 s) (upd d 11 undef 11) (upd d 11 undef 15)) (.slice A n ca) n xs := fun d W h1 h2 => by
        have e1 : upd d 11 undef 11 = some undef := by simp [upd]
        have e2 : upd d 11 undef 15 = d 15 := by simp [upd]
        rw [h1] at h2
        rw [e1, e2, ← cs2_1 (by omega)]
        exact h2.set_ _ _
      have hST2 : ∀ (d : Nat → Option Value) (W : World), d 15 = none → PaB W p (cs2 cs (5 + c) (1 + c) (.pointer (some ⟨b3, 0, none⟩)) (.int .i64 s) (d 11) (d 15)) (.slice A n ca) n xs → PaB (W.setCell ⟨p, 1 + c, none⟩ (.int .i64 s)) p (cs2 cs (5 + c) (1 + c) (.pointer (some ⟨b3, 0, none⟩)) (.int .i64 s) (upd d 15 undef 11) (upd d 15 undef 15)) (.slice A n ca) n xs := fun d W h1 h2 => by
        have e1 : upd d 15 undef 15 = some undef := by simp [upd]
        have e2 : upd d 15 undef 11 = d 11 := by simp [upd]
        rw [h1] at h2
        rw [e1, e2, ← cs2_2]
        exact h2.set_ _ _
      refine region_steps (R := pick [eqv (.pointer (some ⟨p, 0, none⟩)), eqv (.pointer (some ⟨b3, 0, none⟩)), eqv (.int .i64 c), eqv (.pointer (some ⟨p, 0, none⟩)), eqv (.pointer (some ⟨b3, 0, none⟩)), eqv (.int .i64 c), eqv (.pointer (some ⟨b3, 1, none⟩)), eqv (.int .i64 s), eqv (.pointer (some ⟨p, 0, none⟩)), eqv (.pointer (some ⟨p, 5, none⟩)), eqv (.pointer (some ⟨p, 5 + c, none⟩)), eqv (undef), eqv (.pointer (some ⟨p, 0, none⟩)), eqv (.pointer (some ⟨p, 1, none⟩)), eqv (.pointer (some ⟨p, 1 + c, none⟩)), eqv (undef)]) (S := fun σ w' => PaB w' p (cs2 cs (5 + c) (1 + c) (.pointer (some ⟨b3, 0, none⟩)) (.int .i64 s) (σ 11) (σ 15)) (.slice A n ca) n xs ∧ Bk w' b3 24 #[.int .i64 c, .int .i64 s, .int .i64 k, .int .i64 i, .int .i64 m, .string dt] ∧ Fr (fun b => b = p) W5 w') (T := (fun _ _ => True)) (by kernel_rfl) (by kernel_rfl) (by kernel_rfl) (Stab.pick (Stab.eqv (Stab.eqv (Stab.eqv (Stab.eqv (Stab.eqv (Stab.eqv (Stab.eqv (Stab.eqv (Stab.eqv (Stab.eqv (Stab.eqv (Stab.eqv (Stab.eqv (Stab.eqv (Stab.eqv (Stab.eqv (Stab.nil)))))))))))))))))) (⟨hB5.old (Old.refl' _).drew', hQ5.drew, (Fr.refl _ _).drew⟩) ?steps ?ends
      case steps =>
        refine StepsOk.cons (stepOk_pure [] [(0, .pointer (some ⟨p, 0, none⟩))] rfl rfl (by kernel_rfl) (by kernel_rfl) rfl (fun _ => trivial) (fun σ v w h => by simpa [upd] using h) (fun d E w' hk hda hS hc hf => by rintro  e0; exact ⟨_, by go_simp, rfl⟩)) ?_
        refine StepsOk.cons (stepOk_pure [] [(3, .pointer (some ⟨b3, 0, none⟩))] rfl rfl (by kernel_rfl) (by kernel_rfl) rfl (fun _ => trivial) (fun σ v w h => by simpa [upd] using h) (fun d E w' hk hda hS hc hf => by rintro  e3; exact ⟨_, by go_simp, rfl⟩)) ?_
        refine StepsOk.cons (stepOk_pure [(1, 34)] [] rfl rfl (by kernel_rfl) (by kernel_rfl) rfl (fun _ => trivial) (fun σ v w h => by simpa [upd] using h) (fun d E w' hk hda hS hc hf => by rintro _ q1 rfl e34 ; obtain ⟨hB6, hQ6, hF6⟩ := hS; obtain ⟨⟨s0, s1, s2, s3, s4, s5⟩, l9⟩ := bk6 hQ6; have hb6 := hB6.bk; exact ⟨_, by go_simp, rfl⟩)) ?_
        refine StepsOk.cons (stepOk_pure [] [(0, .pointer (some ⟨p, 0, none⟩))] rfl rfl (by kernel_rfl) (by kernel_rfl) rfl (fun _ => trivial) (fun σ v w h => by simpa [upd] using h) (fun d E w' hk hda hS hc hf => by rintro  e0; exact ⟨_, by go_simp, rfl⟩)) ?_
        refine StepsOk.cons (stepOk_pure [] [(3, .pointer (some ⟨b3, 0, none⟩))] rfl rfl (by kernel_rfl) (by kernel_rfl) rfl (fun _ => trivial) (fun σ v w h => by simpa [upd] using h) (fun d E w' hk hda hS hc hf => by rintro  e3; exact ⟨_, by go_simp, rfl⟩)) ?_
        refine StepsOk.cons (stepOk_pure [(4, 37)] [] rfl rfl (by kernel_rfl) (by kernel_rfl) rfl (fun _ => trivial) (fun σ v w h => by simpa [upd] using h) (fun d E w' hk hda hS hc hf => by rintro _ q4 rfl e37 ; obtain ⟨hB6, hQ6, hF6⟩ := hS; obtain ⟨⟨s0, s1, s2, s3, s4, s5⟩, l9⟩ := bk6 hQ6; have hb6 := hB6.bk; exact ⟨_, by go_simp, rfl⟩)) ?_
        refine StepsOk.cons (stepOk_pure [] [(3, .pointer (some ⟨b3, 0, none⟩))] rfl rfl (by kernel_rfl) (by kernel_rfl) rfl (fun _ => trivial) (fun σ v w h => by simpa [upd] using h) (fun d E w' hk hda hS hc hf => by rintro  e3; exact ⟨_, by go_simp, rfl⟩)) ?_
        refine StepsOk.cons (stepOk_pure [(6, 39)] [] rfl rfl (by kernel_rfl) (by kernel_rfl) rfl (fun _ => trivial) (fun σ v w h => by simpa [upd] using h) (fun d E w' hk hda hS hc hf => by rintro _ q6 rfl e39 ; obtain ⟨hB6, hQ6, hF6⟩ := hS; obtain ⟨⟨s0, s1, s2, s3, s4, s5⟩, l9⟩ := bk6 hQ6; have hb6 := hB6.bk; exact ⟨_, by go_simp, rfl⟩)) ?_
        refine StepsOk.cons (stepOk_pure [(0, 33)] [] rfl rfl (by kernel_rfl) (by kernel_rfl) rfl (fun _ => trivial) (fun σ v w h => by simpa [upd] using h) (fun d E w' hk hda hS hc hf => by rintro _ q0 rfl e33 ; exact ⟨_, by go_simp, rfl⟩)) ?_
        refine StepsOk.cons (stepOk_pure [(8, 41)] [] rfl rfl (by kernel_rfl) (by kernel_rfl) rfl (fun _ => trivial) (fun σ v w h => by simpa [upd] using h) (fun d E w' hk hda hS hc hf => by rintro _ q8 rfl e41 ; exact ⟨_, by go_simp, rfl⟩)) ?_
        refine StepsOk.cons (stepOk_pure [(9, 42), (2, 35)] [] rfl rfl (by kernel_rfl) (by kernel_rfl) rfl (fun _ => trivial) (fun σ v w h => by simpa [upd] using h) (fun d E w' hk hda hS hc hf => by rintro _ q9 rfl e42 _ q2 rfl e35 ; obtain ⟨hB6, hQ6, hF6⟩ := hS; obtain ⟨⟨s0, s1, s2, s3, s4, s5⟩, l9⟩ := bk6 hQ6; have hb6 := hB6.bk; exact ⟨_, by go_simp, rfl⟩)) ?_
        refine StepsOk.cons (stepOk_store [(10, 43)] [(3, .pointer (some ⟨b3, 0, none⟩))] rfl rfl (by kernel_rfl) (by kernel_rfl) rfl (fun d E w' hk hda hS hc hf => by rintro _ q10 rfl e43 e3; obtain ⟨hB6, hQ6, hF6⟩ := hS; obtain ⟨⟨s0, s1, s2, s3, s4, s5⟩, l9⟩ := bk6 hQ6; have hb6 := hB6.bk; obtain ⟨v0, hv0⟩ := hC2 (d 11) (d 15); have y0 := (hb6.cell (5 + c)).trans hv0; have y1 := hb6.frozen (5 + c); exact ⟨w'.setCell ⟨p, 5 + c, none⟩ (.pointer (some ⟨b3, 0, none⟩)), by go_simp, rfl, trivial, ⟨hST1 _ _ (hk 11 (by kernel_rfl)) hB6, hQ6.far (p := ⟨p, 5 + c, none⟩) (Ne.symm hqg) _, hF6.setCell (p := ⟨p, 5 + c, none⟩) (.inr rfl) _⟩⟩)) ?_
        refine StepsOk.cons (stepOk_pure [(3, 36)] [] rfl rfl (by kernel_rfl) (by kernel_rfl) rfl (fun _ => trivial) (fun σ v w h => by simpa [upd] using h) (fun d E w' hk hda hS hc hf => by rintro _ q3 rfl e36 ; exact ⟨_, by go_simp, rfl⟩)) ?_
        refine StepsOk.cons (stepOk_pure [(12, 44)] [] rfl rfl (by kernel_rfl) (by kernel_rfl) rfl (fun _ => trivial) (fun σ v w h => by simpa [upd] using h) (fun d E w' hk hda hS hc hf => by rintro _ q12 rfl e44 ; exact ⟨_, by go_simp, rfl⟩)) ?_
        refine StepsOk.cons (stepOk_pure [(13, 45), (5, 38)] [] rfl rfl (by kernel_rfl) (by kernel_rfl) rfl (fun _ => trivial) (fun σ v w h => by simpa [upd] using h) (fun d E w' hk hda hS hc hf => by rintro _ q13 rfl e45 _ q5 rfl e38 ; obtain ⟨hB6, hQ6, hF6⟩ := hS; obtain ⟨⟨s0, s1, s2, s3, s4, s5⟩, l9⟩ := bk6 hQ6; have hb6 := hB6.bk; exact ⟨_, by go_simp, rfl⟩)) ?_
        refine StepsOk.cons (stepOk_store [(14, 46), (7, 40)] [] rfl rfl (by kernel_rfl) (by kernel_rfl) rfl (fun d E w' hk hda hS hc hf => by rintro _ q14 rfl e46 _ q7 rfl e40 ; obtain ⟨hB6, hQ6, hF6⟩ := hS; obtain ⟨⟨s0, s1, s2, s3, s4, s5⟩, l9⟩ := bk6 hQ6; have hb6 := hB6.bk; obtain ⟨v0, hv0⟩ := hC3 (d 11) (d 15); have y0 := (hb6.cell (1 + c)).trans hv0; have y1 := hb6.frozen (1 + c); exact ⟨w'.setCell ⟨p, 1 + c, none⟩ (.int .i64 s), by go_simp, rfl, trivial, ⟨hST2 _ _ (hk 15 (by kernel_rfl)) hB6, hQ6.far (p := ⟨p, 1 + c, none⟩) (Ne.symm hqg) _, hF6.setCell (p := ⟨p, 1 + c, none⟩) (.inr rfl) _⟩⟩)) ?_
        exact StepsOk.nil
      case ends =>
        intro σ9 w9 hS9 hA9
        refine Ends.eqv (some 33) (.pointer (some ⟨p, 0, none⟩)) rfl (fun _ h => h) ?_
        refine Ends.eqv (some 34) (.pointer (some ⟨b3, 0, none⟩)) rfl (fun _ h => h) ?_
        refine Ends.eqv (some 35) (.int .i64 c) rfl (fun _ h => h) ?_
        refine Ends.eqv (some 36) (.pointer (some ⟨p, 0, none⟩)) rfl (fun _ h => h) ?_
        refine Ends.eqv (some 37) (.pointer (some ⟨b3, 0, none⟩)) rfl (fun _ h => h) ?_
        refine Ends.eqv (some 38) (.int .i64 c) rfl (fun _ h => h) ?_
        refine Ends.eqv (some 39) (.pointer (some ⟨b3, 1, none⟩)) rfl (fun _ h => h) ?_
        refine Ends.eqv (some 40) (.int .i64 s) rfl (fun _ h => h) ?_
        refine Ends.eqv (some 41) (.pointer (some ⟨p, 0, none⟩)) rfl (fun _ h => h) ?_
        refine Ends.eqv (some 42) (.pointer (some ⟨p, 5, none⟩)) rfl (fun _ h => h) ?_
        refine Ends.eqv (some 43) (.pointer (some ⟨p, 5 + c, none⟩)) rfl (fun _ h => h) ?_
        refine Ends.eqv none (undef) rfl (fun _ h => h) ?_
        refine Ends.eqv (some 44) (.pointer (some ⟨p, 0, none⟩)) rfl (fun _ h => h) ?_
        refine Ends.eqv (some 45) (.pointer (some ⟨p, 1, none⟩)) rfl (fun _ h => h) ?_
        refine Ends.eqv (some 46) (.pointer (some ⟨p, 1 + c, none⟩)) rfl (fun _ h => h) ?_
        refine Ends.eqv none (undef) rfl (fun _ h => h) ?_
        refine Ends.nil ?_
        have hA9' := hA9
        clear hA9
        simp only [put_lit, put_none, List.set_cons_zero, List.set_cons_succ]
        obtain ⟨hB9, hQ9, hF9⟩ := hS9
        obtain ⟨u1, hu1⟩ := Option.isSome_iff_exists.1 (hA9' 11 (by simp))
        obtain ⟨u2, hu2⟩ := Option.isSome_iff_exists.1 (hA9' 15 (by simp))
        rw [hu1, hu2] at hB9
        clear hu1 hu2 hA9'
        clear hC2 hC3 hST1 hST2 hB5 hQ5
        go_wp2_with fail
        have hB7 := hB9.old (Old.refl' w9).drew'
        have hQ7 := hQ9.drew
        have hF7 := hide (hF9.drew)
        obtain ⟨WD, hWDe⟩ : ∃ U, w9.drew = U := ⟨_, rfl⟩
        rw [hWDe] at hB7 hQ7 hF7
        obtain ⟨cs7, hcs7⟩ : ∃ x, cs2 cs (5 + c) (1 + c) (.pointer (some ⟨b3, 0, none⟩)) (.int .i64 s) (some u1) (some u2) = x := ⟨_, rfl⟩
        rw [hcs7] at hB7
        have bkX := hB7.bk
        have ownX := hB7.row
        have hNE := hB7.ne
        have hX1 : cs7[0]? = some (.slice A n ca) := by rw [← hcs7]; exact cs2_ne (by omega) (by omega) HC.out.c0 _ _
        have CS := hide (fun (U : World) (h : Old WD U) => (⟨(bk6 (hQ7.old h)).1, ((bkX.old h).cell 0).trans hX1⟩ : (U.cell? ⟨b3, 0, none⟩ = some (.int .i64 c) ∧ U.cell? ⟨b3, 1, none⟩ = some (.int .i64 s) ∧ U.cell? ⟨b3, 2, none⟩ = some (.int .i64 k) ∧ U.cell? ⟨b3, 3, none⟩ = some (.int .i64 i) ∧ U.cell? ⟨b3, 4, none⟩ = some (.int .i64 m) ∧ U.cell? ⟨b3, 5, none⟩ = some (.string dt)) ∧ U.cell? ⟨p, 0, none⟩ = some (.slice A n ca)))
        obtain ⟨Fin, hFin⟩ : ∃ F : World → Prop, F = fun U => ∃ A2 c2, PaB U p (cs7.setIfInBounds 0 (.slice A2 (n + 1) c2)) (.slice A2 (n + 1) c2) (n + 1) (xs ++ [.int .i64 c, .int .i64 s, .bool false, .int .i64 c, .int .i64 s, .int .i64 k, .int .i64 i, .int .i64 m, .string dt, .int .i64 0, .int .i64 0, .string { data := #[] }, .slice none 0 0, .int .i64 0]) ∧ Bk U b3 24 #[.int .i64 c, .int .i64 s, .int .i64 k, .int .i64 i, .int .i64 m, .string dt] ∧
          Fr (fun b => b = p ∨ (Value.slice A n ca).ownBlock = some b) WD U ∧ (∀ b, (Value.slice A2 (n + 1) c2).ownBlock = some b → (Value.slice A n ca).ownBlock = some b ∨ WD.heap.size ≤ b) := ⟨_, rfl⟩
        have hqv : (Value.slice A n ca).ownBlock ≠ some b3 := fun e => by have := HLT.out _ (HV.out _ e); have := HB3.out; omega
        have hAPP := fun (A2 : Option Addr) (c2 : Nat) (W2 : World) (h2 : Apps (WD.alloc (.cells #[.int .i64 c, .int .i64 s, .bool false, .int .i64 c, .int .i64 s, .int .i64 k, .int .i64 i, .int .i64 m, .string dt, .int .i64 0, .int .i64 0, .string { data := #[] }, .slice none 0 0, .int .i64 0] 45)) 0 45 14 (.slice A n ca) (n + 1) (xs ++ [.int .i64 c, .int .i64 s, .bool false, .int .i64 c, .int .i64 s, .int .i64 k, .int .i64 i, .int .i64 m, .string dt, .int .i64 0, .int .i64 0, .string { data := #[] }, .slice none 0 0, .int .i64 0]) (.slice A2 (n + 1) c2) W2) => (by
          obtain ⟨a1, a2, a3⟩ := hB7.app ((Old.refl' WD).alloc' _) h2
          rw [hFin]
          exact ⟨A2, c2, a1, hQ7.fr a2 (fun e => by rcases e with e | e; exact hqg e.symm; exact hqv e), a2, a3⟩ : Fin (W2.setCell ⟨p, 0, none⟩ (.slice A2 (n + 1) c2)))
        clear hB7 hQ7 hB9 hQ9 hF9
        refine region_steps (R := pick [eqv (.pointer (some ⟨p, 0, none⟩)), eqv (.pointer (some ⟨p, 0, none⟩)), eqv (.pointer (some ⟨p, 0, none⟩)), eqv (.pointer (some ⟨p, 0, none⟩)), eqv (.slice A n ca), eqv (.pointer (some ⟨b3, 0, none⟩)), eqv (.int .i64 c), eqv (.pointer (some ⟨b3, 1, none⟩)), eqv (.int .i64 s), eqv (.agg #[.int .i64 c, .int .i64 s, .int .i64 k, .int .i64 i, .int .i64 m, .string dt]), eqv (.agg #[.int .i64 c, .int .i64 s, .bool false, .int .i64 c, .int .i64 s, .int .i64 k, .int .i64 i, .int .i64 m, .string dt, .int .i64 0, .int .i64 0, .string { data := #[] }, .slice none 0 0, .int .i64 0]), eqv (.slice (some ⟨WD.heap.size, 0, none⟩) 1 1), fun v w' => ∃ A2 c2, v = .slice A2 (n + 1) c2, eqv (.pointer (some ⟨p, 0, none⟩)), eqv (.pointer (some ⟨p, 0, none⟩)), eqv (undef)]) (S := fun σ w' => (σ 15 ≠ none → Fin w') ∧ (σ 15 = none → σ 12 ≠ none → ∃ A2 c2, σ 12 = some (.slice A2 (n + 1) c2) ∧ Apps (WD.alloc (.cells #[.int .i64 c, .int .i64 s, .bool false, .int .i64 c, .int .i64 s, .int .i64 k, .int .i64 i, .int .i64 m, .string dt, .int .i64 0, .int .i64 0, .string { data := #[] }, .slice none 0 0, .int .i64 0] 45)) 0 45 14 (.slice A n ca) (n + 1) (xs ++ [.int .i64 c, .int .i64 s, .bool false, .int .i64 c, .int .i64 s, .int .i64 k, .int .i64 i, .int .i64 m, .string dt, .int .i64 0, .int .i64 0, .string { data := #[] }, .slice none 0 0, .int .i64 0]) (.slice A2 (n + 1) c2) w') ∧ (σ 15 = none → σ 12 = none → σ 11 ≠ none → w' = (WD.alloc (.cells #[.int .i64 c, .int .i64 s, .bool false, .int .i64 c, .int .i64 s, .int .i64 k, .int .i64 i, .int .i64 m, .string dt, .int .i64 0, .int .i64 0, .string { data := #[] }, .slice none 0 0, .int .i64 0] 45))) ∧ (σ 15 = none → σ 12 = none → σ 11 = none → w' = WD)) (T := (fun _ _ => True)) (by kernel_rfl) (by kernel_rfl) (by kernel_rfl) (Stab.pick (Stab.eqv (Stab.eqv (Stab.eqv (Stab.eqv (Stab.eqv (Stab.eqv (Stab.eqv (Stab.eqv (Stab.eqv (Stab.eqv (Stab.eqv (Stab.eqv (Stab.cons (fun _ _ _ _ h => h) (Stab.eqv (Stab.eqv (Stab.eqv (Stab.nil)))))))))))))))))) (⟨fun h => absurd rfl h, fun _ h => absurd rfl h, fun _ _ h => absurd rfl h, fun _ _ _ => hWDe⟩) ?steps ?ends
        case steps =>
          refine StepsOk.cons (stepOk_pure [] [(0, .pointer (some ⟨p, 0, none⟩))] rfl rfl (by kernel_rfl) (by kernel_rfl) rfl (fun _ => trivial) (fun σ v w h => by simpa [upd] using h) (fun d E w' hk hda hS hc hf => by rintro  e0; exact ⟨_, by go_simp, rfl⟩)) ?_
          refine StepsOk.cons (stepOk_pure [] [(0, .pointer (some ⟨p, 0, none⟩))] rfl rfl (by kernel_rfl) (by kernel_rfl) rfl (fun _ => trivial) (fun σ v w h => by simpa [upd] using h) (fun d E w' hk hda hS hc hf => by rintro  e0; exact ⟨_, by go_simp, rfl⟩)) ?_
          refine StepsOk.cons (stepOk_pure [(1, 48)] [] rfl rfl (by kernel_rfl) (by kernel_rfl) rfl (fun _ => trivial) (fun σ v w h => by simpa [upd] using h) (fun d E w' hk hda hS hc hf => by rintro _ q1 rfl e48 ; exact ⟨_, by go_simp, rfl⟩)) ?_
          refine StepsOk.cons (stepOk_pure [(2, 49)] [] rfl rfl (by kernel_rfl) (by kernel_rfl) rfl (fun _ => trivial) (fun σ v w h => by simpa [upd] using h) (fun d E w' hk hda hS hc hf => by rintro _ q2 rfl e49 ; exact ⟨_, by go_simp, rfl⟩)) ?_
          refine StepsOk.cons (stepOk_pure [(3, 50)] [] rfl rfl (by kernel_rfl) (by kernel_rfl) rfl (fun _ => trivial) (fun σ v w h => by simpa [upd] using h) (fun d E w' hk hda hS hc hf => by rintro _ q3 rfl e50 ; obtain ⟨⟨s0, s1, s2, s3, s4, s5⟩, t1⟩ := CS.out w' ((Classical.em (d 11 = none)).elim (fun h13 => by rw [hS.2.2.2 (hk 15 (by kernel_rfl)) (hk 12 (by kernel_rfl)) h13]; exact Old.refl' _) (fun h13 => by rw [hS.2.2.1 (hk 15 (by kernel_rfl)) (hk 12 (by kernel_rfl)) h13]; exact (Old.refl' _).alloc' _)); exact ⟨_, by go_simp, rfl⟩)) ?_
          refine StepsOk.cons (stepOk_pure [] [(3, .pointer (some ⟨b3, 0, none⟩))] rfl rfl (by kernel_rfl) (by kernel_rfl) rfl (fun _ => trivial) (fun σ v w h => by simpa [upd] using h) (fun d E w' hk hda hS hc hf => by rintro  e3; exact ⟨_, by go_simp, rfl⟩)) ?_
          refine StepsOk.cons (stepOk_pure [(5, 52)] [] rfl rfl (by kernel_rfl) (by kernel_rfl) rfl (fun _ => trivial) (fun σ v w h => by simpa [upd] using h) (fun d E w' hk hda hS hc hf => by rintro _ q5 rfl e52 ; obtain ⟨⟨s0, s1, s2, s3, s4, s5⟩, t1⟩ := CS.out w' ((Classical.em (d 11 = none)).elim (fun h13 => by rw [hS.2.2.2 (hk 15 (by kernel_rfl)) (hk 12 (by kernel_rfl)) h13]; exact Old.refl' _) (fun h13 => by rw [hS.2.2.1 (hk 15 (by kernel_rfl)) (hk 12 (by kernel_rfl)) h13]; exact (Old.refl' _).alloc' _)); exact ⟨_, by go_simp, rfl⟩)) ?_
          refine StepsOk.cons (stepOk_pure [] [(3, .pointer (some ⟨b3, 0, none⟩))] rfl rfl (by kernel_rfl) (by kernel_rfl) rfl (fun _ => trivial) (fun σ v w h => by simpa [upd] using h) (fun d E w' hk hda hS hc hf => by rintro  e3; exact ⟨_, by go_simp, rfl⟩)) ?_
          refine StepsOk.cons (stepOk_pure [(7, 54)] [] rfl rfl (by kernel_rfl) (by kernel_rfl) rfl (fun _ => trivial) (fun σ v w h => by simpa [upd] using h) (fun d E w' hk hda hS hc hf => by rintro _ q7 rfl e54 ; obtain ⟨⟨s0, s1, s2, s3, s4, s5⟩, t1⟩ := CS.out w' ((Classical.em (d 11 = none)).elim (fun h13 => by rw [hS.2.2.2 (hk 15 (by kernel_rfl)) (hk 12 (by kernel_rfl)) h13]; exact Old.refl' _) (fun h13 => by rw [hS.2.2.1 (hk 15 (by kernel_rfl)) (hk 12 (by kernel_rfl)) h13]; exact (Old.refl' _).alloc' _)); exact ⟨_, by go_simp, rfl⟩)) ?_
          refine StepsOk.cons (stepOk_pure [] [(3, .pointer (some ⟨b3, 0, none⟩))] rfl rfl (by kernel_rfl) (by kernel_rfl) rfl (fun _ => trivial) (fun σ v w h => by simpa [upd] using h) (fun d E w' hk hda hS hc hf => by rintro  e3; obtain ⟨⟨s0, s1, s2, s3, s4, s5⟩, t1⟩ := CS.out w' ((Classical.em (d 11 = none)).elim (fun h13 => by rw [hS.2.2.2 (hk 15 (by kernel_rfl)) (hk 12 (by kernel_rfl)) h13]; exact Old.refl' _) (fun h13 => by rw [hS.2.2.1 (hk 15 (by kernel_rfl)) (hk 12 (by kernel_rfl)) h13]; exact (Old.refl' _).alloc' _)); exact ⟨_, by go_simp, rfl⟩)) ?_
          refine StepsOk.cons (stepOk_pure [(6, 53), (8, 55), (9, 56)] [] rfl rfl (by kernel_rfl) (by kernel_rfl) rfl (fun _ => trivial) (fun σ v w h => by simpa [upd] using h) (fun d E w' hk hda hS hc hf => by rintro _ q6 rfl e53 _ q8 rfl e55 _ q9 rfl e56 ; exact ⟨_, by go_simp, rfl⟩)) ?_
          refine StepsOk.cons (stepOk_mk [(10, 57)] [] rfl rfl (by kernel_rfl) (by kernel_rfl) rfl ?_) ?_
          · rintro d a w' hk hda hS _ q10 rfl e57 
            first | refine Given.nil (Known.nil ?_) | refine Known.nil ?_
            obtain rfl := (hS.2.2.2 (hk 15 (by kernel_rfl)) (hk 12 (by kernel_rfl)) (hk 11 (by kernel_rfl))).symm
            refine wp_runv (w' := (WD.alloc (.cells #[.int .i64 c, .int .i64 s, .bool false, .int .i64 c, .int .i64 s, .int .i64 k, .int .i64 i, .int .i64 m, .string dt, .int .i64 0, .int .i64 0, .string { data := #[] }, .slice none 0 0, .int .i64 0] 45))) (.slice (some ⟨WD.heap.size, 0, none⟩) 1 1) (by revert e57; generalize a.eval = E; intro e57; go_simp) ⟨_, rfl, rfl, trivial, ?_⟩
            exact ⟨fun h => absurd (hk 15 (by kernel_rfl)) (by simpa [upd] using h), fun _ h => absurd (hk 12 (by kernel_rfl)) (by simpa [upd] using h), fun _ _ _ => rfl, fun _ _ h => by simp [upd] at h⟩
          refine StepsOk.cons (stepOk_mk [(4, 51), (11, 58)] [] rfl rfl (by kernel_rfl) (by kernel_rfl) rfl ?_) ?_
          · rintro d a w' hk hda hS _ q4 rfl e51 _ q11 rfl e58 
            first | refine Given.nil (Known.nil ?_) | refine Known.nil ?_
            obtain rfl := hS.2.2.1 (hk 15 (by kernel_rfl)) (hk 12 (by kernel_rfl)) (by rw [q11]; simp)
            refine wp_app _ (.tmp 51) (.tmp 58) 28 rfl 0 45 j0 (.agg #[.int .i64 0, .int .i64 0, .bool false, .int .i64 0, .int .i64 0, .int .i64 0, .int .i64 0, .int .i64 0, .string { data := #[] }, .int .i64 0, .int .i64 0, .string { data := #[] }, .slice none 0 0, .int .i64 0]) 14 144 Try.underlying28 hj0 hj00 hj01 hj02 rfl (by decide) (.slice A n ca) n (xs) e51 (ownX.alloc _) (some ⟨WD.heap.size, 0, none⟩) 1 1 [.int .i64 c, .int .i64 s, .bool false, .int .i64 c, .int .i64 s, .int .i64 k, .int .i64 i, .int .i64 m, .string dt, .int .i64 0, .int .i64 0, .string { data := #[] }, .slice none 0 0, .int .i64 0] e58 rfl (cells_bk (Bk.new WD 45 #[.int .i64 c, .int .i64 s, .bool false, .int .i64 c, .int .i64 s, .int .i64 k, .int .i64 i, .int .i64 m, .string dt, .int .i64 0, .int .i64 0, .string { data := #[] }, .slice none 0 0, .int .i64 0])) (by simp [Value.oneCell']) (by unfold maxLen; omega) (by omega) (Nat.zero_le _) (n + 1) rfl _ rfl ?_
            intro A2 c2 W2 h2
            exact ⟨_, rfl, ⟨A2, c2, rfl⟩, trivial, fun h => absurd (hk 15 (by kernel_rfl)) (by simpa [upd] using h), fun _ _ => ⟨A2, c2, by simp [upd], h2⟩, fun _ h => by simp [upd] at h, fun _ h => by simp [upd] at h⟩
          refine StepsOk.cons (stepOk_pure [(0, 47)] [] rfl rfl (by kernel_rfl) (by kernel_rfl) rfl (fun _ => trivial) (fun σ v w h => by simpa [upd] using h) (fun d E w' hk hda hS hc hf => by rintro _ q0 rfl e47 ; exact ⟨_, by go_simp, rfl⟩)) ?_
          refine StepsOk.cons (stepOk_pure [(13, 60)] [] rfl rfl (by kernel_rfl) (by kernel_rfl) rfl (fun _ => trivial) (fun σ v w h => by simpa [upd] using h) (fun d E w' hk hda hS hc hf => by rintro _ q13 rfl e60 ; exact ⟨_, by go_simp, rfl⟩)) ?_
          refine StepsOk.cons (stepOk_store [(14, 61), (12, 59)] [] rfl rfl (by kernel_rfl) (by kernel_rfl) rfl (fun d E w' hk hda hS hc hf => by rintro _ q14 rfl e61 _ q12 ⟨A2, c2, rfl⟩ e59 ; obtain ⟨A3, c3, e14, h2⟩ := hS.2.1 (hk 15 (by kernel_rfl)) (by rw [q12]; simp); rw [q12] at e14; injection e14 with e14; injection e14 with e14a _ e14b; subst e14a e14b; have hG2 := h2.bk (bkX.alloc _) hNE; have y0 := (hG2.cell 0).trans hX1; have y1 := hG2.frozen 0; exact ⟨w'.setCell ⟨p, 0, none⟩ (.slice A2 (n + 1) c2), by go_simp, rfl, trivial, ⟨fun _ => hAPP _ _ _ h2, fun h => by simp [upd] at h, fun h => by simp [upd] at h, fun h => by simp [upd] at h⟩⟩)) ?_
          exact StepsOk.nil
        case ends =>
          intro σ9 w9 hS9 hA9
          refine Ends.eqv (some 47) (.pointer (some ⟨p, 0, none⟩)) rfl (fun _ h => h) ?_
          refine Ends.eqv (some 48) (.pointer (some ⟨p, 0, none⟩)) rfl (fun _ h => h) ?_
          refine Ends.eqv (some 49) (.pointer (some ⟨p, 0, none⟩)) rfl (fun _ h => h) ?_
          refine Ends.eqv (some 50) (.pointer (some ⟨p, 0, none⟩)) rfl (fun _ h => h) ?_
          refine Ends.eqv (some 51) (.slice A n ca) rfl (fun _ h => h) ?_
          refine Ends.eqv (some 52) (.pointer (some ⟨b3, 0, none⟩)) rfl (fun _ h => h) ?_
          refine Ends.eqv (some 53) (.int .i64 c) rfl (fun _ h => h) ?_
          refine Ends.eqv (some 54) (.pointer (some ⟨b3, 1, none⟩)) rfl (fun _ h => h) ?_
          refine Ends.eqv (some 55) (.int .i64 s) rfl (fun _ h => h) ?_
          refine Ends.eqv (some 56) (.agg #[.int .i64 c, .int .i64 s, .int .i64 k, .int .i64 i, .int .i64 m, .string dt]) rfl (fun _ h => h) ?_
          refine Ends.eqv (some 57) (.agg #[.int .i64 c, .int .i64 s, .bool false, .int .i64 c, .int .i64 s, .int .i64 k, .int .i64 i, .int .i64 m, .string dt, .int .i64 0, .int .i64 0, .string { data := #[] }, .slice none 0 0, .int .i64 0]) rfl (fun _ h => h) ?_
          refine Ends.eqv (some 58) (.slice (some ⟨WD.heap.size, 0, none⟩) 1 1) rfl (fun _ h => h) ?_
          refine Ends.ex (some 59) rfl ?_
          rintro _ p12 ⟨A2, c2, rfl⟩
          refine Ends.eqv (some 60) (.pointer (some ⟨p, 0, none⟩)) rfl (fun _ h => h) ?_
          refine Ends.eqv (some 61) (.pointer (some ⟨p, 0, none⟩)) rfl (fun _ h => h) ?_
          refine Ends.eqv none (undef) rfl (fun _ h => h) ?_
          refine Ends.nil ?_
          have hA9' := hA9
          clear hA9
          simp only [put_lit, put_none, List.set_cons_zero, List.set_cons_succ]
          have hfin := hS9.1 (by have := hA9' 15 (by simp); intro e; rw [e] at this; simp at this)
          clear hS9 hA9'
          rw [hFin] at hfin
          obtain ⟨A2, c2, hB8, hQ8, hF8, hV8⟩ := hfin
          clear CS hAPP bkX ownX hNE hFin hWDe hX1
          have hlast := hide (hB8.last (get_eq (v := .slice A n ca) (by rw [← hcs7]; exact cs2_ne (by omega) (by omega) HC.out.c0 _ _) _) HXL.out rfl)
          have hfr : Fr F w w9 := ((Fr.of_old (S := F) hO5.out).trans' hF7.out (fun b _ hb => by rw [show b = p from hb]; exact HGF.out)).trans' hF8 (fun b _ hb => by rcases hb with hb | hb; exact hb ▸ HGF.out; exact HV.out b hb)
          have hFR := hide hfr
          have hs7 := hF7.out.size
          have hs5 := hO5.out.size
          have hfin := hide (show ∃ F', PaAt w9 p F' (st.asked ⟨c, s, k, i, m, dt⟩) ∧ ∀ b, F' b → F b ∨ w.heap.size ≤ b from by
            refine ⟨fun b => (F b ∨ b = b3 ∨ (Value.slice A2 (n + 1) c2).ownBlock = some b), ⟨⟨_, _, _, by rw [show (st.asked ⟨c, s, k, i, m, dt⟩).n = n + 1 by rw [← hn]; rfl]; exact hB8, ?_, fun b hb => .inr (.inr hb)⟩, .inl HGF.out, fun b hb => ?_, fun x hx => ?_⟩, fun b hb => ?_⟩
            · rw [← hcs7]
              refine PaC.asked HC.out (by omega) (fun v r hv => ?_) hQ8 (.inr (.inl rfl))
              cases r with
              | none => exact hv
              | some r =>
                obtain ⟨bw, e1, e2, e3⟩ := hv
                have hbp : bw ≠ p := fun e => by rw [e] at e2; exact Bk.ne_ e2 HB.out.bk (by decide) rfl
                have hbv : (Value.slice A n ca).ownBlock ≠ some bw := own_ne_bk HB.out.row e2 (by decide)
                exact ⟨bw, e1, ((e2.old hO5.out).fr hF7.out hbp).fr hF8 (fun e => by rcases e with e | e; exact hbp e; exact hbv e), .inl e3⟩
            · rcases hb with hb | hb | hb
              · exact Nat.lt_of_lt_of_le (HLT.out b hb) hfr.size
              · rw [hb]; exact hQ8.lt
              · exact own_lt8 hB8.row hb
            · show (if x = (c : Int) then some _ else st.wait x) = none
              rw [if_neg (by omega)]
              exact HWN.out x hx
            · rcases hb with hb | hb | hb
              · exact .inl hb
              · exact .inr (by rw [hb, HB3.out]; exact Nat.le_refl _)
              · rcases hV8 b hb with hb | hb
                · exact .inl (HV.out b hb)
                · exact .inr (by omega))
          clear hB8 hQ8 hF8 hV8 hfr hF7
          go_wp2_with fail
          go_ret
          exact ⟨rfl, hfin.out, hFR.out, hlast.out⟩
theorem PAsk_at (p : Nat) (F : Nat → Prop) (st : PV) (n : Nat) (hn : st.n = n) (hfew : n ≤ 50000) (q : ReqV) (E : Int) (hE : st.askE q = E) (s' : PV) (hs' : st.ask q = s') (w : World) (h : PaAt w p F st) :
    Calls Try.prog 38 #[.pointer (some ⟨p, 0, none⟩), .agg #[.int .i64 q.client, .int .i64 q.seq, .int .i64 q.kind, .int .i64 q.id, .int .i64 q.mat, .string q.data]] w fun e w' => e = .returned (.int .i64 E) ∧ (∃ F', PaAt w' p F' s' ∧ ∀ b, F' b → F b ∨ w.heap.size ≤ b) ∧ Fr F w w' ∧ (E = 0 → LastIs w' p n [.int .i64 q.client, .int .i64 q.seq, .bool false, .int .i64 q.client, .int .i64 q.seq, .int .i64 q.kind, .int .i64 q.id, .int .i64 q.mat, .string q.data, .int .i64 0, .int .i64 0, .string { data := #[] }, .slice none 0 0, .int .i64 0]) := by
  subst hE hs'
  by_cases hq : q.q.may = true
  · cases hw : st.wait q.client with
    | some r =>
      have e : st.askE q = 4 := by unfold PV.askE; rw [if_pos hq, hw]; rfl
      have e2 : st.ask q = st := by unfold PV.ask; rw [e]; rfl
      rw [e, e2]
      exact (PAsk_state p F st q hq r hw w h).mono fun e w' ⟨he, hb⟩ => ⟨he, ⟨F, h.old hb, fun b hb => .inl hb⟩, Fr.of_old hb, fun h => absurd h (by decide)⟩
    | none =>
      by_cases hs : st.last q.client < q.seq
      · have e : st.askE q = 0 := by unfold PV.askE; rw [if_pos hq, hw, if_neg (by simp), if_pos hs]
        have e2 : st.ask q = st.asked q := by unfold PV.ask; rw [if_pos e]
        rw [e, e2]
        exact (PAsk_done p F st n hn hfew q hq hw hs w h).mono fun e w' ⟨he, h1, h2, h3⟩ => ⟨he, h1, h2, fun _ => h3⟩
      · have e : st.askE q = 9 := by unfold PV.askE; rw [if_pos hq, hw, if_neg (by simp), if_neg hs]
        have e2 : st.ask q = st := by unfold PV.ask; rw [e]; rfl
        rw [e, e2]
        exact (PAsk_order p F st q hq hw hs w h).mono fun e w' ⟨he, hb⟩ => ⟨he, ⟨F, h.old hb, fun b hb => .inl hb⟩, Fr.of_old hb, fun h => absurd h (by decide)⟩
  · have e : st.askE q = 1 := by unfold PV.askE; rw [if_neg hq]
    have e2 : st.ask q = st := by unfold PV.ask; rw [e]; rfl
    rw [e, e2]
    exact (PAsk_arg p q (by simpa using hq) w).mono fun e w' ⟨he, hb⟩ => ⟨he, ⟨F, h.old hb, fun b hb => .inl hb⟩, Fr.of_old hb, fun h => absurd h (by decide)⟩
end Go.Proofs.Ytffahoocbjfdaaa
