/- casebooklaw5.Same: the program's store and the document's, alike. -/
import Derived.Test.YtmhnlpilbbfgnaaHSd
namespace Go.Proofs.Ytmhnlpilbbfgnaa
open Go.RowKit

theorem Ints_eqL (A B : Option Addr) (n : Nat) (vs : List Int) (ca cb : Nat) (w : World) (ha : IntsAt w A vs) (hb : IntsAt w B vs) (hl : n = vs.length) (hn : n ≤ 1000) :
    Calls Try.prog 40 #[.slice A n ca, .slice B n cb] w fun e w' => e = .returned (.bool true) ∧ Old w w' := by
  have := Ints_any A B n n vs vs ca cb w ha hb hl hl hn hn
  rwa [decide_eq_true rfl] at this

theorem Same_none5 (r : Rep) (A B : Option Addr) (ca cb : Nat) (w : World) :
    Calls Try.prog 29 #[.agg #[.int .i64 r.code, .int .i64 r.ver, .string r.data, .slice A 0 ca], .agg #[.int .i64 r.code, .int .i64 r.ver, .string r.data, .slice B 0 cb]] w fun e w' => e = .returned (.bool true) ∧ Old w w' := by
  have := SameReply_any ⟨r.code, r.ver, r.data, []⟩ ⟨r.code, r.ver, r.data, []⟩ A B 0 0 ca cb w (CellsAt.nil _ _) (CellsAt.nil _ _) rfl rfl (by omega) (by omega)
  rwa [(Rep.same_iff _ _).2 rfl] at this

set_option maxRecDepth 100000 in
set_option maxHeartbeats 8000000 in
theorem Same5_st (gs gx : Nat) (Fs Fx : Nat → Prop) (st : StV) (hsn : st.n ≤ 1000) (hok : StOk st) (hvs : ∀ c, (st.ss c).rep.vs = []) (w : World) (h : StAt w gs Fs st) (hx : SDAt w gx Fx st) :
    Calls Try.prog 64 #[.pointer (some ⟨gs, 0, none⟩), .pointer (some ⟨gx, 0, none⟩)] w fun e w' => e = .returned (.bool true) ∧ Old w w' := by
  obtain ⟨nn, hnn⟩ : ∃ n, st.n = n := ⟨_, rfl⟩
  obtain ⟨bs, hbs⟩ : ∃ bs, st.bytes = bs := ⟨_, rfl⟩
  obtain ⟨m, hm⟩ : ∃ m, bs.length = m := ⟨_, rfl⟩
  obtain ⟨ks, hks⟩ : ∃ ks, ksOf st.f = ks := ⟨_, rfl⟩
  obtain ⟨nk, hnk⟩ : ∃ n, ks.length = n := ⟨_, rfl⟩
  have hnk32 : nk ≤ 32 := by have := ksOf_length st.f; rw [hks, hnk] at this; exact this
  have hgx := hx.1.lt gx hx.1.gF
  have hN1 := hide (fun (W : World) (hW : Old w W) => (by rw [← hnn]; exact (hx.old hW).1.n0 : W.cell? ⟨gx, 1, none⟩ = some (.int .i64 nn)))
  have cN := hide (fun (W : World) (hW : Old w W) => by have := Len_st gs Fs st W (h.old hW); rw [hnn] at this; exact this)
  have cB := hide (fun (W : World) (hW : Old w W) => by have := Bytes_st gs Fs st hsn hok W (h.old hW); rw [hbs, hm] at this; exact this)
  have cX := hide (fun (W : World) (hW : Old w W) => by have := SBytes_st gx Fx st hsn hok W (hx.old hW); rw [hbs] at this; exact this)
  have cI := hide (fun (W : World) (hW : Old w W) => by have := Ids_st gs Fs st nk (by rw [hks, hnk]) W (h.old hW); rw [hks] at this; exact this)
  have cJ := hide (fun (W : World) (hW : Old w W) => by have := SIds_st gx Fx st nk (by rw [hks, hnk]) W (hx.old hW); rw [hks] at this; exact this)
  have cE := hide (fun (A B : Option Addr) (ca cb : Nat) (W : World) (ha : IntsAt W A ks) (hb : IntsAt W B ks) => Ints_eqL A B nk ks ca cb W ha hb hnk.symm (by omega))
  have HM := hide hm
  have HX := hide hx
  have HH := hide h
  have HV := hide hvs
  have HSN := hide hsn
  clear hnn hbs hks hnk h hx hok hvs hsn
  go_enter Try.func64, Try.ntmps64
  go_wp2_with fail
  refine region_steps (R := pick [eqv (.pointer (some ⟨gs, 0, none⟩)), eqv (.int .i64 nn), eqv (.pointer (some ⟨gx, 0, none⟩)), eqv (.pointer (some ⟨gx, 0, none⟩)), eqv (.pointer (some ⟨gx, 1, none⟩)), eqv (.int .i64 nn), eqv (.bool false), eqv (.bool false), eqv (.pointer (some ⟨gs, 0, none⟩)), fun v w' => ∃ A c, v = .slice A m c ∧ CellsAt w' A (u8s bs), eqv (.string (strOfNums bs)), eqv (.pointer (some ⟨gx, 0, none⟩)), eqv (.string (strOfNums bs)), eqv (.bool false), eqv (.bool false), eqv (.bool false), eqv (.pointer (some ⟨gs, 0, none⟩)), fun v w' => ∃ A c, v = .slice A nk c ∧ IntsAt w' A ks, eqv (.pointer (some ⟨gx, 0, none⟩)), fun v w' => ∃ A c, v = .slice A nk c ∧ IntsAt w' A ks, eqv (.bool true), eqv (.bool false), eqv (.bool false)]) (S := fun _ w' => Old w w') (T := Old) (by kernel_rfl) (by kernel_rfl) (by kernel_rfl) (Stab.pick (Stab.eqv (Stab.eqv (Stab.eqv (Stab.eqv (Stab.eqv (Stab.eqv (Stab.eqv (Stab.eqv (Stab.eqv (Stab.cons (fun v w w' ht ⟨A, c, h, i⟩ => ⟨A, c, h, i.old ht⟩) (Stab.eqv (Stab.eqv (Stab.eqv (Stab.eqv (Stab.eqv (Stab.eqv (Stab.eqv (Stab.cons (fun v w w' ht ⟨A, c, h, i⟩ => ⟨A, c, h, CellsAt.old i ht⟩) (Stab.eqv (Stab.cons (fun v w w' ht ⟨A, c, h, i⟩ => ⟨A, c, h, CellsAt.old i ht⟩) (Stab.eqv (Stab.eqv (Stab.eqv (Stab.nil))))))))))))))))))))))))) ((Old.refl' _).drew') ?steps ?ends
  case steps =>
    refine StepsOk.cons (stepOk_pure [] [(0, .pointer (some ⟨gs, 0, none⟩))] rfl rfl (by kernel_rfl) (by kernel_rfl) rfl Old.refl' (fun _ _ _ h => h) (fun d E w' hk hda hS hc hf => by rintro  e0; exact ⟨_, by go_simp, rfl⟩)) ?_
    refine StepsOk.cons (stepOk_mk [(0, 13)] [] rfl rfl (by kernel_rfl) (by kernel_rfl) rfl ?_) ?_
    · rintro d a w' hk hda hS _ q0 rfl e13 
      first | refine Given.nil (Known.nil ?_) | refine Known.nil ?_
      refine wp_call 28 _ Try.func28 (by kernel_rfl) (by kernel_rfl) _ _ (by rfl) [.pointer (some ⟨gs, 0, none⟩)] (by simp only [List.map_cons, List.map_nil, *]; try rfl) (cN.out _ hS) ?_
      rintro e w1 ⟨rfl, rfl⟩
      exact ⟨_, rfl, _, rfl, rfl, Old.refl' _, hS⟩
    refine StepsOk.cons (stepOk_pure [] [(1, .pointer (some ⟨gx, 0, none⟩))] rfl rfl (by kernel_rfl) (by kernel_rfl) rfl Old.refl' (fun _ _ _ h => h) (fun d E w' hk hda hS hc hf => by rintro  e1; exact ⟨_, by go_simp, rfl⟩)) ?_
    refine StepsOk.cons (stepOk_pure [(2, 15)] [] rfl rfl (by kernel_rfl) (by kernel_rfl) rfl Old.refl' (fun _ _ _ h => h) (fun d E w' hk hda hS hc hf => by rintro _ q2 rfl e15 ; exact ⟨_, by go_simp, rfl⟩)) ?_
    refine StepsOk.cons (stepOk_pure [(3, 16)] [] rfl rfl (by kernel_rfl) (by kernel_rfl) rfl Old.refl' (fun _ _ _ h => h) (fun d E w' hk hda hS hc hf => by rintro _ q3 rfl e16 ; exact ⟨_, by go_simp, rfl⟩)) ?_
    refine StepsOk.cons (stepOk_pure [(4, 17)] [] rfl rfl (by kernel_rfl) (by kernel_rfl) rfl Old.refl' (fun _ _ _ h => h) (fun d E w' hk hda hS hc hf => by rintro _ q4 rfl e17 ; obtain t1 := hN1.out _ hS; exact ⟨_, by go_simp, rfl⟩)) ?_
    refine StepsOk.cons (stepOk_pure [(1, 14), (5, 18)] [] rfl rfl (by kernel_rfl) (by kernel_rfl) rfl Old.refl' (fun _ _ _ h => h) (fun d E w' hk hda hS hc hf => by rintro _ q1 rfl e14 _ q5 rfl e18 ; exact ⟨_, by go_simp, rfl⟩)) ?_
    refine StepsOk.cons (stepOk_pure [(6, 19)] [] rfl rfl (by kernel_rfl) (by kernel_rfl) rfl Old.refl' (fun _ _ _ h => h) (fun d E w' hk hda hS hc hf => by rintro _ q6 rfl e19 ; exact ⟨_, by go_simp, rfl⟩)) ?_
    refine StepsOk.cons (stepOk_pureG 7 20 false rfl rfl (by kernel_rfl) (fun _ _ h => h) [] [(0, .pointer (some ⟨gs, 0, none⟩))] (by kernel_rfl) (by kernel_rfl) rfl Old.refl' (fun _ _ _ h => h) (fun d E w' hk hda hS hc hf => by rintro  e0; exact ⟨_, by go_simp, rfl⟩)) ?_
    refine StepsOk.cons (stepOk_guard 7 20 false rfl rfl (by kernel_rfl) (fun _ _ h => h) [(8, 21)] [] (by kernel_rfl) (by kernel_rfl) rfl ?_) ?_
    · rintro d a w' hk hda hS _ q8 rfl e21 
      first | refine Given.nil (Known.nil ?_) | refine Known.nil ?_
      refine wp_call 30 _ Try.func30 (by kernel_rfl) (by kernel_rfl) _ _ (by rfl) [.pointer (some ⟨gs, 0, none⟩)] (by simp only [List.map_cons, List.map_nil, *]; try rfl) (cB.out _ hS) ?_
      rintro e w1 ⟨Ab, cb, rfl, ho, f4⟩
      exact ⟨_, rfl, _, rfl, ⟨Ab, cb, rfl, CellsAt.of_own ho⟩, f4, hS.trans' f4⟩
    refine StepsOk.cons (stepOk_pureG 7 20 false rfl rfl (by kernel_rfl) (fun _ _ h => h) [(9, 22)] [] (by kernel_rfl) (by kernel_rfl) rfl Old.refl' (fun _ _ _ h => h) (fun d E w' hk hda hS hc hf => by rintro _ q9 ⟨Ab, cb, rfl, ib⟩ e22 ; obtain t1 := hN1.out _ hS; have hs := run_str m cb HM.out ib; exact ⟨_, by go_simp, rfl⟩)) ?_
    refine StepsOk.cons (stepOk_pureG 7 20 false rfl rfl (by kernel_rfl) (fun _ _ h => h) [] [(1, .pointer (some ⟨gx, 0, none⟩))] (by kernel_rfl) (by kernel_rfl) rfl Old.refl' (fun _ _ _ h => h) (fun d E w' hk hda hS hc hf => by rintro  e1; exact ⟨_, by go_simp, rfl⟩)) ?_
    refine StepsOk.cons (stepOk_guard 7 20 false rfl rfl (by kernel_rfl) (fun _ _ h => h) [(11, 24)] [] (by kernel_rfl) (by kernel_rfl) rfl ?_) ?_
    · rintro d a w' hk hda hS _ q11 rfl e24 
      first | refine Given.nil (Known.nil ?_) | refine Known.nil ?_
      refine wp_call 80 _ Try.func80 (by kernel_rfl) (by kernel_rfl) _ _ (by rfl) [.pointer (some ⟨gx, 0, none⟩)] (by simp only [List.map_cons, List.map_nil, *]; try rfl) (cX.out _ hS) ?_
      rintro e w1 ⟨rfl, f4⟩
      exact ⟨_, rfl, _, rfl, rfl, f4, hS.trans' f4⟩
    refine StepsOk.cons (stepOk_pureG 7 20 false rfl rfl (by kernel_rfl) (fun _ _ h => h) [(10, 23), (12, 25)] [] (by kernel_rfl) (by kernel_rfl) rfl Old.refl' (fun _ _ _ h => h) (fun d E w' hk hda hS hc hf => by rintro _ q10 rfl e23 _ q12 rfl e25 ; exact ⟨_, by go_simp, rfl⟩)) ?_
    refine StepsOk.cons (stepOk_pure [(7, 20), (13, 26)] [] rfl rfl (by kernel_rfl) (by kernel_rfl) rfl Old.refl' (fun _ _ _ h => h) (fun d E w' hk hda hS hc hf => by rintro _ q7 rfl e20 _ q13 rfl e26 ; exact ⟨_, by go_simp, rfl⟩)) ?_
    refine StepsOk.cons (stepOk_pure [(14, 27)] [] rfl rfl (by kernel_rfl) (by kernel_rfl) rfl Old.refl' (fun _ _ _ h => h) (fun d E w' hk hda hS hc hf => by rintro _ q14 rfl e27 ; exact ⟨_, by go_simp, rfl⟩)) ?_
    refine StepsOk.cons (stepOk_pureG 15 28 false rfl rfl (by kernel_rfl) (fun _ _ h => h) [] [(0, .pointer (some ⟨gs, 0, none⟩))] (by kernel_rfl) (by kernel_rfl) rfl Old.refl' (fun _ _ _ h => h) (fun d E w' hk hda hS hc hf => by rintro  e0; exact ⟨_, by go_simp, rfl⟩)) ?_
    refine StepsOk.cons (stepOk_guard 15 28 false rfl rfl (by kernel_rfl) (fun _ _ h => h) [(16, 29)] [] (by kernel_rfl) (by kernel_rfl) rfl ?_) ?_
    · rintro d a w' hk hda hS _ q16 rfl e29 
      first | refine Given.nil (Known.nil ?_) | refine Known.nil ?_
      refine wp_call 81 _ Try.func81 (by kernel_rfl) (by kernel_rfl) _ _ (by rfl) [.pointer (some ⟨gs, 0, none⟩)] (by simp only [List.map_cons, List.map_nil, *]; try rfl) (cI.out _ hS) ?_
      rintro e w1 ⟨As, cs, rfl, ho, f4⟩
      exact ⟨_, rfl, _, rfl, ⟨As, cs, rfl, CellsAt.of_own ho⟩, f4, hS.trans' f4⟩
    refine StepsOk.cons (stepOk_pureG 15 28 false rfl rfl (by kernel_rfl) (fun _ _ h => h) [] [(1, .pointer (some ⟨gx, 0, none⟩))] (by kernel_rfl) (by kernel_rfl) rfl Old.refl' (fun _ _ _ h => h) (fun d E w' hk hda hS hc hf => by rintro  e1; exact ⟨_, by go_simp, rfl⟩)) ?_
    refine StepsOk.cons (stepOk_guard 15 28 false rfl rfl (by kernel_rfl) (fun _ _ h => h) [(18, 31)] [] (by kernel_rfl) (by kernel_rfl) rfl ?_) ?_
    · rintro d a w' hk hda hS _ q18 rfl e31 
      first | refine Given.nil (Known.nil ?_) | refine Known.nil ?_
      refine wp_call 82 _ Try.func82 (by kernel_rfl) (by kernel_rfl) _ _ (by rfl) [.pointer (some ⟨gx, 0, none⟩)] (by simp only [List.map_cons, List.map_nil, *]; try rfl) (cJ.out _ hS) ?_
      rintro e w1 ⟨Ax, cx, rfl, ho, f4⟩
      exact ⟨_, rfl, _, rfl, ⟨Ax, cx, rfl, ho⟩, f4, hS.trans' f4⟩
    refine StepsOk.cons (stepOk_guard 15 28 false rfl rfl (by kernel_rfl) (fun _ _ h => h) [(17, 30), (19, 32)] [] (by kernel_rfl) (by kernel_rfl) rfl ?_) ?_
    · rintro d a w' hk hda hS _ q17 ⟨As, cs, rfl, is⟩ e30 _ q19 ⟨Ax, cx, rfl, ix⟩ e32 
      first | refine Given.nil (Known.nil ?_) | refine Known.nil ?_
      refine wp_call 40 _ Try.func40 (by kernel_rfl) (by kernel_rfl) _ _ (by rfl) [.slice As nk cs, .slice Ax nk cx] (by simp only [List.map_cons, List.map_nil, *]; try rfl) (cE.out _ _ _ _ _ is ix) ?_
      rintro e w1 ⟨rfl, f4⟩
      exact ⟨_, rfl, _, rfl, rfl, f4, hS.trans' f4⟩
    refine StepsOk.cons (stepOk_pureG 15 28 false rfl rfl (by kernel_rfl) (fun _ _ h => h) [(20, 33)] [] (by kernel_rfl) (by kernel_rfl) rfl Old.refl' (fun _ _ _ h => h) (fun d E w' hk hda hS hc hf => by rintro _ q20 rfl e33 ; exact ⟨_, by go_simp, rfl⟩)) ?_
    refine StepsOk.cons (stepOk_pure [(15, 28), (21, 34)] [] rfl rfl (by kernel_rfl) (by kernel_rfl) rfl Old.refl' (fun _ _ _ h => h) (fun d E w' hk hda hS hc hf => by rintro _ q15 rfl e28 _ q21 rfl e34 ; exact ⟨_, by go_simp, rfl⟩)) ?_
    exact StepsOk.nil
  case ends =>
    intro σ9 w9 hS9 hA9
    refine Ends.eqv (some 13) (.pointer (some ⟨gs, 0, none⟩)) rfl (fun _ h => h) ?_
    refine Ends.eqv (some 14) (.int .i64 nn) rfl (fun _ h => h) ?_
    refine Ends.eqv (some 15) (.pointer (some ⟨gx, 0, none⟩)) rfl (fun _ h => h) ?_
    refine Ends.eqv (some 16) (.pointer (some ⟨gx, 0, none⟩)) rfl (fun _ h => h) ?_
    refine Ends.eqv (some 17) (.pointer (some ⟨gx, 1, none⟩)) rfl (fun _ h => h) ?_
    refine Ends.eqv (some 18) (.int .i64 nn) rfl (fun _ h => h) ?_
    refine Ends.eqv (some 19) (.bool false) rfl (fun _ h => h) ?_
    refine Ends.eqv (some 20) (.bool false) rfl (fun _ h => h) ?_
    refine Ends.eqv (some 21) (.pointer (some ⟨gs, 0, none⟩)) rfl (fun _ h => h) ?_
    refine Ends.ex (some 22) rfl ?_
    rintro _ p9 ⟨Ab, cb, rfl, ib⟩
    refine Ends.eqv (some 23) (.string (strOfNums bs)) rfl (fun _ h => h) ?_
    refine Ends.eqv (some 24) (.pointer (some ⟨gx, 0, none⟩)) rfl (fun _ h => h) ?_
    refine Ends.eqv (some 25) (.string (strOfNums bs)) rfl (fun _ h => h) ?_
    refine Ends.eqv (some 26) (.bool false) rfl (fun _ h => h) ?_
    refine Ends.eqv (some 27) (.bool false) rfl (fun _ h => h) ?_
    refine Ends.eqv (some 28) (.bool false) rfl (fun _ h => h) ?_
    refine Ends.eqv (some 29) (.pointer (some ⟨gs, 0, none⟩)) rfl (fun _ h => h) ?_
    refine Ends.ex (some 30) rfl ?_
    rintro _ p17 ⟨As, cs, rfl, is⟩
    refine Ends.eqv (some 31) (.pointer (some ⟨gx, 0, none⟩)) rfl (fun _ h => h) ?_
    refine Ends.ex (some 32) rfl ?_
    rintro _ p19 ⟨Ax, cx, rfl, ix⟩
    refine Ends.eqv (some 33) (.bool true) rfl (fun _ h => h) ?_
    refine Ends.eqv (some 34) (.bool false) rfl (fun _ h => h) ?_
    refine Ends.eqv (some 35) (.bool false) rfl (fun _ h => h) ?_
    refine Ends.nil ?_
    clear hA9
    simp only [put_lit, put_none, List.set_cons_zero, List.set_cons_succ]
    have o9 := hS9
    clear hS9
    clear cN cB cX cI cJ cE hN1
    obtain ⟨W1, hW1⟩ : ∃ W : World, W = w9 := ⟨_, rfl⟩
    rw [← hW1] at o9
    simp only [← hW1]
    clear hW1
    go_wp2_with fail
    go_loopw [5] (fun iv wr => ∃ k : Nat, k ≤ 6 ∧ iv = .int .i64 ((k : Int) - 1) ∧ Old w wr) (fun iv _ => (6 - (intOf iv + 1)).toNat)
    case atStart => exact ⟨0, Nat.zero_le _, rfl, o9⟩
    case round =>
      clear o9
      obtain ⟨k, hk, rfl, hB⟩ := hrel
      by_cases hin : 1 ≤ k ∧ k ≤ 4
      · obtain ⟨c, rfl⟩ : ∃ c, k = c + 1 := ⟨k - 1, by omega⟩
        have hc4 : c < 4 := by omega
        have hc4' : (c : Int) < 4 := by omega
        have hc4'' : (c : Int) ≤ 4 := by omega
        have hval : ((c + 1 : Nat) : Int) - 1 = c := by omega
        rw [hval]
        have hvs := HV.out c
        obtain ⟨rp, hrp⟩ : ∃ r, (st.ss c).rep = r := ⟨_, rfl⟩
        obtain ⟨sq, hsq⟩ : ∃ r, (st.ss c).seq = r := ⟨_, rfl⟩
        obtain ⟨pl, hpl⟩ : ∃ r, (st.ss c).place = r := ⟨_, rfl⟩
        rw [hrp] at hvs
        have cL := hide (fun (W : World) (hW : Old wr W) => by have := Last_st gs c hc4 Fs st W (HH.out.old (hB.trans' hW)); rw [hrp, hpl] at this; exact this)
        have cS := hide (fun (W : World) (hW : Old wr W) => by have := Seq_st gs c hc4 Fs st W (HH.out.old (hB.trans' hW)); rw [hsq] at this; exact this)
        obtain ⟨-, h42, h43, h44, At, ct, h45⟩ := HX.out.1.rps c hc4
        have h34 := HX.out.1.sqs c hc4
        have h38 := HX.out.1.pls c hc4
        simp only [hrp, hsq, hpl] at h42 h43 h44 h34 h38
        have HVAL := hide hval
        have r0 := Old.refl' wr
        clear hrp hsq hpl hval
        go_wp2_with fail
        refine (cL.out _ r0).mono ?_
        rintro e w2 ⟨A2, c2, rfl, b2⟩
        have k2 := Bk.new w2 32 #[.int .i64 rp.code, .int .i64 rp.ver, .string rp.data, .slice A2 0 c2]
        have hb8 := bk_new1 w2 (.cells #[.int .i64 rp.code, .int .i64 rp.ver, .string rp.data, .slice A2 0 c2] 32) 32 #[.int .i64 0, .int .i64 0, .string { data := #[] }, .slice none 0 0]
        go_wp2_with fail
        have hsz2 := (hB.trans' b2).size
        have hszr := b2.size
        have hgx2 : gx < w2.heap.size := by omega
        obtain ⟨b7, hb7⟩ : ∃ b, w2.heap.size = b := ⟨_, rfl⟩
        rw [hb7] at k2 hb8 hgx2 hsz2 hszr
        simp only [hb7]
        obtain ⟨b8, hb8e⟩ : ∃ b, b7 + 1 = b := ⟨_, rfl⟩
        rw [hb8e] at hb8
        simp only [hb8e]
        have k7 := k2.alloc (.cells #[.int .i64 0, .int .i64 0, .string { data := #[] }, .slice none 0 0] 32)
        have oWB := ((hB.trans' b2).alloc' (.cells #[.int .i64 rp.code, .int .i64 rp.ver, .string rp.data, .slice A2 0 c2] 32)).alloc' (.cells #[.int .i64 0, .int .i64 0, .string { data := #[] }, .slice none 0 0] 32)
        have oWr := (b2.alloc' (.cells #[.int .i64 rp.code, .int .i64 rp.ver, .string rp.data, .slice A2 0 c2] 32)).alloc' (.cells #[.int .i64 0, .int .i64 0, .string { data := #[] }, .slice none 0 0] 32)
        obtain ⟨WB, hWB⟩ : ∃ W, (w2.alloc (.cells #[.int .i64 rp.code, .int .i64 rp.ver, .string rp.data, .slice A2 0 c2] 32)).alloc (.cells #[.int .i64 0, .int .i64 0, .string { data := #[] }, .slice none 0 0] 32) = W := ⟨_, rfl⟩
        rw [hWB] at hb8 k7 oWB oWr
        simp only [hWB]
        have hgW : gx < WB.heap.size := Nat.lt_of_lt_of_le hgx oWB.size
        have hX := hide (fun (W : World) (hW : Fr (fun q => q = b8) WB W) => (⟨⟨((hW.cell (p := ⟨gx, 42 + c * 4, none⟩) hgW (by show ¬ gx = b8; omega)).trans (oWB.cell (p := ⟨gx, 42 + c * 4, none⟩) hgx)).trans h42, ((hW.cell (p := ⟨gx, 42 + c * 4 + 1, none⟩) hgW (by show ¬ gx = b8; omega)).trans (oWB.cell (p := ⟨gx, 42 + c * 4 + 1, none⟩) hgx)).trans h43, ((hW.cell (p := ⟨gx, 42 + c * 4 + 2, none⟩) hgW (by show ¬ gx = b8; omega)).trans (oWB.cell (p := ⟨gx, 42 + c * 4 + 2, none⟩) hgx)).trans h44, ((hW.cell (p := ⟨gx, 42 + c * 4 + 3, none⟩) hgW (by show ¬ gx = b8; omega)).trans (oWB.cell (p := ⟨gx, 42 + c * 4 + 3, none⟩) hgx)).trans h45⟩,
          ((hW.cell (p := ⟨gx, 34 + c, none⟩) hgW (by show ¬ gx = b8; omega)).trans (oWB.cell (p := ⟨gx, 34 + c, none⟩) hgx)).trans h34, ((hW.cell (p := ⟨gx, 38 + c, none⟩) hgW (by show ¬ gx = b8; omega)).trans (oWB.cell (p := ⟨gx, 38 + c, none⟩) hgx)).trans h38, True.intro⟩ :
          (W.cell? ⟨gx, 42 + c * 4, none⟩ = some (.int .i64 rp.code) ∧ W.cell? ⟨gx, 42 + c * 4 + 1, none⟩ = some (.int .i64 rp.ver) ∧ W.cell? ⟨gx, 42 + c * 4 + 2, none⟩ = some (.string rp.data) ∧ W.cell? ⟨gx, 42 + c * 4 + 3, none⟩ = some (.slice At 0 ct)) ∧ W.cell? ⟨gx, 34 + c, none⟩ = some (.int .i64 sq) ∧ W.cell? ⟨gx, 38 + c, none⟩ = some (.int .i64 pl) ∧ True))
        clear k2 h42 h43 h44 h45 h34 h38 hb7 hWB
        refine region_steps (R := pick [eqv (.pointer (some ⟨gx, 0, none⟩)), eqv (.int .i64 c), eqv (.pointer (some ⟨gx, 0, none⟩)), eqv (.pointer (some ⟨gx, 42, none⟩)), eqv (.pointer (some ⟨gx, 42 + c * 4, none⟩)), eqv (.agg #[.int .i64 rp.code, .int .i64 rp.ver, .string rp.data, .slice At 0 ct]), eqv (.pointer (some ⟨gx, 0, none⟩)), eqv (.int .i64 c), eqv (.pointer (some ⟨gx, 0, none⟩)), eqv (.pointer (some ⟨gx, 34, none⟩)), eqv (.pointer (some ⟨gx, 34 + c, none⟩)), eqv (.int .i64 sq), eqv (.pointer (some ⟨gx, 0, none⟩)), eqv (.int .i64 c), eqv (.pointer (some ⟨gx, 0, none⟩)), eqv (.pointer (some ⟨gx, 38, none⟩)), eqv (.pointer (some ⟨gx, 38 + c, none⟩)), eqv (.int .i64 pl), eqv (undef), eqv (.int .i64 sq), eqv (.int .i64 pl)]) (S := fun σ w' => Fr (fun q => q = b8) WB w' ∧ (σ 18 = none → Bk w' b8 32 #[.int .i64 0, .int .i64 0, .string { data := #[] }, .slice none 0 0]) ∧ (σ 18 ≠ none → Bk w' b8 32 #[.int .i64 rp.code, .int .i64 rp.ver, .string rp.data, .slice At 0 ct])) (T := (fun _ _ => True)) (by kernel_rfl) (by kernel_rfl) (by kernel_rfl) (Stab.pick (Stab.eqv (Stab.eqv (Stab.eqv (Stab.eqv (Stab.eqv (Stab.eqv (Stab.eqv (Stab.eqv (Stab.eqv (Stab.eqv (Stab.eqv (Stab.eqv (Stab.eqv (Stab.eqv (Stab.eqv (Stab.eqv (Stab.eqv (Stab.eqv (Stab.eqv (Stab.eqv (Stab.eqv (Stab.nil))))))))))))))))))))))) (⟨(Fr.refl _ _).drew, fun _ => hb8.drew, fun h => absurd rfl h⟩) ?steps ?ends
        case steps =>
          refine StepsOk.cons (stepOk_pure [] [(1, .pointer (some ⟨gx, 0, none⟩))] rfl rfl (by kernel_rfl) (by kernel_rfl) rfl (fun _ => trivial) (fun σ v w h => by simpa [upd] using h) (fun d E w' hk hda hS hc hf => by rintro  e1; exact ⟨_, by go_simp, rfl⟩)) ?_
          refine StepsOk.cons (stepOk_pure [] [(5, .int .i64 c)] rfl rfl (by kernel_rfl) (by kernel_rfl) rfl (fun _ => trivial) (fun σ v w h => by simpa [upd] using h) (fun d E w' hk hda hS hc hf => by rintro  e5; exact ⟨_, by go_simp, rfl⟩)) ?_
          refine StepsOk.cons (stepOk_pure [(0, 52)] [] rfl rfl (by kernel_rfl) (by kernel_rfl) rfl (fun _ => trivial) (fun σ v w h => by simpa [upd] using h) (fun d E w' hk hda hS hc hf => by rintro _ q0 rfl e52 ; exact ⟨_, by go_simp, rfl⟩)) ?_
          refine StepsOk.cons (stepOk_pure [(2, 54)] [] rfl rfl (by kernel_rfl) (by kernel_rfl) rfl (fun _ => trivial) (fun σ v w h => by simpa [upd] using h) (fun d E w' hk hda hS hc hf => by rintro _ q2 rfl e54 ; exact ⟨_, by go_simp, rfl⟩)) ?_
          refine StepsOk.cons (stepOk_pure [(3, 55), (1, 53)] [] rfl rfl (by kernel_rfl) (by kernel_rfl) rfl (fun _ => trivial) (fun σ v w h => by simpa [upd] using h) (fun d E w' hk hda hS hc hf => by rintro _ q3 rfl e55 _ q1 rfl e53 ; obtain ⟨⟨s0, s1, s2, s3⟩, u0, u1, -⟩ := hX.out _ hS.1; exact ⟨_, by go_simp, rfl⟩)) ?_
          refine StepsOk.cons (stepOk_pure [(4, 56)] [] rfl rfl (by kernel_rfl) (by kernel_rfl) rfl (fun _ => trivial) (fun σ v w h => by simpa [upd] using h) (fun d E w' hk hda hS hc hf => by rintro _ q4 rfl e56 ; obtain ⟨⟨s0, s1, s2, s3⟩, u0, u1, -⟩ := hX.out _ hS.1; exact ⟨_, by go_simp, rfl⟩)) ?_
          refine StepsOk.cons (stepOk_pure [] [(1, .pointer (some ⟨gx, 0, none⟩))] rfl rfl (by kernel_rfl) (by kernel_rfl) rfl (fun _ => trivial) (fun σ v w h => by simpa [upd] using h) (fun d E w' hk hda hS hc hf => by rintro  e1; exact ⟨_, by go_simp, rfl⟩)) ?_
          refine StepsOk.cons (stepOk_pure [] [(5, .int .i64 c)] rfl rfl (by kernel_rfl) (by kernel_rfl) rfl (fun _ => trivial) (fun σ v w h => by simpa [upd] using h) (fun d E w' hk hda hS hc hf => by rintro  e5; exact ⟨_, by go_simp, rfl⟩)) ?_
          refine StepsOk.cons (stepOk_pure [(6, 58)] [] rfl rfl (by kernel_rfl) (by kernel_rfl) rfl (fun _ => trivial) (fun σ v w h => by simpa [upd] using h) (fun d E w' hk hda hS hc hf => by rintro _ q6 rfl e58 ; exact ⟨_, by go_simp, rfl⟩)) ?_
          refine StepsOk.cons (stepOk_pure [(8, 60)] [] rfl rfl (by kernel_rfl) (by kernel_rfl) rfl (fun _ => trivial) (fun σ v w h => by simpa [upd] using h) (fun d E w' hk hda hS hc hf => by rintro _ q8 rfl e60 ; exact ⟨_, by go_simp, rfl⟩)) ?_
          refine StepsOk.cons (stepOk_pure [(9, 61), (7, 59)] [] rfl rfl (by kernel_rfl) (by kernel_rfl) rfl (fun _ => trivial) (fun σ v w h => by simpa [upd] using h) (fun d E w' hk hda hS hc hf => by rintro _ q9 rfl e61 _ q7 rfl e59 ; obtain ⟨⟨s0, s1, s2, s3⟩, u0, u1, -⟩ := hX.out _ hS.1; exact ⟨_, by go_simp, rfl⟩)) ?_
          refine StepsOk.cons (stepOk_pure [(10, 62)] [] rfl rfl (by kernel_rfl) (by kernel_rfl) rfl (fun _ => trivial) (fun σ v w h => by simpa [upd] using h) (fun d E w' hk hda hS hc hf => by rintro _ q10 rfl e62 ; obtain ⟨⟨s0, s1, s2, s3⟩, u0, u1, -⟩ := hX.out _ hS.1; exact ⟨_, by go_simp, rfl⟩)) ?_
          refine StepsOk.cons (stepOk_pure [] [(1, .pointer (some ⟨gx, 0, none⟩))] rfl rfl (by kernel_rfl) (by kernel_rfl) rfl (fun _ => trivial) (fun σ v w h => by simpa [upd] using h) (fun d E w' hk hda hS hc hf => by rintro  e1; exact ⟨_, by go_simp, rfl⟩)) ?_
          refine StepsOk.cons (stepOk_pure [] [(5, .int .i64 c)] rfl rfl (by kernel_rfl) (by kernel_rfl) rfl (fun _ => trivial) (fun σ v w h => by simpa [upd] using h) (fun d E w' hk hda hS hc hf => by rintro  e5; exact ⟨_, by go_simp, rfl⟩)) ?_
          refine StepsOk.cons (stepOk_pure [(12, 64)] [] rfl rfl (by kernel_rfl) (by kernel_rfl) rfl (fun _ => trivial) (fun σ v w h => by simpa [upd] using h) (fun d E w' hk hda hS hc hf => by rintro _ q12 rfl e64 ; exact ⟨_, by go_simp, rfl⟩)) ?_
          refine StepsOk.cons (stepOk_pure [(14, 66)] [] rfl rfl (by kernel_rfl) (by kernel_rfl) rfl (fun _ => trivial) (fun σ v w h => by simpa [upd] using h) (fun d E w' hk hda hS hc hf => by rintro _ q14 rfl e66 ; exact ⟨_, by go_simp, rfl⟩)) ?_
          refine StepsOk.cons (stepOk_pure [(15, 67), (13, 65)] [] rfl rfl (by kernel_rfl) (by kernel_rfl) rfl (fun _ => trivial) (fun σ v w h => by simpa [upd] using h) (fun d E w' hk hda hS hc hf => by rintro _ q15 rfl e67 _ q13 rfl e65 ; obtain ⟨⟨s0, s1, s2, s3⟩, u0, u1, -⟩ := hX.out _ hS.1; exact ⟨_, by go_simp, rfl⟩)) ?_
          refine StepsOk.cons (stepOk_pure [(16, 68)] [] rfl rfl (by kernel_rfl) (by kernel_rfl) rfl (fun _ => trivial) (fun σ v w h => by simpa [upd] using h) (fun d E w' hk hda hS hc hf => by rintro _ q16 rfl e68 ; obtain ⟨⟨s0, s1, s2, s3⟩, u0, u1, -⟩ := hX.out _ hS.1; exact ⟨_, by go_simp, rfl⟩)) ?_
          refine StepsOk.cons (stepOk_store [(5, 57)] [(8, .pointer (some ⟨b8, 0, none⟩))] rfl rfl (by kernel_rfl) (by kernel_rfl) rfl (fun d E w' hk hda hS hc hf => by rintro _ q5 rfl e57 e8; have hz := hS.2.1 (hk 18 (by kernel_rfl)); obtain ⟨⟨z0, z1, z2, z3⟩, ⟨f0, f1, f2, f3⟩, lz⟩ := bk4 hz; exact ⟨((((w'.setCell ⟨b8, 0, none⟩ (.int .i64 rp.code)).setCell ⟨b8, 1, none⟩ (.int .i64 rp.ver)).setCell ⟨b8, 2, none⟩ (.string rp.data)).setCell ⟨b8, 3, none⟩ (.slice At 0 ct)), by go_simp, rfl, trivial, ⟨hS.1.trans (fr4 (Fr.refl _ _)), fun h => by simp [upd] at h, fun _ => Bk.set4 hz⟩⟩)) ?_
          refine StepsOk.cons (stepOk_pure [(11, 63)] [] rfl rfl (by kernel_rfl) (by kernel_rfl) rfl (fun _ => trivial) (fun σ v w h => by simpa [upd] using h) (fun d E w' hk hda hS hc hf => by rintro _ q11 rfl e63 ; exact ⟨_, by go_simp, rfl⟩)) ?_
          refine StepsOk.cons (stepOk_pure [(17, 69)] [] rfl rfl (by kernel_rfl) (by kernel_rfl) rfl (fun _ => trivial) (fun σ v w h => by simpa [upd] using h) (fun d E w' hk hda hS hc hf => by rintro _ q17 rfl e69 ; exact ⟨_, by go_simp, rfl⟩)) ?_
          exact StepsOk.nil
        case ends =>
          intro σ9 w9 hS9 hA9
          refine Ends.eqv (some 52) (.pointer (some ⟨gx, 0, none⟩)) rfl (fun _ h => h) ?_
          refine Ends.eqv (some 53) (.int .i64 c) rfl (fun _ h => h) ?_
          refine Ends.eqv (some 54) (.pointer (some ⟨gx, 0, none⟩)) rfl (fun _ h => h) ?_
          refine Ends.eqv (some 55) (.pointer (some ⟨gx, 42, none⟩)) rfl (fun _ h => h) ?_
          refine Ends.eqv (some 56) (.pointer (some ⟨gx, 42 + c * 4, none⟩)) rfl (fun _ h => h) ?_
          refine Ends.eqv (some 57) (.agg #[.int .i64 rp.code, .int .i64 rp.ver, .string rp.data, .slice At 0 ct]) rfl (fun _ h => h) ?_
          refine Ends.eqv (some 58) (.pointer (some ⟨gx, 0, none⟩)) rfl (fun _ h => h) ?_
          refine Ends.eqv (some 59) (.int .i64 c) rfl (fun _ h => h) ?_
          refine Ends.eqv (some 60) (.pointer (some ⟨gx, 0, none⟩)) rfl (fun _ h => h) ?_
          refine Ends.eqv (some 61) (.pointer (some ⟨gx, 34, none⟩)) rfl (fun _ h => h) ?_
          refine Ends.eqv (some 62) (.pointer (some ⟨gx, 34 + c, none⟩)) rfl (fun _ h => h) ?_
          refine Ends.eqv (some 63) (.int .i64 sq) rfl (fun _ h => h) ?_
          refine Ends.eqv (some 64) (.pointer (some ⟨gx, 0, none⟩)) rfl (fun _ h => h) ?_
          refine Ends.eqv (some 65) (.int .i64 c) rfl (fun _ h => h) ?_
          refine Ends.eqv (some 66) (.pointer (some ⟨gx, 0, none⟩)) rfl (fun _ h => h) ?_
          refine Ends.eqv (some 67) (.pointer (some ⟨gx, 38, none⟩)) rfl (fun _ h => h) ?_
          refine Ends.eqv (some 68) (.pointer (some ⟨gx, 38 + c, none⟩)) rfl (fun _ h => h) ?_
          refine Ends.eqv (some 69) (.int .i64 pl) rfl (fun _ h => h) ?_
          refine Ends.eqv none (undef) rfl (fun _ h => h) ?_
          refine Ends.eqv (some 9) (.int .i64 sq) rfl (fun _ h => h) ?_
          refine Ends.eqv (some 10) (.int .i64 pl) rfl (fun _ h => h) ?_
          refine Ends.nil ?_
          have hA9' := hA9
          clear hA9
          simp only [put_lit, put_none, List.set_cons_zero, List.set_cons_succ]
          obtain ⟨u18, hu18⟩ := Option.isSome_iff_exists.1 (hA9' 18 (by simp))
          have hk9 := hS9.2.2 (by rw [hu18]; exact fun h => by cases h)
          have hf9 := hS9.1
          clear hS9 hA9' hu18
          have k79 := k7.fr hf9 (by show ¬ b7 = b8; omega)
          have o9w := hide (Old.fr_new oWB hf9 (fun q hq => by have : q = b8 := hq; have := hB.size; omega))
          have o9r := Old.fr_new oWr hf9 (fun q hq => by have : q = b8 := hq; omega)
          obtain ⟨⟨x0, x1, x2, x3⟩, -, lx⟩ := bk4 k79
          obtain ⟨⟨y0, y1, y2, y3⟩, -, ly⟩ := bk4 hk9
          have hX7 := hide (fun (W : World) (hW : Old w9 W) => (⟨(bk4 (k79.old hW)).1, (bk4 (hk9.old hW)).1⟩ : _ ∧ _))
          clear k79 hk9 k7 hf9 hb8 oWB oWr hX
          go_wp2_with (first
            | (go_at_call 84; refine (cS.out _ o9r).mono ?_; rintro e w3 ⟨rfl, b3⟩; clear x0 x1 x2 x3 y0 y1 y2 y3; obtain ⟨⟨x0, x1, x2, x3⟩, ⟨y0, y1, y2, y3⟩⟩ := hX7.out _ b3)
            | (go_at_call 29; (with_reducible refine (Same_none5 rp A2 At c2 ct _).mono ?_); rintro e w4 ⟨rfl, b4⟩))
          go_roundw
          case rel => exact ⟨c + 2, by omega, by go_num, (o9w.out.trans' b3).trans' b4⟩
          case measure => simp [intOf]; omega
      · by_cases hk6 : k = 6
        · subst hk6
          have r0 := hB
          have hval6 : ((6 : Nat) : Int) - 1 = 5 := rfl
          rw [hval6]
          clear hval6
          go_wp2_with fail
          go_loopw [11] (fun iv wr => ∃ k : Nat, k ≤ 34 ∧ iv = .int .i64 ((k : Int) - 1) ∧ Old w wr) (fun iv _ => (34 - (intOf iv + 1)).toNat)
          case atStart => exact ⟨0, Nat.zero_le _, rfl, hB⟩
          case round =>
            clear hB r0
            obtain ⟨k, hk, rfl, hB⟩ := hrel
            by_cases hin : 1 ≤ k ∧ k ≤ 32
            · obtain ⟨i, rfl⟩ : ∃ c, k = c + 1 := ⟨k - 1, by omega⟩
              have hval : ((i + 1 : Nat) : Int) - 1 = i := by omega
              rw [hval]
              have hi31 : (i : Int) ≤ 31 := by omega
              have hi32 : (i : Int) ≤ 32 := by omega
              have hi33 : (i : Int) < 32 := by omega
              obtain ⟨A, cc, hA, hVA, -⟩ := HX.out.1.fm i (by omega)
              obtain ⟨nv, hnv⟩ : ∃ n, (st.f i).length = n := ⟨_, rfl⟩
              have hnv2 : nv ≤ 1000 := by have := HX.out.2.1 i; have := HSN.out; omega
              rw [hnv] at hA
              have a0 := (hB.cell (p := ⟨gx, 2 + i, none⟩) hgx).trans hA
              have cV := hide (fun (W : World) (hW : Old w W) => Versions_st gs i Fs st nv hnv (by omega) W (HH.out.old hW))
              have HVA := hide hVA
              have HNV := hide hnv
              clear hval hA hVA hnv
              go_wp2_with fail
              refine (cV.out _ hB).mono ?_
              rintro e w2 ⟨A2, c2, rfl, ho2, b2⟩
              have cQ := hide (by have := Versions_any A2 A nv nv (st.f i) (st.f i) c2 cc w2 (CellsAt.of_own ho2) (CellsAt.old HVA.out (hB.trans' b2)) HNV.out.symm HNV.out.symm hnv2 hnv2; rw [decide_eq_true rfl] at this; exact this)
              clear ho2
              go_wp2_with (go_at_call 85; refine cQ.out.mono ?_; rintro e w3 ⟨rfl, b3⟩)
              go_roundw
              case rel => exact ⟨i + 2, by omega, by go_num, (hB.trans' b2).trans' b3⟩
              case measure => simp [intOf]; omega
            · rcases (by omega : k = 0 ∨ k = 33 ∨ k = 34) with rfl | rfl | rfl
              · have hval : ((0 : Nat) : Int) - 1 = -1 := rfl
                rw [hval]
                have hz : st.f (-1) = [] := HX.out.2.2 (-1) (by omega)
                have cV := hide (fun (W : World) (hW : Old w W) => by have := Versions_st gs (-1) Fs st 0 (by rw [hz]; rfl) (by omega) W (HH.out.old hW); rw [hz] at this; exact this)
                clear hval
                go_wp2_with fail
                refine (cV.out _ hB).mono ?_
                rintro e w2 ⟨A2, c2, rfl, ho2, b2⟩
                have cQ := hide (fun (W : World) => by have := Versions_any A2 none 0 0 [] [] c2 0 W (CellsAt.nil _ _) (CellsAt.nil _ _) rfl rfl (by omega) (by omega); rw [decide_eq_true rfl] at this; exact this)
                go_wp2_with (go_at_call 85; refine (cQ.out _).mono ?_; rintro e w3 ⟨rfl, b3⟩)
                go_roundw
                case rel => exact ⟨1, by omega, by go_num, (hB.trans' b2).trans' b3⟩
                case measure => simp [intOf]
              · have hval : ((33 : Nat) : Int) - 1 = 32 := rfl
                rw [hval]
                have hz : st.f 32 = [] := HX.out.2.2 32 (by omega)
                have cV := hide (fun (W : World) (hW : Old w W) => by have := Versions_st gs 32 Fs st 0 (by rw [hz]; rfl) (by omega) W (HH.out.old hW); rw [hz] at this; exact this)
                clear hval
                go_wp2_with fail
                refine (cV.out _ hB).mono ?_
                rintro e w2 ⟨A2, c2, rfl, ho2, b2⟩
                have cQ := hide (fun (W : World) => by have := Versions_any A2 none 0 0 [] [] c2 0 W (CellsAt.nil _ _) (CellsAt.nil _ _) rfl rfl (by omega) (by omega); rw [decide_eq_true rfl] at this; exact this)
                go_wp2_with (go_at_call 85; refine (cQ.out _).mono ?_; rintro e w3 ⟨rfl, b3⟩)
                go_roundw
                case rel => exact ⟨34, by omega, by go_num, (hB.trans' b2).trans' b3⟩
                case measure => simp [intOf]
              · go_wp2_with fail
                go_ret
                exact ⟨rfl, hB⟩
        · rcases (by omega : k = 0 ∨ k = 5) with rfl | rfl
          · have hval : ((0 : Nat) : Int) - 1 = -1 := rfl
            rw [hval]
            have cL := hide (fun (W : World) => Last_out gs (-1) (by omega) W)
            have cS := hide (fun (W : World) => Seq_out gs (-1) (by omega) W)
            clear hval
            go_wp2_with fail
            refine (cL.out _).mono ?_
            rintro e w2 ⟨A2, c2, rfl, b2⟩
            have cQ := hide (fun (W : World) => Same_none5 ⟨0, 0, ByteArray.empty, []⟩ A2 none c2 0 W)
            have k2 := (Bk.new w2 32 #[.int .i64 0, .int .i64 0, .string ByteArray.empty, .slice A2 0 c2]).alloc (.cells #[.int .i64 0, .int .i64 0, .string { data := #[] }, .slice none 0 0] 32)
            have k3 := bk_new1 w2 (.cells #[.int .i64 0, .int .i64 0, .string ByteArray.empty, .slice A2 0 c2] 32) 32 #[.int .i64 0, .int .i64 0, .string { data := #[] }, .slice none 0 0]
            have o2 := ((hB.trans' b2).alloc' (.cells #[.int .i64 0, .int .i64 0, .string ByteArray.empty, .slice A2 0 c2] 32)).alloc' (.cells #[.int .i64 0, .int .i64 0, .string { data := #[] }, .slice none 0 0] 32)
            go_wp2_with (first
              | (go_at_call 84; refine (cS.out _).mono ?_; rintro e w3 ⟨rfl, b3⟩; obtain ⟨⟨x0, x1, x2, x3⟩, -, lx⟩ := bk4 (k2.old b3); obtain ⟨⟨y0, y1, y2, y3⟩, -, ly⟩ := bk4 (k3.old b3))
              | (go_at_call 29; refine (cQ.out _).mono ?_; rintro e w4 ⟨rfl, b4⟩))
            go_roundw
            case rel => exact ⟨1, by omega, by go_num, (o2.trans' b3).trans' b4⟩
            case measure => simp [intOf]
          · have hval : ((5 : Nat) : Int) - 1 = 4 := rfl
            rw [hval]
            have cL := hide (fun (W : World) => Last_out gs 4 (by omega) W)
            have cS := hide (fun (W : World) => Seq_out gs 4 (by omega) W)
            clear hval
            go_wp2_with fail
            refine (cL.out _).mono ?_
            rintro e w2 ⟨A2, c2, rfl, b2⟩
            have cQ := hide (fun (W : World) => Same_none5 ⟨0, 0, ByteArray.empty, []⟩ A2 none c2 0 W)
            have k2 := (Bk.new w2 32 #[.int .i64 0, .int .i64 0, .string ByteArray.empty, .slice A2 0 c2]).alloc (.cells #[.int .i64 0, .int .i64 0, .string { data := #[] }, .slice none 0 0] 32)
            have k3 := bk_new1 w2 (.cells #[.int .i64 0, .int .i64 0, .string ByteArray.empty, .slice A2 0 c2] 32) 32 #[.int .i64 0, .int .i64 0, .string { data := #[] }, .slice none 0 0]
            have o2 := ((hB.trans' b2).alloc' (.cells #[.int .i64 0, .int .i64 0, .string ByteArray.empty, .slice A2 0 c2] 32)).alloc' (.cells #[.int .i64 0, .int .i64 0, .string { data := #[] }, .slice none 0 0] 32)
            go_wp2_with (first
              | (go_at_call 84; refine (cS.out _).mono ?_; rintro e w3 ⟨rfl, b3⟩; obtain ⟨⟨x0, x1, x2, x3⟩, -, lx⟩ := bk4 (k2.old b3); obtain ⟨⟨y0, y1, y2, y3⟩, -, ly⟩ := bk4 (k3.old b3))
              | (go_at_call 29; refine (cQ.out _).mono ?_; rintro e w4 ⟨rfl, b4⟩))
            go_roundw
            case rel => exact ⟨6, by omega, by go_num, (o2.trans' b3).trans' b4⟩
            case measure => simp [intOf]
end Go.Proofs.Ytmhnlpilbbfgnaa
