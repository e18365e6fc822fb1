/- casebooklaw19.DirtyNone: the walk. -/
import Derived.Test.YtmhnlpilbbfgnaaHDyL
import Derived.Test.YtmhnlpilbbfgnaaHLnU
namespace Go.Proofs.Ytmhnlpilbbfgnaa
open Go.RowKit

theorem dirtyL_all {l : LnV} (h : l.qs.length ≤ l.k) : dirtyL l = [] := by
  have : ∀ k, dirtyN l k = [] := fun k => by
    induction k with
    | zero => rfl
    | succ k ih => rw [dirtyN_clean (Nat.le_trans (lastAt_le _ _) h), ih]
  exact this 32
theorem may_id {l : LnV} {q : ReqV} (h : l.may q = true) : 0 ≤ q.id ∧ q.id ≤ 31 := by
  have h1 := (LnV.may_iff.1 h).1
  simp only [Q.may, ReqV.q, mayQ, Bool.and_eq_true, decide_eq_true_eq] at h1
  exact of_decide_eq_true h1.1.1.2
theorem put_last {l : LnV} {q : ReqV} (h : l.may q = true) (i : Int) : lastAt (l.put q).qs i = if q.id = i then l.qs.length + 1 else lastAt l.qs i := by
  rw [(put_yes h).1]
  exact lastAt_snoc _ _ _
theorem put_k {l : LnV} {q : ReqV} : (l.put q).k = l.k := (put_facts l q).2.1
theorem dirtyL_one {l : LnV} {q : ReqV} (hk : l.k = l.qs.length) (h : l.may q = true) : dirtyL (l.put q) = [q.id] := by
  obtain ⟨h0, h1⟩ := may_id h
  have : ∀ k : Nat, dirtyN (l.put q) k = if q.id < k then [q.id] else [] := fun k => by
    induction k with
    | zero => rw [if_neg (by omega)]; rfl
    | succ k ih =>
      by_cases hq : q.id = k
      · rw [dirtyN_dirty (by rw [put_last h, if_pos hq, put_k]; omega), ih, if_neg (by omega), if_pos (by omega), hq]; rfl
      · rw [dirtyN_clean (by rw [put_last h, if_neg hq, put_k, hk]; exact lastAt_le _ _), ih]
        by_cases hl : q.id < k
        · rw [if_pos hl, if_pos (by omega)]
        · rw [if_neg hl, if_neg (by omega)]
  have h32 := this 32
  rw [if_pos (by omega)] at h32
  exact h32
theorem clean_one {l : LnV} {q : ReqV} (hk : l.k = l.qs.length) (h : l.may q = true) : (l.put q).clean q.id = false := by
  unfold LnV.clean
  rw [put_last h, if_pos rfl, put_k, decide_eq_false (by omega : ¬ l.qs.length + 1 ≤ l.k), Bool.and_false]
theorem clean_other {l : LnV} {q : ReqV} (hk : l.k = l.qs.length) (h : l.may q = true) {i : Int} (h0 : 0 ≤ i) (h1 : i ≤ 31) (hi : q.id ≠ i) : (l.put q).clean i = true := by
  unfold LnV.clean
  rw [put_last h, if_neg hi, put_k, decide_eq_true h0, decide_eq_true h1, hk, decide_eq_true (lastAt_le _ _)]
  rfl
set_option maxRecDepth 100000 in
set_option maxHeartbeats 4000000 in
theorem DNone_walk (A0 : Option Addr) (n k0 : Nat) (qs : List ReqV) (q : ReqV) (hl : n = qs.length) (hn : n ≤ 9223372036854775807) (w : World) (hQ : ReqsAt w A0 qs) :
    Calls Try.prog 10 #[.slice A0 n k0, .agg #[.int .i64 q.client, .int .i64 q.seq, .int .i64 q.kind, .int .i64 q.id, .int .i64 q.mat, .string q.data]] w fun e w' => e = .returned (.bool true) ∧ Old w w' := by
  have HL := hide hl
  clear hl
  have cNw := hide (LOne.new (D := [(w.heap.size, 23, #[.int .i64 q.client, .int .i64 q.seq, .int .i64 q.kind, .int .i64 q.id, .int .i64 q.mat, .string q.data])]) 6 (by omega) ((Old.refl' w).alloc' (.cells #[.int .i64 q.client, .int .i64 q.seq, .int .i64 q.kind, .int .i64 q.id, .int .i64 q.mat, .string q.data] 23)) (fun d hd => by obtain rfl := List.mem_singleton.1 hd; exact Bk.new _ _ _))
  obtain ⟨⟨y0, y1, y2, y3, y4, y5⟩, ly⟩ := bk6 (Bk.new w 23 #[.int .i64 q.client, .int .i64 q.seq, .int .i64 q.kind, .int .i64 q.id, .int .i64 q.mat, .string q.data])
  by_cases hgo : n ≤ 40 ∧ q.data.size ≤ 100
  · obtain ⟨hg1, hg2⟩ := hgo
    have hn60' : (n : Int) ≤ 40 := by omega
    have hg2' : (q.data.size : Int) ≤ 100 := by omega
    go_enter Try.func10, Try.ntmps10
    go_wp2_with fail
    refine cNw.out.mono ?_
    rintro e w1 ⟨g, rfl, hp, -⟩
    have hp : LOne w w1 g (runL 6 (qs.take 0)) [(w.heap.size, 23, #[.int .i64 q.client, .int .i64 q.seq, .int .i64 q.kind, .int .i64 q.id, .int .i64 q.mat, .string q.data])] := hp
    clear y0 y1 y2 y3 y4 y5 ly
    obtain ⟨⟨y0, y1, y2, y3, y4, y5⟩, ly⟩ := bk6 (hp.held List.mem_cons_self)
    go_wp2_with fail
    clear y0 y1 y2 y3 y4 y5 ly
    go_loopw [7] (fun iv wr => ∃ k : Nat, k ≤ n ∧ iv = .int .i64 k ∧ LOne w wr g (runL 6 (qs.take k)) [(w.heap.size, 23, #[.int .i64 q.client, .int .i64 q.seq, .int .i64 q.kind, .int .i64 q.id, .int .i64 q.mat, .string q.data])]) (fun iv _ => n - (intOf iv).toNat)
    case atStart => exact ⟨0, Nat.zero_le _, rfl, hp⟩
    case round =>
      clear hp
      obtain ⟨k, hk, rfl, pr⟩ := hrel
      by_cases hlt : k < n
      · have hkq : k < qs.length := by have := HL.out; omega
        obtain ⟨b, o, rfl, hb, hc⟩ := hQ.at5 (k := k) hkq
        obtain ⟨x, hx⟩ : ∃ x, qs[k]?.getD default = x := ⟨_, rfl⟩
        rw [hx] at hc
        have hxx : qs[k] = x := by rw [List.getElem?_eq_getElem hkq] at hx; simpa using hx
        have htk : runL 6 (qs.take (k + 1)) = (runL 6 (qs.take k)).put x := by rw [List.take_succ_eq_append_getElem hkq, hxx, runL_snoc]
        have HTK := hide htk
        obtain ⟨-, -, -, hsn⟩ := runL_ok 6 (qs.take k)
        rw [List.length_take] at hsn
        obtain ⟨l0, hl0⟩ : ∃ s, runL 6 (qs.take k) = s := ⟨_, rfl⟩
        rw [hl0] at pr hsn htk
        have hW := pr.o
        have x0 : wr.cell? ⟨b, o + k * 6, none⟩ = some (.int .i64 x.client) := (hW.cell (p := ⟨b, o + k * 6, none⟩) hb).trans (hc 0 _ (by omega) rfl)
        have x1 := (hW.cell (p := ⟨b, o + k * 6 + 1, none⟩) hb).trans (hc 1 _ (by omega) rfl)
        have x2 := (hW.cell (p := ⟨b, o + k * 6 + 2, none⟩) hb).trans (hc 2 _ (by omega) rfl)
        have x3 := (hW.cell (p := ⟨b, o + k * 6 + 3, none⟩) hb).trans (hc 3 _ (by omega) rfl)
        have x4 := (hW.cell (p := ⟨b, o + k * 6 + 4, none⟩) hb).trans (hc 4 _ (by omega) rfl)
        have x5 := (hW.cell (p := ⟨b, o + k * 6 + 5, none⟩) hb).trans (hc 5 _ (by omega) rfl)
        clear hc hW hx hxx
        by_cases hs : x.data.size ≤ 100
        · obtain ⟨N0, hN0⟩ : ∃ N, l0.qs.length = N := ⟨_, rfl⟩
          obtain ⟨l1, hl1⟩ : ∃ l, l0.put x = l := ⟨_, rfl⟩
          have HS1 := hide (show (runL 6 (qs.take k)).put x = l1 by rw [hl0, hl1])
          obtain ⟨AT, hAT⟩ : ∃ a : Int, (l0.at_ x : Int) = a := ⟨_, rfl⟩
          obtain ⟨E, hE⟩ : ∃ a : Int, l0.err x = a := ⟨_, rfl⟩
          have cP := hide (pr.put N0 hN0 (by omega) x AT E l1 hAT hE hl1)
          clear htk hl0 hAT hE hl1 hN0
          go_wp2_with fail
          refine cP.out.mono ?_
          rintro e w4 ⟨rfl, pr4⟩
          have hfin := hide pr4
          clear x0 x1 x2 x3 x4 x5 pr4 pr
          go_wp2_with fail
          go_roundw
          case rel => exact ⟨k + 1, by omega, by go_num, by rw [HTK.out, HS1.out]; exact hfin.out⟩
          case measure => simp [intOf]; omega
        · clear htk hl0
          go_wp2_with (go_at_call 34; refine (told19_any _).mono ?_; rintro e w9 ⟨rfl, b9⟩)
          go_ret
          exact ⟨rfl, (pr.old b9).o⟩
      · obtain rfl : k = n := by omega
        obtain ⟨hok, hq6, hk0, hsn⟩ := runL_ok 6 (qs.take k)
        rw [List.length_take] at hsn
        obtain ⟨l9, hl9⟩ : ∃ s, runL 6 (qs.take k) = s := ⟨_, rfl⟩
        rw [hl9] at pr hok hsn hq6 hk0
        clear hl9
        obtain ⟨N, hN⟩ : ∃ N, l9.qs.length = N := ⟨_, rfl⟩
        obtain ⟨l2, hl2⟩ : ∃ l, l9.commit N = l := ⟨_, rfl⟩
        have hN2 : l2.qs.length = N := by rw [← hl2]; exact hN
        have hk2 : l2.k = N := by rw [← hl2]; rfl
        have hd2 : dirtyL l2 = [] := dirtyL_all (by omega)
        obtain ⟨W9, hW9⟩ : ∃ W : World, W = wr := ⟨_, rfl⟩
        rw [← hW9] at pr
        simp only [← hW9]
        clear hW9
        have cLn := hide (pr.at_.elim fun F hF => Len_ln g F l9 N hN W9 hF)
        have cCm := hide (pr.com N 0 l2 (by rw [if_pos ⟨by omega, by omega⟩]) (by rw [if_pos ⟨by omega, by omega⟩, Int.toNat_natCast, hl2]) (by omega))
        have cD2 := hide (fun (W : World) (h : LOne w W g l2 [(w.heap.size, 23, #[.int .i64 q.client, .int .i64 q.seq, .int .i64 q.kind, .int .i64 q.id, .int .i64 q.mat, .string q.data])]) => h.at_.elim fun F hF => Dirty_ln g F l2 [] hd2 0 rfl W hF)
        obtain ⟨l3, hl3⟩ : ∃ l, l2.put q = l := ⟨_, rfl⟩
        obtain ⟨AT, hAT⟩ : ∃ a : Int, (l2.at_ q : Int) = a := ⟨_, rfl⟩
        obtain ⟨E, hE⟩ : ∃ a : Int, l2.err q = a := ⟨_, rfl⟩
        have cPt := hide (fun (W : World) (h : LOne w W g l2 [(w.heap.size, 23, #[.int .i64 q.client, .int .i64 q.seq, .int .i64 q.kind, .int .i64 q.id, .int .i64 q.mat, .string q.data])]) => h.put N hN2 (by omega) q AT E l3 hAT hE hl3)
        by_cases hmay : l2.may q = true
        · obtain ⟨p1, p2, p3⟩ := put_yes hmay
          have hid := may_id hmay
          obtain ⟨j, hj⟩ : ∃ j : Nat, q.id = j := ⟨q.id.toNat, by omega⟩
          have hE0 : E = 0 := by rw [← hE]; exact p2
          subst hE0
          have hd3 : dirtyL l3 = [(j : Int)] := by rw [← hl3, ← hj]; exact dirtyL_one (by omega) hmay
          obtain ⟨m, hm⟩ : ∃ m : Nat, (j + 1) % 32 = m := ⟨_, rfl⟩
          have hM := hide (show ((j : Int) + 1).tmod 32 = m by rw [Int.tmod_eq_emod_of_nonneg (by omega)]; omega)
          have hM1 := hide (show IntKind.i64.wrap ((j : Int) + 1) = (j : Int) + 1 from IntWalk.i64_in _ (by omega))
          have cD3 := hide (fun (W : World) (h : LOne w W g l3 [(w.heap.size, 23, #[.int .i64 q.client, .int .i64 q.seq, .int .i64 q.kind, .int .i64 q.id, .int .i64 q.mat, .string q.data])]) => h.at_.elim fun F hF => Dirty_ln g F l3 [(j : Int)] hd3 1 rfl W hF)
          have cK3 := hide (fun (W : World) (h : LOne w W g l3 [(w.heap.size, 23, #[.int .i64 q.client, .int .i64 q.seq, .int .i64 q.kind, .int .i64 q.id, .int .i64 q.mat, .string q.data])]) => h.at_.elim fun F hF => Clean_ln g j false F l3 (by rw [← hl3, ← hj]; exact clean_one (by omega) hmay) W hF)
          have cM3 := hide (fun (W : World) (h : LOne w W g l3 [(w.heap.size, 23, #[.int .i64 q.client, .int .i64 q.seq, .int .i64 q.kind, .int .i64 q.id, .int .i64 q.mat, .string q.data])]) => h.at_.elim fun F hF => Clean_ln g m true F l3 (by rw [← hl3]; exact clean_other (by omega) hmay (by omega) (by omega) (by rw [hj]; omega)) W hF)
          have HJ := hide hj
          clear p1 p2 p3 hok hq6 hk0 hsn hl2 hN2 hk2 hd2 hl3 hAT hE hd3 hid hmay hm hj
          go_wp2_with (go_at_call 18; refine cLn.out.mono ?_; rintro e w3 ⟨rfl, rfl⟩)
          refine cCm.out.mono ?_
          rintro e w2 ⟨rfl, p2⟩
          go_wp2_with fail
          refine (cD2.out _ p2).mono ?_
          rintro e w3 ⟨A3, c3, rfl, -, -, b3⟩
          have p3 := p2.old b3
          obtain ⟨⟨x0, x1, x2, x3, x4, x5⟩, l1⟩ := bk6 (p3.held List.mem_cons_self)
          go_wp2_with fail
          refine (cPt.out _ p3).mono ?_
          rintro e w5 ⟨rfl, p5⟩
          clear x0 x1 x2 x3 x4 x5 l1 p3 p2
          go_wp2_with fail
          refine (cD3.out _ p5).mono ?_
          rintro e w6 ⟨A8, c8, rfl, i8, -, b8⟩
          have p6 := p5.old b8
          obtain ⟨b8, o8, rfl, hlt8, hcell8⟩ := i8.at_ (k := 0) (by simp)
          obtain ⟨bq, hbq⟩ : ∃ b, w.heap.size = b := ⟨_, rfl⟩
          obtain ⟨W9, hW9⟩ : ∃ W : World, W = w6 := ⟨_, rfl⟩
          rw [← hW9] at p6 hcell8 hlt8
          simp only [← hW9]
          have hX := hide (fun (W : World) (hW : Old W9 W) => (⟨(hW.cell (p := ⟨b8, o8, none⟩) hlt8).trans hcell8, (by have := (bk6 ((p6.old hW).held List.mem_cons_self)).1.2.2.2.1; rw [HJ.out] at this; rwa [hbq] at this)⟩ : W.cell? ⟨b8, o8, none⟩ = some (.int .i64 j) ∧ W.cell? ⟨bq, 3, none⟩ = some (.int .i64 j)))
          have cK := hide (fun (W : World) (hW : Old W9 W) => cK3.out W (p6.old hW))
          have cM := hide (fun (W : World) (hW : Old W9 W) => cM3.out W (p6.old hW))
          have HO := hide p6.o
          clear p6 p5 i8 hcell8 hW9
          simp only [hbq]
          clear hbq
          go_wp2_with fail
          refine region_steps (R := pick [eqv (.bool true), eqv (.bool true), eqv (.slice (some ⟨b8, o8, none⟩) 1 c8), eqv (.int .i64 1), eqv (.bool true), eqv (.bool true), eqv (.bool true), eqv (.slice (some ⟨b8, o8, none⟩) 1 c8), eqv (.pointer (some ⟨b8, o8, none⟩)), eqv (.int .i64 j), eqv (.pointer (some ⟨bq, 3, none⟩)), eqv (.int .i64 j), eqv (.bool true), eqv (.bool true), eqv (.bool true), eqv (.pointer (some ⟨g, 0, none⟩)), eqv (.pointer (some ⟨bq, 3, none⟩)), eqv (.int .i64 j), eqv (.bool false), eqv (.bool true), eqv (.bool true), eqv (.bool true), eqv (.pointer (some ⟨g, 0, none⟩)), eqv (.pointer (some ⟨bq, 3, none⟩)), eqv (.int .i64 j), eqv (.int .i64 ((j : Int) + 1)), eqv (.int .i64 m), eqv (.bool true), eqv (.bool true), eqv (.bool true)]) (S := fun _ w' => Old W9 w') (T := Old) (by kernel_rfl) (by kernel_rfl) (by kernel_rfl) (Stab.pick (Stab.eqv (Stab.eqv (Stab.eqv (Stab.eqv (Stab.eqv (Stab.eqv (Stab.eqv (Stab.eqv (Stab.eqv (Stab.eqv (Stab.eqv (Stab.eqv (Stab.eqv (Stab.eqv (Stab.eqv (Stab.eqv (Stab.eqv (Stab.eqv (Stab.eqv (Stab.eqv (Stab.eqv (Stab.eqv (Stab.eqv (Stab.eqv (Stab.eqv (Stab.eqv (Stab.eqv (Stab.eqv (Stab.eqv (Stab.eqv (Stab.nil)))))))))))))))))))))))))))))))) ((Old.refl' _).drew') ?steps ?ends
          case steps =>
            refine StepsOk.cons (stepOk_mk [] [] rfl rfl (by kernel_rfl) (by kernel_rfl) rfl ?_) ?_
            · rintro d a w' hk hda hS  
              first | refine Given.nil (Known.nil ?_) | refine Known.nil ?_
              refine wp_call 34 _ Try.func34 (by kernel_rfl) (by kernel_rfl) _ _ (by rfl) [] (by simp only [List.map_cons, List.map_nil, *]; try rfl) (told19_any _) ?_
              rintro e w1 ⟨rfl, f4⟩
              exact ⟨_, rfl, _, rfl, rfl, f4, hS.trans' f4⟩
            refine StepsOk.cons (stepOk_pure [(0, 78)] [] rfl rfl (by kernel_rfl) (by kernel_rfl) rfl Old.refl' (fun _ _ _ h => h) (fun d E w' hk hda hS hc hf => by rintro _ q0 rfl e78 ; exact ⟨_, by go_simp, rfl⟩)) ?_
            refine StepsOk.cons (stepOk_pureG 1 79 true rfl rfl (by kernel_rfl) (fun _ _ h => h) [] [(10, .slice (some ⟨b8, o8, none⟩) 1 c8)] (by kernel_rfl) (by kernel_rfl) rfl Old.refl' (fun _ _ _ h => h) (fun d E w' hk hda hS hc hf => by rintro  e10; exact ⟨_, by go_simp, rfl⟩)) ?_
            refine StepsOk.cons (stepOk_pureG 1 79 true rfl rfl (by kernel_rfl) (fun _ _ h => h) [(2, 80)] [] (by kernel_rfl) (by kernel_rfl) rfl Old.refl' (fun _ _ _ h => h) (fun d E w' hk hda hS hc hf => by rintro _ q2 rfl e80 ; exact ⟨_, by go_simp, rfl⟩)) ?_
            refine StepsOk.cons (stepOk_pureG 1 79 true rfl rfl (by kernel_rfl) (fun _ _ h => h) [(3, 81)] [] (by kernel_rfl) (by kernel_rfl) rfl Old.refl' (fun _ _ _ h => h) (fun d E w' hk hda hS hc hf => by rintro _ q3 rfl e81 ; exact ⟨_, by go_simp, rfl⟩)) ?_
            refine StepsOk.cons (stepOk_pure [(1, 79), (4, 82)] [] rfl rfl (by kernel_rfl) (by kernel_rfl) rfl Old.refl' (fun _ _ _ h => h) (fun d E w' hk hda hS hc hf => by rintro _ q1 rfl e79 _ q4 rfl e82 ; exact ⟨_, by go_simp, rfl⟩)) ?_
            refine StepsOk.cons (stepOk_pure [(5, 83)] [] rfl rfl (by kernel_rfl) (by kernel_rfl) rfl Old.refl' (fun _ _ _ h => h) (fun d E w' hk hda hS hc hf => by rintro _ q5 rfl e83 ; exact ⟨_, by go_simp, rfl⟩)) ?_
            refine StepsOk.cons (stepOk_pureG 6 84 true rfl rfl (by kernel_rfl) (fun _ _ h => h) [] [(10, .slice (some ⟨b8, o8, none⟩) 1 c8)] (by kernel_rfl) (by kernel_rfl) rfl Old.refl' (fun _ _ _ h => h) (fun d E w' hk hda hS hc hf => by rintro  e10; exact ⟨_, by go_simp, rfl⟩)) ?_
            refine StepsOk.cons (stepOk_pureG 6 84 true rfl rfl (by kernel_rfl) (fun _ _ h => h) [(7, 85)] [] (by kernel_rfl) (by kernel_rfl) rfl Old.refl' (fun _ _ _ h => h) (fun d E w' hk hda hS hc hf => by rintro _ q7 rfl e85 ; obtain ⟨h0, h3⟩ := hX.out _ hS; exact ⟨_, by go_simp, rfl⟩)) ?_
            refine StepsOk.cons (stepOk_pureG 6 84 true rfl rfl (by kernel_rfl) (fun _ _ h => h) [(8, 86)] [] (by kernel_rfl) (by kernel_rfl) rfl Old.refl' (fun _ _ _ h => h) (fun d E w' hk hda hS hc hf => by rintro _ q8 rfl e86 ; obtain ⟨h0, h3⟩ := hX.out _ hS; exact ⟨_, by go_simp, rfl⟩)) ?_
            refine StepsOk.cons (stepOk_pureG 6 84 true rfl rfl (by kernel_rfl) (fun _ _ h => h) [] [(3, .pointer (some ⟨bq, 0, none⟩))] (by kernel_rfl) (by kernel_rfl) rfl Old.refl' (fun _ _ _ h => h) (fun d E w' hk hda hS hc hf => by rintro  e3; exact ⟨_, by go_simp, rfl⟩)) ?_
            refine StepsOk.cons (stepOk_pureG 6 84 true rfl rfl (by kernel_rfl) (fun _ _ h => h) [(10, 88)] [] (by kernel_rfl) (by kernel_rfl) rfl Old.refl' (fun _ _ _ h => h) (fun d E w' hk hda hS hc hf => by rintro _ q10 rfl e88 ; obtain ⟨h0, h3⟩ := hX.out _ hS; exact ⟨_, by go_simp, rfl⟩)) ?_
            refine StepsOk.cons (stepOk_pureG 6 84 true rfl rfl (by kernel_rfl) (fun _ _ h => h) [(9, 87), (11, 89)] [] (by kernel_rfl) (by kernel_rfl) rfl Old.refl' (fun _ _ _ h => h) (fun d E w' hk hda hS hc hf => by rintro _ q9 rfl e87 _ q11 rfl e89 ; exact ⟨_, by go_simp, rfl⟩)) ?_
            refine StepsOk.cons (stepOk_pure [(6, 84), (12, 90)] [] rfl rfl (by kernel_rfl) (by kernel_rfl) rfl Old.refl' (fun _ _ _ h => h) (fun d E w' hk hda hS hc hf => by rintro _ q6 rfl e84 _ q12 rfl e90 ; exact ⟨_, by go_simp, rfl⟩)) ?_
            refine StepsOk.cons (stepOk_pure [(13, 91)] [] rfl rfl (by kernel_rfl) (by kernel_rfl) rfl Old.refl' (fun _ _ _ h => h) (fun d E w' hk hda hS hc hf => by rintro _ q13 rfl e91 ; exact ⟨_, by go_simp, rfl⟩)) ?_
            refine StepsOk.cons (stepOk_pureG 14 92 true rfl rfl (by kernel_rfl) (fun _ _ h => h) [] [(5, .pointer (some ⟨g, 0, none⟩))] (by kernel_rfl) (by kernel_rfl) rfl Old.refl' (fun _ _ _ h => h) (fun d E w' hk hda hS hc hf => by rintro  e5; exact ⟨_, by go_simp, rfl⟩)) ?_
            refine StepsOk.cons (stepOk_pureG 14 92 true rfl rfl (by kernel_rfl) (fun _ _ h => h) [] [(3, .pointer (some ⟨bq, 0, none⟩))] (by kernel_rfl) (by kernel_rfl) rfl Old.refl' (fun _ _ _ h => h) (fun d E w' hk hda hS hc hf => by rintro  e3; exact ⟨_, by go_simp, rfl⟩)) ?_
            refine StepsOk.cons (stepOk_pureG 14 92 true rfl rfl (by kernel_rfl) (fun _ _ h => h) [(16, 94)] [] (by kernel_rfl) (by kernel_rfl) rfl Old.refl' (fun _ _ _ h => h) (fun d E w' hk hda hS hc hf => by rintro _ q16 rfl e94 ; obtain ⟨h0, h3⟩ := hX.out _ hS; exact ⟨_, by go_simp, rfl⟩)) ?_
            refine StepsOk.cons (stepOk_guard 14 92 true rfl rfl (by kernel_rfl) (fun _ _ h => h) [(15, 93), (17, 95)] [] (by kernel_rfl) (by kernel_rfl) rfl ?_) ?_
            · rintro d a w' hk hda hS _ q15 rfl e93 _ q17 rfl e95 
              first | refine Given.nil (Known.nil ?_) | refine Known.nil ?_
              refine wp_call 37 _ Try.func37 (by kernel_rfl) (by kernel_rfl) _ _ (by rfl) [.pointer (some ⟨g, 0, none⟩), .int .i64 j] (by simp only [List.map_cons, List.map_nil, *]; try rfl) (cK.out _ hS) ?_
              rintro e w1 ⟨rfl, rfl⟩
              exact ⟨_, rfl, _, rfl, rfl, Old.refl' _, hS⟩
            refine StepsOk.cons (stepOk_pureG 14 92 true rfl rfl (by kernel_rfl) (fun _ _ h => h) [(18, 96)] [] (by kernel_rfl) (by kernel_rfl) rfl Old.refl' (fun _ _ _ h => h) (fun d E w' hk hda hS hc hf => by rintro _ q18 rfl e96 ; exact ⟨_, by go_simp, rfl⟩)) ?_
            refine StepsOk.cons (stepOk_pure [(14, 92), (19, 97)] [] rfl rfl (by kernel_rfl) (by kernel_rfl) rfl Old.refl' (fun _ _ _ h => h) (fun d E w' hk hda hS hc hf => by rintro _ q14 rfl e92 _ q19 rfl e97 ; exact ⟨_, by go_simp, rfl⟩)) ?_
            refine StepsOk.cons (stepOk_pure [(20, 98)] [] rfl rfl (by kernel_rfl) (by kernel_rfl) rfl Old.refl' (fun _ _ _ h => h) (fun d E w' hk hda hS hc hf => by rintro _ q20 rfl e98 ; exact ⟨_, by go_simp, rfl⟩)) ?_
            refine StepsOk.cons (stepOk_pureG 21 99 true rfl rfl (by kernel_rfl) (fun _ _ h => h) [] [(5, .pointer (some ⟨g, 0, none⟩))] (by kernel_rfl) (by kernel_rfl) rfl Old.refl' (fun _ _ _ h => h) (fun d E w' hk hda hS hc hf => by rintro  e5; exact ⟨_, by go_simp, rfl⟩)) ?_
            refine StepsOk.cons (stepOk_pureG 21 99 true rfl rfl (by kernel_rfl) (fun _ _ h => h) [] [(3, .pointer (some ⟨bq, 0, none⟩))] (by kernel_rfl) (by kernel_rfl) rfl Old.refl' (fun _ _ _ h => h) (fun d E w' hk hda hS hc hf => by rintro  e3; exact ⟨_, by go_simp, rfl⟩)) ?_
            refine StepsOk.cons (stepOk_pureG 21 99 true rfl rfl (by kernel_rfl) (fun _ _ h => h) [(23, 101)] [] (by kernel_rfl) (by kernel_rfl) rfl Old.refl' (fun _ _ _ h => h) (fun d E w' hk hda hS hc hf => by rintro _ q23 rfl e101 ; obtain ⟨h0, h3⟩ := hX.out _ hS; exact ⟨_, by go_simp, rfl⟩)) ?_
            refine StepsOk.cons (stepOk_pureG 21 99 true rfl rfl (by kernel_rfl) (fun _ _ h => h) [(24, 102)] [] (by kernel_rfl) (by kernel_rfl) rfl Old.refl' (fun _ _ _ h => h) (fun d E w' hk hda hS hc hf => by rintro _ q24 rfl e102 ; have hm := hM1.out; exact ⟨_, by go_simp, rfl⟩)) ?_
            refine StepsOk.cons (stepOk_pureG 21 99 true rfl rfl (by kernel_rfl) (fun _ _ h => h) [(25, 103)] [] (by kernel_rfl) (by kernel_rfl) rfl Old.refl' (fun _ _ _ h => h) (fun d E w' hk hda hS hc hf => by rintro _ q25 rfl e103 ; have hm := hM.out; exact ⟨_, by go_simp, rfl⟩)) ?_
            refine StepsOk.cons (stepOk_guard 21 99 true rfl rfl (by kernel_rfl) (fun _ _ h => h) [(22, 100), (26, 104)] [] (by kernel_rfl) (by kernel_rfl) rfl ?_) ?_
            · rintro d a w' hk hda hS _ q22 rfl e100 _ q26 rfl e104 
              first | refine Given.nil (Known.nil ?_) | refine Known.nil ?_
              refine wp_call 37 _ Try.func37 (by kernel_rfl) (by kernel_rfl) _ _ (by rfl) [.pointer (some ⟨g, 0, none⟩), .int .i64 m] (by simp only [List.map_cons, List.map_nil, *]; try rfl) (cM.out _ hS) ?_
              rintro e w1 ⟨rfl, rfl⟩
              exact ⟨_, rfl, _, rfl, rfl, Old.refl' _, hS⟩
            refine StepsOk.cons (stepOk_pure [(21, 99), (27, 105)] [] rfl rfl (by kernel_rfl) (by kernel_rfl) rfl Old.refl' (fun _ _ _ h => h) (fun d E w' hk hda hS hc hf => by rintro _ q21 rfl e99 _ q27 rfl e105 ; exact ⟨_, by go_simp, rfl⟩)) ?_
            refine StepsOk.cons (stepOk_pure [(28, 106)] [] rfl rfl (by kernel_rfl) (by kernel_rfl) rfl Old.refl' (fun _ _ _ h => h) (fun d E w' hk hda hS hc hf => by rintro _ q28 rfl e106 ; exact ⟨_, by go_simp, rfl⟩)) ?_
            exact StepsOk.nil
          case ends =>
            intro σ9 w9 hS9 hA9
            refine Ends.eqv (some 78) (.bool true) rfl (fun _ h => h) ?_
            refine Ends.eqv (some 79) (.bool true) rfl (fun _ h => h) ?_
            refine Ends.eqv (some 80) (.slice (some ⟨b8, o8, none⟩) 1 c8) rfl (fun _ h => h) ?_
            refine Ends.eqv (some 81) (.int .i64 1) rfl (fun _ h => h) ?_
            refine Ends.eqv (some 82) (.bool true) rfl (fun _ h => h) ?_
            refine Ends.eqv (some 83) (.bool true) rfl (fun _ h => h) ?_
            refine Ends.eqv (some 84) (.bool true) rfl (fun _ h => h) ?_
            refine Ends.eqv (some 85) (.slice (some ⟨b8, o8, none⟩) 1 c8) rfl (fun _ h => h) ?_
            refine Ends.eqv (some 86) (.pointer (some ⟨b8, o8, none⟩)) rfl (fun _ h => h) ?_
            refine Ends.eqv (some 87) (.int .i64 j) rfl (fun _ h => h) ?_
            refine Ends.eqv (some 88) (.pointer (some ⟨bq, 3, none⟩)) rfl (fun _ h => h) ?_
            refine Ends.eqv (some 89) (.int .i64 j) rfl (fun _ h => h) ?_
            refine Ends.eqv (some 90) (.bool true) rfl (fun _ h => h) ?_
            refine Ends.eqv (some 91) (.bool true) rfl (fun _ h => h) ?_
            refine Ends.eqv (some 92) (.bool true) rfl (fun _ h => h) ?_
            refine Ends.eqv (some 93) (.pointer (some ⟨g, 0, none⟩)) rfl (fun _ h => h) ?_
            refine Ends.eqv (some 94) (.pointer (some ⟨bq, 3, none⟩)) rfl (fun _ h => h) ?_
            refine Ends.eqv (some 95) (.int .i64 j) rfl (fun _ h => h) ?_
            refine Ends.eqv (some 96) (.bool false) rfl (fun _ h => h) ?_
            refine Ends.eqv (some 97) (.bool true) rfl (fun _ h => h) ?_
            refine Ends.eqv (some 98) (.bool true) rfl (fun _ h => h) ?_
            refine Ends.eqv (some 99) (.bool true) rfl (fun _ h => h) ?_
            refine Ends.eqv (some 100) (.pointer (some ⟨g, 0, none⟩)) rfl (fun _ h => h) ?_
            refine Ends.eqv (some 101) (.pointer (some ⟨bq, 3, none⟩)) rfl (fun _ h => h) ?_
            refine Ends.eqv (some 102) (.int .i64 j) rfl (fun _ h => h) ?_
            refine Ends.eqv (some 103) (.int .i64 ((j : Int) + 1)) rfl (fun _ h => h) ?_
            refine Ends.eqv (some 104) (.int .i64 m) rfl (fun _ h => h) ?_
            refine Ends.eqv (some 105) (.bool true) rfl (fun _ h => h) ?_
            refine Ends.eqv (some 106) (.bool true) rfl (fun _ h => h) ?_
            refine Ends.eqv (some 4) (.bool true) rfl (fun _ h => h) ?_
            refine Ends.nil ?_
            clear hA9
            simp only [put_lit, put_none, List.set_cons_zero, List.set_cons_succ]
            have o9 := hS9
            clear hS9
            go_wp2_with fail
            go_ret
            exact ⟨rfl, HO.out.trans' o9⟩
        · obtain ⟨p1, p2, p3⟩ := put_not (by simpa using hmay)
          have hE0 : ¬ E = 0 := by rw [← hE]; omega
          have hd3 : dirtyL l3 = [] := by rw [← hl3, p1]; exact hd2
          have cD3 := hide (fun (W : World) (h : LOne w W g l3 [(w.heap.size, 23, #[.int .i64 q.client, .int .i64 q.seq, .int .i64 q.kind, .int .i64 q.id, .int .i64 q.mat, .string q.data])]) => h.at_.elim fun F hF => Dirty_ln g F l3 [] hd3 0 rfl W hF)
          clear p1 p2 p3 hok hq6 hk0 hsn hl2 hN2 hk2 hd2 hl3 hAT hE hd3 hmay
          go_wp2_with (go_at_call 18; refine cLn.out.mono ?_; rintro e w3 ⟨rfl, rfl⟩)
          refine cCm.out.mono ?_
          rintro e w2 ⟨rfl, p2⟩
          go_wp2_with fail
          refine (cD2.out _ p2).mono ?_
          rintro e w3 ⟨A3, c3, rfl, -, -, b3⟩
          have p3 := p2.old b3
          obtain ⟨⟨x0, x1, x2, x3, x4, x5⟩, l1⟩ := bk6 (p3.held List.mem_cons_self)
          go_wp2_with fail
          refine (cPt.out _ p3).mono ?_
          rintro e w5 ⟨rfl, p5⟩
          clear x0 x1 x2 x3 x4 x5 l1 p3 p2
          go_wp2_with fail
          refine (cD3.out _ p5).mono ?_
          rintro e w6 ⟨A8, c8, rfl, -, -, b8⟩
          go_wp2_with (go_at_call 34; refine (told19_any _).mono ?_; rintro e w7 ⟨rfl, b7⟩)
          go_ret
          exact ⟨rfl, (p5.old (b8.trans' b7)).o⟩
  · have hc : (40 < n) ∨ (n ≤ 40 ∧ 100 < q.data.size) := by omega
    rcases hc with hg1 | ⟨hg1, hg2⟩
    all_goals
      go_enter Try.func10, Try.ntmps10
      go_wp2_with fail
      refine cNw.out.mono ?_
      rintro e w1 ⟨g, rfl, hp, -⟩
      clear y0 y1 y2 y3 y4 y5 ly
      obtain ⟨⟨y0, y1, y2, y3, y4, y5⟩, ly⟩ := bk6 (hp.held List.mem_cons_self)
      go_wp2_with (go_at_call 34; refine (told19_any _).mono ?_; rintro e w4 ⟨rfl, b4⟩)
      go_ret
      exact ⟨rfl, hp.o.trans' b4⟩
end Go.Proofs.Ytmhnlpilbbfgnaa
