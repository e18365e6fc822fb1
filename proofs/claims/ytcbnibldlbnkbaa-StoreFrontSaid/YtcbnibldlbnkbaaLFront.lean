/- casebooklaw5.StoreFront: the walk. -/
import Derived.Test.YtcbnibldlbnkbaaSdS
import Derived.Test.YtcbnibldlbnkbaaLSt
namespace Go.Proofs.Ytcbnibldlbnkbaa
open Go.RowKit

theorem umodF (x : Int) (n : Nat) (hn : n ≤ 1000) : ∃ y : Nat, wrap64 ((IntKind.u64.wrap x).tmod (((n : Nat) : Int) + 1)) = (y : Int) ∧ y ≤ n := by
  have h0 : 0 ≤ IntKind.u64.wrap x := by rw [IntKind.wrap_u64]; omega
  rw [Int.tmod_eq_emod_of_nonneg h0]
  have h1 := Int.emod_nonneg (IntKind.u64.wrap x) (show ((n : Nat) : Int) + 1 ≠ 0 by omega)
  have h2 := Int.emod_lt_of_pos (IntKind.u64.wrap x) (show 0 < ((n : Nat) : Int) + 1 by omega)
  rw [IntWalk.wrap64_in _ ⟨by omega, by omega⟩]
  exact ⟨(IntKind.u64.wrap x % (((n : Nat) : Int) + 1)).toNat, by omega, by omega⟩

set_option maxRecDepth 100000 in
set_option maxHeartbeats 4000000 in
theorem Front_walk (A0 : Option Addr) (n k0 : Nat) (qs : List ReqV) (id : Int) (hl : n = qs.length) (hn : n ≤ 9223372036854775807) (w : World) (hQ : ReqsAt w A0 qs) :
    Calls Try.prog 5 #[.slice A0 n k0, .int .i64 id] w fun e w' => e = .returned (.bool true) ∧ Old w w' := by
  obtain ⟨f1, hf1⟩ : ∃ f, few5 qs = f := ⟨_, rfl⟩
  have cF1 := hide (fun (W : World) (h : Old w W) => few5_any A0 n k0 qs f1 hf1 hl hn W (CellsAt.old hQ h))
  have HL := hide hl
  clear hl hf1
  by_cases hgo : f1 = true ∧ n ≤ 80
  · obtain ⟨rfl, hn80⟩ := hgo
    have hn80' : (n : Int) ≤ 80 := by omega
    obtain ⟨y, hy, hyn⟩ := umodF id n (by omega)
    have hwu : IntKind.u64.wrap ((n : Int) + 1) = (n : Int) + 1 := by rw [IntKind.wrap_u64]; omega
    have hne : ¬ ((n : Int) + 1 = 0) := by omega
    have o0 : Old w w := Old.refl' w
    go_enter Try.func5, Try.ntmps5
    go_wp2_with (go_at_call 11; (with_reducible refine (cF1.out _ o0).mono ?_); rintro e w3 ⟨rfl, rfl⟩)
    refine (New_st 8 (by omega) _).mono ?_
    rintro e w1 ⟨rfl, st1, o1⟩
    have hp : Both w (w1.alloc (.cells (sdCells 8) 53)) w.heap.size w1.heap.size (runS 8 (qs.take 0)) (runS 8 (qs.take 0)) := Both.new o1 st1 (Nat.le_refl _) ((Old.refl' w1).alloc' _) (Bk.new w1 53 (sdCells 8)) (Nat.le_refl _)
    unfold sdCells at hp
    obtain ⟨gs, hg⟩ : ∃ g, w.heap.size = g := ⟨_, rfl⟩
    simp only [hg] at hp ⊢
    clear hg st1 o1
    go_wp2_with fail
    simp only [hy]
    obtain ⟨gx, hgx⟩ : ∃ g, w1.heap.size = g := ⟨_, rfl⟩
    simp only [hgx] at hp ⊢
    clear hgx hy hwu hne
    go_loopw [9] (fun iv wr => ∃ k : Nat, k ≤ y ∧ 0 ≤ k ∧ iv = .int .i64 k ∧ Both w wr gs gx (runS 8 (qs.take k)) (runS 8 (qs.take k))) (fun iv _ => y - (intOf iv).toNat)
    case atStart => exact ⟨0, Nat.zero_le _, Nat.zero_le _, rfl, hp⟩
    case round =>
      clear hp
      obtain ⟨k, hk, hlo, rfl, pr⟩ := hrel
      by_cases hlt : k < y
      · have hkn : k < n := by omega
        have hkq : k < qs.length := by have := HL.out; omega
        obtain ⟨b, o, rfl, hb, hc⟩ := hQ.at5 (k := k) hkq
        obtain ⟨x, hx⟩ : ∃ x, qs[k]?.getD default = x := ⟨_, rfl⟩
        rw [hx] at hc
        have hxx : qs[k] = x := by rw [List.getElem?_eq_getElem hkq] at hx; simpa using hx
        have htk : runS 8 (qs.take (k + 1)) = (runS 8 (qs.take k)).put x.q := by rw [List.take_succ_eq_append_getElem hkq, hxx, runS_snoc]
        have HTK := hide htk
        have hsn := (runS_ok 8 (qs.take k)).2.1
        rw [List.length_take] at hsn
        obtain ⟨s0, hs0⟩ : ∃ s, runS 8 (qs.take k) = s := ⟨_, rfl⟩
        rw [hs0] at pr hsn
        have HS0 := hide hs0
        obtain ⟨cc0, hc0⟩ : ∃ c, (s0.rep x.q).code = c := ⟨_, rfl⟩
        obtain ⟨v0, hv0⟩ : ∃ c, (s0.rep x.q).ver = c := ⟨_, rfl⟩
        obtain ⟨d0, hd0⟩ : ∃ c, (s0.rep x.q).data = c := ⟨_, rfl⟩
        obtain ⟨E, hE⟩ : ∃ c, s0.err x.q = c := ⟨_, rfl⟩
        obtain ⟨s1, hs1⟩ : ∃ c, s0.put x.q = c := ⟨_, rfl⟩
        have HS1 := hide hs1
        have c1 := hide (pr.put x cc0 v0 E d0 s1 hc0 hv0 hd0 hE hs1 (by omega))
        have c2 := hide (fun (W : World) (h : Both w W gs gx s1 s0) => h.sput x cc0 v0 E d0 s1 hc0 hv0 hd0 hE hs1 (by omega))
        have hX := hide (fun (W : World) (hW : Old w W) => (⟨(hW.cell (p := ⟨b, o + k * 6, none⟩) hb).trans (hc 0 _ (by omega) rfl), (hW.cell (p := ⟨b, o + k * 6 + 1, none⟩) hb).trans (hc 1 _ (by omega) rfl), (hW.cell (p := ⟨b, o + k * 6 + 2, none⟩) hb).trans (hc 2 _ (by omega) rfl), (hW.cell (p := ⟨b, o + k * 6 + 3, none⟩) hb).trans (hc 3 _ (by omega) rfl), (hW.cell (p := ⟨b, o + k * 6 + 4, none⟩) hb).trans (hc 4 _ (by omega) rfl), (hW.cell (p := ⟨b, o + k * 6 + 5, none⟩) hb).trans (hc 5 _ (by omega) rfl)⟩ :
          W.cell? ⟨b, o + k * 6, none⟩ = some (.int .i64 x.client) ∧ W.cell? ⟨b, o + k * 6 + 1, none⟩ = some (.int .i64 x.seq) ∧ W.cell? ⟨b, o + k * 6 + 2, none⟩ = some (.int .i64 x.kind) ∧ W.cell? ⟨b, o + k * 6 + 3, none⟩ = some (.int .i64 x.id) ∧ W.cell? ⟨b, o + k * 6 + 4, none⟩ = some (.int .i64 x.mat) ∧ W.cell? ⟨b, o + k * 6 + 5, none⟩ = some (.string x.data)))
        obtain ⟨x0, x1, x2, x3, x4, x5⟩ := hX.out _ pr.o
        clear hx hxx htk hs0 hs1 hc0 hv0 hd0 hE hc
        go_wp2_with fail
        refine c1.out.mono ?_
        rintro e w4 ⟨⟨A4, c4, rfl⟩, pr4⟩
        clear x0 x1 x2 x3 x4 x5 pr
        obtain ⟨x0, x1, x2, x3, x4, x5⟩ := hX.out _ pr4.o
        go_wp2_with fail
        refine (c2.out _ pr4).mono ?_
        rintro e w5 ⟨⟨A5, c5, rfl⟩, pr5⟩
        have hfin := hide pr5
        clear x0 x1 x2 x3 x4 x5 pr4 pr5
        go_wp2_with fail
        go_roundw
        case rel => exact ⟨k + 1, by omega, by omega, by go_num, by rw [HTK.out, HS0.out, HS1.out]; exact hfin.out⟩
        case measure => simp [intOf]; omega
      · obtain rfl : y = k := by omega
        clear hlo
        obtain ⟨hok, hsn, -⟩ := runS_ok 8 (qs.take y)
        rw [List.length_take] at hsn
        have HPR := hide pr
        obtain ⟨s9, hs9⟩ : ∃ s, runS 8 (qs.take y) = s := ⟨_, rfl⟩
        rw [hs9] at pr hok hsn
        obtain ⟨F, sa⟩ := pr.st
        obtain ⟨G, sx⟩ := pr.sd
        obtain ⟨bs, hbs⟩ : ∃ bs, s9.bytes = bs := ⟨_, rfl⟩
        obtain ⟨m, hm⟩ : ∃ m, bs.length = m := ⟨_, rfl⟩
        obtain ⟨W9, rfl⟩ : ∃ W, W = wr := ⟨_, rfl⟩
        have cB := hide (fun (W : World) (h : Old W9 W) => by have := Bytes_st gs F s9 (by omega) hok W (sa.old h); rw [hbs, hm] at this; exact this)
        have cX := hide (fun (W : World) (h : Old W9 W) => by have := SBytes_st gx G s9 (by omega) hok W (sx.old h); rw [hbs] at this; exact this)
        clear hs9 hbs sa sx hok hsn pr
        go_wp2_with fail
        refine region_steps (R := pick [eqv (.pointer (some ⟨gs, 0, none⟩)), fun v w' => ∃ A c, v = .slice A m c ∧ CellsAt w' A (u8s bs), eqv (.string (strOfNums bs)), eqv (.pointer (some ⟨gx, 0, none⟩)), eqv (.string (strOfNums bs)), eqv (.bool false)]) (S := fun _ w' => Old W9 w') (T := Old) (by kernel_rfl) (by kernel_rfl) (by kernel_rfl) (Stab.pick (Stab.eqv (Stab.cons (fun v w w' ht ⟨A, c, h, i⟩ => ⟨A, c, h, i.old ht⟩) (Stab.eqv (Stab.eqv (Stab.eqv (Stab.eqv (Stab.nil)))))))) ((Old.refl' _).drew') ?steps ?ends
        case steps =>
          refine StepsOk.cons (stepOk_pure [] [(5, .pointer (some ⟨gs, 0, none⟩))] rfl rfl (by kernel_rfl) (by kernel_rfl) rfl Old.refl' (fun _ _ _ h => h) (fun d E w' hk hda hS hc hf => by rintro  e5; exact ⟨_, by go_simp, rfl⟩)) ?_
          refine StepsOk.cons (stepOk_mk [(0, 57)] [] rfl rfl (by kernel_rfl) (by kernel_rfl) rfl ?_) ?_
          · rintro d a w' hk hda hS _ q0 rfl e57 
            first | refine Given.nil (Known.nil ?_) | refine Known.nil ?_
            refine wp_call 18 _ Try.func18 (by kernel_rfl) (by kernel_rfl) _ _ (by rfl) [.pointer (some ⟨gs, 0, none⟩)] (by simp only [List.map_cons, List.map_nil, *]; try rfl) (cB.out _ hS) ?_
            rintro e w1 ⟨Ab, cb, rfl, ho, f4⟩
            exact ⟨_, rfl, _, rfl, ⟨Ab, cb, rfl, CellsAt.of_own ho⟩, f4, hS.trans' f4⟩
          refine StepsOk.cons (stepOk_pure [(1, 58)] [] rfl rfl (by kernel_rfl) (by kernel_rfl) rfl Old.refl' (fun _ _ _ h => h) (fun d E w' hk hda hS hc hf => by rintro _ q1 ⟨Ab, cb, rfl, ib⟩ e58 ; have hs := run_str m cb hm ib; exact ⟨_, by go_simp, rfl⟩)) ?_
          refine StepsOk.cons (stepOk_pure [] [(7, .pointer (some ⟨gx, 0, none⟩))] rfl rfl (by kernel_rfl) (by kernel_rfl) rfl Old.refl' (fun _ _ _ h => h) (fun d E w' hk hda hS hc hf => by rintro  e7; exact ⟨_, by go_simp, rfl⟩)) ?_
          refine StepsOk.cons (stepOk_mk [(3, 60)] [] rfl rfl (by kernel_rfl) (by kernel_rfl) rfl ?_) ?_
          · rintro d a w' hk hda hS _ q3 rfl e60 
            first | refine Given.nil (Known.nil ?_) | refine Known.nil ?_
            refine wp_call 23 _ Try.func23 (by kernel_rfl) (by kernel_rfl) _ _ (by rfl) [.pointer (some ⟨gx, 0, none⟩)] (by simp only [List.map_cons, List.map_nil, *]; try rfl) (cX.out _ hS) ?_
            rintro e w1 ⟨rfl, f4⟩
            exact ⟨_, rfl, _, rfl, rfl, f4, hS.trans' f4⟩
          refine StepsOk.cons (stepOk_pure [(2, 59), (4, 61)] [] rfl rfl (by kernel_rfl) (by kernel_rfl) rfl Old.refl' (fun _ _ _ h => h) (fun d E w' hk hda hS hc hf => by rintro _ q2 rfl e59 _ q4 rfl e61 ; exact ⟨_, by go_simp, rfl⟩)) ?_
          exact StepsOk.nil
        case ends =>
          intro σ9 w9 hS9 hA9
          refine Ends.eqv (some 57) (.pointer (some ⟨gs, 0, none⟩)) rfl (fun _ h => h) ?_
          refine Ends.ex (some 58) rfl ?_
          rintro _ p1 ⟨Ab, cb, rfl, ib⟩
          refine Ends.eqv (some 59) (.string (strOfNums bs)) rfl (fun _ h => h) ?_
          refine Ends.eqv (some 60) (.pointer (some ⟨gx, 0, none⟩)) rfl (fun _ h => h) ?_
          refine Ends.eqv (some 61) (.string (strOfNums bs)) rfl (fun _ h => h) ?_
          refine Ends.eqv (some 62) (.bool false) rfl (fun _ h => h) ?_
          refine Ends.nil ?_
          clear hA9
          simp only [put_lit, put_none, List.set_cons_zero, List.set_cons_succ]
          have o9 := hS9
          clear hS9
          have HP2 := hide (HPR.out.old o9)
          clear HPR cB cX o9 hm
          go_wp2_with fail
          go_loopw [10] (fun iv wr => ∃ k : Nat, k ≤ n ∧ y ≤ k ∧ iv = .int .i64 k ∧ Both w wr gs gx (runS 8 (qs.take k)) (runS 8 (qs.take k))) (fun iv _ => n - (intOf iv).toNat)
          case atStart => exact ⟨y, hyn, Nat.le_refl _, rfl, HP2.out⟩
          case round =>
            obtain ⟨k, hk, hlo, rfl, pr⟩ := hrel
            by_cases hlt : k < n
            · have hkn : k < n := by omega
              have hkq : k < qs.length := by have := HL.out; omega
              obtain ⟨b, o, rfl, hb, hc⟩ := hQ.at5 (k := k) hkq
              obtain ⟨x, hx⟩ : ∃ x, qs[k]?.getD default = x := ⟨_, rfl⟩
              rw [hx] at hc
              have hxx : qs[k] = x := by rw [List.getElem?_eq_getElem hkq] at hx; simpa using hx
              have htk : runS 8 (qs.take (k + 1)) = (runS 8 (qs.take k)).put x.q := by rw [List.take_succ_eq_append_getElem hkq, hxx, runS_snoc]
              have HTK := hide htk
              have hsn := (runS_ok 8 (qs.take k)).2.1
              rw [List.length_take] at hsn
              obtain ⟨s0, hs0⟩ : ∃ s, runS 8 (qs.take k) = s := ⟨_, rfl⟩
              rw [hs0] at pr hsn
              have HS0 := hide hs0
              obtain ⟨cc0, hc0⟩ : ∃ c, (s0.rep x.q).code = c := ⟨_, rfl⟩
              obtain ⟨v0, hv0⟩ : ∃ c, (s0.rep x.q).ver = c := ⟨_, rfl⟩
              obtain ⟨d0, hd0⟩ : ∃ c, (s0.rep x.q).data = c := ⟨_, rfl⟩
              obtain ⟨E, hE⟩ : ∃ c, s0.err x.q = c := ⟨_, rfl⟩
              obtain ⟨s1, hs1⟩ : ∃ c, s0.put x.q = c := ⟨_, rfl⟩
              have HS1 := hide hs1
              have c1 := hide (pr.put x cc0 v0 E d0 s1 hc0 hv0 hd0 hE hs1 (by omega))
              have c2 := hide (fun (W : World) (h : Both w W gs gx s1 s0) => h.sput x cc0 v0 E d0 s1 hc0 hv0 hd0 hE hs1 (by omega))
              have hX := hide (fun (W : World) (hW : Old w W) => (⟨(hW.cell (p := ⟨b, o + k * 6, none⟩) hb).trans (hc 0 _ (by omega) rfl), (hW.cell (p := ⟨b, o + k * 6 + 1, none⟩) hb).trans (hc 1 _ (by omega) rfl), (hW.cell (p := ⟨b, o + k * 6 + 2, none⟩) hb).trans (hc 2 _ (by omega) rfl), (hW.cell (p := ⟨b, o + k * 6 + 3, none⟩) hb).trans (hc 3 _ (by omega) rfl), (hW.cell (p := ⟨b, o + k * 6 + 4, none⟩) hb).trans (hc 4 _ (by omega) rfl), (hW.cell (p := ⟨b, o + k * 6 + 5, none⟩) hb).trans (hc 5 _ (by omega) rfl)⟩ :
                W.cell? ⟨b, o + k * 6, none⟩ = some (.int .i64 x.client) ∧ W.cell? ⟨b, o + k * 6 + 1, none⟩ = some (.int .i64 x.seq) ∧ W.cell? ⟨b, o + k * 6 + 2, none⟩ = some (.int .i64 x.kind) ∧ W.cell? ⟨b, o + k * 6 + 3, none⟩ = some (.int .i64 x.id) ∧ W.cell? ⟨b, o + k * 6 + 4, none⟩ = some (.int .i64 x.mat) ∧ W.cell? ⟨b, o + k * 6 + 5, none⟩ = some (.string x.data)))
              obtain ⟨x0, x1, x2, x3, x4, x5⟩ := hX.out _ pr.o
              clear hx hxx htk hs0 hs1 hc0 hv0 hd0 hE hc
              go_wp2_with fail
              refine c1.out.mono ?_
              rintro e w4 ⟨⟨A4, c4, rfl⟩, pr4⟩
              clear x0 x1 x2 x3 x4 x5 pr
              obtain ⟨x0, x1, x2, x3, x4, x5⟩ := hX.out _ pr4.o
              go_wp2_with fail
              refine (c2.out _ pr4).mono ?_
              rintro e w5 ⟨⟨A5, c5, rfl⟩, pr5⟩
              have hfin := hide pr5
              clear x0 x1 x2 x3 x4 x5 pr4 pr5
              go_wp2_with fail
              go_roundw
              case rel => exact ⟨k + 1, by omega, by omega, by go_num, by rw [HTK.out, HS0.out, HS1.out]; exact hfin.out⟩
              case measure => simp [intOf]; omega
            · obtain rfl : n = k := by omega
              clear hlo
              obtain ⟨hok, hsn, -⟩ := runS_ok 8 (qs.take n)
              rw [List.length_take] at hsn
              have HPR := hide pr
              obtain ⟨s9, hs9⟩ : ∃ s, runS 8 (qs.take n) = s := ⟨_, rfl⟩
              rw [hs9] at pr hok hsn
              obtain ⟨F, sa⟩ := pr.st
              obtain ⟨G, sx⟩ := pr.sd
              obtain ⟨bs, hbs⟩ : ∃ bs, s9.bytes = bs := ⟨_, rfl⟩
              obtain ⟨m, hm⟩ : ∃ m, bs.length = m := ⟨_, rfl⟩
              obtain ⟨W9, rfl⟩ : ∃ W, W = wr := ⟨_, rfl⟩
              have cB := hide (fun (W : World) (h : Old W9 W) => by have := Bytes_st gs F s9 (by omega) hok W (sa.old h); rw [hbs, hm] at this; exact this)
              have cX := hide (fun (W : World) (h : Old W9 W) => by have := SBytes_st gx G s9 (by omega) hok W (sx.old h); rw [hbs] at this; exact this)
              clear hs9 hbs sa sx hok hsn pr
              go_wp2_with fail
              refine region_steps (R := pick [eqv (.bool true), eqv (.bool true), eqv (.pointer (some ⟨gs, 0, none⟩)), fun v w' => ∃ A c, v = .slice A m c ∧ CellsAt w' A (u8s bs), eqv (.string (strOfNums bs)), eqv (.pointer (some ⟨gx, 0, none⟩)), eqv (.string (strOfNums bs)), eqv (.bool true), eqv (.bool true), eqv (.bool true)]) (S := fun _ w' => Old W9 w') (T := Old) (by kernel_rfl) (by kernel_rfl) (by kernel_rfl) (Stab.pick (Stab.eqv (Stab.eqv (Stab.eqv (Stab.cons (fun v w w' ht ⟨A, c, h, i⟩ => ⟨A, c, h, i.old ht⟩) (Stab.eqv (Stab.eqv (Stab.eqv (Stab.eqv (Stab.eqv (Stab.eqv (Stab.nil)))))))))))) ((Old.refl' _).drew') ?steps ?ends
              case steps =>
                refine StepsOk.cons (stepOk_mk [] [] rfl rfl (by kernel_rfl) (by kernel_rfl) rfl ?_) ?_
                · rintro d a w' hk hda hS  
                  first | refine Given.nil (Known.nil ?_) | refine Known.nil ?_
                  refine wp_call 12 _ Try.func12 (by kernel_rfl) (by kernel_rfl) _ _ (by rfl) [] (by simp only [List.map_cons, List.map_nil, *]; try rfl) (told5_any _) ?_
                  rintro e w1 ⟨rfl, f4⟩
                  exact ⟨_, rfl, _, rfl, rfl, f4, hS.trans' f4⟩
                refine StepsOk.cons (stepOk_pure [(0, 82)] [] rfl rfl (by kernel_rfl) (by kernel_rfl) rfl Old.refl' (fun _ _ _ h => h) (fun d E w' hk hda hS hc hf => by rintro _ q0 rfl e82 ; exact ⟨_, by go_simp, rfl⟩)) ?_
                refine StepsOk.cons (stepOk_pureG 1 83 true rfl rfl (by kernel_rfl) (fun _ _ h => h) [] [(5, .pointer (some ⟨gs, 0, none⟩))] (by kernel_rfl) (by kernel_rfl) rfl Old.refl' (fun _ _ _ h => h) (fun d E w' hk hda hS hc hf => by rintro  e5; exact ⟨_, by go_simp, rfl⟩)) ?_
                refine StepsOk.cons (stepOk_guard 1 83 true rfl rfl (by kernel_rfl) (fun _ _ h => h) [(2, 84)] [] (by kernel_rfl) (by kernel_rfl) rfl ?_) ?_
                · rintro d a w' hk hda hS _ q2 rfl e84 
                  first | refine Given.nil (Known.nil ?_) | refine Known.nil ?_
                  refine wp_call 18 _ Try.func18 (by kernel_rfl) (by kernel_rfl) _ _ (by rfl) [.pointer (some ⟨gs, 0, none⟩)] (by simp only [List.map_cons, List.map_nil, *]; try rfl) (cB.out _ hS) ?_
                  rintro e w1 ⟨Ab, cb, rfl, ho, f4⟩
                  exact ⟨_, rfl, _, rfl, ⟨Ab, cb, rfl, CellsAt.of_own ho⟩, f4, hS.trans' f4⟩
                refine StepsOk.cons (stepOk_pureG 1 83 true rfl rfl (by kernel_rfl) (fun _ _ h => h) [(3, 85)] [] (by kernel_rfl) (by kernel_rfl) rfl Old.refl' (fun _ _ _ h => h) (fun d E w' hk hda hS hc hf => by rintro _ q3 ⟨Ab, cb, rfl, ib⟩ e85 ; have hs := run_str m cb hm ib; exact ⟨_, by go_simp, rfl⟩)) ?_
                refine StepsOk.cons (stepOk_pureG 1 83 true rfl rfl (by kernel_rfl) (fun _ _ h => h) [] [(7, .pointer (some ⟨gx, 0, none⟩))] (by kernel_rfl) (by kernel_rfl) rfl Old.refl' (fun _ _ _ h => h) (fun d E w' hk hda hS hc hf => by rintro  e7; exact ⟨_, by go_simp, rfl⟩)) ?_
                refine StepsOk.cons (stepOk_guard 1 83 true rfl rfl (by kernel_rfl) (fun _ _ h => h) [(5, 87)] [] (by kernel_rfl) (by kernel_rfl) rfl ?_) ?_
                · rintro d a w' hk hda hS _ q5 rfl e87 
                  first | refine Given.nil (Known.nil ?_) | refine Known.nil ?_
                  refine wp_call 23 _ Try.func23 (by kernel_rfl) (by kernel_rfl) _ _ (by rfl) [.pointer (some ⟨gx, 0, none⟩)] (by simp only [List.map_cons, List.map_nil, *]; try rfl) (cX.out _ hS) ?_
                  rintro e w1 ⟨rfl, f4⟩
                  exact ⟨_, rfl, _, rfl, rfl, f4, hS.trans' f4⟩
                refine StepsOk.cons (stepOk_pureG 1 83 true rfl rfl (by kernel_rfl) (fun _ _ h => h) [(4, 86), (6, 88)] [] (by kernel_rfl) (by kernel_rfl) rfl Old.refl' (fun _ _ _ h => h) (fun d E w' hk hda hS hc hf => by rintro _ q4 rfl e86 _ q6 rfl e88 ; exact ⟨_, by go_simp, rfl⟩)) ?_
                refine StepsOk.cons (stepOk_pure [(1, 83), (7, 89)] [] rfl rfl (by kernel_rfl) (by kernel_rfl) rfl Old.refl' (fun _ _ _ h => h) (fun d E w' hk hda hS hc hf => by rintro _ q1 rfl e83 _ q7 rfl e89 ; exact ⟨_, by go_simp, rfl⟩)) ?_
                refine StepsOk.cons (stepOk_pure [(8, 90)] [] rfl rfl (by kernel_rfl) (by kernel_rfl) rfl Old.refl' (fun _ _ _ h => h) (fun d E w' hk hda hS hc hf => by rintro _ q8 rfl e90 ; exact ⟨_, by go_simp, rfl⟩)) ?_
                exact StepsOk.nil
              case ends =>
                intro σ9 w9 hS9 hA9
                refine Ends.eqv (some 82) (.bool true) rfl (fun _ h => h) ?_
                refine Ends.eqv (some 83) (.bool true) rfl (fun _ h => h) ?_
                refine Ends.eqv (some 84) (.pointer (some ⟨gs, 0, none⟩)) rfl (fun _ h => h) ?_
                refine Ends.ex (some 85) rfl ?_
                rintro _ p3 ⟨Ab, cb, rfl, ib⟩
                refine Ends.eqv (some 86) (.string (strOfNums bs)) rfl (fun _ h => h) ?_
                refine Ends.eqv (some 87) (.pointer (some ⟨gx, 0, none⟩)) rfl (fun _ h => h) ?_
                refine Ends.eqv (some 88) (.string (strOfNums bs)) rfl (fun _ h => h) ?_
                refine Ends.eqv (some 89) (.bool true) rfl (fun _ h => h) ?_
                refine Ends.eqv (some 90) (.bool true) rfl (fun _ h => h) ?_
                refine Ends.eqv (some 4) (.bool true) rfl (fun _ h => h) ?_
                refine Ends.nil ?_
                clear hA9
                simp only [put_lit, put_none, List.set_cons_zero, List.set_cons_succ]
                have o9 := hS9
                clear hS9
                go_wp2_with fail
                go_ret
                exact ⟨rfl, HPR.out.o.trans' o9⟩
  · have hcase : f1 = false ∨ (f1 = true ∧ ¬ n ≤ 80) := by
      cases f1 <;> simp_all <;> omega
    have o0 : Old w w := Old.refl' w
    rcases hcase with rfl | ⟨rfl, h2⟩
    all_goals
      go_enter Try.func5, Try.ntmps5
      go_wp2_with (first
        | (go_at_call 11; (with_reducible refine (cF1.out _ o0).mono ?_); rintro e w3 ⟨rfl, rfl⟩)
        | (go_at_call 12; refine (told5_any _).mono ?_; rintro e w4 ⟨rfl, b4⟩))
      go_ret
      exact ⟨rfl, b4⟩
end Go.Proofs.Ytcbnibldlbnkbaa
