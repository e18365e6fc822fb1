/- casebooklaw19.DirtyPlays: the walk. -/
import Derived.Test.YtmhnlpilbbfgnaaHFewL
import Derived.Test.YtmhnlpilbbfgnaaHXlR
import Derived.Test.YtmhnlpilbbfgnaaHDyL
import Derived.Test.YtmhnlpilbbfgnaaHDyZ
import Derived.Test.YtmhnlpilbbfgnaaHDyB
namespace Go.Proofs.Ytmhnlpilbbfgnaa
open Go.RowKit

theorem dR_len (l : LnV) (q : ReqV) : (l.dR q).vs.length ≤ l.qs.length := by
  unfold LnV.dR
  split
  · split
    · have h1 := ask_lenH l.st q.q
      have h2 := few_len l.quota (l.qs.take l.k) q.q.id
      have h3 := (runS_ok l.quota (l.qs.take l.k)).2.1
      rw [List.length_take] at h3
      have e : l.st = runS l.quota (l.qs.take l.k) := rfl
      rw [← e] at h2 h3
      omega
    · exact Nat.zero_le _
  · exact Nat.zero_le _
set_option maxRecDepth 100000 in
set_option maxHeartbeats 8000000 in
theorem DPlays_walk (A0 : Option Addr) (n k0 : Nat) (os : List LOpV) (B0 : Option Addr) (m cm : Nat) (qs : List ReqV) (hl : n = os.length) (hn : n ≤ 9223372036854775807) (hok : ∀ o ∈ os, o.ok) (hl2 : m = qs.length) (hm : m ≤ 9223372036854775807) (w : World) (hQ : LOpsAt w A0 os) (hA : ReqsAt w B0 qs) :
    Calls Try.prog 11 #[.slice A0 n k0, .slice B0 m cm] w fun e w' => e = .returned (.bool true) ∧ Old w w' := by
  obtain ⟨f1, hf1⟩ : ∃ f, few18 os = f := ⟨_, rfl⟩
  have cF1 := hide (fun (W : World) (h : Old w W) => few18_any A0 n k0 os f1 hf1 hl hn W (CellsAt.old hQ h))
  have HL := hide hl
  have HL2 := hide hl2
  have hOK := hide hok
  have hn60 := hide (fun (h : f1 = true) => (by rw [hl]; rw [h] at hf1; unfold few18 at hf1; simp at hf1; omega : n ≤ 60))
  have cNw := hide (New_ln 5 (by omega) w)
  clear hl hl2 hf1 hok
  by_cases hgo : f1 = true ∧ m ≤ 20
  · obtain ⟨rfl, hm2⟩ := hgo
    have hn2 := hn60.out rfl
    have hm2' : (m : Int) ≤ 20 := by omega
    go_enter Try.func11, Try.ntmps11
    go_wp2_with fail
    refine cNw.out.mono ?_
    rintro e w1 ⟨g, F, rfl, a1, a2, a3⟩
    have hp : LX w _ g w1.heap.size (runO 5 (os.take 0)) (runO 5 (os.take 0)) [] := LX.new a1 a2 a3
    go_wp2_with (go_at_call 32; (with_reducible refine (cF1.out _ a3).mono ?_); rintro e w3 ⟨rfl, rfl⟩)
    obtain ⟨x, hx⟩ : ∃ x, w1.heap.size = x := ⟨_, rfl⟩
    simp only [hx] at hp ⊢
    clear hx a1 a2 a3
    go_loopw [8] (fun iv wr => ∃ k : Nat, k ≤ n ∧ iv = .int .i64 k ∧ LX w wr g x (runO 5 (os.take k)) (runO 5 (os.take k)) []) (fun iv _ => n - (intOf iv).toNat)
    case atStart => exact ⟨0, Nat.zero_le _, rfl, hp⟩
    case round =>
      clear hp
      obtain ⟨k, hk, rfl, pr⟩ := hrel
      by_cases hlt : k < n
      · have hkq : k < os.length := by have := HL.out; omega
        obtain ⟨b, o_, rfl, hb, hc⟩ := lops_at hQ (k := k) hkq
        obtain ⟨o, ho⟩ : ∃ o, os[k]?.getD default = o := ⟨_, rfl⟩
        rw [ho] at hc
        have hoo : os[k] = o := by rw [List.getElem?_eq_getElem hkq] at ho; simpa using ho
        have htk : runO 5 (os.take (k + 1)) = (runO 5 (os.take k)).step o.kind o.n o.m o.q := by rw [List.take_succ_eq_append_getElem hkq, hoo, runO_snoc]
        have hok : o.n ≤ 9223372036854775807 := (hOK.out o (hoo ▸ List.getElem_mem hkq)).2.1.2
        obtain ⟨hqt, hlen⟩ := runO_ok 5 (os.take k)
        rw [List.length_take] at hlen
        obtain ⟨l0, hl0⟩ : ∃ s, runO 5 (os.take k) = s := ⟨_, rfl⟩
        rw [hl0] at pr hqt hlen htk
        obtain ⟨l1, hl1⟩ : ∃ s, l0.step o.kind o.n o.m o.q = s := ⟨_, rfl⟩
        rw [hl1] at htk
        have HTK := hide htk
        have cD := hide (by have := DoL_any o.kind o.n o.m o.q g x l0 w wr pr (by rw [hqt]; omega) (by omega) hok; rw [hl1] at this; exact this)
        have hO9 := hide (fun (W : World) (hW : Old w W) => (⟨(hW.cell (p := ⟨b, o_ + k * 9, none⟩) hb).trans (hc 0 _ (by omega) rfl), (hW.cell (p := ⟨b, o_ + k * 9 + 1, none⟩) hb).trans (hc 1 _ (by omega) rfl), (hW.cell (p := ⟨b, o_ + k * 9 + 2, none⟩) hb).trans (hc 2 _ (by omega) rfl), (hW.cell (p := ⟨b, o_ + k * 9 + 3, none⟩) hb).trans (hc 3 _ (by omega) rfl), (hW.cell (p := ⟨b, o_ + k * 9 + 4, none⟩) hb).trans (hc 4 _ (by omega) rfl), (hW.cell (p := ⟨b, o_ + k * 9 + 5, none⟩) hb).trans (hc 5 _ (by omega) rfl), (hW.cell (p := ⟨b, o_ + k * 9 + 6, none⟩) hb).trans (hc 6 _ (by omega) rfl), (hW.cell (p := ⟨b, o_ + k * 9 + 7, none⟩) hb).trans (hc 7 _ (by omega) rfl), (hW.cell (p := ⟨b, o_ + k * 9 + 8, none⟩) hb).trans (hc 8 _ (by omega) rfl)⟩ : W.cell? ⟨b, o_ + k * 9, none⟩ = some (.int .i64 o.kind) ∧ W.cell? ⟨b, o_ + k * 9 + 1, none⟩ = some (.int .i64 o.n) ∧ W.cell? ⟨b, o_ + k * 9 + 2, none⟩ = some (.int .i64 o.m) ∧ W.cell? ⟨b, o_ + k * 9 + 3, none⟩ = some (.int .i64 o.q.client) ∧ W.cell? ⟨b, o_ + k * 9 + 4, none⟩ = some (.int .i64 o.q.seq) ∧ W.cell? ⟨b, o_ + k * 9 + 5, none⟩ = some (.int .i64 o.q.kind) ∧ W.cell? ⟨b, o_ + k * 9 + 6, none⟩ = some (.int .i64 o.q.id) ∧ W.cell? ⟨b, o_ + k * 9 + 7, none⟩ = some (.int .i64 o.q.mat) ∧ W.cell? ⟨b, o_ + k * 9 + 8, none⟩ = some (.string o.q.data)))
        obtain ⟨x0, x1, x2, x3, x4, x5, x6, x7, x8⟩ := hO9.out _ pr.o
        have hltI : (k : Int) < n := by omega
        clear hc ho hoo htk hok hqt hlen hl0 hl1 pr
        go_wp2_with fail
        refine cD.out.mono ?_
        rintro e w2 ⟨rfl, p2⟩
        have HP := hide p2
        clear x0 x1 x2 x3 x4 x5 x6 x7 x8 p2 cD
        go_wp2_with fail
        go_roundw
        case rel => exact ⟨k + 1, by omega, by go_num, by rw [HTK.out]; exact HP.out⟩
        case measure => simp [intOf]; omega
      · obtain rfl : k = n := by omega
        obtain ⟨hqt, hlen⟩ := runO_ok 5 (os.take k)
        rw [List.length_take] at hlen
        obtain ⟨l9, hl9⟩ : ∃ s, runO 5 (os.take k) = s := ⟨_, rfl⟩
        rw [hl9] at pr hlen
        have hkl : l9.k ≤ l9.qs.length := pr.ln.elim fun F hF => hF.kl
        have hp2 := pr
        clear hqt hl9 pr
        go_wp2_with fail
        go_loopw [9] (fun iv wr => ∃ k : Nat, k ≤ m ∧ iv = .int .i64 k ∧ LX w wr g x l9 l9 []) (fun iv _ => m - (intOf iv).toNat)
        case atStart => exact ⟨0, Nat.zero_le _, rfl, hp2⟩
        case round =>
          clear hp2
          obtain ⟨k, hk, rfl, pr⟩ := hrel
          by_cases hlt : k < m
          · have hkq : k < qs.length := by have := HL2.out; omega
            obtain ⟨b, o_, rfl, hb, hc⟩ := hA.at5 (k := k) hkq
            obtain ⟨q, hq⟩ : ∃ q, qs[k]?.getD default = q := ⟨_, rfl⟩
            rw [hq] at hc
            have hQ9 := hide (fun (W : World) (hW : Old w W) => (⟨(hW.cell (p := ⟨b, o_ + k * 6, none⟩) hb).trans (hc 0 _ (by omega) rfl), (hW.cell (p := ⟨b, o_ + k * 6 + 1, none⟩) hb).trans (hc 1 _ (by omega) rfl), (hW.cell (p := ⟨b, o_ + k * 6 + 2, none⟩) hb).trans (hc 2 _ (by omega) rfl), (hW.cell (p := ⟨b, o_ + k * 6 + 3, none⟩) hb).trans (hc 3 _ (by omega) rfl), (hW.cell (p := ⟨b, o_ + k * 6 + 4, none⟩) hb).trans (hc 4 _ (by omega) rfl), (hW.cell (p := ⟨b, o_ + k * 6 + 5, none⟩) hb).trans (hc 5 _ (by omega) rfl)⟩ : W.cell? ⟨b, o_ + k * 6, none⟩ = some (.int .i64 q.client) ∧ W.cell? ⟨b, o_ + k * 6 + 1, none⟩ = some (.int .i64 q.seq) ∧ W.cell? ⟨b, o_ + k * 6 + 2, none⟩ = some (.int .i64 q.kind) ∧ W.cell? ⟨b, o_ + k * 6 + 3, none⟩ = some (.int .i64 q.id) ∧ W.cell? ⟨b, o_ + k * 6 + 4, none⟩ = some (.int .i64 q.mat) ∧ W.cell? ⟨b, o_ + k * 6 + 5, none⟩ = some (.string q.data)))
            have hltI : (k : Int) < m := by omega
            clear hc hq
            obtain ⟨x0, x1, x2, x3, x4, x5⟩ := hQ9.out _ pr.o
            by_cases hs : q.data.size ≤ 100
            · obtain ⟨R, hR⟩ : ∃ R, l9.dR q = R := ⟨_, rfl⟩
              obtain ⟨nR, hnR⟩ : ∃ n, R.vs.length = n := ⟨_, rfl⟩
              obtain ⟨AT, hAT⟩ : ∃ a : Int, (l9.dA q : Int) = a := ⟨_, rfl⟩
              obtain ⟨E, hE⟩ : ∃ a : Int, l9.dE q = a := ⟨_, rfl⟩
              obtain ⟨cl, hcl⟩ : ∃ c, l9.clean q.id = c := ⟨_, rfl⟩
              have hnR2 : nR ≤ 1000 := by rw [← hnR, ← hR]; have := dR_len l9 q; omega
              have cR := hide (pr.ln.elim fun F hF => DRead_at g F l9 q R hR nR hnR AT E hAT hE (by omega) _ hF)
              have cXR := hide (fun (W : World) (h : LX w W g x l9 l9 []) => h.xl.elim fun F hF => XRead_at x F l9 (by omega) hkl q R hR nR hnR AT E hAT hE W hF)
              have cC0 := hide (fun (W : World) (h : LX w W g x l9 l9 []) => h.ln.elim fun F hF => Clean_ln g q.id cl F l9 hcl W hF)
              have cXC0 := hide (fun (W : World) (h : LX w W g x l9 l9 []) => h.xl.elim fun F hF => XClean_any x F l9 (by omega) q.id cl hcl W hF)
              have cQ0 := hide (fun (A B : Option Addr) (ca cb : Nat) (W : World) (ha : IntsAt W A R.vs) (hb : IntsAt W B R.vs) => Same_eqH R nR hnR hnR2 A B ca cb W ha hb)
              have HP := hide pr
              have HL9 := hide hlen
              clear hR hnR hAT hE hcl hnR2 pr hlen
              go_wp2_with fail
              refine cR.out.mono ?_
              rintro e w4 ⟨A4, c4, rfl, i4, -, b4⟩
              have p4 := (HP.out.old b4).old ((Old.refl' w4).alloc' (.cells #[.int .i64 R.code, .int .i64 R.ver, .string R.data, .slice A4 nR c4] 32))
              have k4 := Bk.new w4 32 #[.int .i64 R.code, .int .i64 R.ver, .string R.data, .slice A4 nR c4]
              clear x0 x1 x2 x3 x4 x5
              obtain ⟨x0, x1, x2, x3, x4, x5⟩ := hQ9.out _ p4.o
              go_wp2_with fail
              refine (cXR.out _ p4).mono ?_
              rintro e w6 ⟨A6, c6, rfl, i6, b6⟩
              have k5 := (k4.old b6).alloc (.cells #[.int .i64 R.code, .int .i64 R.ver, .string R.data, .slice A6 nR c6] 32)
              have k6 := Bk.new w6 32 #[.int .i64 R.code, .int .i64 R.ver, .string R.data, .slice A6 nR c6]
              have h4 : IntsAt (w6.alloc (.cells #[.int .i64 R.code, .int .i64 R.ver, .string R.data, .slice A6 nR c6] 32)) A4 R.vs := CellsAt.old i4 (((Old.refl' w4).alloc' (.cells #[.int .i64 R.code, .int .i64 R.ver, .string R.data, .slice A4 nR c4] 32)).trans' (b6.alloc' (.cells #[.int .i64 R.code, .int .i64 R.ver, .string R.data, .slice A6 nR c6] 32)))
              have h6 : IntsAt (w6.alloc (.cells #[.int .i64 R.code, .int .i64 R.ver, .string R.data, .slice A6 nR c6] 32)) A6 R.vs := CellsAt.alloc i6 _
              have p7 := (p4.old b6).old ((Old.refl' w6).alloc' (.cells #[.int .i64 R.code, .int .i64 R.ver, .string R.data, .slice A6 nR c6] 32))
              clear x0 x1 x2 x3 x4 x5 p4 k4 i4 i6 b4 b6
              go_wp2_with fail
              obtain ⟨WB, hWB⟩ : ∃ W : World, W = w6.alloc (.cells #[.int .i64 R.code, .int .i64 R.ver, .string R.data, .slice A6 nR c6] 32) := ⟨_, rfl⟩
              rw [← hWB] at k5 k6 h4 h6 p7
              simp only [← hWB]
              clear hWB
              obtain ⟨b10, hb10⟩ : ∃ b, w4.heap.size = b := ⟨_, rfl⟩
              obtain ⟨b13, hb13⟩ : ∃ b, w6.heap.size = b := ⟨_, rfl⟩
              rw [hb10] at k5
              rw [hb13] at k6
              simp only [hb10, hb13]
              clear hb10 hb13
              have hY := hide (fun (W : World) (hW : Old WB W) => (⟨(bk4 (k5.old hW)).1, (bk4 (k6.old hW)).1, (hQ9.out _ (p7.old hW).o).2.2.2.1⟩ : _ ∧ _ ∧ W.cell? ⟨b, o_ + k * 6 + 3, none⟩ = some (.int .i64 q.id)))
              have cQ := hide (fun (W : World) (hW : Old WB W) => cQ0.out A4 A6 c4 c6 W (CellsAt.old h4 hW) (CellsAt.old h6 hW))
              have cC := hide (fun (W : World) (hW : Old WB W) => cC0.out W (p7.old hW))
              have cXC := hide (fun (W : World) (hW : Old WB W) => cXC0.out W (p7.old hW))
              have HP7 := hide p7
              clear p7 k5 k6 h4 h6
              refine region_steps (R := pick [eqv (.int .i64 E), eqv (.int .i64 E), eqv (.bool false), eqv (.bool false), eqv (.int .i64 AT), eqv (.int .i64 AT), eqv (.bool false), eqv (.bool false), eqv (.bool false), eqv (.agg #[.int .i64 R.code, .int .i64 R.ver, .string R.data, .slice A4 nR c4]), eqv (.agg #[.int .i64 R.code, .int .i64 R.ver, .string R.data, .slice A6 nR c6]), eqv (.bool true), eqv (.bool false), eqv (.bool false), eqv (.bool false), eqv (.pointer (some ⟨g, 0, none⟩)), eqv (.slice (some ⟨b, o_, none⟩) m cm), eqv (.int .i64 k), eqv (.pointer (some ⟨b, o_ + k * 6, none⟩)), eqv (.pointer (some ⟨b, o_ + k * 6 + 3, none⟩)), eqv (.int .i64 q.id), eqv (.bool cl), eqv (.pointer (some ⟨x, 0, none⟩)), eqv (.slice (some ⟨b, o_, none⟩) m cm), eqv (.int .i64 k), eqv (.pointer (some ⟨b, o_ + k * 6, none⟩)), eqv (.pointer (some ⟨b, o_ + k * 6 + 3, none⟩)), eqv (.int .i64 q.id), eqv (.bool cl), eqv (.bool false), eqv (.bool false)]) (S := fun _ w' => Old WB w') (T := Old) (by kernel_rfl) (by kernel_rfl) (by kernel_rfl) (Stab.pick (Stab.eqv (Stab.eqv (Stab.eqv (Stab.eqv (Stab.eqv (Stab.eqv (Stab.eqv (Stab.eqv (Stab.eqv (Stab.eqv (Stab.eqv (Stab.eqv (Stab.eqv (Stab.eqv (Stab.eqv (Stab.eqv (Stab.eqv (Stab.eqv (Stab.eqv (Stab.eqv (Stab.eqv (Stab.eqv (Stab.eqv (Stab.eqv (Stab.eqv (Stab.eqv (Stab.eqv (Stab.eqv (Stab.eqv (Stab.eqv (Stab.eqv (Stab.nil))))))))))))))))))))))))))))))))) ((Old.refl' _).drew') ?steps ?ends
              case steps =>
                refine StepsOk.cons (stepOk_pure [] [(12, .int .i64 E)] rfl rfl (by kernel_rfl) (by kernel_rfl) rfl Old.refl' (fun _ _ _ h => h) (fun d E w' hk hda hS hc hf => by rintro  e12; exact ⟨_, by go_simp, rfl⟩)) ?_
                refine StepsOk.cons (stepOk_pure [] [(15, .int .i64 E)] rfl rfl (by kernel_rfl) (by kernel_rfl) rfl Old.refl' (fun _ _ _ h => h) (fun d E w' hk hda hS hc hf => by rintro  e15; exact ⟨_, by go_simp, rfl⟩)) ?_
                refine StepsOk.cons (stepOk_pure [(0, 88), (1, 89)] [] rfl rfl (by kernel_rfl) (by kernel_rfl) rfl Old.refl' (fun _ _ _ h => h) (fun d E w' hk hda hS hc hf => by rintro _ q0 rfl e88 _ q1 rfl e89 ; exact ⟨_, by go_simp, rfl⟩)) ?_
                refine StepsOk.cons (stepOk_pure [(2, 90)] [] rfl rfl (by kernel_rfl) (by kernel_rfl) rfl Old.refl' (fun _ _ _ h => h) (fun d E w' hk hda hS hc hf => by rintro _ q2 rfl e90 ; exact ⟨_, by go_simp, rfl⟩)) ?_
                refine StepsOk.cons (stepOk_pureG 3 91 false rfl rfl (by kernel_rfl) (fun _ _ h => h) [] [(11, .int .i64 AT)] (by kernel_rfl) (by kernel_rfl) rfl Old.refl' (fun _ _ _ h => h) (fun d E w' hk hda hS hc hf => by rintro  e11; exact ⟨_, by go_simp, rfl⟩)) ?_
                refine StepsOk.cons (stepOk_pureG 3 91 false rfl rfl (by kernel_rfl) (fun _ _ h => h) [] [(14, .int .i64 AT)] (by kernel_rfl) (by kernel_rfl) rfl Old.refl' (fun _ _ _ h => h) (fun d E w' hk hda hS hc hf => by rintro  e14; exact ⟨_, by go_simp, rfl⟩)) ?_
                refine StepsOk.cons (stepOk_pureG 3 91 false rfl rfl (by kernel_rfl) (fun _ _ h => h) [(4, 92), (5, 93)] [] (by kernel_rfl) (by kernel_rfl) rfl Old.refl' (fun _ _ _ h => h) (fun d E w' hk hda hS hc hf => by rintro _ q4 rfl e92 _ q5 rfl e93 ; exact ⟨_, by go_simp, rfl⟩)) ?_
                refine StepsOk.cons (stepOk_pure [(3, 91), (6, 94)] [] rfl rfl (by kernel_rfl) (by kernel_rfl) rfl Old.refl' (fun _ _ _ h => h) (fun d E w' hk hda hS hc hf => by rintro _ q3 rfl e91 _ q6 rfl e94 ; exact ⟨_, by go_simp, rfl⟩)) ?_
                refine StepsOk.cons (stepOk_pure [(7, 95)] [] rfl rfl (by kernel_rfl) (by kernel_rfl) rfl Old.refl' (fun _ _ _ h => h) (fun d E w' hk hda hS hc hf => by rintro _ q7 rfl e95 ; exact ⟨_, by go_simp, rfl⟩)) ?_
                refine StepsOk.cons (stepOk_pureG 8 96 false rfl rfl (by kernel_rfl) (fun _ _ h => h) [] [(10, .pointer (some ⟨b10, 0, none⟩))] (by kernel_rfl) (by kernel_rfl) rfl Old.refl' (fun _ _ _ h => h) (fun d E w' hk hda hS hc hf => by rintro  e10; obtain ⟨⟨u0, u1, u2, u3⟩, ⟨v0, v1, v2, v3⟩, t3⟩ := hY.out _ hS; exact ⟨_, by go_simp, rfl⟩)) ?_
                refine StepsOk.cons (stepOk_pureG 8 96 false rfl rfl (by kernel_rfl) (fun _ _ h => h) [] [(13, .pointer (some ⟨b13, 0, none⟩))] (by kernel_rfl) (by kernel_rfl) rfl Old.refl' (fun _ _ _ h => h) (fun d E w' hk hda hS hc hf => by rintro  e13; obtain ⟨⟨u0, u1, u2, u3⟩, ⟨v0, v1, v2, v3⟩, t3⟩ := hY.out _ hS; exact ⟨_, by go_simp, rfl⟩)) ?_
                refine StepsOk.cons (stepOk_guard 8 96 false rfl rfl (by kernel_rfl) (fun _ _ h => h) [(9, 97), (10, 98)] [] (by kernel_rfl) (by kernel_rfl) rfl ?_) ?_
                · rintro d a w' hk hda hS _ q9 rfl e97 _ q10 rfl e98 
                  first | refine Given.nil (Known.nil ?_) | refine Known.nil ?_
                  refine wp_call 29 _ Try.func29 (by kernel_rfl) (by kernel_rfl) _ _ (by rfl) [.agg #[.int .i64 R.code, .int .i64 R.ver, .string R.data, .slice A4 nR c4], .agg #[.int .i64 R.code, .int .i64 R.ver, .string R.data, .slice A6 nR c6]] (by simp only [List.map_cons, List.map_nil, *]; try rfl) (cQ.out _ hS) ?_
                  rintro e w1 ⟨rfl, f4⟩
                  exact ⟨_, rfl, _, rfl, rfl, f4, hS.trans' f4⟩
                refine StepsOk.cons (stepOk_pureG 8 96 false rfl rfl (by kernel_rfl) (fun _ _ h => h) [(11, 99)] [] (by kernel_rfl) (by kernel_rfl) rfl Old.refl' (fun _ _ _ h => h) (fun d E w' hk hda hS hc hf => by rintro _ q11 rfl e99 ; exact ⟨_, by go_simp, rfl⟩)) ?_
                refine StepsOk.cons (stepOk_pure [(8, 96), (12, 100)] [] rfl rfl (by kernel_rfl) (by kernel_rfl) rfl Old.refl' (fun _ _ _ h => h) (fun d E w' hk hda hS hc hf => by rintro _ q8 rfl e96 _ q12 rfl e100 ; exact ⟨_, by go_simp, rfl⟩)) ?_
                refine StepsOk.cons (stepOk_pure [(13, 101)] [] rfl rfl (by kernel_rfl) (by kernel_rfl) rfl Old.refl' (fun _ _ _ h => h) (fun d E w' hk hda hS hc hf => by rintro _ q13 rfl e101 ; exact ⟨_, by go_simp, rfl⟩)) ?_
                refine StepsOk.cons (stepOk_pureG 14 102 false rfl rfl (by kernel_rfl) (fun _ _ h => h) [] [(5, .pointer (some ⟨g, 0, none⟩))] (by kernel_rfl) (by kernel_rfl) rfl Old.refl' (fun _ _ _ h => h) (fun d E w' hk hda hS hc hf => by rintro  e5; exact ⟨_, by go_simp, rfl⟩)) ?_
                refine StepsOk.cons (stepOk_pureG 14 102 false rfl rfl (by kernel_rfl) (fun _ _ h => h) [] [(1, .slice (some ⟨b, o_, none⟩) m cm)] (by kernel_rfl) (by kernel_rfl) rfl Old.refl' (fun _ _ _ h => h) (fun d E w' hk hda hS hc hf => by rintro  e1; exact ⟨_, by go_simp, rfl⟩)) ?_
                refine StepsOk.cons (stepOk_pureG 14 102 false rfl rfl (by kernel_rfl) (fun _ _ h => h) [] [(9, .int .i64 k)] (by kernel_rfl) (by kernel_rfl) rfl Old.refl' (fun _ _ _ h => h) (fun d E w' hk hda hS hc hf => by rintro  e9; exact ⟨_, by go_simp, rfl⟩)) ?_
                refine StepsOk.cons (stepOk_pureG 14 102 false rfl rfl (by kernel_rfl) (fun _ _ h => h) [(16, 104), (17, 105)] [] (by kernel_rfl) (by kernel_rfl) rfl Old.refl' (fun _ _ _ h => h) (fun d E w' hk hda hS hc hf => by rintro _ q16 rfl e104 _ q17 rfl e105 ; obtain ⟨⟨u0, u1, u2, u3⟩, ⟨v0, v1, v2, v3⟩, t3⟩ := hY.out _ hS; exact ⟨_, by go_simp, rfl⟩)) ?_
                refine StepsOk.cons (stepOk_pureG 14 102 false rfl rfl (by kernel_rfl) (fun _ _ h => h) [(18, 106)] [] (by kernel_rfl) (by kernel_rfl) rfl Old.refl' (fun _ _ _ h => h) (fun d E w' hk hda hS hc hf => by rintro _ q18 rfl e106 ; exact ⟨_, by go_simp, rfl⟩)) ?_
                refine StepsOk.cons (stepOk_pureG 14 102 false rfl rfl (by kernel_rfl) (fun _ _ h => h) [(19, 107)] [] (by kernel_rfl) (by kernel_rfl) rfl Old.refl' (fun _ _ _ h => h) (fun d E w' hk hda hS hc hf => by rintro _ q19 rfl e107 ; obtain ⟨⟨u0, u1, u2, u3⟩, ⟨v0, v1, v2, v3⟩, t3⟩ := hY.out _ hS; exact ⟨_, by go_simp, rfl⟩)) ?_
                refine StepsOk.cons (stepOk_guard 14 102 false rfl rfl (by kernel_rfl) (fun _ _ h => h) [(15, 103), (20, 108)] [] (by kernel_rfl) (by kernel_rfl) rfl ?_) ?_
                · rintro d a w' hk hda hS _ q15 rfl e103 _ q20 rfl e108 
                  first | refine Given.nil (Known.nil ?_) | refine Known.nil ?_
                  refine wp_call 37 _ Try.func37 (by kernel_rfl) (by kernel_rfl) _ _ (by rfl) [.pointer (some ⟨g, 0, none⟩), .int .i64 q.id] (by simp only [List.map_cons, List.map_nil, *]; try rfl) (cC.out _ hS) ?_
                  rintro e w1 ⟨rfl, rfl⟩
                  exact ⟨_, rfl, _, rfl, rfl, Old.refl' _, hS⟩
                refine StepsOk.cons (stepOk_pureG 14 102 false rfl rfl (by kernel_rfl) (fun _ _ h => h) [] [(7, .pointer (some ⟨x, 0, none⟩))] (by kernel_rfl) (by kernel_rfl) rfl Old.refl' (fun _ _ _ h => h) (fun d E w' hk hda hS hc hf => by rintro  e7; exact ⟨_, by go_simp, rfl⟩)) ?_
                refine StepsOk.cons (stepOk_pureG 14 102 false rfl rfl (by kernel_rfl) (fun _ _ h => h) [] [(1, .slice (some ⟨b, o_, none⟩) m cm)] (by kernel_rfl) (by kernel_rfl) rfl Old.refl' (fun _ _ _ h => h) (fun d E w' hk hda hS hc hf => by rintro  e1; exact ⟨_, by go_simp, rfl⟩)) ?_
                refine StepsOk.cons (stepOk_pureG 14 102 false rfl rfl (by kernel_rfl) (fun _ _ h => h) [] [(9, .int .i64 k)] (by kernel_rfl) (by kernel_rfl) rfl Old.refl' (fun _ _ _ h => h) (fun d E w' hk hda hS hc hf => by rintro  e9; exact ⟨_, by go_simp, rfl⟩)) ?_
                refine StepsOk.cons (stepOk_pureG 14 102 false rfl rfl (by kernel_rfl) (fun _ _ h => h) [(23, 111), (24, 112)] [] (by kernel_rfl) (by kernel_rfl) rfl Old.refl' (fun _ _ _ h => h) (fun d E w' hk hda hS hc hf => by rintro _ q23 rfl e111 _ q24 rfl e112 ; obtain ⟨⟨u0, u1, u2, u3⟩, ⟨v0, v1, v2, v3⟩, t3⟩ := hY.out _ hS; exact ⟨_, by go_simp, rfl⟩)) ?_
                refine StepsOk.cons (stepOk_pureG 14 102 false rfl rfl (by kernel_rfl) (fun _ _ h => h) [(25, 113)] [] (by kernel_rfl) (by kernel_rfl) rfl Old.refl' (fun _ _ _ h => h) (fun d E w' hk hda hS hc hf => by rintro _ q25 rfl e113 ; exact ⟨_, by go_simp, rfl⟩)) ?_
                refine StepsOk.cons (stepOk_pureG 14 102 false rfl rfl (by kernel_rfl) (fun _ _ h => h) [(26, 114)] [] (by kernel_rfl) (by kernel_rfl) rfl Old.refl' (fun _ _ _ h => h) (fun d E w' hk hda hS hc hf => by rintro _ q26 rfl e114 ; obtain ⟨⟨u0, u1, u2, u3⟩, ⟨v0, v1, v2, v3⟩, t3⟩ := hY.out _ hS; exact ⟨_, by go_simp, rfl⟩)) ?_
                refine StepsOk.cons (stepOk_guard 14 102 false rfl rfl (by kernel_rfl) (fun _ _ h => h) [(22, 110), (27, 115)] [] (by kernel_rfl) (by kernel_rfl) rfl ?_) ?_
                · rintro d a w' hk hda hS _ q22 rfl e110 _ q27 rfl e115 
                  first | refine Given.nil (Known.nil ?_) | refine Known.nil ?_
                  refine wp_call 39 _ Try.func39 (by kernel_rfl) (by kernel_rfl) _ _ (by rfl) [.pointer (some ⟨x, 0, none⟩), .int .i64 q.id] (by simp only [List.map_cons, List.map_nil, *]; try rfl) (cXC.out _ hS) ?_
                  rintro e w1 ⟨rfl, f4⟩
                  exact ⟨_, rfl, _, rfl, rfl, f4, hS.trans' f4⟩
                refine StepsOk.cons (stepOk_pureG 14 102 false rfl rfl (by kernel_rfl) (fun _ _ h => h) [(21, 109), (28, 116)] [] (by kernel_rfl) (by kernel_rfl) rfl Old.refl' (fun _ _ _ h => h) (fun d E w' hk hda hS hc hf => by rintro _ q21 rfl e109 _ q28 rfl e116 ; exact ⟨_, by go_simp, rfl⟩)) ?_
                refine StepsOk.cons (stepOk_pure [(14, 102), (29, 117)] [] rfl rfl (by kernel_rfl) (by kernel_rfl) rfl Old.refl' (fun _ _ _ h => h) (fun d E w' hk hda hS hc hf => by rintro _ q14 rfl e102 _ q29 rfl e117 ; exact ⟨_, by go_simp, rfl⟩)) ?_
                exact StepsOk.nil
              case ends =>
                intro σ9 w9 hS9 hA9
                refine Ends.eqv (some 88) (.int .i64 E) rfl (fun _ h => h) ?_
                refine Ends.eqv (some 89) (.int .i64 E) rfl (fun _ h => h) ?_
                refine Ends.eqv (some 90) (.bool false) rfl (fun _ h => h) ?_
                refine Ends.eqv (some 91) (.bool false) rfl (fun _ h => h) ?_
                refine Ends.eqv (some 92) (.int .i64 AT) rfl (fun _ h => h) ?_
                refine Ends.eqv (some 93) (.int .i64 AT) rfl (fun _ h => h) ?_
                refine Ends.eqv (some 94) (.bool false) rfl (fun _ h => h) ?_
                refine Ends.eqv (some 95) (.bool false) rfl (fun _ h => h) ?_
                refine Ends.eqv (some 96) (.bool false) rfl (fun _ h => h) ?_
                refine Ends.eqv (some 97) (.agg #[.int .i64 R.code, .int .i64 R.ver, .string R.data, .slice A4 nR c4]) rfl (fun _ h => h) ?_
                refine Ends.eqv (some 98) (.agg #[.int .i64 R.code, .int .i64 R.ver, .string R.data, .slice A6 nR c6]) rfl (fun _ h => h) ?_
                refine Ends.eqv (some 99) (.bool true) rfl (fun _ h => h) ?_
                refine Ends.eqv (some 100) (.bool false) rfl (fun _ h => h) ?_
                refine Ends.eqv (some 101) (.bool false) rfl (fun _ h => h) ?_
                refine Ends.eqv (some 102) (.bool false) rfl (fun _ h => h) ?_
                refine Ends.eqv (some 103) (.pointer (some ⟨g, 0, none⟩)) rfl (fun _ h => h) ?_
                refine Ends.eqv (some 104) (.slice (some ⟨b, o_, none⟩) m cm) rfl (fun _ h => h) ?_
                refine Ends.eqv (some 105) (.int .i64 k) rfl (fun _ h => h) ?_
                refine Ends.eqv (some 106) (.pointer (some ⟨b, o_ + k * 6, none⟩)) rfl (fun _ h => h) ?_
                refine Ends.eqv (some 107) (.pointer (some ⟨b, o_ + k * 6 + 3, none⟩)) rfl (fun _ h => h) ?_
                refine Ends.eqv (some 108) (.int .i64 q.id) rfl (fun _ h => h) ?_
                refine Ends.eqv (some 109) (.bool cl) rfl (fun _ h => h) ?_
                refine Ends.eqv (some 110) (.pointer (some ⟨x, 0, none⟩)) rfl (fun _ h => h) ?_
                refine Ends.eqv (some 111) (.slice (some ⟨b, o_, none⟩) m cm) rfl (fun _ h => h) ?_
                refine Ends.eqv (some 112) (.int .i64 k) rfl (fun _ h => h) ?_
                refine Ends.eqv (some 113) (.pointer (some ⟨b, o_ + k * 6, none⟩)) rfl (fun _ h => h) ?_
                refine Ends.eqv (some 114) (.pointer (some ⟨b, o_ + k * 6 + 3, none⟩)) rfl (fun _ h => h) ?_
                refine Ends.eqv (some 115) (.int .i64 q.id) rfl (fun _ h => h) ?_
                refine Ends.eqv (some 116) (.bool cl) rfl (fun _ h => h) ?_
                refine Ends.eqv (some 117) (.bool false) rfl (fun _ h => h) ?_
                refine Ends.eqv (some 118) (.bool false) rfl (fun _ h => h) ?_
                refine Ends.nil ?_
                clear hA9
                simp only [put_lit, put_none, List.set_cons_zero, List.set_cons_succ]
                have o9 := hS9
                clear hS9
                go_wp2_with fail
                go_roundw
                case rel => exact ⟨k + 1, by omega, by go_num, HP7.out.old o9⟩
                case measure => simp [intOf]; omega
            · go_wp2_with (go_at_call 34; refine (told19_any _).mono ?_; rintro e w9 ⟨rfl, b9⟩)
              go_ret
              exact ⟨rfl, pr.o.trans' b9⟩
          · obtain rfl : k = m := by omega
            obtain ⟨dl, hdl⟩ : ∃ L, dirtyL l9 = L := ⟨_, rfl⟩
            obtain ⟨dn, hdn⟩ : ∃ n, dl.length = n := ⟨_, rfl⟩
            have hdn2 : dn ≤ 1000 := by rw [← hdn, ← hdl]; have := dirtyN_length l9 32; unfold dirtyL; omega
            have cD0 := hide (fun (W : World) (h : LX w W g x l9 l9 []) => h.ln.elim fun F hF => (Dirty_ln g F l9 dl hdl dn hdn W hF).mono (fun e w' (he : ∃ A' c', e = .returned (.slice A' dn c') ∧ IntsAt w' A' dl ∧ (∃ base, W.heap.size ≤ base ∧ w'.ownsRow base 3 1 (.slice A' dn c') dn (dl.map (Value.int .i64))) ∧ Old W w') => (he.elim fun A' ⟨c', h1, h2, _, h4⟩ => ⟨A', c', h1, h2, h4⟩ : ∃ A' c', e = .returned (.slice A' dn c') ∧ IntsAt w' A' dl ∧ Old W w')))
            have cXD0 := hide (fun (W : World) (h : LX w W g x l9 l9 []) => h.xl.elim fun F hF => by have := XDirty_any x F l9 (by omega) dn (by rw [hdl, hdn]) W hF; rw [hdl] at this; exact this)
            have cI := hide (fun (A B : Option Addr) (ca cb : Nat) (W : World) (ha : IntsAt W A dl) (hb : IntsAt W B dl) => Ints_eqL A B dn dl ca cb W ha hb hdn.symm hdn2)
            have cN := hide (fun (W : World) => DRead_arg none ⟨0, 1, 4, 0, 0, ByteArray.empty⟩ (.inl rfl) W)
            simp only [] at cN
            have HP := hide pr
            clear hdl hdn hdn2 pr
            go_wp2_with fail
            refine (cN.out _).mono ?_
            rintro e w6 ⟨rfl, b6⟩
            have p7 := (HP.out.old b6).old ((Old.refl' w6).alloc' (.cells #[.int .i64 0, .int .i64 0, .string ByteArray.empty, .slice none 0 0] 32))
            clear b6
            go_wp2_with (first
              | (go_at_call 34; refine (told19_any _).mono ?_; rintro e w7 ⟨rfl, b7⟩; have p8 := p7.old b7)
              | (go_at_call 36; (with_reducible refine (cD0.out _ p8).mono ?_); rintro e w8 ⟨As, cs, rfl, is, b8⟩; have p9 := p8.old b8)
              | (go_at_call 41; refine (cXD0.out _ p9).mono ?_; rintro e w9 ⟨Ax, cx, rfl, ix, b9⟩; have p10 := p9.old b9; have is2 := CellsAt.old is b9)
              | (go_at_call 40; refine (cI.out As Ax cs cx _ is2 ix).mono ?_; rintro e w10 ⟨rfl, b10⟩)
              | (go_at_call 36; (with_reducible refine (Dirty_nil _).mono ?_); rintro e w11 ⟨Az, cz, rfl, b11⟩))
            go_ret
            exact ⟨rfl, (p10.old (b10.trans' b11)).o⟩
  · have hc : f1 = false ∨ (f1 = true ∧ 20 < m) := by cases f1 <;> simp_all <;> omega
    rcases hc with rfl | ⟨rfl, hc⟩
    all_goals
      go_enter Try.func11, Try.ntmps11
      go_wp2_with fail
      refine cNw.out.mono ?_
      rintro e w1 ⟨g, F, rfl, a1, a2, a3⟩
      go_wp2_with (first
        | (go_at_call 32; (with_reducible refine (cF1.out _ a3).mono ?_); rintro e w3 ⟨rfl, rfl⟩)
        | (go_at_call 34; refine (told19_any _).mono ?_; rintro e w4 ⟨rfl, b4⟩))
      go_ret
      exact ⟨rfl, a3.trans' b4⟩
end Go.Proofs.Ytmhnlpilbbfgnaa
