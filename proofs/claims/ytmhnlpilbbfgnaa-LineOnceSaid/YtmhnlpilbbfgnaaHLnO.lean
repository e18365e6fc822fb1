/- casebooklaw18.LineOnce: the walk. -/
import Derived.Test.YtmhnlpilbbfgnaaHLnU
namespace Go.Proofs.Ytmhnlpilbbfgnaa
open Go.RowKit

set_option maxRecDepth 100000 in
set_option maxHeartbeats 4000000 in
theorem LOnce_walk (A0 : Option Addr) (n k0 : Nat) (qs : List ReqV) (hl : n = qs.length) (hn : n ≤ 9223372036854775807) (w : World) (hQ : ReqsAt w A0 qs) :
    Calls Try.prog 4 #[.slice A0 n k0] w fun e w' => e = .returned (.bool true) ∧ Old w w' := by
  have HL := hide hl
  clear hl
  have cN := hide (LOne.new (D := []) 6 (by omega) (Old.refl' w) (fun d hd => by simp at hd))
  by_cases hgo : n ≤ 60
  · have hn60' : (n : Int) ≤ 60 := by omega
    go_enter Try.func4, Try.ntmps4
    go_wp2_with fail
    refine cN.out.mono ?_
    rintro e w1 ⟨g, rfl, hp, -⟩
    have hp : LOne w w1 g (runL 6 (qs.take 0)) [] := hp
    go_wp2_with fail
    go_loopw [5] (fun iv wr => ∃ k : Nat, k ≤ n ∧ iv = .int .i64 k ∧ LOne w wr g (runL 6 (qs.take k)) []) (fun iv _ => n - (intOf iv).toNat)
    case atStart => exact ⟨0, Nat.zero_le _, rfl, hp⟩
    case round =>
      clear hp
      obtain ⟨k, hk, rfl, pr⟩ := hrel
      by_cases hlt : k < n
      · have hkq : k < qs.length := by have := HL.out; omega
        obtain ⟨b, o, rfl, hb, hc⟩ := hQ.at5 (k := k) hkq
        obtain ⟨x, hx⟩ : ∃ x, qs[k]?.getD default = x := ⟨_, rfl⟩
        rw [hx] at hc
        have hxx : qs[k] = x := by rw [List.getElem?_eq_getElem hkq] at hx; simpa using hx
        have htk : runL 6 (qs.take (k + 1)) = (runL 6 (qs.take k)).put x := by rw [List.take_succ_eq_append_getElem hkq, hxx, runL_snoc]
        have HTK := hide htk
        obtain ⟨-, -, -, hsn⟩ := runL_ok 6 (qs.take k)
        rw [List.length_take] at hsn
        obtain ⟨l0, hl0⟩ : ∃ s, runL 6 (qs.take k) = s := ⟨_, rfl⟩
        rw [hl0] at pr hsn htk
        have hW := pr.o
        have x0 : wr.cell? ⟨b, o + k * 6, none⟩ = some (.int .i64 x.client) := (hW.cell (p := ⟨b, o + k * 6, none⟩) hb).trans (hc 0 _ (by omega) rfl)
        have x1 := (hW.cell (p := ⟨b, o + k * 6 + 1, none⟩) hb).trans (hc 1 _ (by omega) rfl)
        have x2 := (hW.cell (p := ⟨b, o + k * 6 + 2, none⟩) hb).trans (hc 2 _ (by omega) rfl)
        have x3 := (hW.cell (p := ⟨b, o + k * 6 + 3, none⟩) hb).trans (hc 3 _ (by omega) rfl)
        have x4 := (hW.cell (p := ⟨b, o + k * 6 + 4, none⟩) hb).trans (hc 4 _ (by omega) rfl)
        have x5 := (hW.cell (p := ⟨b, o + k * 6 + 5, none⟩) hb).trans (hc 5 _ (by omega) rfl)
        clear hc hW hx hxx
        by_cases hs : x.data.size ≤ 100
        · obtain ⟨N0, hN0⟩ : ∃ N, l0.qs.length = N := ⟨_, rfl⟩
          obtain ⟨l1, hl1⟩ : ∃ l, l0.put x = l := ⟨_, rfl⟩
          have HS1 := hide (show (runL 6 (qs.take k)).put x = l1 by rw [hl0, hl1])
          have hN0b : (N0 : Int) ≤ 60 := by omega
          clear htk hl0
          by_cases hm : l0.may x = true
          · obtain ⟨p1, p2, p3⟩ := put_yes hm
            have hN1 : l1.qs.length = N0 + 1 := by rw [← hl1, p1]; simp [hN0]
            have hAT : (l0.at_ x : Int) = ((N0 : Int) + 1) := by rw [p3, hN0]; simp
            have hE : l0.err x = 0 := p2
            clear p1 p2 p3
            have cP := hide (fun (W : World) (hW : Old wr W) => (pr.old hW).put N0 hN0 (by omega) x ((N0 : Int) + 1) 0 l1 hAT hE hl1)
            have cL0 := hide (fun (W : World) (hW : Old wr W) => (pr.old hW).at_.elim fun F hF => Len_ln g F l0 N0 hN0 W hF)
            have cL1 := hide (fun (W : World) (h : LOne w W g l1 []) => h.at_.elim fun F hF => Len_ln g F l1 (N0 + 1) hN1 W hF)
            clear hAT hE hl1 hN0 hN1 hm
            go_wp2_with fail
            refine (cL0.out _ (Old.refl' wr)).mono ?_
            rintro e w3 ⟨rfl, rfl⟩
            go_wp2_with fail
            refine (cP.out _ (Old.refl' wr)).mono ?_
            rintro e w4 ⟨rfl, pr4⟩
            have hfin := hide pr4
            clear x0 x1 x2 x3 x4 x5 pr4 pr
            go_wp2_with (go_at_call 18; refine (cL1.out _ hfin.out).mono ?_; rintro e w5 ⟨rfl, rfl⟩)
            go_roundw
            case rel => exact ⟨k + 1, by omega, by go_num, by rw [HTK.out, HS1.out]; exact hfin.out⟩
            case measure => simp [intOf]; omega
          · obtain ⟨p1, p2, p3⟩ := put_not (by simpa using hm)
            have hN1 : l1.qs.length = N0 := by rw [← hl1, p1, hN0]
            have hAT : (l0.at_ x : Int) = 0 := by rw [p3]; rfl
            have hne : ((N0 : Int) == (N0 : Int) + 1) = false := by simp; omega
            clear p1 p3
            rcases p2 with hE | hE
            · skip
              have cP := hide (fun (W : World) (hW : Old wr W) => (pr.old hW).put N0 hN0 (by omega) x 0 1 l1 hAT hE hl1)
              have cL0 := hide (fun (W : World) (hW : Old wr W) => (pr.old hW).at_.elim fun F hF => Len_ln g F l0 N0 hN0 W hF)
              have cL1 := hide (fun (W : World) (h : LOne w W g l1 []) => h.at_.elim fun F hF => Len_ln g F l1 N0 hN1 W hF)
              clear hAT hE hl1 hN0 hN1 hm
              go_wp2_with fail
              refine (cL0.out _ (Old.refl' wr)).mono ?_
              rintro e w3 ⟨rfl, rfl⟩
              go_wp2_with fail
              refine (cP.out _ (Old.refl' wr)).mono ?_
              rintro e w4 ⟨rfl, pr4⟩
              have hfin := hide pr4
              clear x0 x1 x2 x3 x4 x5 pr4 pr
              go_wp2_with (go_at_call 18; refine (cL1.out _ hfin.out).mono ?_; rintro e w5 ⟨rfl, rfl⟩)
              go_roundw
              case rel => exact ⟨k + 1, by omega, by go_num, by rw [HTK.out, HS1.out]; exact hfin.out⟩
              case measure => simp [intOf]; omega
            · skip
              have cP := hide (fun (W : World) (hW : Old wr W) => (pr.old hW).put N0 hN0 (by omega) x 0 9 l1 hAT hE hl1)
              have cL0 := hide (fun (W : World) (hW : Old wr W) => (pr.old hW).at_.elim fun F hF => Len_ln g F l0 N0 hN0 W hF)
              have cL1 := hide (fun (W : World) (h : LOne w W g l1 []) => h.at_.elim fun F hF => Len_ln g F l1 N0 hN1 W hF)
              clear hAT hE hl1 hN0 hN1 hm
              go_wp2_with fail
              refine (cL0.out _ (Old.refl' wr)).mono ?_
              rintro e w3 ⟨rfl, rfl⟩
              go_wp2_with fail
              refine (cP.out _ (Old.refl' wr)).mono ?_
              rintro e w4 ⟨rfl, pr4⟩
              have hfin := hide pr4
              clear x0 x1 x2 x3 x4 x5 pr4 pr
              go_wp2_with (go_at_call 18; refine (cL1.out _ hfin.out).mono ?_; rintro e w5 ⟨rfl, rfl⟩)
              go_roundw
              case rel => exact ⟨k + 1, by omega, by go_num, by rw [HTK.out, HS1.out]; exact hfin.out⟩
              case measure => simp [intOf]; omega
        · clear htk hl0
          go_wp2_with (go_at_call 12; refine (told18_any _).mono ?_; rintro e w9 ⟨rfl, b9⟩)
          go_ret
          exact ⟨rfl, (pr.old b9).o⟩
      · obtain rfl : k = n := by omega
        obtain ⟨hok, -, -, hsn⟩ := runL_ok 6 (qs.take k)
        rw [List.length_take] at hsn
        obtain ⟨l9, hl9⟩ : ∃ s, runL 6 (qs.take k) = s := ⟨_, rfl⟩
        rw [hl9] at pr hok hsn
        clear hl9
        obtain ⟨L, hL⟩ : ∃ L, l9.qs = L := ⟨_, rfl⟩
        rw [hL] at hok hsn
        obtain ⟨N, hN⟩ : ∃ N, L.length = N := ⟨_, rfl⟩
        have hLN : l9.qs.length = N := by rw [hL, hN]
        have hN60 : (N : Int) ≤ 60 := by omega
        have hsin : sinceL l9.qs 0 100 = L := by rw [sinceL_all l9.qs 100 (by omega), hL]
        obtain ⟨F, hF⟩ := pr.at_
        have cS := hide (by have := Since_at g F l9 0 100 N (by rw [hsin, hN]) (by omega) wr hF; rw [hsin] at this; exact this)
        have cLn := hide (fun (W : World) (hW : Old wr W) => Len_ln g F l9 N hLN W (hF.old hW))
        have cFi := hide (fun (W : World) (hW : Old wr W) (c s : Int) => by have := Find_ln g F l9 N c s hLN (by omega) W (hF.old hW); rw [hL] at this; exact this)
        have cSq := hide (fun (W : World) (hW : Old wr W) (c : Nat) (hc : c < 4) => by have := Seq_ln g c hc F l9 W (hF.old hW); rw [hL] at this; exact this)
        have HO := hide pr.o
        have HN := hide hN
        have HOK := hide hok
        clear hF pr hsin hLN hok hL hN
        obtain ⟨W9, rfl⟩ : ∃ W, W = wr := ⟨_, rfl⟩
        go_wp2_with fail
        refine cS.out.mono ?_
        rintro e w2 ⟨A2, c2, rfl, hR2, b2⟩
        go_wp2_with (go_at_call 18; refine (cLn.out _ b2).mono ?_; rintro e w3 ⟨rfl, rfl⟩)
        have hsn' : N ≤ 60 := by omega
        have hb0 := Bk.new w2 44 #[.int .i64 0, .int .i64 0, .int .i64 0, .int .i64 0]
        have hob := (Old.refl' w2).alloc' (.cells #[.int .i64 0, .int .i64 0, .int .i64 0, .int .i64 0] 44)
        obtain ⟨bs, hbs⟩ : ∃ b, w2.heap.size = b := ⟨_, rfl⟩
        have hbs9 : W9.heap.size ≤ bs := by rw [← hbs]; exact b2.size
        rw [hbs] at hb0
        simp only [hbs]
        have HBS := hide hbs
        clear hbs
        go_loopw [11] (fun iv wr => ∃ j : Nat, j ≤ N ∧ iv = .int .i64 j ∧ Old w2 wr ∧ ∃ cs, Bk wr bs 44 cs ∧ ∀ c : Nat, c < 4 → cs[c]? = some (.int .i64 (lastSeq (L.take j) c))) (fun iv _ => N - (intOf iv).toNat)
        case atStart => exact ⟨0, Nat.zero_le _, rfl, hob, _, hb0, fun c hc => by
          rcases (by omega : c = 0 ∨ c = 1 ∨ c = 2 ∨ c = 3) with rfl | rfl | rfl | rfl <;> rfl⟩
        case round =>
          clear hb0 hob
          obtain ⟨j, hj, rfl, hB, cs, hbk, hcs⟩ := hrel
          by_cases hlt : j < N
          · have hjL : j < L.length := by have := HN.out; omega
            obtain ⟨b, o, rfl, hb, hc⟩ := hR2.at5 (k := j) hjL
            obtain ⟨x, hx⟩ : ∃ x, L[j]?.getD default = x := ⟨_, rfl⟩
            rw [hx] at hc
            have hxx : L[j] = x := by rw [List.getElem?_eq_getElem hjL] at hx; simpa using hx
            have hxj : L[j]? = some x := by rw [List.getElem?_eq_getElem hjL, hxx]
            obtain ⟨m1, m2, m3⟩ := HOK.out j x hxj
            have hfi := HOK.out.find hxj
            have hsnoc := fun c => lastSeq_snoc (L.take j) x c
            have htk : L.take (j + 1) = L.take j ++ [x] := by rw [List.take_succ_eq_append_getElem hjL, hxx]
            obtain ⟨⟨h1, h2⟩, -, -, -⟩ := mayQ_b (c := x.client) (s := x.seq) (k := x.kind) (i := x.id) (m := x.mat) (d := x.data) m1
            obtain ⟨c, hcx⟩ : ∃ c : Nat, x.client = c := ⟨x.client.toNat, by omega⟩
            have hc4 : c < 4 := by omega
            have hc4' : (c : Int) < 4 := by omega
            rw [hcx] at m3 hfi
            obtain ⟨sq, hsq⟩ : ∃ s, lastSeq (L.take j) c = s := ⟨_, rfl⟩
            rw [hsq] at m3
            have hsc := hcs c hc4
            rw [hsq] at hsc
            have hle : ¬ x.seq ≤ sq := by omega
            have cM := hide (fun (W : World) => (RMay_any c x.seq x.kind x.id x.mat x.data W).mono (fun e w' (h : _ ∧ _) => (⟨by rw [← hcx] at h; rw [show mayQ x.client x.seq x.kind x.id x.mat x.data = true from m1] at h; exact h.1, h.2⟩ : e = .returned (.bool true) ∧ Old W w')))
            have cW := hide (fun (W : World) => (Writes_any c x.seq x.kind x.id x.mat x.data W).mono (fun e w' (h : _ ∧ _) => (⟨by rw [m2] at h; exact h.1, h.2⟩ : e = .returned (.bool true) ∧ Old W w')))
            have HFI := hide hfi
            have HTK := hide htk
            have HSN := hide hsnoc
            have HCX := hide hcx
            have hW := hB
            have x0 : wr.cell? ⟨b, o + j * 6, none⟩ = some (.int .i64 c) := (hW.cell (p := ⟨b, o + j * 6, none⟩) hb).trans (by have := hc 0 _ (by omega) rfl; rw [hcx] at this; exact this)
            have x1 := (hW.cell (p := ⟨b, o + j * 6 + 1, none⟩) hb).trans (hc 1 _ (by omega) rfl)
            have x2 := (hW.cell (p := ⟨b, o + j * 6 + 2, none⟩) hb).trans (hc 2 _ (by omega) rfl)
            have x3 := (hW.cell (p := ⟨b, o + j * 6 + 3, none⟩) hb).trans (hc 3 _ (by omega) rfl)
            have x4 := (hW.cell (p := ⟨b, o + j * 6 + 4, none⟩) hb).trans (hc 4 _ (by omega) rfl)
            have x5 := (hW.cell (p := ⟨b, o + j * 6 + 5, none⟩) hb).trans (hc 5 _ (by omega) rfl)
            have hX := hide (fun (W : World) (h : Old (wr.alloc (.cells #[.int .i64 c, .int .i64 x.seq, .int .i64 x.kind, .int .i64 x.id, .int .i64 x.mat, .string x.data] 23)) W) => bk6 ((Bk.new wr 23 #[.int .i64 c, .int .i64 x.seq, .int .i64 x.kind, .int .i64 x.id, .int .i64 x.mat, .string x.data]).old h))
            have hKB := hide (fun (W : World) (h : Old (wr.alloc (.cells #[.int .i64 c, .int .i64 x.seq, .int .i64 x.kind, .int .i64 x.id, .int .i64 x.mat, .string x.data] 23)) W) => (hbk.alloc (.cells #[.int .i64 c, .int .i64 x.seq, .int .i64 x.kind, .int .i64 x.id, .int .i64 x.mat, .string x.data] 23)).old h)
            have hSQ := hide (fun (W : World) (h : Old (wr.alloc (.cells #[.int .i64 c, .int .i64 x.seq, .int .i64 x.kind, .int .i64 x.id, .int .i64 x.mat, .string x.data] 23)) W) => (((hbk.alloc (.cells #[.int .i64 c, .int .i64 x.seq, .int .i64 x.kind, .int .i64 x.id, .int .i64 x.mat, .string x.data] 23)).old h).cell c).trans hsc)
            have hO2 := hide (fun (W : World) (h : Old (wr.alloc (.cells #[.int .i64 c, .int .i64 x.seq, .int .i64 x.kind, .int .i64 x.id, .int .i64 x.mat, .string x.data] 23)) W) => (hB.alloc' (.cells #[.int .i64 c, .int .i64 x.seq, .int .i64 x.kind, .int .i64 x.id, .int .i64 x.mat, .string x.data] 23)).trans' h)
            have hqb : wr.heap.size ≠ bs := by have := hbk.lt; omega
            obtain ⟨bq, hbq⟩ : ∃ b, wr.heap.size = b := ⟨_, rfl⟩
            obtain ⟨W1, hW1⟩ : ∃ W, wr.alloc (.cells #[.int .i64 c, .int .i64 x.seq, .int .i64 x.kind, .int .i64 x.id, .int .i64 x.mat, .string x.data] 23) = W := ⟨_, rfl⟩
            rw [hbq, hW1] at hX
            rw [hW1] at hKB hSQ hO2
            rw [hbq] at hqb
            have hqb' : ¬ bs = bq := fun e => hqb e.symm
            clear hc hx hxx hxj m1 m2 m3 h1 h2 hfi htk hsnoc hcx hsc hsq hW hbk hB
            go_wp2_with fail
            try simp only [hbq, hW1]
            clear x0 x1 x2 x3 x4 x5
            refine region_steps (R := pick [eqv (.agg #[.int .i64 c, .int .i64 x.seq, .int .i64 x.kind, .int .i64 x.id, .int .i64 x.mat, .string x.data]), eqv (.bool true), eqv (.bool false), eqv (.bool false), eqv (.agg #[.int .i64 c, .int .i64 x.seq, .int .i64 x.kind, .int .i64 x.id, .int .i64 x.mat, .string x.data]), eqv (.bool true), eqv (.bool false), eqv (.bool false), eqv (.bool false), eqv (.pointer (some ⟨bq, 1, none⟩)), eqv (.int .i64 x.seq), eqv (.pointer (some ⟨bq, 0, none⟩)), eqv (.int .i64 c), eqv (.pointer (some ⟨bs, c, none⟩)), eqv (.int .i64 sq), eqv (.bool false), eqv (.bool false)]) (S := fun _ w' => Old W1 w') (T := Old) (by kernel_rfl) (by kernel_rfl) (by kernel_rfl) (Stab.pick (Stab.eqv (Stab.eqv (Stab.eqv (Stab.eqv (Stab.eqv (Stab.eqv (Stab.eqv (Stab.eqv (Stab.eqv (Stab.eqv (Stab.eqv (Stab.eqv (Stab.eqv (Stab.eqv (Stab.eqv (Stab.eqv (Stab.eqv (Stab.nil))))))))))))))))))) ((Old.refl' W1).drew') ?steps ?ends
            case steps =>
              refine StepsOk.cons (stepOk_pure [] [(12, .pointer (some ⟨bq, 0, none⟩))] rfl rfl (by kernel_rfl) (by kernel_rfl) rfl Old.refl' (fun _ _ _ h => h) (fun d E w' hk hda hS hc hf => by rintro  e12; obtain ⟨⟨s0, s1, s2, s3, s4, s5⟩, l9⟩ := hX.out _ hS; have t0 := hSQ.out _ hS; exact ⟨_, by go_simp, rfl⟩)) ?_
              refine StepsOk.cons (stepOk_mk [(0, 98)] [] rfl rfl (by kernel_rfl) (by kernel_rfl) rfl ?_) ?_
              · rintro d a w' hk hda hS _ q0 rfl e98 
                first | refine Given.nil (Known.nil ?_) | refine Known.nil ?_
                refine wp_call 25 _ Try.func25 (by kernel_rfl) (by kernel_rfl) _ _ (by rfl) [.agg #[.int .i64 c, .int .i64 x.seq, .int .i64 x.kind, .int .i64 x.id, .int .i64 x.mat, .string x.data]] (by simp only [List.map_cons, List.map_nil, *]; try rfl) (cM.out _) ?_
                rintro e w1 ⟨rfl, hb⟩
                exact ⟨_, rfl, _, rfl, rfl, hb, hS.trans' hb⟩
              refine StepsOk.cons (stepOk_pure [(1, 99)] [] rfl rfl (by kernel_rfl) (by kernel_rfl) rfl Old.refl' (fun _ _ _ h => h) (fun d E w' hk hda hS hc hf => by rintro _ q1 rfl e99 ; exact ⟨_, by go_simp, rfl⟩)) ?_
              refine StepsOk.cons (stepOk_pure [(2, 100)] [] rfl rfl (by kernel_rfl) (by kernel_rfl) rfl Old.refl' (fun _ _ _ h => h) (fun d E w' hk hda hS hc hf => by rintro _ q2 rfl e100 ; exact ⟨_, by go_simp, rfl⟩)) ?_
              refine StepsOk.cons (stepOk_pureG 3 101 false rfl rfl (by kernel_rfl) (fun _ _ h => h) [] [(12, .pointer (some ⟨bq, 0, none⟩))] (by kernel_rfl) (by kernel_rfl) rfl Old.refl' (fun _ _ _ h => h) (fun d E w' hk hda hS hc hf => by rintro  e12; obtain ⟨⟨s0, s1, s2, s3, s4, s5⟩, l9⟩ := hX.out _ hS; have t0 := hSQ.out _ hS; exact ⟨_, by go_simp, rfl⟩)) ?_
              refine StepsOk.cons (stepOk_guard 3 101 false rfl rfl (by kernel_rfl) (fun _ _ h => h) [(4, 102)] [] (by kernel_rfl) (by kernel_rfl) rfl ?_) ?_
              · rintro d a w' hk hda hS _ q4 rfl e102 
                first | refine Given.nil (Known.nil ?_) | refine Known.nil ?_
                refine wp_call 26 _ Try.func26 (by kernel_rfl) (by kernel_rfl) _ _ (by rfl) [.agg #[.int .i64 c, .int .i64 x.seq, .int .i64 x.kind, .int .i64 x.id, .int .i64 x.mat, .string x.data]] (by simp only [List.map_cons, List.map_nil, *]; try rfl) (cW.out _) ?_
                rintro e w1 ⟨rfl, hb⟩
                exact ⟨_, rfl, _, rfl, rfl, hb, hS.trans' hb⟩
              refine StepsOk.cons (stepOk_pureG 3 101 false rfl rfl (by kernel_rfl) (fun _ _ h => h) [(5, 103)] [] (by kernel_rfl) (by kernel_rfl) rfl Old.refl' (fun _ _ _ h => h) (fun d E w' hk hda hS hc hf => by rintro _ q5 rfl e103 ; exact ⟨_, by go_simp, rfl⟩)) ?_
              refine StepsOk.cons (stepOk_pure [(3, 101), (6, 104)] [] rfl rfl (by kernel_rfl) (by kernel_rfl) rfl Old.refl' (fun _ _ _ h => h) (fun d E w' hk hda hS hc hf => by rintro _ q3 rfl e101 _ q6 rfl e104 ; exact ⟨_, by go_simp, rfl⟩)) ?_
              refine StepsOk.cons (stepOk_pure [(7, 105)] [] rfl rfl (by kernel_rfl) (by kernel_rfl) rfl Old.refl' (fun _ _ _ h => h) (fun d E w' hk hda hS hc hf => by rintro _ q7 rfl e105 ; exact ⟨_, by go_simp, rfl⟩)) ?_
              refine StepsOk.cons (stepOk_pureG 8 106 false rfl rfl (by kernel_rfl) (fun _ _ h => h) [] [(12, .pointer (some ⟨bq, 0, none⟩))] (by kernel_rfl) (by kernel_rfl) rfl Old.refl' (fun _ _ _ h => h) (fun d E w' hk hda hS hc hf => by rintro  e12; exact ⟨_, by go_simp, rfl⟩)) ?_
              refine StepsOk.cons (stepOk_pureG 8 106 false rfl rfl (by kernel_rfl) (fun _ _ h => h) [(9, 107)] [] (by kernel_rfl) (by kernel_rfl) rfl Old.refl' (fun _ _ _ h => h) (fun d E w' hk hda hS hc hf => by rintro _ q9 rfl e107 ; obtain ⟨⟨s0, s1, s2, s3, s4, s5⟩, l9⟩ := hX.out _ hS; have t0 := hSQ.out _ hS; exact ⟨_, by go_simp, rfl⟩)) ?_
              refine StepsOk.cons (stepOk_pureG 8 106 false rfl rfl (by kernel_rfl) (fun _ _ h => h) [] [(12, .pointer (some ⟨bq, 0, none⟩))] (by kernel_rfl) (by kernel_rfl) rfl Old.refl' (fun _ _ _ h => h) (fun d E w' hk hda hS hc hf => by rintro  e12; exact ⟨_, by go_simp, rfl⟩)) ?_
              refine StepsOk.cons (stepOk_pureG 8 106 false rfl rfl (by kernel_rfl) (fun _ _ h => h) [(11, 109)] [] (by kernel_rfl) (by kernel_rfl) rfl Old.refl' (fun _ _ _ h => h) (fun d E w' hk hda hS hc hf => by rintro _ q11 rfl e109 ; obtain ⟨⟨s0, s1, s2, s3, s4, s5⟩, l9⟩ := hX.out _ hS; have t0 := hSQ.out _ hS; exact ⟨_, by go_simp, rfl⟩)) ?_
              refine StepsOk.cons (stepOk_pureG 8 106 false rfl rfl (by kernel_rfl) (fun _ _ h => h) [(12, 110)] [(10, .pointer (some ⟨bs, 0, none⟩))] (by kernel_rfl) (by kernel_rfl) rfl Old.refl' (fun _ _ _ h => h) (fun d E w' hk hda hS hc hf => by rintro _ q12 rfl e110 e10; obtain ⟨⟨s0, s1, s2, s3, s4, s5⟩, l9⟩ := hX.out _ hS; have t0 := hSQ.out _ hS; exact ⟨_, by go_simp, rfl⟩)) ?_
              refine StepsOk.cons (stepOk_pureG 8 106 false rfl rfl (by kernel_rfl) (fun _ _ h => h) [(13, 111)] [] (by kernel_rfl) (by kernel_rfl) rfl Old.refl' (fun _ _ _ h => h) (fun d E w' hk hda hS hc hf => by rintro _ q13 rfl e111 ; obtain ⟨⟨s0, s1, s2, s3, s4, s5⟩, l9⟩ := hX.out _ hS; have t0 := hSQ.out _ hS; exact ⟨_, by go_simp, rfl⟩)) ?_
              refine StepsOk.cons (stepOk_pureG 8 106 false rfl rfl (by kernel_rfl) (fun _ _ h => h) [(10, 108), (14, 112)] [] (by kernel_rfl) (by kernel_rfl) rfl Old.refl' (fun _ _ _ h => h) (fun d E w' hk hda hS hc hf => by rintro _ q10 rfl e108 _ q14 rfl e112 ; exact ⟨_, by go_simp, rfl⟩)) ?_
              refine StepsOk.cons (stepOk_pure [(8, 106), (15, 113)] [] rfl rfl (by kernel_rfl) (by kernel_rfl) rfl Old.refl' (fun _ _ _ h => h) (fun d E w' hk hda hS hc hf => by rintro _ q8 rfl e106 _ q15 rfl e113 ; exact ⟨_, by go_simp, rfl⟩)) ?_
              exact StepsOk.nil
            case ends =>
              intro σ9 w9 hS9 hA9
              refine Ends.eqv (some 98) (.agg #[.int .i64 c, .int .i64 x.seq, .int .i64 x.kind, .int .i64 x.id, .int .i64 x.mat, .string x.data]) rfl (fun _ h => h) ?_
              refine Ends.eqv (some 99) (.bool true) rfl (fun _ h => h) ?_
              refine Ends.eqv (some 100) (.bool false) rfl (fun _ h => h) ?_
              refine Ends.eqv (some 101) (.bool false) rfl (fun _ h => h) ?_
              refine Ends.eqv (some 102) (.agg #[.int .i64 c, .int .i64 x.seq, .int .i64 x.kind, .int .i64 x.id, .int .i64 x.mat, .string x.data]) rfl (fun _ h => h) ?_
              refine Ends.eqv (some 103) (.bool true) rfl (fun _ h => h) ?_
              refine Ends.eqv (some 104) (.bool false) rfl (fun _ h => h) ?_
              refine Ends.eqv (some 105) (.bool false) rfl (fun _ h => h) ?_
              refine Ends.eqv (some 106) (.bool false) rfl (fun _ h => h) ?_
              refine Ends.eqv (some 107) (.pointer (some ⟨bq, 1, none⟩)) rfl (fun _ h => h) ?_
              refine Ends.eqv (some 108) (.int .i64 x.seq) rfl (fun _ h => h) ?_
              refine Ends.eqv (some 109) (.pointer (some ⟨bq, 0, none⟩)) rfl (fun _ h => h) ?_
              refine Ends.eqv (some 110) (.int .i64 c) rfl (fun _ h => h) ?_
              refine Ends.eqv (some 111) (.pointer (some ⟨bs, c, none⟩)) rfl (fun _ h => h) ?_
              refine Ends.eqv (some 112) (.int .i64 sq) rfl (fun _ h => h) ?_
              refine Ends.eqv (some 113) (.bool false) rfl (fun _ h => h) ?_
              refine Ends.eqv (some 114) (.bool false) rfl (fun _ h => h) ?_
              refine Ends.nil ?_
              clear hA9
              simp only [put_lit, put_none, List.set_cons_zero, List.set_cons_succ]
              have o9 := hS9
              clear hS9
              obtain ⟨⟨x0, x1, x2, x3, x4, x5⟩, l1⟩ := hX.out _ o9
              have hbk9 := hKB.out _ o9
              have t0 := hSQ.out _ o9
              have z0 := hbk9.frozen c
              have h29 := hO2.out _ o9
              have hset := hide (hbk9.set_ c (.int .i64 x.seq))
              have hoset := hide (Old.setCell' (p := ⟨bs, c, none⟩) h29 (by show w2.heap.size ≤ bs; rw [HBS.out]; exact Nat.le_refl _) (.int .i64 x.seq))
              have hoset9 := hide (b2.trans' hoset.out)
              have hcsz : ∃ v, cs[c]? = some v := ⟨_, hcs c hc4⟩
              have HCS := hide hcs
              clear hbk9 h29 o9 hX hKB hSQ hO2 cM cW hcs hcsz
              go_wp2_with fail
              refine (cFi.out _ hoset9.out c x.seq).mono ?_
              rintro e w6 ⟨rfl, b6⟩
              rw [HFI.out]
              have hfi2 := hide (⟨hoset.out.trans' b6, hset.out.old b6⟩ : Old w2 w6 ∧ Bk w6 bs 44 (cs.setIfInBounds c (.int .i64 x.seq)))
              clear x0 x1 x2 x3 x4 x5 l1 t0 z0 b6
              go_wp2_with fail
              go_roundw
              case rel =>
                refine ⟨j + 1, by omega, by go_num, hfi2.out.1, _, hfi2.out.2, fun d hd => ?_⟩
                rw [HTK.out, HSN.out, HCX.out]
                by_cases hdc : c = d
                · subst hdc
                  rw [if_pos rfl]
                  exact get_eq (HCS.out c hd) _
                · rw [if_neg (by omega), get_ne hdc]
                  exact HCS.out d hd
              case measure => simp [intOf]; omega
          · obtain rfl : j = N := by omega
            rw [List.take_of_length_le (by have := HN.out; omega)] at hcs
            have HB := hide (b2.trans' hB)
            have hSQ0 := hide (fun (k : Nat) (hk : k < 4) (W : World) (h : Old wr W) => ((hbk.old h).cell k).trans (hcs k hk))
            obtain ⟨W2, hW2⟩ : ∃ W : World, W = wr := ⟨_, rfl⟩
            rw [← hW2] at HB hSQ0
            simp only [← hW2]
            clear hW2 hB hbk hcs
            go_wp2_with fail
            go_loopw [15] (fun iv wr => ∃ k : Nat, k ≤ 4 ∧ iv = .int .i64 k ∧ Old W2 wr) (fun iv _ => 4 - (intOf iv).toNat)
            case atStart => exact ⟨0, Nat.zero_le _, rfl, Old.refl' _⟩
            case round =>
              obtain ⟨k, hk, rfl, hB⟩ := hrel
              by_cases hlt : k < 4
              · have hk4 : (k : Int) < 4 := by omega
                have hSQ := hide (fun (W : World) (h : Old W2 W) => hSQ0.out k hlt W h)
                have cS := hide (fun (W : World) (h : Old W2 W) => cSq.out W (HB.out.trans' h) k hlt)
                go_wp2_with fail
                refine region_steps (R := pick [eqv (.pointer (some ⟨g, 0, none⟩)), eqv (.int .i64 k), eqv (.int .i64 (lastSeq L k)), eqv (.int .i64 k), eqv (.pointer (some ⟨bs, k, none⟩)), eqv (.int .i64 (lastSeq L k)), eqv (.bool false)]) (S := fun _ w' => Old W2 w') (T := Old) (by kernel_rfl) (by kernel_rfl) (by kernel_rfl) (Stab.pick (Stab.eqv (Stab.eqv (Stab.eqv (Stab.eqv (Stab.eqv (Stab.eqv (Stab.eqv (Stab.nil))))))))) (hB.drew') ?steps ?ends
                case steps =>
                  refine StepsOk.cons (stepOk_pure [] [(3, .pointer (some ⟨g, 0, none⟩))] rfl rfl (by kernel_rfl) (by kernel_rfl) rfl Old.refl' (fun _ _ _ h => h) (fun d E w' hk hda hS hc hf => by rintro  e3; exact ⟨_, by go_simp, rfl⟩)) ?_
                  refine StepsOk.cons (stepOk_pure [] [(15, .int .i64 k)] rfl rfl (by kernel_rfl) (by kernel_rfl) rfl Old.refl' (fun _ _ _ h => h) (fun d E w' hk hda hS hc hf => by rintro  e15; exact ⟨_, by go_simp, rfl⟩)) ?_
                  refine StepsOk.cons (stepOk_mk [(0, 141), (1, 142)] [] rfl rfl (by kernel_rfl) (by kernel_rfl) rfl ?_) ?_
                  · rintro d a w' hk hda hS _ q0 rfl e141 _ q1 rfl e142 
                    first | refine Given.nil (Known.nil ?_) | refine Known.nil ?_
                    refine wp_call 21 _ Try.func21 (by kernel_rfl) (by kernel_rfl) _ _ (by rfl) [.pointer (some ⟨g, 0, none⟩), .int .i64 k] (by simp only [List.map_cons, List.map_nil, *]; try rfl) (cS.out _ hS) ?_
                    rintro e w1 ⟨rfl, rfl⟩
                    exact ⟨_, rfl, _, rfl, rfl, Old.refl' _, hS⟩
                  refine StepsOk.cons (stepOk_pure [] [(15, .int .i64 k)] rfl rfl (by kernel_rfl) (by kernel_rfl) rfl Old.refl' (fun _ _ _ h => h) (fun d E w' hk hda hS hc hf => by rintro  e15; exact ⟨_, by go_simp, rfl⟩)) ?_
                  refine StepsOk.cons (stepOk_pure [(3, 144)] [(10, .pointer (some ⟨bs, 0, none⟩))] rfl rfl (by kernel_rfl) (by kernel_rfl) rfl Old.refl' (fun _ _ _ h => h) (fun d E w' hk hda hS hc hf => by rintro _ q3 rfl e144 e10; obtain t0 := hSQ.out _ hS; exact ⟨_, by go_simp, rfl⟩)) ?_
                  refine StepsOk.cons (stepOk_pure [(4, 145)] [] rfl rfl (by kernel_rfl) (by kernel_rfl) rfl Old.refl' (fun _ _ _ h => h) (fun d E w' hk hda hS hc hf => by rintro _ q4 rfl e145 ; obtain t0 := hSQ.out _ hS; exact ⟨_, by go_simp, rfl⟩)) ?_
                  refine StepsOk.cons (stepOk_pure [(2, 143), (5, 146)] [] rfl rfl (by kernel_rfl) (by kernel_rfl) rfl Old.refl' (fun _ _ _ h => h) (fun d E w' hk hda hS hc hf => by rintro _ q2 rfl e143 _ q5 rfl e146 ; exact ⟨_, by go_simp, rfl⟩)) ?_
                  exact StepsOk.nil
                case ends =>
                  intro σ9 w9 hS9 hA9
                  refine Ends.eqv (some 141) (.pointer (some ⟨g, 0, none⟩)) rfl (fun _ h => h) ?_
                  refine Ends.eqv (some 142) (.int .i64 k) rfl (fun _ h => h) ?_
                  refine Ends.eqv (some 143) (.int .i64 (lastSeq L k)) rfl (fun _ h => h) ?_
                  refine Ends.eqv (some 144) (.int .i64 k) rfl (fun _ h => h) ?_
                  refine Ends.eqv (some 145) (.pointer (some ⟨bs, k, none⟩)) rfl (fun _ h => h) ?_
                  refine Ends.eqv (some 146) (.int .i64 (lastSeq L k)) rfl (fun _ h => h) ?_
                  refine Ends.eqv (some 147) (.bool false) rfl (fun _ h => h) ?_
                  refine Ends.nil ?_
                  clear hA9
                  simp only [put_lit, put_none, List.set_cons_zero, List.set_cons_succ]
                  have o9 := hS9
                  clear hS9
                  go_wp2_with fail
                  go_roundw
                  case rel => exact ⟨k + 1, by omega, by go_num, o9⟩
                  case measure => simp [intOf]; omega
              · obtain rfl : k = 4 := by omega
                go_wp2_with (go_at_call 12; refine (told18_any _).mono ?_; rintro e w7 ⟨rfl, b7⟩)
                go_ret
                exact ⟨rfl, (HO.out.trans' HB.out).trans' (hB.trans' b7)⟩
  · go_enter Try.func4, Try.ntmps4
    go_wp2_with fail
    refine cN.out.mono ?_
    rintro e w1 ⟨g, rfl, hp, -⟩
    have hO := hp.o
    go_wp2_with (go_at_call 12; refine (told18_any _).mono ?_; rintro e w4 ⟨rfl, b4⟩)
    go_ret
    exact ⟨rfl, hO.trans' b4⟩
end Go.Proofs.Ytmhnlpilbbfgnaa
