/- casebooklaw23.CheckTrue: the walk. -/
import Derived.Test.YtffahoocbjfdaaaHMkW
import Derived.Test.YtffahoocbjfdaaaHMk
import Derived.Test.YtffahoocbjfdaaaHCSt
namespace Go.Proofs.Ytffahoocbjfdaaa
open Go.RowKit
set_option maxRecDepth 100000 in
set_option maxHeartbeats 4000000 in
theorem True_walk (A0 : Option Addr) (n k0 : Nat) (ms : List MvV) (b : Int) (hl : n = ms.length) (hn : n ≤ 9223372036854775807) (w : World) (hM : MovesAt w A0 ms) :
    Calls Try.prog 5 #[.slice A0 n k0, .int .i64 b] w fun e w' => e = .returned (.bool true) ∧ Old w w' := by
  have HL := hide hl
  clear hl
  by_cases hgo : n ≤ 80
  · have hn80 : (n : Int) ≤ 80 := by omega
    obtain ⟨y, hy, hyl⟩ := umod23 b 5 (by omega) (by omega)
    obtain ⟨K, hK⟩ : ∃ K : Int, 1 + (y : Int) = K := ⟨_, rfl⟩
    have J := runM_J K ms (by have := HL.out; omega)
    have cM := hide (Made_any A0 n k0 ms HL.out (by omega) K w hM)
    go_enter Try.func5, Try.ntmps5
    go_wp2_with fail
    go_loopw [5] (fun iv wr => ∃ i : Nat, i ≤ n ∧ iv = .int .i64 i ∧ wr = w) (fun iv _ => n - (intOf iv).toNat)
    case atStart => exact ⟨0, Nat.zero_le _, rfl, rfl⟩
    case round =>
      obtain ⟨i, hin, rfl, hwr⟩ := hrel
      obtain rfl := hwr.symm
      by_cases hlt : i < n
      · have hkq : i < ms.length := by have := HL.out; omega
        obtain ⟨b0, o0, rfl, hb0, hc⟩ := hM.at_ hkq
        obtain ⟨x, hx⟩ : ∃ x, ms[i]?.getD default = x := ⟨_, rfl⟩
        rw [hx] at hc
        have m5 := hc 7 _ (by omega) rfl
        have m5' : w.cell? ⟨b0, o0 + i * 8 + 2 + 5, none⟩ = some (.string x.q.data) := by rw [Nat.add_assoc]; exact m5
        have hb01 : b0 < w.heap.size := hb0
        clear hc hx m5
        by_cases hd : (x.q.data.size : Int) ≤ 100
        · go_wp2_with fail
          go_roundw
          case rel => exact ⟨i + 1, by omega, by go_num, by trivial⟩
          case measure => simp [intOf]; omega
        · have hd' : (100 : Int) < x.q.data.size := by omega
          go_wp2_with fail
          refine (told23_any _).mono ?_
          rintro e w4 ⟨rfl, b4⟩
          go_wp2_with fail
          go_ret
          exact ⟨rfl, b4⟩
      · obtain rfl : n = i := by omega
        clear hlt hin
        go_upto_region 9 with fail
        simp only [hy]
        go_wp2_with fail
        refine cM.out.mono ?_
        rintro e w1 ⟨Aa, na, ca, Al, nl, cl, l, rfl, e1, e2, e3, e4, e5, e6, e7, o1⟩
        have hms : ms.length ≤ 80 := by have := HL.out; omega
        have hFew := J.few (by omega) e1
        have hC := fun rd => (checkP_eq e1 _ K rd).trans (J.check ⟨by omega, by omega⟩ rd)
        have hnl : nl ≤ 1000 := by have := J.ln; omega
        have cC := hide (fun (U : World) (h : Old w1 U) => Check_any Aa na ca l e2 hFew Al nl cl _ e5 hnl e6 K true 0 (hC true) U (e4.old h) (CellsAt.old e7 h))
        have cW := hide (fun (U : World) (h : Old w1 U) => CWrites_any Aa na ca l e2 hFew Al nl cl _ e5 hnl e6 K 0 (hC false) U (e4.old h) (CellsAt.old e7 h))
        have HO := hide o1
        clear e1 e2 e3 e4 e5 e6 e7 o1 hFew hC J hy
        go_wp2_with fail
        refine (told23_any _).mono ?_
        rintro e W7 ⟨rfl, b7⟩
        go_wp2_with fail
        with_reducible refine (cC.out W7 b7).mono ?_
        rintro e W8 ⟨rfl, b8⟩
        go_wp2_with fail
        with_reducible refine (cW.out W8 (b7.trans' b8)).mono ?_
        rintro e W9 ⟨rfl, b9⟩
        go_wp2_with fail
        go_ret
        exact ⟨by simp, HO.out.trans' ((b7.trans' b8).trans' b9)⟩
  · have hgt : (80 : Int) < n := by omega
    go_enter Try.func5, Try.ntmps5
    go_wp2_with fail
    refine (told23_any _).mono ?_
    rintro e w4 ⟨rfl, b4⟩
    go_wp2_with fail
    go_ret
    exact ⟨rfl, b4⟩
end Go.Proofs.Ytffahoocbjfdaaa

/- casebooklaw23.CheckFront: the walk. -/
namespace Go.Proofs.Ytffahoocbjfdaaa
open Go.RowKit
theorem ActsAt.takeA {w : World} {A : Option Addr} {l : List ActV} (h : ActsAt w A l) (k : Nat) : ActsAt w A (l.take k) := by
  refine ⟨?_, fun a ha => h.vs a (List.mem_of_mem_take ha)⟩
  have e : (l.take k).flatMap ActV.cells = (l.flatMap ActV.cells).take ((l.take k).length * 14) := by
    have := actCells_length (l.take k)
    rw [← this, ← List.take_append_drop k l, List.flatMap_append]
    simp
  rw [e]
  exact h.row.take _
theorem reqs_one (log : List ReqV) : ∀ u ∈ log.flatMap ReqV.cells, u.oneCell' = true := by
  intro u hu
  rw [List.mem_flatMap] at hu
  obtain ⟨q, -, hq⟩ := hu
  simp only [ReqV.cells, List.mem_cons, List.not_mem_nil, or_false] at hq
  rcases hq with rfl | rfl | rfl | rfl | rfl | rfl <;> rfl
theorem own_size' {w : World} {base n c size : Nat} {e : TypeId} {A : Option Addr} {xs : List Value} (h : w.ownsRow base e size (.slice A n c) n xs) : n ≤ c ∧ True := by
  obtain ⟨A', c', e1, h1, -⟩ := own_form h
  injection e1 with _ _ e3
  exact ⟨by omega, trivial⟩
set_option maxRecDepth 100000 in
set_option maxHeartbeats 8000000 in
theorem Front_walk (A0 : Option Addr) (n k0 : Nat) (ms : List MvV) (b : Int) (q : ReqV) (hl : n = ms.length) (hn : n ≤ 9223372036854775807) (w : World) (hM : MovesAt w A0 ms) :
    Calls Try.prog 3 #[.slice A0 n k0, .int .i64 b, .agg #[.int .i64 q.client, .int .i64 q.seq, .int .i64 q.kind, .int .i64 q.id, .int .i64 q.mat, .string q.data]] w fun e w' => e = .returned (.bool true) ∧ Old w w' := by
  have HL := hide hl
  clear hl
  obtain ⟨j0, hj0, hj00, hj01, hj02⟩ := info_parts info_Req
  have hWo : Old w (w.alloc (.cells #[.int .i64 q.client, .int .i64 q.seq, .int .i64 q.kind, .int .i64 q.id, .int .i64 q.mat, .string q.data] 24)) := (Old.refl' w).alloc' _
  have kq0 := Bk.new w 24 #[.int .i64 q.client, .int .i64 q.seq, .int .i64 q.kind, .int .i64 q.id, .int .i64 q.mat, .string q.data]
  by_cases hgo : n ≤ 60 ∧ q.data.size ≤ 60
  · have hn60 : (n : Int) ≤ 60 := by omega
    have hq60 : q.data.size ≤ 60 := hgo.2
    have hq60' : (q.data.size : Int) ≤ 60 := by omega
    have J := runM_J 4 ms (by have := HL.out; omega)
    obtain ⟨W0, hW0⟩ : ∃ X, w.alloc (.cells #[.int .i64 q.client, .int .i64 q.seq, .int .i64 q.kind, .int .i64 q.id, .int .i64 q.mat, .string q.data] 24) = X := ⟨_, rfl⟩
    obtain ⟨bq, hbq⟩ : ∃ x, w.heap.size = x := ⟨_, rfl⟩
    rw [hW0] at hWo kq0
    rw [hbq] at kq0
    obtain ⟨⟨x0, x1, x2, x3, x4, x5⟩, lx⟩ := bk6 kq0
    have cM := hide (Made_any A0 n k0 ms HL.out (by omega) 4 W0 (CellsAt.old hM hWo))
    go_enter Try.func3, Try.ntmps3
    go_upto_region 1 with fail
    try simp only [hbq, hW0]
    clear hW0 hbq
    have kq := kq0
    have oq := hWo
    clear kq0
    go_wp2_with fail
    clear x0 x1 x2 x3 x4 x5 lx
    go_loopw [7] (fun iv wr => ∃ i : Nat, i ≤ n ∧ iv = .int .i64 i ∧ wr = W0) (fun iv _ => n - (intOf iv).toNat)
    case atStart => exact ⟨0, Nat.zero_le _, rfl, rfl⟩
    case round =>
      obtain ⟨i, hin, rfl, hwr⟩ := hrel
      obtain rfl := hwr.symm
      by_cases hlt : i < n
      · have hkq : i < ms.length := by have := HL.out; omega
        obtain ⟨b0, o0, rfl, hb0, hc⟩ := hM.at_ hkq
        obtain ⟨x, hx⟩ : ∃ x, ms[i]?.getD default = x := ⟨_, rfl⟩
        rw [hx] at hc
        have m5 := hc 7 _ (by omega) rfl
        have m5' : W0.cell? ⟨b0, o0 + i * 8 + 2 + 5, none⟩ = some (.string x.q.data) := by rw [Nat.add_assoc]; exact (hWo.cell (p := ⟨b0, _, none⟩) hb0).trans m5
        have hb01 : b0 < W0.heap.size := Nat.lt_of_lt_of_le hb0 hWo.size
        clear hc hx m5
        by_cases hd : (x.q.data.size : Int) ≤ 100
        · go_wp2_with fail
          go_roundw
          case rel => exact ⟨i + 1, by omega, by go_num, by trivial⟩
          case measure => simp [intOf]; omega
        · have hd' : (100 : Int) < x.q.data.size := by omega
          go_wp2_with fail
          refine (told23_any _).mono ?_
          rintro e w4 ⟨rfl, b4⟩
          go_wp2_with fail
          go_ret
          exact ⟨rfl, hWo.trans' b4⟩
      · obtain rfl : n = i := by omega
        clear hlt hin
        go_upto_region 9 with fail
        refine cM.out.mono ?_
        rintro e w1 ⟨Aa, na, ca, Al, nl, cl, l, rfl, e1, e2, e3, e4, e5, e6, e7, o1⟩
        have hms : ms.length ≤ 60 := by have := HL.out; omega
        have hlen : l.length = (runM 4 ms).l.length := by rw [← e1, List.length_map]
        have hna : na ≤ 60 := by have := J.ll; omega
        have hnl : nl ≤ 60 := by have := J.ln; omega
        obtain ⟨kz, hkz, hkl⟩ := umod23 b ((na + 1 : Nat) : Int) (by omega) (by omega)
        obtain ⟨k, rfl⟩ : ∃ k, k = kz := ⟨_, rfl⟩
        have hkna : k ≤ na := by omega
        have hnaI : (na : Int) ≤ 60 := by omega
        obtain ⟨N1, hN1⟩ : ∃ x : Int, ((na + 1 : Nat) : Int) = x := ⟨_, rfl⟩
        have hNN : (na : Int) + 1 = N1 := by omega
        rw [hN1] at hkz
        have hFew := hide (J.few (by omega) e1)
        have hFew2 := hide (show Few23 (l.take k) from ⟨by rw [List.length_take]; omega, fun a ha => hFew.out.vs a (List.mem_of_mem_take ha)⟩)
        have HC1 := hide (show checkP (l.take k) (runM 4 ms).log 4 true = 0 from (checkP_eq (m := (runM 4 ms).l.take k) (by rw [List.map_take, e1]) _ _ _).trans (J.pre ⟨by omega, by omega⟩ (by omega)))
        have HC2 := hide (show checkP l ((runM 4 ms).log ++ [rqM q.data]) 4 true = 0 from (checkP_eq e1 _ _ _).trans (J.more (by omega) ⟨by omega, by omega⟩ hq60))
        have HPL := hide (show (plOut (l.take k)).length = k by
          unfold plOut
          rw [if_pos, plOutN_length, List.length_take]
          · omega
          · have h1 := mayP_take J.may k
            unfold mayP at h1 ⊢
            rwa [← e1, ← List.map_take, stepsP_nm] at h1)
        obtain ⟨log, hlog⟩ : ∃ z, (runM 4 ms).log = z := ⟨_, rfl⟩
        rw [hlog] at e5 e7 HC1 HC2
        have hca : na ≤ ca := e3
        have hcl : nl ≤ cl := e6
        have hkca : (k : Int) ≤ ca := by omega
        have HNA := hide e2
        have HNL := hide e5
        have hAct := hide e4
        have hLog := hide e7
        have kq1 := kq.old o1
        have HO1 := hide (oq.trans' o1)
        clear e1 e2 e3 e4 e5 e6 e7 hlen hlog J hN1 o1
        go_upto_region 10 with fail
        simp only [hkz]
        obtain ⟨WD, hWDe⟩ : ∃ X, w1.drew = X := ⟨_, rfl⟩
        have oD : Old WD w1.drew := hWDe ▸ Old.refl' _
        have oWD := HO1.out.trans' (hWDe ▸ (Old.refl' w1).drew' : Old w1 WD)
        have hAct := hide (hAct.out.old (hWDe ▸ (Old.refl' w1).drew' : Old w1 WD))
        have hLog := hide (CellsAt.old hLog.out (hWDe ▸ (Old.refl' w1).drew' : Old w1 WD) : ReqsAt WD Al log)
        have kqD := kq1.old (hWDe ▸ (Old.refl' w1).drew' : Old w1 WD)
        have CS := hide (fun (U : World) (h : Old WD U) => (bk6 (kqD.old h)).1.2.2.2.2.2)
        obtain ⟨xs, hxs⟩ : ∃ z, log.flatMap ReqV.cells = z := ⟨_, rfl⟩
        have HXS := hide hxs
        have HSRC := hide (fun (U : World) (h : Old WD U) => (by have := CellsAt.old hLog.out h; rw [hxs] at this; exact this : CellsAt U Al xs))
        have HSRCL := hide (show xs.length = nl * 6 by rw [← hxs, reqCells_length5, HNL.out])
        have HSRC1 := hide (show ∀ u ∈ xs, u.oneCell' = true by rw [← hxs]; exact reqs_one log)
        clear hxs kq1 kqD kq oq
        refine region_steps (R := pick [fun v _ => ∃ b, v = .slice (some ⟨b, 0, none⟩) 0 0, eqv (.slice Al nl cl), fun v _ => ∃ A c, v = .slice A (nl) c, eqv (.pointer (some ⟨bq, 5, none⟩)), eqv (.string q.data), eqv (.agg #[.int .i64 3, .int .i64 1073741824, .int .i64 1, .int .i64 5, .int .i64 0, .string q.data]), fun v _ => ∃ b, v = .slice (some ⟨b, 0, none⟩) 1 1, fun v _ => ∃ A c, v = .slice A (nl + 1) c, fun v _ => ∃ A c, v = .slice A (nl + 1) c]) (S := fun σ w' => Old WD w' ∧ (∀ v, σ 0 = some v → σ 2 = none → (∃ b, v = .slice (some ⟨b, 0, none⟩) 0 0 ∧ Bk w' b 24 #[]) ∧ w'.ownsRow WD.heap.size 24 6 (v) (0) ([])) ∧ (∀ v, σ 2 = some v → σ 7 = none → (∃ A c, v = .slice A (nl) c) ∧ w'.ownsRow WD.heap.size 24 6 (v) (nl) (xs)) ∧ (∀ v, σ 6 = some v → σ 7 = none → ∃ b, v = .slice (some ⟨b, 0, none⟩) 1 1 ∧ Bk w' b 24 #[.int .i64 3, .int .i64 1073741824, .int .i64 1, .int .i64 5, .int .i64 0, .string q.data]) ∧ (∀ v, σ 7 = some v → (∃ A c, v = .slice A (nl + 1) c) ∧ w'.ownsRow WD.heap.size 24 6 (v) (nl + 1) (xs ++ [.int .i64 3, .int .i64 1073741824, .int .i64 1, .int .i64 5, .int .i64 0, .string q.data])) ∧ (∀ v, σ 8 = some v → (∃ A c, v = .slice A (nl + 1) c) ∧ w'.ownsRow WD.heap.size 24 6 (v) (nl + 1) (xs ++ [.int .i64 3, .int .i64 1073741824, .int .i64 1, .int .i64 5, .int .i64 0, .string q.data]))) (T := (fun _ _ => True)) (by kernel_rfl) (by kernel_rfl) (by kernel_rfl) (Stab.pick (Stab.cons (fun _ _ _ _ h => h) (Stab.eqv (Stab.cons (fun _ _ _ _ h => h) (Stab.eqv (Stab.eqv (Stab.eqv (Stab.cons (fun _ _ _ _ h => h) (Stab.cons (fun _ _ _ _ h => h) (Stab.cons (fun _ _ _ _ h => h) (Stab.nil))))))))))) (⟨oD, (fun v h => by cases h), (fun v h => by cases h), (fun v h => by cases h), (fun v h => by cases h), (fun v h => by cases h)⟩) ?steps ?ends
        case steps =>
          refine StepsOk.cons (stepOk_mk [] [] rfl rfl (by kernel_rfl) (by kernel_rfl) rfl ?_) ?_
          · rintro d a w' hk hda hS  
            first | refine Given.nil (Known.nil ?_) | refine Known.nil ?_
            obtain ⟨z0, z1, z2, z3, z4, z5⟩ := hS
            refine wp_runv (w' := w'.alloc (.cells #[] 24)) (.slice (some ⟨w'.heap.size, 0, none⟩) 0 0) (by generalize a.eval = E; go_simp) ⟨_, rfl, ⟨_, rfl⟩, trivial, z0.alloc' _, fun v hv h1 => ?_, fun v hv h1 => ?_, fun v hv h1 => ?_, fun v hv => ?_, fun v hv => ?_⟩
            · simp only [upd, if_true, Option.some.injEq] at hv
              subst hv
              exact ⟨⟨_, rfl, Bk.new w' 24 #[]⟩, own_mkT w' z0.size⟩
            · have := hk 2 (by kernel_rfl); simp [upd] at hv; rw [this] at hv; cases hv
            · obtain ⟨b, h2, h3⟩ := z3 v (by simpa [upd] using hv) (by simpa [upd] using h1)
              exact ⟨b, h2, h3.alloc _⟩
            · have := hk 7 (by kernel_rfl); simp [upd] at hv; rw [this] at hv; cases hv
            · have := hk 8 (by kernel_rfl); simp [upd] at hv; rw [this] at hv; cases hv
          refine StepsOk.cons (stepOk_pure [] [(9, .slice Al nl cl)] rfl rfl (by kernel_rfl) (by kernel_rfl) rfl (fun _ => trivial) (fun σ v w h => by simpa [upd] using h) (fun d E w' hk hda hS hc hf => by rintro  e9; exact ⟨_, by go_simp, rfl⟩)) ?_
          refine StepsOk.cons (stepOk_mk [(0, 50), (1, 51)] [] rfl rfl (by kernel_rfl) (by kernel_rfl) rfl ?_) ?_
          · rintro d a w' hk hda hS _ q0 ⟨be, rfl⟩ e50 _ q1 rfl e51 
            first | refine Given.nil (Known.nil ?_) | refine Known.nil ?_
            obtain ⟨z0, z1, z2, z3, z4, z5⟩ := hS
            obtain ⟨⟨be2, hbe, hbk⟩, hown⟩ := z1 _ q0 (hk 2 (by kernel_rfl))
            cases hbe
            refine wp_app _ (.tmp 50) (.tmp 51) 29 rfl WD.heap.size 24 j0 (.agg #[.int .i64 0, .int .i64 0, .int .i64 0, .int .i64 0, .int .i64 0, .string { data := #[] }]) 6 56 Try.underlying29 hj0 hj00 hj01 hj02 rfl (by decide) (.slice (some ⟨be, 0, none⟩) 0 0) 0 [] e50 hown (Al) (nl) (cl) (xs) e51 (HSRCL.out) (HSRC.out _ z0) (HSRC1.out) (by unfold maxLen; omega) (by omega) z0.size (nl) (Nat.zero_add _) _ (List.nil_append _) ?_
            intro A2 c2 W2 h2
            have o2 : Old WD W2 := old_grown z0 h2.2.1 hown (Nat.le_refl _)
            refine ⟨_, rfl, ⟨_, _, rfl⟩, trivial, o2, fun v hv h1 => ?_, fun v hv h1 => ?_, fun v hv h1 => ?_, fun v hv => ?_, fun v hv => ?_⟩
            · simp [upd] at h1
            · simp only [upd, if_true, Option.some.injEq] at hv
              subst hv
              exact ⟨⟨_, _, rfl⟩, h2.1⟩
            · obtain ⟨b, h3, h4⟩ := z3 v (by simpa [upd] using hv) (by simpa [upd] using h1)
              exact ⟨b, h3, h4.grown h2.2.1 (fun e => by have e2 : b = be := (by injection e); subst e2; have e3 := hbk.symm.trans h4; simp at e3)⟩
            · have := hk 7 (by kernel_rfl); simp [upd] at hv; rw [this] at hv; cases hv
            · have := hk 8 (by kernel_rfl); simp [upd] at hv; rw [this] at hv; cases hv
          refine StepsOk.cons (stepOk_pure [] [(5, .pointer (some ⟨bq, 0, none⟩))] rfl rfl (by kernel_rfl) (by kernel_rfl) rfl (fun _ => trivial) (fun σ v w h => by simpa [upd] using h) (fun d E w' hk hda hS hc hf => by rintro  e5; exact ⟨_, by go_simp, rfl⟩)) ?_
          refine StepsOk.cons (stepOk_pure [(3, 53)] [] rfl rfl (by kernel_rfl) (by kernel_rfl) rfl (fun _ => trivial) (fun σ v w h => by simpa [upd] using h) (fun d E w' hk hda hS hc hf => by rintro _ q3 rfl e53 ; obtain t0 := CS.out _ hS.1; exact ⟨_, by go_simp, rfl⟩)) ?_
          refine StepsOk.cons (stepOk_pure [(4, 54)] [] rfl rfl (by kernel_rfl) (by kernel_rfl) rfl (fun _ => trivial) (fun σ v w h => by simpa [upd] using h) (fun d E w' hk hda hS hc hf => by rintro _ q4 rfl e54 ; exact ⟨_, by go_simp, rfl⟩)) ?_
          refine StepsOk.cons (stepOk_mk [(5, 55)] [] rfl rfl (by kernel_rfl) (by kernel_rfl) rfl ?_) ?_
          · rintro d a w' hk hda hS _ q5 rfl e55 
            first | refine Given.nil (Known.nil ?_) | refine Known.nil ?_
            obtain ⟨z0, z1, z2, z3, z4, z5⟩ := hS
            refine wp_runv (w' := w'.alloc (.cells #[.int .i64 3, .int .i64 1073741824, .int .i64 1, .int .i64 5, .int .i64 0, .string q.data] 24)) (.slice (some ⟨w'.heap.size, 0, none⟩) 1 1) (by revert e55; generalize a.eval = E; intro e55; go_simp) ⟨_, rfl, ⟨_, rfl⟩, trivial, z0.alloc' _, fun v hv h1 => ?_, fun v hv h1 => ?_, fun v hv h1 => ?_, fun v hv => ?_, fun v hv => ?_⟩
            · obtain ⟨⟨b, h2, h4⟩, h3⟩ := z1 v (by simpa [upd] using hv) (by simpa [upd] using h1)
              exact ⟨⟨b, h2, h4.alloc _⟩, h3.alloc _⟩
            · obtain ⟨h2, h3⟩ := z2 v (by simpa [upd] using hv) (by simpa [upd] using h1)
              exact ⟨h2, h3.alloc _⟩
            · simp only [upd, if_true, Option.some.injEq] at hv
              subst hv
              exact ⟨_, rfl, Bk.new w' 24 _⟩
            · have := hk 7 (by kernel_rfl); simp [upd] at hv; rw [this] at hv; cases hv
            · have := hk 8 (by kernel_rfl); simp [upd] at hv; rw [this] at hv; cases hv
          refine StepsOk.cons (stepOk_mk [(2, 52), (6, 56)] [] rfl rfl (by kernel_rfl) (by kernel_rfl) rfl ?_) ?_
          · rintro d a w' hk hda hS _ q2 ⟨Ae, ce, rfl⟩ e52 _ q6 ⟨bo, rfl⟩ e56 
            first | refine Given.nil (Known.nil ?_) | refine Known.nil ?_
            obtain ⟨z0, z1, z2, z3, z4, z5⟩ := hS
            have hown := (z2 _ q2 (hk 7 (by kernel_rfl))).2
            obtain ⟨b, hb1, hb2⟩ := z3 _ q6 (hk 7 (by kernel_rfl))
            cases hb1
            refine wp_app _ (.tmp 52) (.tmp 56) 29 rfl WD.heap.size 24 j0 (.agg #[.int .i64 0, .int .i64 0, .int .i64 0, .int .i64 0, .int .i64 0, .string { data := #[] }]) 6 56 Try.underlying29 hj0 hj00 hj01 hj02 rfl (by decide) (.slice Ae (nl) ce) (nl) (xs) e52 hown (some ⟨bo, 0, none⟩) 1 1 [.int .i64 3, .int .i64 1073741824, .int .i64 1, .int .i64 5, .int .i64 0, .string q.data] e56 rfl (cells_bk hb2) (by simp [Value.oneCell']) (by unfold maxLen; omega) (by omega) z0.size (nl + 1) (by omega) _ rfl ?_
            intro A2 c2 W2 h2
            have o2 : Old WD W2 := old_grown z0 h2.2.1 hown (Nat.le_refl _)
            refine ⟨_, rfl, ⟨_, _, rfl⟩, trivial, o2, fun v hv h1 => ?_, fun v hv h1 => ?_, fun v hv h1 => ?_, fun v hv => ?_, fun v hv => ?_⟩
            · simp only [upd] at h1; rw [if_neg (by decide)] at h1; rw [q2] at h1; cases h1
            · simp [upd] at h1
            · simp [upd] at h1
            · simp only [upd, if_true, Option.some.injEq] at hv
              subst hv
              exact ⟨⟨_, _, rfl⟩, h2.1⟩
            · have := hk 8 (by kernel_rfl); simp [upd] at hv; rw [this] at hv; cases hv
          refine StepsOk.cons (stepOk_mk [(7, 57)] [] rfl rfl (by kernel_rfl) (by kernel_rfl) rfl ?_) ?_
          · rintro d a w' hk hda hS _ q7 ⟨Af, cf, rfl⟩ e57 
            first | refine Given.nil (Known.nil ?_) | refine Known.nil ?_
            obtain ⟨z0, z1, z2, z3, z4, z5⟩ := hS
            have hown := (z4 _ q7).2
            refine wp_runv (w' := w') (.slice Af (nl + 1) cf) (by revert e57; generalize a.eval = E; intro e57; go_simp) ⟨_, rfl, ⟨_, _, rfl⟩, trivial, z0, fun v hv h1 => ?_, fun v hv h1 => ?_, fun v hv h1 => ?_, fun v hv => ?_, fun v hv => ?_⟩
            · exact z1 v (by simpa [upd] using hv) (by simpa [upd] using h1)
            · exact z2 v (by simpa [upd] using hv) (by simpa [upd] using h1)
            · exact z3 v (by simpa [upd] using hv) (by simpa [upd] using h1)
            · exact z4 v (by simpa [upd] using hv)
            · simp only [upd, if_true, Option.some.injEq] at hv
              subst hv
              exact ⟨⟨_, _, rfl⟩, hown⟩
          exact StepsOk.nil
        case ends =>
          intro σ9 w9 hS9 hA9
          refine Ends.ex (some 50) rfl ?_
          rintro _ p0 ⟨be, rfl⟩
          refine Ends.eqv (some 51) (.slice Al nl cl) rfl (fun _ h => h) ?_
          refine Ends.ex (some 52) rfl ?_
          rintro _ p2 ⟨Ae, ce, rfl⟩
          refine Ends.eqv (some 53) (.pointer (some ⟨bq, 5, none⟩)) rfl (fun _ h => h) ?_
          refine Ends.eqv (some 54) (.string q.data) rfl (fun _ h => h) ?_
          refine Ends.eqv (some 55) (.agg #[.int .i64 3, .int .i64 1073741824, .int .i64 1, .int .i64 5, .int .i64 0, .string q.data]) rfl (fun _ h => h) ?_
          refine Ends.ex (some 56) rfl ?_
          rintro _ p6 ⟨bo, rfl⟩
          refine Ends.ex (some 57) rfl ?_
          rintro _ p7 ⟨Af, cf, rfl⟩
          refine Ends.ex (some 11) rfl ?_
          rintro _ p8 ⟨Ag, cg, rfl⟩
          refine Ends.nil ?_
          clear hA9
          simp only [put_lit, put_none, List.set_cons_zero, List.set_cons_succ]
          obtain ⟨o9, -, -, -, -, z5⟩ := hS9
          have hrow := (z5 _ p8).2
          clear z5
          have hA9 := hAct.out.old o9
          have hL9 : ReqsAt w9 Al log := CellsAt.old hLog.out o9
          have hM9 : ReqsAt w9 Ag (log ++ [rqM q.data]) := by have := CellsAt.of_own hrow; rw [← HXS.out] at this; show CellsAt w9 Ag ((log ++ [rqM q.data]).flatMap ReqV.cells); rw [List.flatMap_append]; exact this
          have hcg : nl + 1 ≤ cg := (own_size' hrow).1
          have c1 := hide (fun (U : World) (h : Old w9 U) => Check_any Aa k ca (l.take k) (by rw [List.length_take]; have := HNA.out; omega) hFew2.out Al nl cl log HNL.out (by omega) (by omega) 4 true 0 HC1.out U (hA9.takeA k |>.old h) (CellsAt.old hL9 h))
          have c2 := hide (fun (U : World) (h : Old w9 U) => Check_any Aa na ca l HNA.out hFew.out Ag (nl + 1) cg (log ++ [rqM q.data]) (by rw [List.length_append, ← HNL.out]; rfl) (by omega) hcg 4 true 0 HC2.out U (hA9.old h) (CellsAt.old hM9 h))
          have c3 := hide (fun (U : World) (h : Old w9 U) => (by have := Places_any Aa k ca (l.take k) (by rw [List.length_take]; have := HNA.out; omega) hFew2.out U ((hA9.takeA k).old h); rw [HPL.out] at this; exact this : Calls Try.prog 12 #[.slice Aa k ca] U fun e w' => ∃ A' c', e = .returned (.slice A' k c') ∧ IntsAt w' A' (plOut (l.take k)) ∧ (∀ a, A' = some a → U.heap.size ≤ a.block) ∧ Old U w'))
          have HW := hide (oWD.trans' o9)
          clear hrow hA9 hL9 hM9 o9 p8 p7 p6 p2 p0 CS HSRC HSRCL HSRC1
          go_wp2_with fail
          refine (told23_any _).mono ?_
          rintro e u1 ⟨rfl, b1⟩
          have o1 := b1
          go_wp2_with fail
          with_reducible refine (c1.out u1 o1).mono ?_
          rintro e u2 ⟨rfl, b2⟩
          have o2 := o1.trans' b2
          go_wp2_with fail
          with_reducible refine (c2.out u2 o2).mono ?_
          rintro e u3 ⟨rfl, b3⟩
          have o3 := o2.trans' b3
          go_wp2_with fail
          with_reducible refine (c3.out u3 o3).mono ?_
          rintro e u4 ⟨A', c', rfl, hI, -, b4⟩
          have o4 := o3.trans' b4
          go_wp2_with fail
          go_ret
          exact ⟨by simp, HW.out.trans' o4⟩
  · obtain ⟨⟨x0, x1, x2, x3, x4, x5⟩, lx⟩ := bk6 kq0
    have hc : (60 < n) ∨ (n ≤ 60 ∧ 60 < q.data.size) := by omega
    rcases hc with hg1 | ⟨hg1, hg2⟩
    all_goals
      go_enter Try.func3, Try.ntmps3
      go_wp2_with fail
      refine (told23_any _).mono ?_
      rintro e w4 ⟨rfl, b4⟩
      go_wp2_with fail
      go_ret
      exact ⟨rfl, hWo.trans' b4⟩
end Go.Proofs.Ytffahoocbjfdaaa
