/- casebooklaw23.CheckStale: the walk. -/
import Derived.Test.YtffahoocbjfdaaaHPdL
import Derived.Test.YtffahoocbjfdaaaHCTl
namespace Go.Proofs.Ytffahoocbjfdaaa
open Go.RowKit

theorem umod23 (x K : Int) (h : 0 < K) (hK : K ≤ 4611686018427387904) : ∃ y : Nat, wrap64 ((IntKind.u64.wrap x).tmod K) = (y : Int) ∧ (y : Int) < K := by
  have h0 : 0 ≤ IntKind.u64.wrap x := by rw [IntKind.wrap_u64]; omega
  rw [Int.tmod_eq_emod_of_nonneg h0]
  have h1 := Int.emod_nonneg (IntKind.u64.wrap x) (show K ≠ 0 by omega)
  have h2 := Int.emod_lt_of_pos (IntKind.u64.wrap x) h
  rw [IntWalk.wrap64_in _ ⟨by omega, by omega⟩]
  exact ⟨(IntKind.u64.wrap x % K).toNat, by omega, by omega⟩
theorem acS_length (j : Nat) : (acS j).length = 2 * j := by
  induction j with
  | zero => rfl
  | succ j ih => rw [acS_succ, List.length_append, ih]; rfl
theorem ask_wait {s : PV} {q : ReqV} (h : s.askE q = 0) : (s.ask q).wait q.client = some q := by
  unfold PV.ask
  rw [if_pos h]
  exact if_pos rfl
theorem logS_length (j : Nat) : (logS j).length = j := by simp [logS]
theorem reS_len (j : Nat) : (reS j).vs.length ≤ j := by unfold reS; split <;> simp
theorem lt_of_cell {w : World} {p : Nat} {v : Value} (h : w.cell? ⟨p, 0, none⟩ = some v) : p < w.heap.size := by
  refine Decidable.byContradiction fun hn => ?_
  unfold World.cell? at h
  rw [Array.getElem?_eq_none (by show w.heap.size ≤ p; omega)] at h
  cases h
theorem fin_few {K j : Nat} (hK : K ≤ 10) (hj : j < K) {l6 : List ActV} (h : l6.map ActV.nm = finS K j) : Few23 l6 := by
  have hl := congrArg List.length h
  rw [List.length_map, finS, List.length_append, acS_length] at hl
  refine ⟨by rw [hl]; simp; omega, fun a ha => ?_⟩
  have h1 : a.nm ∈ finS K j := h ▸ List.mem_map_of_mem ha
  have e : a.nm.r = a.r := rfl
  rw [← e]
  rcases List.mem_append.1 h1 with h2 | h2
  · simp only [acS, List.mem_flatMap] at h2
    obtain ⟨i, -, h2⟩ := h2
    simp only [List.mem_cons, List.not_mem_nil, or_false] at h2
    rcases h2 with h2 | h2 <;> rw [h2] <;> simp [askAct, anS, Rep.zero]
  · simp only [List.mem_cons, List.not_mem_nil, or_false] at h2
    rcases h2 with h2 | h2 <;> rw [h2]
    · simp [askAct, Rep.zero]
    · exact Nat.le_trans (reS_len j) (by omega)
structure LpS (W4 wr : World) (br o j : Nat) : Prop where
  old : Old W4 wr
  ge : W4.heap.size ≤ br
  ex : ∃ A c, Bk wr br 43 #[.int .i64 1, .int .i64 o, .string { data := #[] }, .slice A j c] ∧ wr.ownsRow 0 3 1 (.slice A j c) j ((List.range j).map fun i : Nat => .int .i64 ((i : Int) + 1)) ∧ ∀ b, (Value.slice A j c).ownBlock = some b → W4.heap.size ≤ b
theorem LpS.next {W4 wr WD W9 : World} {br o j : Nat} {VA A3 : Option Addr} {vc c3 : Nat} (h1 : Old W4 wr) (h2 : W4.heap.size ≤ br) (h3 : ∀ b, (Value.slice VA j vc).ownBlock = some b → W4.heap.size ≤ b) (hWD : wr = WD)
    (g1 : Bk W9 br 43 ((#[.int .i64 1, .int .i64 o, .string { data := #[] }, .slice VA j vc] : Array Value).setIfInBounds 3 (.slice A3 (j + 1) c3))) (g2 : W9.ownsRow 0 3 1 (.slice A3 (j + 1) c3) (j + 1) ((List.range j).map (fun i : Nat => Value.int .i64 ((i : Int) + 1)) ++ [.int .i64 ((j : Int) + 1)]))
    (g3 : Fr (fun b => b = br ∨ (Value.slice VA j vc).ownBlock = some b) WD W9) (g4 : ∀ b, (Value.slice A3 (j + 1) c3).ownBlock = some b → (Value.slice VA j vc).ownBlock = some b ∨ WD.heap.size ≤ b) : LpS W4 W9 br o (j + 1) := by
  have hD : Old W4 WD := hWD ▸ h1
  refine ⟨hD.fr_new g3 (fun k hk => ?_), h2, A3, c3, by simpa using g1, by rw [List.range_succ, List.map_append]; exact g2, fun b hb => ?_⟩
  · rcases hk with rfl | hk
    · exact h2
    · exact h3 k hk
  · rcases g4 b hb with e | e
    · exact h3 b e
    · have := hD.size; omega
theorem LpS.zero {W4 wr : World} {br nR : Nat} {VA : Option Addr} {vc : Nat} {RR : Rep} (h : LpS W4 wr br 0 0) (hb : Bk wr br 43 #[.int .i64 1, .int .i64 (0 : Nat), .string { data := #[] }, .slice VA 0 vc]) (hR : reS 0 = RR) (hn : RR.vs.length = nR) :
    ∃ A c, Bk ((((wr.setCell ⟨br, 0, none⟩ (.int .i64 2)).setCell ⟨br, 1, none⟩ (.int .i64 0)).setCell ⟨br, 2, none⟩ (.string { data := #[] })).setCell ⟨br, 3, none⟩ (.slice none 0 0)) br 43 #[.int .i64 RR.code, .int .i64 RR.ver, .string RR.data, .slice A nR c] ∧ Old W4 ((((wr.setCell ⟨br, 0, none⟩ (.int .i64 2)).setCell ⟨br, 1, none⟩ (.int .i64 0)).setCell ⟨br, 2, none⟩ (.string { data := #[] })).setCell ⟨br, 3, none⟩ (.slice none 0 0)) ∧ IntsAt ((((wr.setCell ⟨br, 0, none⟩ (.int .i64 2)).setCell ⟨br, 1, none⟩ (.int .i64 0)).setCell ⟨br, 2, none⟩ (.string { data := #[] })).setCell ⟨br, 3, none⟩ (.slice none 0 0)) A RR.vs := by
  subst hR
  obtain rfl : nR = 0 := hn.symm
  refine ⟨none, 0, Bk.set4 hb, ?_, CellsAt.nil _ _⟩
  exact Old.setCell' (Old.setCell' (Old.setCell' (Old.setCell' h.old h.ge _) h.ge _) h.ge _) h.ge _
theorem LpS.some {W4 wr : World} {br nR j : Nat} {VA : Option Addr} {vc : Nat} {RR : Rep} (h : LpS W4 wr br j j) (hj : j ≠ 0) (hb : Bk wr br 43 #[.int .i64 1, .int .i64 (j : Nat), .string { data := #[] }, .slice VA j vc]) (hr : wr.ownsRow 0 3 1 (.slice VA j vc) j ((List.range j).map fun i : Nat => .int .i64 ((i : Int) + 1))) (hR : reS j = RR) (hn : RR.vs.length = nR) :
    ∃ A c, Bk wr br 43 #[.int .i64 RR.code, .int .i64 RR.ver, .string RR.data, .slice A nR c] ∧ Old W4 wr ∧ IntsAt wr A RR.vs := by
  unfold reS at hR
  rw [if_neg hj] at hR
  subst hR
  obtain rfl : nR = j := by rw [← hn]; simp
  refine ⟨VA, vc, hb, h.old, ?_⟩
  unfold IntsAt
  rw [List.map_map]
  exact CellsAt.of_own hr
set_option maxRecDepth 100000 in
set_option maxHeartbeats 4000000 in
theorem Stale_walk (a b : Int) (w : World) :
    Calls Try.prog 7 #[.int .i64 a, .int .i64 b] w fun e w' => e = .returned (.bool true) ∧ Old w w' := by
  obtain ⟨i0, hi0, hz0, hz1, hz2⟩ := info_parts info_Req
  obtain ⟨y, hy, hyl⟩ := umod23 a 10 (by omega) (by omega)
  obtain ⟨K, hK⟩ : ∃ K : Nat, y + 1 = K := ⟨_, rfl⟩
  have hKi : (1 : Int) + (y : Int) = (K : Int) := by omega
  obtain ⟨o, ho, hol⟩ := umod23 b K (by omega) (by omega)
  go_enter Try.func7, Try.ntmps7
  go_wp2_with fail
  simp only [hy, ho]
  have hK10 : K ≤ 10 := by omega
  have hoK : o < K := by omega
  clear hy ho hKi hyl hol hK
  obtain ⟨p, hpz⟩ : ∃ x, w.heap.size = x := ⟨_, rfl⟩
  obtain ⟨W1, hW1⟩ : ∃ X, w.alloc (.cells #[.slice none 0 0, .int .i64 0, .int .i64 0, .int .i64 0, .int .i64 0, .int .i64 0, .int .i64 0, .int .i64 0, .int .i64 0, .int .i64 0, .string { data := #[] }, .int .i64 0, .int .i64 0, .int .i64 0, .int .i64 0, .int .i64 0, .string { data := #[] }, .int .i64 0, .int .i64 0, .int .i64 0, .int .i64 0, .int .i64 0, .string { data := #[] }, .int .i64 0, .int .i64 0, .int .i64 0, .int .i64 0, .int .i64 0, .string { data := #[] }] 52) = X := ⟨_, rfl⟩
  have hp : PL w W1 p (pvS 0) [] (.slice none 0 0) 0 (logS 0) := PL.new (by rw [← hW1]; exact (Old.refl' w).alloc' _) (by rw [← hW1, ← hpz]; exact Bk.new w 52 pdCells) (by omega)
  rw [hW1]
  simp only [hpz]
  clear hW1 hpz
  go_loopw [8, 9] (fun lv iv wr => ∃ jn l A ca, jn ≤ K ∧ lv = .slice A jn ca ∧ iv = .int .i64 (jn : Nat) ∧ l.map ActV.nm = acS jn ∧ PL w wr p (pvS jn) l (.slice A jn ca) jn (logS jn)) (fun _ iv _ => K - (intOf iv).toNat)
  case atStart => exact ⟨0, [], none, 0, Nat.zero_le _, rfl, rfl, rfl, hp⟩
  case round =>
    clear hp
    obtain ⟨jn, l, A, ca, hjK, rfl, rfl, hln, pr⟩ := hrel
    by_cases hlt : jn < K
    · have hj10 : jn < 10 := by omega
      have hlm : l.length = 2 * jn := by have := congrArg List.length hln; rw [List.length_map] at this; rw [this]; exact acS_length jn
      have hE := pvS_ask jn hj10
      have hE2 := pvS_ans jn hj10
      have hwt := ask_wait hE
      have cA := hide (fun (A2 : Option Addr) (c2 : Nat) (W : World) (h : PL w W p (pvS jn) l (.slice A2 (jn + 1) c2) (jn + 1) (logS jn ++ [rqS jn])) => h.ask _ hlm (by omega) (rqS jn) 0 hE _ rfl)
      have cB := hide (fun (A2 : Option Addr) (c2 : Nat) (W : World) (h : PL w W p ((pvS jn).ask (rqS jn)) (if (0 : Int) = 0 then l ++ [askAct (rqS jn)] else l) (.slice A2 (jn + 1) c2) (jn + 1) (logS jn ++ [rqS jn])) => h.ans (2 * jn + 1) (by rw [if_pos rfl, List.length_append, hlm]; rfl) (by omega) 0 ((jn : Int) + 1) ((jn : Int) + 1) ⟨1, (jn : Int) + 1, { data := #[] }, []⟩ none 0 0 rfl (by omega) 0 hE2 _ rfl (CellsAt.nil _ _))
      have hF := hide (fun (A2 : Option Addr) (c2 : Nat) (W : World) (l5 : List ActV) (h : PL w W p (((pvS jn).ask (rqS jn)).ans 0 ((jn : Int) + 1) ((jn : Int) + 1)) l5 (.slice A2 (jn + 1) c2) (jn + 1) (logS jn ++ [rqS jn])) (h5 : ∃ q AV cV, ((pvS jn).ask (rqS jn)).wait 0 = some q ∧ l5 = (if (0 : Int) = 0 then l ++ [askAct (rqS jn)] else l) ++ [⟨0, (jn : Int) + 1, true, q, ⟨1, (jn : Int) + 1, { data := #[] }, []⟩, AV, cV, (jn : Int) + 1⟩]) =>
        (by
          obtain ⟨q, AV, cV, e1, e2⟩ := h5
          rw [show ((pvS jn).ask (rqS jn)).wait 0 = some (rqS jn) from hwt] at e1
          injection e1 with e1
          subst e1
          refine ⟨jn + 1, l5, A2, c2, by omega, rfl, by go_num, ?_, by rw [logS_succ]; exact h⟩
          rw [e2, if_pos rfl, acS_succ, ← hln]
          simp [ActV.nm, anS, askAct] : ∃ jn' l' A' ca', jn' ≤ K ∧ (Value.slice A2 (jn + 1) c2) = .slice A' jn' ca' ∧ (Value.int .i64 ((jn : Int) + 1)) = .int .i64 (jn' : Nat) ∧ l'.map ActV.nm = acS jn' ∧ PL w W p (pvS jn') l' (.slice A' jn' ca') jn' (logS jn')))
      clear hln hlm hE hE2 hwt
      by_cases h0 : jn = 0
      · subst h0
        have HRQ := hide (show (rqS 0).cells = [.int .i64 0, .int .i64 1, .int .i64 1, .int .i64 1, .int .i64 0, .string { data := #[120] }] from rfl)
        go_upto_region 11 with fail
        obtain ⟨b3, hb3⟩ : ∃ x, wr.heap.size = x := ⟨_, rfl⟩
        obtain ⟨W2, hW2⟩ : ∃ X, wr.alloc (.cells #[.int .i64 0, .int .i64 1, .int .i64 1, .int .i64 1, .int .i64 0, .string { data := #[120] }] 24) = X := ⟨_, rfl⟩
        have o2 : Old wr W2 := by rw [← hW2]; exact (Old.refl' wr).alloc' _
        have k2 : Bk W2 b3 24 #[.int .i64 0, .int .i64 1, .int .i64 1, .int .i64 1, .int .i64 0, .string { data := #[120] }] := by rw [← hW2, ← hb3]; exact Bk.new wr 24 _
        try rw [hb3] at hW2
        simp only [hb3, hW2]
        clear hW2
        obtain ⟨⟨x0, x1, x2, x3, x4, x5⟩, lx⟩ := bk6 k2
        have hne3 : (Value.slice A 0 ca).ownBlock ≠ some b3 := fun e => by have := own_lt8 pr.row e; omega
        have hrow := hide (own_old pr.row (o2.alloc' (.cells #[.int .i64 0, .int .i64 1, .int .i64 1, .int .i64 1, .int .i64 0, .string { data := #[120] }] 24)))
        go_wp2_with (at_builtin; go_loud (refine wpList_app _ rfl (.tmp 37) (.tmp 39) 29 rfl 0 24 i0 (.agg #[.int .i64 0, .int .i64 0, .int .i64 0, .int .i64 0, .int .i64 0, .string { data := #[] }]) 6 56 Try.underlying29 hi0 hz0 hz1 hz2 rfl (by decide) (.slice A 0 ca) 0 ((logS 0).flatMap ReqV.cells) rfl hrow.out (some ⟨W2.heap.size, 0, none⟩) 1 1 [.int .i64 0, .int .i64 1, .int .i64 1, .int .i64 1, .int .i64 0, .string { data := #[120] }] rfl rfl (cells_bk (Bk.new W2 24 #[.int .i64 0, .int .i64 1, .int .i64 1, .int .i64 1, .int .i64 0, .string { data := #[120] }])) (by simp [Value.oneCell']) (by unfold maxLen; omega) (by omega) (Nat.zero_le _) (0 + 1) rfl _ rfl ?_; intro A2 c2 W3 h3; have g3 := hide h3; obtain ⟨⟨x0, x1, x2, x3, x4, x5⟩, lx⟩ := bk6 (h3.bk (k2.alloc _) hne3)))
        have pr3 := hide (PL.app (q := rqS 0) pr (o2.alloc' _) (by rw [HRQ.out]; exact g3.out))
        try rw [HRK.out] at pr3
        refine (cA.out A2 c2 W3 pr3.out).mono ?_
        rintro e W4 ⟨rfl, pr4⟩
        clear x0 x1 x2 x3 x4 x5 lx g3 o2 k2 pr3 hrow hne3
        go_wp2_with fail
        refine (cB.out A2 c2 W4 pr4).mono ?_
        rintro e W5 ⟨rfl, l5, pr5, -, hl5⟩
        have hfin := hide (hF.out A2 c2 W5 l5 pr5 (hl5 (by trivial)))
        clear pr5 hl5 pr4 pr
        go_wp2_with fail
        go_roundw
        case rel => exact hfin.out
        case measure => simp [intOf]; omega
      · have HRQ := hide (show (rqS jn).cells = [.int .i64 0, .int .i64 ((jn : Int) + 1), .int .i64 2, .int .i64 1, .int .i64 0, .string { data := #[120] }] by unfold rqS; rw [if_neg h0]; rfl)
        have HRK := hide (show rqS jn = ⟨0, (jn : Int) + 1, 2, 1, 0, { data := #[120] }⟩ by unfold rqS; rw [if_neg h0]; rfl)
        rw [HRK.out] at cA cB hF
        have hj0 : ¬ (jn : Int) = 0 := by omega
        go_upto_region 11 with fail
        obtain ⟨b3, hb3⟩ : ∃ x, wr.heap.size = x := ⟨_, rfl⟩
        obtain ⟨W2, hW2⟩ : ∃ X, wr.alloc (.cells #[.int .i64 0, .int .i64 (jn + 1), .int .i64 2, .int .i64 1, .int .i64 0, .string { data := #[120] }] 24) = X := ⟨_, rfl⟩
        have o2 : Old wr W2 := by rw [← hW2]; exact (Old.refl' wr).alloc' _
        have k2 : Bk W2 b3 24 #[.int .i64 0, .int .i64 (jn + 1), .int .i64 2, .int .i64 1, .int .i64 0, .string { data := #[120] }] := by rw [← hW2, ← hb3]; exact Bk.new wr 24 _
        try rw [hb3] at hW2
        simp only [hb3, hW2]
        clear hW2
        obtain ⟨⟨x0, x1, x2, x3, x4, x5⟩, lx⟩ := bk6 k2
        have hne3 : (Value.slice A jn ca).ownBlock ≠ some b3 := fun e => by have := own_lt8 pr.row e; omega
        have hrow := hide (own_old pr.row (o2.alloc' (.cells #[.int .i64 0, .int .i64 (jn + 1), .int .i64 2, .int .i64 1, .int .i64 0, .string { data := #[120] }] 24)))
        go_wp2_with (at_builtin; go_loud (refine wpList_app _ rfl (.tmp 37) (.tmp 39) 29 rfl 0 24 i0 (.agg #[.int .i64 0, .int .i64 0, .int .i64 0, .int .i64 0, .int .i64 0, .string { data := #[] }]) 6 56 Try.underlying29 hi0 hz0 hz1 hz2 rfl (by decide) (.slice A jn ca) jn ((logS jn).flatMap ReqV.cells) rfl hrow.out (some ⟨W2.heap.size, 0, none⟩) 1 1 [.int .i64 0, .int .i64 (jn + 1), .int .i64 2, .int .i64 1, .int .i64 0, .string { data := #[120] }] rfl rfl (cells_bk (Bk.new W2 24 #[.int .i64 0, .int .i64 (jn + 1), .int .i64 2, .int .i64 1, .int .i64 0, .string { data := #[120] }])) (by simp [Value.oneCell']) (by unfold maxLen; omega) (by omega) (Nat.zero_le _) (jn + 1) rfl _ rfl ?_; intro A2 c2 W3 h3; have g3 := hide h3; obtain ⟨⟨x0, x1, x2, x3, x4, x5⟩, lx⟩ := bk6 (h3.bk (k2.alloc _) hne3)))
        have pr3 := hide (PL.app (q := rqS jn) pr (o2.alloc' _) (by rw [HRQ.out]; exact g3.out))
        try rw [HRK.out] at pr3
        refine (cA.out A2 c2 W3 pr3.out).mono ?_
        rintro e W4 ⟨rfl, pr4⟩
        clear x0 x1 x2 x3 x4 x5 lx g3 o2 k2 pr3 hrow hne3
        go_wp2_with fail
        refine (cB.out A2 c2 W4 pr4).mono ?_
        rintro e W5 ⟨rfl, l5, pr5, -, hl5⟩
        have hfin := hide (hF.out A2 c2 W5 l5 pr5 (hl5 (by trivial)))
        clear pr5 hl5 pr4 pr
        go_wp2_with fail
        go_roundw
        case rel => exact hfin.out
        case measure => simp [intOf]; omega
    · obtain rfl : K = jn := by omega
      clear hlt hjK
      have hlm : l.length = 2 * K := by have := congrArg List.length hln; rw [List.length_map] at this; rw [this]; exact acS_length K
      have hwt := ask_wait (pvS_ask2 K (by omega))
      have cA := hide (pr.ask (2 * K) hlm (by omega) rqT 0 (pvS_ask2 K (by omega)) _ rfl)
      have HLN := hide hln
      have HWT := hide hwt
      have HLM := hide hlm
      clear hln hwt hlm pr
      go_upto_region 15 with fail
      refine cA.out.mono ?_
      rintro e W4 ⟨rfl, pr4⟩
      rw [if_pos (by trivial)] at pr4
      go_upto_region 16 with fail
      obtain ⟨br, hbr⟩ : ∃ x, W4.heap.size = x := ⟨_, rfl⟩
      obtain ⟨W5, hW5⟩ : ∃ X, W4.alloc (.cells #[.int .i64 1, .int .i64 o, .string { data := #[] }, .slice none 0 0] 43) = X := ⟨_, rfl⟩
      have h50 : LpS W4 W5 br o 0 := by rw [← hW5]; exact ⟨(Old.refl' W4).alloc' _, by omega, none, 0, hbr ▸ Bk.new W4 43 _, World.ownsRow_nil _ _ _ _, fun b hb => (by cases hb)⟩
      have HB4 := hide hbr
      rw [hW5]
      simp only [hbr]
      clear hW5 hbr
      have HP4 := hide pr4
      clear pr4
      obtain ⟨k0, hk0, hk00, hk01, hk02⟩ := info_parts info_intP
      go_wp2_with fail
      go_loopw [12] (fun iv wr => ∃ j : Nat, j ≤ o ∧ iv = .int .i64 j ∧ LpS W4 wr br o j) (fun iv _ => o - (intOf iv).toNat)
      case atStart => exact ⟨0, by omega, rfl, h50⟩
      case round =>
        clear h50
        obtain ⟨j, hjo, rfl, hL⟩ := hrel
        by_cases hlt : j < o
        · obtain ⟨VA, vc, hBk, hRow, hNew⟩ := hL.ex
          have hOl := hL.old
          have hGe := hL.ge
          go_upto_region 19 with fail
          obtain ⟨xs, hxs⟩ : ∃ x, (List.range j).map (fun i : Nat => Value.int .i64 ((i : Int) + 1)) = x := ⟨_, rfl⟩
          rw [hxs] at hRow
          have hNE : (Value.slice VA j vc).ownBlock ≠ some br := own_ne_bk hRow hBk (by decide)
          have hX1 : (#[.int .i64 1, .int .i64 o, .string { data := #[] }, .slice VA j vc] : Array Value)[3]? = some (.slice VA j vc) := rfl
          have x3 := (hBk.cell 3).trans hX1
          have x4 := hBk.lt
          have END := hide (fun (A3 : Option Addr) (c3 : Nat) (W3 : World) (h3 : Apps (wr.alloc (.cells #[.int .i64 ((j : Int) + 1)] 3)) 0 3 1 (.slice VA j vc) (j + 1) (xs ++ [.int .i64 ((j : Int) + 1)]) (.slice A3 (j + 1) c3) W3) =>
            (by
              have h := bk_app (off := 3) hBk hRow hNE ((Old.refl' wr).alloc' _) h3
              rw [← hxs] at h
              exact LpS.next hOl hGe hNew rfl h.1 h.2.1 h.2.2.1 h.2.2.2 : LpS W4 (W3.setCell ⟨br, 3, none⟩ (.slice A3 (j + 1) c3)) br o (j + 1)))
          have HROW := hide hRow
          have HBK := hide hBk
          clear hBk hRow hNew hOl hGe hL hxs
          go_wp2_with (at_builtin; refine wpList_app _ rfl (.tmp 64) (.tmp 67) 34 rfl 0 3 k0 (.int .i64 0) 1 8 Try.underlying34 hk0 hk00 hk01 hk02 rfl (by decide) (.slice VA j vc) j xs rfl (HROW.out.alloc _) (some ⟨wr.heap.size, 0, none⟩) 1 1 [.int .i64 ((j : Int) + 1)] rfl rfl (cells_bk (Bk.new wr 3 #[.int .i64 ((j : Int) + 1)])) (by simp [Value.oneCell']) (by unfold maxLen; omega) (by omega) (Nat.zero_le _) (j + 1) rfl _ rfl ?_; intro A3 c3 W3 h3; have FIN := hide (END.out A3 c3 W3 h3); have hG2 := h3.bk (HBK.out.alloc _) hNE; have y0 := (hG2.cell 3).trans hX1; have y1 := hG2.frozen 3; have y2 := hG2.lt)
          go_roundw
          case rel => exact ⟨j + 1, by omega, by go_num, FIN.out⟩
          case measure => simp [intOf]; omega
        · obtain rfl : j = o := by omega
          have HL := hide hL
          obtain ⟨VA, vc, hBk, hRow, hNew⟩ := hL.ex
          clear hL
          obtain ⟨RR, hRR⟩ : ∃ r, reS j = r := ⟨_, rfl⟩
          obtain ⟨nR, hnR⟩ : ∃ n, RR.vs.length = n := ⟨_, rfl⟩
          go_upto_if 71 with fail
          go_cut [] from 72 to 72 (fun w' => ∃ A c, Bk w' br 43 #[.int .i64 RR.code, .int .i64 RR.ver, .string RR.data, .slice A nR c] ∧ Old W4 w' ∧ IntsAt w' A RR.vs)
          case first =>
            by_cases hj0 : j = 0
            · subst hj0
              obtain ⟨⟨x0, x1, x2, x3⟩, ⟨f0, f1, f2, f3⟩, lx⟩ := bk4 hBk
              go_wp2_with fail
              go_meet
              case rel => exact LpS.zero HL.out hBk hRR hnR
            · have hj1 : ¬ (j : Int) = 0 := by omega
              go_wp2_with fail
              go_meet
              case rel => exact LpS.some HL.out hj0 hBk hRow hRR hnR
          case rest =>
            obtain ⟨Ar, cr, hBk3, hO3, hI3⟩ := hcut
            have hv9 : nR ≤ 50000 := by rw [← hnR, ← hRR]; exact Nat.le_trans (reS_len j) (by omega)
            have hF6 := hide (fun (l6 : List ActV) (h1 : l6.map ActV.nm = finS K j) => fin_few (K := K) (by omega) hoK h1)
            have hLaw := hide (stale_law K (by omega) j hoK)
            have cN := hide ((HP4.out.step hO3).ans (2 * K + 1) (by rw [List.length_append, HLM.out]; rfl) (by omega) 1 1 (j : Int) RR Ar nR cr hnR hv9 0 (pvS_ans2 K (by omega) j (by omega)) _ rfl hI3)
            have HRR := hide hRR
            obtain ⟨⟨x0, x1, x2, x3⟩, ⟨f0, f1, f2, f3⟩, lx⟩ := bk4 hBk3
            clear hBk3 hI3 hO3 hRR hBk hRow hNew hnR hv9
            go_upto_region 23 with fail
            refine cN.out.mono ?_
            rintro e W6 ⟨rfl, l6, pr6, -, hl6⟩
            clear x0 x1 x2 x3 f0 f1 f2 f3 lx
            obtain ⟨q6, AV, cV, e1, e2⟩ := hl6 (by trivial)
            have e3 : q6 = rqT := by have := HWT.out; rw [show rqT.client = 1 from rfl, e1] at this; injection this
            have hm6 : l6.map ActV.nm = finS K j := by
              rw [e2, e3, List.map_append, List.map_append, HLN.out]
              simp [finS, ActV.nm, askAct, HRR.out]
            obtain ⟨A6, c6, hc6, hca6, hA6⟩ := pr6.acts
            obtain ⟨n6, hn6⟩ : ∃ n, l6.length = n := ⟨_, rfl⟩
            rw [hn6] at hc6
            obtain ⟨AQ, cQ, eQ, hcQ, -⟩ := own_form pr6.row
            have hQ6 := CellsAt.of_own pr6.row
            injection eQ with eQ1 eQ2 eQ3
            have hcQ' : K ≤ ca := by omega
            have cC := hide (fun (U : World) (h : Old W6 U) => Check_any A6 n6 c6 l6 hn6.symm (hF6.out l6 hm6) A K ca (logS K) (logS_length K).symm (by omega) hcQ' 20 true (-((K : Int) + 1)) ((checkP_eq hm6 _ _ _).trans hLaw.out.1) U (hA6.old h) (hQ6.old h))
            have cW := hide (fun (U : World) (h : Old W6 U) => CWrites_any A6 n6 c6 l6 hn6.symm (hF6.out l6 hm6) A K ca (logS K) (logS_length K).symm (by omega) hcQ' 20 0 ((checkP_eq hm6 _ _ _).trans hLaw.out.2) U (hA6.old h) (hQ6.old h))
            have hp6 : p < W6.heap.size := lt_of_cell hc6
            have HO := hide pr6.old
            have HC := hide hc6
            clear e1 e2 e3 hl6 hm6 hn6 hA6 hQ6 hca6 pr6 eQ1 eQ2 eQ3 hcQ hc6 HLN HWT HLM HP4 HRR HL hF6 hLaw cN
            go_wp2_with fail
            refine (told23_any _).mono ?_
            rintro e W7 ⟨rfl, b7⟩
            have z0 := (b7.cell (p := ⟨p, 0, none⟩) hp6).trans HC.out
            have z1 : p < W7.heap.size := Nat.lt_of_lt_of_le hp6 b7.size
            go_wp2_with fail
            with_reducible refine (cC.out W7 b7).mono ?_
            rintro e W8 ⟨rfl, b8⟩
            have z2 := (b8.cell (p := ⟨p, 0, none⟩) z1).trans z0
            have z3 : p < W8.heap.size := Nat.lt_of_lt_of_le z1 b8.size
            have b68 := b7.trans' b8
            go_wp2_with fail
            with_reducible refine (cW.out W8 b68).mono ?_
            rintro e W9 ⟨rfl, b9⟩
            go_wp2_with fail
            go_ret
            exact ⟨by simp, HO.out.trans' (b68.trans' b9)⟩
end Go.Proofs.Ytffahoocbjfdaaa
