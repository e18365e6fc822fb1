/- casebooklaw18.LineCommits: the walk. -/
import Derived.Test.YtmhnlpilbbfgnaaHLnU
import Derived.Test.YtmhnlpilbbfgnaaHBits
namespace Go.Proofs.Ytmhnlpilbbfgnaa
open Go.RowKit

theorem umodL (x : Int) (K : Nat) (hK : K ≤ 100000) : ∃ y : Int, wrap64 ((IntKind.u64.wrap x).tmod ((K : Int) + 2)) = y ∧ 0 ≤ y ∧ y < (K : Int) + 2 := by
  refine ⟨_, rfl, ?_⟩
  have h0 : 0 ≤ IntKind.u64.wrap x := by rw [IntKind.wrap_u64]; omega
  rw [Int.tmod_eq_emod_of_nonneg h0]
  have h1 := Int.emod_nonneg (IntKind.u64.wrap x) (show (K : Int) + 2 ≠ 0 by omega)
  have h2 := Int.emod_lt_of_pos (IntKind.u64.wrap x) (show 0 < (K : Int) + 2 by omega)
  rw [IntWalk.wrap64_in _ ⟨by omega, by omega⟩]
  exact ⟨h1, h2⟩

set_option maxRecDepth 100000 in
set_option maxHeartbeats 8000000 in
theorem LComs_walk (A0 : Option Addr) (n c0 : Nat) (qs : List ReqV) (B0 : Option Addr) (m cm : Nat) (ns : List Int) (hl : n = qs.length) (hn : n ≤ 9223372036854775807) (hl2 : m = ns.length) (hm : m ≤ 9223372036854775807) (w : World) (hQ : ReqsAt w A0 qs) (hI : IntsAt w B0 ns) :
    Calls Try.prog 5 #[.slice A0 n c0, .slice B0 m cm] w fun e w' => e = .returned (.bool true) ∧ Old w w' := by
  have HL := hide hl
  have HL2 := hide hl2
  clear hl hl2
  have cN := hide (LOne.new (D := []) 6 (by omega) (Old.refl' w) (fun d hd => by simp at hd))
  by_cases hgo : n ≤ 30
  · have hn60' : (n : Int) ≤ 30 := by omega
    go_enter Try.func5, Try.ntmps5
    go_wp2_with fail
    refine cN.out.mono ?_
    rintro e w1 ⟨g, rfl, hp, -⟩
    go_wp2_with fail
    go_loopw [7] (fun iv wr => ∃ k : Nat, k ≤ n ∧ iv = .int .i64 k ∧ ∃ l : LnV, LOne w wr g l [] ∧ l.qs.length ≤ k ∧ l.quota = 6) (fun iv _ => n - (intOf iv).toNat)
    case atStart => exact ⟨0, Nat.zero_le _, rfl, _, hp, Nat.le_refl _, rfl⟩
    case round =>
      clear hp
      obtain ⟨k, hk, rfl, l0, pr, hlen, hq0⟩ := hrel
      by_cases hlt : k < n
      · have hkq : k < qs.length := by have := HL.out; omega
        obtain ⟨b, o, rfl, hb, hc⟩ := hQ.at5 (k := k) hkq
        obtain ⟨x, hx⟩ : ∃ x, qs[k]?.getD default = x := ⟨_, rfl⟩
        rw [hx] at hc
        have hW := pr.o
        have x0 : wr.cell? ⟨b, o + k * 6, none⟩ = some (.int .i64 x.client) := (hW.cell (p := ⟨b, o + k * 6, none⟩) hb).trans (hc 0 _ (by omega) rfl)
        have x1 := (hW.cell (p := ⟨b, o + k * 6 + 1, none⟩) hb).trans (hc 1 _ (by omega) rfl)
        have x2 := (hW.cell (p := ⟨b, o + k * 6 + 2, none⟩) hb).trans (hc 2 _ (by omega) rfl)
        have x3 := (hW.cell (p := ⟨b, o + k * 6 + 3, none⟩) hb).trans (hc 3 _ (by omega) rfl)
        have x4 := (hW.cell (p := ⟨b, o + k * 6 + 4, none⟩) hb).trans (hc 4 _ (by omega) rfl)
        have x5 := (hW.cell (p := ⟨b, o + k * 6 + 5, none⟩) hb).trans (hc 5 _ (by omega) rfl)
        clear hc hx
        by_cases hs : x.data.size ≤ 100
        · obtain ⟨N0, hN0⟩ : ∃ N, l0.qs.length = N := ⟨_, rfl⟩
          obtain ⟨l1, hl1⟩ : ∃ l, l0.put x = l := ⟨_, rfl⟩
          obtain ⟨AT, hAT⟩ : ∃ a : Int, (l0.at_ x : Int) = a := ⟨_, rfl⟩
          obtain ⟨E, hE⟩ : ∃ a : Int, l0.err x = a := ⟨_, rfl⟩
          have cP := hide (pr.put N0 hN0 (by omega) x AT E l1 hAT hE hl1)
          obtain ⟨p1, p2, p3⟩ := put_facts l0 x
          rw [hl1] at p1 p2 p3
          have hq1 : l1.quota = 6 := p1.trans hq0
          have hlen1 : l1.qs.length ≤ k + 1 := by omega
          clear hAT hE hl1 hN0 p1 p2 p3 hW
          go_wp2_with fail
          refine cP.out.mono ?_
          rintro e w4 ⟨rfl, pr4⟩
          clear x0 x1 x2 x3 x4 x5 pr cP
          by_cases hkm : k < m
          · obtain ⟨b2, o2, rfl, hb2, hi⟩ := hI.at_ (k := k) (by have := HL2.out; omega)
            obtain ⟨nv, hnv⟩ : ∃ v, ns[k]?.getD 0 = v := ⟨_, rfl⟩
            rw [hnv] at hi
            have hi4 := (pr4.o.cell (p := ⟨b2, o2 + k, none⟩) hb2).trans hi
            obtain ⟨N1, hN1⟩ : ∃ N, l1.qs.length = N := ⟨_, rfl⟩
            obtain ⟨k1, hk1⟩ : ∃ N, l1.k = N := ⟨_, rfl⟩
            have hkl1 : k1 ≤ N1 := by obtain ⟨F, hF⟩ := pr4.at_; have := hF.kl; omega
            have hN1b : (N1 : Int) ≤ 31 := by omega
            have hk1b : (k1 : Int) ≤ N1 := by omega
            have hbit := and_one (k : Int)
            clear hnv hi
            by_cases hpar : k % 2 = 0
            · have hb0 : bits .and .i64 (k : Int) 1 = 0 := by rw [hbit]; omega
              clear hbit
              obtain ⟨y, hy, hy0, hy1⟩ := umodL nv N1 (by omega)
              have hwu : IntKind.u64.wrap ((N1 : Int) + 2) = (N1 : Int) + 2 := by rw [IntKind.wrap_u64]; omega
              have hne : ¬ ((N1 : Int) + 2 = 0) := by omega
              have cL1 := hide (pr4.at_.elim fun F hF => Len_ln g F l1 N1 hN1 w4 hF)
              go_wp2_with (go_at_call 18; refine cL1.out.mono ?_; rintro e w5 ⟨rfl, rfl⟩)
              simp only [hy]
              clear hy hwu hne cL1 hi4
              have cCm1 := hide (pr4.at_.elim fun F hF => Com_ln g F l1 k1 hk1 w4 hF)
              by_cases hc : (k1 : Int) ≤ y ∧ y ≤ N1
              · as_aux_lemma =>
                obtain ⟨h1, h2⟩ := hc
                obtain ⟨k2, rfl⟩ : ∃ j : Nat, y = j := ⟨(y).toNat, by omega⟩
                obtain ⟨l2, hl2⟩ : ∃ l, l1.commit k2 = l := ⟨_, rfl⟩
                have hk2 : l2.k = k2 := by rw [← hl2]; rfl
                have hN2 : l2.qs.length = N1 := by rw [← hl2]; exact hN1
                have hq2 : l2.quota = 6 := by rw [← hl2]; exact hq1
                have cC := hide (pr4.com (k2 : Int) 0 l2 (by rw [if_pos ⟨by omega, by omega⟩]) (by rw [if_pos ⟨by omega, by omega⟩, Int.toNat_natCast, hl2]) (by omega))
                clear pr4 hl2
                go_wp2_with fail
                refine cCm1.out.mono ?_
                rintro e w5 ⟨rfl, rfl⟩
                go_wp2_with fail
                refine cC.out.mono ?_
                rintro e w6 ⟨rfl, p2⟩
                clear cC cCm1
                rcases Nat.eq_zero_or_pos k2 with hz | hz
                · have hk2e : (k2 : Int) = 0 := by omega
                  have cLn := hide (fun (W : World) (hW : Old w6 W) => (p2.old hW).at_.elim fun F hF => Len_ln g F l2 N1 hN2 W hF)
                  have cCm := hide (fun (W : World) (hW : Old w6 W) => (p2.old hW).at_.elim fun F hF => by have := Com_ln g F l2 k2 hk2 W hF; rw [hk2e] at this; exact this)
                  have cR1 := hide (fun (W : World) (hW : Old w6 W) => (p2.old hW).at_.elim fun F hF => LRep_no g F l2 (0 + 1) (by omega) W hF)
                  have cR2 := hide (fun (W : World) (hW : Old w6 W) => (p2.old hW).at_.elim fun F hF => LRep_no g F l2 0 (by omega) W hF)
                  have P2 := hide p2
                  have o6 := Old.refl' w6
                  clear p2
                  go_wp2_with (first
                    | (go_at_call 18; refine (cLn.out _ o6).mono ?_; rintro e w7 ⟨rfl, rfl⟩)
                    | (go_at_call 19; refine (cCm.out _ o6).mono ?_; rintro e w7 ⟨rfl, rfl⟩))
                  refine (cR1.out _ o6).mono ?_
                  rintro e w8 ⟨rfl, b8⟩
                  have o8 := (o6.trans' b8).alloc' (.cells #[.int .i64 0, .int .i64 0, .string ByteArray.empty, .slice none 0 0] 32)
                  go_wp2_with (go_at_call 19; refine (cCm.out _ o8).mono ?_; rintro e w9 ⟨rfl, rfl⟩)
                  refine (cR2.out _ o8).mono ?_
                  rintro e w10 ⟨rfl, b10⟩
                  have o10 := (o8.trans' b10).alloc' (.cells #[.int .i64 0, .int .i64 0, .string ByteArray.empty, .slice none 0 0] 32)
                  go_wp2_with (go_at_call 19; refine (cCm.out _ o10).mono ?_; rintro e w11 ⟨rfl, rfl⟩)
                  have PFIN := hide (P2.out.old o10)
                  go_roundw
                  case rel => exact ⟨k + 1, by omega, by go_num, l2, PFIN.out, by omega, hq2⟩
                  case measure => simp [intOf]; omega
                · obtain ⟨kp, hkp⟩ : ∃ j, k2 = j + 1 := ⟨k2 - 1, by omega⟩
                  have hk2e : (k2 : Int) = (kp : Int) + 1 := by omega
                  have cLn := hide (fun (W : World) (hW : Old w6 W) => (p2.old hW).at_.elim fun F hF => Len_ln g F l2 N1 hN2 W hF)
                  have cCm := hide (fun (W : World) (hW : Old w6 W) => (p2.old hW).at_.elim fun F hF => by have := Com_ln g F l2 k2 hk2 W hF; rw [hk2e] at this; exact this)
                  have cR1 := hide (fun (W : World) (hW : Old w6 W) => (p2.old hW).at_.elim fun F hF => LRep_no g F l2 (((kp : Int) + 1) + 1) (by omega) W hF)
                  obtain ⟨c0, hc0⟩ : ∃ c, (l2.rep kp).code = c := ⟨_, rfl⟩
                  obtain ⟨v0, hv0⟩ : ∃ c, (l2.rep kp).ver = c := ⟨_, rfl⟩
                  obtain ⟨d0, hd0⟩ : ∃ c, (l2.rep kp).data = c := ⟨_, rfl⟩
                  have cR2 := hide (fun (W : World) (hW : Old w6 W) => (p2.old hW).at_.elim fun F hF => LRep_yes g F l2 kp (by omega) c0 v0 d0 hc0 hv0 hd0 (by omega) W hF)
                  clear hc0 hv0 hd0
                  have P2 := hide p2
                  have o6 := Old.refl' w6
                  clear p2
                  go_wp2_with (first
                    | (go_at_call 18; refine (cLn.out _ o6).mono ?_; rintro e w7 ⟨rfl, rfl⟩)
                    | (go_at_call 19; refine (cCm.out _ o6).mono ?_; rintro e w7 ⟨rfl, rfl⟩))
                  refine (cR1.out _ o6).mono ?_
                  rintro e w8 ⟨rfl, b8⟩
                  have o8 := (o6.trans' b8).alloc' (.cells #[.int .i64 0, .int .i64 0, .string ByteArray.empty, .slice none 0 0] 32)
                  go_wp2_with (go_at_call 19; refine (cCm.out _ o8).mono ?_; rintro e w9 ⟨rfl, rfl⟩)
                  refine (cR2.out _ o8).mono ?_
                  rintro e w10 ⟨Ar, cr, rfl, b10⟩
                  have o10 := (o8.trans' b10).alloc' (.cells #[.int .i64 c0, .int .i64 v0, .string d0, .slice Ar 0 cr] 32)
                  go_wp2_with (go_at_call 19; refine (cCm.out _ o10).mono ?_; rintro e w11 ⟨rfl, rfl⟩)
                  have PFIN := hide (P2.out.old o10)
                  go_roundw
                  case rel => exact ⟨k + 1, by omega, by go_num, l2, PFIN.out, by omega, hq2⟩
                  case measure => simp [intOf]; omega
              · have cC := hide (pr4.com y 6 l1 (by rw [if_neg (by omega)]) (by rw [if_neg (by omega)]) (by omega))
                clear pr4
                have hcc : y < k1 ∨ (k1 ≤ y ∧ (N1 : Int) < y) := by omega
                clear hc
                rcases hcc with h1 | ⟨h1, h2⟩
                · have h3 : ¬ ((k1 : Int) ≤ y) := by omega
                  as_aux_lemma =>
                  go_wp2_with fail
                  refine cCm1.out.mono ?_
                  rintro e w5 ⟨rfl, rfl⟩
                  go_wp2_with fail
                  refine cC.out.mono ?_
                  rintro e w6 ⟨rfl, p2⟩
                  clear cC cCm1
                  rcases Nat.eq_zero_or_pos k1 with hz | hz
                  · have hk2e : (k1 : Int) = 0 := by omega
                    exfalso; omega
                  · obtain ⟨kp, hkp⟩ : ∃ j, k1 = j + 1 := ⟨k1 - 1, by omega⟩
                    have hk2e : (k1 : Int) = (kp : Int) + 1 := by omega
                    have cLn := hide (fun (W : World) (hW : Old w6 W) => (p2.old hW).at_.elim fun F hF => Len_ln g F l1 N1 hN1 W hF)
                    have cCm := hide (fun (W : World) (hW : Old w6 W) => (p2.old hW).at_.elim fun F hF => by have := Com_ln g F l1 k1 hk1 W hF; rw [hk2e] at this; exact this)
                    have cR1 := hide (fun (W : World) (hW : Old w6 W) => (p2.old hW).at_.elim fun F hF => LRep_no g F l1 (((kp : Int) + 1) + 1) (by omega) W hF)
                    obtain ⟨c0, hc0⟩ : ∃ c, (l1.rep kp).code = c := ⟨_, rfl⟩
                    obtain ⟨v0, hv0⟩ : ∃ c, (l1.rep kp).ver = c := ⟨_, rfl⟩
                    obtain ⟨d0, hd0⟩ : ∃ c, (l1.rep kp).data = c := ⟨_, rfl⟩
                    have cR2 := hide (fun (W : World) (hW : Old w6 W) => (p2.old hW).at_.elim fun F hF => LRep_yes g F l1 kp (by omega) c0 v0 d0 hc0 hv0 hd0 (by omega) W hF)
                    clear hc0 hv0 hd0
                    have P2 := hide p2
                    have o6 := Old.refl' w6
                    clear p2
                    go_wp2_with (first
                      | (go_at_call 18; refine (cLn.out _ o6).mono ?_; rintro e w7 ⟨rfl, rfl⟩)
                      | (go_at_call 19; refine (cCm.out _ o6).mono ?_; rintro e w7 ⟨rfl, rfl⟩))
                    refine (cR1.out _ o6).mono ?_
                    rintro e w8 ⟨rfl, b8⟩
                    have o8 := (o6.trans' b8).alloc' (.cells #[.int .i64 0, .int .i64 0, .string ByteArray.empty, .slice none 0 0] 32)
                    go_wp2_with (go_at_call 19; refine (cCm.out _ o8).mono ?_; rintro e w9 ⟨rfl, rfl⟩)
                    refine (cR2.out _ o8).mono ?_
                    rintro e w10 ⟨Ar, cr, rfl, b10⟩
                    have o10 := (o8.trans' b10).alloc' (.cells #[.int .i64 c0, .int .i64 v0, .string d0, .slice Ar 0 cr] 32)
                    go_wp2_with (go_at_call 19; refine (cCm.out _ o10).mono ?_; rintro e w11 ⟨rfl, rfl⟩)
                    have PFIN := hide (P2.out.old o10)
                    go_roundw
                    case rel => exact ⟨k + 1, by omega, by go_num, l1, PFIN.out, by omega, hq1⟩
                    case measure => simp [intOf]; omega
                · as_aux_lemma =>
                  go_wp2_with fail
                  refine cCm1.out.mono ?_
                  rintro e w5 ⟨rfl, rfl⟩
                  go_wp2_with fail
                  refine cC.out.mono ?_
                  rintro e w6 ⟨rfl, p2⟩
                  clear cC cCm1
                  rcases Nat.eq_zero_or_pos k1 with hz | hz
                  · have hk2e : (k1 : Int) = 0 := by omega
                    have cLn := hide (fun (W : World) (hW : Old w6 W) => (p2.old hW).at_.elim fun F hF => Len_ln g F l1 N1 hN1 W hF)
                    have cCm := hide (fun (W : World) (hW : Old w6 W) => (p2.old hW).at_.elim fun F hF => by have := Com_ln g F l1 k1 hk1 W hF; rw [hk2e] at this; exact this)
                    have cR1 := hide (fun (W : World) (hW : Old w6 W) => (p2.old hW).at_.elim fun F hF => LRep_no g F l1 (0 + 1) (by omega) W hF)
                    have cR2 := hide (fun (W : World) (hW : Old w6 W) => (p2.old hW).at_.elim fun F hF => LRep_no g F l1 0 (by omega) W hF)
                    have P2 := hide p2
                    have o6 := Old.refl' w6
                    clear p2
                    go_wp2_with (first
                      | (go_at_call 18; refine (cLn.out _ o6).mono ?_; rintro e w7 ⟨rfl, rfl⟩)
                      | (go_at_call 19; refine (cCm.out _ o6).mono ?_; rintro e w7 ⟨rfl, rfl⟩))
                    refine (cR1.out _ o6).mono ?_
                    rintro e w8 ⟨rfl, b8⟩
                    have o8 := (o6.trans' b8).alloc' (.cells #[.int .i64 0, .int .i64 0, .string ByteArray.empty, .slice none 0 0] 32)
                    go_wp2_with (go_at_call 19; refine (cCm.out _ o8).mono ?_; rintro e w9 ⟨rfl, rfl⟩)
                    refine (cR2.out _ o8).mono ?_
                    rintro e w10 ⟨rfl, b10⟩
                    have o10 := (o8.trans' b10).alloc' (.cells #[.int .i64 0, .int .i64 0, .string ByteArray.empty, .slice none 0 0] 32)
                    go_wp2_with (go_at_call 19; refine (cCm.out _ o10).mono ?_; rintro e w11 ⟨rfl, rfl⟩)
                    have PFIN := hide (P2.out.old o10)
                    go_roundw
                    case rel => exact ⟨k + 1, by omega, by go_num, l1, PFIN.out, by omega, hq1⟩
                    case measure => simp [intOf]; omega
                  · obtain ⟨kp, hkp⟩ : ∃ j, k1 = j + 1 := ⟨k1 - 1, by omega⟩
                    have hk2e : (k1 : Int) = (kp : Int) + 1 := by omega
                    have cLn := hide (fun (W : World) (hW : Old w6 W) => (p2.old hW).at_.elim fun F hF => Len_ln g F l1 N1 hN1 W hF)
                    have cCm := hide (fun (W : World) (hW : Old w6 W) => (p2.old hW).at_.elim fun F hF => by have := Com_ln g F l1 k1 hk1 W hF; rw [hk2e] at this; exact this)
                    have cR1 := hide (fun (W : World) (hW : Old w6 W) => (p2.old hW).at_.elim fun F hF => LRep_no g F l1 (((kp : Int) + 1) + 1) (by omega) W hF)
                    obtain ⟨c0, hc0⟩ : ∃ c, (l1.rep kp).code = c := ⟨_, rfl⟩
                    obtain ⟨v0, hv0⟩ : ∃ c, (l1.rep kp).ver = c := ⟨_, rfl⟩
                    obtain ⟨d0, hd0⟩ : ∃ c, (l1.rep kp).data = c := ⟨_, rfl⟩
                    have cR2 := hide (fun (W : World) (hW : Old w6 W) => (p2.old hW).at_.elim fun F hF => LRep_yes g F l1 kp (by omega) c0 v0 d0 hc0 hv0 hd0 (by omega) W hF)
                    clear hc0 hv0 hd0
                    have P2 := hide p2
                    have o6 := Old.refl' w6
                    clear p2
                    go_wp2_with (first
                      | (go_at_call 18; refine (cLn.out _ o6).mono ?_; rintro e w7 ⟨rfl, rfl⟩)
                      | (go_at_call 19; refine (cCm.out _ o6).mono ?_; rintro e w7 ⟨rfl, rfl⟩))
                    refine (cR1.out _ o6).mono ?_
                    rintro e w8 ⟨rfl, b8⟩
                    have o8 := (o6.trans' b8).alloc' (.cells #[.int .i64 0, .int .i64 0, .string ByteArray.empty, .slice none 0 0] 32)
                    go_wp2_with (go_at_call 19; refine (cCm.out _ o8).mono ?_; rintro e w9 ⟨rfl, rfl⟩)
                    refine (cR2.out _ o8).mono ?_
                    rintro e w10 ⟨Ar, cr, rfl, b10⟩
                    have o10 := (o8.trans' b10).alloc' (.cells #[.int .i64 c0, .int .i64 v0, .string d0, .slice Ar 0 cr] 32)
                    go_wp2_with (go_at_call 19; refine (cCm.out _ o10).mono ?_; rintro e w11 ⟨rfl, rfl⟩)
                    have PFIN := hide (P2.out.old o10)
                    go_roundw
                    case rel => exact ⟨k + 1, by omega, by go_num, l1, PFIN.out, by omega, hq1⟩
                    case measure => simp [intOf]; omega
            · have hb0 : bits .and .i64 (k : Int) 1 = 1 := by rw [hbit]; omega
              clear hbit
              have cCm1 := hide (pr4.at_.elim fun F hF => Com_ln g F l1 k1 hk1 w4 hF)
              by_cases hc : (k1 : Int) ≤ nv ∧ nv ≤ N1
              · as_aux_lemma =>
                obtain ⟨h1, h2⟩ := hc
                obtain ⟨k2, rfl⟩ : ∃ j : Nat, nv = j := ⟨(nv).toNat, by omega⟩
                obtain ⟨l2, hl2⟩ : ∃ l, l1.commit k2 = l := ⟨_, rfl⟩
                have hk2 : l2.k = k2 := by rw [← hl2]; rfl
                have hN2 : l2.qs.length = N1 := by rw [← hl2]; exact hN1
                have hq2 : l2.quota = 6 := by rw [← hl2]; exact hq1
                have cC := hide (pr4.com (k2 : Int) 0 l2 (by rw [if_pos ⟨by omega, by omega⟩]) (by rw [if_pos ⟨by omega, by omega⟩, Int.toNat_natCast, hl2]) (by omega))
                clear pr4 hl2
                go_wp2_with fail
                refine cCm1.out.mono ?_
                rintro e w5 ⟨rfl, rfl⟩
                go_wp2_with fail
                refine cC.out.mono ?_
                rintro e w6 ⟨rfl, p2⟩
                clear cC cCm1
                rcases Nat.eq_zero_or_pos k2 with hz | hz
                · have hk2e : (k2 : Int) = 0 := by omega
                  have cLn := hide (fun (W : World) (hW : Old w6 W) => (p2.old hW).at_.elim fun F hF => Len_ln g F l2 N1 hN2 W hF)
                  have cCm := hide (fun (W : World) (hW : Old w6 W) => (p2.old hW).at_.elim fun F hF => by have := Com_ln g F l2 k2 hk2 W hF; rw [hk2e] at this; exact this)
                  have cR1 := hide (fun (W : World) (hW : Old w6 W) => (p2.old hW).at_.elim fun F hF => LRep_no g F l2 (0 + 1) (by omega) W hF)
                  have cR2 := hide (fun (W : World) (hW : Old w6 W) => (p2.old hW).at_.elim fun F hF => LRep_no g F l2 0 (by omega) W hF)
                  have P2 := hide p2
                  have o6 := Old.refl' w6
                  clear p2
                  go_wp2_with (first
                    | (go_at_call 18; refine (cLn.out _ o6).mono ?_; rintro e w7 ⟨rfl, rfl⟩)
                    | (go_at_call 19; refine (cCm.out _ o6).mono ?_; rintro e w7 ⟨rfl, rfl⟩))
                  refine (cR1.out _ o6).mono ?_
                  rintro e w8 ⟨rfl, b8⟩
                  have o8 := (o6.trans' b8).alloc' (.cells #[.int .i64 0, .int .i64 0, .string ByteArray.empty, .slice none 0 0] 32)
                  go_wp2_with (go_at_call 19; refine (cCm.out _ o8).mono ?_; rintro e w9 ⟨rfl, rfl⟩)
                  refine (cR2.out _ o8).mono ?_
                  rintro e w10 ⟨rfl, b10⟩
                  have o10 := (o8.trans' b10).alloc' (.cells #[.int .i64 0, .int .i64 0, .string ByteArray.empty, .slice none 0 0] 32)
                  go_wp2_with (go_at_call 19; refine (cCm.out _ o10).mono ?_; rintro e w11 ⟨rfl, rfl⟩)
                  have PFIN := hide (P2.out.old o10)
                  go_roundw
                  case rel => exact ⟨k + 1, by omega, by go_num, l2, PFIN.out, by omega, hq2⟩
                  case measure => simp [intOf]; omega
                · obtain ⟨kp, hkp⟩ : ∃ j, k2 = j + 1 := ⟨k2 - 1, by omega⟩
                  have hk2e : (k2 : Int) = (kp : Int) + 1 := by omega
                  have cLn := hide (fun (W : World) (hW : Old w6 W) => (p2.old hW).at_.elim fun F hF => Len_ln g F l2 N1 hN2 W hF)
                  have cCm := hide (fun (W : World) (hW : Old w6 W) => (p2.old hW).at_.elim fun F hF => by have := Com_ln g F l2 k2 hk2 W hF; rw [hk2e] at this; exact this)
                  have cR1 := hide (fun (W : World) (hW : Old w6 W) => (p2.old hW).at_.elim fun F hF => LRep_no g F l2 (((kp : Int) + 1) + 1) (by omega) W hF)
                  obtain ⟨c0, hc0⟩ : ∃ c, (l2.rep kp).code = c := ⟨_, rfl⟩
                  obtain ⟨v0, hv0⟩ : ∃ c, (l2.rep kp).ver = c := ⟨_, rfl⟩
                  obtain ⟨d0, hd0⟩ : ∃ c, (l2.rep kp).data = c := ⟨_, rfl⟩
                  have cR2 := hide (fun (W : World) (hW : Old w6 W) => (p2.old hW).at_.elim fun F hF => LRep_yes g F l2 kp (by omega) c0 v0 d0 hc0 hv0 hd0 (by omega) W hF)
                  clear hc0 hv0 hd0
                  have P2 := hide p2
                  have o6 := Old.refl' w6
                  clear p2
                  go_wp2_with (first
                    | (go_at_call 18; refine (cLn.out _ o6).mono ?_; rintro e w7 ⟨rfl, rfl⟩)
                    | (go_at_call 19; refine (cCm.out _ o6).mono ?_; rintro e w7 ⟨rfl, rfl⟩))
                  refine (cR1.out _ o6).mono ?_
                  rintro e w8 ⟨rfl, b8⟩
                  have o8 := (o6.trans' b8).alloc' (.cells #[.int .i64 0, .int .i64 0, .string ByteArray.empty, .slice none 0 0] 32)
                  go_wp2_with (go_at_call 19; refine (cCm.out _ o8).mono ?_; rintro e w9 ⟨rfl, rfl⟩)
                  refine (cR2.out _ o8).mono ?_
                  rintro e w10 ⟨Ar, cr, rfl, b10⟩
                  have o10 := (o8.trans' b10).alloc' (.cells #[.int .i64 c0, .int .i64 v0, .string d0, .slice Ar 0 cr] 32)
                  go_wp2_with (go_at_call 19; refine (cCm.out _ o10).mono ?_; rintro e w11 ⟨rfl, rfl⟩)
                  have PFIN := hide (P2.out.old o10)
                  go_roundw
                  case rel => exact ⟨k + 1, by omega, by go_num, l2, PFIN.out, by omega, hq2⟩
                  case measure => simp [intOf]; omega
              · have cC := hide (pr4.com nv 6 l1 (by rw [if_neg (by omega)]) (by rw [if_neg (by omega)]) (by omega))
                clear pr4
                have hcc : nv < k1 ∨ (k1 ≤ nv ∧ (N1 : Int) < nv) := by omega
                clear hc
                rcases hcc with h1 | ⟨h1, h2⟩
                · have h3 : ¬ ((k1 : Int) ≤ nv) := by omega
                  as_aux_lemma =>
                  go_wp2_with fail
                  refine cCm1.out.mono ?_
                  rintro e w5 ⟨rfl, rfl⟩
                  go_wp2_with fail
                  refine cC.out.mono ?_
                  rintro e w6 ⟨rfl, p2⟩
                  clear cC cCm1
                  rcases Nat.eq_zero_or_pos k1 with hz | hz
                  · have hk2e : (k1 : Int) = 0 := by omega
                    have cLn := hide (fun (W : World) (hW : Old w6 W) => (p2.old hW).at_.elim fun F hF => Len_ln g F l1 N1 hN1 W hF)
                    have cCm := hide (fun (W : World) (hW : Old w6 W) => (p2.old hW).at_.elim fun F hF => by have := Com_ln g F l1 k1 hk1 W hF; rw [hk2e] at this; exact this)
                    have cR1 := hide (fun (W : World) (hW : Old w6 W) => (p2.old hW).at_.elim fun F hF => LRep_no g F l1 (0 + 1) (by omega) W hF)
                    have cR2 := hide (fun (W : World) (hW : Old w6 W) => (p2.old hW).at_.elim fun F hF => LRep_no g F l1 0 (by omega) W hF)
                    have P2 := hide p2
                    have o6 := Old.refl' w6
                    clear p2
                    go_wp2_with (first
                      | (go_at_call 18; refine (cLn.out _ o6).mono ?_; rintro e w7 ⟨rfl, rfl⟩)
                      | (go_at_call 19; refine (cCm.out _ o6).mono ?_; rintro e w7 ⟨rfl, rfl⟩))
                    refine (cR1.out _ o6).mono ?_
                    rintro e w8 ⟨rfl, b8⟩
                    have o8 := (o6.trans' b8).alloc' (.cells #[.int .i64 0, .int .i64 0, .string ByteArray.empty, .slice none 0 0] 32)
                    go_wp2_with (go_at_call 19; refine (cCm.out _ o8).mono ?_; rintro e w9 ⟨rfl, rfl⟩)
                    refine (cR2.out _ o8).mono ?_
                    rintro e w10 ⟨rfl, b10⟩
                    have o10 := (o8.trans' b10).alloc' (.cells #[.int .i64 0, .int .i64 0, .string ByteArray.empty, .slice none 0 0] 32)
                    go_wp2_with (go_at_call 19; refine (cCm.out _ o10).mono ?_; rintro e w11 ⟨rfl, rfl⟩)
                    have PFIN := hide (P2.out.old o10)
                    go_roundw
                    case rel => exact ⟨k + 1, by omega, by go_num, l1, PFIN.out, by omega, hq1⟩
                    case measure => simp [intOf]; omega
                  · obtain ⟨kp, hkp⟩ : ∃ j, k1 = j + 1 := ⟨k1 - 1, by omega⟩
                    have hk2e : (k1 : Int) = (kp : Int) + 1 := by omega
                    have cLn := hide (fun (W : World) (hW : Old w6 W) => (p2.old hW).at_.elim fun F hF => Len_ln g F l1 N1 hN1 W hF)
                    have cCm := hide (fun (W : World) (hW : Old w6 W) => (p2.old hW).at_.elim fun F hF => by have := Com_ln g F l1 k1 hk1 W hF; rw [hk2e] at this; exact this)
                    have cR1 := hide (fun (W : World) (hW : Old w6 W) => (p2.old hW).at_.elim fun F hF => LRep_no g F l1 (((kp : Int) + 1) + 1) (by omega) W hF)
                    obtain ⟨c0, hc0⟩ : ∃ c, (l1.rep kp).code = c := ⟨_, rfl⟩
                    obtain ⟨v0, hv0⟩ : ∃ c, (l1.rep kp).ver = c := ⟨_, rfl⟩
                    obtain ⟨d0, hd0⟩ : ∃ c, (l1.rep kp).data = c := ⟨_, rfl⟩
                    have cR2 := hide (fun (W : World) (hW : Old w6 W) => (p2.old hW).at_.elim fun F hF => LRep_yes g F l1 kp (by omega) c0 v0 d0 hc0 hv0 hd0 (by omega) W hF)
                    clear hc0 hv0 hd0
                    have P2 := hide p2
                    have o6 := Old.refl' w6
                    clear p2
                    go_wp2_with (first
                      | (go_at_call 18; refine (cLn.out _ o6).mono ?_; rintro e w7 ⟨rfl, rfl⟩)
                      | (go_at_call 19; refine (cCm.out _ o6).mono ?_; rintro e w7 ⟨rfl, rfl⟩))
                    refine (cR1.out _ o6).mono ?_
                    rintro e w8 ⟨rfl, b8⟩
                    have o8 := (o6.trans' b8).alloc' (.cells #[.int .i64 0, .int .i64 0, .string ByteArray.empty, .slice none 0 0] 32)
                    go_wp2_with (go_at_call 19; refine (cCm.out _ o8).mono ?_; rintro e w9 ⟨rfl, rfl⟩)
                    refine (cR2.out _ o8).mono ?_
                    rintro e w10 ⟨Ar, cr, rfl, b10⟩
                    have o10 := (o8.trans' b10).alloc' (.cells #[.int .i64 c0, .int .i64 v0, .string d0, .slice Ar 0 cr] 32)
                    go_wp2_with (go_at_call 19; refine (cCm.out _ o10).mono ?_; rintro e w11 ⟨rfl, rfl⟩)
                    have PFIN := hide (P2.out.old o10)
                    go_roundw
                    case rel => exact ⟨k + 1, by omega, by go_num, l1, PFIN.out, by omega, hq1⟩
                    case measure => simp [intOf]; omega
                · as_aux_lemma =>
                  go_wp2_with fail
                  refine cCm1.out.mono ?_
                  rintro e w5 ⟨rfl, rfl⟩
                  go_wp2_with fail
                  refine cC.out.mono ?_
                  rintro e w6 ⟨rfl, p2⟩
                  clear cC cCm1
                  rcases Nat.eq_zero_or_pos k1 with hz | hz
                  · have hk2e : (k1 : Int) = 0 := by omega
                    have cLn := hide (fun (W : World) (hW : Old w6 W) => (p2.old hW).at_.elim fun F hF => Len_ln g F l1 N1 hN1 W hF)
                    have cCm := hide (fun (W : World) (hW : Old w6 W) => (p2.old hW).at_.elim fun F hF => by have := Com_ln g F l1 k1 hk1 W hF; rw [hk2e] at this; exact this)
                    have cR1 := hide (fun (W : World) (hW : Old w6 W) => (p2.old hW).at_.elim fun F hF => LRep_no g F l1 (0 + 1) (by omega) W hF)
                    have cR2 := hide (fun (W : World) (hW : Old w6 W) => (p2.old hW).at_.elim fun F hF => LRep_no g F l1 0 (by omega) W hF)
                    have P2 := hide p2
                    have o6 := Old.refl' w6
                    clear p2
                    go_wp2_with (first
                      | (go_at_call 18; refine (cLn.out _ o6).mono ?_; rintro e w7 ⟨rfl, rfl⟩)
                      | (go_at_call 19; refine (cCm.out _ o6).mono ?_; rintro e w7 ⟨rfl, rfl⟩))
                    refine (cR1.out _ o6).mono ?_
                    rintro e w8 ⟨rfl, b8⟩
                    have o8 := (o6.trans' b8).alloc' (.cells #[.int .i64 0, .int .i64 0, .string ByteArray.empty, .slice none 0 0] 32)
                    go_wp2_with (go_at_call 19; refine (cCm.out _ o8).mono ?_; rintro e w9 ⟨rfl, rfl⟩)
                    refine (cR2.out _ o8).mono ?_
                    rintro e w10 ⟨rfl, b10⟩
                    have o10 := (o8.trans' b10).alloc' (.cells #[.int .i64 0, .int .i64 0, .string ByteArray.empty, .slice none 0 0] 32)
                    go_wp2_with (go_at_call 19; refine (cCm.out _ o10).mono ?_; rintro e w11 ⟨rfl, rfl⟩)
                    have PFIN := hide (P2.out.old o10)
                    go_roundw
                    case rel => exact ⟨k + 1, by omega, by go_num, l1, PFIN.out, by omega, hq1⟩
                    case measure => simp [intOf]; omega
                  · obtain ⟨kp, hkp⟩ : ∃ j, k1 = j + 1 := ⟨k1 - 1, by omega⟩
                    have hk2e : (k1 : Int) = (kp : Int) + 1 := by omega
                    have cLn := hide (fun (W : World) (hW : Old w6 W) => (p2.old hW).at_.elim fun F hF => Len_ln g F l1 N1 hN1 W hF)
                    have cCm := hide (fun (W : World) (hW : Old w6 W) => (p2.old hW).at_.elim fun F hF => by have := Com_ln g F l1 k1 hk1 W hF; rw [hk2e] at this; exact this)
                    have cR1 := hide (fun (W : World) (hW : Old w6 W) => (p2.old hW).at_.elim fun F hF => LRep_no g F l1 (((kp : Int) + 1) + 1) (by omega) W hF)
                    obtain ⟨c0, hc0⟩ : ∃ c, (l1.rep kp).code = c := ⟨_, rfl⟩
                    obtain ⟨v0, hv0⟩ : ∃ c, (l1.rep kp).ver = c := ⟨_, rfl⟩
                    obtain ⟨d0, hd0⟩ : ∃ c, (l1.rep kp).data = c := ⟨_, rfl⟩
                    have cR2 := hide (fun (W : World) (hW : Old w6 W) => (p2.old hW).at_.elim fun F hF => LRep_yes g F l1 kp (by omega) c0 v0 d0 hc0 hv0 hd0 (by omega) W hF)
                    clear hc0 hv0 hd0
                    have P2 := hide p2
                    have o6 := Old.refl' w6
                    clear p2
                    go_wp2_with (first
                      | (go_at_call 18; refine (cLn.out _ o6).mono ?_; rintro e w7 ⟨rfl, rfl⟩)
                      | (go_at_call 19; refine (cCm.out _ o6).mono ?_; rintro e w7 ⟨rfl, rfl⟩))
                    refine (cR1.out _ o6).mono ?_
                    rintro e w8 ⟨rfl, b8⟩
                    have o8 := (o6.trans' b8).alloc' (.cells #[.int .i64 0, .int .i64 0, .string ByteArray.empty, .slice none 0 0] 32)
                    go_wp2_with (go_at_call 19; refine (cCm.out _ o8).mono ?_; rintro e w9 ⟨rfl, rfl⟩)
                    refine (cR2.out _ o8).mono ?_
                    rintro e w10 ⟨Ar, cr, rfl, b10⟩
                    have o10 := (o8.trans' b10).alloc' (.cells #[.int .i64 c0, .int .i64 v0, .string d0, .slice Ar 0 cr] 32)
                    go_wp2_with (go_at_call 19; refine (cCm.out _ o10).mono ?_; rintro e w11 ⟨rfl, rfl⟩)
                    have PFIN := hide (P2.out.old o10)
                    go_roundw
                    case rel => exact ⟨k + 1, by omega, by go_num, l1, PFIN.out, by omega, hq1⟩
                    case measure => simp [intOf]; omega
          · have PFIN := hide pr4
            clear pr4
            obtain ⟨l2, hl2⟩ : ∃ l, l = l1 := ⟨_, rfl⟩
            rw [← hl2] at PFIN hlen1 hq1
            have hq2 := hq1
            have hlen2 := hlen1
            clear hl2
            go_wp2_with fail
            go_roundw
            case rel => exact ⟨k + 1, by omega, by go_num, l2, PFIN.out, by omega, hq2⟩
            case measure => simp [intOf]; omega
        · go_wp2_with (go_at_call 12; refine (told18_any _).mono ?_; rintro e w9 ⟨rfl, b9⟩)
          go_ret
          exact ⟨rfl, (pr.old b9).o⟩
      · obtain rfl : k = n := by omega
        obtain ⟨k2, hk2⟩ : ∃ N, l0.k = N := ⟨_, rfl⟩
        obtain ⟨F, hF⟩ := pr.at_
        have hst : l0.st.n = k2 := by rw [LnV.st_n hF.ok hF.kl, hk2]
        obtain ⟨W9, hW9⟩ : ∃ W : World, W = wr := ⟨_, rfl⟩
        rw [← hW9] at pr hF
        simp only [← hW9]
        clear hW9
        have cSt := hide (LSto_ln g F l0 (by omega) (by omega) W9 hF)
        have cCm := hide (fun (W : World) (hW : Old W9 W) => Com_ln g F l0 k2 hk2 W (hF.old hW))
        have cN := hide (fun (w0 W : World) (gt : Nat) (h : One w0 W gt l0.st) => h.elim fun F hF => by have := Len_st gt F l0.st W hF.1; rw [hst] at this; exact this)
        have HO := hide pr.o
        clear hF pr hst
        go_wp2_with fail
        refine cSt.out.mono ?_
        rintro e w2 ⟨gs, rfl, s2⟩
        go_wp2_with (first
          | (go_at_call 12; refine (told18_any _).mono ?_; rintro e w7 ⟨rfl, b7⟩; have s7 := s2.old b7)
          | (go_at_call 28; refine (cN.out _ _ _ s7).mono ?_; rintro e w8 ⟨rfl, rfl⟩)
          | (go_at_call 19; refine (cCm.out _ s7.o).mono ?_; rintro e w9 ⟨rfl, rfl⟩))
        go_ret
        exact ⟨rfl, HO.out.trans' s7.o⟩
  · go_enter Try.func5, Try.ntmps5
    go_wp2_with fail
    refine cN.out.mono ?_
    rintro e w1 ⟨g, rfl, hp, -⟩
    have hO := hp.o
    go_wp2_with (go_at_call 12; refine (told18_any _).mono ?_; rintro e w4 ⟨rfl, b4⟩)
    go_ret
    exact ⟨rfl, hO.trans' b4⟩
end Go.Proofs.Ytmhnlpilbbfgnaa
