/- casebooklaw18.LineFollows: the walk. -/
import Derived.Test.YtmhnlpilbbfgnaaHLnX
import Derived.Test.YtmhnlpilbbfgnaaHLi
namespace Go.Proofs.Ytmhnlpilbbfgnaa
open Go.RowKit

theorem own_ge {w : World} {base : Nat} {e : TypeId} {size n c k : Nat} {A : Option Addr} {xs : List Value} (h : w.ownsRow base e size (.slice A n c) k xs) {a : Addr} (ha : A = some a) : base ≤ a.block := by
  subst ha
  exact (own_blk h (k := a.block) rfl).1
theorem umod9 (x : Int) : ∃ y : Nat, wrap64 ((IntKind.u64.wrap x).tmod 9) = (y : Int) ∧ y < 9 := by
  have h0 : 0 ≤ IntKind.u64.wrap x := by rw [IntKind.wrap_u64]; omega
  rw [Int.tmod_eq_emod_of_nonneg h0]
  have h1 := Int.emod_nonneg (IntKind.u64.wrap x) (show (9 : Int) ≠ 0 by omega)
  have h2 := Int.emod_lt_of_pos (IntKind.u64.wrap x) (show (0 : Int) < 9 by omega)
  rw [IntWalk.wrap64_in _ ⟨by omega, by omega⟩]
  exact ⟨(IntKind.u64.wrap x % 9).toNat, by omega, by omega⟩
theorem Same_noneL (r : Rep) (A B : Option Addr) (ca cb : Nat) (w : World) :
    Calls Try.prog 29 #[.agg #[.int .i64 r.code, .int .i64 r.ver, .string r.data, .slice A 0 ca], .agg #[.int .i64 r.code, .int .i64 r.ver, .string r.data, .slice B 0 cb]] w fun e w' => e = .returned (.bool true) ∧ Old w w' := by
  have := SameReply_any ⟨r.code, r.ver, r.data, []⟩ ⟨r.code, r.ver, r.data, []⟩ A B 0 0 ca cb w (CellsAt.nil _ _) (CellsAt.nil _ _) rfl rfl (by omega) (by omega)
  rwa [(Rep.same_iff _ _).2 rfl] at this

set_option maxRecDepth 100000 in
set_option maxHeartbeats 3000000 in
theorem LFollows_walk (A0 : Option Addr) (n c0 : Nat) (qs : List ReqV) (B0 : Option Addr) (m0 cm : Nat) (ns : List Int) (hl : n = qs.length) (hn : n ≤ 9223372036854775807) (hl2 : m0 = ns.length) (hm0 : m0 ≤ 9223372036854775807) (w : World) (hQ : ReqsAt w A0 qs) (hI : IntsAt w B0 ns) :
    Calls Try.prog 6 #[.slice A0 n c0, .slice B0 m0 cm] w fun e w' => e = .returned (.bool true) ∧ Old w w' := by
  have HL := hide hl
  have HL2 := hide hl2
  clear hl hl2
  have cN := hide (LOne.new (D := []) 6 (by omega) (Old.refl' w) (fun d hd => by simp at hd))
  have cN2 := hide (fun (W : World) (g : Nat) (h : LOne w W g (LnV.new 6) []) => LTwo.new 6 (by omega) h)
  by_cases hgo : n ≤ 60
  · have hn60' : (n : Int) ≤ 60 := by omega
    go_enter Try.func6, Try.ntmps6
    go_wp2_with fail
    refine cN.out.mono ?_
    rintro e w1 ⟨g, rfl, hp, -⟩
    go_wp2_with fail
    refine (cN2.out _ g hp).mono ?_
    rintro e w2 ⟨gb, rfl, hp2⟩
    clear hp
    have hp : LTwo w w2 g gb (runL 6 (qs.take 0)) (LnV.new 6) [] := hp2
    clear hp2
    go_wp2_with fail
    go_loopw [9] (fun iv wr => ∃ k : Nat, k ≤ n ∧ iv = .int .i64 k ∧ LTwo w wr g gb (runL 6 (qs.take k)) (LnV.new 6) []) (fun iv _ => n - (intOf iv).toNat)
    case atStart => exact ⟨0, Nat.zero_le _, rfl, hp⟩
    case round =>
      clear hp
      obtain ⟨k, hk, rfl, pr⟩ := hrel
      by_cases hlt : k < n
      · have hkq : k < qs.length := by have := HL.out; omega
        obtain ⟨b, o, rfl, hb, hc⟩ := hQ.at5 (k := k) hkq
        obtain ⟨x, hx⟩ : ∃ x, qs[k]?.getD default = x := ⟨_, rfl⟩
        rw [hx] at hc
        have hxx : qs[k] = x := by rw [List.getElem?_eq_getElem hkq] at hx; simpa using hx
        have htk : runL 6 (qs.take (k + 1)) = (runL 6 (qs.take k)).put x := by rw [List.take_succ_eq_append_getElem hkq, hxx, runL_snoc]
        have HTK := hide htk
        obtain ⟨-, -, -, hsn⟩ := runL_ok 6 (qs.take k)
        rw [List.length_take] at hsn
        obtain ⟨l0, hl0⟩ : ∃ s, runL 6 (qs.take k) = s := ⟨_, rfl⟩
        rw [hl0] at pr hsn htk
        have hW := pr.o
        have x0 : wr.cell? ⟨b, o + k * 6, none⟩ = some (.int .i64 x.client) := (hW.cell (p := ⟨b, o + k * 6, none⟩) hb).trans (hc 0 _ (by omega) rfl)
        have x1 := (hW.cell (p := ⟨b, o + k * 6 + 1, none⟩) hb).trans (hc 1 _ (by omega) rfl)
        have x2 := (hW.cell (p := ⟨b, o + k * 6 + 2, none⟩) hb).trans (hc 2 _ (by omega) rfl)
        have x3 := (hW.cell (p := ⟨b, o + k * 6 + 3, none⟩) hb).trans (hc 3 _ (by omega) rfl)
        have x4 := (hW.cell (p := ⟨b, o + k * 6 + 4, none⟩) hb).trans (hc 4 _ (by omega) rfl)
        have x5 := (hW.cell (p := ⟨b, o + k * 6 + 5, none⟩) hb).trans (hc 5 _ (by omega) rfl)
        clear hc hW hx hxx
        by_cases hs : x.data.size ≤ 100
        · obtain ⟨N0, hN0⟩ : ∃ N, l0.qs.length = N := ⟨_, rfl⟩
          obtain ⟨l1, hl1⟩ : ∃ l, l0.put x = l := ⟨_, rfl⟩
          have HS1 := hide (show (runL 6 (qs.take k)).put x = l1 by rw [hl0, hl1])
          obtain ⟨AT, hAT⟩ : ∃ a : Int, (l0.at_ x : Int) = a := ⟨_, rfl⟩
          obtain ⟨E, hE⟩ : ∃ a : Int, l0.err x = a := ⟨_, rfl⟩
          have cP := hide (pr.put N0 hN0 (by omega) x AT E l1 hAT hE hl1)
          clear htk hl0 hAT hE hl1 hN0
          go_wp2_with fail
          refine cP.out.mono ?_
          rintro e w4 ⟨rfl, pr4⟩
          have hfin := hide pr4
          clear x0 x1 x2 x3 x4 x5 pr4 pr
          go_wp2_with fail
          go_roundw
          case rel => exact ⟨k + 1, by omega, by go_num, by rw [HTK.out, HS1.out]; exact hfin.out⟩
          case measure => simp [intOf]; omega
        · clear htk hl0
          go_wp2_with (go_at_call 12; refine (told18_any _).mono ?_; rintro e w9 ⟨rfl, b9⟩)
          go_ret
          exact ⟨rfl, (pr.old b9).o⟩
      · obtain rfl : k = n := by omega
        obtain ⟨hok, hq6, hk0, hsn⟩ := runL_ok 6 (qs.take k)
        rw [List.length_take] at hsn
        obtain ⟨la, hla⟩ : ∃ s, runL 6 (qs.take k) = s := ⟨_, rfl⟩
        rw [hla] at pr hok hsn hq6 hk0
        clear hla
        obtain ⟨L, hL⟩ : ∃ L, la.qs = L := ⟨_, rfl⟩
        rw [hL] at hok hsn
        obtain ⟨N, hN⟩ : ∃ N, L.length = N := ⟨_, rfl⟩
        have hN60 : (N : Int) ≤ 60 := by omega
        have hN60' : N ≤ 60 := by omega
        have hla : la = ⟨6, L, 0⟩ := by rw [← hq6, ← hk0, ← hL]
        have HLA := hide hla
        have HOK := hide hok
        have HN := hide hN
        have hlN : la.qs.length = N := by rw [hL]; exact hN
        have HLQ := hide hL
        clear hok hq6 hk0 hsn hN hla hL
        obtain ⟨nq, hnq⟩ : ∃ x, x = k := ⟨_, rfl⟩
        rw [← hnq] at hn60'
        simp only [← hnq]
        clear hnq
        go_wp2_with fail
        go_loopw [10] (fun iv wr => ∃ i bl : Nat, i ≤ 200 ∧ bl ≤ N ∧ iv = .int .i64 i ∧ LTwo w wr g gb la ⟨6, L.take bl, 0⟩ [] ∧ i ≤ bl) (fun iv _ => 200 - (intOf iv).toNat)
        case atStart => exact ⟨0, 0, by omega, by omega, rfl, pr, by omega⟩
        case round =>
          clear pr
          obtain ⟨i, bl, hi, hbl, rfl, pr, hib⟩ := hrel
          have hlb : (⟨6, L.take bl, 0⟩ : LnV).qs.length = bl := by show (L.take bl).length = bl; rw [List.length_take]; have := HN.out; omega
          have cLb0 := hide (pr.b.elim fun F hF => Len_ln gb F _ bl hlb wr hF)
          have cLa0 := hide (pr.a.elim fun F hF => Len_ln g F la N hlN wr hF)
          by_cases hgo2 : i < 200 ∧ bl < N
          · obtain ⟨g1, g2⟩ := hgo2
            go_wp2_with fail
            refine cLb0.out.mono ?_
            rintro e w3 ⟨rfl, rfl⟩
            go_wp2_with fail
            refine cLa0.out.mono ?_
            rintro e w3 ⟨rfl, rfl⟩
            go_upto_if 84 with fail
            go_cut [10, 11] from 85 to 92 (fun iv kv w' => iv = .int .i64 i ∧ w' = wr ∧ ∃ kk : Nat, kv = .int .i64 kk ∧ 1 ≤ kk ∧ kk ≤ 9)
            case first =>
              by_cases him : i < m0
              · obtain ⟨b2, o2, rfl, hb2, hz⟩ := hI.at_ (k := i) (by have := HL2.out; omega)
                obtain ⟨nv, hnv⟩ : ∃ v, ns[i]?.getD 0 = v := ⟨_, rfl⟩
                rw [hnv] at hz
                have hz4 := (pr.o.cell (p := ⟨b2, o2 + i, none⟩) hb2).trans hz
                obtain ⟨y, hy, hy9⟩ := umod9 nv
                clear hnv hz
                go_wp2_with fail
                go_meet
                case rel => exact ⟨rfl, rfl, 1 + y, by simp, by omega, by omega⟩
              · go_wp2_with fail
                go_meet
                case rel => exact ⟨rfl, rfl, 1, rfl, by omega, by omega⟩
            case rest =>
              obtain ⟨rfl, rfl, kk, rfl, hk1, hk9⟩ := hcut
              obtain ⟨f, hf⟩ : ∃ f : Nat, f = bl - kk / 3 := ⟨_, rfl⟩
              have hmax : (if (kk : Int) / 3 < (bl : Int) then (bl : Int) - (kk : Int) / 3 else (0 : Int)) = f := by split <;> omega
              have hkI : (kk : Int) ≤ 9 := by omega
              have hblI : (bl : Int) ≤ 60 := by omega
              have hfb : f ≤ bl := by omega
              have hfs : bl + 1 ≤ f + kk ∨ N ≤ f + kk := by omega
              have hfN : f < N := by omega
              have cS := hide (pr.a.elim fun G hG => by have := Since_ln g G la N f kk hlN (by omega) (by omega) (by omega) wc hG; rw [HLQ.out] at this; exact this)
              have HF := hide hf
              have HFS := hide (⟨hfs, g2⟩ : (bl + 1 ≤ f + kk ∨ N ≤ f + kk) ∧ bl < N)
              have HIB0 := hide hib
              have HKK := hide hk1
              have HKK9 := hide hk9
              clear hf hfs hib hk1 hk9
              go_wp2_with fail
              refine cLb0.out.mono ?_
              rintro e w3 ⟨rfl, rfl⟩
              go_wp2_with fail
              refine cS.out.mono ?_
              rintro e w5 ⟨A3, c3, lq, hlq, rfl, ho3, b3⟩
              have p3 := pr.hold b3 (CellsAt.of_own ho3) (fun a _ ha => own_ge ho3 ha)
              have hlqN : f + lq ≤ N := by omega
              have hib2 : i + 1 ≤ max bl (f + lq) := by have := HFS.out; have := HIB0.out; have := HKK.out; omega
              have HIB := hide hib2
              have HLQN := hide hlqN
              clear hlq ho3 b3 pr cS cLb0 cLa0 hib2 hlqN hmax
              go_wp2_with fail
              go_loopw [14] (fun jv wr => ∃ j : Nat, j ≤ lq ∧ jv = .int .i64 j ∧ LTwo w wr g gb la ⟨6, L.take (max bl (f + j)), 0⟩ [(A3, ((L.drop f).take lq).flatMap ReqV.cells)]) (fun jv _ => lq - (intOf jv).toNat)
              case atStart => exact ⟨0, Nat.zero_le _, rfl, by rw [Nat.add_zero, Nat.max_eq_left hfb]; exact p3⟩
              case round =>
                clear p3
                obtain ⟨j, hj, rfl, pj⟩ := hrel
                by_cases hlt : j < lq
                · have hfj : f + j < L.length := by have := HN.out; have := HLQN.out; omega
                  obtain ⟨bl', hbl'⟩ : ∃ x, max bl (f + j) = x := ⟨_, rfl⟩
                  rw [hbl'] at pj
                  have hb1 : bl' ≤ N := by have := HN.out; have := HLQN.out; omega
                  have hb2 : f + j ≤ bl' := by omega
                  obtain ⟨x, hx⟩ : ∃ x, L[f + j]? = some x := ⟨_, List.getElem?_eq_getElem hfj⟩
                  obtain ⟨t1, t2⟩ := take_piece HOK.out (bl := bl') (p := f + j) (by have := HN.out; omega) hfj hx 6 hb2
                  have hmx : max bl' (f + j + 1) = max bl (f + (j + 1)) := by omega
                  rw [hmx] at t2
                  have hlen : (⟨6, L.take bl', 0⟩ : LnV).qs.length = bl' := by show (L.take bl').length = bl'; rw [List.length_take]; have := HN.out; omega
                  have hxj : (((L.drop f).take lq)[j]?.getD default) = x := by
                    rw [List.getElem?_take_of_lt hlt, List.getElem?_drop, hx]; rfl
                  obtain ⟨b, o, rfl, hb, hc⟩ := (show ReqsAt wr A3 ((L.drop f).take lq) from pj.held List.mem_cons_self).at5 (k := j) (by rw [List.length_take, List.length_drop]; have := HN.out; have := HLQN.out; omega)
                  rw [hxj] at hc
                  have x0 : wr.cell? ⟨b, o + j * 6, none⟩ = some (.int .i64 x.client) := hc 0 _ (by omega) rfl
                  have x1 := hc 1 _ (by omega) rfl
                  have x2 := hc 2 _ (by omega) rfl
                  have x3 := hc 3 _ (by omega) rfl
                  have x4 := hc 4 _ (by omega) rfl
                  have x5 := hc 5 _ (by omega) rfl
                  have cLb := hide (pj.b.elim fun F hF => Len_ln gb F _ bl' hlen wr hF)
                  have hcast : ((f + j : Nat) : Int) = (f : Int) + (j : Int) := by omega
                  rw [hcast] at t1 t2
                  have HJ := hide hj
                  by_cases he : f + j = bl'
                  · rw [if_pos he] at t1
                    have hbi : (bl' : Int) = (f : Int) + (j : Int) := by omega
                    have cT := hide (pj.swap.take bl' hlen (by omega) ((f : Int) + (j : Int) + 1) x 0 _ t1 t2)
                    rw [hbi] at cLb
                    clear t1 t2 hlen hx hxj hc pj hcast hmx he hbl'
                    go_wp2_with fail
                    refine cLb.out.mono ?_
                    rintro e w4 ⟨rfl, rfl⟩
                    go_wp2_with fail
                    refine cT.out.mono ?_
                    rintro e w5 ⟨rfl, p5⟩
                    have PF := hide p5.swap
                    clear p5 x0 x1 x2 x3 x4 x5 cLb cT
                    go_wp2_with fail
                    go_roundw
                    case rel => exact ⟨j + 1, by omega, by go_num, PF.out⟩
                    case measure => simp [intOf]; omega
                  · rw [if_neg he] at t1
                    have hbi : (((f : Int) + (j : Int)) == (bl' : Int)) = false := by simp; omega
                    have cT := hide (pj.swap.take bl' hlen (by omega) ((f : Int) + (j : Int) + 1) x 9 _ t1 t2)
                    clear t1 t2 hlen hx hxj hc pj hcast hmx he hbl'
                    go_wp2_with fail
                    refine cLb.out.mono ?_
                    rintro e w4 ⟨rfl, rfl⟩
                    go_wp2_with fail
                    refine cT.out.mono ?_
                    rintro e w5 ⟨rfl, p5⟩
                    have PF := hide p5.swap
                    clear p5 x0 x1 x2 x3 x4 x5 cLb cT
                    go_wp2_with fail
                    go_roundw
                    case rel => exact ⟨j + 1, by omega, by go_num, PF.out⟩
                    case measure => simp [intOf]; omega
                · obtain rfl : j = lq := by omega
                  have PF := hide pj.drop
                  clear pj
                  go_wp2_with fail
                  go_roundw
                  case rel => exact ⟨i + 1, max bl (f + j), by omega, by have := HLQN.out; omega, by go_num, PF.out, HIB.out⟩
                  case measure => simp [intOf]; omega
          · obtain rfl : bl = N := by omega
            have hi2 : (i : Int) < 200 := by omega
            have hlbe : (⟨6, L.take bl, 0⟩ : LnV) = la := by rw [List.take_of_length_le (by have := HN.out; omega)]; exact HLA.out.symm
            rw [hlbe] at pr
            have hsin : sinceL la.qs 0 100 = L := by rw [sinceL_all la.qs 100 (by omega), HLQ.out]
            obtain ⟨l2, hl2⟩ : ∃ l, la.commit bl = l := ⟨_, rfl⟩
            have hq2 : l2.quota = 6 := by rw [← hl2, HLA.out]; rfl
            have hN2 : l2.qs.length = bl := by rw [← hl2]; exact hlN
            have hok2 : LnOk l2.qs := by rw [← hl2]; show LnOk la.qs; rw [HLQ.out]; exact HOK.out
            have hk2 : l2.k = bl := by rw [← hl2]; rfl
            have hk0 : la.k = 0 := by rw [HLA.out]
            have cSa := hide (fun (W : World) (hW : Old wr W) => pr.a.elim fun G hG => by have := Since_at g G la 0 100 bl (by rw [hsin]; exact HN.out) (by omega) W (hG.old hW); rw [hsin] at this; exact this)
            have cSb := hide (fun (W : World) (hW : Old wr W) => pr.b.elim fun G hG => by have := Since_at gb G la 0 100 bl (by rw [hsin]; exact HN.out) (by omega) W (hG.old hW); rw [hsin] at this; exact this)
            have cRq := hide (fun (A B : Option Addr) (ca cb : Nat) (W : World) (ha : ReqsAt W A L) (hb : ReqsAt W B L) => Reqs_same bl A B L ca cb W ha hb (by omega) HN.out.symm)
            have cLa := hide (fun (W : World) (hW : Old wr W) => pr.a.elim fun F hF => Len_ln g F la bl hlN W (hF.old hW))
            have cLb := hide (fun (W : World) (hW : Old wr W) => pr.b.elim fun F hF => Len_ln gb F la bl hlN W (hF.old hW))
            have cCa := hide (fun (W : World) (h : LTwo w W g gb la la []) => h.com bl 0 l2 (by rw [if_pos ⟨by omega, by omega⟩]) (by rw [if_pos ⟨by omega, by omega⟩, Int.toNat_natCast, hl2]) (by omega))
            have cCb := hide (fun (W : World) (h : LTwo w W gb g la l2 []) => h.com bl 0 l2 (by rw [if_pos ⟨by omega, by omega⟩]) (by rw [if_pos ⟨by omega, by omega⟩, Int.toNat_natCast, hl2]) (by omega))
            have cLb2 := hide (fun (W : World) (h : LTwo w W g gb l2 la []) => h.b.elim fun F hF => Len_ln gb F la bl hlN W hF)
            have HPR := hide pr
            have r0 := Old.refl' wr
            clear hlbe hl2 pr hib hsin hlb hgo2
            go_wp2_with fail
            refine cLb0.out.mono ?_
            rintro e w3 ⟨rfl, rfl⟩
            go_wp2_with fail
            refine cLa0.out.mono ?_
            rintro e w3 ⟨rfl, rfl⟩
            go_wp2_with fail
            refine (cLb.out _ r0).mono ?_
            rintro e w3 ⟨rfl, rfl⟩
            go_wp2_with fail
            refine (cLa.out _ r0).mono ?_
            rintro e w3 ⟨rfl, rfl⟩
            go_wp2_with fail
            refine (cSa.out _ r0).mono ?_
            rintro e w4 ⟨A4, c4, rfl, hR4, b4⟩
            go_wp2_with fail
            refine (cSb.out _ b4).mono ?_
            rintro e w5 ⟨A5, c5, rfl, hR5, b5⟩
            go_wp2_with fail
            refine (cRq.out _ _ _ _ _ (CellsAt.old hR4 b5) hR5).mono ?_
            rintro e w6 ⟨rfl, b6⟩
            have b46 := (b4.trans' b5).trans' b6
            have p6 := HPR.out.old b46
            clear hR4 hR5
            go_wp2_with fail
            refine (cLa.out _ b46).mono ?_
            rintro e w7 ⟨rfl, rfl⟩
            go_wp2_with fail
            refine (cCa.out _ p6).mono ?_
            rintro e w8 ⟨rfl, p8⟩
            clear p6
            go_wp2_with fail
            refine (cLb2.out _ p8).mono ?_
            rintro e w9 ⟨rfl, rfl⟩
            go_wp2_with fail
            refine (cCb.out _ p8.swap).mono ?_
            rintro e w10 ⟨rfl, p10⟩
            clear p8
            have cLa3 := hide (fun (W : World) (hW : Old w10 W) => p10.b.elim fun F hF => Len_ln g F l2 bl hN2 W (hF.old hW))
            have cRa := hide (fun (W : World) (hW : Old w10 W) (j : Nat) (hj : j < bl) (c0 v0 : Int) (d0 : ByteArray) (h1 : (l2.rep j).code = c0) (h2 : (l2.rep j).ver = v0) (h3 : (l2.rep j).data = d0) => p10.b.elim fun F hF => LRep_yes g F l2 j (by omega) c0 v0 d0 h1 h2 h3 (by omega) W (hF.old hW))
            have cRb := hide (fun (W : World) (hW : Old w10 W) (j : Nat) (hj : j < bl) (c0 v0 : Int) (d0 : ByteArray) (h1 : (l2.rep j).code = c0) (h2 : (l2.rep j).ver = v0) (h3 : (l2.rep j).data = d0) => p10.a.elim fun F hF => LRep_yes gb F l2 j (by omega) c0 v0 d0 h1 h2 h3 (by omega) W (hF.old hW))
            obtain ⟨st, hst⟩ : ∃ s, l2.st = s := ⟨_, rfl⟩
            have hsn2 : st.n = bl := by rw [← hst, LnV.st_n hok2 (by omega), hk2]
            have hsok : StOk st := by rw [← hst]; exact (runS_ok _ _).1
            have cSta := hide (fun (W : World) (hW : Old w10 W) => p10.b.elim fun F hF => by have := LSto_ln g F l2 (by rw [hq2]; omega) (by omega) W (hF.old hW); rw [hst] at this; exact this)
            have cStb := hide (fun (W : World) (hW : Old w10 W) => p10.a.elim fun F hF => by have := LSto_ln gb F l2 (by rw [hq2]; omega) (by omega) W (hF.old hW); rw [hst] at this; exact this)
            obtain ⟨bs, hbs⟩ : ∃ bs, st.bytes = bs := ⟨_, rfl⟩
            obtain ⟨m, hm⟩ : ∃ m, bs.length = m := ⟨_, rfl⟩
            have cB := hide (fun (w0 W : World) (gt : Nat) (h : One w0 W gt st) => h.elim fun F hF => by have := Bytes_st gt F st (by omega) hsok W hF.1; rw [hbs, hm] at this; exact this)
            have P10 := hide p10.o
            clear p10 hst hsn2 hsok hbs hok2 hq2 hN2 hk2 hk0 cCa cCb cLb2 cSa cSb cRq cLa cLb cLb0 cLa0
            go_wp2_with fail
            go_loopw [17] (fun iv wr => ∃ j : Nat, j ≤ bl ∧ iv = .int .i64 ((j : Int) + 1) ∧ Old w10 wr) (fun iv _ => bl + 2 - (intOf iv).toNat)
            case atStart => exact ⟨0, Nat.zero_le _, rfl, Old.refl' _⟩
            case round =>
              obtain ⟨j, hj, rfl, hB⟩ := hrel
              by_cases hlt : j < bl
              · obtain ⟨c0, hc0⟩ : ∃ c, (l2.rep j).code = c := ⟨_, rfl⟩
                obtain ⟨v0, hv0⟩ : ∃ c, (l2.rep j).ver = c := ⟨_, rfl⟩
                obtain ⟨d0, hd0⟩ : ∃ c, (l2.rep j).data = c := ⟨_, rfl⟩
                have cA1 := hide (fun (W : World) (hW : Old w10 W) => cRa.out W hW j hlt c0 v0 d0 hc0 hv0 hd0)
                have cB1 := hide (fun (W : World) (hW : Old w10 W) => cRb.out W hW j hlt c0 v0 d0 hc0 hv0 hd0)
                have hj1 : (j : Int) + 1 ≤ bl := by omega
                clear hc0 hv0 hd0
                go_wp2_with fail
                refine (cLa3.out _ hB).mono ?_
                rintro e w11 ⟨rfl, rfl⟩
                go_wp2_with fail
                refine (cA1.out _ hB).mono ?_
                rintro e w12 ⟨A6, c6, rfl, b12⟩
                have o12 := (hB.trans' b12).alloc' (.cells #[.int .i64 c0, .int .i64 v0, .string d0, .slice A6 0 c6] 32)
                have k12 := Bk.new w12 32 #[.int .i64 c0, .int .i64 v0, .string d0, .slice A6 0 c6]
                go_wp2_with fail
                refine (cB1.out _ o12).mono ?_
                rintro e w13 ⟨A7, c7, rfl, b13⟩
                obtain ⟨⟨y0, y1, y2, y3⟩, -, ly⟩ := bk4 ((k12.old b13).alloc (.cells #[.int .i64 c0, .int .i64 v0, .string d0, .slice A7 0 c7] 32))
                have o13 := (o12.trans' b13).alloc' (.cells #[.int .i64 c0, .int .i64 v0, .string d0, .slice A7 0 c7] 32)
                clear k12
                go_wp2_with (go_at_call 29; (with_reducible refine (Same_noneL ⟨c0, v0, d0, []⟩ A6 A7 c6 c7 _).mono ?_); rintro e w14 ⟨rfl, b14⟩)
                go_roundw
                case rel => exact ⟨j + 1, by omega, by go_num, o13.trans' b14⟩
                case measure => simp [intOf]; omega
              · obtain rfl : j = bl := by omega
                have hj1 : ¬ ((j : Int) + 1 ≤ j) := by omega
                go_wp2_with fail
                refine (cLa3.out _ hB).mono ?_
                rintro e w11 ⟨rfl, rfl⟩
                go_wp2_with fail
                refine (cSta.out _ hB).mono ?_
                rintro e w12 ⟨gs, rfl, s12⟩
                go_wp2_with fail
                refine (cStb.out _ (hB.trans' s12.o)).mono ?_
                rintro e w13 ⟨gt, rfl, s13⟩
                have s12' := s12.old s13.o
                have cBx := hide (fun (W : World) (hW : Old w13 W) => cB.out _ W gs (s12'.old hW))
                have cBy := hide (fun (W : World) (hW : Old w13 W) => cB.out _ W gt (s13.old hW))
                have HO := hide (P10.out.trans' ((hB.trans' s12.o).trans' s13.o))
                obtain ⟨W9, hW9⟩ : ∃ W : World, W = w13 := ⟨_, rfl⟩
                rw [← hW9] at cBx cBy HO
                simp only [← hW9]
                clear hW9 s12 s13 s12' hB
                go_wp2_with fail
                refine region_steps (R := pick [eqv (.bool true), eqv (.bool true), eqv (.pointer (some ⟨gs, 0, none⟩)), eqv (.bool true), eqv (.bool true), eqv (.bool true), eqv (.pointer (some ⟨gt, 0, none⟩)), eqv (.bool true), eqv (.bool true), eqv (.bool true), eqv (.pointer (some ⟨gs, 0, none⟩)), fun v w' => ∃ A c, v = .slice A m c ∧ CellsAt w' A (u8s bs), eqv (.string (strOfNums bs)), eqv (.pointer (some ⟨gt, 0, none⟩)), fun v w' => ∃ A c, v = .slice A m c ∧ CellsAt w' A (u8s bs), eqv (.string (strOfNums bs)), eqv (.bool true), eqv (.bool true), eqv (.bool true)]) (S := fun _ w' => Old W9 w') (T := Old) (by kernel_rfl) (by kernel_rfl) (by kernel_rfl) (Stab.pick (Stab.eqv (Stab.eqv (Stab.eqv (Stab.eqv (Stab.eqv (Stab.eqv (Stab.eqv (Stab.eqv (Stab.eqv (Stab.eqv (Stab.eqv (Stab.cons (fun v w w' ht ⟨A, c, h, i⟩ => ⟨A, c, h, i.old ht⟩) (Stab.eqv (Stab.eqv (Stab.cons (fun v w w' ht ⟨A, c, h, i⟩ => ⟨A, c, h, i.old ht⟩) (Stab.eqv (Stab.eqv (Stab.eqv (Stab.eqv (Stab.nil))))))))))))))))))))) ((Old.refl' _).drew') ?steps ?ends
                case steps =>
                  refine StepsOk.cons (stepOk_mk [] [] rfl rfl (by kernel_rfl) (by kernel_rfl) rfl ?_) ?_
                  · rintro d a w' hk hda hS  
                    first | refine Given.nil (Known.nil ?_) | refine Known.nil ?_
                    refine wp_call 12 _ Try.func12 (by kernel_rfl) (by kernel_rfl) _ _ (by rfl) [] (by simp only [List.map_cons, List.map_nil, *]; try rfl) (told18_any _) ?_
                    rintro e w1 ⟨rfl, f4⟩
                    exact ⟨_, rfl, _, rfl, rfl, f4, hS.trans' f4⟩
                  refine StepsOk.cons (stepOk_pure [(0, 196)] [] rfl rfl (by kernel_rfl) (by kernel_rfl) rfl Old.refl' (fun _ _ _ h => h) (fun d E w' hk hda hS hc hf => by rintro _ q0 rfl e196 ; exact ⟨_, by go_simp, rfl⟩)) ?_
                  refine StepsOk.cons (stepOk_pureG 1 197 true rfl rfl (by kernel_rfl) (fun _ _ h => h) [] [(22, .pointer (some ⟨gs, 0, none⟩))] (by kernel_rfl) (by kernel_rfl) rfl Old.refl' (fun _ _ _ h => h) (fun d E w' hk hda hS hc hf => by rintro  e22; exact ⟨_, by go_simp, rfl⟩)) ?_
                  refine StepsOk.cons (stepOk_pureG 1 197 true rfl rfl (by kernel_rfl) (fun _ _ h => h) [(2, 198)] [] (by kernel_rfl) (by kernel_rfl) rfl Old.refl' (fun _ _ _ h => h) (fun d E w' hk hda hS hc hf => by rintro _ q2 rfl e198 ; exact ⟨_, by go_simp, rfl⟩)) ?_
                  refine StepsOk.cons (stepOk_pure [(1, 197), (3, 199)] [] rfl rfl (by kernel_rfl) (by kernel_rfl) rfl Old.refl' (fun _ _ _ h => h) (fun d E w' hk hda hS hc hf => by rintro _ q1 rfl e197 _ q3 rfl e199 ; exact ⟨_, by go_simp, rfl⟩)) ?_
                  refine StepsOk.cons (stepOk_pure [(4, 200)] [] rfl rfl (by kernel_rfl) (by kernel_rfl) rfl Old.refl' (fun _ _ _ h => h) (fun d E w' hk hda hS hc hf => by rintro _ q4 rfl e200 ; exact ⟨_, by go_simp, rfl⟩)) ?_
                  refine StepsOk.cons (stepOk_pureG 5 201 true rfl rfl (by kernel_rfl) (fun _ _ h => h) [] [(23, .pointer (some ⟨gt, 0, none⟩))] (by kernel_rfl) (by kernel_rfl) rfl Old.refl' (fun _ _ _ h => h) (fun d E w' hk hda hS hc hf => by rintro  e23; exact ⟨_, by go_simp, rfl⟩)) ?_
                  refine StepsOk.cons (stepOk_pureG 5 201 true rfl rfl (by kernel_rfl) (fun _ _ h => h) [(6, 202)] [] (by kernel_rfl) (by kernel_rfl) rfl Old.refl' (fun _ _ _ h => h) (fun d E w' hk hda hS hc hf => by rintro _ q6 rfl e202 ; exact ⟨_, by go_simp, rfl⟩)) ?_
                  refine StepsOk.cons (stepOk_pure [(5, 201), (7, 203)] [] rfl rfl (by kernel_rfl) (by kernel_rfl) rfl Old.refl' (fun _ _ _ h => h) (fun d E w' hk hda hS hc hf => by rintro _ q5 rfl e201 _ q7 rfl e203 ; exact ⟨_, by go_simp, rfl⟩)) ?_
                  refine StepsOk.cons (stepOk_pure [(8, 204)] [] rfl rfl (by kernel_rfl) (by kernel_rfl) rfl Old.refl' (fun _ _ _ h => h) (fun d E w' hk hda hS hc hf => by rintro _ q8 rfl e204 ; exact ⟨_, by go_simp, rfl⟩)) ?_
                  refine StepsOk.cons (stepOk_pureG 9 205 true rfl rfl (by kernel_rfl) (fun _ _ h => h) [] [(22, .pointer (some ⟨gs, 0, none⟩))] (by kernel_rfl) (by kernel_rfl) rfl Old.refl' (fun _ _ _ h => h) (fun d E w' hk hda hS hc hf => by rintro  e22; exact ⟨_, by go_simp, rfl⟩)) ?_
                  refine StepsOk.cons (stepOk_guard 9 205 true rfl rfl (by kernel_rfl) (fun _ _ h => h) [(10, 206)] [] (by kernel_rfl) (by kernel_rfl) rfl ?_) ?_
                  · rintro d a w' hk hda hS _ q10 rfl e206 
                    first | refine Given.nil (Known.nil ?_) | refine Known.nil ?_
                    refine wp_call 30 _ Try.func30 (by kernel_rfl) (by kernel_rfl) _ _ (by rfl) [.pointer (some ⟨gs, 0, none⟩)] (by simp only [List.map_cons, List.map_nil, *]; try rfl) (cBx.out _ hS) ?_
                    rintro e w1 ⟨Ax, cx, rfl, ho, f4⟩
                    exact ⟨_, rfl, _, rfl, ⟨Ax, cx, rfl, CellsAt.of_own ho⟩, f4, hS.trans' f4⟩
                  refine StepsOk.cons (stepOk_pureG 9 205 true rfl rfl (by kernel_rfl) (fun _ _ h => h) [(11, 207)] [] (by kernel_rfl) (by kernel_rfl) rfl Old.refl' (fun _ _ _ h => h) (fun d E w' hk hda hS hc hf => by rintro _ q11 ⟨Ax, cx, rfl, ix⟩ e207 ; have hs := run_str m cx hm ix; exact ⟨_, by go_simp, rfl⟩)) ?_
                  refine StepsOk.cons (stepOk_pureG 9 205 true rfl rfl (by kernel_rfl) (fun _ _ h => h) [] [(23, .pointer (some ⟨gt, 0, none⟩))] (by kernel_rfl) (by kernel_rfl) rfl Old.refl' (fun _ _ _ h => h) (fun d E w' hk hda hS hc hf => by rintro  e23; exact ⟨_, by go_simp, rfl⟩)) ?_
                  refine StepsOk.cons (stepOk_guard 9 205 true rfl rfl (by kernel_rfl) (fun _ _ h => h) [(13, 209)] [] (by kernel_rfl) (by kernel_rfl) rfl ?_) ?_
                  · rintro d a w' hk hda hS _ q13 rfl e209 
                    first | refine Given.nil (Known.nil ?_) | refine Known.nil ?_
                    refine wp_call 30 _ Try.func30 (by kernel_rfl) (by kernel_rfl) _ _ (by rfl) [.pointer (some ⟨gt, 0, none⟩)] (by simp only [List.map_cons, List.map_nil, *]; try rfl) (cBy.out _ hS) ?_
                    rintro e w1 ⟨Ay, cy, rfl, ho, f4⟩
                    exact ⟨_, rfl, _, rfl, ⟨Ay, cy, rfl, CellsAt.of_own ho⟩, f4, hS.trans' f4⟩
                  refine StepsOk.cons (stepOk_pureG 9 205 true rfl rfl (by kernel_rfl) (fun _ _ h => h) [(14, 210)] [] (by kernel_rfl) (by kernel_rfl) rfl Old.refl' (fun _ _ _ h => h) (fun d E w' hk hda hS hc hf => by rintro _ q14 ⟨Ay, cy, rfl, iy⟩ e210 ; have hs := run_str m cy hm iy; exact ⟨_, by go_simp, rfl⟩)) ?_
                  refine StepsOk.cons (stepOk_pureG 9 205 true rfl rfl (by kernel_rfl) (fun _ _ h => h) [(12, 208), (15, 211)] [] (by kernel_rfl) (by kernel_rfl) rfl Old.refl' (fun _ _ _ h => h) (fun d E w' hk hda hS hc hf => by rintro _ q12 rfl e208 _ q15 rfl e211 ; exact ⟨_, by go_simp, rfl⟩)) ?_
                  refine StepsOk.cons (stepOk_pure [(9, 205), (16, 212)] [] rfl rfl (by kernel_rfl) (by kernel_rfl) rfl Old.refl' (fun _ _ _ h => h) (fun d E w' hk hda hS hc hf => by rintro _ q9 rfl e205 _ q16 rfl e212 ; exact ⟨_, by go_simp, rfl⟩)) ?_
                  refine StepsOk.cons (stepOk_pure [(17, 213)] [] rfl rfl (by kernel_rfl) (by kernel_rfl) rfl Old.refl' (fun _ _ _ h => h) (fun d E w' hk hda hS hc hf => by rintro _ q17 rfl e213 ; exact ⟨_, by go_simp, rfl⟩)) ?_
                  exact StepsOk.nil
                case ends =>
                  intro σ9 w9 hS9 hA9
                  refine Ends.eqv (some 196) (.bool true) rfl (fun _ h => h) ?_
                  refine Ends.eqv (some 197) (.bool true) rfl (fun _ h => h) ?_
                  refine Ends.eqv (some 198) (.pointer (some ⟨gs, 0, none⟩)) rfl (fun _ h => h) ?_
                  refine Ends.eqv (some 199) (.bool true) rfl (fun _ h => h) ?_
                  refine Ends.eqv (some 200) (.bool true) rfl (fun _ h => h) ?_
                  refine Ends.eqv (some 201) (.bool true) rfl (fun _ h => h) ?_
                  refine Ends.eqv (some 202) (.pointer (some ⟨gt, 0, none⟩)) rfl (fun _ h => h) ?_
                  refine Ends.eqv (some 203) (.bool true) rfl (fun _ h => h) ?_
                  refine Ends.eqv (some 204) (.bool true) rfl (fun _ h => h) ?_
                  refine Ends.eqv (some 205) (.bool true) rfl (fun _ h => h) ?_
                  refine Ends.eqv (some 206) (.pointer (some ⟨gs, 0, none⟩)) rfl (fun _ h => h) ?_
                  refine Ends.ex (some 207) rfl ?_
                  rintro _ p11 ⟨Ax, cx, rfl, ix⟩
                  refine Ends.eqv (some 208) (.string (strOfNums bs)) rfl (fun _ h => h) ?_
                  refine Ends.eqv (some 209) (.pointer (some ⟨gt, 0, none⟩)) rfl (fun _ h => h) ?_
                  refine Ends.ex (some 210) rfl ?_
                  rintro _ p14 ⟨Ay, cy, rfl, iy⟩
                  refine Ends.eqv (some 211) (.string (strOfNums bs)) rfl (fun _ h => h) ?_
                  refine Ends.eqv (some 212) (.bool true) rfl (fun _ h => h) ?_
                  refine Ends.eqv (some 213) (.bool true) rfl (fun _ h => h) ?_
                  refine Ends.eqv (some 4) (.bool true) rfl (fun _ h => h) ?_
                  refine Ends.nil ?_
                  clear hA9
                  simp only [put_lit, put_none, List.set_cons_zero, List.set_cons_succ]
                  have o9 := hS9
                  clear hS9
                  go_wp2_with fail
                  go_ret
                  exact ⟨rfl, HO.out.trans' o9⟩
  · go_enter Try.func6, Try.ntmps6
    go_wp2_with fail
    refine cN.out.mono ?_
    rintro e w1 ⟨g, rfl, hp, -⟩
    go_wp2_with fail
    refine (cN2.out _ g hp).mono ?_
    rintro e w2 ⟨gb, rfl, hp2⟩
    have hO := hp2.o
    go_wp2_with (go_at_call 12; refine (told18_any _).mono ?_; rintro e w4 ⟨rfl, b4⟩)
    go_ret
    exact ⟨rfl, hO.trans' b4⟩
end Go.Proofs.Ytmhnlpilbbfgnaa
