/- casebooklaw18.LineOwn: the walk. -/
import Derived.Test.YtmhnlpilbbfgnaaHLnU
namespace Go.Proofs.Ytmhnlpilbbfgnaa
open Go.RowKit

theorem doL_one (vs : List Ver) (k m quota : Int) (d : ByteArray) : (doL vs k m quota d).length ≤ vs.length + 1 := by
  unfold doL doR
  split <;> (repeat' split) <;> simp
theorem put_few (s : StV) (q : Q) (h : ∀ k, (s.f k).length ≤ s.n) : ∀ k, ((s.put q).f k).length ≤ (s.put q).n := by
  intro k
  unfold StV.put
  split
  · show (if k = q.id then s.doL q else s.f k).length ≤ s.n + 1
    split
    · have := doL_one (s.f q.id) q.kind q.mat s.quota q.data
      have := h q.id
      unfold StV.doL
      omega
    · have := h k; omega
  · exact h k
theorem runS_few (q0 : Int) (qs : List ReqV) (k : Int) : ((runS q0 qs).f k).length ≤ (runS q0 qs).n := by
  unfold runS
  suffices h : ∀ (l : List ReqV) (s : StV), (∀ k, (s.f k).length ≤ s.n) → ∀ k, ((l.foldl (fun s q => s.put q.q) s).f k).length ≤ (l.foldl (fun s q => s.put q.q) s).n from h qs (StV.new q0) (fun k => by simp [StV.new]) k
  intro l
  induction l with
  | nil => intro s h; exact h
  | cons q l ih => intro s h; exact ih (s.put q.q) (put_few s q.q h)
set_option maxRecDepth 100000 in
set_option maxHeartbeats 4000000 in
theorem LOwn_walk (A0 : Option Addr) (n k0 : Nat) (qs : List ReqV) (q : ReqV) (hl : n = qs.length) (hn : n ≤ 9223372036854775807) (w : World) (hQ : ReqsAt w A0 qs) :
    Calls Try.prog 7 #[.slice A0 n k0, .agg #[.int .i64 q.client, .int .i64 q.seq, .int .i64 q.kind, .int .i64 q.id, .int .i64 q.mat, .string q.data]] w fun e w' => e = .returned (.bool true) ∧ Old w w' := by
  have HL := hide hl
  clear hl
  have cNw := hide (LOne.new (D := [(w.heap.size, 23, #[.int .i64 q.client, .int .i64 q.seq, .int .i64 q.kind, .int .i64 q.id, .int .i64 q.mat, .string q.data])]) 6 (by omega) ((Old.refl' w).alloc' (.cells #[.int .i64 q.client, .int .i64 q.seq, .int .i64 q.kind, .int .i64 q.id, .int .i64 q.mat, .string q.data] 23)) (fun d hd => by obtain rfl := List.mem_singleton.1 hd; exact Bk.new _ _ _))
  obtain ⟨⟨y0, y1, y2, y3, y4, y5⟩, ly⟩ := bk6 (Bk.new w 23 #[.int .i64 q.client, .int .i64 q.seq, .int .i64 q.kind, .int .i64 q.id, .int .i64 q.mat, .string q.data])
  by_cases hgo : n ≤ 30 ∧ q.data.size ≤ 100
  · obtain ⟨hg1, hg2⟩ := hgo
    have hn60' : (n : Int) ≤ 30 := by omega
    have hg2' : (q.data.size : Int) ≤ 100 := by omega
    go_enter Try.func7, Try.ntmps7
    go_wp2_with fail
    refine cNw.out.mono ?_
    rintro e w1 ⟨g, rfl, hp, -⟩
    have hp : LOne w w1 g (runL 6 (qs.take 0)) [(w.heap.size, 23, #[.int .i64 q.client, .int .i64 q.seq, .int .i64 q.kind, .int .i64 q.id, .int .i64 q.mat, .string q.data])] := hp
    clear y0 y1 y2 y3 y4 y5 ly
    obtain ⟨⟨y0, y1, y2, y3, y4, y5⟩, ly⟩ := bk6 (hp.held List.mem_cons_self)
    go_wp2_with fail
    clear y0 y1 y2 y3 y4 y5 ly
    go_loopw [7] (fun iv wr => ∃ k : Nat, k ≤ n ∧ iv = .int .i64 k ∧ LOne w wr g (runL 6 (qs.take k)) [(w.heap.size, 23, #[.int .i64 q.client, .int .i64 q.seq, .int .i64 q.kind, .int .i64 q.id, .int .i64 q.mat, .string q.data])]) (fun iv _ => n - (intOf iv).toNat)
    case atStart => exact ⟨0, Nat.zero_le _, rfl, hp⟩
    case round =>
      clear hp
      obtain ⟨k, hk, rfl, pr⟩ := hrel
      by_cases hlt : k < n
      · have hkq : k < qs.length := by have := HL.out; omega
        obtain ⟨b, o, rfl, hb, hc⟩ := hQ.at5 (k := k) hkq
        obtain ⟨x, hx⟩ : ∃ x, qs[k]?.getD default = x := ⟨_, rfl⟩
        rw [hx] at hc
        have hxx : qs[k] = x := by rw [List.getElem?_eq_getElem hkq] at hx; simpa using hx
        have htk : runL 6 (qs.take (k + 1)) = (runL 6 (qs.take k)).put x := by rw [List.take_succ_eq_append_getElem hkq, hxx, runL_snoc]
        have HTK := hide htk
        obtain ⟨-, -, -, hsn⟩ := runL_ok 6 (qs.take k)
        rw [List.length_take] at hsn
        obtain ⟨l0, hl0⟩ : ∃ s, runL 6 (qs.take k) = s := ⟨_, rfl⟩
        rw [hl0] at pr hsn htk
        have hW := pr.o
        have x0 : wr.cell? ⟨b, o + k * 6, none⟩ = some (.int .i64 x.client) := (hW.cell (p := ⟨b, o + k * 6, none⟩) hb).trans (hc 0 _ (by omega) rfl)
        have x1 := (hW.cell (p := ⟨b, o + k * 6 + 1, none⟩) hb).trans (hc 1 _ (by omega) rfl)
        have x2 := (hW.cell (p := ⟨b, o + k * 6 + 2, none⟩) hb).trans (hc 2 _ (by omega) rfl)
        have x3 := (hW.cell (p := ⟨b, o + k * 6 + 3, none⟩) hb).trans (hc 3 _ (by omega) rfl)
        have x4 := (hW.cell (p := ⟨b, o + k * 6 + 4, none⟩) hb).trans (hc 4 _ (by omega) rfl)
        have x5 := (hW.cell (p := ⟨b, o + k * 6 + 5, none⟩) hb).trans (hc 5 _ (by omega) rfl)
        clear hc hW hx hxx
        by_cases hs : x.data.size ≤ 100
        · obtain ⟨N0, hN0⟩ : ∃ N, l0.qs.length = N := ⟨_, rfl⟩
          obtain ⟨l1, hl1⟩ : ∃ l, l0.put x = l := ⟨_, rfl⟩
          have HS1 := hide (show (runL 6 (qs.take k)).put x = l1 by rw [hl0, hl1])
          obtain ⟨AT, hAT⟩ : ∃ a : Int, (l0.at_ x : Int) = a := ⟨_, rfl⟩
          obtain ⟨E, hE⟩ : ∃ a : Int, l0.err x = a := ⟨_, rfl⟩
          have cP := hide (pr.put N0 hN0 (by omega) x AT E l1 hAT hE hl1)
          clear htk hl0 hAT hE hl1 hN0
          go_wp2_with fail
          refine cP.out.mono ?_
          rintro e w4 ⟨rfl, pr4⟩
          have hfin := hide pr4
          clear x0 x1 x2 x3 x4 x5 pr4 pr
          go_wp2_with fail
          go_roundw
          case rel => exact ⟨k + 1, by omega, by go_num, by rw [HTK.out, HS1.out]; exact hfin.out⟩
          case measure => simp [intOf]; omega
        · clear htk hl0
          go_wp2_with (go_at_call 12; refine (told18_any _).mono ?_; rintro e w9 ⟨rfl, b9⟩)
          go_ret
          exact ⟨rfl, (pr.old b9).o⟩
      · obtain rfl : k = n := by omega
        obtain ⟨hok, hq6, hk0, hsn⟩ := runL_ok 6 (qs.take k)
        rw [List.length_take] at hsn
        obtain ⟨l9, hl9⟩ : ∃ s, runL 6 (qs.take k) = s := ⟨_, rfl⟩
        rw [hl9] at pr hok hsn hq6 hk0
        clear hl9
        obtain ⟨N, hN⟩ : ∃ N, l9.qs.length = N := ⟨_, rfl⟩
        have hN60 : (N : Int) ≤ 30 := by omega
        obtain ⟨l2, hl2⟩ : ∃ l, l9.commit N = l := ⟨_, rfl⟩
        have hq2 : l2.quota = 6 := by rw [← hl2]; exact hq6
        have hN2 : l2.qs.length = N := by rw [← hl2]; exact hN
        have hok2 : LnOk l2.qs := by rw [← hl2]; exact hok
        have hk2 : l2.k = N := by rw [← hl2]; rfl
        obtain ⟨W9, hW9⟩ : ∃ W : World, W = wr := ⟨_, rfl⟩
        rw [← hW9] at pr
        simp only [← hW9]
        clear hW9
        have cLn := hide (pr.at_.elim fun F hF => Len_ln g F l9 N hN W9 hF)
        have cCm := hide (pr.com N 0 l2 (by rw [if_pos ⟨by omega, by omega⟩]) (by rw [if_pos ⟨by omega, by omega⟩, Int.toNat_natCast, hl2]) (by omega))
        obtain ⟨st, hst⟩ : ∃ s, l2.st = s := ⟨_, rfl⟩
        have hsn2 : st.n = N := by rw [← hst, LnV.st_n hok2 (by omega), hk2]
        have hsok : StOk st := by rw [← hst]; exact (runS_ok _ _).1
        have cSt := hide (fun (W : World) (h : LOne w W g l2 [(w.heap.size, 23, #[.int .i64 q.client, .int .i64 q.seq, .int .i64 q.kind, .int .i64 q.id, .int .i64 q.mat, .string q.data])]) => h.at_.elim fun F hF => by have := LSto_ln g F l2 (by rw [hq2]; omega) (by omega) W hF; rw [hst] at this; exact this)
        have cLn2 := hide (fun (W : World) (h : LOne w W g l2 [(w.heap.size, 23, #[.int .i64 q.client, .int .i64 q.seq, .int .i64 q.kind, .int .i64 q.id, .int .i64 q.mat, .string q.data])]) => h.at_.elim fun F hF => Len_ln g F l2 N hN2 W hF)
        obtain ⟨bs, hbs⟩ : ∃ bs, st.bytes = bs := ⟨_, rfl⟩
        obtain ⟨m, hm⟩ : ∃ m, bs.length = m := ⟨_, rfl⟩
        have cB := hide (fun (w0 W : World) (gt : Nat) (h : One w0 W gt st) => h.elim fun F hF => by have := Bytes_st gt F st (by omega) hsok W hF.1; rw [hbs, hm] at this; exact this)
        have cN := hide (fun (w0 W : World) (gt : Nat) (h : One w0 W gt st) => h.elim fun F hF => by have := Len_st gt F st W hF.1; rw [hsn2] at this; exact this)
        have hmb : m ≤ 2500000 := by
          rw [← hm, ← hbs]
          refine bytes_len hsok (by omega) fun k => ?_
          rw [← hst]
          have := runS_few 6 (l2.qs.take l2.k) k
          unfold LnV.st
          rw [hq2]
          exact this
        obtain ⟨c0, hc0⟩ : ∃ c, (st.rep q.q).code = c := ⟨_, rfl⟩
        obtain ⟨v0, hv0⟩ : ∃ c, (st.rep q.q).ver = c := ⟨_, rfl⟩
        obtain ⟨d0, hd0⟩ : ∃ c, (st.rep q.q).data = c := ⟨_, rfl⟩
        obtain ⟨E, hE⟩ : ∃ c, st.err q.q = c := ⟨_, rfl⟩
        have cPt := hide (fun (w0 W : World) (gt : Nat) (h : One w0 W gt st) => h.put q c0 v0 E d0 _ hc0 hv0 hd0 hE rfl (by omega))
        clear hok hok2 hq6 hk0 hsn hl2 hst hsok hc0 hv0 hd0 hE hq2 hk2 hsn2 hN2
        go_wp2_with (go_at_call 18; refine cLn.out.mono ?_; rintro e w3 ⟨rfl, rfl⟩)
        refine cCm.out.mono ?_
        rintro e w2 ⟨rfl, p2⟩
        go_wp2_with fail
        refine (cSt.out _ p2).mono ?_
        rintro e w3 ⟨gs, rfl, s3⟩
        have p3 := p2.old s3.o
        go_wp2_with fail
        refine (cB.out _ _ _ s3).mono ?_
        rintro e w4 ⟨A4, c4, rfl, ho4, b4⟩
        have hs4 := run_str m c4 hm (CellsAt.of_own ho4)
        have s4 := s3.old b4
        clear ho4
        obtain ⟨⟨x0, x1, x2, x3, x4, x5⟩, l1⟩ := bk6 ((p3.old b4).held List.mem_cons_self)
        go_wp2_with fail
        refine (cPt.out _ _ _ s4).mono ?_
        rintro e w5 ⟨⟨A5, c5, rfl⟩, s5⟩
        have p5 := p2.old s5.o
        clear x0 x1 x2 x3 x4 x5 l1 s4 s3 p3 hs4 b4
        go_wp2_with fail
        refine (cSt.out _ p5).mono ?_
        rintro e w6 ⟨gt, rfl, s6⟩
        have p6 := p5.old s6.o
        go_wp2_with (first
          | (go_at_call 12; refine (told18_any _).mono ?_; rintro e w7 ⟨rfl, b7⟩; have s7 := s6.old b7)
          | (go_at_call 30; refine (cB.out _ _ _ s7).mono ?_; rintro e w8 ⟨A8, c8, rfl, ho8, b8⟩; have hs8 := run_str m c8 hm (CellsAt.of_own ho8); have s8 := s7.old b8)
          | (go_at_call 18; refine (cLn2.out _ (p6.old (b7.trans' b8))).mono ?_; rintro e w9 ⟨rfl, rfl⟩)
          | (go_at_call 28; refine (cN.out _ _ _ s8).mono ?_; rintro e w9 ⟨rfl, rfl⟩))
        go_ret
        exact ⟨rfl, (p6.old (b7.trans' b8)).o⟩
  · have hc : (30 < n) ∨ (n ≤ 30 ∧ 100 < q.data.size) := by omega
    rcases hc with hg1 | ⟨hg1, hg2⟩
    all_goals
      go_enter Try.func7, Try.ntmps7
      go_wp2_with fail
      refine cNw.out.mono ?_
      rintro e w1 ⟨g, rfl, hp, -⟩
      clear y0 y1 y2 y3 y4 y5 ly
      obtain ⟨⟨y0, y1, y2, y3, y4, y5⟩, ly⟩ := bk6 (hp.held List.mem_cons_self)
      go_wp2_with (go_at_call 12; refine (told18_any _).mono ?_; rintro e w4 ⟨rfl, b4⟩)
      go_ret
      exact ⟨rfl, hp.o.trans' b4⟩
end Go.Proofs.Ytmhnlpilbbfgnaa
