/- casebooklaw5.StoreOnce: the walk. -/
import Derived.Test.YtcbnibldlbnkbaaLSame
namespace Go.Proofs.Ytcbnibldlbnkbaa
open Go.RowKit

theorem err0 {s : StV} {q : Q} (h : s.err q = 0) : s.may q = true ∧ (0 ≤ q.client ∧ q.client < 4) ∧ (s.ss q.client).seq < q.seq ∧ (q.may && Writes q.kind) = true := by
  unfold StV.err at h
  split at h
  · rename_i h1
    split at h
    · rename_i h2
      have hm : s.may q = true := by unfold StV.may; rw [h1]; simpa using h2
      refine ⟨hm, ?_, h2, h1⟩
      have : q.may = true := by rw [Bool.and_eq_true] at h1; exact h1.1
      simp only [Q.may, mayQ, Bool.and_eq_true, decide_eq_true_eq] at this
      omega
    · omega
  · omega
theorem err_no {s : StV} {q : Q} (h : s.err q ≠ 0) : s.put q = s := by
  unfold StV.put
  rw [if_neg]
  intro hm
  apply h
  unfold StV.may at hm
  rw [Bool.and_eq_true] at hm
  unfold StV.err
  rw [if_pos hm.1, if_pos (by simpa using hm.2)]
theorem put_yes {s : StV} {q : Q} (h : s.err q = 0) : s.put q = s.done q := by unfold StV.put; rw [if_pos (err0 h).1]
theorem done_me (s : StV) (q : Q) : (s.done q).ss q.client = ⟨q.seq, s.n + 1, s.doRep q⟩ := if_pos rfl
theorem again {s : StV} {q : Q} (h : s.err q = 0) : (s.done q).err q = 9 ∧ (s.done q).put q = s.done q ∧ (s.done q).rep q = Rep.zero := by
  obtain ⟨-, -, -, h1⟩ := err0 h
  have e := done_me s q
  have hm : (s.done q).may q = false := by unfold StV.may; rw [e]; simp
  refine ⟨?_, ?_, ?_⟩
  · unfold StV.err; rw [if_pos h1, e, if_neg (by simp)]
  · unfold StV.put; rw [hm]; rfl
  · unfold StV.rep; rw [hm]; rfl
def seqAt (s : StV) (c : Int) : Int := if 0 ≤ c ∧ c < 4 then (s.ss c).seq else 0
theorem Seq_at (g : Nat) (F : Nat → Prop) (s : StV) (c v : Int) (hv : seqAt s c = v) (w : World) (h : StAt w g F s) :
    Calls Try.prog 19 #[.pointer (some ⟨g, 0, none⟩), .int .i64 c] w fun e w' => e = .returned (.int .i64 v) ∧ Old w w' := by
  subst hv
  unfold seqAt
  split
  · rename_i hc
    obtain ⟨n, rfl⟩ : ∃ n : Nat, (n : Int) = c := ⟨c.toNat, by omega⟩
    exact Seq_st g n (by omega) F s w h
  · rename_i hc
    exact Seq_out g c hc w
theorem Last_in (g : Nat) (F : Nat → Prop) (s : StV) (c : Int) (hc : 0 ≤ c ∧ c < 4) (pl : Int) (r : Rep) (h1 : ((s.ss c).place : Int) = pl) (h2 : (s.ss c).rep = r) (w : World) (h : StAt w g F s) :
    Calls Try.prog 21 #[.pointer (some ⟨g, 0, none⟩), .int .i64 c] w fun e w' => (∃ A k, e = .returned (.tuple #[.agg #[.int .i64 r.code, .int .i64 r.ver, .string r.data, .slice A 0 k], .int .i64 pl])) ∧ Old w w' := by
  subst h1 h2
  obtain ⟨n, rfl⟩ : ∃ n : Nat, (n : Int) = c := ⟨c.toNat, by omega⟩
  refine (Last_st g n (by omega) F s w h).mono ?_
  rintro e w' ⟨A, k, rfl, hb⟩
  exact ⟨⟨A, k, rfl⟩, hb⟩
theorem Same_none (r : Rep) (A B : Option Addr) (ca cb : Nat) (w : World) :
    Calls Try.prog 15 #[.agg #[.int .i64 r.code, .int .i64 r.ver, .string r.data, .slice A 0 ca], .agg #[.int .i64 r.code, .int .i64 r.ver, .string r.data, .slice B 0 cb]] w fun e w' => e = .returned (.bool true) ∧ Old w w' := by
  have := SameReply_any ⟨r.code, r.ver, r.data, []⟩ ⟨r.code, r.ver, r.data, []⟩ A B 0 0 ca cb w (CellsAt.nil _ _) (CellsAt.nil _ _) rfl rfl (by omega) (by omega)
  have e : (⟨r.code, r.ver, r.data, []⟩ : Rep).same ⟨r.code, r.ver, r.data, []⟩ = true := by simp [Rep.same]
  rw [e] at this
  exact this

set_option maxRecDepth 100000 in
set_option maxHeartbeats 4000000 in
theorem Once_walk (A0 : Option Addr) (n k0 : Nat) (qs : List ReqV) (hl : n = qs.length) (hn : n ≤ 9223372036854775807) (w : World) (hQ : ReqsAt w A0 qs) :
    Calls Try.prog 4 #[.slice A0 n k0] w fun e w' => e = .returned (.bool true) ∧ Old w w' := by
  obtain ⟨f1, hf1⟩ : ∃ f, few5 qs = f := ⟨_, rfl⟩
  have cF1 := hide (fun (W : World) (h : Old w W) => few5_any A0 n k0 qs f1 hf1 hl hn W (CellsAt.old hQ h))
  have HL := hide hl
  clear hl hf1
  by_cases hgo : f1 = true ∧ n ≤ 100
  · obtain ⟨rfl, hn100⟩ := hgo
    have hn100' : (n : Int) ≤ 100 := by omega
    go_enter Try.func4, Try.ntmps4
    go_wp2_with fail
    refine (New_st 9 (by omega) _).mono ?_
    rintro e w1 ⟨rfl, st1, o1⟩
    have hp : One w w1 w.heap.size (runS 9 (qs.take 0)) := ⟨_, st1, fun k hk => by omega, o1⟩
    obtain ⟨g, hg⟩ : ∃ g, w.heap.size = g := ⟨_, rfl⟩
    simp only [hg] at hp ⊢
    clear hg st1 o1
    have o12 := hp.o
    go_wp2_with (go_at_call 11; (with_reducible refine (cF1.out _ o12).mono ?_); rintro e w3 ⟨rfl, rfl⟩)
    clear o12
    go_loopw [5, 6] (fun dv iv wr => ∃ k : Nat, k ≤ n ∧ dv = .int .i64 (runS 9 (qs.take k)).n ∧ iv = .int .i64 k ∧ One w wr g (runS 9 (qs.take k))) (fun _ iv _ => n - (intOf iv).toNat)
    case atStart => exact ⟨0, Nat.zero_le _, rfl, rfl, hp⟩
    case round =>
      clear hp
      obtain ⟨k, hk, rfl, rfl, pr⟩ := hrel
      by_cases hlt : k < n
      · have hkq : k < qs.length := by have := HL.out; omega
        obtain ⟨b, o, rfl, hb, hc⟩ := hQ.at5 (k := k) hkq
        obtain ⟨x, hx⟩ : ∃ x, qs[k]?.getD default = x := ⟨_, rfl⟩
        rw [hx] at hc
        have hxx : qs[k] = x := by rw [List.getElem?_eq_getElem hkq] at hx; simpa using hx
        have htk : runS 9 (qs.take (k + 1)) = (runS 9 (qs.take k)).put x.q := by rw [List.take_succ_eq_append_getElem hkq, hxx, runS_snoc]
        have HTK := hide htk
        obtain ⟨hok, hsn, -⟩ := runS_ok 9 (qs.take k)
        rw [List.length_take] at hsn
        obtain ⟨s0, hs0⟩ : ∃ s, runS 9 (qs.take k) = s := ⟨_, rfl⟩
        rw [hs0] at pr hsn hok
        simp only [hs0]
        have HS0 := hide hs0
        obtain ⟨nz, hnz⟩ : ∃ nz : Nat, s0.n = nz := ⟨_, rfl⟩
        obtain ⟨c0, hc0⟩ : ∃ c, (s0.rep x.q).code = c := ⟨_, rfl⟩
        obtain ⟨v0, hv0⟩ : ∃ c, (s0.rep x.q).ver = c := ⟨_, rfl⟩
        obtain ⟨d0, hd0⟩ : ∃ c, (s0.rep x.q).data = c := ⟨_, rfl⟩
        obtain ⟨E, hE⟩ : ∃ c, s0.err x.q = c := ⟨_, rfl⟩
        obtain ⟨s1, hs1⟩ : ∃ c, s0.put x.q = c := ⟨_, rfl⟩
        obtain ⟨sq, hsq⟩ : ∃ v, seqAt s0 x.client = v := ⟨_, rfl⟩
        obtain ⟨bs, hbs⟩ : ∃ bs, s0.bytes = bs := ⟨_, rfl⟩
        obtain ⟨m, hm⟩ : ∃ m, bs.length = m := ⟨_, rfl⟩
        have cell : ∀ W, Old w W → W.cell? ⟨b, o + k * 6, none⟩ = some (.int .i64 x.client) ∧ W.cell? ⟨b, o + k * 6 + 1, none⟩ = some (.int .i64 x.seq) ∧ W.cell? ⟨b, o + k * 6 + 2, none⟩ = some (.int .i64 x.kind) ∧ W.cell? ⟨b, o + k * 6 + 3, none⟩ = some (.int .i64 x.id) ∧ W.cell? ⟨b, o + k * 6 + 4, none⟩ = some (.int .i64 x.mat) ∧ W.cell? ⟨b, o + k * 6 + 5, none⟩ = some (.string x.data) := fun W hW =>
          ⟨(hW.cell (p := ⟨b, o + k * 6, none⟩) hb).trans (hc 0 _ (by omega) rfl), (hW.cell (p := ⟨b, o + k * 6 + 1, none⟩) hb).trans (hc 1 _ (by omega) rfl), (hW.cell (p := ⟨b, o + k * 6 + 2, none⟩) hb).trans (hc 2 _ (by omega) rfl), (hW.cell (p := ⟨b, o + k * 6 + 3, none⟩) hb).trans (hc 3 _ (by omega) rfl), (hW.cell (p := ⟨b, o + k * 6 + 4, none⟩) hb).trans (hc 4 _ (by omega) rfl), (hW.cell (p := ⟨b, o + k * 6 + 5, none⟩) hb).trans (hc 5 _ (by omega) rfl)⟩
        have HC := hide cell
        have HS1 := hide hs1
        have HNZ := hide hnz
        have HE := hide hE
        obtain ⟨W9, rfl⟩ : ∃ W, W = wr := ⟨_, rfl⟩
        obtain ⟨F, sa, hF, hO⟩ := pr
        have HO := hide hO
        have cB := hide (fun (W : World) (h : Old W9 W) => by have := Bytes_st g F s0 (by omega) hok W (sa.old h); rw [hbs, hm] at this; exact this)
        have cQ := hide (fun (W : World) (h : Old W9 W) => Seq_at g F s0 x.client sq hsq W (sa.old h))
        have pr : One w W9 g s0 := ⟨F, sa, hF, hO⟩
        have c1 := hide (fun (W : World) (h : One w W g s0) => h.put x c0 v0 E d0 s1 hc0 hv0 hd0 hE hs1 (by omega))
        have cB2 := hide (fun (W : World) (F : Nat → Prop) (h : StAt W g F s0) => by have := Bytes_st g F s0 (by omega) hok W h; rw [hbs, hm] at this; exact this)
        have HSQ := hide hsq
        have HOK := hide hok
        have PR := hide pr
        simp only [hnz]
        have hnz9 : nz ≤ 100 := by omega
        clear hx hxx htk hs0 hs1 hnz hc0 hv0 hd0 hE hsq hbs cell hc sa hF hO pr hok hsn
        go_wp2_with fail
        refine region_steps (R := pick [eqv (.pointer (some ⟨g, 0, none⟩)), fun v w' => ∃ A c, v = .slice A m c ∧ CellsAt w' A (u8s bs), eqv (.string (strOfNums bs)), eqv (.pointer (some ⟨g, 0, none⟩)), eqv (.slice (some ⟨b, o, none⟩) n k0), eqv (.int .i64 k), eqv (.pointer (some ⟨b, o + k * 6, none⟩)), eqv (.pointer (some ⟨b, o + k * 6, none⟩)), eqv (.int .i64 x.client), eqv (.int .i64 sq), eqv (.string (strOfNums bs)), eqv (.int .i64 sq)]) (S := fun _ w' => Old W9 w') (T := Old) (by kernel_rfl) (by kernel_rfl) (by kernel_rfl) (Stab.pick (Stab.eqv (Stab.cons (fun v w w' ht ⟨A, c, h, i⟩ => ⟨A, c, h, i.old ht⟩) (Stab.eqv (Stab.eqv (Stab.eqv (Stab.eqv (Stab.eqv (Stab.eqv (Stab.eqv (Stab.eqv (Stab.eqv (Stab.eqv (Stab.nil)))))))))))))) ((Old.refl' _).drew') ?steps ?ends
        case steps =>
          refine StepsOk.cons (stepOk_pure [] [(3, .pointer (some ⟨g, 0, none⟩))] rfl rfl (by kernel_rfl) (by kernel_rfl) rfl Old.refl' (fun _ _ _ h => h) (fun d E w' hk hda hS hc hf => by rintro  e3; exact ⟨_, by go_simp, rfl⟩)) ?_
          refine StepsOk.cons (stepOk_mk [(0, 42)] [] rfl rfl (by kernel_rfl) (by kernel_rfl) rfl ?_) ?_
          · rintro d a w' hk hda hS _ q0 rfl e42 
            first | refine Given.nil (Known.nil ?_) | refine Known.nil ?_
            refine wp_call 18 _ Try.func18 (by kernel_rfl) (by kernel_rfl) _ _ (by rfl) [.pointer (some ⟨g, 0, none⟩)] (by simp only [List.map_cons, List.map_nil, *]; try rfl) (cB.out _ hS) ?_
            rintro e w1 ⟨Aa, ca, rfl, ho, f4⟩
            exact ⟨_, rfl, _, rfl, ⟨Aa, ca, rfl, CellsAt.of_own ho⟩, f4, hS.trans' f4⟩
          refine StepsOk.cons (stepOk_pure [(1, 43)] [] rfl rfl (by kernel_rfl) (by kernel_rfl) rfl Old.refl' (fun _ _ _ h => h) (fun d E w' hk hda hS hc hf => by rintro _ q1 ⟨Aa, ca, rfl, ia⟩ e43 ; obtain ⟨x0, x1, x2, x3, x4, x5⟩ := HC.out _ (HO.out.trans' hS); have hs := run_str m ca hm ia; exact ⟨_, by go_simp, rfl⟩)) ?_
          refine StepsOk.cons (stepOk_pure [] [(3, .pointer (some ⟨g, 0, none⟩))] rfl rfl (by kernel_rfl) (by kernel_rfl) rfl Old.refl' (fun _ _ _ h => h) (fun d E w' hk hda hS hc hf => by rintro  e3; exact ⟨_, by go_simp, rfl⟩)) ?_
          refine StepsOk.cons (stepOk_pure [] [(0, .slice (some ⟨b, o, none⟩) n k0)] rfl rfl (by kernel_rfl) (by kernel_rfl) rfl Old.refl' (fun _ _ _ h => h) (fun d E w' hk hda hS hc hf => by rintro  e0; exact ⟨_, by go_simp, rfl⟩)) ?_
          refine StepsOk.cons (stepOk_pure [] [(6, .int .i64 k)] rfl rfl (by kernel_rfl) (by kernel_rfl) rfl Old.refl' (fun _ _ _ h => h) (fun d E w' hk hda hS hc hf => by rintro  e6; exact ⟨_, by go_simp, rfl⟩)) ?_
          refine StepsOk.cons (stepOk_pure [(4, 46), (5, 47)] [] rfl rfl (by kernel_rfl) (by kernel_rfl) rfl Old.refl' (fun _ _ _ h => h) (fun d E w' hk hda hS hc hf => by rintro _ q4 rfl e46 _ q5 rfl e47 ; obtain ⟨x0, x1, x2, x3, x4, x5⟩ := HC.out _ (HO.out.trans' hS); exact ⟨_, by go_simp, rfl⟩)) ?_
          refine StepsOk.cons (stepOk_pure [(6, 48)] [] rfl rfl (by kernel_rfl) (by kernel_rfl) rfl Old.refl' (fun _ _ _ h => h) (fun d E w' hk hda hS hc hf => by rintro _ q6 rfl e48 ; exact ⟨_, by go_simp, rfl⟩)) ?_
          refine StepsOk.cons (stepOk_pure [(7, 49)] [] rfl rfl (by kernel_rfl) (by kernel_rfl) rfl Old.refl' (fun _ _ _ h => h) (fun d E w' hk hda hS hc hf => by rintro _ q7 rfl e49 ; obtain ⟨x0, x1, x2, x3, x4, x5⟩ := HC.out _ (HO.out.trans' hS); exact ⟨_, by go_simp, rfl⟩)) ?_
          refine StepsOk.cons (stepOk_mk [(3, 45), (8, 50)] [] rfl rfl (by kernel_rfl) (by kernel_rfl) rfl ?_) ?_
          · rintro d a w' hk hda hS _ q3 rfl e45 _ q8 rfl e50 
            first | refine Given.nil (Known.nil ?_) | refine Known.nil ?_
            refine wp_call 19 _ Try.func19 (by kernel_rfl) (by kernel_rfl) _ _ (by rfl) [.pointer (some ⟨g, 0, none⟩), .int .i64 x.client] (by simp only [List.map_cons, List.map_nil, *]; try rfl) (cQ.out _ hS) ?_
            rintro e w1 ⟨rfl, f4⟩
            exact ⟨_, rfl, _, rfl, rfl, f4, hS.trans' f4⟩
          refine StepsOk.cons (stepOk_pure [(2, 44)] [] rfl rfl (by kernel_rfl) (by kernel_rfl) rfl Old.refl' (fun _ _ _ h => h) (fun d E w' hk hda hS hc hf => by rintro _ q2 rfl e44 ; exact ⟨_, by go_simp, rfl⟩)) ?_
          refine StepsOk.cons (stepOk_pure [(9, 51)] [] rfl rfl (by kernel_rfl) (by kernel_rfl) rfl Old.refl' (fun _ _ _ h => h) (fun d E w' hk hda hS hc hf => by rintro _ q9 rfl e51 ; exact ⟨_, by go_simp, rfl⟩)) ?_
          exact StepsOk.nil
        case ends =>
          intro σ9 w9 hS9 hA9
          refine Ends.eqv (some 42) (.pointer (some ⟨g, 0, none⟩)) rfl (fun _ h => h) ?_
          refine Ends.ex (some 43) rfl ?_
          rintro _ p1 ⟨Aa, ca, rfl, ia⟩
          refine Ends.eqv (some 44) (.string (strOfNums bs)) rfl (fun _ h => h) ?_
          refine Ends.eqv (some 45) (.pointer (some ⟨g, 0, none⟩)) rfl (fun _ h => h) ?_
          refine Ends.eqv (some 46) (.slice (some ⟨b, o, none⟩) n k0) rfl (fun _ h => h) ?_
          refine Ends.eqv (some 47) (.int .i64 k) rfl (fun _ h => h) ?_
          refine Ends.eqv (some 48) (.pointer (some ⟨b, o + k * 6, none⟩)) rfl (fun _ h => h) ?_
          refine Ends.eqv (some 49) (.pointer (some ⟨b, o + k * 6, none⟩)) rfl (fun _ h => h) ?_
          refine Ends.eqv (some 50) (.int .i64 x.client) rfl (fun _ h => h) ?_
          refine Ends.eqv (some 51) (.int .i64 sq) rfl (fun _ h => h) ?_
          refine Ends.eqv (some 7) (.string (strOfNums bs)) rfl (fun _ h => h) ?_
          refine Ends.eqv (some 8) (.int .i64 sq) rfl (fun _ h => h) ?_
          refine Ends.nil ?_
          clear hA9
          simp only [put_lit, put_none, List.set_cons_zero, List.set_cons_succ]
          have o9 := hS9
          have p9 := PR.out.old o9
          obtain ⟨x0, x1, x2, x3, x4, x5⟩ := HC.out _ p9.o
          go_wp2_with fail
          refine (c1.out _ p9).mono ?_
          rintro e w4 ⟨⟨A4, c4, rfl⟩, p4⟩
          have p5 := p4.old ((Old.refl' w4).alloc' (.cells #[.int .i64 c0, .int .i64 v0, .string d0, .slice A4 0 c4] 32))
          clear x0 x1 x2 x3 x4 x5 p9 p4
          by_cases hE0 : E = 0
          · subst hE0
            obtain ⟨-, hcl0, hsl, -⟩ := err0 HE.out
            have hcl : 0 ≤ x.client ∧ x.client < 4 := hcl0
            clear hcl0
            have he := put_yes HE.out
            obtain ⟨a1, a2, a3⟩ := again HE.out
            have eme := done_me s0 x.q
            rw [HS1.out] at he
            rw [← he] at a1 a2 a3 eme
            obtain ⟨n1, hn1⟩ : ∃ n1 : Int, (nz : Int) + 1 = n1 := ⟨_, rfl⟩
            have hs1n : (s1.n : Int) = n1 := by rw [he]; show ((s0.n + 1 : Nat) : Int) = n1; rw [HNZ.out]; omega
            have hlt1 : sq < x.seq := by have := HSQ.out; unfold seqAt at this; rw [if_pos hcl] at this; rw [← this]; exact hsl
            have hq1 : seqAt s1 x.client = x.seq := by unfold seqAt; rw [if_pos hcl]; exact congrArg Sess.seq eme
            obtain ⟨r, hr⟩ : ∃ r, s0.doRep x.q = r := ⟨_, rfl⟩
            have hpl : ((s1.ss x.client).place : Int) = n1 := by rw [show s1.ss x.client = _ from eme]; show ((s0.n + 1 : Nat) : Int) = n1; rw [HNZ.out]; omega
            have hre : (s1.ss x.client).rep = r := by rw [show s1.ss x.client = _ from eme]; exact hr
            have hsn1 : s1.n ≤ 50000 := by omega
            have cL := hide (fun (W : World) (h : One w W g s1) => by obtain ⟨F, h1, -, -⟩ := h; exact Last_in g F s1 x.client hcl n1 r hpl hre W h1)
            have hns : ¬ (s1.ss x.q.client).seq < x.q.seq := by rw [show s1.ss x.q.client = _ from eme]; exact Int.lt_irrefl _
            have hmw := (err0 HE.out).2.2.2
            have c2 := hide (fun (W : World) (h : One w W g s1) => by obtain ⟨F, h1, -, -⟩ := h; exact Put_order g F s1 x.q hmw hns W h1)
            simp only [Q.v, ReqV.q] at c2
            obtain ⟨W8, hW8⟩ : ∃ W, W = w4.alloc (.cells #[.int .i64 c0, .int .i64 v0, .string d0, .slice A4 0 c4] 32) := ⟨_, rfl⟩
            rw [← hW8] at p5
            have HW8 := hide hW8
            clear hW8
            obtain ⟨F8, s8, hF8, hO8⟩ := p5
            have HO1 := hide hO8
            have cQ1 := hide (fun (W : World) (h : Old W8 W) => Seq_at g F8 s1 x.client x.seq hq1 W (s8.old h))
            have cN1 := hide (fun (W : World) (h : Old W8 W) => by have := Len_st g F8 s1 W (s8.old h); rw [hs1n] at this; exact this)
            have PR8 := hide (show One w W8 g s1 from ⟨F8, s8, hF8, hO8⟩)
            have HN1 := hide hs1n
            clear hcl hsl he a1 a2 a3 eme hq1 hr hpl hre hsn1 s8 hF8 hO8 hs1n hns hmw
            have hneg : ¬ (x.seq ≤ sq) := by omega
            have hn1b : n1 ≤ 101 := by omega
            have hn1c : 1 ≤ n1 := by omega
            go_wp2_with fail
            try simp only [hn1]
            rw [← HW8.out]
            clear HW8
            refine region_steps (R := pick [eqv (.slice (some ⟨b, o, none⟩) n k0), eqv (.int .i64 k), eqv (.pointer (some ⟨b, o + k * 6, none⟩)), eqv (.pointer (some ⟨b, o + k * 6 + 1, none⟩)), eqv (.int .i64 x.seq), eqv (.int .i64 sq), eqv (.bool false), eqv (.bool false), eqv (.pointer (some ⟨g, 0, none⟩)), eqv (.slice (some ⟨b, o, none⟩) n k0), eqv (.int .i64 k), eqv (.pointer (some ⟨b, o + k * 6, none⟩)), eqv (.pointer (some ⟨b, o + k * 6, none⟩)), eqv (.int .i64 x.client), eqv (.int .i64 x.seq), eqv (.slice (some ⟨b, o, none⟩) n k0), eqv (.int .i64 k), eqv (.pointer (some ⟨b, o + k * 6, none⟩)), eqv (.pointer (some ⟨b, o + k * 6 + 1, none⟩)), eqv (.int .i64 x.seq), eqv (.bool false), eqv (.bool false), eqv (.bool false), eqv (.pointer (some ⟨g, 0, none⟩)), eqv (.int .i64 n1), eqv (.int .i64 n1), eqv (.bool false), eqv (.bool false)]) (S := fun _ w' => Old W8 w') (T := Old) (by kernel_rfl) (by kernel_rfl) (by kernel_rfl) (Stab.pick (Stab.eqv (Stab.eqv (Stab.eqv (Stab.eqv (Stab.eqv (Stab.eqv (Stab.eqv (Stab.eqv (Stab.eqv (Stab.eqv (Stab.eqv (Stab.eqv (Stab.eqv (Stab.eqv (Stab.eqv (Stab.eqv (Stab.eqv (Stab.eqv (Stab.eqv (Stab.eqv (Stab.eqv (Stab.eqv (Stab.eqv (Stab.eqv (Stab.eqv (Stab.eqv (Stab.eqv (Stab.eqv (Stab.nil)))))))))))))))))))))))))))))) ((Old.refl' _).drew') ?steps ?ends
            case steps =>
              refine StepsOk.cons (stepOk_pure [] [(0, .slice (some ⟨b, o, none⟩) n k0)] rfl rfl (by kernel_rfl) (by kernel_rfl) rfl Old.refl' (fun _ _ _ h => h) (fun d E w' hk hda hS hc hf => by rintro  e0; exact ⟨_, by go_simp, rfl⟩)) ?_
              refine StepsOk.cons (stepOk_pure [] [(6, .int .i64 k)] rfl rfl (by kernel_rfl) (by kernel_rfl) rfl Old.refl' (fun _ _ _ h => h) (fun d E w' hk hda hS hc hf => by rintro  e6; exact ⟨_, by go_simp, rfl⟩)) ?_
              refine StepsOk.cons (stepOk_pure [(0, 70), (1, 71)] [] rfl rfl (by kernel_rfl) (by kernel_rfl) rfl Old.refl' (fun _ _ _ h => h) (fun d E w' hk hda hS hc hf => by rintro _ q0 rfl e70 _ q1 rfl e71 ; obtain ⟨x0, x1, x2, x3, x4, x5⟩ := HC.out _ (HO1.out.trans' hS); exact ⟨_, by go_simp, rfl⟩)) ?_
              refine StepsOk.cons (stepOk_pure [(2, 72)] [] rfl rfl (by kernel_rfl) (by kernel_rfl) rfl Old.refl' (fun _ _ _ h => h) (fun d E w' hk hda hS hc hf => by rintro _ q2 rfl e72 ; exact ⟨_, by go_simp, rfl⟩)) ?_
              refine StepsOk.cons (stepOk_pure [(3, 73)] [] rfl rfl (by kernel_rfl) (by kernel_rfl) rfl Old.refl' (fun _ _ _ h => h) (fun d E w' hk hda hS hc hf => by rintro _ q3 rfl e73 ; obtain ⟨x0, x1, x2, x3, x4, x5⟩ := HC.out _ (HO1.out.trans' hS); exact ⟨_, by go_simp, rfl⟩)) ?_
              refine StepsOk.cons (stepOk_pure [] [(8, .int .i64 sq)] rfl rfl (by kernel_rfl) (by kernel_rfl) rfl Old.refl' (fun _ _ _ h => h) (fun d E w' hk hda hS hc hf => by rintro  e8; exact ⟨_, by go_simp, rfl⟩)) ?_
              refine StepsOk.cons (stepOk_pure [(4, 74), (5, 75)] [] rfl rfl (by kernel_rfl) (by kernel_rfl) rfl Old.refl' (fun _ _ _ h => h) (fun d E w' hk hda hS hc hf => by rintro _ q4 rfl e74 _ q5 rfl e75 ; exact ⟨_, by go_simp, rfl⟩)) ?_
              refine StepsOk.cons (stepOk_pure [(6, 76)] [] rfl rfl (by kernel_rfl) (by kernel_rfl) rfl Old.refl' (fun _ _ _ h => h) (fun d E w' hk hda hS hc hf => by rintro _ q6 rfl e76 ; exact ⟨_, by go_simp, rfl⟩)) ?_
              refine StepsOk.cons (stepOk_pureG 7 77 false rfl rfl (by kernel_rfl) (fun _ _ h => h) [] [(3, .pointer (some ⟨g, 0, none⟩))] (by kernel_rfl) (by kernel_rfl) rfl Old.refl' (fun _ _ _ h => h) (fun d E w' hk hda hS hc hf => by rintro  e3; exact ⟨_, by go_simp, rfl⟩)) ?_
              refine StepsOk.cons (stepOk_pureG 7 77 false rfl rfl (by kernel_rfl) (fun _ _ h => h) [] [(0, .slice (some ⟨b, o, none⟩) n k0)] (by kernel_rfl) (by kernel_rfl) rfl Old.refl' (fun _ _ _ h => h) (fun d E w' hk hda hS hc hf => by rintro  e0; exact ⟨_, by go_simp, rfl⟩)) ?_
              refine StepsOk.cons (stepOk_pureG 7 77 false rfl rfl (by kernel_rfl) (fun _ _ h => h) [] [(6, .int .i64 k)] (by kernel_rfl) (by kernel_rfl) rfl Old.refl' (fun _ _ _ h => h) (fun d E w' hk hda hS hc hf => by rintro  e6; exact ⟨_, by go_simp, rfl⟩)) ?_
              refine StepsOk.cons (stepOk_pureG 7 77 false rfl rfl (by kernel_rfl) (fun _ _ h => h) [(9, 79), (10, 80)] [] (by kernel_rfl) (by kernel_rfl) rfl Old.refl' (fun _ _ _ h => h) (fun d E w' hk hda hS hc hf => by rintro _ q9 rfl e79 _ q10 rfl e80 ; obtain ⟨x0, x1, x2, x3, x4, x5⟩ := HC.out _ (HO1.out.trans' hS); exact ⟨_, by go_simp, rfl⟩)) ?_
              refine StepsOk.cons (stepOk_pureG 7 77 false rfl rfl (by kernel_rfl) (fun _ _ h => h) [(11, 81)] [] (by kernel_rfl) (by kernel_rfl) rfl Old.refl' (fun _ _ _ h => h) (fun d E w' hk hda hS hc hf => by rintro _ q11 rfl e81 ; exact ⟨_, by go_simp, rfl⟩)) ?_
              refine StepsOk.cons (stepOk_pureG 7 77 false rfl rfl (by kernel_rfl) (fun _ _ h => h) [(12, 82)] [] (by kernel_rfl) (by kernel_rfl) rfl Old.refl' (fun _ _ _ h => h) (fun d E w' hk hda hS hc hf => by rintro _ q12 rfl e82 ; obtain ⟨x0, x1, x2, x3, x4, x5⟩ := HC.out _ (HO1.out.trans' hS); exact ⟨_, by go_simp, rfl⟩)) ?_
              refine StepsOk.cons (stepOk_guard 7 77 false rfl rfl (by kernel_rfl) (fun _ _ h => h) [(8, 78), (13, 83)] [] (by kernel_rfl) (by kernel_rfl) rfl ?_) ?_
              · rintro d a w' hk hda hS _ q8 rfl e78 _ q13 rfl e83 
                first | refine Given.nil (Known.nil ?_) | refine Known.nil ?_
                refine wp_call 19 _ Try.func19 (by kernel_rfl) (by kernel_rfl) _ _ (by rfl) [.pointer (some ⟨g, 0, none⟩), .int .i64 x.client] (by simp only [List.map_cons, List.map_nil, *]; try rfl) (cQ1.out _ hS) ?_
                rintro e w1 ⟨rfl, f4⟩
                exact ⟨_, rfl, _, rfl, rfl, f4, hS.trans' f4⟩
              refine StepsOk.cons (stepOk_pureG 7 77 false rfl rfl (by kernel_rfl) (fun _ _ h => h) [] [(0, .slice (some ⟨b, o, none⟩) n k0)] (by kernel_rfl) (by kernel_rfl) rfl Old.refl' (fun _ _ _ h => h) (fun d E w' hk hda hS hc hf => by rintro  e0; exact ⟨_, by go_simp, rfl⟩)) ?_
              refine StepsOk.cons (stepOk_pureG 7 77 false rfl rfl (by kernel_rfl) (fun _ _ h => h) [] [(6, .int .i64 k)] (by kernel_rfl) (by kernel_rfl) rfl Old.refl' (fun _ _ _ h => h) (fun d E w' hk hda hS hc hf => by rintro  e6; exact ⟨_, by go_simp, rfl⟩)) ?_
              refine StepsOk.cons (stepOk_pureG 7 77 false rfl rfl (by kernel_rfl) (fun _ _ h => h) [(15, 85), (16, 86)] [] (by kernel_rfl) (by kernel_rfl) rfl Old.refl' (fun _ _ _ h => h) (fun d E w' hk hda hS hc hf => by rintro _ q15 rfl e85 _ q16 rfl e86 ; obtain ⟨x0, x1, x2, x3, x4, x5⟩ := HC.out _ (HO1.out.trans' hS); exact ⟨_, by go_simp, rfl⟩)) ?_
              refine StepsOk.cons (stepOk_pureG 7 77 false rfl rfl (by kernel_rfl) (fun _ _ h => h) [(17, 87)] [] (by kernel_rfl) (by kernel_rfl) rfl Old.refl' (fun _ _ _ h => h) (fun d E w' hk hda hS hc hf => by rintro _ q17 rfl e87 ; exact ⟨_, by go_simp, rfl⟩)) ?_
              refine StepsOk.cons (stepOk_pureG 7 77 false rfl rfl (by kernel_rfl) (fun _ _ h => h) [(18, 88)] [] (by kernel_rfl) (by kernel_rfl) rfl Old.refl' (fun _ _ _ h => h) (fun d E w' hk hda hS hc hf => by rintro _ q18 rfl e88 ; obtain ⟨x0, x1, x2, x3, x4, x5⟩ := HC.out _ (HO1.out.trans' hS); exact ⟨_, by go_simp, rfl⟩)) ?_
              refine StepsOk.cons (stepOk_pureG 7 77 false rfl rfl (by kernel_rfl) (fun _ _ h => h) [(14, 84), (19, 89)] [] (by kernel_rfl) (by kernel_rfl) rfl Old.refl' (fun _ _ _ h => h) (fun d E w' hk hda hS hc hf => by rintro _ q14 rfl e84 _ q19 rfl e89 ; exact ⟨_, by go_simp, rfl⟩)) ?_
              refine StepsOk.cons (stepOk_pure [(7, 77), (20, 90)] [] rfl rfl (by kernel_rfl) (by kernel_rfl) rfl Old.refl' (fun _ _ _ h => h) (fun d E w' hk hda hS hc hf => by rintro _ q7 rfl e77 _ q20 rfl e90 ; exact ⟨_, by go_simp, rfl⟩)) ?_
              refine StepsOk.cons (stepOk_pure [(21, 91)] [] rfl rfl (by kernel_rfl) (by kernel_rfl) rfl Old.refl' (fun _ _ _ h => h) (fun d E w' hk hda hS hc hf => by rintro _ q21 rfl e91 ; exact ⟨_, by go_simp, rfl⟩)) ?_
              refine StepsOk.cons (stepOk_pureG 22 92 false rfl rfl (by kernel_rfl) (fun _ _ h => h) [] [(3, .pointer (some ⟨g, 0, none⟩))] (by kernel_rfl) (by kernel_rfl) rfl Old.refl' (fun _ _ _ h => h) (fun d E w' hk hda hS hc hf => by rintro  e3; exact ⟨_, by go_simp, rfl⟩)) ?_
              refine StepsOk.cons (stepOk_guard 22 92 false rfl rfl (by kernel_rfl) (fun _ _ h => h) [(23, 93)] [] (by kernel_rfl) (by kernel_rfl) rfl ?_) ?_
              · rintro d a w' hk hda hS _ q23 rfl e93 
                first | refine Given.nil (Known.nil ?_) | refine Known.nil ?_
                refine wp_call 20 _ Try.func20 (by kernel_rfl) (by kernel_rfl) _ _ (by rfl) [.pointer (some ⟨g, 0, none⟩)] (by simp only [List.map_cons, List.map_nil, *]; try rfl) (cN1.out _ hS) ?_
                rintro e w1 ⟨rfl, rfl⟩
                exact ⟨_, rfl, _, rfl, rfl, Old.refl' _, hS⟩
              refine StepsOk.cons (stepOk_pureG 22 92 false rfl rfl (by kernel_rfl) (fun _ _ h => h) [] [(5, .int .i64 n1)] (by kernel_rfl) (by kernel_rfl) rfl Old.refl' (fun _ _ _ h => h) (fun d E w' hk hda hS hc hf => by rintro  e5; exact ⟨_, by go_simp, rfl⟩)) ?_
              refine StepsOk.cons (stepOk_pureG 22 92 false rfl rfl (by kernel_rfl) (fun _ _ h => h) [(24, 94), (25, 95)] [] (by kernel_rfl) (by kernel_rfl) rfl Old.refl' (fun _ _ _ h => h) (fun d E w' hk hda hS hc hf => by rintro _ q24 rfl e94 _ q25 rfl e95 ; exact ⟨_, by go_simp, rfl⟩)) ?_
              refine StepsOk.cons (stepOk_pure [(22, 92), (26, 96)] [] rfl rfl (by kernel_rfl) (by kernel_rfl) rfl Old.refl' (fun _ _ _ h => h) (fun d E w' hk hda hS hc hf => by rintro _ q22 rfl e92 _ q26 rfl e96 ; exact ⟨_, by go_simp, rfl⟩)) ?_
              exact StepsOk.nil
            case ends =>
              intro σ9 w9 hS9 hA9
              refine Ends.eqv (some 70) (.slice (some ⟨b, o, none⟩) n k0) rfl (fun _ h => h) ?_
              refine Ends.eqv (some 71) (.int .i64 k) rfl (fun _ h => h) ?_
              refine Ends.eqv (some 72) (.pointer (some ⟨b, o + k * 6, none⟩)) rfl (fun _ h => h) ?_
              refine Ends.eqv (some 73) (.pointer (some ⟨b, o + k * 6 + 1, none⟩)) rfl (fun _ h => h) ?_
              refine Ends.eqv (some 74) (.int .i64 x.seq) rfl (fun _ h => h) ?_
              refine Ends.eqv (some 75) (.int .i64 sq) rfl (fun _ h => h) ?_
              refine Ends.eqv (some 76) (.bool false) rfl (fun _ h => h) ?_
              refine Ends.eqv (some 77) (.bool false) rfl (fun _ h => h) ?_
              refine Ends.eqv (some 78) (.pointer (some ⟨g, 0, none⟩)) rfl (fun _ h => h) ?_
              refine Ends.eqv (some 79) (.slice (some ⟨b, o, none⟩) n k0) rfl (fun _ h => h) ?_
              refine Ends.eqv (some 80) (.int .i64 k) rfl (fun _ h => h) ?_
              refine Ends.eqv (some 81) (.pointer (some ⟨b, o + k * 6, none⟩)) rfl (fun _ h => h) ?_
              refine Ends.eqv (some 82) (.pointer (some ⟨b, o + k * 6, none⟩)) rfl (fun _ h => h) ?_
              refine Ends.eqv (some 83) (.int .i64 x.client) rfl (fun _ h => h) ?_
              refine Ends.eqv (some 84) (.int .i64 x.seq) rfl (fun _ h => h) ?_
              refine Ends.eqv (some 85) (.slice (some ⟨b, o, none⟩) n k0) rfl (fun _ h => h) ?_
              refine Ends.eqv (some 86) (.int .i64 k) rfl (fun _ h => h) ?_
              refine Ends.eqv (some 87) (.pointer (some ⟨b, o + k * 6, none⟩)) rfl (fun _ h => h) ?_
              refine Ends.eqv (some 88) (.pointer (some ⟨b, o + k * 6 + 1, none⟩)) rfl (fun _ h => h) ?_
              refine Ends.eqv (some 89) (.int .i64 x.seq) rfl (fun _ h => h) ?_
              refine Ends.eqv (some 90) (.bool false) rfl (fun _ h => h) ?_
              refine Ends.eqv (some 91) (.bool false) rfl (fun _ h => h) ?_
              refine Ends.eqv (some 92) (.bool false) rfl (fun _ h => h) ?_
              refine Ends.eqv (some 93) (.pointer (some ⟨g, 0, none⟩)) rfl (fun _ h => h) ?_
              refine Ends.eqv (some 94) (.int .i64 n1) rfl (fun _ h => h) ?_
              refine Ends.eqv (some 95) (.int .i64 n1) rfl (fun _ h => h) ?_
              refine Ends.eqv (some 96) (.bool false) rfl (fun _ h => h) ?_
              refine Ends.eqv (some 97) (.bool false) rfl (fun _ h => h) ?_
              refine Ends.nil ?_
              clear hA9
              simp only [put_lit, put_none, List.set_cons_zero, List.set_cons_succ]
              have o8 := hS9
              have p8 := PR8.out.old o8
              obtain ⟨x0, x1, x2, x3, x4, x5⟩ := HC.out _ p8.o
              go_wp2_with fail
              refine (cL.out _ p8).mono ?_
              rintro e w5 ⟨⟨A5, c5, rfl⟩, b5⟩
              have hk5 := Bk.new w5 32 #[.int .i64 r.code, .int .i64 r.ver, .string r.data, .slice A5 0 c5]
              have p5 := (p8.old b5).old ((Old.refl' w5).alloc' (.cells #[.int .i64 r.code, .int .i64 r.ver, .string r.data, .slice A5 0 c5] 32))
              clear x0 x1 x2 x3 x4 x5 p8 b5
              obtain ⟨x0, x1, x2, x3, x4, x5⟩ := HC.out _ p5.o
              go_wp2_with fail
              refine (c2.out _ p5).mono ?_
              rintro e w6 ⟨rfl, b6⟩
              have bz := b6.alloc' (.cells #[.int .i64 0, .int .i64 0, .string ByteArray.empty, .slice none 0 0] 32)
              have p6 := p5.old bz
              have hk6 := hk5.old bz
              clear x0 x1 x2 x3 x4 x5 p5 hk5 bz b6
              obtain ⟨x0, x1, x2, x3, x4, x5⟩ := HC.out _ p6.o
              go_wp2_with fail
              refine (cL.out _ p6).mono ?_
              rintro e w7 ⟨⟨A7, c7, rfl⟩, b7⟩
              have hk7 := Bk.new w7 32 #[.int .i64 r.code, .int .i64 r.ver, .string r.data, .slice A7 0 c7]
              have hk8 := (hk6.old b7).alloc (.cells #[.int .i64 r.code, .int .i64 r.ver, .string r.data, .slice A7 0 c7] 32)
              have p7 := hide ((p6.old b7).old ((Old.refl' w7).alloc' (.cells #[.int .i64 r.code, .int .i64 r.ver, .string r.data, .slice A7 0 c7] 32)))
              clear x0 x1 x2 x3 x4 x5 p6 hk6 b7
              obtain ⟨⟨y0, y1, y2, y3⟩, -, ly⟩ := bk4 hk8
              obtain ⟨⟨z0, z1, z2, z3⟩, -, lz⟩ := bk4 hk7
              clear hk7 hk8
              go_wp2_with (go_at_call 15; (with_reducible refine (Same_none r A5 A7 c5 c7 _).mono ?_); rintro e w8 ⟨rfl, b8⟩)
              have hfin := hide (p7.out.old b8)
              clear b8
              go_roundw
              case rel => exact ⟨k + 1, by omega, by rw [HTK.out, HS0.out, HS1.out, HN1.out], by go_num, by rw [HTK.out, HS0.out, HS1.out]; exact hfin.out⟩
              case measure => simp [intOf]; omega
          · have hs10 : s1 = s0 := by rw [← HS1.out]; exact err_no (by rw [HE.out]; exact hE0)
            subst hs10
            obtain ⟨F5, s5, hF5, hO5⟩ := p5
            go_wp2_with fail
            refine (cB2.out _ _ s5).mono ?_
            rintro e w6 ⟨A6, c6, rfl, ho6, b6⟩
            have hs := run_str m c6 hm (CellsAt.of_own ho6)
            have hfin := hide ((show One w _ g s1 from ⟨F5, s5, hF5, hO5⟩).old b6)
            clear s5 hF5 hO5 b6 ho6
            go_wp2_with fail
            go_roundw
            case rel => exact ⟨k + 1, by omega, by rw [HTK.out, HS0.out, HS1.out, HNZ.out], by go_num, by rw [HTK.out, HS0.out, HS1.out]; exact hfin.out⟩
            case measure => simp [intOf]; omega
      · have o9 := pr.o
        go_wp2_with (go_at_call 12; refine (told5_any _).mono ?_; rintro e w4 ⟨rfl, b4⟩)
        go_ret
        exact ⟨rfl, o9.trans' b4⟩
  · have hcase : f1 = false ∨ (f1 = true ∧ ¬ n ≤ 100) := by
      cases f1 <;> simp_all <;> omega
    rcases hcase with rfl | ⟨rfl, h2⟩
    all_goals
      go_enter Try.func4, Try.ntmps4
      go_wp2_with fail
      refine (New_st 9 (by omega) _).mono ?_
      rintro e w1 ⟨rfl, st1, o12⟩
      clear st1
      go_wp2_with (first
        | (go_at_call 11; (with_reducible refine (cF1.out _ o12).mono ?_); rintro e w3 ⟨rfl, rfl⟩)
        | (go_at_call 12; refine (told5_any _).mono ?_; rintro e w4 ⟨rfl, b4⟩))
      go_ret
      exact ⟨rfl, o12.trans' b4⟩
end Go.Proofs.Ytcbnibldlbnkbaa
