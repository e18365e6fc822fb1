/- casebooklaw5.StoreSame: the walk. -/
import Derived.Test.YtcbnibldlbnkbaaLSt
namespace Go.Proofs.Ytcbnibldlbnkbaa
open Go.RowKit

def runS (q0 : Int) (qs : List ReqV) : StV := qs.foldl (fun s q => s.put q.q) (StV.new q0)
theorem runS_snoc (q0 : Int) (qs : List ReqV) (q : ReqV) : runS q0 (qs ++ [q]) = (runS q0 qs).put q.q := by simp [runS]
theorem runS_ok (q0 : Int) (qs : List ReqV) : StOk (runS q0 qs) ∧ (runS q0 qs).n ≤ qs.length ∧ (runS q0 qs).quota = q0 := by
  unfold runS
  suffices h : ∀ (l : List ReqV) (s : StV), StOk s → StOk (l.foldl (fun s q => s.put q.q) s) ∧ (l.foldl (fun s q => s.put q.q) s).n ≤ s.n + l.length ∧ (l.foldl (fun s q => s.put q.q) s).quota = s.quota by
    have := h qs (StV.new q0) (StOk.new q0)
    exact ⟨this.1, by have h2 := this.2.1; have : (StV.new q0).n = 0 := rfl; omega, this.2.2⟩
  intro l
  induction l with
  | nil => intro s h; exact ⟨h, Nat.le_refl _, rfl⟩
  | cons q l ih =>
    intro s h
    obtain ⟨h1, h2, h3⟩ := ih (s.put q.q) (h.put q.q)
    refine ⟨h1, ?_, h3.trans (put_quota s q.q)⟩
    have := (put_n s q.q).1
    simp only [List.foldl_cons, List.length_cons]
    omega

/-- a store of the law's own -/
def One (w wr : World) (g : Nat) (s : StV) : Prop := ∃ F, StAt wr g F s ∧ (∀ k, F k → w.heap.size ≤ k) ∧ Old w wr
/-- two of them -/
def Pair (w wr : World) (ga gb : Nat) (s t : StV) : Prop := ∃ Fa Fb, StAt wr ga Fa s ∧ StAt wr gb Fb t ∧ (∀ k, Fa k → ¬ Fb k) ∧ (∀ k, Fa k → w.heap.size ≤ k) ∧ (∀ k, Fb k → w.heap.size ≤ k) ∧ Old w wr
section
variable {w wr w' : World} {g ga gb : Nat} {s t : StV}
theorem One.o (h : One w wr g s) : Old w wr := by obtain ⟨F, h1, h2, h3⟩ := h; exact h3
theorem One.old (h : One w wr g s) (hf : Old wr w') : One w w' g s := by obtain ⟨F, h1, h2, h3⟩ := h; exact ⟨F, h1.old hf, h2, h3.trans' hf⟩
theorem Pair.o (h : Pair w wr ga gb s t) : Old w wr := by obtain ⟨Fa, Fb, h1, h2, h3, h4, h5, h6⟩ := h; exact h6
theorem Pair.old (h : Pair w wr ga gb s t) (hf : Old wr w') : Pair w w' ga gb s t := by obtain ⟨Fa, Fb, h1, h2, h3, h4, h5, h6⟩ := h; exact ⟨Fa, Fb, h1.old hf, h2.old hf, h3, h4, h5, h6.trans' hf⟩
theorem Pair.symm (h : Pair w wr ga gb s t) : Pair w wr gb ga t s := by obtain ⟨Fa, Fb, h1, h2, h3, h4, h5, h6⟩ := h; exact ⟨Fb, Fa, h2, h1, fun k a b => h3 k b a, h5, h4, h6⟩
theorem Pair.a (h : Pair w wr ga gb s t) : ∃ F, StAt wr ga F s := by obtain ⟨Fa, Fb, h1, h2, h3, h4, h5, h6⟩ := h; exact ⟨Fa, h1⟩
theorem Pair.put (h : Pair w wr ga gb s t) (q : ReqV) (c0 v0 E : Int) (d0 : ByteArray) (s' : StV) (h1 : (s.rep q.q).code = c0) (h2 : (s.rep q.q).ver = v0) (h3 : (s.rep q.q).data = d0) (h4 : s.err q.q = E) (h5 : s.put q.q = s') (hfew : s.n ≤ 50000) :
    Calls Try.prog 13 #[.pointer (some ⟨ga, 0, none⟩), .agg #[.int .i64 q.client, .int .i64 q.seq, .int .i64 q.kind, .int .i64 q.id, .int .i64 q.mat, .string q.data]] wr fun e w' => (∃ A c, e = .returned (.tuple #[.agg #[.int .i64 c0, .int .i64 v0, .string d0, .slice A 0 c], .int .i64 E])) ∧ Pair w w' ga gb s' t := by
  obtain ⟨Fa, Fb, a1, b1, hd, ha, hb, ho⟩ := h
  refine (Put_at ga Fa s q.q c0 v0 E d0 s' h1 h2 h3 h4 h5 hfew wr a1).mono ?_
  rintro e w' ⟨he, ⟨F', a', hn⟩, hf⟩
  refine ⟨he, F', Fb, a', b1.fr hf (fun k h1 h2 => hd k h2 h1), fun k h1 h2 => ?_, fun k hk => ?_, hb, Old.fr_new ho hf ha⟩
  · rcases hn k h1 with h | h
    · exact hd k h h2
    · have := b1.lt k h2; omega
  · rcases hn k hk with h | h
    · exact ha k h
    · exact Nat.le_trans ho.size h
theorem One.put (h : One w wr g s) (q : ReqV) (c0 v0 E : Int) (d0 : ByteArray) (s' : StV) (h1 : (s.rep q.q).code = c0) (h2 : (s.rep q.q).ver = v0) (h3 : (s.rep q.q).data = d0) (h4 : s.err q.q = E) (h5 : s.put q.q = s') (hfew : s.n ≤ 50000) :
    Calls Try.prog 13 #[.pointer (some ⟨g, 0, none⟩), .agg #[.int .i64 q.client, .int .i64 q.seq, .int .i64 q.kind, .int .i64 q.id, .int .i64 q.mat, .string q.data]] wr fun e w' => (∃ A c, e = .returned (.tuple #[.agg #[.int .i64 c0, .int .i64 v0, .string d0, .slice A 0 c], .int .i64 E])) ∧ One w w' g s' := by
  obtain ⟨F, a1, ha, ho⟩ := h
  refine (Put_at g F s q.q c0 v0 E d0 s' h1 h2 h3 h4 h5 hfew wr a1).mono ?_
  rintro e w' ⟨he, ⟨F', a', hn⟩, hf⟩
  refine ⟨he, F', a', fun k hk => ?_, Old.fr_new ho hf ha⟩
  rcases hn k hk with h | h
  · exact ha k h
  · exact Nat.le_trans ho.size h
end

set_option maxRecDepth 100000 in
set_option maxHeartbeats 4000000 in
theorem Same_walk (A0 : Option Addr) (n k0 : Nat) (qs : List ReqV) (B0 : Option Addr) (m0 k1 : Nat) (qa : List ReqV) (hl : n = qs.length) (hn : n ≤ 9223372036854775807) (hl2 : m0 = qa.length) (hn2 : m0 ≤ 9223372036854775807) (w : World) (hQ : ReqsAt w A0 qs) (hQa : ReqsAt w B0 qa) :
    Calls Try.prog 8 #[.slice A0 n k0, .slice B0 m0 k1] w fun e w' => e = .returned (.bool true) ∧ Old w w' := by
  obtain ⟨f1, hf1⟩ : ∃ f, few5 qs = f := ⟨_, rfl⟩
  obtain ⟨f2, hf2⟩ : ∃ f, few5 qa = f := ⟨_, rfl⟩
  have cF1 := hide (fun (W : World) (h : Old w W) => few5_any A0 n k0 qs f1 hf1 hl hn W (CellsAt.old hQ h))
  have cF2 := hide (fun (W : World) (h : Old w W) => few5_any B0 m0 k1 qa f2 hf2 hl2 hn2 W (CellsAt.old hQa h))
  have HL := hide hl
  have HL2 := hide hl2
  clear hl hl2 hf1 hf2
  have fin : ∀ (b : Bool), (f1 = true → n ≤ 100 → f2 = true → b = true) → True := fun _ _ => trivial
  clear fin
  by_cases hgo : f1 = true ∧ n ≤ 100 ∧ f2 = true
  · obtain ⟨rfl, hn100, rfl⟩ := hgo
    have hn100' : (n : Int) ≤ 100 := by omega
    go_enter Try.func8, Try.ntmps8
    go_wp2_with fail
    refine (New_st 7 (by omega) _).mono ?_
    rintro e w1 ⟨rfl, st1, o1⟩
    go_wp2_with fail
    refine (New_st 7 (by omega) _).mono ?_
    rintro e w2 ⟨rfl, st2, o2⟩
    have hp : Pair w w2 w.heap.size w1.heap.size (runS 7 (qs.take 0)) (runS 7 (qs.take 0)) := ⟨_, _, st1.old o2, st2, fun k h1 h2 => by subst h1; have := st1.lt _ rfl; omega, fun k hk => by omega, fun k hk => by have := o1.size; omega, o1.trans' o2⟩
    obtain ⟨ga, hga⟩ : ∃ g, w.heap.size = g := ⟨_, rfl⟩
    obtain ⟨gb, hgb⟩ : ∃ g, w1.heap.size = g := ⟨_, rfl⟩
    simp only [hga, hgb] at hp ⊢
    clear hga hgb st1 st2 o1 o2
    have o12 := hp.o
    go_wp2_with (go_at_call 11; first | ((with_reducible refine (cF1.out _ o12).mono ?_); rintro e w3 ⟨rfl, rfl⟩) | ((with_reducible refine (cF2.out _ o12).mono ?_); rintro e w3 ⟨rfl, rfl⟩))
    clear o12
    go_loopw [9] (fun iv wr => ∃ k : Nat, k ≤ n ∧ iv = .int .i64 k ∧ Pair w wr ga gb (runS 7 (qs.take k)) (runS 7 (qs.take k))) (fun iv _ => n - (intOf iv).toNat)
    case atStart => exact ⟨0, Nat.zero_le _, rfl, hp⟩
    case round =>
      clear hp
      obtain ⟨k, hk, rfl, pr⟩ := hrel
      by_cases hlt : k < n
      · have hkq : k < qs.length := by have := HL.out; omega
        obtain ⟨b, o, rfl, hb, hc⟩ := hQ.at5 (k := k) hkq
        obtain ⟨x, hx⟩ : ∃ x, qs[k]?.getD default = x := ⟨_, rfl⟩
        rw [hx] at hc
        have hxx : qs[k] = x := by rw [List.getElem?_eq_getElem hkq] at hx; simpa using hx
        have htk : runS 7 (qs.take (k + 1)) = (runS 7 (qs.take k)).put x.q := by rw [List.take_succ_eq_append_getElem hkq, hxx, runS_snoc]
        have HTK := hide htk
        have hsn := (runS_ok 7 (qs.take k)).2.1
        rw [List.length_take] at hsn
        obtain ⟨s0, hs0⟩ : ∃ s, runS 7 (qs.take k) = s := ⟨_, rfl⟩
        rw [hs0] at pr hsn
        have HS0 := hide hs0
        obtain ⟨c0, hc0⟩ : ∃ c, (s0.rep x.q).code = c := ⟨_, rfl⟩
        obtain ⟨v0, hv0⟩ : ∃ c, (s0.rep x.q).ver = c := ⟨_, rfl⟩
        obtain ⟨d0, hd0⟩ : ∃ c, (s0.rep x.q).data = c := ⟨_, rfl⟩
        obtain ⟨E, hE⟩ : ∃ c, s0.err x.q = c := ⟨_, rfl⟩
        obtain ⟨s1, hs1⟩ : ∃ c, s0.put x.q = c := ⟨_, rfl⟩
        have cell : ∀ W, Old w W → W.cell? ⟨b, o + k * 6, none⟩ = some (.int .i64 x.client) ∧ W.cell? ⟨b, o + k * 6 + 1, none⟩ = some (.int .i64 x.seq) ∧ W.cell? ⟨b, o + k * 6 + 2, none⟩ = some (.int .i64 x.kind) ∧ W.cell? ⟨b, o + k * 6 + 3, none⟩ = some (.int .i64 x.id) ∧ W.cell? ⟨b, o + k * 6 + 4, none⟩ = some (.int .i64 x.mat) ∧ W.cell? ⟨b, o + k * 6 + 5, none⟩ = some (.string x.data) := fun W hW =>
          ⟨(hW.cell (p := ⟨b, o + k * 6, none⟩) hb).trans (hc 0 _ (by omega) rfl), (hW.cell (p := ⟨b, o + k * 6 + 1, none⟩) hb).trans (hc 1 _ (by omega) rfl), (hW.cell (p := ⟨b, o + k * 6 + 2, none⟩) hb).trans (hc 2 _ (by omega) rfl), (hW.cell (p := ⟨b, o + k * 6 + 3, none⟩) hb).trans (hc 3 _ (by omega) rfl), (hW.cell (p := ⟨b, o + k * 6 + 4, none⟩) hb).trans (hc 4 _ (by omega) rfl), (hW.cell (p := ⟨b, o + k * 6 + 5, none⟩) hb).trans (hc 5 _ (by omega) rfl)⟩
        have HC := hide cell
        have HS1 := hide hs1
        have c1 := hide (pr.put x c0 v0 E d0 s1 hc0 hv0 hd0 hE hs1 (by omega))
        have c2 := hide (fun (W : World) (h : Pair w W gb ga s0 s1) => h.put x c0 v0 E d0 s1 hc0 hv0 hd0 hE hs1 (by omega))
        obtain ⟨x0, x1, x2, x3, x4, x5⟩ := cell _ pr.o
        have hE0 : (E != E) = false := by simp
        clear hx hxx htk hs0 hs1 hc0 hv0 hd0 hE cell hc
        by_cases hask : k < m0
        · have hka : k < qa.length := by have := HL2.out; omega
          obtain ⟨b', o', rfl, hb', hc'⟩ := hQa.at5 (k := k) hka
          obtain ⟨y, hy⟩ : ∃ x, qa[k]?.getD default = x := ⟨_, rfl⟩
          rw [hy] at hc'
          have cell : ∀ W, Old w W → W.cell? ⟨b', o' + k * 6, none⟩ = some (.int .i64 y.client) ∧ W.cell? ⟨b', o' + k * 6 + 1, none⟩ = some (.int .i64 y.seq) ∧ W.cell? ⟨b', o' + k * 6 + 2, none⟩ = some (.int .i64 y.kind) ∧ W.cell? ⟨b', o' + k * 6 + 3, none⟩ = some (.int .i64 y.id) ∧ W.cell? ⟨b', o' + k * 6 + 4, none⟩ = some (.int .i64 y.mat) ∧ W.cell? ⟨b', o' + k * 6 + 5, none⟩ = some (.string y.data) := fun W hW =>
            ⟨(hW.cell (p := ⟨b', o' + k * 6, none⟩) hb').trans (hc' 0 _ (by omega) rfl), (hW.cell (p := ⟨b', o' + k * 6 + 1, none⟩) hb').trans (hc' 1 _ (by omega) rfl), (hW.cell (p := ⟨b', o' + k * 6 + 2, none⟩) hb').trans (hc' 2 _ (by omega) rfl), (hW.cell (p := ⟨b', o' + k * 6 + 3, none⟩) hb').trans (hc' 3 _ (by omega) rfl), (hW.cell (p := ⟨b', o' + k * 6 + 4, none⟩) hb').trans (hc' 4 _ (by omega) rfl), (hW.cell (p := ⟨b', o' + k * 6 + 5, none⟩) hb').trans (hc' 5 _ (by omega) rfl)⟩
          have HCa := hide cell
          obtain ⟨nR, hnR⟩ : ∃ nR, (s0.ask y.q).vs.length = nR := ⟨_, rfl⟩
          obtain ⟨ea, hea⟩ : ∃ e : Int, (if askOk y.q then (0 : Int) else 1) = e := ⟨_, rfl⟩
          have c3 := hide (fun (W : World) (F : Nat → Prop) (h : StAt W gb F s0) => by have := Ask_st gb F s0 y.q (by omega) nR hnR W h; rw [hea] at this; exact this)
          simp only [Q.v, ReqV.q] at c3
          clear hea
          clear hy cell hc' hnR
          go_wp2_with fail
          refine c1.out.mono ?_
          rintro e w4 ⟨⟨A4, c4, rfl⟩, pr4⟩
          have pr5 := (pr4.old ((Old.refl' w4).alloc' (.cells #[.int .i64 c0, .int .i64 v0, .string d0, .slice A4 0 c4] 32))).symm
          clear x0 x1 x2 x3 x4 x5
          obtain ⟨x0, x1, x2, x3, x4, x5⟩ := HCa.out _ pr5.o
          obtain ⟨F5, st5⟩ := pr5.a
          go_wp2_with fail
          refine (c3.out _ _ st5).mono ?_
          rintro e w6 ⟨A6, c6, rfl, -, b6⟩
          have pr6 := pr5.old b6
          clear x0 x1 x2 x3 x4 x5 st5 pr5
          obtain ⟨x0, x1, x2, x3, x4, x5⟩ := HC.out _ pr6.o
          go_wp2_with fail
          refine (c2.out _ pr6).mono ?_
          rintro e w7 ⟨⟨A7, c7, rfl⟩, pr7⟩
          have hfin := hide (pr7.symm.old ((Old.refl' w7).alloc' (.cells #[.int .i64 c0, .int .i64 v0, .string d0, .slice A7 0 c7] 32)))
          clear x0 x1 x2 x3 x4 x5 pr6 pr7 pr4 pr
          go_wp2_with fail
          go_roundw
          case rel => exact ⟨k + 1, by omega, by go_num, by rw [HTK.out, HS0.out, HS1.out]; exact hfin.out⟩
          case measure => simp [intOf]; omega
        · go_wp2_with fail
          refine c1.out.mono ?_
          rintro e w4 ⟨⟨A4, c4, rfl⟩, pr4⟩
          have pr6 := (pr4.old ((Old.refl' w4).alloc' (.cells #[.int .i64 c0, .int .i64 v0, .string d0, .slice A4 0 c4] 32))).symm
          clear x0 x1 x2 x3 x4 x5
          obtain ⟨x0, x1, x2, x3, x4, x5⟩ := HC.out _ pr6.o
          go_wp2_with fail
          refine (c2.out _ pr6).mono ?_
          rintro e w7 ⟨⟨A7, c7, rfl⟩, pr7⟩
          have hfin := hide (pr7.symm.old ((Old.refl' w7).alloc' (.cells #[.int .i64 c0, .int .i64 v0, .string d0, .slice A7 0 c7] 32)))
          clear x0 x1 x2 x3 x4 x5 pr6 pr7 pr4 pr
          go_wp2_with fail
          go_roundw
          case rel => exact ⟨k + 1, by omega, by go_num, by rw [HTK.out, HS0.out, HS1.out]; exact hfin.out⟩
          case measure => simp [intOf]; omega
      · obtain ⟨hok, hsn, -⟩ := runS_ok 7 (qs.take k)
        rw [List.length_take] at hsn
        obtain ⟨s9, hs9⟩ : ∃ s, runS 7 (qs.take k) = s := ⟨_, rfl⟩
        rw [hs9] at pr hok hsn
        obtain ⟨Fa, sa⟩ := pr.a
        obtain ⟨Fb, sb⟩ := pr.symm.a
        obtain ⟨bs, hbs⟩ : ∃ bs, s9.bytes = bs := ⟨_, rfl⟩
        obtain ⟨m, hm⟩ : ∃ m, bs.length = m := ⟨_, rfl⟩
        obtain ⟨nn, hnn⟩ : ∃ nn, s9.n = nn := ⟨_, rfl⟩
        have cA := hide (fun (W : World) (h : Old wr W) => by have := Bytes_st ga Fa s9 (by omega) hok W (sa.old h); rw [hbs, hm] at this; exact this)
        have cB := hide (fun (W : World) (h : Old wr W) => by have := Bytes_st gb Fb s9 (by omega) hok W (sb.old h); rw [hbs, hm] at this; exact this)
        have cLA := hide (fun (W : World) (h : Old wr W) => by have := Len_st ga Fa s9 W (sa.old h); rw [hnn] at this; exact this)
        have cLB := hide (fun (W : World) (h : Old wr W) => by have := Len_st gb Fb s9 W (sb.old h); rw [hnn] at this; exact this)
        have HO := hide pr.o
        obtain ⟨W9, rfl⟩ : ∃ W, W = wr := ⟨_, rfl⟩
        clear hs9 hbs hnn pr sa sb hok
        go_wp2_with fail
        refine region_steps (R := pick [eqv (.bool true), eqv (.bool true), eqv (.pointer (some ⟨ga, 0, none⟩)), fun v w' => ∃ A c, v = .slice A m c ∧ CellsAt w' A (u8s bs), eqv (.string (strOfNums bs)), eqv (.pointer (some ⟨gb, 0, none⟩)), fun v w' => ∃ A c, v = .slice A m c ∧ CellsAt w' A (u8s bs), eqv (.string (strOfNums bs)), eqv (.bool true), eqv (.bool true), eqv (.bool true), eqv (.pointer (some ⟨ga, 0, none⟩)), eqv (.int .i64 nn), eqv (.pointer (some ⟨gb, 0, none⟩)), eqv (.int .i64 nn), eqv (.bool true), eqv (.bool true), eqv (.bool true)]) (S := fun _ w' => Old W9 w') (T := Old) (by kernel_rfl) (by kernel_rfl) (by kernel_rfl) (Stab.pick (Stab.eqv (Stab.eqv (Stab.eqv (Stab.cons (fun v w w' ht ⟨A, c, h, i⟩ => ⟨A, c, h, i.old ht⟩) (Stab.eqv (Stab.eqv (Stab.cons (fun v w w' ht ⟨A, c, h, i⟩ => ⟨A, c, h, i.old ht⟩) (Stab.eqv (Stab.eqv (Stab.eqv (Stab.eqv (Stab.eqv (Stab.eqv (Stab.eqv (Stab.eqv (Stab.eqv (Stab.eqv (Stab.eqv (Stab.nil)))))))))))))))))))) ((Old.refl' _).drew') ?steps ?ends
        case steps =>
          refine StepsOk.cons (stepOk_mk [] [] rfl rfl (by kernel_rfl) (by kernel_rfl) rfl ?_) ?_
          · rintro d a w' hk hda hS  
            first | refine Given.nil (Known.nil ?_) | refine Known.nil ?_
            refine wp_call 12 _ Try.func12 (by kernel_rfl) (by kernel_rfl) _ _ (by rfl) [] (by simp only [List.map_cons, List.map_nil, *]; try rfl) (told5_any _) ?_
            rintro e w1 ⟨rfl, f4⟩
            exact ⟨_, rfl, _, rfl, rfl, f4, hS.trans' f4⟩
          refine StepsOk.cons (stepOk_pure [(0, 87)] [] rfl rfl (by kernel_rfl) (by kernel_rfl) rfl Old.refl' (fun _ _ _ h => h) (fun d E w' hk hda hS hc hf => by rintro _ q0 rfl e87 ; exact ⟨_, by go_simp, rfl⟩)) ?_
          refine StepsOk.cons (stepOk_pureG 1 88 true rfl rfl (by kernel_rfl) (fun _ _ h => h) [] [(5, .pointer (some ⟨ga, 0, none⟩))] (by kernel_rfl) (by kernel_rfl) rfl Old.refl' (fun _ _ _ h => h) (fun d E w' hk hda hS hc hf => by rintro  e5; exact ⟨_, by go_simp, rfl⟩)) ?_
          refine StepsOk.cons (stepOk_guard 1 88 true rfl rfl (by kernel_rfl) (fun _ _ h => h) [(2, 89)] [] (by kernel_rfl) (by kernel_rfl) rfl ?_) ?_
          · rintro d a w' hk hda hS _ q2 rfl e89 
            first | refine Given.nil (Known.nil ?_) | refine Known.nil ?_
            refine wp_call 18 _ Try.func18 (by kernel_rfl) (by kernel_rfl) _ _ (by rfl) [.pointer (some ⟨ga, 0, none⟩)] (by simp only [List.map_cons, List.map_nil, *]; try rfl) (cA.out _ hS) ?_
            rintro e w1 ⟨Aa, ca, rfl, ho, f4⟩
            exact ⟨_, rfl, _, rfl, ⟨Aa, ca, rfl, CellsAt.of_own ho⟩, f4, hS.trans' f4⟩
          refine StepsOk.cons (stepOk_pureG 1 88 true rfl rfl (by kernel_rfl) (fun _ _ h => h) [(3, 90)] [] (by kernel_rfl) (by kernel_rfl) rfl Old.refl' (fun _ _ _ h => h) (fun d E w' hk hda hS hc hf => by rintro _ q3 ⟨Aa, ca, rfl, ia⟩ e90 ; have hs := run_str m ca hm ia; exact ⟨_, by go_simp, rfl⟩)) ?_
          refine StepsOk.cons (stepOk_pureG 1 88 true rfl rfl (by kernel_rfl) (fun _ _ h => h) [] [(7, .pointer (some ⟨gb, 0, none⟩))] (by kernel_rfl) (by kernel_rfl) rfl Old.refl' (fun _ _ _ h => h) (fun d E w' hk hda hS hc hf => by rintro  e7; exact ⟨_, by go_simp, rfl⟩)) ?_
          refine StepsOk.cons (stepOk_guard 1 88 true rfl rfl (by kernel_rfl) (fun _ _ h => h) [(5, 92)] [] (by kernel_rfl) (by kernel_rfl) rfl ?_) ?_
          · rintro d a w' hk hda hS _ q5 rfl e92 
            first | refine Given.nil (Known.nil ?_) | refine Known.nil ?_
            refine wp_call 18 _ Try.func18 (by kernel_rfl) (by kernel_rfl) _ _ (by rfl) [.pointer (some ⟨gb, 0, none⟩)] (by simp only [List.map_cons, List.map_nil, *]; try rfl) (cB.out _ hS) ?_
            rintro e w1 ⟨Ab, cb, rfl, ho, f4⟩
            exact ⟨_, rfl, _, rfl, ⟨Ab, cb, rfl, CellsAt.of_own ho⟩, f4, hS.trans' f4⟩
          refine StepsOk.cons (stepOk_pureG 1 88 true rfl rfl (by kernel_rfl) (fun _ _ h => h) [(6, 93)] [] (by kernel_rfl) (by kernel_rfl) rfl Old.refl' (fun _ _ _ h => h) (fun d E w' hk hda hS hc hf => by rintro _ q6 ⟨Ab, cb, rfl, ib⟩ e93 ; have hs := run_str m cb hm ib; exact ⟨_, by go_simp, rfl⟩)) ?_
          refine StepsOk.cons (stepOk_pureG 1 88 true rfl rfl (by kernel_rfl) (fun _ _ h => h) [(4, 91), (7, 94)] [] (by kernel_rfl) (by kernel_rfl) rfl Old.refl' (fun _ _ _ h => h) (fun d E w' hk hda hS hc hf => by rintro _ q4 rfl e91 _ q7 rfl e94 ; exact ⟨_, by go_simp, rfl⟩)) ?_
          refine StepsOk.cons (stepOk_pure [(1, 88), (8, 95)] [] rfl rfl (by kernel_rfl) (by kernel_rfl) rfl Old.refl' (fun _ _ _ h => h) (fun d E w' hk hda hS hc hf => by rintro _ q1 rfl e88 _ q8 rfl e95 ; exact ⟨_, by go_simp, rfl⟩)) ?_
          refine StepsOk.cons (stepOk_pure [(9, 96)] [] rfl rfl (by kernel_rfl) (by kernel_rfl) rfl Old.refl' (fun _ _ _ h => h) (fun d E w' hk hda hS hc hf => by rintro _ q9 rfl e96 ; exact ⟨_, by go_simp, rfl⟩)) ?_
          refine StepsOk.cons (stepOk_pureG 10 97 true rfl rfl (by kernel_rfl) (fun _ _ h => h) [] [(5, .pointer (some ⟨ga, 0, none⟩))] (by kernel_rfl) (by kernel_rfl) rfl Old.refl' (fun _ _ _ h => h) (fun d E w' hk hda hS hc hf => by rintro  e5; exact ⟨_, by go_simp, rfl⟩)) ?_
          refine StepsOk.cons (stepOk_guard 10 97 true rfl rfl (by kernel_rfl) (fun _ _ h => h) [(11, 98)] [] (by kernel_rfl) (by kernel_rfl) rfl ?_) ?_
          · rintro d a w' hk hda hS _ q11 rfl e98 
            first | refine Given.nil (Known.nil ?_) | refine Known.nil ?_
            refine wp_call 20 _ Try.func20 (by kernel_rfl) (by kernel_rfl) _ _ (by rfl) [.pointer (some ⟨ga, 0, none⟩)] (by simp only [List.map_cons, List.map_nil, *]; try rfl) (cLA.out _ hS) ?_
            rintro e w1 ⟨rfl, rfl⟩
            exact ⟨_, rfl, _, rfl, rfl, Old.refl' _, hS⟩
          refine StepsOk.cons (stepOk_pureG 10 97 true rfl rfl (by kernel_rfl) (fun _ _ h => h) [] [(7, .pointer (some ⟨gb, 0, none⟩))] (by kernel_rfl) (by kernel_rfl) rfl Old.refl' (fun _ _ _ h => h) (fun d E w' hk hda hS hc hf => by rintro  e7; exact ⟨_, by go_simp, rfl⟩)) ?_
          refine StepsOk.cons (stepOk_guard 10 97 true rfl rfl (by kernel_rfl) (fun _ _ h => h) [(13, 100)] [] (by kernel_rfl) (by kernel_rfl) rfl ?_) ?_
          · rintro d a w' hk hda hS _ q13 rfl e100 
            first | refine Given.nil (Known.nil ?_) | refine Known.nil ?_
            refine wp_call 20 _ Try.func20 (by kernel_rfl) (by kernel_rfl) _ _ (by rfl) [.pointer (some ⟨gb, 0, none⟩)] (by simp only [List.map_cons, List.map_nil, *]; try rfl) (cLB.out _ hS) ?_
            rintro e w1 ⟨rfl, rfl⟩
            exact ⟨_, rfl, _, rfl, rfl, Old.refl' _, hS⟩
          refine StepsOk.cons (stepOk_pureG 10 97 true rfl rfl (by kernel_rfl) (fun _ _ h => h) [(12, 99), (14, 101)] [] (by kernel_rfl) (by kernel_rfl) rfl Old.refl' (fun _ _ _ h => h) (fun d E w' hk hda hS hc hf => by rintro _ q12 rfl e99 _ q14 rfl e101 ; exact ⟨_, by go_simp, rfl⟩)) ?_
          refine StepsOk.cons (stepOk_pure [(10, 97), (15, 102)] [] rfl rfl (by kernel_rfl) (by kernel_rfl) rfl Old.refl' (fun _ _ _ h => h) (fun d E w' hk hda hS hc hf => by rintro _ q10 rfl e97 _ q15 rfl e102 ; exact ⟨_, by go_simp, rfl⟩)) ?_
          refine StepsOk.cons (stepOk_pure [(16, 103)] [] rfl rfl (by kernel_rfl) (by kernel_rfl) rfl Old.refl' (fun _ _ _ h => h) (fun d E w' hk hda hS hc hf => by rintro _ q16 rfl e103 ; exact ⟨_, by go_simp, rfl⟩)) ?_
          exact StepsOk.nil
        case ends =>
          intro σ9 w9 hS9 hA9
          refine Ends.eqv (some 87) (.bool true) rfl (fun _ h => h) ?_
          refine Ends.eqv (some 88) (.bool true) rfl (fun _ h => h) ?_
          refine Ends.eqv (some 89) (.pointer (some ⟨ga, 0, none⟩)) rfl (fun _ h => h) ?_
          refine Ends.ex (some 90) rfl ?_
          rintro _ p3 ⟨Aa, ca, rfl, ia⟩
          refine Ends.eqv (some 91) (.string (strOfNums bs)) rfl (fun _ h => h) ?_
          refine Ends.eqv (some 92) (.pointer (some ⟨gb, 0, none⟩)) rfl (fun _ h => h) ?_
          refine Ends.ex (some 93) rfl ?_
          rintro _ p6 ⟨Ab, cb, rfl, ib⟩
          refine Ends.eqv (some 94) (.string (strOfNums bs)) rfl (fun _ h => h) ?_
          refine Ends.eqv (some 95) (.bool true) rfl (fun _ h => h) ?_
          refine Ends.eqv (some 96) (.bool true) rfl (fun _ h => h) ?_
          refine Ends.eqv (some 97) (.bool true) rfl (fun _ h => h) ?_
          refine Ends.eqv (some 98) (.pointer (some ⟨ga, 0, none⟩)) rfl (fun _ h => h) ?_
          refine Ends.eqv (some 99) (.int .i64 nn) rfl (fun _ h => h) ?_
          refine Ends.eqv (some 100) (.pointer (some ⟨gb, 0, none⟩)) rfl (fun _ h => h) ?_
          refine Ends.eqv (some 101) (.int .i64 nn) rfl (fun _ h => h) ?_
          refine Ends.eqv (some 102) (.bool true) rfl (fun _ h => h) ?_
          refine Ends.eqv (some 103) (.bool true) rfl (fun _ h => h) ?_
          refine Ends.eqv (some 4) (.bool true) rfl (fun _ h => h) ?_
          refine Ends.nil ?_
          clear hA9
          simp only [put_lit, put_none, List.set_cons_zero, List.set_cons_succ]
          have o9 := hS9
          go_wp2_with fail
          go_ret
          exact ⟨rfl, HO.out.trans' o9⟩
  · have hcase : f1 = false ∨ (f1 = true ∧ ¬ n ≤ 100) ∨ (f1 = true ∧ n ≤ 100 ∧ f2 = false) := by
      cases f1 <;> cases f2 <;> simp_all <;> omega
    rcases hcase with rfl | ⟨rfl, h2⟩ | ⟨rfl, h2, rfl⟩
    all_goals
      go_enter Try.func8, Try.ntmps8
      go_wp2_with fail
      refine (New_st 7 (by omega) _).mono ?_
      rintro e w1 ⟨rfl, st1, o1⟩
      go_wp2_with fail
      refine (New_st 7 (by omega) _).mono ?_
      rintro e w2 ⟨rfl, st2, o2⟩
      have o12 := o1.trans' o2
      clear st1 st2 o1 o2
      go_wp2_with (first
        | (go_at_call 11; first | ((with_reducible refine (cF1.out _ o12).mono ?_); rintro e w3 ⟨rfl, rfl⟩) | ((with_reducible refine (cF2.out _ o12).mono ?_); rintro e w3 ⟨rfl, rfl⟩))
        | (go_at_call 12; refine (told5_any _).mono ?_; rintro e w4 ⟨rfl, b4⟩))
      go_ret
      exact ⟨rfl, o12.trans' b4⟩
end Go.Proofs.Ytcbnibldlbnkbaa
