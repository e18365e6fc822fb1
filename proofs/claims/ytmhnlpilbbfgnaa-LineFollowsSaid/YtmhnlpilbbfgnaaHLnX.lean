/- Two logs of the law's own. -/
import Derived.Test.YtmhnlpilbbfgnaaHLnU
namespace Go.Proofs.Ytmhnlpilbbfgnaa
open Go.RowKit

def LTwo (w wr : World) (ga gb : Nat) (la lb : LnV) (D : List (Option Addr × List Value)) : Prop :=
  ∃ Fa Fb, LnAt wr ga Fa la ∧ LnAt wr gb Fb lb ∧ (∀ k, Fa k → ¬ Fb k) ∧ (∀ k, Fa k → w.heap.size ≤ k) ∧ (∀ k, Fb k → w.heap.size ≤ k) ∧ Old w wr ∧
    ∀ d ∈ D, CellsAt wr d.1 d.2 ∧ ∀ a, d.2 ≠ [] → d.1 = some a → ¬ Fa a.block ∧ ¬ Fb a.block
section
variable {w wr w' : World} {ga gb : Nat} {la lb : LnV} {D : List (Option Addr × List Value)}
theorem LTwo.o (h : LTwo w wr ga gb la lb D) : Old w wr := by obtain ⟨Fa, Fb, a1, b1, hd, ha, hb, ho, hD⟩ := h; exact ho
theorem LTwo.a (h : LTwo w wr ga gb la lb D) : ∃ F, LnAt wr ga F la := by obtain ⟨Fa, Fb, a1, b1, hd, ha, hb, ho, hD⟩ := h; exact ⟨Fa, a1⟩
theorem LTwo.b (h : LTwo w wr ga gb la lb D) : ∃ F, LnAt wr gb F lb := by obtain ⟨Fa, Fb, a1, b1, hd, ha, hb, ho, hD⟩ := h; exact ⟨Fb, b1⟩
theorem LTwo.old (h : LTwo w wr ga gb la lb D) (hf : Old wr w') : LTwo w w' ga gb la lb D := by
  obtain ⟨Fa, Fb, a1, b1, hd, ha, hb, ho, hD⟩ := h
  exact ⟨Fa, Fb, a1.old hf, b1.old hf, hd, ha, hb, ho.trans' hf, fun d hdD => ⟨(hD d hdD).1.old hf, (hD d hdD).2⟩⟩
theorem LTwo.swap (h : LTwo w wr ga gb la lb D) : LTwo w wr gb ga lb la D := by
  obtain ⟨Fa, Fb, a1, b1, hd, ha, hb, ho, hD⟩ := h
  exact ⟨Fb, Fa, b1, a1, fun k h1 h2 => hd k h2 h1, hb, ha, ho, fun d hdD => ⟨(hD d hdD).1, fun a hn e => ⟨((hD d hdD).2 a hn e).2, ((hD d hdD).2 a hn e).1⟩⟩⟩
theorem LTwo.held (h : LTwo w wr ga gb la lb D) {d : Option Addr × List Value} (hd : d ∈ D) : CellsAt wr d.1 d.2 := by obtain ⟨Fa, Fb, a1, b1, _, ha, hb, ho, hD⟩ := h; exact (hD d hd).1
theorem LTwo.drop (h : LTwo w wr ga gb la lb D) : LTwo w wr ga gb la lb [] := by
  obtain ⟨Fa, Fb, a1, b1, hd, ha, hb, ho, hD⟩ := h
  exact ⟨Fa, Fb, a1, b1, hd, ha, hb, ho, fun d hd => by cases hd⟩
/-- a new row is held -/
theorem LTwo.hold (h : LTwo w wr ga gb la lb D) (hf : Old wr w') {A : Option Addr} {cs : List Value} (hc : CellsAt w' A cs) (hn : ∀ a, cs ≠ [] → A = some a → wr.heap.size ≤ a.block) : LTwo w w' ga gb la lb ((A, cs) :: D) := by
  obtain ⟨Fa, Fb, a1, b1, hd, ha, hb, ho, hD⟩ := h
  refine ⟨Fa, Fb, a1.old hf, b1.old hf, hd, ha, hb, ho.trans' hf, fun d hdD => ?_⟩
  rcases List.mem_cons.1 hdD with rfl | hdD
  · exact ⟨hc, fun a hne e => ⟨fun h => by have := a1.lt _ h; have := hn a hne e; omega, fun h => by have := b1.lt _ h; have := hn a hne e; omega⟩⟩
  · exact ⟨(hD d hdD).1.old hf, (hD d hdD).2⟩
theorem LTwo.stepA {la' : LnV} {Fa Fb : Nat → Prop} (a1 : LnAt wr ga Fa la) (b1 : LnAt wr gb Fb lb) (hd : ∀ k, Fa k → ¬ Fb k) (ha : ∀ k, Fa k → w.heap.size ≤ k) (hb : ∀ k, Fb k → w.heap.size ≤ k) (ho : Old w wr)
    (hD : ∀ d ∈ D, CellsAt wr d.1 d.2 ∧ ∀ a, d.2 ≠ [] → d.1 = some a → ¬ Fa a.block ∧ ¬ Fb a.block) (hs : ∃ F', LnAt w' ga F' la' ∧ ∀ b, F' b → Fa b ∨ wr.heap.size ≤ b) (hf : Fr Fa wr w') : LTwo w w' ga gb la' lb D := by
  obtain ⟨F', a2, hn⟩ := hs
  refine ⟨F', Fb, a2, b1.fr hf (fun k h1 h2 => hd k h2 h1), fun k h1 h2 => ?_, fun k hk => ?_, hb, Old.fr_new ho hf ha, fun d hdD => ⟨?_, fun a hne e => ⟨fun h => ?_, ((hD d hdD).2 a hne e).2⟩⟩⟩
  · rcases hn k h1 with h | h
    · exact hd k h h2
    · have := b1.lt k h2; omega
  · rcases hn k hk with h | h
    · exact ha k h
    · exact Nat.le_trans ho.size h
  · exact (hD d hdD).1.fr hf (fun hne a e => ((hD d hdD).2 a hne e).1)
  · rcases hn _ h with h | h
    · exact ((hD d hdD).2 a hne e).1 h
    · obtain ⟨b, o, e2, hlt, -⟩ := (hD d hdD).1 hne
      rw [e] at e2
      injection e2 with e2
      subst e2
      simp only at h
      omega
theorem LTwo.put (h : LTwo w wr ga gb la lb D) (n : Nat) (hn : la.qs.length = n) (hn2 : n ≤ 50000) (q : ReqV) (AT E : Int) (l' : LnV) (h1 : (la.at_ q : Int) = AT) (h2 : la.err q = E) (h3 : la.put q = l') :
    Calls Try.prog 13 #[.pointer (some ⟨ga, 0, none⟩), .agg #[.int .i64 q.client, .int .i64 q.seq, .int .i64 q.kind, .int .i64 q.id, .int .i64 q.mat, .string q.data]] wr fun e w' => e = .returned (.tuple #[.int .i64 AT, .int .i64 E]) ∧ LTwo w w' ga gb l' lb D := by
  obtain ⟨Fa, Fb, a1, b1, hd, ha, hb, ho, hD⟩ := h
  exact (LPut_at ga Fa la n hn hn2 q AT E l' h1 h2 h3 wr a1).mono fun e w' ⟨he, hs, hf⟩ => ⟨he, LTwo.stepA a1 b1 hd ha hb ho hD hs hf⟩
theorem LTwo.take (h : LTwo w wr ga gb la lb D) (n : Nat) (hn : la.qs.length = n) (hn2 : n ≤ 50000) (a : Int) (q : ReqV) (E : Int) (l' : LnV) (h2 : la.terr a q = E) (h3 : la.take a q = l') :
    Calls Try.prog 16 #[.pointer (some ⟨ga, 0, none⟩), .int .i64 a, .agg #[.int .i64 q.client, .int .i64 q.seq, .int .i64 q.kind, .int .i64 q.id, .int .i64 q.mat, .string q.data]] wr fun e w' => e = .returned (.int .i64 E) ∧ LTwo w w' ga gb l' lb D := by
  obtain ⟨Fa, Fb, a1, b1, hd, ha, hb, ho, hD⟩ := h
  exact (LTake_at ga Fa la n hn hn2 a q E l' h2 h3 wr a1).mono fun e w' ⟨he, hs, hf⟩ => ⟨he, LTwo.stepA a1 b1 hd ha hb ho hD hs hf⟩
theorem LTwo.com (h : LTwo w wr ga gb la lb D) (n : Int) (E : Int) (l' : LnV) (hE : (if (la.k : Int) ≤ n ∧ n ≤ la.qs.length then (0 : Int) else 6) = E) (hl : (if (la.k : Int) ≤ n ∧ n ≤ la.qs.length then la.commit n.toNat else la) = l') (hfew : la.qs.length ≤ 50000) :
    Calls Try.prog 17 #[.pointer (some ⟨ga, 0, none⟩), .int .i64 n] wr fun e w' => e = .returned (.int .i64 E) ∧ LTwo w w' ga gb l' lb D := by
  obtain ⟨Fa, Fb, a1, b1, hd, ha, hb, ho, hD⟩ := h
  exact (LCom_at ga Fa la n E l' hE hl hfew wr a1).mono fun e w' ⟨he, hs, hf⟩ => ⟨he, LTwo.stepA a1 b1 hd ha hb ho hD hs hf⟩
theorem LTwo.new (quota : Int) (hq : 1 ≤ quota ∧ quota ≤ 100) (h : LOne w wr ga la []) :
    Calls Try.prog 24 #[.int .i64 quota] wr fun e w' => ∃ gb, e = .returned (.tuple #[.pointer (some ⟨gb, 0, none⟩), .int .i64 0]) ∧ LTwo w w' ga gb la (LnV.new quota) [] := by
  obtain ⟨F, a1, a2, a3, -⟩ := h
  exact (New_ln quota hq wr).mono fun e w' ⟨g, G, he, b1, b2, b3⟩ => ⟨g, he, F, G, a1.old b3, b1, fun k h1 h2 => by have := a1.lt k h1; have := b2 k h2; omega, a2, fun k hk => Nat.le_trans a3.size (b2 k hk), a3.trans' b3, fun d hd => by cases hd⟩
end
/-- a piece of a log, taken -/
theorem take_piece {L : List ReqV} (hok : LnOk L) {bl p : Nat} (hbl : bl ≤ L.length) (hp : p < L.length) {x : ReqV} (hx : L[p]? = some x) (q0 : Int) (hpb : p ≤ bl) :
    (⟨q0, L.take bl, 0⟩ : LnV).terr ((p : Int) + 1) x = (if p = bl then 0 else 9) ∧ (⟨q0, L.take bl, 0⟩ : LnV).take ((p : Int) + 1) x = ⟨q0, L.take (max bl (p + 1)), 0⟩ := by
  have hlen : (L.take bl).length = bl := by rw [List.length_take]; omega
  unfold LnV.terr LnV.take
  simp only [hlen]
  by_cases e : p = bl
  · subst e
    rw [if_pos rfl, if_pos rfl, if_pos rfl]
    obtain ⟨h1, h2, h3⟩ := hok p x hx
    have hm : (⟨q0, L.take p, 0⟩ : LnV).may x = true := LnV.may_iff.2 ⟨h1, h2, h3⟩
    obtain ⟨p1, p2, p3⟩ := put_yes hm
    refine ⟨p2, ?_⟩
    rw [p1, Nat.max_eq_right (Nat.le_succ _), List.take_succ_eq_append_getElem hp]
    have : L[p] = x := by rw [List.getElem?_eq_getElem hp] at hx; injection hx
    rw [this]
  · rw [if_neg (by omega), if_neg e, if_neg (by omega), Nat.max_eq_left (by omega)]
    exact ⟨rfl, rfl⟩
end Go.Proofs.Ytmhnlpilbbfgnaa
