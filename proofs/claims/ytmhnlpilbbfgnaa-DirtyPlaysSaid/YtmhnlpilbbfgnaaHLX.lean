/- A log of the program's and one of the document's, side by side. -/
import Derived.Test.YtmhnlpilbbfgnaaHXlS
import Derived.Test.YtmhnlpilbbfgnaaHLi
namespace Go.Proofs.Ytmhnlpilbbfgnaa
open Go.RowKit

def LX (w wr : World) (g x : Nat) (l t : LnV) (D : Held) : Prop := ∃ Fa Fb, LnAt wr g Fa l ∧ XlAt wr x Fb t ∧ (∀ k, Fa k → ¬ Fb k) ∧ (∀ k, Fa k → w.heap.size ≤ k) ∧ (∀ k, Fb k → w.heap.size ≤ k) ∧ Old w wr ∧ ∀ d ∈ D, Bk wr d.1 d.2.1 d.2.2 ∧ ¬ Fa d.1 ∧ ¬ Fb d.1
section
variable {w wr w' : World} {g x : Nat} {l t : LnV} {D : Held}
theorem LX.o (h : LX w wr g x l t D) : Old w wr := by obtain ⟨Fa, Fb, a, b, d, ha, hb, ho, hD⟩ := h; exact ho
theorem LX.old (h : LX w wr g x l t D) (hf : Old wr w') : LX w w' g x l t D := by
  obtain ⟨Fa, Fb, a, b, d, ha, hb, ho, hD⟩ := h
  exact ⟨Fa, Fb, a.old hf, b.old hf, d, ha, hb, ho.trans' hf, fun e he => ⟨(hD e he).1.old hf, (hD e he).2⟩⟩
theorem LX.ln (h : LX w wr g x l t D) : ∃ F, LnAt wr g F l := by obtain ⟨Fa, Fb, a, b, d, ha, hb, ho, hD⟩ := h; exact ⟨Fa, a⟩
theorem LX.xl (h : LX w wr g x l t D) : ∃ F, XlAt wr x F t := by obtain ⟨Fa, Fb, a, b, d, ha, hb, ho, hD⟩ := h; exact ⟨Fb, b⟩
theorem LX.held (h : LX w wr g x l t D) {e : Nat × TypeId × Array Value} (he : e ∈ D) : Bk wr e.1 e.2.1 e.2.2 := by obtain ⟨Fa, Fb, a, b, d, ha, hb, ho, hD⟩ := h; exact (hD e he).1
theorem LX.alloc (h : LX w wr g x l t D) (cs : Array Value) (ty : TypeId) : LX w (wr.alloc (.cells cs ty)) g x l t ((wr.heap.size, ty, cs) :: D) := by
  obtain ⟨Fa, Fb, a, b, d, ha, hb, ho, hD⟩ := h
  have hal : Old wr (wr.alloc (.cells cs ty)) := (Old.refl' wr).alloc' _
  refine ⟨Fa, Fb, a.old hal, b.old hal, d, ha, hb, ho.trans' hal, fun e he => ?_⟩
  rcases List.mem_cons.1 he with rfl | he
  · exact ⟨Bk.new wr ty cs, fun e => by have := a.lt _ e; simp only at this; omega, fun e => by have := b.lt _ e; simp only at this; omega⟩
  · exact ⟨(hD e he).1.alloc _, (hD e he).2⟩
theorem LX.drop (h : LX w wr g x l t D) {D' : Held} (hS : ∀ d ∈ D', d ∈ D) : LX w wr g x l t D' := by
  obtain ⟨Fa, Fb, a, b, d, ha, hb, ho, hD⟩ := h
  exact ⟨Fa, Fb, a, b, d, ha, hb, ho, fun e he => hD e (hS e he)⟩
theorem LX.stepA {l' : LnV} {Fa Fb : Nat → Prop} (a : LnAt wr g Fa l) (b : XlAt wr x Fb t) (d : ∀ k, Fa k → ¬ Fb k) (ha : ∀ k, Fa k → w.heap.size ≤ k) (hb : ∀ k, Fb k → w.heap.size ≤ k) (ho : Old w wr) (hD : ∀ d ∈ D, Bk wr d.1 d.2.1 d.2.2 ∧ ¬ Fa d.1 ∧ ¬ Fb d.1)
    (hs : ∃ F', LnAt w' g F' l' ∧ ∀ b, F' b → Fa b ∨ wr.heap.size ≤ b) (hf : Fr Fa wr w') : LX w w' g x l' t D := by
  obtain ⟨F', a1, a2⟩ := hs
  refine ⟨F', Fb, a1, b.fr hf (fun k h1 h2 => d k h2 h1), fun k h1 h2 => ?_, fun k hk => ?_, hb, Old.fr_new ho hf ha, fun e he => ⟨(hD e he).1.fr hf (hD e he).2.1, fun hh => ?_, (hD e he).2.2⟩⟩
  · rcases a2 k h1 with h | h
    · exact d k h h2
    · have := b.lt k h2; omega
  · rcases a2 k hk with h | h
    · exact ha k h
    · exact Nat.le_trans ho.size h
  · rcases a2 _ hh with h | h
    · exact (hD e he).2.1 h
    · have := (hD e he).1.lt; omega
theorem LX.stepB {t' : LnV} {Fa Fb : Nat → Prop} (a : LnAt wr g Fa l) (b : XlAt wr x Fb t) (d : ∀ k, Fa k → ¬ Fb k) (ha : ∀ k, Fa k → w.heap.size ≤ k) (hb : ∀ k, Fb k → w.heap.size ≤ k) (ho : Old w wr) (hD : ∀ d ∈ D, Bk wr d.1 d.2.1 d.2.2 ∧ ¬ Fa d.1 ∧ ¬ Fb d.1)
    (hs : ∃ F', XlAt w' x F' t' ∧ ∀ b, F' b → Fb b ∨ wr.heap.size ≤ b) (hf : Fr Fb wr w') : LX w w' g x l t' D := by
  obtain ⟨F', b1, b2⟩ := hs
  refine ⟨Fa, F', a.fr hf (fun k h1 h2 => d k h1 h2), b1, fun k h1 h2 => ?_, ha, fun k hk => ?_, Old.fr_new ho hf hb, fun e he => ⟨(hD e he).1.fr hf (hD e he).2.2, (hD e he).2.1, fun hh => ?_⟩⟩
  · rcases b2 k h2 with h | h
    · exact d k h1 h
    · have := a.lt k h1; omega
  · rcases b2 k hk with h | h
    · exact hb k h
    · exact Nat.le_trans ho.size h
  · rcases b2 _ hh with h | h
    · exact (hD e he).2.2 h
    · have := (hD e he).1.lt; omega
theorem LX.put (h : LX w wr g x l t D) (n : Nat) (hn : l.qs.length = n) (hn2 : n ≤ 50000) (q : ReqV) (AT E : Int) (l' : LnV) (h1 : (l.at_ q : Int) = AT) (h2 : l.err q = E) (h3 : l.put q = l') :
    Calls Try.prog 13 #[.pointer (some ⟨g, 0, none⟩), .agg #[.int .i64 q.client, .int .i64 q.seq, .int .i64 q.kind, .int .i64 q.id, .int .i64 q.mat, .string q.data]] wr fun e w' => e = .returned (.tuple #[.int .i64 AT, .int .i64 E]) ∧ LX w w' g x l' t D := by
  obtain ⟨Fa, Fb, a, b, d, ha, hb, ho, hD⟩ := h
  exact (LPut_at g Fa l n hn hn2 q AT E l' h1 h2 h3 wr a).mono fun e w' ⟨he, hs, hf⟩ => ⟨he, LX.stepA a b d ha hb ho hD hs hf⟩
theorem LX.take (h : LX w wr g x l t D) (n : Nat) (hn : l.qs.length = n) (hn2 : n ≤ 50000) (v : Int) (q : ReqV) (E : Int) (l' : LnV) (h2 : l.terr v q = E) (h3 : l.take v q = l') :
    Calls Try.prog 16 #[.pointer (some ⟨g, 0, none⟩), .int .i64 v, .agg #[.int .i64 q.client, .int .i64 q.seq, .int .i64 q.kind, .int .i64 q.id, .int .i64 q.mat, .string q.data]] wr fun e w' => e = .returned (.int .i64 E) ∧ LX w w' g x l' t D := by
  obtain ⟨Fa, Fb, a, b, d, ha, hb, ho, hD⟩ := h
  exact (LTake_at g Fa l n hn hn2 v q E l' h2 h3 wr a).mono fun e w' ⟨he, hs, hf⟩ => ⟨he, LX.stepA a b d ha hb ho hD hs hf⟩
theorem LX.com (h : LX w wr g x l t D) (n : Int) (E : Int) (l' : LnV) (hE : (if (l.k : Int) ≤ n ∧ n ≤ l.qs.length then (0 : Int) else 6) = E) (hl : (if (l.k : Int) ≤ n ∧ n ≤ l.qs.length then l.commit n.toNat else l) = l') (hfew : l.qs.length ≤ 50000) :
    Calls Try.prog 17 #[.pointer (some ⟨g, 0, none⟩), .int .i64 n] wr fun e w' => e = .returned (.int .i64 E) ∧ LX w w' g x l' t D := by
  obtain ⟨Fa, Fb, a, b, d, ha, hb, ho, hD⟩ := h
  exact (LCom_at g Fa l n E l' hE hl hfew wr a).mono fun e w' ⟨he, hs, hf⟩ => ⟨he, LX.stepA a b d ha hb ho hD hs hf⟩
theorem LX.xput (h : LX w wr g x l t D) (n : Nat) (hn : t.qs.length = n) (hn2 : n ≤ 50000) (q : ReqV) (AT E : Int) (t' : LnV) (h1 : (t.at_ q : Int) = AT) (h2 : t.err q = E) (h3 : t.put q = t') :
    Calls Try.prog 57 #[.pointer (some ⟨x, 0, none⟩), .agg #[.int .i64 q.client, .int .i64 q.seq, .int .i64 q.kind, .int .i64 q.id, .int .i64 q.mat, .string q.data]] wr fun e w' => e = .returned (.tuple #[.int .i64 AT, .int .i64 E]) ∧ LX w w' g x l t' D := by
  obtain ⟨Fa, Fb, a, b, d, ha, hb, ho, hD⟩ := h
  exact (XPut_at x Fb t n hn hn2 q AT E t' h1 h2 h3 wr b).mono fun e w' ⟨he, hs, hf⟩ => ⟨he, LX.stepB a b d ha hb ho hD hs hf⟩
theorem LX.xtake (h : LX w wr g x l t D) (n : Nat) (hn : t.qs.length = n) (hn2 : n ≤ 50000) (v : Int) (hv : v ≤ 9223372036854775807) (q : ReqV) (E : Int) (t' : LnV) (h2 : t.terr v q = E) (h3 : t.take v q = t') :
    Calls Try.prog 58 #[.pointer (some ⟨x, 0, none⟩), .int .i64 v, .agg #[.int .i64 q.client, .int .i64 q.seq, .int .i64 q.kind, .int .i64 q.id, .int .i64 q.mat, .string q.data]] wr fun e w' => e = .returned (.int .i64 E) ∧ LX w w' g x l t' D := by
  obtain ⟨Fa, Fb, a, b, d, ha, hb, ho, hD⟩ := h
  exact (XTake_at x Fb t n hn hn2 v hv q E t' h2 h3 wr b).mono fun e w' ⟨he, hs, hf⟩ => ⟨he, LX.stepB a b d ha hb ho hD hs hf⟩
/-- x.Commit = n -/
theorem LX.xcom (h : LX w wr g x l t D) (n : Nat) : LX w (wr.setCell ⟨x, 2, none⟩ (.int .i64 n)) g x l (t.commit n) D := by
  obtain ⟨Fa, Fb, a, b, d, ha, hb, ho, hD⟩ := h
  exact LX.stepB a b d ha hb ho hD ⟨Fb, b.com n, fun k hk => .inl hk⟩ (Fr.setCell (Fr.refl _ _) (.inr b.gF) _)
/-- what the document's block holds -/
theorem LX.cells (h : LX w wr g x l t D) {N : Nat} (hN : t.qs.length = N) {k : Nat} (hk : t.k = k) : ∃ A ca, wr.cell? ⟨x, 1, none⟩ = some (.slice A N ca) ∧ wr.cell? ⟨x, 2, none⟩ = some (.int .i64 k) ∧ wr.frozen? ⟨x, 2, none⟩ = false ∧ x < wr.heap.size ∧ ReqsAt wr A t.qs := by
  obtain ⟨F, hF⟩ := h.xl
  obtain ⟨A, ca, hs⟩ := hF.see hN
  have c2 := hs.c2
  rw [hk] at c2
  exact ⟨A, ca, hs.c1, c2, hs.f2, hs.xl, hs.row⟩
end

/-! ### numbers and places that none has -/
theorem lastSeq_none {qs : List ReqV} {c : Int} (h : ∀ q ∈ qs, q.client ≠ c) : lastSeq qs c = 0 := by
  suffices hh : ∀ r : List ReqV, (∀ q ∈ r, q.client ≠ c) → lastSeqR r c = 0 from hh qs.reverse (fun q hq => h q (List.mem_reverse.1 hq))
  intro r
  induction r with
  | nil => intro _; rfl
  | cons q r ih => intro h; unfold lastSeqR; rw [if_neg (h q List.mem_cons_self)]; exact ih (fun y hy => h y (List.mem_cons_of_mem _ hy))
theorem lastAt_none {qs : List ReqV} {c : Int} (h : ∀ q ∈ qs, q.id ≠ c) : lastAt qs c = 0 := by
  suffices hh : ∀ r : List ReqV, (∀ q ∈ r, q.id ≠ c) → lastAtR r c = 0 from hh qs.reverse (fun q hq => h q (List.mem_reverse.1 hq))
  intro r
  induction r with
  | nil => intro _; rfl
  | cons q r ih => intro h; unfold lastAtR; rw [if_neg (h q List.mem_cons_self)]; exact ih (fun y hy => h y (List.mem_cons_of_mem _ hy))
theorem LnOk.mem {qs : List ReqV} (h : LnOk qs) {q : ReqV} (hq : q ∈ qs) : (0 ≤ q.client ∧ q.client < 4) ∧ 0 ≤ q.id ∧ q.id ≤ 31 := by
  obtain ⟨j, hj, e⟩ := List.mem_iff_getElem.1 hq
  have h1 := (h j q (by rw [List.getElem?_eq_getElem hj, e])).1
  simp only [Q.may, ReqV.q, mayQ, Bool.and_eq_true] at h1
  have h2 := of_decide_eq_true h1.1.1.1.1
  have h3 := of_decide_eq_true h1.1.1.2
  omega
theorem Seq_all (g : Nat) (F : Nat → Prop) (l : LnV) (c s : Int) (hs : lastSeq l.qs c = s) (w : World) (h : LnAt w g F l) :
    Calls Try.prog 21 #[.pointer (some ⟨g, 0, none⟩), .int .i64 c] w fun e w' => e = .returned (.int .i64 s) ∧ w = w' := by
  subst hs
  by_cases hc : 0 ≤ c ∧ c < 4
  · obtain ⟨j, rfl⟩ : ∃ j : Nat, c = j := ⟨c.toNat, by omega⟩
    exact Seq_ln g j (by omega) F l w h
  · rw [lastSeq_none (c := c) fun q hq e => hc (by have := (h.ok.mem hq).1; rwa [e] at this)]
    exact Seq_ln_out _ c (.inr hc) w
theorem Last_all (g : Nat) (F : Nat → Prop) (l : LnV) (c : Int) (m : Nat) (hs : lastAt l.qs c = m) (w : World) (h : LnAt w g F l) :
    Calls Try.prog 22 #[.pointer (some ⟨g, 0, none⟩), .int .i64 c] w fun e w' => e = .returned (.int .i64 m) ∧ w = w' := by
  subst hs
  by_cases hc : 0 ≤ c ∧ c ≤ 31
  · obtain ⟨j, rfl⟩ : ∃ j : Nat, c = j := ⟨c.toNat, by omega⟩
    exact Last_ln g j (by omega) F l w h
  · rw [lastAt_none (c := c) fun q hq e => hc (by have := (h.ok.mem hq).2; rwa [e] at this)]
    exact Last_ln_out _ c (.inr hc) w
/-! ### a store's replies tell no versions -/
theorem put_vsL {s : StV} (h : ∀ c, (s.ss c).rep.vs = []) (q : Q) : ∀ c, ((s.put q).ss c).rep.vs = [] := fun c => by
  unfold StV.put
  split
  · rename_i hm
    unfold StV.may at hm
    simp only [Bool.and_eq_true] at hm
    show (if c = q.client then (⟨q.seq, s.n + 1, s.doRep q⟩ : Sess) else s.ss c).rep.vs = []
    split
    · exact doRep_vs hm.1.2
    · exact h c
  · exact h c
theorem runS_vsL (q0 : Int) (qs : List ReqV) : ∀ c, ((runS q0 qs).ss c).rep.vs = [] := by
  unfold runS
  suffices h : ∀ (l : List ReqV) (s : StV), (∀ c, (s.ss c).rep.vs = []) → ∀ c, ((l.foldl (fun s q => s.put q.q) s).ss c).rep.vs = [] from h qs (StV.new q0) (fun c => rfl)
  intro l
  induction l with
  | nil => intro s h; exact h
  | cons q l ih => intro s h; exact ih (s.put q.q) (put_vsL h q.q)
theorem bk9 {w : World} {b : Nat} {t : TypeId} {u0 u1 u2 u3 u4 u5 u6 u7 u8 : Value} (h : Bk w b t #[u0, u1, u2, u3, u4, u5, u6, u7, u8]) :
    (w.cell? ⟨b, 0, none⟩ = some u0 ∧ w.cell? ⟨b, 1, none⟩ = some u1 ∧ w.cell? ⟨b, 2, none⟩ = some u2 ∧ w.cell? ⟨b, 3, none⟩ = some u3 ∧ w.cell? ⟨b, 4, none⟩ = some u4 ∧ w.cell? ⟨b, 5, none⟩ = some u5 ∧ w.cell? ⟨b, 6, none⟩ = some u6 ∧ w.cell? ⟨b, 7, none⟩ = some u7 ∧ w.cell? ⟨b, 8, none⟩ = some u8) ∧ b < w.heap.size :=
  ⟨⟨h.cell 0, h.cell 1, h.cell 2, h.cell 3, h.cell 4, h.cell 5, h.cell 6, h.cell 7, h.cell 8⟩, h.lt⟩
/-- the program's Reply and the document's tell alike -/
def LnV.repE (l : LnV) (n : Int) : Int := if 1 ≤ n ∧ n ≤ l.k then 0 else 6
def LnV.repR (l : LnV) (n : Int) : Rep := if 1 ≤ n ∧ n ≤ l.k then l.rep (n.toNat - 1) else Rep.zero
theorem LRep_all (g : Nat) (F : Nat → Prop) (l : LnV) (n : Int) (c0 v0 E : Int) (d0 : ByteArray) (h1 : (l.repR n).code = c0) (h2 : (l.repR n).ver = v0) (h3 : (l.repR n).data = d0) (h4 : l.repE n = E) (hfew : l.qs.length ≤ 50000) (w : World) (h : LnAt w g F l) :
    Calls Try.prog 15 #[.pointer (some ⟨g, 0, none⟩), .int .i64 n] w fun e w' => ∃ A c, e = .returned (.tuple #[.agg #[.int .i64 c0, .int .i64 v0, .string d0, .slice A 0 c], .int .i64 E]) ∧ Old w w' := by
  unfold LnV.repR at h1 h2 h3
  unfold LnV.repE at h4
  by_cases hn : 1 ≤ n ∧ n ≤ l.k
  · rw [if_pos hn] at h1 h2 h3 h4
    obtain ⟨j, rfl⟩ : ∃ j : Nat, n = (j : Int) + 1 := ⟨n.toNat - 1, by omega⟩
    have e : ((j : Int) + 1).toNat - 1 = j := by omega
    rw [e] at h1 h2 h3
    subst h4
    exact LRep_yes g F l j (by omega) c0 v0 d0 h1 h2 h3 hfew w h
  · rw [if_neg hn] at h1 h2 h3 h4
    subst h1 h2 h3 h4
    exact (LRep_no g F l n hn w h).mono fun e w' ⟨he, hb⟩ => ⟨none, 0, he, hb⟩
theorem XRep_all (x : Nat) (F : Nat → Prop) (l : LnV) (n : Int) (hkl : l.k ≤ l.qs.length) (c0 v0 E : Int) (d0 : ByteArray) (h1 : (l.repR n).code = c0) (h2 : (l.repR n).ver = v0) (h3 : (l.repR n).data = d0) (h4 : l.repE n = E) (hfew : l.qs.length ≤ 50000) (w : World) (h : XlAt w x F l) :
    Calls Try.prog 63 #[.pointer (some ⟨x, 0, none⟩), .int .i64 n] w fun e w' => ∃ A c, e = .returned (.tuple #[.agg #[.int .i64 c0, .int .i64 v0, .string d0, .slice A 0 c], .int .i64 E]) ∧ Old w w' := by
  unfold LnV.repR at h1 h2 h3
  unfold LnV.repE at h4
  by_cases hn : 1 ≤ n ∧ n ≤ l.k
  · rw [if_pos hn] at h1 h2 h3 h4
    obtain ⟨j, rfl⟩ : ∃ j : Nat, n = (j : Int) + 1 := ⟨n.toNat - 1, by omega⟩
    have e : ((j : Int) + 1).toNat - 1 = j := by omega
    rw [e] at h1 h2 h3
    subst h4
    exact XRep_yes x F l j (by omega) hkl c0 v0 d0 h1 h2 h3 hfew w h
  · rw [if_neg hn] at h1 h2 h3 h4
    subst h1 h2 h3 h4
    exact (XRep_no x F l n hn w h).mono fun e w' ⟨he, hb⟩ => ⟨none, 0, he, hb⟩
end Go.Proofs.Ytmhnlpilbbfgnaa
