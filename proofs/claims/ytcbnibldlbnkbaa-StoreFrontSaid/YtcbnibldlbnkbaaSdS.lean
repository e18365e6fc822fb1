/- The document's store and the program's side by side. -/
import Derived.Test.YtcbnibldlbnkbaaSdB
import Derived.Test.YtcbnibldlbnkbaaRun
namespace Go.Proofs.Ytcbnibldlbnkbaa
open Go.RowKit

theorem SPut_at (g : Nat) (F : Nat → Prop) (st : StV) (q : Q) (c0 v0 E : Int) (d0 : ByteArray) (s' : StV) (h1 : (st.rep q).code = c0) (h2 : (st.rep q).ver = v0) (h3 : (st.rep q).data = d0) (h4 : st.err q = E) (h5 : st.put q = s') (hfew : st.n ≤ 50000) (w : World) (h : SDAt w g F st) :
    Calls Try.prog 22 #[.pointer (some ⟨g, 0, none⟩), .agg #[.int .i64 q.client, .int .i64 q.seq, .int .i64 q.kind, .int .i64 q.id, .int .i64 q.mat, .string q.data]] w fun e w' => (∃ A c, e = .returned (.tuple #[.agg #[.int .i64 c0, .int .i64 v0, .string d0, .slice A 0 c], .int .i64 E])) ∧
      (∃ F', SDAt w' g F' s' ∧ ∀ k, F' k → F k ∨ w.heap.size ≤ k) ∧ Fr F w w' := by
  subst h1 h2 h3 h4 h5
  by_cases hq : (q.may && Writes q.kind) = true
  · by_cases hs : (st.ss q.client).seq < q.seq
    · have hm : st.may q = true := by unfold StV.may; rw [hq]; simpa using hs
      have e1 : st.put q = st.done q := by unfold StV.put; rw [hm]; rfl
      have e2 : st.rep q = st.doRep q := by unfold StV.rep; rw [hm]; rfl
      have e3 : st.err q = 0 := by unfold StV.err; rw [hq, if_pos rfl, if_pos hs]
      rw [e1, e2, e3]
      exact SPut_done g F st q hq hs hfew w h
    · have hm : st.may q = false := by unfold StV.may; rw [hq]; simpa using hs
      have e1 : st.put q = st := by unfold StV.put; rw [hm]; rfl
      have e2 : st.rep q = Rep.zero := by unfold StV.rep; rw [hm]; rfl
      have e3 : st.err q = 9 := by unfold StV.err; rw [hq, if_pos rfl, if_neg hs]
      rw [e1, e2, e3]
      exact (SPut_order g F st q hq hs w h).mono fun e w' ⟨he, hb⟩ => ⟨⟨none, 0, he⟩, ⟨F, h.old hb, fun k hk => .inl hk⟩, Fr.of_old hb⟩
  · have hq' : (q.may && Writes q.kind) = false := by simpa using hq
    have hm : st.may q = false := by unfold StV.may; rw [hq']; rfl
    have e1 : st.put q = st := by unfold StV.put; rw [hm]; rfl
    have e2 : st.rep q = Rep.zero := by unfold StV.rep; rw [hm]; rfl
    have e3 : st.err q = 1 := by unfold StV.err; rw [hq']; rfl
    rw [e1, e2, e3]
    exact (SPut_arg g q hq' w).mono fun e w' ⟨he, hb⟩ => ⟨⟨none, 0, he⟩, ⟨F, h.old hb, fun k hk => .inl hk⟩, Fr.of_old hb⟩

theorem SAsk_st (g : Nat) (F : Nat → Prop) (st : StV) (q : Q) (hfew : st.n ≤ 50000) (nR : Nat) (hnR : (st.ask q).vs.length = nR) (w : World) (h : SDAt w g F st) :
    Calls Try.prog 27 #[.pointer (some ⟨g, 0, none⟩), q.v] w fun e w' => ∃ A c, e = .returned (.tuple #[.agg #[.int .i64 (st.ask q).code, .int .i64 (st.ask q).ver, .string (st.ask q).data, .slice A nR c], .int .i64 (if askOk q then 0 else 1)]) ∧ IntsAt w' A (st.ask q).vs ∧ Old w w' := by
  by_cases hq : askOk q = true
  · have e1 : st.ask q = askR (st.f q.id) q.kind q.mat := by unfold StV.ask; rw [if_pos hq]
    rw [if_pos hq, e1]
    exact SAsk_yes g F st q hq _ rfl nR (by rw [← e1]; exact hnR) hfew w h
  · have hq' : askOk q = false := by simpa using hq
    have e1 : st.ask q = Rep.zero := by unfold StV.ask; rw [if_neg hq]
    rw [if_neg hq, e1]
    rw [e1] at hnR
    subst hnR
    exact (SAsk_no g q hq' w).mono fun e w' ⟨he, hb⟩ => ⟨none, 0, he, CellsAt.nil _ _, hb⟩

/-- the program's store and the document's -/
def Both (w wr : World) (gs gx : Nat) (s t : StV) : Prop := ∃ Fs Fx, StAt wr gs Fs s ∧ SDAt wr gx Fx t ∧ (∀ k, Fs k → ¬ Fx k) ∧ (∀ k, Fs k → w.heap.size ≤ k) ∧ (∀ k, Fx k → w.heap.size ≤ k) ∧ Old w wr
section
variable {w wr w' : World} {gs gx : Nat} {s t : StV}
theorem Both.o (h : Both w wr gs gx s t) : Old w wr := by obtain ⟨Fa, Fb, h1, h2, h3, h4, h5, h6⟩ := h; exact h6
theorem Both.old (h : Both w wr gs gx s t) (hf : Old wr w') : Both w w' gs gx s t := by obtain ⟨Fa, Fb, h1, h2, h3, h4, h5, h6⟩ := h; exact ⟨Fa, Fb, h1.old hf, h2.old hf, h3, h4, h5, h6.trans' hf⟩
theorem Both.st (h : Both w wr gs gx s t) : ∃ F, StAt wr gs F s := by obtain ⟨Fa, Fb, h1, h2, h3, h4, h5, h6⟩ := h; exact ⟨Fa, h1⟩
theorem Both.sd (h : Both w wr gs gx s t) : ∃ F, SDAt wr gx F t := by obtain ⟨Fa, Fb, h1, h2, h3, h4, h5, h6⟩ := h; exact ⟨Fb, h2⟩
theorem Both.put (h : Both w wr gs gx s t) (q : ReqV) (c0 v0 E : Int) (d0 : ByteArray) (s' : StV) (h1 : (s.rep q.q).code = c0) (h2 : (s.rep q.q).ver = v0) (h3 : (s.rep q.q).data = d0) (h4 : s.err q.q = E) (h5 : s.put q.q = s') (hfew : s.n ≤ 50000) :
    Calls Try.prog 13 #[.pointer (some ⟨gs, 0, none⟩), .agg #[.int .i64 q.client, .int .i64 q.seq, .int .i64 q.kind, .int .i64 q.id, .int .i64 q.mat, .string q.data]] wr fun e w' => (∃ A c, e = .returned (.tuple #[.agg #[.int .i64 c0, .int .i64 v0, .string d0, .slice A 0 c], .int .i64 E])) ∧ Both w w' gs gx s' t := by
  obtain ⟨Fa, Fb, a1, b1, hd, ha, hb, ho⟩ := h
  refine (Put_at gs Fa s q.q c0 v0 E d0 s' h1 h2 h3 h4 h5 hfew wr a1).mono ?_
  rintro e w' ⟨he, ⟨F', a', hn⟩, hf⟩
  refine ⟨he, F', Fb, a', b1.fr hf (fun k h1 h2 => hd k h2 h1), fun k h1 h2 => ?_, fun k hk => ?_, hb, Old.fr_new ho hf ha⟩
  · rcases hn k h1 with h | h
    · exact hd k h h2
    · have := b1.1.lt k h2; omega
  · rcases hn k hk with h | h
    · exact ha k h
    · exact Nat.le_trans ho.size h
theorem Both.sput (h : Both w wr gs gx s t) (q : ReqV) (c0 v0 E : Int) (d0 : ByteArray) (t' : StV) (h1 : (t.rep q.q).code = c0) (h2 : (t.rep q.q).ver = v0) (h3 : (t.rep q.q).data = d0) (h4 : t.err q.q = E) (h5 : t.put q.q = t') (hfew : t.n ≤ 50000) :
    Calls Try.prog 22 #[.pointer (some ⟨gx, 0, none⟩), .agg #[.int .i64 q.client, .int .i64 q.seq, .int .i64 q.kind, .int .i64 q.id, .int .i64 q.mat, .string q.data]] wr fun e w' => (∃ A c, e = .returned (.tuple #[.agg #[.int .i64 c0, .int .i64 v0, .string d0, .slice A 0 c], .int .i64 E])) ∧ Both w w' gs gx s t' := by
  obtain ⟨Fa, Fb, a1, b1, hd, ha, hb, ho⟩ := h
  refine (SPut_at gx Fb t q.q c0 v0 E d0 t' h1 h2 h3 h4 h5 hfew wr b1).mono ?_
  rintro e w' ⟨he, ⟨F', b', hn⟩, hf⟩
  refine ⟨he, Fa, F', a1.fr hf (fun k h1 h2 => hd k h1 h2), b', fun k h1 h2 => ?_, ha, fun k hk => ?_, Old.fr_new ho hf hb⟩
  · rcases hn k h2 with h | h
    · exact hd k h1 h
    · have := a1.lt k h1; omega
  · rcases hn k hk with h | h
    · exact hb k h
    · exact Nat.le_trans ho.size h
/-- both new -/
theorem Both.new {w1 w2 : World} {quota : Int} {g : Nat} (ho : Old w w1) (hs : StAt w1 g (fun k => k = g) (StV.new quota)) (hg : w.heap.size ≤ g) (hx : Old w1 w2) (hb : Bk w2 gx 53 (sdCells quota)) (hgx : w1.heap.size ≤ gx) : Both w w2 g gx (StV.new quota) (StV.new quota) :=
  ⟨_, _, hs.old hx, SD_new hb, fun k hk e => by have := hs.lt k hk; omega, fun k hk => by omega, fun k hk => by have := ho.size; omega, ho.trans' hx⟩
end
end Go.Proofs.Ytcbnibldlbnkbaa
