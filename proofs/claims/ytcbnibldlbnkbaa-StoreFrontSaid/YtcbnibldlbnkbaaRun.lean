/- Requests one behind the other: what a store is behind them. One store, two of them, beside what was there before. -/
import Derived.Test.YtcbnibldlbnkbaaOpen
import Derived.Test.YtcbnibldlbnkbaaSt7
namespace Go.Proofs.Ytcbnibldlbnkbaa
open Go.RowKit

def ReqV.q (r : ReqV) : Q := ⟨r.client, r.seq, r.kind, r.id, r.mat, r.data⟩
theorem reqCells_length5 (qs : List ReqV) : (qs.flatMap ReqV.cells).length = qs.length * 6 := by
  induction qs with
  | nil => rfl
  | cons q qs ih =>
    have : q.cells.length = 6 := rfl
    simp only [List.flatMap_cons, List.length_append, List.length_cons, ih, this]
    omega
theorem reqCells_get5 (qs : List ReqV) : ∀ k j, k < qs.length → j < 6 → (qs.flatMap ReqV.cells)[k * 6 + j]? = (qs[k]?.getD default).cells[j]? := by
  induction qs with
  | nil => intro k j h; simp at h
  | cons q qs ih =>
    intro k j hk hj
    rw [List.flatMap_cons]
    have hc : q.cells.length = 6 := rfl
    cases k with
    | zero => rw [List.getElem?_append_left (by rw [hc]; omega)]; simp
    | succ k =>
      rw [List.getElem?_append_right (by rw [hc]; omega), hc, show (k + 1) * 6 + j - 6 = k * 6 + j from by omega]
      simpa using ih k j (by simpa using hk) hj
theorem ReqsAt.at5 {w : World} {A : Option Addr} {qs : List ReqV} (h : ReqsAt w A qs) {k : Nat} (hk : k < qs.length) :
    ∃ b o, A = some ⟨b, o, none⟩ ∧ b < w.heap.size ∧ ∀ j u, j < 6 → (qs[k]?.getD default).cells[j]? = some u → w.cell? ⟨b, o + k * 6 + j, none⟩ = some u := by
  obtain ⟨b, o, rfl, hb, hc⟩ := h (fun e => by have := reqCells_length5 qs; rw [e] at this; simp at this; omega)
  exact ⟨b, o, rfl, hb, fun j u hj hu => by rw [Nat.add_assoc]; exact hc _ _ ((reqCells_get5 qs k j hk hj).trans hu)⟩

/-- Put, its outcome named ahead -/
theorem Put_at (g : Nat) (F : Nat → Prop) (st : StV) (q : Q) (c0 v0 E : Int) (d0 : ByteArray) (s' : StV) (h1 : (st.rep q).code = c0) (h2 : (st.rep q).ver = v0) (h3 : (st.rep q).data = d0) (h4 : st.err q = E) (h5 : st.put q = s') (hfew : st.n ≤ 50000) (w : World) (h : StAt w g F st) :
    Calls Try.prog 13 #[.pointer (some ⟨g, 0, none⟩), .agg #[.int .i64 q.client, .int .i64 q.seq, .int .i64 q.kind, .int .i64 q.id, .int .i64 q.mat, .string q.data]] w fun e w' => (∃ A c, e = .returned (.tuple #[.agg #[.int .i64 c0, .int .i64 v0, .string d0, .slice A 0 c], .int .i64 E])) ∧
      (∃ F', StAt w' g F' s' ∧ ∀ k, F' k → F k ∨ w.heap.size ≤ k) ∧ Fr F w w' := by
  subst h1 h2 h3 h4 h5
  exact Put_st g F st q hfew w h

def runS (q0 : Int) (qs : List ReqV) : StV := qs.foldl (fun s q => s.put q.q) (StV.new q0)
theorem runS_snoc (q0 : Int) (qs : List ReqV) (q : ReqV) : runS q0 (qs ++ [q]) = (runS q0 qs).put q.q := by simp [runS]
theorem runS_ok (q0 : Int) (qs : List ReqV) : StOk (runS q0 qs) ∧ (runS q0 qs).n ≤ qs.length ∧ (runS q0 qs).quota = q0 := by
  unfold runS
  suffices h : ∀ (l : List ReqV) (s : StV), StOk s → StOk (l.foldl (fun s q => s.put q.q) s) ∧ (l.foldl (fun s q => s.put q.q) s).n ≤ s.n + l.length ∧ (l.foldl (fun s q => s.put q.q) s).quota = s.quota by
    have := h qs (StV.new q0) (StOk.new q0)
    exact ⟨this.1, by have h2 := this.2.1; have : (StV.new q0).n = 0 := rfl; omega, this.2.2⟩
  intro l
  induction l with
  | nil => intro s h; exact ⟨h, Nat.le_refl _, rfl⟩
  | cons q l ih =>
    intro s h
    obtain ⟨h1, h2, h3⟩ := ih (s.put q.q) (h.put q.q)
    refine ⟨h1, ?_, h3.trans (put_quota s q.q)⟩
    have := (put_n s q.q).1
    simp only [List.foldl_cons, List.length_cons]
    omega

/-- a store of the law's own -/
def One (w wr : World) (g : Nat) (s : StV) : Prop := ∃ F, StAt wr g F s ∧ (∀ k, F k → w.heap.size ≤ k) ∧ Old w wr
/-- two of them -/
def Pair (w wr : World) (ga gb : Nat) (s t : StV) : Prop := ∃ Fa Fb, StAt wr ga Fa s ∧ StAt wr gb Fb t ∧ (∀ k, Fa k → ¬ Fb k) ∧ (∀ k, Fa k → w.heap.size ≤ k) ∧ (∀ k, Fb k → w.heap.size ≤ k) ∧ Old w wr
section
variable {w wr w' : World} {g ga gb : Nat} {s t : StV}
theorem One.o (h : One w wr g s) : Old w wr := by obtain ⟨F, h1, h2, h3⟩ := h; exact h3
theorem One.old (h : One w wr g s) (hf : Old wr w') : One w w' g s := by obtain ⟨F, h1, h2, h3⟩ := h; exact ⟨F, h1.old hf, h2, h3.trans' hf⟩
theorem Pair.o (h : Pair w wr ga gb s t) : Old w wr := by obtain ⟨Fa, Fb, h1, h2, h3, h4, h5, h6⟩ := h; exact h6
theorem Pair.old (h : Pair w wr ga gb s t) (hf : Old wr w') : Pair w w' ga gb s t := by obtain ⟨Fa, Fb, h1, h2, h3, h4, h5, h6⟩ := h; exact ⟨Fa, Fb, h1.old hf, h2.old hf, h3, h4, h5, h6.trans' hf⟩
theorem Pair.symm (h : Pair w wr ga gb s t) : Pair w wr gb ga t s := by obtain ⟨Fa, Fb, h1, h2, h3, h4, h5, h6⟩ := h; exact ⟨Fb, Fa, h2, h1, fun k a b => h3 k b a, h5, h4, h6⟩
theorem Pair.a (h : Pair w wr ga gb s t) : ∃ F, StAt wr ga F s := by obtain ⟨Fa, Fb, h1, h2, h3, h4, h5, h6⟩ := h; exact ⟨Fa, h1⟩
theorem Pair.put (h : Pair w wr ga gb s t) (q : ReqV) (c0 v0 E : Int) (d0 : ByteArray) (s' : StV) (h1 : (s.rep q.q).code = c0) (h2 : (s.rep q.q).ver = v0) (h3 : (s.rep q.q).data = d0) (h4 : s.err q.q = E) (h5 : s.put q.q = s') (hfew : s.n ≤ 50000) :
    Calls Try.prog 13 #[.pointer (some ⟨ga, 0, none⟩), .agg #[.int .i64 q.client, .int .i64 q.seq, .int .i64 q.kind, .int .i64 q.id, .int .i64 q.mat, .string q.data]] wr fun e w' => (∃ A c, e = .returned (.tuple #[.agg #[.int .i64 c0, .int .i64 v0, .string d0, .slice A 0 c], .int .i64 E])) ∧ Pair w w' ga gb s' t := by
  obtain ⟨Fa, Fb, a1, b1, hd, ha, hb, ho⟩ := h
  refine (Put_at ga Fa s q.q c0 v0 E d0 s' h1 h2 h3 h4 h5 hfew wr a1).mono ?_
  rintro e w' ⟨he, ⟨F', a', hn⟩, hf⟩
  refine ⟨he, F', Fb, a', b1.fr hf (fun k h1 h2 => hd k h2 h1), fun k h1 h2 => ?_, fun k hk => ?_, hb, Old.fr_new ho hf ha⟩
  · rcases hn k h1 with h | h
    · exact hd k h h2
    · have := b1.lt k h2; omega
  · rcases hn k hk with h | h
    · exact ha k h
    · exact Nat.le_trans ho.size h
theorem One.put (h : One w wr g s) (q : ReqV) (c0 v0 E : Int) (d0 : ByteArray) (s' : StV) (h1 : (s.rep q.q).code = c0) (h2 : (s.rep q.q).ver = v0) (h3 : (s.rep q.q).data = d0) (h4 : s.err q.q = E) (h5 : s.put q.q = s') (hfew : s.n ≤ 50000) :
    Calls Try.prog 13 #[.pointer (some ⟨g, 0, none⟩), .agg #[.int .i64 q.client, .int .i64 q.seq, .int .i64 q.kind, .int .i64 q.id, .int .i64 q.mat, .string q.data]] wr fun e w' => (∃ A c, e = .returned (.tuple #[.agg #[.int .i64 c0, .int .i64 v0, .string d0, .slice A 0 c], .int .i64 E])) ∧ One w w' g s' := by
  obtain ⟨F, a1, ha, ho⟩ := h
  refine (Put_at g F s q.q c0 v0 E d0 s' h1 h2 h3 h4 h5 hfew wr a1).mono ?_
  rintro e w' ⟨he, ⟨F', a', hn⟩, hf⟩
  refine ⟨he, F', a', fun k hk => ?_, Old.fr_new ho hf ha⟩
  rcases hn k hk with h | h
  · exact ha k h
  · exact Nat.le_trans ho.size h
end

end Go.Proofs.Ytcbnibldlbnkbaa
