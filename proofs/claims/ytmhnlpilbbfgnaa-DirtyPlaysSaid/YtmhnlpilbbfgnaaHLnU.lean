/- Logs that grow request by request: what stands in them. -/
import Derived.Test.YtmhnlpilbbfgnaaHLi
namespace Go.Proofs.Ytmhnlpilbbfgnaa
open Go.RowKit

def runL (q0 : Int) (qs : List ReqV) : LnV := qs.foldl (fun l q => l.put q) (LnV.new q0)
theorem runL_snoc (q0 : Int) (qs : List ReqV) (q : ReqV) : runL q0 (qs ++ [q]) = (runL q0 qs).put q := by simp [runL]
theorem put_facts (l : LnV) (q : ReqV) : (l.put q).quota = l.quota ∧ (l.put q).k = l.k ∧ (l.put q).qs.length ≤ l.qs.length + 1 := by
  unfold LnV.put
  split
  · exact ⟨rfl, rfl, by simp⟩
  · exact ⟨rfl, rfl, Nat.le_succ _⟩
theorem runL_ok (q0 : Int) (qs : List ReqV) : LnOk (runL q0 qs).qs ∧ (runL q0 qs).quota = q0 ∧ (runL q0 qs).k = 0 ∧ (runL q0 qs).qs.length ≤ qs.length := by
  unfold runL
  suffices h : ∀ (r : List ReqV) (l : LnV), LnOk l.qs → LnOk (r.foldl (fun l q => l.put q) l).qs ∧ (r.foldl (fun l q => l.put q) l).quota = l.quota ∧ (r.foldl (fun l q => l.put q) l).k = l.k ∧ (r.foldl (fun l q => l.put q) l).qs.length ≤ l.qs.length + r.length by
    have := h qs (LnV.new q0) LnOk.nil
    refine ⟨this.1, this.2.1, this.2.2.1, ?_⟩
    have e : (LnV.new q0).qs.length = 0 := rfl
    omega
  intro r
  induction r with
  | nil => intro l h; exact ⟨h, rfl, rfl, Nat.le_refl _⟩
  | cons q r ih =>
    intro l h
    obtain ⟨p1, p2, p3⟩ := put_facts l q
    obtain ⟨h1, h2, h3, h4⟩ := ih (l.put q) (h.put q)
    refine ⟨h1, h2.trans p1, h3.trans p2, ?_⟩
    simp only [List.foldl_cons, List.length_cons]
    omega
theorem put_yes {l : LnV} {q : ReqV} (h : l.may q = true) : l.put q = ⟨l.quota, l.qs ++ [q], l.k⟩ ∧ l.err q = 0 ∧ l.at_ q = l.qs.length + 1 := by
  obtain ⟨h1, h2, h3⟩ := LnV.may_iff.1 h
  refine ⟨by unfold LnV.put; rw [h]; rfl, ?_, by unfold LnV.at_; rw [h]; rfl⟩
  unfold LnV.err
  rw [h1, h2]
  exact if_pos h3
theorem put_not {l : LnV} {q : ReqV} (h : l.may q = false) : l.put q = l ∧ (l.err q = 1 ∨ l.err q = 9) ∧ l.at_ q = 0 := by
  refine ⟨by unfold LnV.put; rw [h]; rfl, ?_, by unfold LnV.at_; rw [h]; rfl⟩
  unfold LnV.err
  by_cases hq : (q.q.may && Writes q.kind) = true
  · rw [hq, if_pos rfl]
    by_cases h3 : lastSeq l.qs q.client < q.seq
    · unfold LnV.may at h
      rw [hq] at h
      simp [h3] at h
    · rw [if_neg h3]; exact .inr rfl
  · have hq' : (q.q.may && Writes q.kind) = false := by simpa using hq
    rw [hq']; exact .inl rfl
/-- no earlier request of a client has its later number -/
theorem LnOk.before {qs : List ReqV} (h : LnOk qs) : ∀ i, i ≤ qs.length → ∀ j x, j < i → qs[j]? = some x → x.seq ≤ lastSeq (qs.take i) x.client := by
  intro i
  induction i with
  | zero => intro _ j x hj; omega
  | succ i ih =>
    intro hi j x hj hx
    have hiq : i < qs.length := by omega
    obtain ⟨h1, h2, h3⟩ := h i qs[i] (List.getElem?_eq_getElem hiq)
    rw [List.take_succ_eq_append_getElem hiq, lastSeq_snoc]
    by_cases hji : j = i
    · subst hji
      rw [List.getElem?_eq_getElem hiq] at hx
      injection hx with hx
      subst hx
      rw [if_pos rfl]
      exact Int.le_refl _
    · have := ih (by omega) j x (by omega) hx
      split
      · rename_i e
        rw [e] at h3
        omega
      · exact this
theorem LnOk.find {qs : List ReqV} (h : LnOk qs) {i : Nat} {q : ReqV} (hq : qs[i]? = some q) : findR qs q.client q.seq = i + 1 := by
  have hi := (List.getElem?_eq_some_iff.1 hq).1
  refine findR_some hq (by simp [hitQ]) fun j x hj hx => ?_
  obtain ⟨-, -, h3⟩ := h i q hq
  have h4 := h.before i (by omega) j x hj hx
  unfold hitQ
  by_cases hc : x.client = q.client
  · have : ¬ x.seq = q.seq := by rw [hc] at h4; omega
    rw [decide_eq_false this, Bool.and_false]
  · rw [decide_eq_false hc]; rfl
theorem sinceL_all (qs : List ReqV) (m : Int) (h : (qs.length : Int) ≤ m) : sinceL qs 0 m = qs := by
  unfold sinceL
  rw [if_neg (by omega), show (0 : Int).toNat = 0 from rfl, List.drop_zero, List.take_of_length_le (by omega)]
/-- the data of all of them is short -/
def shortAll (qs : List ReqV) : Prop := ∀ q ∈ qs, q.data.size ≤ 100
end Go.Proofs.Ytmhnlpilbbfgnaa
