/- What a clean resource tells; plain. -/
import Derived.Test.YtmhnlpilbbfgnaaHDy
import Derived.Test.YtmhnlpilbbfgnaaHLnU
namespace Go.Proofs.Ytmhnlpilbbfgnaa
open Go.RowKit

theorem umodH (x : Int) (n : Nat) (hn : n ≤ 1000) : ∃ y : Nat, wrap64 ((IntKind.u64.wrap x).tmod (((n : Nat) : Int) + 1)) = (y : Int) ∧ y ≤ n := by
  have h0 : 0 ≤ IntKind.u64.wrap x := by rw [IntKind.wrap_u64]; omega
  rw [Int.tmod_eq_emod_of_nonneg h0]
  have h1 := Int.emod_nonneg (IntKind.u64.wrap x) (show ((n : Nat) : Int) + 1 ≠ 0 by omega)
  have h2 := Int.emod_lt_of_pos (IntKind.u64.wrap x) (show 0 < ((n : Nat) : Int) + 1 by omega)
  rw [IntWalk.wrap64_in _ ⟨by omega, by omega⟩]
  exact ⟨(IntKind.u64.wrap x % (((n : Nat) : Int) + 1)).toNat, by omega, by omega⟩
theorem umod32 (x : Int) : ∃ y : Nat, wrap64 ((IntKind.u64.wrap x).tmod 32) = (y : Int) ∧ y < 32 := by
  have h0 : 0 ≤ IntKind.u64.wrap x := by rw [IntKind.wrap_u64]; omega
  rw [Int.tmod_eq_emod_of_nonneg h0]
  rw [IntWalk.wrap64_in _ ⟨by omega, by omega⟩]
  exact ⟨(IntKind.u64.wrap x % 32).toNat, by omega, by omega⟩
theorem clean_yes {l : LnV} {j : Nat} (hj : j < 32) (h : lastAt l.qs j ≤ l.k) : l.clean j = true := by
  unfold LnV.clean
  rw [decide_eq_true (by omega : (0 : Int) ≤ j), decide_eq_true (by omega : (j : Int) ≤ 31), decide_eq_true h]
  rfl
theorem clean_not {l : LnV} {j : Nat} (hj : j < 32) (h : ¬ lastAt l.qs j ≤ l.k) : l.clean j = false := by
  unfold LnV.clean
  rw [decide_eq_false h, Bool.and_false]
theorem ask_hist (j : Nat) (hj : j < 32) : askOk (⟨0, 1, 6, j, 0, ByteArray.empty⟩ : ReqV).q = true := by
  have h : ∀ i : Fin 32, askOk (⟨0, 1, 6, (i.val : Int), 0, ByteArray.empty⟩ : ReqV).q = true := by decide +kernel
  exact h ⟨j, hj⟩
theorem askR_lenH (vs : List Ver) (k m : Int) : (askR vs k m).vs.length ≤ vs.length := by
  unfold askR
  have := Nat.le_of_eq (histL_length vs)
  split
  · split
    · simp
    · split <;> simp
  · split
    · split
      · simp
      · split <;> simp
    · split
      · split
        · simp
        · exact this
      · simp
theorem ask_lenH (s : StV) (q : Q) : (s.ask q).vs.length ≤ (s.f q.id).length := by
  unfold StV.ask
  split
  · exact askR_lenH _ _ _
  · exact Nat.zero_le _
theorem doL_oneH (vs : List Ver) (k m quota : Int) (d : ByteArray) : (doL vs k m quota d).length ≤ vs.length + 1 := by
  unfold doL doR
  split <;> (repeat' split) <;> simp
theorem put_fewH (s : StV) (q : Q) (h : ∀ k, (s.f k).length ≤ s.n) : ∀ k, ((s.put q).f k).length ≤ (s.put q).n := by
  intro k
  unfold StV.put
  split
  · show (if k = q.id then s.doL q else s.f k).length ≤ s.n + 1
    split
    · have := doL_oneH (s.f q.id) q.kind q.mat s.quota q.data
      have := h q.id
      unfold StV.doL
      omega
    · have := h k; omega
  · exact h k
theorem few_len (q0 : Int) (qs : List ReqV) (k : Int) : ((runS q0 qs).f k).length ≤ (runS q0 qs).n := by
  unfold runS
  suffices h : ∀ (l : List ReqV) (s : StV), (∀ k, (s.f k).length ≤ s.n) → ∀ k, ((l.foldl (fun s q => s.put q.q) s).f k).length ≤ (l.foldl (fun s q => s.put q.q) s).n from h qs (StV.new q0) (fun k => by simp [StV.new]) k
  intro l
  induction l with
  | nil => intro s h; exact h
  | cons q l ih => intro s h; exact ih (s.put q.q) (put_fewH s q.q h)
theorem lastAt_ge {qs : List ReqV} {t : Nat} {q : ReqV} (h : qs[t]? = some q) : t + 1 ≤ lastAt qs q.id := by
  suffices hh : ∀ r : List ReqV, r.reverse[t]? = some q → t + 1 ≤ lastAtR r q.id from hh qs.reverse (by rw [List.reverse_reverse]; exact h)
  intro r
  induction r with
  | nil => intro e; simp at e
  | cons x r ih =>
    intro e
    rw [List.reverse_cons] at e
    have hlt : t < (r.reverse ++ [x]).length := (List.getElem?_eq_some_iff.1 e).1
    simp only [List.length_append, List.length_reverse, List.length_cons, List.length_nil] at hlt
    unfold lastAtR
    split
    · omega
    · rename_i hne
      by_cases ht : t < r.length
      · exact ih (by rwa [List.getElem?_append_left (by rw [List.length_reverse]; exact ht)] at e)
      · exfalso
        have : t = r.reverse.length := by rw [List.length_reverse]; omega
        subst this
        rw [List.getElem?_append_right (Nat.le_refl _)] at e
        simp at e
        exact hne (by rw [e])
theorem put_f (s : StV) (q : Q) (i : Int) (h : q.id ≠ i) : (s.put q).f i = s.f i := by
  unfold StV.put
  split
  · show (if i = q.id then s.doL q else s.f i) = s.f i
    rw [if_neg (fun e => h e.symm)]
  · rfl
/-- what a resource is, does not change behind its last place -/
theorem f_keep (q0 : Int) (qs : List ReqV) (i : Int) (y : Nat) (h : lastAt qs i ≤ y) : ∀ z, (runS q0 (qs.take (y + z))).f i = (runS q0 (qs.take y)).f i := by
  intro z
  induction z with
  | zero => rfl
  | succ z ih =>
    by_cases hl : y + z < qs.length
    · rw [← Nat.add_assoc, List.take_succ_eq_append_getElem hl, runS_snoc, put_f _ _ _ ?_, ih]
      intro e
      have := lastAt_ge (List.getElem?_eq_getElem hl)
      rw [show qs[y + z].id = i from e] at this
      omega
    · rw [List.take_of_length_le (by omega), ← ih, List.take_of_length_le (by omega)]
theorem Same_eqH (R : Rep) (n : Nat) (hn : R.vs.length = n) (hn2 : n ≤ 1000) (A B : Option Addr) (ca cb : Nat) (w : World) (ha : IntsAt w A R.vs) (hb : IntsAt w B R.vs) :
    Calls Try.prog 29 #[.agg #[.int .i64 R.code, .int .i64 R.ver, .string R.data, .slice A n ca], .agg #[.int .i64 R.code, .int .i64 R.ver, .string R.data, .slice B n cb]] w fun e w' => e = .returned (.bool true) ∧ Old w w' := by
  have := SameReply_any R R A B n n ca cb w ha hb hn.symm hn.symm hn2 hn2
  rwa [(Rep.same_iff _ _).2 rfl] at this
end Go.Proofs.Ytmhnlpilbbfgnaa
