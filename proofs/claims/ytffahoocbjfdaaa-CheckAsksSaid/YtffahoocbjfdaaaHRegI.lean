/- XReg's law for a region that draws its order, inside a fence (for a region that holds a call of yield). -/
import Derived.OrdersIn
import Derived.CallsIn
import Derived.RangeFuncCalls
import Derived.Test.YtffahoocbjfdaaaHReg
namespace Go.Proofs.Ytffahoocbjfdaaa
open Go.RowKit
section
variable {F : Fence} {n : Nat} {P : Program} {Q : Exit → Act → World → Prop} {l : List Oper} {σ : Nat → Option Value} {a : Act}
theorem wpOpIn_mk {ops : Array Oper} {i : Nat} {o : Oper} {K : Act → World → Prop} {a : Act} {w : World} (hi : ops[i]? = some o) (hg : o.guard = none) (h : Oper.wpIn F n P o a w K Q) : wpOpIn F n P ops Q i K a w := by
  unfold Go.wpOpIn
  simp only [hi, Region.wanted, hg, if_true]
  exact h
theorem region_inv_goI (hok : regOk l = true) (I : (Nat → Option Value) → World → Prop)
    (hstep : ∀ σ k o w, l[k]? = some o → σ k = none → (∀ e ∈ o.after, Region.binds .any e = true → (σ e.on).isSome = true) → I σ w →
      wpOpIn F n P l.toArray Q k (fun a' w' => ∃ v, a' = (puts l σ a l.length).put o.dst v ∧ I (upd σ k v) w') (puts l σ a l.length) w)
    (hend : ∀ σ w, (∀ k, k < l.length → (σ k).isSome = true) → I σ w → Q .normal (puts l σ a l.length) w) :
    ∀ (fuel : Nat) (listed : Array Bool) (σ : Nat → Option Value) (w : World), listed.size = l.length → (∀ k, k < l.length → listed[k]? = some (σ k).isSome) →
      (List.range l.length).countP (fun k => (σ k).isNone) ≤ fuel → I σ w → wpAnyIn F n P .any l.toArray Q fuel listed (puts l σ a l.length) w := by
  simp only [regOk, Bool.and_eq_true, List.all_eq_true, List.mem_range] at hok
  have hn := nodupB_spec hok.1
  have hready : ∀ (listed : Array Bool) (σ : Nat → Option Value), listed.size = l.length → (∀ k, k < l.length → listed[k]? = some (σ k).isSome) →
      ∀ i, i ∈ Region.ready .any l.toArray listed ↔ i < l.length ∧ σ i = none ∧ ∃ o, l[i]? = some o ∧ ∀ e ∈ o.after, Region.binds .any e = true → (σ e.on).isSome = true := by
    intro listed σ hsz hls i
    have hg : ∀ k, listed.getD k false = true ↔ k < l.length ∧ (σ k).isSome = true := fun k => by
      rw [Array.getD_eq_getD_getElem?]
      by_cases hk : k < l.length
      · rw [hls k hk]; simp [hk]
      · rw [Array.getElem?_eq_none (by omega)]; simp [hk]
    unfold Region.ready
    simp only [List.size_toArray, List.mem_filter, List.mem_range, Bool.and_eq_true, Bool.not_eq_true', List.getElem?_toArray]
    constructor
    · rintro ⟨hi, h1, h2⟩
      have hl := hls i hi
      rw [Array.getD_eq_getD_getElem?, hl] at h1
      refine ⟨hi, by simpa using h1, l[i], List.getElem?_eq_getElem hi, fun e he hb => ?_⟩
      rw [List.getElem?_eq_getElem hi] at h2
      simp only [Option.map_some, Option.getD_some, Array.all_eq_true'] at h2
      have h3 := h2 e he
      simp only [hb, Bool.not_true, Bool.false_or] at h3
      exact ((hg e.on).1 h3).2
    · rintro ⟨hi, h1, o, ho, h2⟩
      refine ⟨hi, ?_, ?_⟩
      · rw [Array.getD_eq_getD_getElem?, hls i hi, h1]; rfl
      · rw [ho]
        simp only [Option.map_some, Option.getD_some, Array.all_eq_true']
        intro e he
        cases hb : Region.binds .any e with
        | false => rfl
        | true =>
          have hlt : e.on < i := by
            have := hok.2 i hi
            simp only [ho, Array.all_eq_true'] at this
            simpa [hb] using this e he
          simp only [Bool.not_true, Bool.false_or]
          exact (hg e.on).2 ⟨by omega, h2 e he hb⟩
  have hdone : ∀ (listed : Array Bool) (σ : Nat → Option Value), listed.size = l.length → (∀ k, k < l.length → listed[k]? = some (σ k).isSome) →
      Region.ready .any l.toArray listed = [] → ∀ k, k < l.length → (σ k).isSome = true := by
    intro listed σ hsz hls hr k
    induction k using Nat.strongRecOn with
    | _ k ih =>
      intro hk
      cases hs : σ k with
      | some v => rfl
      | none =>
        have : k ∈ Region.ready .any l.toArray listed := (hready listed σ hsz hls k).2 ⟨hk, hs, l[k], List.getElem?_eq_getElem hk, fun e he hb => by
          have hlt : e.on < k := by
            have := hok.2 k hk
            simp only [List.getElem?_eq_getElem hk, Array.all_eq_true'] at this
            simpa [hb] using this e he
          exact ih e.on hlt (by omega)⟩
        rw [hr] at this
        simp at this
  intro fuel
  induction fuel with
  | zero =>
    intro listed σ w hsz hls hc hI
    have hall : ∀ k, k < l.length → (σ k).isSome = true := fun k hk => by
      cases hs : σ k with
      | some v => rfl
      | none =>
        have : 0 < (List.range l.length).countP (fun k => (σ k).isNone) := List.countP_pos_iff.2 ⟨k, List.mem_range.2 hk, by simp [hs]⟩
        omega
    refine ⟨?_, hend σ w hall hI⟩
    refine List.eq_nil_iff_forall_not_mem.2 fun i hi => ?_
    obtain ⟨h1, h2, -⟩ := (hready listed σ hsz hls i).1 hi
    have := hall i h1
    rw [h2] at this
    simp at this
  | succ fuel ih =>
    intro listed σ w hsz hls hc hI
    refine ⟨fun hr => hend σ w (hdone listed σ hsz hls hr) hI, fun i hi => ?_⟩
    obtain ⟨hilt, hsi, o, ho, hdeps⟩ := (hready listed σ hsz hls i).1 hi
    refine wpOpIn_mono ?_ (hstep σ i o w ho hsi hdeps hI)
    rintro a' w' ⟨v, rfl, hI'⟩
    rw [← puts_upd (v := v) hn ho hsi hilt]
    refine ih _ (upd σ i v) w' (by simp [hsz]) (fun k hk => ?_) ?_ hI'
    · by_cases hki : k = i
      · subst hki
        rw [Array.getElem?_setIfInBounds]
        simp [upd, hsz, hk]
      · rw [Array.getElem?_setIfInBounds_ne (Ne.symm hki), hls k hk]
        simp [upd, hki]
    · have := countP_less (p := fun k => (σ k).isNone) (p' := fun k => (upd σ i v k).isNone) (fun x hx => by
        unfold upd at hx
        split at hx
        · simp at hx
        · exact hx) (i := i) (by simp [hsi]) (by simp [upd]) (List.mem_range.2 hilt)
      omega
theorem region_invI {id : Nat} {w : World} (hm : P.follows .mixedOrders = true) (hok : regOk l = true) (I : (Nat → Option Value) → World → Prop)
    (h0 : I (fun _ => none) w.drew)
    (hstep : ∀ σ k o w, l[k]? = some o → σ k = none → (∀ e ∈ o.after, Region.binds .any e = true → (σ e.on).isSome = true) → I σ w →
      wpOpIn F n P l.toArray Q k (fun a' w' => ∃ v, a' = (puts l σ a l.length).put o.dst v ∧ I (upd σ k v) w') (puts l σ a l.length) w)
    (hend : ∀ σ w, (∀ k, k < l.length → (σ k).isSome = true) → I σ w → Q .normal (puts l σ a l.length) w) :
    (Code.region id l.toArray true).wpIn F n P Q a w := by
  refine wpIn_region_any hm ?_
  have hp : ∀ k, puts l (fun _ => none) a k = a := fun k => by
    induction k with
    | zero => rfl
    | succ k ih => unfold puts; exact ih
  have := region_inv_goI (P := P) (F := F) (n := n) (Q := Q) (a := a) hok I hstep hend l.length (Array.replicate l.length false) (fun _ => none) w.drew (by simp) (fun k hk => by simp [hk]) (by
    simp) h0
  rw [hp] at this
  simpa using this
def StepOkI (F : Fence) (n : Nat) (P : Program) (Q : Exit → Act → World → Prop) (l : List Oper) (a0 : Act) (R : Nat → Value → World → Prop) (S : (Nat → Option Value) → World → Prop) (T : World → World → Prop) (k : Nat) (o : Oper) : Prop :=
  ∀ (σ : Nat → Option Value) (a : Act) (w : World), σ k = none → (∀ e ∈ o.after, Region.binds .any e = true → (σ e.on).isSome = true) → S σ w →
    (∀ j v, j < l.length → σ j = some v → R j v w ∧ ∀ oj t, l[j]? = some oj → oj.dst = some t → t < a0.tmps.size → a.tmps[t]? = some v) →
    (∀ t, (∀ j oj, l[j]? = some oj → oj.dst = some t → σ j = none) → a.tmps[t]? = a0.tmps[t]?) → (∀ j oj, l[j]? = some oj → (σ j).isSome = true → ∀ e ∈ oj.after, Region.binds .any e = true → (σ e.on).isSome = true) →
    wpOpIn F n P l.toArray Q k (fun a' w' => ∃ v, a' = a.put o.dst v ∧ R k v w' ∧ T w w' ∧ S (upd σ k v) w') a w
theorem region_stepsI {id : Nat} {w : World} (R : Nat → Value → World → Prop) (S : (Nat → Option Value) → World → Prop) (T : World → World → Prop) (hm : P.follows .mixedOrders = true) (hok : regOk l = true)
    (hfit : (dsts l).all (fun t => decide (t < a.tmps.size)) = true)
    (stab : ∀ j v w w', T w w' → R j v w → R j v w') (h0 : S (fun _ => none) w.drew)
    (steps : StepsOk (StepOkI F n P Q l a R S T) 0 l)
    (ends : ∀ σ w', S σ w' → (∀ k, k < l.length → (σ k).isSome = true) → Ends R w' σ (fun a' => Q .normal a' w') 0 l a) :
    (Code.region id l.toArray true).wpIn F n P Q a w := by
  have hn : (dsts l).Nodup := by
    have h := hok
    simp only [regOk, Bool.and_eq_true] at h
    exact nodupB_spec h.1
  refine region_invI hm hok (fun σ w' => S σ w' ∧ (∀ j v, σ j = some v → R j v w') ∧ (∀ j oj, l[j]? = some oj → (σ j).isSome = true → ∀ e ∈ oj.after, Region.binds .any e = true → (σ e.on).isSome = true)) ⟨h0, (fun j v h => by cases h), fun j oj _ h => by simp at h⟩ ?_ ?_
  · rintro σ k o w' hk hs hd ⟨hS1, hR, hcl⟩
    have hst := steps.at_ hk
    rw [Nat.zero_add] at hst
    have := hst σ (puts l σ a l.length) w' hs hd hS1 (fun j v hj hv => ⟨hR j v hv, fun oj t hj' ht hlt => puts_at hn hj' ht hv hlt hj⟩) (fun t ht => puts_other fun j oj hj hd => ht j oj hj hd) hcl
    refine wpOpIn_mono ?_ this
    rintro a' w'' ⟨v, rfl, hRk, hT, hS2⟩
    refine ⟨v, rfl, hS2, ?_, ?_⟩
    · intro j u hj
      unfold upd at hj
      split at hj
      · rename_i e; subst e; cases hj; exact hRk
      · exact stab j u w' w'' hT (hR j u hj)
    · intro j oj hj hsj e he hb
      have hon : (σ e.on).isSome = true := by
        unfold upd at hsj
        split at hsj
        · rename_i h
          subst h
          rw [hk] at hj
          cases hj
          exact hd e he hb
        · exact hcl j oj hj hsj e he hb
      unfold upd
      split
      · rfl
      · exact hon
  · rintro σ w' hall ⟨hS1, hR, -⟩
    refine ends_puts (G := fun a' => Q .normal a' w') l [] (ends σ w' hS1 hall) (fun k hk => ?_)
    cases hv : σ k with
    | none => have := hall k hk; rw [hv] at this; simp at this
    | some v => exact ⟨v, rfl, hR k v hv⟩
end
section
variable {n : Nat} {P : Program} {Q : Exit → Act → World → Prop} {l : List Oper} {a0 : Act} {R : Nat → Value → World → Prop} {S : (Nat → Option Value) → World → Prop} {T : World → World → Prop}
theorem wpOpIn_run {ops : Array Oper} {i : Nat} {o : Oper} {K : Act → World → Prop} {a : Act} {w w' : World} (u : Value) (hi : ops[i]? = some o) (hg : o.guard = none) (hr : (execOp a.eval o).run P w = .ok (.value u) w') (h : K (a.put o.dst u) w') : wpOpIn Fence.wide n P ops Q i K a w := by
  refine wpOpIn_mk hi hg ⟨fun _ _ => trivial, ?_⟩
  show Oper.uponIn Fence.wide n P o a K Q ((execOp a.eval o).run P w)
  rw [hr]
  exact h
theorem stepOk_mkI {k : Nat} {o : Oper} (deps : List (Nat × Tmp)) (outs : List (Tmp × Value)) (hg : o.guard = none) (ho : l[k]? = some o) (hd : depsB l o a0.tmps.size deps = true) (hb : outsB l k outs = true)
    (he : (outs.map fun p => a0.tmps[p.1]?) = (outs.map fun p => some p.2))
    (h : ∀ (σ : Nat → Option Value) (a : Act) (w : World), Later l σ k → (∀ j, waitsB o j = true → (σ j).isSome = true) → S σ w →
      Given R w σ a.eval (Known a.eval (Oper.wpIn Fence.wide n P o a w (fun a' w' => ∃ v, a' = a.put o.dst v ∧ R k v w' ∧ T w w' ∧ S (upd σ k v) w') Q) outs) deps) : StepOkI Fence.wide n P Q l a0 R S T k o := by
  intro σ a w hk hda hS hj hot hcl
  exact wpOpIn_mk (by simpa using ho) hg (known_of hk hcl hot hb he (given_of (deps := deps) hda hj hd (h σ a w (later_of hk hcl) (waits_of hda) hS)))
theorem stepOk_pureI {k : Nat} {o : Oper} (deps : List (Nat × Tmp)) (outs : List (Tmp × Value)) (hg : o.guard = none) (ho : l[k]? = some o) (hd : depsB l o a0.tmps.size deps = true) (hb : outsB l k outs = true)
    (he : (outs.map fun p => a0.tmps[p.1]?) = (outs.map fun p => some p.2)) (hT : ∀ w, T w w) (hS : ∀ σ v w, S σ w → S (upd σ k v) w)
    (h : ∀ (σ : Nat → Option Value) (E : Operand → Value) (w : World), Later l σ k → (∀ j, waitsB o j = true → (σ j).isSome = true) → S σ w → (∀ v, E (.const v) = v) → (∀ f, E (.func f) = .func (.func f) #[] #[]) →
      Given R w σ E (Known E (∃ v, (execOp E o).run P w = .ok (.value v) w ∧ R k v w) outs) deps) : StepOkI Fence.wide n P Q l a0 R S T k o := by
  intro σ a w hk hda hS1 hj hot hcl
  obtain ⟨v, h1, h2⟩ := known_of hk hcl hot hb he (given_of (deps := deps) hda hj hd (h σ a.eval w (later_of hk hcl) (waits_of hda) hS1 (fun _ => rfl) (fun _ => rfl)))
  exact wpOpIn_run v (by simpa using ho) hg h1 ⟨v, rfl, h2, hT w, hS σ v w hS1⟩
variable {lr : Nat}
def noDefer (o : Oper) : Bool := match o.op with
  | .defer _ => false
  | _ => true
theorem noDefer_ne {o : Oper} (h : noDefer o = true) : ∀ c, o.op ≠ .defer c := fun c e => by unfold noDefer at h; rw [e] at h; cases h
theorem wpOpIn_runR {ops : Array Oper} {i : Nat} {o : Oper} {K : Act → World → Prop} {a : Act} {w w' : World} (u : Value) (hi : ops[i]? = some o) (hg : o.guard = none) (hnd : noDefer o = true) (hr : (execOp a.eval o).run P w = .ok (.value u) w') (h : K (a.put o.dst u) w') : wpOpIn (Fence.wide.inRound lr) n P ops Q i K a w := by
  refine wpOpIn_mk hi hg ⟨fun _ _ => trivial, ?_⟩
  show Oper.uponIn (Fence.wide.inRound lr) n P o a K Q ((o.semAt (some lr) a.eval).run P w)
  rw [Oper.semAt_eq _ _ _ (noDefer_ne hnd), hr]
  exact h
theorem wpIn_callR {o : Oper} {K : Act → World → Prop} {a : Act} {w : World} (f : FuncId) (fn : Func) (hf : P.funcs[f]? = some fn) (hn : (fn.name == "runtime.NumGoroutine") = false) (hb : fn.body.isNone = false) (xs : List Operand) (tys : Array TypeId)
    (ho : o.op = .call { callee := .value (.func f), args := xs.toArray, argTypes := tys }) (vals : List Value) (hv : xs.map a.eval = vals) {Rr : Ending → World → Prop} (h : Calls P f vals.toArray w Rr)
    (hR : ∀ e w', Rr e w' → ∃ v, e = .returned v ∧ K (a.put o.dst v) w') : Oper.wpIn (Fence.wide.inRound lr) n P o a w K Q := by
  refine ⟨fun _ _ => trivial, ?_⟩
  show Oper.uponIn (Fence.wide.inRound lr) n P o a K Q ((o.semAt (some lr) a.eval).run P w)
  rw [Oper.semAt_eq _ _ _ (by intro c; rw [ho]; simp)]
  unfold execOp
  simp only [ho, resolve, invoke, Sem.run_bind, Sem.run_pure, Result.andThen_ok, List.map_toArray, hv, Act.eval, Deferred.ofValue, Array.append_empty, Array.empty_append, run_callFunc _ hf hn hb]
  refine ⟨fun e => by simp [Fence.wide, Fence.inRound] at e, CallsIn.inRound lr (callsIn_wide.2 (h.mono fun e w' he => ?_))⟩
  obtain ⟨v, rfl, hk⟩ := hR e w' he
  exact hk
theorem stepOk_mkR {k : Nat} {o : Oper} (deps : List (Nat × Tmp)) (outs : List (Tmp × Value)) (hg : o.guard = none) (ho : l[k]? = some o) (hd : depsB l o a0.tmps.size deps = true) (hb : outsB l k outs = true)
    (he : (outs.map fun p => a0.tmps[p.1]?) = (outs.map fun p => some p.2))
    (h : ∀ (σ : Nat → Option Value) (a : Act) (w : World), Later l σ k → (∀ j, waitsB o j = true → (σ j).isSome = true) → S σ w →
      Given R w σ a.eval (Known a.eval (Oper.wpIn (Fence.wide.inRound lr) n P o a w (fun a' w' => ∃ v, a' = a.put o.dst v ∧ R k v w' ∧ T w w' ∧ S (upd σ k v) w') Q) outs) deps) : StepOkI (Fence.wide.inRound lr) n P Q l a0 R S T k o := by
  intro σ a w hk hda hS hj hot hcl
  exact wpOpIn_mk (by simpa using ho) hg (known_of hk hcl hot hb he (given_of (deps := deps) hda hj hd (h σ a w (later_of hk hcl) (waits_of hda) hS)))
theorem stepOk_pureR {k : Nat} {o : Oper} (deps : List (Nat × Tmp)) (outs : List (Tmp × Value)) (hg : o.guard = none) (ho : l[k]? = some o) (hnd : noDefer o = true) (hd : depsB l o a0.tmps.size deps = true) (hb : outsB l k outs = true)
    (he : (outs.map fun p => a0.tmps[p.1]?) = (outs.map fun p => some p.2)) (hT : ∀ w, T w w) (hS : ∀ σ v w, S σ w → S (upd σ k v) w)
    (h : ∀ (σ : Nat → Option Value) (E : Operand → Value) (w : World), Later l σ k → (∀ j, waitsB o j = true → (σ j).isSome = true) → S σ w → (∀ v, E (.const v) = v) → (∀ f, E (.func f) = .func (.func f) #[] #[]) →
      Given R w σ E (Known E (∃ v, (execOp E o).run P w = .ok (.value v) w ∧ R k v w) outs) deps) : StepOkI (Fence.wide.inRound lr) n P Q l a0 R S T k o := by
  intro σ a w hk hda hS1 hj hot hcl
  obtain ⟨v, h1, h2⟩ := known_of hk hcl hot hb he (given_of (deps := deps) hda hj hd (h σ a.eval w (later_of hk hcl) (waits_of hda) hS1 (fun _ => rfl) (fun _ => rfl)))
  exact wpOpIn_runR v (by simpa using ho) hg (by first | assumption) h1 ⟨v, rfl, h2, hT w, hS σ v w hS1⟩
end
end Go.Proofs.Ytffahoocbjfdaaa
