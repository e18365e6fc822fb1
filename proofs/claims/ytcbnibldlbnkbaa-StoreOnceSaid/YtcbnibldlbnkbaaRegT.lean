/- A region that draws its order: each kind of operation, with the slots that it looks at. No program. -/
import Derived.Test.YtcbnibldlbnkbaaReg
namespace Go.Proofs.Ytcbnibldlbnkbaa
open Go.RowKit

theorem put_lit (l : List Value) (ds : List Deferred) (d : Tmp) (v : Value) : ({ tmps := l.toArray, defers := ds } : Act).put (some d) v = { tmps := (l.set d v).toArray, defers := ds } := by simp [Act.put]
theorem put_none (a : Act) (v : Value) : a.put none v = a := rfl
def eqv (x : Value) : Value → World → Prop := fun v _ => v = x
def pick : List (Value → World → Prop) → Nat → Value → World → Prop
  | [], _ => fun _ _ => True
  | r :: _, 0 => r
  | _ :: l, j + 1 => pick l j
def Stab (T : World → World → Prop) (Rs : List (Value → World → Prop)) : Prop := ∀ r ∈ Rs, ∀ v w w', T w w' → r v w → r v w'
theorem Stab.nil {T : World → World → Prop} : Stab T [] := fun _ h => by cases h
theorem Stab.cons {T : World → World → Prop} {r : Value → World → Prop} {l : List (Value → World → Prop)} (h : ∀ v w w', T w w' → r v w → r v w') (k : Stab T l) : Stab T (r :: l) := fun s hs => by
  rcases List.mem_cons.1 hs with rfl | hs
  · exact h
  · exact k s hs
theorem Stab.eqv {T : World → World → Prop} {x : Value} {l : List (Value → World → Prop)} (k : Stab T l) : Stab T (eqv x :: l) := k.cons fun _ _ _ _ h => h
theorem Stab.pick {T : World → World → Prop} : ∀ {Rs : List (Value → World → Prop)}, Stab T Rs → ∀ j v w w', T w w' → pick Rs j v w → pick Rs j v w'
  | [], _, _, _, _, _, _, h => h
  | r :: l, k, 0, v, w, w', ht, h => k r (by simp) v w w' ht h
  | r :: l, k, j + 1, v, w, w', ht, h => Stab.pick (Rs := l) (fun s hs => k s (by simp [hs])) j v w w' ht h

/-- number and slot of what is looked at, done in the region -/
def Given (R : Nat → Value → World → Prop) (w : World) (σ : Nat → Option Value) (E : Operand → Value) (G : Prop) : List (Nat × Tmp) → Prop
  | [] => G
  | (j, t) :: r => ∀ v, σ j = some v → R j v w → E (.tmp t) = v → Given R w σ E G r
/-- slot and value of what is looked at, done ahead of it -/
def Known (E : Operand → Value) (G : Prop) : List (Tmp × Value) → Prop
  | [] => G
  | (t, v) :: r => E (.tmp t) = v → Known E G r
theorem Given.nil {R : Nat → Value → World → Prop} {w : World} {σ : Nat → Option Value} {E : Operand → Value} {G : Prop} (h : G) : Given R w σ E G [] := h
theorem Known.nil {E : Operand → Value} {G : Prop} (h : G) : Known E G [] := h
def waitsB (o : Oper) (j : Nat) : Bool := o.after.any fun e => Region.binds .any e && e.on == j
def depsB (l : List Oper) (o : Oper) (n : Nat) (deps : List (Nat × Tmp)) : Bool := deps.all fun p => waitsB o p.1 && (match l[p.1]? with
  | some oj => oj.dst == some p.2
  | none => false) && decide (p.2 < n)
/-- what waits for number k, directly and through others -/
def below (l : List Oper) (k : Nat) : List Nat := go l 0 []
where go : List Oper → Nat → List Nat → List Nat
  | [], _, acc => acc
  | o :: l, i, acc => go l (i + 1) (if i == k || (o.after.any fun e => Region.binds .any e && acc.contains e.on) then i :: acc else acc)
/-- slots that nothing of the region has written when number k comes up -/
def outsB (l : List Oper) (k : Nat) (outs : List (Tmp × Value)) : Bool := outs.all fun p => (List.range l.length).all fun i => match l[i]? with
  | some o => o.dst != some p.1 || (below l k).contains i
  | none => true

section
variable {P : Program} {Q : Exit → Act → World → Prop} {l : List Oper} {a0 : Act} {R : Nat → Value → World → Prop} {S : (Nat → Option Value) → World → Prop} {T : World → World → Prop}

theorem given_of {w : World} {a : Act} {o : Oper} {σ : Nat → Option Value} (hd : ∀ e ∈ o.after, Region.binds .any e = true → (σ e.on).isSome = true)
    (hj : ∀ j v, j < l.length → σ j = some v → R j v w ∧ ∀ oj t, l[j]? = some oj → oj.dst = some t → t < a0.tmps.size → a.tmps[t]? = some v) {G : Prop} :
    ∀ {deps : List (Nat × Tmp)}, depsB l o a0.tmps.size deps = true → Given R w σ a.eval G deps → G
  | [], _, h => h
  | (j, t) :: r, hb, h => by
    unfold depsB at hb
    simp only [List.all_cons, Bool.and_eq_true] at hb
    obtain ⟨⟨⟨h1, h2⟩, h3⟩, hr⟩ := hb
    cases ho : l[j]? with
    | none => rw [ho] at h2; cases h2
    | some oj =>
      rw [ho] at h2
      have hlt : j < l.length := (List.getElem?_eq_some_iff.1 ho).1
      unfold waitsB at h1
      rw [Array.any_eq_true'] at h1
      obtain ⟨e, he, hb⟩ := h1
      simp only [Bool.and_eq_true, beq_iff_eq] at hb
      have hdj : (σ j).isSome = true := hb.2 ▸ hd e he hb.1
      obtain ⟨v, hs⟩ := Option.isSome_iff_exists.1 hdj
      obtain ⟨hR, hv⟩ := hj j v hlt hs
      have hv' := hv oj t ho (by simpa using h2) (by simpa using h3)
      refine given_of hd hj (deps := r) (by unfold depsB; exact hr) (h v hs hR ?_)
      simp [Act.eval, Array.getD_eq_getD_getElem?, hv']
theorem below_go {l0 : List Oper} {k : Nat} {σ : Nat → Option Value} (hcl : ∀ j oj, l0[j]? = some oj → (σ j).isSome = true → ∀ e ∈ oj.after, Region.binds .any e = true → (σ e.on).isSome = true) (hk : σ k = none) :
    ∀ (l : List Oper) (i : Nat) (acc : List Nat), (∀ j, l[j]? = l0[i + j]?) → (∀ x ∈ acc, σ x = none) → ∀ x ∈ below.go k l i acc, σ x = none
  | [], _, _, _, h => h
  | o :: l, i, acc, hl, h => by
    unfold below.go
    refine below_go hcl hk l (i + 1) _ (fun j => ?_) (fun x hx => ?_)
    · have := hl (j + 1)
      rw [List.getElem?_cons_succ] at this
      rw [this, show i + (j + 1) = i + 1 + j by omega]
    · split at hx
      · rename_i hc
        rcases List.mem_cons.1 hx with rfl | hx
        · cases hd : σ x with
          | none => rfl
          | some v =>
            simp only [Bool.or_eq_true, beq_iff_eq] at hc
            rcases hc with rfl | hc
            · rw [hk] at hd; cases hd
            · rw [Array.any_eq_true'] at hc
              obtain ⟨e, he, hb⟩ := hc
              simp only [Bool.and_eq_true, List.contains_eq_mem, decide_eq_true_eq] at hb
              have h0 := hl 0
              rw [List.getElem?_cons_zero, Nat.add_zero] at h0
              have h1 := hcl x o h0.symm (by rw [hd]; rfl) e he hb.1
              rw [h _ hb.2] at h1
              cases h1
        · exact h x hx
      · exact h x hx
theorem known_of {a : Act} {k : Nat} {σ : Nat → Option Value} (hk : σ k = none) (hcl : ∀ j oj, l[j]? = some oj → (σ j).isSome = true → ∀ e ∈ oj.after, Region.binds .any e = true → (σ e.on).isSome = true)
    (ho : ∀ t, (∀ j oj, l[j]? = some oj → oj.dst = some t → σ j = none) → a.tmps[t]? = a0.tmps[t]?) {G : Prop} :
    ∀ {outs : List (Tmp × Value)}, outsB l k outs = true → (outs.map fun p => a0.tmps[p.1]?) = (outs.map fun p => some p.2) → Known a.eval G outs → G
  | [], _, _, h => h
  | (t, v) :: r, hb, he, h => by
    unfold outsB at hb
    rw [List.all_cons, Bool.and_eq_true] at hb
    simp only [List.map_cons, List.cons.injEq] at he
    refine known_of hk hcl ho (outs := r) (by unfold outsB; exact hb.2) he.2 (h ?_)
    have := ho t (fun j oj hj hd => by
      have h1 := List.all_eq_true.1 hb.1 j (List.mem_range.2 (List.getElem?_eq_some_iff.1 hj).1)
      simp only [hj, hd, bne_self_eq_false, Bool.false_or, List.contains_eq_mem, decide_eq_true_eq] at h1
      exact below_go hcl hk l 0 [] (fun j => by rw [Nat.zero_add]) (fun _ h => by cases h) j h1)
    simp [Act.eval, Array.getD_eq_getD_getElem?, this, he.1]

/-- what waits for number k is not done when k comes up -/
abbrev Later (l : List Oper) (σ : Nat → Option Value) (k : Nat) : Prop := ∀ i, (below l k).contains i = true → σ i = none
theorem later_of {k : Nat} {σ : Nat → Option Value} (hk : σ k = none) (hcl : ∀ j oj, l[j]? = some oj → (σ j).isSome = true → ∀ e ∈ oj.after, Region.binds .any e = true → (σ e.on).isSome = true) : Later l σ k := fun i hi =>
  below_go hcl hk l 0 [] (fun j => by rw [Nat.zero_add]) (fun _ h => by cases h) i (by simpa [below] using hi)
theorem waits_of {o : Oper} {σ : Nat → Option Value} (hda : ∀ e ∈ o.after, Region.binds .any e = true → (σ e.on).isSome = true) : ∀ j, waitsB o j = true → (σ j).isSome = true := fun j hj => by
  unfold waitsB at hj
  rw [Array.any_eq_true'] at hj
  obtain ⟨e, he, hb⟩ := hj
  simp only [Bool.and_eq_true, beq_iff_eq] at hb
  exact hb.2 ▸ hda e he hb.1

theorem stepOk_mk {k : Nat} {o : Oper} (deps : List (Nat × Tmp)) (outs : List (Tmp × Value)) (hg : o.guard = none) (ho : l[k]? = some o) (hd : depsB l o a0.tmps.size deps = true) (hb : outsB l k outs = true)
    (he : (outs.map fun p => a0.tmps[p.1]?) = (outs.map fun p => some p.2))
    (h : ∀ (σ : Nat → Option Value) (a : Act) (w : World), Later l σ k → (∀ j, waitsB o j = true → (σ j).isSome = true) → S σ w →
      Given R w σ a.eval (Known a.eval (Oper.wp P o a w (fun a' w' => ∃ v, a' = a.put o.dst v ∧ R k v w' ∧ T w w' ∧ S (upd σ k v) w') Q) outs) deps) : StepOk P Q l a0 R S T k o := by
  intro σ a w hk hda hS hj hot hcl
  exact wpOp_mk (by simpa using ho) hg (known_of hk hcl hot hb he (given_of (deps := deps) hda hj hd (h σ a w (later_of hk hcl) (waits_of hda) hS)))

/-- an operation that yields its value, and leaves the world -/
theorem stepOk_pure {k : Nat} {o : Oper} (deps : List (Nat × Tmp)) (outs : List (Tmp × Value)) (hg : o.guard = none) (ho : l[k]? = some o) (hd : depsB l o a0.tmps.size deps = true) (hb : outsB l k outs = true)
    (he : (outs.map fun p => a0.tmps[p.1]?) = (outs.map fun p => some p.2)) (hT : ∀ w, T w w) (hS : ∀ σ v w, S σ w → S (upd σ k v) w)
    (h : ∀ (σ : Nat → Option Value) (E : Operand → Value) (w : World), Later l σ k → (∀ j, waitsB o j = true → (σ j).isSome = true) → S σ w → (∀ v, E (.const v) = v) → (∀ f, E (.func f) = .func (.func f) #[] #[]) →
      Given R w σ E (Known E (∃ v, (execOp E o).run P w = .ok (.value v) w ∧ R k v w) outs) deps) : StepOk P Q l a0 R S T k o := by
  intro σ a w hk hda hS1 hj hot hcl
  obtain ⟨v, h1, h2⟩ := known_of hk hcl hot hb he (given_of (deps := deps) hda hj hd (h σ a.eval w (later_of hk hcl) (waits_of hda) hS1 (fun _ => rfl) (fun _ => rfl)))
  exact wpOp_run v (by simpa using ho) hg h1 ⟨v, rfl, h2, hT w, hS σ v w hS1⟩

/-- an operation that writes, and yields nothing -/
theorem stepOk_store {k : Nat} {o : Oper} (deps : List (Nat × Tmp)) (outs : List (Tmp × Value)) (hg : o.guard = none) (ho : l[k]? = some o) (hd : depsB l o a0.tmps.size deps = true) (hb : outsB l k outs = true)
    (he : (outs.map fun p => a0.tmps[p.1]?) = (outs.map fun p => some p.2))
    (h : ∀ (σ : Nat → Option Value) (E : Operand → Value) (w : World), Later l σ k → (∀ j, waitsB o j = true → (σ j).isSome = true) → S σ w → (∀ v, E (.const v) = v) → (∀ f, E (.func f) = .func (.func f) #[] #[]) →
      Given R w σ E (Known E (∃ w', (execOp E o).run P w = .ok .skip w' ∧ R k undef w' ∧ T w w' ∧ S (upd σ k undef) w') outs) deps) : StepOk P Q l a0 R S T k o := by
  intro σ a w hk hda hS1 hj hot hcl
  obtain ⟨w', h1, h2, h3, h4⟩ := known_of hk hcl hot hb he (given_of (deps := deps) hda hj hd (h σ a.eval w (later_of hk hcl) (waits_of hda) hS1 (fun _ => rfl) (fun _ => rfl)))
  exact wpOp_mk (by simpa using ho) hg (by unfold Oper.wp; rw [h1]; exact ⟨undef, rfl, h2, h3, h4⟩)

theorem guard_is {k : Nat} {o : Oper} {a : Act} {w : World} {σ : Nat → Option Value} (g : Nat) (t : Tmp) (b c : Bool) (hg : o.guard = some (g, c)) (hd : depsB l o a0.tmps.size [(g, t)] = true)
    (hda : ∀ e ∈ o.after, Region.binds .any e = true → (σ e.on).isSome = true)
    (hj : ∀ j v, j < l.length → σ j = some v → R j v w ∧ ∀ oj t, l[j]? = some oj → oj.dst = some t → t < a0.tmps.size → a.tmps[t]? = some v)
    (hR : ∀ v w, R g v w → v = .bool b) : Region.wanted o (yielded l.toArray a.tmps) = (b == c) := by
  unfold depsB at hd
  simp only [List.all_cons, List.all_nil, Bool.and_true, Bool.and_eq_true] at hd
  obtain ⟨⟨h1, h2⟩, h3⟩ := hd
  cases hog : l[g]? with
  | none => rw [hog] at h2; cases h2
  | some og =>
    rw [hog] at h2
    obtain ⟨v, hs⟩ := Option.isSome_iff_exists.1 (waits_of hda g h1)
    obtain ⟨hR1, hv⟩ := hj g v (List.getElem?_eq_some_iff.1 hog).1 hs
    have hv' := hv og t hog (by simpa using h2) (by simpa using h3)
    have h2' : og.dst = some t := by simpa using h2
    rw [hR v w hR1] at hv'
    simp [Region.wanted, hg, yielded, hog, h2', hv']

/-- an operation that is not wanted -/
theorem stepOk_skip {k : Nat} {o : Oper} (g : Nat) (t : Tmp) (b : Bool) (hg : o.guard = some (g, !b)) (ho : l[k]? = some o) (hd : depsB l o a0.tmps.size [(g, t)] = true) (hT : ∀ w, T w w) (hS : ∀ σ v w, S σ w → S (upd σ k v) w)
    (hR : ∀ v w, R g v w → v = .bool b) (hk : ∀ w, R k undef w) : StepOk P Q l a0 R S T k o := by
  intro σ a w hdk hda hS1 hj _ _
  have hw : Region.wanted o (yielded l.toArray a.tmps) = false := by
    rw [guard_is (k := k) g t b (!b) hg hd hda hj hR]
    cases b <;> rfl
  unfold Go.wpOp
  simp only [List.getElem?_toArray, ho, hw, Bool.false_eq_true, if_false]
  exact ⟨undef, rfl, hk w, hT w, hS σ _ w hS1⟩

/-- a guarded operation that is wanted, as one without a guard -/
theorem stepOk_guard {k : Nat} {o : Oper} (g : Nat) (t : Tmp) (b : Bool) (hg : o.guard = some (g, b)) (ho : l[k]? = some o) (hd : depsB l o a0.tmps.size [(g, t)] = true)
    (hR : ∀ v w, R g v w → v = .bool b) (deps : List (Nat × Tmp)) (outs : List (Tmp × Value)) (hd' : depsB l o a0.tmps.size deps = true) (hb : outsB l k outs = true)
    (he : (outs.map fun p => a0.tmps[p.1]?) = (outs.map fun p => some p.2))
    (h : ∀ (σ : Nat → Option Value) (a : Act) (w : World), Later l σ k → (∀ j, waitsB o j = true → (σ j).isSome = true) → S σ w →
      Given R w σ a.eval (Known a.eval (Oper.wp P o a w (fun a' w' => ∃ v, a' = a.put o.dst v ∧ R k v w' ∧ T w w' ∧ S (upd σ k v) w') Q) outs) deps) : StepOk P Q l a0 R S T k o := by
  intro σ a w hdk hda hS1 hj hot hcl
  have hw : Region.wanted o (yielded l.toArray a.tmps) = true := by
    rw [guard_is (k := k) g t b b hg hd hda hj hR]
    cases b <;> rfl
  have := known_of hdk hcl hot hb he (given_of (deps := deps) hda hj hd' (h σ a w (later_of hdk hcl) (waits_of hda) hS1))
  unfold Go.wpOp
  simp only [List.getElem?_toArray, ho, hw, if_true]
  exact .inl this
theorem stepOk_pureG {k : Nat} {o : Oper} (g : Nat) (t : Tmp) (b : Bool) (hg : o.guard = some (g, b)) (ho : l[k]? = some o) (hd : depsB l o a0.tmps.size [(g, t)] = true)
    (hR : ∀ v w, R g v w → v = .bool b) (deps : List (Nat × Tmp)) (outs : List (Tmp × Value)) (hd' : depsB l o a0.tmps.size deps = true) (hb : outsB l k outs = true)
    (he : (outs.map fun p => a0.tmps[p.1]?) = (outs.map fun p => some p.2)) (hT : ∀ w, T w w) (hS : ∀ σ v w, S σ w → S (upd σ k v) w)
    (h : ∀ (σ : Nat → Option Value) (E : Operand → Value) (w : World), Later l σ k → (∀ j, waitsB o j = true → (σ j).isSome = true) → S σ w → (∀ v, E (.const v) = v) → (∀ f, E (.func f) = .func (.func f) #[] #[]) →
      Given R w σ E (Known E (∃ v, (execOp E o).run P w = .ok (.value v) w ∧ R k v w) outs) deps) : StepOk P Q l a0 R S T k o := by
  refine stepOk_guard g t b hg ho hd hR deps outs hd' hb he fun σ a w hk hda hS1 => ?_
  have := h σ a.eval w hk hda hS1 (fun _ => rfl) (fun _ => rfl)
  clear hd' he hb
  have hG : (∃ v, (execOp a.eval o).run P w = .ok (.value v) w ∧ R k v w) → Oper.wp P o a w (fun a' w' => ∃ v, a' = a.put o.dst v ∧ R k v w' ∧ T w w' ∧ S (upd σ k v) w') Q := by
    rintro ⟨v, h1, h2⟩
    unfold Oper.wp
    rw [h1]
    exact ⟨v, rfl, h2, hT w, hS σ v w hS1⟩
  have hK : ∀ {G G' : Prop} (f : G → G') {outs : List (Tmp × Value)}, Known a.eval G outs → Known a.eval G' outs := fun {G G'} f {outs} => by
    induction outs with
    | nil => exact f
    | cons p r ih => exact fun h e => ih (h e)
  have hV : ∀ {G G' : Prop} (f : G → G') {deps : List (Nat × Tmp)}, Given R w σ a.eval G deps → Given R w σ a.eval G' deps := fun {G G'} f {deps} => by
    induction deps with
    | nil => exact f
    | cons p r ih => exact fun h v hs hv e => ih (h v hs hv e)
  exact hV (hK hG) this

theorem wpOp_runD {ops : Array Oper} {i : Nat} {o : Oper} {K : Act → World → Prop} {a : Act} {w w' : World} (d : Option Tmp) (u : Value) (hi : ops[i]? = some o) (hd : o.dst = d) (hg : o.guard = none) (hr : (execOp a.eval o).run P w = .ok (.value u) w') (h : K (a.put d u) w') : wpOp P ops Q i K a w := by
  subst hd
  exact wpOp_run u hi hg hr h
/-- a contract at its call: what is behind it -/
theorem wp_call {o : Oper} {K : Act → World → Prop} {a : Act} {w : World} (f : FuncId) (fn : Func) (hf : P.funcs[f]? = some fn) (hn : (fn.name == "runtime.NumGoroutine") = false) (hb : fn.body.isNone = false) (xs : List Operand) (tys : Array TypeId)
    (ho : o.op = .call { callee := .value (.func f), args := xs.toArray, argTypes := tys }) (vals : List Value) (hv : xs.map a.eval = vals) {Rr : Ending → World → Prop} (h : Calls P f vals.toArray w Rr)
    (hR : ∀ e w', Rr e w' → ∃ v, e = .returned v ∧ K (a.put o.dst v) w') : Oper.wp P o a w K Q := by
  unfold Oper.wp execOp
  simp only [ho, resolve, invoke, Sem.run_bind, Sem.run_pure, Result.andThen_ok, List.map_toArray, hv, Act.eval, Deferred.ofValue, Array.append_empty, Array.empty_append, run_callFunc _ hf hn hb]
  refine h.mono fun e w' he => ?_
  obtain ⟨v, rfl, hk⟩ := hR e w' he
  exact hk
end
end Go.Proofs.Ytcbnibldlbnkbaa
