/- A region that draws its order, walked once: an invariant over what is done, instead of one walk for each order. No program. -/
import Derived.Orders
import Derived.Test.YtffahoocbjfdaaaHBs
namespace Go.Proofs.Ytffahoocbjfdaaa
open Go.RowKit
section
variable {P : Program} {Q : Exit → Act → World → Prop}
def upd (σ : Nat → Option Value) (k : Nat) (v : Value) : Nat → Option Value := fun j => if j = k then some v else σ j
def puts (l : List Oper) (σ : Nat → Option Value) (a : Act) : Nat → Act
  | 0 => a
  | k + 1 => match σ k, l[k]? with
    | some v, some o => (puts l σ a k).put o.dst v
    | _, _ => puts l σ a k
def dsts (l : List Oper) : List Tmp := l.filterMap (·.dst)
def regOk (l : List Oper) : Bool := nodupB (dsts l) && (List.range l.length).all fun i => match l[i]? with
    | some o => o.after.all fun e => !Region.binds .any e || decide (e.on < i)
    | none => true
where nodupB : List Nat → Bool
  | [] => true
  | x :: l => !l.contains x && nodupB l
theorem nodupB_spec : ∀ {l : List Nat}, regOk.nodupB l = true → l.Nodup
  | [], _ => List.nodup_nil
  | x :: l, h => by
    simp only [regOk.nodupB, Bool.and_eq_true, Bool.not_eq_true', List.contains_eq_mem, decide_eq_false_iff_not] at h
    exact List.nodup_cons.2 ⟨h.1, nodupB_spec h.2⟩
theorem dsts_ne : ∀ {l : List Oper}, (dsts l).Nodup → ∀ {i j : Nat} {oi oj : Oper}, l[i]? = some oi → l[j]? = some oj → i ≠ j → ∀ d, oi.dst = some d → oj.dst ≠ some d
  | [], _, i, j, oi, oj, hi, _, _ => by simp at hi
  | o :: l, hn, i, j, oi, oj, hi, hj, hne => by
    intro d h1 h2
    have hl : (dsts l).Nodup := by
      unfold dsts at hn ⊢
      cases h : o.dst with
      | none => simpa [List.filterMap_cons, h] using hn
      | some x => simp only [List.filterMap_cons, h] at hn; exact (List.nodup_cons.1 hn).2
    have hmem : ∀ {k : Nat} {ok : Oper}, l[k]? = some ok → ok.dst = some d → d ∈ dsts l := fun {k ok} hk hd =>
      List.mem_filterMap.2 ⟨ok, List.mem_of_getElem? hk, hd⟩
    have hhead : o.dst = some d → d ∈ dsts l → False := fun h hm => by
      have hn' : (d :: dsts l).Nodup := by unfold dsts at hn ⊢; simpa only [List.filterMap_cons, h] using hn
      exact (List.nodup_cons.1 hn').1 hm
    cases i with
    | zero =>
      cases j with
      | zero => exact hne rfl
      | succ j => simp at hi hj; subst hi; exact hhead h1 (hmem hj h2)
    | succ i =>
      cases j with
      | zero => simp at hi hj; subst hj; exact hhead h2 (hmem hi h1)
      | succ j => simp at hi hj; exact dsts_ne hl hi hj (by omega) d h1 h2
variable {l : List Oper} {σ : Nat → Option Value} {a : Act}
theorem puts_upd_ge {i : Nat} {v : Value} : ∀ {k : Nat}, k ≤ i → puts l (upd σ i v) a k = puts l σ a k
  | 0, _ => rfl
  | k + 1, h => by
    have : upd σ i v k = σ k := by unfold upd; rw [if_neg (by omega)]
    simp only [puts, this, puts_upd_ge (show k ≤ i by omega)]
theorem puts_upd {i : Nat} {v : Value} {o : Oper} (hn : (dsts l).Nodup) (hi : l[i]? = some o) (hs : σ i = none) : ∀ {k : Nat}, i < k → puts l (upd σ i v) a k = (puts l σ a k).put o.dst v
  | k + 1, h => by
    by_cases hk : i = k
    · subst hk
      have : upd σ i v i = some v := by simp [upd]
      simp only [puts, this, hi, hs, puts_upd_ge (Nat.le_refl i)]
    · have : upd σ i v k = σ k := by unfold upd; rw [if_neg (by omega)]
      have ih := puts_upd (v := v) hn hi hs (show i < k by omega)
      simp only [puts, this, ih]
      cases h1 : σ k with
      | none => rfl
      | some u =>
        cases h2 : l[k]? with
        | none => rfl
        | some ok => exact Act.put_comm _ _ _ (fun d hd => dsts_ne hn hi h2 hk d hd)
theorem puts_size : ∀ {k : Nat}, (puts l σ a k).tmps.size = a.tmps.size
  | 0 => rfl
  | k + 1 => by
    unfold puts
    split
    · rename_i v o _ _
      cases h : o.dst <;> simp [Act.put, puts_size (k := k)]
    · exact puts_size (k := k)
theorem puts_at {j : Nat} {v : Value} {o : Oper} {d : Tmp} (hn : (dsts l).Nodup) (hj : l[j]? = some o) (hd : o.dst = some d) (hs : σ j = some v) (hlt : d < a.tmps.size) :
    ∀ {k : Nat}, j < k → (puts l σ a k).tmps[d]? = some v
  | k + 1, h => by
    by_cases hk : j = k
    · subst hk
      have : d < (puts l σ a j).tmps.size := by rw [puts_size]; exact hlt
      simp [puts, hs, hj, hd, Act.put, Array.getElem?_setIfInBounds, this]
    · have ih := puts_at hn hj hd hs hlt (show j < k by omega)
      unfold puts
      split
      · rename_i u ok _ h2
        cases h3 : ok.dst with
        | none => exact ih
        | some e =>
          have hne : d ≠ e := fun e' => dsts_ne hn hj h2 hk d hd (by rw [h3, e'])
          simp only [Act.put]
          rw [Array.getElem?_setIfInBounds_ne (Ne.symm hne)]
          exact ih
      · exact ih
theorem puts_other {d : Tmp} (hd : ∀ j o, l[j]? = some o → o.dst = some d → σ j = none) : ∀ {k : Nat}, (puts l σ a k).tmps[d]? = a.tmps[d]?
  | 0 => rfl
  | k + 1 => by
    unfold puts
    split
    · rename_i u ok h1 h2
      cases h3 : ok.dst with
      | none => exact puts_other hd (k := k)
      | some e =>
        have hne : e ≠ d := fun e' => by
          have := hd k ok h2 (by rw [h3, e'])
          rw [h1] at this
          cases this
        simp only [Act.put]
        rw [Array.getElem?_setIfInBounds_ne hne]
        exact puts_other hd (k := k)
    · exact puts_other hd (k := k)
theorem countP_less {p p' : Nat → Bool} (hle : ∀ x, p' x = true → p x = true) {i : Nat} (h1 : p i = true) (h2 : p' i = false) : ∀ {l : List Nat}, i ∈ l → l.countP p' < l.countP p
  | x :: l, h => by
    have hmono : l.countP p' ≤ l.countP p := List.countP_mono_left (fun x _ hx => hle x hx)
    by_cases hx : x = i
    · subst hx; simp [List.countP_cons, h1, h2]; omega
    · have := countP_less hle h1 h2 (show i ∈ l by simpa [Ne.symm hx] using h)
      have hxx := hle x
      simp only [List.countP_cons]
      cases hp : p' x <;> cases hq : p x <;> simp_all <;> omega
theorem region_inv_go (hok : regOk l = true) (I : (Nat → Option Value) → World → Prop)
    (hstep : ∀ σ k o w, l[k]? = some o → σ k = none → (∀ e ∈ o.after, Region.binds .any e = true → (σ e.on).isSome = true) → I σ w →
      wpOp P l.toArray Q k (fun a' w' => ∃ v, a' = (puts l σ a l.length).put o.dst v ∧ I (upd σ k v) w') (puts l σ a l.length) w)
    (hend : ∀ σ w, (∀ k, k < l.length → (σ k).isSome = true) → I σ w → Q .normal (puts l σ a l.length) w) :
    ∀ (fuel : Nat) (listed : Array Bool) (σ : Nat → Option Value) (w : World), listed.size = l.length → (∀ k, k < l.length → listed[k]? = some (σ k).isSome) →
      (List.range l.length).countP (fun k => (σ k).isNone) ≤ fuel → I σ w → wpAny P .any l.toArray Q fuel listed (puts l σ a l.length) w := by
  simp only [regOk, Bool.and_eq_true, List.all_eq_true, List.mem_range] at hok
  have hn := nodupB_spec hok.1
  have hready : ∀ (listed : Array Bool) (σ : Nat → Option Value), listed.size = l.length → (∀ k, k < l.length → listed[k]? = some (σ k).isSome) →
      ∀ i, i ∈ Region.ready .any l.toArray listed ↔ i < l.length ∧ σ i = none ∧ ∃ o, l[i]? = some o ∧ ∀ e ∈ o.after, Region.binds .any e = true → (σ e.on).isSome = true := by
    intro listed σ hsz hls i
    have hg : ∀ k, listed.getD k false = true ↔ k < l.length ∧ (σ k).isSome = true := fun k => by
      rw [Array.getD_eq_getD_getElem?]
      by_cases hk : k < l.length
      · rw [hls k hk]; simp [hk]
      · rw [Array.getElem?_eq_none (by omega)]; simp [hk]
    unfold Region.ready
    simp only [List.size_toArray, List.mem_filter, List.mem_range, Bool.and_eq_true, Bool.not_eq_true', List.getElem?_toArray]
    constructor
    · rintro ⟨hi, h1, h2⟩
      have hl := hls i hi
      rw [Array.getD_eq_getD_getElem?, hl] at h1
      refine ⟨hi, by simpa using h1, l[i], List.getElem?_eq_getElem hi, fun e he hb => ?_⟩
      rw [List.getElem?_eq_getElem hi] at h2
      simp only [Option.map_some, Option.getD_some, Array.all_eq_true'] at h2
      have h3 := h2 e he
      simp only [hb, Bool.not_true, Bool.false_or] at h3
      exact ((hg e.on).1 h3).2
    · rintro ⟨hi, h1, o, ho, h2⟩
      refine ⟨hi, ?_, ?_⟩
      · rw [Array.getD_eq_getD_getElem?, hls i hi, h1]; rfl
      · rw [ho]
        simp only [Option.map_some, Option.getD_some, Array.all_eq_true']
        intro e he
        cases hb : Region.binds .any e with
        | false => rfl
        | true =>
          have hlt : e.on < i := by
            have := hok.2 i hi
            simp only [ho, Array.all_eq_true'] at this
            simpa [hb] using this e he
          simp only [Bool.not_true, Bool.false_or]
          exact (hg e.on).2 ⟨by omega, h2 e he hb⟩
  have hdone : ∀ (listed : Array Bool) (σ : Nat → Option Value), listed.size = l.length → (∀ k, k < l.length → listed[k]? = some (σ k).isSome) →
      Region.ready .any l.toArray listed = [] → ∀ k, k < l.length → (σ k).isSome = true := by
    intro listed σ hsz hls hr k
    induction k using Nat.strongRecOn with
    | _ k ih =>
      intro hk
      cases hs : σ k with
      | some v => rfl
      | none =>
        have : k ∈ Region.ready .any l.toArray listed := (hready listed σ hsz hls k).2 ⟨hk, hs, l[k], List.getElem?_eq_getElem hk, fun e he hb => by
          have hlt : e.on < k := by
            have := hok.2 k hk
            simp only [List.getElem?_eq_getElem hk, Array.all_eq_true'] at this
            simpa [hb] using this e he
          exact ih e.on hlt (by omega)⟩
        rw [hr] at this
        simp at this
  intro fuel
  induction fuel with
  | zero =>
    intro listed σ w hsz hls hc hI
    have hall : ∀ k, k < l.length → (σ k).isSome = true := fun k hk => by
      cases hs : σ k with
      | some v => rfl
      | none =>
        have : 0 < (List.range l.length).countP (fun k => (σ k).isNone) := List.countP_pos_iff.2 ⟨k, List.mem_range.2 hk, by simp [hs]⟩
        omega
    refine ⟨?_, hend σ w hall hI⟩
    refine List.eq_nil_iff_forall_not_mem.2 fun i hi => ?_
    obtain ⟨h1, h2, -⟩ := (hready listed σ hsz hls i).1 hi
    have := hall i h1
    rw [h2] at this
    simp at this
  | succ fuel ih =>
    intro listed σ w hsz hls hc hI
    refine ⟨fun hr => hend σ w (hdone listed σ hsz hls hr) hI, fun i hi => ?_⟩
    obtain ⟨hilt, hsi, o, ho, hdeps⟩ := (hready listed σ hsz hls i).1 hi
    refine wpOp_mono ?_ (hstep σ i o w ho hsi hdeps hI)
    rintro a' w' ⟨v, rfl, hI'⟩
    rw [← puts_upd (v := v) hn ho hsi hilt]
    refine ih _ (upd σ i v) w' (by simp [hsz]) (fun k hk => ?_) ?_ hI'
    · by_cases hki : k = i
      · subst hki
        rw [Array.getElem?_setIfInBounds]
        simp [upd, hsz, hk]
      · rw [Array.getElem?_setIfInBounds_ne (Ne.symm hki), hls k hk]
        simp [upd, hki]
    · have := countP_less (p := fun k => (σ k).isNone) (p' := fun k => (upd σ i v k).isNone) (fun x hx => by
        unfold upd at hx
        split at hx
        · simp at hx
        · exact hx) (i := i) (by simp [hsi]) (by simp [upd]) (List.mem_range.2 hilt)
      omega
theorem region_inv {id : Nat} {w : World} (hm : P.follows .mixedOrders = true) (hok : regOk l = true) (I : (Nat → Option Value) → World → Prop)
    (h0 : I (fun _ => none) w.drew)
    (hstep : ∀ σ k o w, l[k]? = some o → σ k = none → (∀ e ∈ o.after, Region.binds .any e = true → (σ e.on).isSome = true) → I σ w →
      wpOp P l.toArray Q k (fun a' w' => ∃ v, a' = (puts l σ a l.length).put o.dst v ∧ I (upd σ k v) w') (puts l σ a l.length) w)
    (hend : ∀ σ w, (∀ k, k < l.length → (σ k).isSome = true) → I σ w → Q .normal (puts l σ a l.length) w) :
    (Code.region id l.toArray true).wp P Q a w := by
  refine wp_region_any hm ?_
  have hp : ∀ k, puts l (fun _ => none) a k = a := fun k => by
    induction k with
    | zero => rfl
    | succ k ih => unfold puts; exact ih
  have := region_inv_go (P := P) (Q := Q) (a := a) hok I hstep hend l.length (Array.replicate l.length false) (fun _ => none) w.drew (by simp) (fun k hk => by simp [hk]) (by
    simp) h0
  rw [hp] at this
  simpa using this
def StepOk (P : Program) (Q : Exit → Act → World → Prop) (l : List Oper) (a0 : Act) (R : Nat → Value → World → Prop) (S : (Nat → Option Value) → World → Prop) (T : World → World → Prop) (k : Nat) (o : Oper) : Prop :=
  ∀ (σ : Nat → Option Value) (a : Act) (w : World), σ k = none → (∀ e ∈ o.after, Region.binds .any e = true → (σ e.on).isSome = true) → S σ w →
    (∀ j v, j < l.length → σ j = some v → R j v w ∧ ∀ oj t, l[j]? = some oj → oj.dst = some t → t < a0.tmps.size → a.tmps[t]? = some v) →
    (∀ t, (∀ j oj, l[j]? = some oj → oj.dst = some t → σ j = none) → a.tmps[t]? = a0.tmps[t]?) → (∀ j oj, l[j]? = some oj → (σ j).isSome = true → ∀ e ∈ oj.after, Region.binds .any e = true → (σ e.on).isSome = true) →
    wpOp P l.toArray Q k (fun a' w' => ∃ v, a' = a.put o.dst v ∧ R k v w' ∧ T w w' ∧ S (upd σ k v) w') a w
def StepsOk (Φ : Nat → Oper → Prop) : Nat → List Oper → Prop
  | _, [] => True
  | k, o :: l => Φ k o ∧ StepsOk Φ (k + 1) l
theorem StepsOk.nil {Φ : Nat → Oper → Prop} {k : Nat} : StepsOk Φ k [] := trivial
theorem StepsOk.cons {Φ : Nat → Oper → Prop} {k : Nat} {o : Oper} {l : List Oper} (h : Φ k o) (h' : StepsOk Φ (k + 1) l) : StepsOk Φ k (o :: l) := ⟨h, h'⟩
theorem StepsOk.at_ {Φ : Nat → Oper → Prop} {l : List Oper} : ∀ {k : Nat}, StepsOk Φ k l → ∀ {i : Nat} {o : Oper}, l[i]? = some o → Φ (k + i) o := by
  induction l with
  | nil => intro k _ i o hi; simp at hi
  | cons x l ih =>
    intro k h i o hi
    cases i with
    | zero => simp only [List.getElem?_cons_zero, Option.some.injEq] at hi; subst hi; exact h.1
    | succ i =>
      simp only [List.getElem?_cons_succ] at hi
      have := ih h.2 hi
      rwa [show k + (i + 1) = k + 1 + i by omega]
def Ends (R : Nat → Value → World → Prop) (w : World) (σ : Nat → Option Value) (G : Act → Prop) : Nat → List Oper → Act → Prop
  | _, [], a => G a
  | k, o :: l, a => ∀ v, σ k = some v → R k v w → Ends R w σ G (k + 1) l (a.put o.dst v)
theorem Ends.nil {R : Nat → Value → World → Prop} {w : World} {G : Act → Prop} {k : Nat} {a : Act} (h : G a) : Ends R w σ G k [] a := h
theorem Ends.eqv {R : Nat → Value → World → Prop} {w : World} {G : Act → Prop} {k : Nat} {o : Oper} {l : List Oper} {a : Act} (d : Option Tmp) (x : Value) (hd : o.dst = d) (hR : ∀ v, R k v w → v = x) (h : Ends R w σ G (k + 1) l (a.put d x)) : Ends R w σ G k (o :: l) a := by
  subst hd
  intro v _ hv
  rw [hR v hv]
  exact h
theorem Ends.ex {R : Nat → Value → World → Prop} {w : World} {G : Act → Prop} {k : Nat} {o : Oper} {l : List Oper} {a : Act} (d : Option Tmp) (hd : o.dst = d) (h : ∀ v, σ k = some v → R k v w → Ends R w σ G (k + 1) l (a.put d v)) : Ends R w σ G k (o :: l) a := by
  subst hd
  exact h
theorem ends_puts {R : Nat → Value → World → Prop} {w : World} {G : Act → Prop} {σ : Nat → Option Value} {a : Act} : ∀ (rest : List Oper) (pre : List Oper), Ends R w σ G pre.length rest (puts (pre ++ rest) σ a pre.length) →
    (∀ k, k < (pre ++ rest).length → ∃ v, σ k = some v ∧ R k v w) → G (puts (pre ++ rest) σ a (pre ++ rest).length)
  | [], pre, h, _ => by simp only [List.append_nil] at h ⊢; exact h
  | o :: rest, pre, h, hs => by
    obtain ⟨v, hv, hR⟩ := hs pre.length (by simp)
    have h' := h v hv hR
    have he : puts (pre ++ o :: rest) σ a (pre.length + 1) = (puts (pre ++ o :: rest) σ a pre.length).put o.dst v := by
      simp [puts, hv]
    rw [← he] at h'
    have e1 : pre ++ o :: rest = (pre ++ [o]) ++ rest := by simp
    have e2 : pre.length + 1 = (pre ++ [o]).length := by simp
    rw [e2, e1] at h'
    have := ends_puts rest (pre ++ [o]) h' (by rw [← e1]; exact hs)
    rw [← e1] at this
    exact this
theorem region_steps {id : Nat} {w : World} (R : Nat → Value → World → Prop) (S : (Nat → Option Value) → World → Prop) (T : World → World → Prop) (hm : P.follows .mixedOrders = true) (hok : regOk l = true)
    (hfit : (dsts l).all (fun t => decide (t < a.tmps.size)) = true)
    (stab : ∀ j v w w', T w w' → R j v w → R j v w') (h0 : S (fun _ => none) w.drew)
    (steps : StepsOk (StepOk P Q l a R S T) 0 l)
    (ends : ∀ σ w', S σ w' → (∀ k, k < l.length → (σ k).isSome = true) → Ends R w' σ (fun a' => Q .normal a' w') 0 l a) :
    (Code.region id l.toArray true).wp P Q a w := by
  have hn : (dsts l).Nodup := by
    have h := hok
    simp only [regOk, Bool.and_eq_true] at h
    exact nodupB_spec h.1
  refine region_inv hm hok (fun σ w' => S σ w' ∧ (∀ j v, σ j = some v → R j v w') ∧ (∀ j oj, l[j]? = some oj → (σ j).isSome = true → ∀ e ∈ oj.after, Region.binds .any e = true → (σ e.on).isSome = true)) ⟨h0, (fun j v h => by cases h), fun j oj _ h => by simp at h⟩ ?_ ?_
  · rintro σ k o w' hk hs hd ⟨hS1, hR, hcl⟩
    have hst := steps.at_ hk
    rw [Nat.zero_add] at hst
    have := hst σ (puts l σ a l.length) w' hs hd hS1 (fun j v hj hv => ⟨hR j v hv, fun oj t hj' ht hlt => puts_at hn hj' ht hv hlt hj⟩) (fun t ht => puts_other fun j oj hj hd => ht j oj hj hd) hcl
    refine wpOp_mono ?_ this
    rintro a' w'' ⟨v, rfl, hRk, hT, hS2⟩
    refine ⟨v, rfl, hS2, ?_, ?_⟩
    · intro j u hj
      unfold upd at hj
      split at hj
      · rename_i e; subst e; cases hj; exact hRk
      · exact stab j u w' w'' hT (hR j u hj)
    · intro j oj hj hsj e he hb
      have hon : (σ e.on).isSome = true := by
        unfold upd at hsj
        split at hsj
        · rename_i h
          subst h
          rw [hk] at hj
          cases hj
          exact hd e he hb
        · exact hcl j oj hj hsj e he hb
      unfold upd
      split
      · rfl
      · exact hon
  · rintro σ w' hall ⟨hS1, hR, -⟩
    refine ends_puts (G := fun a' => Q .normal a' w') l [] (ends σ w' hS1 hall) (fun k hk => ?_)
    cases hv : σ k with
    | none => have := hall k hk; rw [hv] at this; simp at this
    | some v => exact ⟨v, rfl, hR k v hv⟩
end
end Go.Proofs.Ytffahoocbjfdaaa
namespace Go.Proofs.Ytffahoocbjfdaaa
open Go.RowKit
theorem put_lit (l : List Value) (ds : List Deferred) (d : Tmp) (v : Value) : ({ tmps := l.toArray, defers := ds } : Act).put (some d) v = { tmps := (l.set d v).toArray, defers := ds } := by simp [Act.put]
theorem put_none (a : Act) (v : Value) : a.put none v = a := rfl
def eqv (x : Value) : Value → World → Prop := fun v _ => v = x
def pick : List (Value → World → Prop) → Nat → Value → World → Prop
  | [], _ => fun _ _ => True
  | r :: _, 0 => r
  | _ :: l, j + 1 => pick l j
def Stab (T : World → World → Prop) (Rs : List (Value → World → Prop)) : Prop := ∀ r ∈ Rs, ∀ v w w', T w w' → r v w → r v w'
theorem Stab.nil {T : World → World → Prop} : Stab T [] := fun _ h => by cases h
theorem Stab.cons {T : World → World → Prop} {r : Value → World → Prop} {l : List (Value → World → Prop)} (h : ∀ v w w', T w w' → r v w → r v w') (k : Stab T l) : Stab T (r :: l) := fun s hs => by
  rcases List.mem_cons.1 hs with rfl | hs
  · exact h
  · exact k s hs
theorem Stab.eqv {T : World → World → Prop} {x : Value} {l : List (Value → World → Prop)} (k : Stab T l) : Stab T (eqv x :: l) := k.cons fun _ _ _ _ h => h
theorem Stab.pick {T : World → World → Prop} : ∀ {Rs : List (Value → World → Prop)}, Stab T Rs → ∀ j v w w', T w w' → pick Rs j v w → pick Rs j v w'
  | [], _, _, _, _, _, _, h => h
  | r :: l, k, 0, v, w, w', ht, h => k r (by simp) v w w' ht h
  | r :: l, k, j + 1, v, w, w', ht, h => Stab.pick (Rs := l) (fun s hs => k s (by simp [hs])) j v w w' ht h
def Given (R : Nat → Value → World → Prop) (w : World) (σ : Nat → Option Value) (E : Operand → Value) (G : Prop) : List (Nat × Tmp) → Prop
  | [] => G
  | (j, t) :: r => ∀ v, σ j = some v → R j v w → E (.tmp t) = v → Given R w σ E G r
def Known (E : Operand → Value) (G : Prop) : List (Tmp × Value) → Prop
  | [] => G
  | (t, v) :: r => E (.tmp t) = v → Known E G r
theorem Given.nil {R : Nat → Value → World → Prop} {w : World} {σ : Nat → Option Value} {E : Operand → Value} {G : Prop} (h : G) : Given R w σ E G [] := h
theorem Known.nil {E : Operand → Value} {G : Prop} (h : G) : Known E G [] := h
def waitsB (o : Oper) (j : Nat) : Bool := o.after.any fun e => Region.binds .any e && e.on == j
def depsB (l : List Oper) (o : Oper) (n : Nat) (deps : List (Nat × Tmp)) : Bool := deps.all fun p => waitsB o p.1 && (match l[p.1]? with
  | some oj => oj.dst == some p.2
  | none => false) && decide (p.2 < n)
def below (l : List Oper) (k : Nat) : List Nat := go l 0 []
where go : List Oper → Nat → List Nat → List Nat
  | [], _, acc => acc
  | o :: l, i, acc => go l (i + 1) (if i == k || (o.after.any fun e => Region.binds .any e && acc.contains e.on) then i :: acc else acc)
def outsB (l : List Oper) (k : Nat) (outs : List (Tmp × Value)) : Bool := outs.all fun p => (List.range l.length).all fun i => match l[i]? with
  | some o => o.dst != some p.1 || (below l k).contains i
  | none => true
section
variable {P : Program} {Q : Exit → Act → World → Prop} {l : List Oper} {a0 : Act} {R : Nat → Value → World → Prop} {S : (Nat → Option Value) → World → Prop} {T : World → World → Prop}
theorem given_of {w : World} {a : Act} {o : Oper} {σ : Nat → Option Value} (hd : ∀ e ∈ o.after, Region.binds .any e = true → (σ e.on).isSome = true)
    (hj : ∀ j v, j < l.length → σ j = some v → R j v w ∧ ∀ oj t, l[j]? = some oj → oj.dst = some t → t < a0.tmps.size → a.tmps[t]? = some v) {G : Prop} :
    ∀ {deps : List (Nat × Tmp)}, depsB l o a0.tmps.size deps = true → Given R w σ a.eval G deps → G
  | [], _, h => h
  | (j, t) :: r, hb, h => by
    unfold depsB at hb
    simp only [List.all_cons, Bool.and_eq_true] at hb
    obtain ⟨⟨⟨h1, h2⟩, h3⟩, hr⟩ := hb
    cases ho : l[j]? with
    | none => rw [ho] at h2; cases h2
    | some oj =>
      rw [ho] at h2
      have hlt : j < l.length := (List.getElem?_eq_some_iff.1 ho).1
      unfold waitsB at h1
      rw [Array.any_eq_true'] at h1
      obtain ⟨e, he, hb⟩ := h1
      simp only [Bool.and_eq_true, beq_iff_eq] at hb
      have hdj : (σ j).isSome = true := hb.2 ▸ hd e he hb.1
      obtain ⟨v, hs⟩ := Option.isSome_iff_exists.1 hdj
      obtain ⟨hR, hv⟩ := hj j v hlt hs
      have hv' := hv oj t ho (by simpa using h2) (by simpa using h3)
      refine given_of hd hj (deps := r) (by unfold depsB; exact hr) (h v hs hR ?_)
      simp [Act.eval, Array.getD_eq_getD_getElem?, hv']
theorem below_go {l0 : List Oper} {k : Nat} {σ : Nat → Option Value} (hcl : ∀ j oj, l0[j]? = some oj → (σ j).isSome = true → ∀ e ∈ oj.after, Region.binds .any e = true → (σ e.on).isSome = true) (hk : σ k = none) :
    ∀ (l : List Oper) (i : Nat) (acc : List Nat), (∀ j, l[j]? = l0[i + j]?) → (∀ x ∈ acc, σ x = none) → ∀ x ∈ below.go k l i acc, σ x = none
  | [], _, _, _, h => h
  | o :: l, i, acc, hl, h => by
    unfold below.go
    refine below_go hcl hk l (i + 1) _ (fun j => ?_) (fun x hx => ?_)
    · have := hl (j + 1)
      rw [List.getElem?_cons_succ] at this
      rw [this, show i + (j + 1) = i + 1 + j by omega]
    · split at hx
      · rename_i hc
        rcases List.mem_cons.1 hx with rfl | hx
        · cases hd : σ x with
          | none => rfl
          | some v =>
            simp only [Bool.or_eq_true, beq_iff_eq] at hc
            rcases hc with rfl | hc
            · rw [hk] at hd; cases hd
            · rw [Array.any_eq_true'] at hc
              obtain ⟨e, he, hb⟩ := hc
              simp only [Bool.and_eq_true, List.contains_eq_mem, decide_eq_true_eq] at hb
              have h0 := hl 0
              rw [List.getElem?_cons_zero, Nat.add_zero] at h0
              have h1 := hcl x o h0.symm (by rw [hd]; rfl) e he hb.1
              rw [h _ hb.2] at h1
              cases h1
        · exact h x hx
      · exact h x hx
theorem known_of {a : Act} {k : Nat} {σ : Nat → Option Value} (hk : σ k = none) (hcl : ∀ j oj, l[j]? = some oj → (σ j).isSome = true → ∀ e ∈ oj.after, Region.binds .any e = true → (σ e.on).isSome = true)
    (ho : ∀ t, (∀ j oj, l[j]? = some oj → oj.dst = some t → σ j = none) → a.tmps[t]? = a0.tmps[t]?) {G : Prop} :
    ∀ {outs : List (Tmp × Value)}, outsB l k outs = true → (outs.map fun p => a0.tmps[p.1]?) = (outs.map fun p => some p.2) → Known a.eval G outs → G
  | [], _, _, h => h
  | (t, v) :: r, hb, he, h => by
    unfold outsB at hb
    rw [List.all_cons, Bool.and_eq_true] at hb
    simp only [List.map_cons, List.cons.injEq] at he
    refine known_of hk hcl ho (outs := r) (by unfold outsB; exact hb.2) he.2 (h ?_)
    have := ho t (fun j oj hj hd => by
      have h1 := List.all_eq_true.1 hb.1 j (List.mem_range.2 (List.getElem?_eq_some_iff.1 hj).1)
      simp only [hj, hd, bne_self_eq_false, Bool.false_or, List.contains_eq_mem, decide_eq_true_eq] at h1
      exact below_go hcl hk l 0 [] (fun j => by rw [Nat.zero_add]) (fun _ h => by cases h) j h1)
    simp [Act.eval, Array.getD_eq_getD_getElem?, this, he.1]
abbrev Later (l : List Oper) (σ : Nat → Option Value) (k : Nat) : Prop := ∀ i, (below l k).contains i = true → σ i = none
theorem later_of {k : Nat} {σ : Nat → Option Value} (hk : σ k = none) (hcl : ∀ j oj, l[j]? = some oj → (σ j).isSome = true → ∀ e ∈ oj.after, Region.binds .any e = true → (σ e.on).isSome = true) : Later l σ k := fun i hi =>
  below_go hcl hk l 0 [] (fun j => by rw [Nat.zero_add]) (fun _ h => by cases h) i (by simpa [below] using hi)
theorem waits_of {o : Oper} {σ : Nat → Option Value} (hda : ∀ e ∈ o.after, Region.binds .any e = true → (σ e.on).isSome = true) : ∀ j, waitsB o j = true → (σ j).isSome = true := fun j hj => by
  unfold waitsB at hj
  rw [Array.any_eq_true'] at hj
  obtain ⟨e, he, hb⟩ := hj
  simp only [Bool.and_eq_true, beq_iff_eq] at hb
  exact hb.2 ▸ hda e he hb.1
theorem stepOk_mk {k : Nat} {o : Oper} (deps : List (Nat × Tmp)) (outs : List (Tmp × Value)) (hg : o.guard = none) (ho : l[k]? = some o) (hd : depsB l o a0.tmps.size deps = true) (hb : outsB l k outs = true)
    (he : (outs.map fun p => a0.tmps[p.1]?) = (outs.map fun p => some p.2))
    (h : ∀ (σ : Nat → Option Value) (a : Act) (w : World), Later l σ k → (∀ j, waitsB o j = true → (σ j).isSome = true) → S σ w →
      Given R w σ a.eval (Known a.eval (Oper.wp P o a w (fun a' w' => ∃ v, a' = a.put o.dst v ∧ R k v w' ∧ T w w' ∧ S (upd σ k v) w') Q) outs) deps) : StepOk P Q l a0 R S T k o := by
  intro σ a w hk hda hS hj hot hcl
  exact wpOp_mk (by simpa using ho) hg (known_of hk hcl hot hb he (given_of (deps := deps) hda hj hd (h σ a w (later_of hk hcl) (waits_of hda) hS)))
theorem stepOk_pure {k : Nat} {o : Oper} (deps : List (Nat × Tmp)) (outs : List (Tmp × Value)) (hg : o.guard = none) (ho : l[k]? = some o) (hd : depsB l o a0.tmps.size deps = true) (hb : outsB l k outs = true)
    (he : (outs.map fun p => a0.tmps[p.1]?) = (outs.map fun p => some p.2)) (hT : ∀ w, T w w) (hS : ∀ σ v w, S σ w → S (upd σ k v) w)
    (h : ∀ (σ : Nat → Option Value) (E : Operand → Value) (w : World), Later l σ k → (∀ j, waitsB o j = true → (σ j).isSome = true) → S σ w → (∀ v, E (.const v) = v) → (∀ f, E (.func f) = .func (.func f) #[] #[]) →
      Given R w σ E (Known E (∃ v, (execOp E o).run P w = .ok (.value v) w ∧ R k v w) outs) deps) : StepOk P Q l a0 R S T k o := by
  intro σ a w hk hda hS1 hj hot hcl
  obtain ⟨v, h1, h2⟩ := known_of hk hcl hot hb he (given_of (deps := deps) hda hj hd (h σ a.eval w (later_of hk hcl) (waits_of hda) hS1 (fun _ => rfl) (fun _ => rfl)))
  exact wpOp_run v (by simpa using ho) hg h1 ⟨v, rfl, h2, hT w, hS σ v w hS1⟩
theorem stepOk_store {k : Nat} {o : Oper} (deps : List (Nat × Tmp)) (outs : List (Tmp × Value)) (hg : o.guard = none) (ho : l[k]? = some o) (hd : depsB l o a0.tmps.size deps = true) (hb : outsB l k outs = true)
    (he : (outs.map fun p => a0.tmps[p.1]?) = (outs.map fun p => some p.2))
    (h : ∀ (σ : Nat → Option Value) (E : Operand → Value) (w : World), Later l σ k → (∀ j, waitsB o j = true → (σ j).isSome = true) → S σ w → (∀ v, E (.const v) = v) → (∀ f, E (.func f) = .func (.func f) #[] #[]) →
      Given R w σ E (Known E (∃ w', (execOp E o).run P w = .ok .skip w' ∧ R k undef w' ∧ T w w' ∧ S (upd σ k undef) w') outs) deps) : StepOk P Q l a0 R S T k o := by
  intro σ a w hk hda hS1 hj hot hcl
  obtain ⟨w', h1, h2, h3, h4⟩ := known_of hk hcl hot hb he (given_of (deps := deps) hda hj hd (h σ a.eval w (later_of hk hcl) (waits_of hda) hS1 (fun _ => rfl) (fun _ => rfl)))
  exact wpOp_mk (by simpa using ho) hg (by unfold Oper.wp; rw [h1]; exact ⟨undef, rfl, h2, h3, h4⟩)
theorem guard_is {k : Nat} {o : Oper} {a : Act} {w : World} {σ : Nat → Option Value} (g : Nat) (t : Tmp) (b c : Bool) (hg : o.guard = some (g, c)) (hd : depsB l o a0.tmps.size [(g, t)] = true)
    (hda : ∀ e ∈ o.after, Region.binds .any e = true → (σ e.on).isSome = true)
    (hj : ∀ j v, j < l.length → σ j = some v → R j v w ∧ ∀ oj t, l[j]? = some oj → oj.dst = some t → t < a0.tmps.size → a.tmps[t]? = some v)
    (hR : ∀ v w, R g v w → v = .bool b) : Region.wanted o (yielded l.toArray a.tmps) = (b == c) := by
  unfold depsB at hd
  simp only [List.all_cons, List.all_nil, Bool.and_true, Bool.and_eq_true] at hd
  obtain ⟨⟨h1, h2⟩, h3⟩ := hd
  cases hog : l[g]? with
  | none => rw [hog] at h2; cases h2
  | some og =>
    rw [hog] at h2
    obtain ⟨v, hs⟩ := Option.isSome_iff_exists.1 (waits_of hda g h1)
    obtain ⟨hR1, hv⟩ := hj g v (List.getElem?_eq_some_iff.1 hog).1 hs
    have hv' := hv og t hog (by simpa using h2) (by simpa using h3)
    have h2' : og.dst = some t := by simpa using h2
    rw [hR v w hR1] at hv'
    simp [Region.wanted, hg, yielded, hog, h2', hv']
theorem stepOk_skip {k : Nat} {o : Oper} (g : Nat) (t : Tmp) (b : Bool) (hg : o.guard = some (g, !b)) (ho : l[k]? = some o) (hd : depsB l o a0.tmps.size [(g, t)] = true) (hT : ∀ w, T w w) (hS : ∀ σ v w, S σ w → S (upd σ k v) w)
    (hR : ∀ v w, R g v w → v = .bool b) (hk : ∀ w, R k undef w) : StepOk P Q l a0 R S T k o := by
  intro σ a w hdk hda hS1 hj _ _
  have hw : Region.wanted o (yielded l.toArray a.tmps) = false := by
    rw [guard_is (k := k) g t b (!b) hg hd hda hj hR]
    cases b <;> rfl
  unfold Go.wpOp
  simp only [List.getElem?_toArray, ho, hw, Bool.false_eq_true, if_false]
  exact ⟨undef, rfl, hk w, hT w, hS σ _ w hS1⟩
theorem stepOk_guard {k : Nat} {o : Oper} (g : Nat) (t : Tmp) (b : Bool) (hg : o.guard = some (g, b)) (ho : l[k]? = some o) (hd : depsB l o a0.tmps.size [(g, t)] = true)
    (hR : ∀ v w, R g v w → v = .bool b) (deps : List (Nat × Tmp)) (outs : List (Tmp × Value)) (hd' : depsB l o a0.tmps.size deps = true) (hb : outsB l k outs = true)
    (he : (outs.map fun p => a0.tmps[p.1]?) = (outs.map fun p => some p.2))
    (h : ∀ (σ : Nat → Option Value) (a : Act) (w : World), Later l σ k → (∀ j, waitsB o j = true → (σ j).isSome = true) → S σ w →
      Given R w σ a.eval (Known a.eval (Oper.wp P o a w (fun a' w' => ∃ v, a' = a.put o.dst v ∧ R k v w' ∧ T w w' ∧ S (upd σ k v) w') Q) outs) deps) : StepOk P Q l a0 R S T k o := by
  intro σ a w hdk hda hS1 hj hot hcl
  have hw : Region.wanted o (yielded l.toArray a.tmps) = true := by
    rw [guard_is (k := k) g t b b hg hd hda hj hR]
    cases b <;> rfl
  have := known_of hdk hcl hot hb he (given_of (deps := deps) hda hj hd' (h σ a w (later_of hdk hcl) (waits_of hda) hS1))
  unfold Go.wpOp
  simp only [List.getElem?_toArray, ho, hw, if_true]
  exact .inl this
theorem stepOk_pureG {k : Nat} {o : Oper} (g : Nat) (t : Tmp) (b : Bool) (hg : o.guard = some (g, b)) (ho : l[k]? = some o) (hd : depsB l o a0.tmps.size [(g, t)] = true)
    (hR : ∀ v w, R g v w → v = .bool b) (deps : List (Nat × Tmp)) (outs : List (Tmp × Value)) (hd' : depsB l o a0.tmps.size deps = true) (hb : outsB l k outs = true)
    (he : (outs.map fun p => a0.tmps[p.1]?) = (outs.map fun p => some p.2)) (hT : ∀ w, T w w) (hS : ∀ σ v w, S σ w → S (upd σ k v) w)
    (h : ∀ (σ : Nat → Option Value) (E : Operand → Value) (w : World), Later l σ k → (∀ j, waitsB o j = true → (σ j).isSome = true) → S σ w → (∀ v, E (.const v) = v) → (∀ f, E (.func f) = .func (.func f) #[] #[]) →
      Given R w σ E (Known E (∃ v, (execOp E o).run P w = .ok (.value v) w ∧ R k v w) outs) deps) : StepOk P Q l a0 R S T k o := by
  refine stepOk_guard g t b hg ho hd hR deps outs hd' hb he fun σ a w hk hda hS1 => ?_
  have := h σ a.eval w hk hda hS1 (fun _ => rfl) (fun _ => rfl)
  clear hd' he hb
  have hG : (∃ v, (execOp a.eval o).run P w = .ok (.value v) w ∧ R k v w) → Oper.wp P o a w (fun a' w' => ∃ v, a' = a.put o.dst v ∧ R k v w' ∧ T w w' ∧ S (upd σ k v) w') Q := by
    rintro ⟨v, h1, h2⟩
    unfold Oper.wp
    rw [h1]
    exact ⟨v, rfl, h2, hT w, hS σ v w hS1⟩
  have hK : ∀ {G G' : Prop} (f : G → G') {outs : List (Tmp × Value)}, Known a.eval G outs → Known a.eval G' outs := fun {G G'} f {outs} => by
    induction outs with
    | nil => exact f
    | cons p r ih => exact fun h e => ih (h e)
  have hV : ∀ {G G' : Prop} (f : G → G') {deps : List (Nat × Tmp)}, Given R w σ a.eval G deps → Given R w σ a.eval G' deps := fun {G G'} f {deps} => by
    induction deps with
    | nil => exact f
    | cons p r ih => exact fun h v hs hv e => ih (h v hs hv e)
  exact hV (hK hG) this
theorem wpOp_runD {ops : Array Oper} {i : Nat} {o : Oper} {K : Act → World → Prop} {a : Act} {w w' : World} (d : Option Tmp) (u : Value) (hi : ops[i]? = some o) (hd : o.dst = d) (hg : o.guard = none) (hr : (execOp a.eval o).run P w = .ok (.value u) w') (h : K (a.put d u) w') : wpOp P ops Q i K a w := by
  subst hd
  exact wpOp_run u hi hg hr h
theorem wp_call {o : Oper} {K : Act → World → Prop} {a : Act} {w : World} (f : FuncId) (fn : Func) (hf : P.funcs[f]? = some fn) (hn : (fn.name == "runtime.NumGoroutine") = false) (hb : fn.body.isNone = false) (xs : List Operand) (tys : Array TypeId)
    (ho : o.op = .call { callee := .value (.func f), args := xs.toArray, argTypes := tys }) (vals : List Value) (hv : xs.map a.eval = vals) {Rr : Ending → World → Prop} (h : Calls P f vals.toArray w Rr)
    (hR : ∀ e w', Rr e w' → ∃ v, e = .returned v ∧ K (a.put o.dst v) w') : Oper.wp P o a w K Q := by
  unfold Oper.wp execOp
  simp only [ho, resolve, invoke, Sem.run_bind, Sem.run_pure, Result.andThen_ok, List.map_toArray, hv, Act.eval, Deferred.ofValue, Array.append_empty, Array.empty_append, run_callFunc _ hf hn hb]
  refine h.mono fun e w' he => ?_
  obtain ⟨v, rfl, hk⟩ := hR e w' he
  exact hk
end
end Go.Proofs.Ytffahoocbjfdaaa
