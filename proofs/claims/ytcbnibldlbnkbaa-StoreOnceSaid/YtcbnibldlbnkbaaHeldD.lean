/- A region that draws its order: the steps of XHeldZ with the slots named, so that the frame stays small. No program. -/
import Derived.Test.YtcbnibldlbnkbaaHeldZ
namespace Go.Proofs.Ytcbnibldlbnkbaa
open Go.RowKit

section
variable {P : Program} {md : Region.Mode} {ops : Array Oper} {Q : Exit → Act → World → Prop} {S : World → Prop} {Z : Nat → Bool}

theorem wpAnyZ_pureD (i : Nat) {oi : Oper} (d : Option Nat) (v : Value) {fuel : Nat} {listed : Array Bool} {a : Act} {w : World} (hi : ops[i]? = some oi) (hd : oi.dst = d)
    (hs : Region.noSelect ops = true) (hf : Region.free md ops listed i = true) (hr : (Region.ready md ops listed).contains i = true)
    (hQ : ∀ c a w, Q (.panic c) (a.put d v) w → Q (.panic c) a w) (hy : YieldsIf P ops (fun _ => True) oi v a)
    (h : wpAnyZ P md ops Q S Z fuel (listed.setIfInBounds i true) (a.put d v) w) : wpAnyZ P md ops Q S Z (fuel + 1) listed a w := by
  subst hd
  exact wpAnyZ_pure i v hi hs hf hr hQ hy h
theorem wpAnyZ_takeD {zs : List Nat} (i : Nat) {oi : Oper} (d : Option Nat) (v : Value) {fuel : Nat} {listed : Array Bool} {a : Act} {w : World} (hi : ops[i]? = some oi) (hd : oi.dst = d)
    (hs : Region.noSelect ops = true) (hf : Region.free md ops listed i = true) (hr : (Region.ready md ops listed).contains i = true) (hz : waitsAll md ops zs i = true)
    (hQ : ∀ c a w, Q (.panic c) (a.put d v) w → Q (.panic c) a w) (hy : YieldsIf P ops S oi v a) (hS : S w)
    (h : wpAnyZ P md ops Q S zs.contains fuel (listed.setIfInBounds i true) (a.put d v) w) : wpAnyZ P md ops Q S zs.contains (fuel + 1) listed a w := by
  subst hd
  exact wpAnyZ_take i v hi hs hf hr hz hQ hy hS h
/-- a contract at a branching step (guarded or not), its slot named -/
theorem wpOp_callD {i : Nat} {o : Oper} (d : Option Nat) {K : Act → World → Prop} {a : Act} {w : World} (hi : ops[i]? = some o) (hd : o.dst = d) (hw : Region.wanted o (yielded ops a.tmps) = true) (f : FuncId) (fn : Func) (hf : P.funcs[f]? = some fn) (hn : (fn.name == "runtime.NumGoroutine") = false) (hb : fn.body.isNone = false) (xs : List Operand) (tys : Array TypeId)
    (ho : o.op = .call { callee := .value (.func f), args := xs.toArray, argTypes := tys }) (vals : List Value) (hv : xs.map a.eval = vals) {R : Ending → World → Prop} (h : Calls P f vals.toArray w R)
    (hR : ∀ e w', R e w' → ∃ v, e = .returned v ∧ K (a.put d v) w') : wpOp P ops Q i K a w := by
  subst hd
  unfold Go.wpOp
  simp only [hi, hw, if_true]
  left
  unfold Oper.wp execOp
  simp only [ho, resolve, invoke, Sem.run_bind, Sem.run_pure, Result.andThen_ok, List.map_toArray, hv, Act.eval, Deferred.ofValue, Array.append_empty, Array.empty_append, run_callFunc _ hf hn hb]
  refine h.mono fun e w' he => ?_
  obtain ⟨v, rfl, hk⟩ := hR e w' he
  exact hk
theorem wpAnyZ_listed {fuel : Nat} {listed : Array Bool} (listed' : Array Bool) {a : Act} {w : World} (h : listed = listed') (H : wpAnyZ P md ops Q S Z fuel listed' a w) : wpAnyZ P md ops Q S Z fuel listed a w := h ▸ H
theorem wpAnyZ_one {fuel : Nat} {listed : Array Bool} {a : Act} {w : World} (i : Nat) (hr : (Region.ready md ops listed == [i]) = true)
    (h : wpOp P ops Q i (fun a' w' => (Z i = true ∨ (S w → S w')) ∧ wpAnyZ P md ops Q S Z fuel (listed.setIfInBounds i true) a' w') a w) : wpAnyZ P md ops Q S Z (fuel + 1) listed a w :=
  wpAnyZ_all (eq_of_beq hr) (by simp) fun j hj => by rw [List.mem_singleton] at hj; subst hj; exact h
theorem wpAnyZ_end {listed : Array Bool} {a : Act} {w : World} (hr : (Region.ready md ops listed).isEmpty = true) (h : Q .normal a w) (fuel : Nat) : wpAnyZ P md ops Q S Z fuel listed a w :=
  wpAnyZ_done (List.isEmpty_iff.1 hr) h fuel
end
end Go.Proofs.Ytcbnibldlbnkbaa
