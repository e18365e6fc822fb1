/- Frames by types: only new blocks, and those from base on of some element types, have turned. No program. -/
import Derived.Test.YtcbnibldlbnkbaaRow
namespace Go.Proofs.Ytcbnibldlbnkbaa
open Go.RowKit

/-- a block from base on, of cells of a type of T -/
def Tch (T : TypeId → Prop) (base : Nat) (w : World) (k : Nat) : Prop := base ≤ k ∧ ∃ cs t fr, w.heap[k]? = some (.cells cs t fr) ∧ T t
/-- only such blocks, and new ones, have turned -/
abbrev FrT (T : TypeId → Prop) (base : Nat) (w w' : World) : Prop := Fr (Tch T base w) w w'

section
variable {T U : TypeId → Prop} {base : Nat} {w w' w'' : World}
theorem FrT.trans (h : FrT T base w w') (k : FrT T base w' w'') : FrT T base w w'' :=
  Fr.trans' h k fun i hi ht => by
    by_cases hn : Tch T base w i
    · exact hn
    · obtain ⟨hb, cs, t, fr, hc, hT⟩ := ht
      exact ⟨hb, cs, t, fr, (h.block i hi hn).symm.trans hc, hT⟩
theorem FrT.of_old (h : Old w w') : FrT T base w w' := Fr.of_old h
theorem FrT.refl (w : World) : FrT T base w w := Fr.refl _ w
theorem FrT.mono (h : FrT T base w w') (hT : ∀ t, T t → U t) : FrT U base w w' :=
  Fr.mono h fun _ _ ⟨hb, cs, t, fr, hc, ht⟩ => ⟨hb, cs, t, fr, hc, hT t ht⟩
theorem FrT.low {b : Nat} (h : FrT T base w w') (hb : b ≤ base) : FrT T b w w' :=
  Fr.mono h fun _ _ ⟨hb', r⟩ => ⟨Nat.le_trans hb hb', r⟩
theorem FrT.of_blk {g : Nat} {t : TypeId} {cs : Array Value} (h : Fr (fun k => k = g) w w') (hg : Bk w g t cs) (hb : base ≤ g) (ht : T t) : FrT T base w w' :=
  Fr.mono h fun k _ e => by subst e; exact ⟨hb, cs, t, _, hg, ht⟩
theorem FrT.drew (h : FrT T base w w') : FrT T base w w'.drew := Fr.drew h
theorem FrT.drewN (h : FrT T base w w') (n : Nat) : FrT T base w (w'.drewN n) := Fr.drewN h n
theorem FrT.alloc (h : FrT T base w w') (o : Obj) : FrT T base w (w'.alloc o) := Fr.alloc h o
theorem FrT.then_old (h : FrT T base w w') (k : Old w' w'') : FrT T base w w'' := FrT.trans h (FrT.of_old k)
/-- what was there ahead of the base is as it was -/
theorem FrT.old {w0 : World} (h : FrT T w0.heap.size w w') (hb : Old w0 w) : Old w0 w' :=
  ⟨h.os.trans hb.os, h.tape.trans hb.tape, h.output.trans hb.output, Nat.le_trans hb.size h.size,
    fun i hi => (h.block i (Nat.lt_of_lt_of_le hi hb.size) (fun ⟨hb', _⟩ => by omega)).trans (hb.block i hi)⟩
/-- a store into a known block of a type of T -/
theorem FrT.set_ {g : Nat} {t : TypeId} {cs : Array Value} (h : FrT T base w w') (hg : Bk w' g t cs) (hb : base ≤ g) (ht : T t) (i : Nat) (u : Value) : FrT T base w (w'.setCell ⟨g, i, none⟩ u) :=
  h.trans (FrT.of_blk (Fr.setCell (S := fun k => k = g) (p := ⟨g, i, none⟩) (Fr.refl _ w') (.inr rfl) u) hg hb ht)
theorem Old.fr_new {S : Nat → Prop} (h : Old w w') (f : Fr S w' w'') (hS : ∀ k, S k → w.heap.size ≤ k) : Old w w'' :=
  ⟨f.os.trans h.os, f.tape.trans h.tape, f.output.trans h.output, Nat.le_trans h.size f.size,
    fun i hi => (f.block i (Nat.lt_of_lt_of_le hi h.size) (fun hs => by have := hS i hs; omega)).trans (h.block i hi)⟩
theorem Bk.frT {g : Nat} {t : TypeId} {cs : Array Value} (h : Bk w g t cs) (hf : FrT T base w w') (ht : ¬ T t) : Bk w' g t cs :=
  Bk.fr h hf fun ⟨_, cs', t', fr, hc, hT⟩ => by
    unfold Bk at h
    rw [h] at hc
    injection hc with hc
    injection hc with _ e
    subst e
    exact ht hT
theorem own_frT {b' : Nat} {e : TypeId} {size n : Nat} {v : Value} {xs : List Value} (h : w.ownsRow b' e size v n xs) (hf : FrT T base w w') (ht : ¬ T e) : w'.ownsRow b' e size v n xs := by
  rcases own_form h with ⟨A, c, rfl, -, hA⟩
  refine own_fr h hf fun k hk => ?_
  cases A with
  | none => simp [Value.ownBlock] at hk
  | some a =>
    obtain ⟨_, _, ha⟩ := hA a rfl
    obtain ⟨g, o, sp⟩ := a
    injection ha with _ e1 e2
    subst e1 e2
    obtain rfl : g = k := by simpa [Value.ownBlock] using hk
    obtain ⟨_, _, _, cur, hg, _, _⟩ := own_some h
    rintro ⟨_, cs', t', fr, hc, hT⟩
    unfold Bk at hg
    rw [hg] at hc
    injection hc with hc
    injection hc with _ e
    subst e
    exact ht hT
theorem Apps.frT {b : Nat} {e : TypeId} {size n n' : Nat} {v v' : Value} {xs xs' : List Value} (h : Apps w b e size v n' xs' v' w') (ho : w.ownsRow b e size v n xs) (hT : T e) (hb : base ≤ b) : FrT T base w w' :=
  h.fr fun k _ hk => by
    obtain ⟨hbk, cur, hc⟩ := own_blk ho hk
    exact ⟨Nat.le_trans hb hbk, cur, e, _, hc, hT⟩
theorem CellsAt.frT {A : Option Addr} {cs : List Value} (h : CellsAt w A cs) (hf : FrT T base w w') (ho : ∀ a, A = some a → a.block < base) : CellsAt w' A cs :=
  h.fr hf (fun _ a e ⟨hb, _⟩ => by have := ho a e; omega)
end
end Go.Proofs.Ytcbnibldlbnkbaa
