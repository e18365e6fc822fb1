/- A range over a function whose iterator writes to memory of its own: the kit's laws let an iterator lay blocks and turn walks' objects alone. -/
import Derived.RangeFuncFrom
import Derived.RangeFuncBox
import Derived.RangeFuncWrites
import Derived.Test.YtffahoocbjfdaaaHRegI
namespace Go.Proofs.Ytffahoocbjfdaaa
open Go.RowKit
def OwnW {β : Type} (B : Nat) (I : β → World → Prop) : Prop := ∀ s A A' row, I s A → A.grownBy A' row → (∀ r, row = some r → B ≤ r) → I s A'
theorem OwnW.put {β : Type} {B : Nat} {I : β → World → Prop} (h : OwnW B I) {s : β} {A : World} {l : Nat} (o : Obj) (hs : I s A) (hl : B ≤ l) : I s (A.putObj l o) :=
  h s A _ (some l) hs (grownBy_putObj' A l o) fun r e => by cases e; exact hl
theorem grown_alloc (A : World) (o : Obj) : A.grownBy (A.alloc o) none := ⟨rfl, rfl, rfl, by simp, fun k hk _ => Below.heap_alloc A o k hk⟩
theorem OwnW.alloc {β : Type} {B : Nat} {I : β → World → Prop} (h : OwnW B I) {s : β} {A : World} (o : Obj) (hs : I s A) : I s (A.alloc o) := h s A _ none hs (grown_alloc A o) fun r e => by cases e
def SeqW {α : Type} (F : Fence) (n : Nat) (P : Program) (g : Nat) (lb : Array Value) (encs : α → Array Value) (Kp : World → World → Prop) (S Sp : List α → Prop) (N : Nat) (w : World) : Prop :=
  ∀ (l : Nat) (J Jx : List α → World → Prop) (W : World), Below w.heap.size w W → OwnW W.heap.size J → OwnW W.heap.size Jx →
    (∀ pre x W1, J pre W1 → pre.length < N → YieldAt F (n - 1) P l (encs x) W1 fun e W' => (e = .returned (.bool true) ∧ J (pre ++ [x]) W' ∧ Kp W1 W') ∨ (e = .returned (.bool false) ∧ Jx (pre ++ [x]) W')) →
    J [] W → CallsIn F n P g (#[.func (.yield l) #[] #[]] ++ lb) W fun e W' => (∃ v, e = .returned v) ∧ ((∃ xs, S xs ∧ J xs W') ∨ (∃ pre, Sp pre ∧ Jx pre W'))
section
variable {F : Fence} {n : Nat} {P : Program} {α : Type} {I : List α → World → Prop}
structure Stands (D : Nat) (x : Loop) (W : World) : Prop where
  l : W.heap[D + 1]? = some (.loop x)
  d : W.heap[D]? = some (.deferred (some []))
theorem Stands.own {D B : Nat} {x : Loop} (hB : D + 2 ≤ B) {A A' : World} {row : Option Nat} (h : Stands D x A) (hg : A.grownBy A' row) (hr : ∀ r, row = some r → B ≤ r) : Stands D x A' := by
  have hl := (Array.getElem?_eq_some_iff.1 h.l).1
  exact ⟨(hg.block (D + 1) hl fun e => by have := hr _ e.symm; omega).trans h.l, (hg.block D (by omega) fun e => by have := hr _ e.symm; omega).trans h.d⟩
theorem Stands.keep {D : Nat} {x : Loop} {A A' : World} (h : Stands D x A) (hk : KeepsOthers A A') : Stands D x A' := ⟨hk.same _ _ h.l rfl, hk.same _ _ h.d rfl⟩
theorem Stands.turn {D : Nat} {x : Loop} {A : World} (h : Stands D x A) (y : Loop) : Stands D y (A.putObj (D + 1) (.loop y)) :=
  ⟨World.putObj_heap_same (Array.getElem?_eq_some_iff.1 h.l).1, (World.putObj_heap_other (by omega)).trans h.d⟩
theorem wpIn_rangeW {g : Operand} {ps : Array Tmp} {assign body : Code} {Q : Exit → Act → World → Prop} {a : Act} {w : World} (hro : F.round = none) (h1 : 1 ≤ n) {gf : Nat} {lb : Array Value} (hg : a.eval g = .func (.func gf) #[] lb) (hFg : F.fn gf)
    (eg : ∀ args w, (callFunc gf args).run P w = .ok (.enter gf args) w) {encs : α → Array Value} {Kp : World → World → Prop} {S Sp : List α → Prop} {N : Nat} {w0 : World} (hseq : SeqW F (n - 1) P gf lb encs Kp S Sp N w0)
    (hKt : ∀ {A B C : World}, Kp A B → Kp B C → Kp A C) (hKb : ∀ (W : World) (l : Nat) (o o' : Obj), w.heap.size ≤ l → W.heap[l]? = some o → o.isCells = false → Kp W (W.putObj l o')) (hb0 : Below w0.heap.size w0 w) (hps : ∀ x, (encs x).size = ps.size)
    (I : List α → World → Prop) (Ix : List α → World → Prop) (hI : OwnW w.heap.size I) (hIx : OwnW w.heap.size Ix) (h0 : I [] w) (a₁ : α → Nat → Act) (ob : α → Obj) (hKa : ∀ (W : World) (o : Obj), w.heap.size ≤ W.heap.size → Kp W (W.alloc o))
    (hassign : ∀ (l : Nat) (x : α) (W : World) (K : Act → World → Prop), K (a₁ x W.heap.size) (W.alloc (ob x)) → assign.wpIn (F.inRound l) (n - 1 - 1) P (Exit.then K (fun _ _ _ => False)) { tmps := (ps.zip (encs x)).foldl (fun t (p, v) => t.setIfInBounds p v) a.tmps, defers := [] } W)
    (hbody : ∀ (l : Nat) (pre : List α) (x : α) (W : World) (p : Nat), I pre W → w.heap.size ≤ p → W.heap[p]? = some (ob x) → pre.length < N → body.wpIn (F.inRound l) (n - 1 - 1) P (ownPostK Kp I (fun c xs W => c = .ret ∧ Ix xs W) (pre ++ [x]) W) (a₁ x p) W)
    (hdone : ∀ (D : Nat) (xs : List α) (W : World), w.heap.size ≤ D → S xs → I xs W → W.heap[D]? = some (.deferred (some [])) → Q .normal { a with defers := { target := .collected D, args := #[] } :: a.defers } W)
    (hstop : ∀ (D : Nat) (pre : List α) (W : World), w.heap.size ≤ D → Sp pre → Ix pre W → W.heap[D]? = some (.deferred (some [])) → Code.ret.wpIn F n P Q { a with defers := { target := .collected D, args := #[] } :: a.defers } W) :
    (Code.rangeFunc g ps assign body).wpIn F n P Q a w := by
  refine wpIn_rangeFunc fun fn hfn => ?_
  rw [hro]
  obtain ⟨mk, hmk⟩ : ∃ mk : LoopState → Option Code → Loop, ∀ s p, mk s p = { state := s, pending := p, fn, tmps := a.tmps, params := ps, assign, body, defers := w.heap.size } := ⟨fun s p => _, fun _ _ => rfl⟩
  obtain ⟨D, hD⟩ : ∃ D, w.heap.size = D := ⟨_, rfl⟩
  obtain ⟨V, hV⟩ : ∃ V, (w.alloc (.deferred (some []))).alloc (.loop (mk .ready none)) = V := ⟨_, rfl⟩
  have hsz : V.heap.size = D + 2 := by rw [← hV, ← hD]; simp
  have st0 : Stands D (mk .ready none) V := by
    rw [← hV, ← hD]
    refine ⟨?_, (Below.heap_alloc _ _ _ (by simp)).trans (World.alloc_heap_new w _)⟩
    have := World.alloc_heap_new (w.alloc (.deferred (some []))) (.loop (mk .ready none))
    rwa [World.size_alloc] at this
  have i0 : I [] V := by rw [← hV]; exact hI.alloc _ (hI.alloc _ h0)
  have hbV : Below w0.heap.size w0 V := by
    rw [← hV]
    exact hb0.trans ((((Below.refl _ w).alloc (Nat.le_refl _) _).alloc (by simp) _).mono hb0.size)
  have nextSt : ∀ {x : Loop} {A : World}, Stands D x A → ∀ y, Kp A (A.putObj (D + 1) (.loop y)) := fun h y => hKb _ _ _ _ (by omega) h.l rfl
  refine ⟨D + 1, [{ target := .collected D, args := #[] }], V, { target := .fn (.func gf) lb, args := #[.func (.yield (D + 1)) #[] #[]] }, V, gf, #[.func (.yield (D + 1)) #[] #[]] ++ lb, V, ?_, ?_, ?_, ?_, fun _ => h1, ?_⟩
  · rw [← hV, ← hD, hmk]; exact run_enterLoop_outer _ _ _ _ _
  · simp only [resolve, hg]
    simp [go_sem]
  · intro f hf
    simp [Target.leads] at hf
    exact hf ▸ hFg
  · simp [invoke, go_sem, eg]
  refine (hseq (D + 1) (fun pre W => I pre W ∧ Stands D (mk .ready none) W) (fun pre W => Ix pre W ∧ Stands D (mk .done (some .ret)) W) V hbV
    (fun s A A' row hs hgr hr => ⟨hI s A A' row hs.1 hgr fun r e => by have := hr r e; omega, hs.2.own (B := V.heap.size) (by omega) hgr hr⟩)
    (fun s A A' row hs hgr hr => ⟨hIx s A A' row hs.1 hgr fun r e => by have := hr r e; omega, hs.2.own (B := V.heap.size) (by omega) hgr hr⟩) ?_ ⟨i0, st0⟩).mono ?_
  · rintro pre x W ⟨hi, hs⟩ hlen
    have hy := run_yield (P := P) (args := encs x) hs.l (by rw [hmk]; exact hps x)
    rw [hmk] at hy
    have hgr : W.grownBy (W.alloc (ob x)) none := grown_alloc W _
    have hWD : D + 2 ≤ W.heap.size := (Array.getElem?_eq_some_iff.1 hs.l).1
    have hsa : Stands D (mk .ready none) (W.alloc (ob x)) := hs.own (B := D + 2) (Nat.le_refl _) hgr (fun r e => by cases e)
    refine ⟨fn, _, assign, body, hy, roundIn_of_wpIn hfn (hassign _ x W _ ⟨_, run_beginRound hsa.l (by rw [hmk]), ?_⟩)⟩
    have hp0 : (W.alloc (ob x)).heap[W.heap.size]? = some (ob x) := World.alloc_heap_new W (ob x)
    obtain ⟨busy, hbusy⟩ : ∃ b, b = ({ mk .ready none with state := .busy } : Loop) := ⟨_, rfl⟩
    have hs2 := hsa.turn busy
    rw [← hbusy]
    refine wpIn_mono (hbody _ pre x _ W.heap.size (hI.put _ (hI.alloc _ hi) (by omega)) (by omega) ((World.putObj_heap_other (by omega)).trans hp0) hlen) ?_
    have out : ∀ (j : Option Code) (A : World), KeepsOthers ((W.alloc (ob x)).putObj (D + 1) (.loop busy)) A → Stands D busy A ∧ (Instr.endRound (D + 1) j).run P A = .ok (.bool j.isNone) (A.putObj (D + 1) (.loop (mk (if j.isNone then .ready else .done) j))) := fun j A hA => by
      have h := hs2.keep hA
      refine ⟨h, ?_⟩
      have := run_endRound (P := P) j h.l
      rw [hbusy, hmk] at this
      rw [hmk]
      exact this
    intro e a3 A hp
    match e, hp with
    | .normal, ⟨hA, hkp, hi3⟩ =>
      obtain ⟨h3, hr⟩ := out none A hA
      exact ⟨_, _, hr, .inl ⟨rfl, ⟨hI.put _ hi3 (by omega), h3.turn _⟩, hKt (hKt (hKt (hKa W (ob x) (by omega)) (nextSt hsa _)) hkp) (nextSt h3 _)⟩⟩
    | .ret, ⟨hA, _, hi3⟩ =>
      obtain ⟨h3, hr⟩ := out (some .ret) A hA
      exact ⟨_, _, hr, .inr ⟨rfl, hIx.put _ hi3 (by omega), h3.turn _⟩⟩
    | .exit _, ⟨_, hc, _⟩ => cases hc
    | .goto _, ⟨_, hc, _⟩ => cases hc
    | .panic _, hp => exact hp.elim
    | .outgrown, hp => exact hp.elim
  · rintro e A ⟨⟨v, rfl⟩, (⟨xs, hS, hi, hs⟩ | ⟨pre, hSp, hi, hs⟩)⟩
    · exact ⟨none, _, by have := run_endLoop (P := P) hs.l (by rw [hmk]; simp); rw [hmk] at this; exact this, hdone D xs _ (by omega) hS (hI.put _ hi (by omega)) ((World.putObj_heap_other (by omega)).trans hs.d)⟩
    · exact ⟨some .ret, _, by have := run_endLoop (P := P) hs.l (by rw [hmk]; simp); rw [hmk] at this; exact this, hstop D pre _ (by omega) hSp (hIx.put _ hi (by omega)) ((World.putObj_heap_other (by omega)).trans hs.d)⟩
end
end Go.Proofs.Ytffahoocbjfdaaa
