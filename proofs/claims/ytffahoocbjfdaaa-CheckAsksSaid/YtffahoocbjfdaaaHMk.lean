/- casebooklaw23.made: what lies where. -/
import Derived.Test.YtffahoocbjfdaaaHPdL
import Derived.Test.YtffahoocbjfdaaaHSd
namespace Go.Proofs.Ytffahoocbjfdaaa
open Go.RowKit
structure MkV where
  s : PV
  l : List ActV
  st : StV
  log : List ReqV
  seq : Int → Int
  done : Int → Bool
  told : Int → Rep
  at_ : Int → Int
section
variable {k : Nat} {own own' : Nat → Nat} {w wr w' : World} {p g b1 b2 b3 b4 : Nat} {V : Value} {K : MkV} {S : Nat → Prop}
end
end Go.Proofs.Ytffahoocbjfdaaa

/- casebooklaw23.made in plain Lean: a history of one server, and that it is right. -/
namespace Go.Proofs.Ytffahoocbjfdaaa
open Go.RowKit
structure MvV where
  kind : Int
  client : Int
  q : ReqV
def MvV.c (m : MvV) : Nat := ((IntKind.u64.wrap m.client).tmod 4).toNat
def setF {α : Type} (f : Int → α) (c : Int) (v : α) : Int → α := fun x => if x = c then v else f x
def MkV.q (K : MkV) (c : Nat) (x : ReqV) : ReqV := ⟨(c : Int), K.seq c + 1, x.kind, x.id, x.mat, x.data⟩
def ansAct (c : Int) (r : ReqV) (R : Rep) (at_ : Int) : ActV := ⟨c, r.seq, true, r, R, none, 0, at_⟩
def MkV.next (K : MkV) (c : Nat) (x : ReqV) : MkV :=
  match K.s.wait c with
  | none => if K.s.askE (K.q c x) = 0 then ⟨K.s.ask (K.q c x), K.l ++ [askAct (K.q c x)], K.st, K.log, setF K.seq c (K.seq c + 1), setF K.done c false, K.told, K.at_⟩ else K
  | some r => if K.done c then ⟨K.s.ans c r.seq (K.at_ c), K.l ++ [ansAct c r (K.told c) (K.at_ c)], K.st, K.log, K.seq, K.done, K.told, K.at_⟩
    else if Writes r.kind then ⟨K.s, K.l, K.st.put r.q, K.log ++ [r], K.seq, setF K.done c true, setF K.told c (K.st.rep r.q), setF K.at_ c (K.st.put r.q).n⟩
    else ⟨K.s, K.l, K.st, K.log, K.seq, setF K.done c true, setF K.told c (K.st.ask r.q), setF K.at_ c K.st.n⟩
def MkV.new (qt : Int) : MkV := ⟨PV.new, [], StV.new qt, [], fun _ => 0, fun _ => false, fun _ => Rep.zero, fun _ => 0⟩
theorem take_app {α : Type} {l t : List α} {k : Nat} (h : k ≤ l.length) : (l ++ t).take k = l.take k := List.take_append_of_le_length h
theorem put_ok {s : StV} {q : Q} (h : s.err q = 0) : s.put q = s.done q ∧ (q.may && Writes q.kind) = true ∧ (s.ss q.client).seq < q.seq := by
  unfold StV.err at h
  by_cases h1 : (q.may && Writes q.kind) = true
  · rw [if_pos h1] at h
    by_cases h2 : (s.ss q.client).seq < q.seq
    · refine ⟨?_, h1, h2⟩
      unfold StV.put StV.may
      rw [h1, decide_eq_true h2]; rfl
    · rw [if_neg h2] at h; exact absurd h (by decide)
  · rw [if_neg h1] at h; exact absurd h (by decide)
theorem err_zero {s : StV} {q : Q} (h1 : (q.may && Writes q.kind) = true) (h2 : (s.ss q.client).seq < q.seq) : s.err q = 0 := by
  unfold StV.err
  rw [if_pos h1, if_pos h2]
def okL (qt : Int) (log : List ReqV) : Prop := ∀ j, j < log.length → (runS qt (log.take j)).err (log[j]?.getD default).q = 0
theorem okL_pre {qt : Int} {log : List ReqV} {x : ReqV} (h : okL qt (log ++ [x])) : okL qt log ∧ (runS qt log).err x.q = 0 := by
  refine ⟨fun j hj => ?_, ?_⟩
  · have := h j (by simp; omega)
    rwa [List.getElem?_append_left hj, take_app (by omega)] at this
  · have := h log.length (by simp)
    simpa using this
theorem snocInd {α : Type} {P : List α → Prop} (h0 : P []) (hs : ∀ l x, P l → P (l ++ [x])) (l : List α) : P l := by
  have h : ∀ l : List α, P l.reverse := fun l => by
    induction l with
    | nil => exact h0
    | cons x l ih => rw [List.reverse_cons]; exact hs _ _ ih
  have := h l.reverse
  rwa [List.reverse_reverse] at this
theorem runF_f (qt id : Int) : ∀ (log : List ReqV), okL qt log → (runF qt id log).f id = (runS qt log).f id ∧ (runF qt id log).quota = qt ∧ ∀ c, ((runF qt id log).ss c).seq ≤ ((runS qt log).ss c).seq := by
  intro log
  induction log using snocInd with
  | h0 => intro _; exact ⟨rfl, rfl, fun c => Int.le_refl _⟩
  | hs log x ih =>
    intro h
    obtain ⟨h1, h2⟩ := okL_pre h
    obtain ⟨i1, i2, i3⟩ := ih h1
    obtain ⟨p1, p2, p3⟩ := put_ok h2
    rw [runF_snoc, runS_snoc, p1]
    by_cases hx : x.id = id
    · rw [if_pos hx]
      have p3' : ((runF qt id log).ss x.q.client).seq < x.q.seq := by have := i3 x.q.client; omega
      rw [(put_ok (err_zero p2 p3')).1]
      have e : (runF qt id log).doL x.q = (runS qt log).doL x.q := by
        unfold StV.doL
        rw [show x.q.id = id from hx, i1, i2, (runS_ok qt log).2.2]
      refine ⟨?_, i2, fun c => ?_⟩
      · show (if id = x.q.id then _ else _) = (if id = x.q.id then _ else _)
        have hx' : id = x.q.id := hx.symm
        rw [if_pos hx', if_pos hx', e]
      · show (if c = x.q.client then _ else _ : Sess).seq ≤ (if c = x.q.client then _ else _ : Sess).seq
        by_cases hc : c = x.q.client
        · rw [if_pos hc, if_pos hc]; exact Int.le_refl _
        · rw [if_neg hc, if_neg hc]; exact i3 c
    · rw [if_neg hx]
      refine ⟨?_, i2, fun c => ?_⟩
      · show _ = (if id = x.q.id then _ else _)
        rw [if_neg (fun e : id = x.q.id => hx e.symm)]; exact i1
      · show _ ≤ (if c = x.q.client then _ else _ : Sess).seq
        by_cases hc : c = x.q.client
        · rw [if_pos hc]; have := i3 c; rw [hc] at this ⊢; show _ ≤ x.q.seq; omega
        · rw [if_neg hc]; exact i3 c
theorem runF_ask {qt : Int} {log : List ReqV} (h : okL qt log) (q : Q) : (runF qt q.id log).ask q = (runS qt log).ask q := by
  unfold StV.ask
  rw [(runF_f qt q.id log h).1]
def MkV.ans (K : MkV) (c : Int) (r : ReqV) : ActV := ansAct c r (K.told c) (K.at_ c)
theorem runS_few (qt : Int) (log : List ReqV) : ∀ k, ((runS qt log).f k).length ≤ (runS qt log).n := by
  induction log using snocInd with
  | h0 => intro k; exact Nat.le_refl _
  | hs log x ih => rw [runS_snoc]; exact put_fewC _ _ ih
end Go.Proofs.Ytffahoocbjfdaaa

/- What made makes is right: plain. -/
namespace Go.Proofs.Ytffahoocbjfdaaa
open Go.RowKit
theorem checkR_good (good : Nat × Int × Int → Bool) : ∀ (ys : List (Nat × Int × Int)) (c : Nat), (∀ y ∈ ys, good y = true) → checkR good c ys = 0
  | [], _, _ => rfl
  | y :: ys, c, h => by
    show (if good y then checkR good (c + 1) ys else _) = 0
    rw [if_pos (h y (by simp))]
    exact checkR_good good ys (c + 1) fun z hz => h z (by simp [hz])
end Go.Proofs.Ytffahoocbjfdaaa

/- casebooklaw23.made: what it stores and loads. -/
namespace Go.Proofs.Ytffahoocbjfdaaa
open Go.RowKit
section
variable {own : Nat → Nat} {w wr w' : World} {p g b1 b2 b3 b4 : Nat} {V : Value} {K : MkV}
end
end Go.Proofs.Ytffahoocbjfdaaa

/- CheckFalse's law in plain Lean: an answer's reply turned; two neighbours of the log turned. -/
namespace Go.Proofs.Ytffahoocbjfdaaa
open Go.RowKit
def ActV.nr (a : ActV) : ActV := if a.ans then ⟨a.client, a.seq, true, a.q, Rep.zero, none, 0, a.at_⟩ else a
def ActV.turn (a : ActV) (v : Int) : ActV := ⟨a.client, a.seq, a.ans, a.q, ⟨a.r.code, v, a.r.data, a.r.vs⟩, a.A, a.cap, a.at_⟩
end Go.Proofs.Ytffahoocbjfdaaa
