/- Plain lemmas on memory: what a row of cells reads as, and which blocks a call may turn. No program. -/
import Derived.WalkKit
import Derived.WalkSpells
import Derived.WalkLawsBesides
namespace Go.Proofs.Ytcbnibldlbnkbaa
open Go.RowKit

theorem hide {p : Prop} (h : p) : Hid p := h

/-- only blocks of S, and new ones, have turned -/
structure Fr (S : Nat → Prop) (w w' : World) : Prop where
  os : w'.os = w.os
  tape : w'.tape = w.tape
  output : w'.output = w.output
  size : w.heap.size ≤ w'.heap.size
  block : ∀ k, k < w.heap.size → ¬ S k → w'.heap[k]? = w.heap[k]?

abbrev Old (w w' : World) : Prop := Below w.heap.size w w'

section
variable {S T : Nat → Prop} {w w' w'' : World}
theorem Fr.refl (S : Nat → Prop) (w : World) : Fr S w w := ⟨rfl, rfl, rfl, Nat.le_refl _, fun _ _ _ => rfl⟩
theorem Fr.trans (h : Fr S w w') (k : Fr S w' w'') : Fr S w w'' :=
  ⟨k.os.trans h.os, k.tape.trans h.tape, k.output.trans h.output, Nat.le_trans h.size k.size,
    fun i hi hs => (k.block i (Nat.lt_of_lt_of_le hi h.size) hs).trans (h.block i hi hs)⟩
theorem Fr.mono (h : Fr S w w') (hs : ∀ k, k < w.heap.size → S k → T k) : Fr T w w' :=
  ⟨h.os, h.tape, h.output, h.size, fun i hi ht => h.block i hi fun h' => ht (hs i hi h')⟩
/-- a second step may turn what the first one made -/
theorem Fr.trans' (h : Fr S w w') (k : Fr T w' w'') (hs : ∀ k, k < w.heap.size → T k → S k) : Fr S w w'' :=
  ⟨k.os.trans h.os, k.tape.trans h.tape, k.output.trans h.output, Nat.le_trans h.size k.size,
    fun i hi hn => (k.block i (Nat.lt_of_lt_of_le hi h.size) fun ht => hn (hs i hi ht)).trans (h.block i hi hn)⟩
theorem Fr.of_old (h : Old w w') : Fr S w w' := ⟨h.os, h.tape, h.output, h.size, fun i hi _ => h.block i hi⟩
theorem Fr.of_grown {row : Option Nat} (h : w.grownBy w' row) (hr : ∀ k, k < w.heap.size → row = some k → S k) : Fr S w w' :=
  ⟨h.os, h.tape, h.output, h.size, fun i hi hs => h.block i hi fun e => hs (hr i hi e.symm)⟩
theorem Fr.old (h : Fr (fun _ => False) w w') : Old w w' := ⟨h.os, h.tape, h.output, h.size, fun i hi => h.block i hi id⟩
theorem Fr.cell (h : Fr S w w') {p : Addr} (hp : p.block < w.heap.size) (hs : ¬ S p.block) : w'.cell? p = w.cell? p :=
  World.cell?_of_block (w := w) (h.block p.block hp hs)
theorem Fr.frozen (h : Fr S w w') {p : Addr} (hp : p.block < w.heap.size) (hs : ¬ S p.block) : w'.frozen? p = w.frozen? p :=
  World.frozen?_of_block (w := w) (h.block p.block hp hs)
theorem Fr.drew (h : Fr S w w') : Fr S w w'.drew := ⟨h.os, h.tape, h.output, h.size, h.block⟩
theorem Fr.drewN (h : Fr S w w') (n : Nat) : Fr S w (w'.drewN n) := ⟨h.os, h.tape, h.output, h.size, h.block⟩
theorem Fr.alloc (h : Fr S w w') (o : Obj) : Fr S w (w'.alloc o) :=
  ⟨h.os, h.tape, h.output, Nat.le_trans h.size (by simp), fun i hi hs => (Below.heap_alloc w' o i (Nat.lt_of_lt_of_le hi h.size)).trans (h.block i hi hs)⟩
theorem Fr.setCell (h : Fr S w w') {p : Addr} (hp : w.heap.size ≤ p.block ∨ S p.block) (u : Value) : Fr S w (w'.setCell p u) :=
  ⟨h.os, h.tape, h.output, by simpa [World.setCell] using h.size, fun i hi hs => (Below.heap_setCell w' p u i (by
    rintro rfl
    rcases hp with hp | hp
    · omega
    · exact hs hp)).trans (h.block i hi hs)⟩
theorem Old.refl' (w : World) : Old w w := Below.refl _ _
theorem Old.trans' (h : Old w w') (k : Old w' w'') : Old w w'' := h.trans (k.mono h.size)
theorem Old.drewN' (h : Old w w') (n : Nat) : Old w (w'.drewN n) := ⟨h.os, h.tape, h.output, h.size, h.block⟩
theorem Old.alloc' (h : Old w w') (o : Obj) : Old w (w'.alloc o) := h.alloc h.size o
theorem Old.setCell' (h : Old w w') {p : Addr} (hp : w.heap.size ≤ p.block) (u : Value) : Old w (w'.setCell p u) := h.setCell hp u
theorem Old.drew' (h : Old w w') : Old w w'.drew := h.drew
theorem bcell {W w1 : World} (hb : Old W w1) : (∀ b o, b < W.heap.size → w1.cell? ⟨b, o, none⟩ = W.cell? ⟨b, o, none⟩) ∧ (∀ b o, b < W.heap.size → w1.frozen? ⟨b, o, none⟩ = W.frozen? ⟨b, o, none⟩) :=
  ⟨fun b o h => hb.cell (p := ⟨b, o, none⟩) h, fun b o h => hb.frozen (p := ⟨b, o, none⟩) h⟩
end

theorem bempty : ({ data := #[] } : ByteArray) = ByteArray.empty := rfl

/-- the cells cs lie at A -/
def CellsAt (w : World) (A : Option Addr) (cs : List Value) : Prop :=
  cs ≠ [] → ∃ b o, A = some ⟨b, o, none⟩ ∧ b < w.heap.size ∧ ∀ k u, cs[k]? = some u → w.cell? ⟨b, o + k, none⟩ = some u

/-- the block of A is none of S -/
def Off (S : Nat → Prop) (A : Option Addr) : Prop := ∀ a, A = some a → ¬ S a.block

section
variable {S : Nat → Prop} {w w' : World} {A : Option Addr} {cs : List Value}
theorem CellsAt.nil (w : World) (A : Option Addr) : CellsAt w A [] := fun h => absurd rfl h
theorem CellsAt.fr (h : CellsAt w A cs) (hf : Fr S w w') (ho : cs ≠ [] → Off S A) : CellsAt w' A cs := fun hn => by
  obtain ⟨b, o, rfl, hb, hc⟩ := h hn
  exact ⟨b, o, rfl, Nat.lt_of_lt_of_le hb hf.size, fun k u hk => (hf.cell (p := ⟨b, o + k, none⟩) hb (ho hn ⟨b, o, none⟩ rfl)).trans (hc k u hk)⟩
theorem CellsAt.old (h : CellsAt w A cs) (hf : Old w w') : CellsAt w' A cs :=
  h.fr (S := fun _ => False) (Fr.of_old hf) (fun _ _ _ h => h)
theorem CellsAt.drew (h : CellsAt w A cs) : CellsAt w.drew A cs := h
theorem CellsAt.drewN (h : CellsAt w A cs) (n : Nat) : CellsAt (w.drewN n) A cs := h
theorem CellsAt.alloc (h : CellsAt w A cs) (o : Obj) : CellsAt (w.alloc o) A cs := h.old ((Old.refl' w).alloc' o)
theorem CellsAt.take (h : CellsAt w A cs) (n : Nat) : CellsAt w A (cs.take n) := fun hn => by
  obtain ⟨b, o, rfl, hb, hc⟩ := h (fun e => hn (by simp [e]))
  refine ⟨b, o, rfl, hb, fun k u hk => hc k u ?_⟩
  rw [List.getElem?_take] at hk
  split at hk
  · exact hk
  · cases hk
theorem CellsAt.set_ (h : CellsAt w A cs) {p : Addr} (hp : ∀ a, A = some a → a.block ≠ p.block) (u : Value) : CellsAt (w.setCell p u) A cs :=
  h.fr (S := fun k => k = p.block) ((Fr.refl (fun k => k = p.block) w).setCell (.inr rfl) u) (fun _ a e hs => hp a e hs)
theorem add_mk (b o j : Nat) : (⟨b, o, none⟩ : Addr).add j = ⟨b, o + j, none⟩ := by
  by_cases h : j = 0
  · subst h; simp [Addr.add]
  · simp [Addr.add, h]
theorem CellsAt.news {ad : Addr} (h : CellsAt w (some ad) cs) : ∀ j u, cs[j]? = some u → w.cell? (ad.add j) = some u := fun j u hj => by
  obtain ⟨b, o, e, _, hc⟩ := h (fun e => by rw [e] at hj; simp at hj)
  injection e with e
  subst e
  rw [add_mk]
  exact hc j u hj
theorem CellsAt.of_own {base : Nat} {e : TypeId} {size n c : Nat} (h : w.ownsRow base e size (.slice A n c) n cs) : CellsAt w A cs := fun hn => by
  have h' := h
  rcases h with ⟨hl, ⟨_, h0⟩ | ⟨g, cap, cur, hv, _, hg, _⟩⟩
  · subst h0; exact absurd (List.eq_nil_of_length_eq_zero (by simpa using hl)) hn
  · have hA : A = some ⟨g, 0, none⟩ := by injection hv
    subst hA
    refine ⟨g, 0, rfl, (Array.getElem?_eq_some_iff.1 hg).1, fun k u hk => ?_⟩
    have := h'.cells (g := g) rfl k u hk
    by_cases hk0 : k = 0
    · subst hk0; simpa [Addr.add] using this
    · simpa [Addr.add, hk0] using this
end

/-- block g is just these cells, none frozen -/
def Bk (w : World) (g : Nat) (t : TypeId) (cs : Array Value) : Prop := w.heap[g]? = some (.cells cs t (0, 0))
section
variable {w w' : World} {g : Nat} {t : TypeId} {cs : Array Value}
theorem Bk.lt (h : Bk w g t cs) : g < w.heap.size := (Array.getElem?_eq_some_iff.1 h).1
theorem Bk.cell (h : Bk w g t cs) (i : Nat) : w.cell? ⟨g, i, none⟩ = cs[i]? := cell_of_row w g i cs t (0, 0) h
theorem Bk.frozen (h : Bk w g t cs) (i : Nat) : w.frozen? ⟨g, i, none⟩ = false := by
  unfold Bk at h
  simp [World.frozen?, h]
theorem Bk.new (w : World) (t : TypeId) (cs : Array Value) : Bk (w.alloc (.cells cs t)) w.heap.size t cs := heap_alloc_new w _
theorem Bk.drew (h : Bk w g t cs) : Bk w.drew g t cs := h
theorem Bk.drewN (h : Bk w g t cs) (n : Nat) : Bk (w.drewN n) g t cs := h
theorem Bk.alloc (h : Bk w g t cs) (o : Obj) : Bk (w.alloc o) g t cs := (Below.heap_alloc w o g h.lt).trans h
theorem Bk.set_ (h : Bk w g t cs) (i : Nat) (u : Value) : Bk (w.setCell ⟨g, i, none⟩ u) g t (cs.setIfInBounds i u) := by
  unfold Bk at h ⊢
  simp [World.setCell, Array.getElem?_modify, h]
theorem Bk.far (h : Bk w g t cs) {p : Addr} (hp : g ≠ p.block) (u : Value) : Bk (w.setCell p u) g t cs := (Below.heap_setCell w p u g hp).trans h
theorem Bk.fr {S : Nat → Prop} (h : Bk w g t cs) (hf : Fr S w w') (hs : ¬ S g) : Bk w' g t cs := (hf.block g h.lt hs).trans h
theorem Bk.old (h : Bk w g t cs) (hf : Old w w') : Bk w' g t cs := (hf.block g h.lt).trans h
theorem Bk.grown {row : Option Nat} (h : Bk w g t cs) (hb : w.grownBy w' row) (hg : some g ≠ row) : Bk w' g t cs := (hb.block g h.lt hg).trans h
theorem Bk.ne_ {g' : Nat} {t' : TypeId} {cs' : Array Value} (h : Bk w g t cs) (h' : Bk w g' t' cs') (hne : t ≠ t') : g ≠ g' := by
  rintro rfl
  unfold Bk at h h'
  rw [h] at h'
  injection h' with h'
  injection h' with _ ht
  exact hne ht
end

/-! ### versions, numbers -/
abbrev Ver := Bool × ByteArray
instance : Inhabited Ver := ⟨(false, ByteArray.empty)⟩
def verCells (vs : List Ver) : List Value := vs.flatMap fun v => [.bool v.1, .string v.2]
def Vers (w : World) (A : Option Addr) (vs : List Ver) : Prop := CellsAt w A (verCells vs)
def IntsAt (w : World) (A : Option Addr) (ns : List Int) : Prop := CellsAt w A (ns.map (.int .i64))

theorem verCells_length (vs : List Ver) : (verCells vs).length = vs.length * 2 := by
  induction vs with
  | nil => rfl
  | cons v vs ih => simp [verCells] at ih ⊢; omega
theorem verCells_append (vs us : List Ver) : verCells (vs ++ us) = verCells vs ++ verCells us := by simp [verCells]
theorem verCells_get (vs : List Ver) : ∀ k, k < vs.length → (verCells vs)[k * 2]? = some (.bool (vs[k]?.getD default).1) ∧ (verCells vs)[k * 2 + 1]? = some (.string (vs[k]?.getD default).2) := by
  induction vs with
  | nil => intro k h; simp at h
  | cons v vs ih =>
    intro k hk
    cases k with
    | zero => simp [verCells]
    | succ k =>
      have := ih k (by simpa using hk)
      have e : verCells (v :: vs) = .bool v.1 :: .string v.2 :: verCells vs := rfl
      rw [e, show (k + 1) * 2 = k * 2 + 1 + 1 from by omega]
      simpa using this
theorem verCells_one (vs : List Ver) : ∀ u ∈ verCells vs, u.oneCell' = true := by
  intro u hu
  simp only [verCells, List.mem_flatMap] at hu
  obtain ⟨v, _, h⟩ := hu
  simp at h
  rcases h with rfl | rfl <;> rfl
theorem Vers.at_ {w : World} {A : Option Addr} {vs : List Ver} (h : Vers w A vs) {k : Nat} (hk : k < vs.length) :
    ∃ b o, A = some ⟨b, o, none⟩ ∧ b < w.heap.size ∧ w.cell? ⟨b, o + k * 2, none⟩ = some (.bool (vs[k]?.getD default).1) ∧ w.cell? ⟨b, o + k * 2 + 1, none⟩ = some (.string (vs[k]?.getD default).2) := by
  obtain ⟨b, o, rfl, hb, hc⟩ := h (fun e => by have := verCells_length vs; rw [e] at this; simp at this; omega)
  obtain ⟨h1, h2⟩ := verCells_get vs k hk
  exact ⟨b, o, rfl, hb, hc _ _ h1, hc _ _ h2⟩
theorem IntsAt.at_ {w : World} {A : Option Addr} {ns : List Int} (h : IntsAt w A ns) {k : Nat} (hk : k < ns.length) :
    ∃ b o, A = some ⟨b, o, none⟩ ∧ b < w.heap.size ∧ w.cell? ⟨b, o + k, none⟩ = some (.int .i64 (ns[k]?.getD 0)) := by
  obtain ⟨b, o, rfl, hb, hc⟩ := h (fun e => by have : (ns.map (Value.int .i64)).length = 0 := by rw [e]; rfl
                                               simp at this; subst this; simp at hk)
  refine ⟨b, o, rfl, hb, hc k _ ?_⟩
  rw [List.getElem?_map, List.getElem?_eq_getElem hk]
  rfl

theorem Vers.old {w w' : World} {A : Option Addr} {vs : List Ver} (h : Vers w A vs) (hf : Old w w') : Vers w' A vs := CellsAt.old h hf
theorem Vers.alloc {w : World} {A : Option Addr} {vs : List Ver} (h : Vers w A vs) (o : Obj) : Vers (w.alloc o) A vs := CellsAt.alloc h o
theorem Vers.nil (w : World) (A : Option Addr) : Vers w A [] := CellsAt.nil w A
theorem IntsAt.old {w w' : World} {A : Option Addr} {ns : List Int} (h : IntsAt w A ns) (hf : Old w w') : IntsAt w' A ns := CellsAt.old h hf
theorem IntsAt.alloc {w : World} {A : Option Addr} {ns : List Int} (h : IntsAt w A ns) (o : Obj) : IntsAt (w.alloc o) A ns := CellsAt.alloc h o

theorem bytes_eq {a b : ByteArray} : a.toList = b.toList ↔ a = b := by
  constructor
  · intro h
    rw [ByteArray.toList_eq, ByteArray.toList_eq] at h
    cases a; cases b
    simp at h
    simp [h]
  · intro h; rw [h]

theorem take_same {α : Type} [Inhabited α] {as bs : List α} {k : Nat} (h : as.take k = bs.take k) (ha : k < as.length) (hb : k < bs.length)
    (e : as[k]?.getD default = bs[k]?.getD default) : as.take (k + 1) = bs.take (k + 1) := by
  rw [List.getElem?_eq_getElem ha, List.getElem?_eq_getElem hb] at e
  have e' : as[k] = bs[k] := by simpa using e
  rw [List.take_succ_eq_append_getElem ha, List.take_succ_eq_append_getElem hb, h, e']
theorem take_other {α : Type} [Inhabited α] {as bs : List α} {k : Nat} (e : as[k]?.getD default ≠ bs[k]?.getD default) : as ≠ bs := by
  rintro rfl; exact e rfl

end Go.Proofs.Ytcbnibldlbnkbaa
