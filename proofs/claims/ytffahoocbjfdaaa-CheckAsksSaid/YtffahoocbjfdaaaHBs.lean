/- Plain lemmas on memory: what a row of cells reads as, and which blocks a call may turn. No program. -/
import Derived.WalkKit
import Derived.WalkSpells
import Derived.WalkLawsBesides
import Derived.Deep.AppendLies
import Derived.Laws.AppendOwnNone
import Derived.Deep.RegionLaw
import Derived.OrdersHeld
import Derived.Lib.AppendStr
namespace Go.Proofs.Ytffahoocbjfdaaa
open Go.RowKit
theorem hide {p : Prop} (h : p) : Hid p := h
structure Fr (S : Nat → Prop) (w w' : World) : Prop where
  os : w'.os = w.os
  tape : w'.tape = w.tape
  output : w'.output = w.output
  size : w.heap.size ≤ w'.heap.size
  block : ∀ k, k < w.heap.size → ¬ S k → w'.heap[k]? = w.heap[k]?
abbrev Old (w w' : World) : Prop := Below w.heap.size w w'
section
variable {S T : Nat → Prop} {w w' w'' : World}
theorem Fr.refl (S : Nat → Prop) (w : World) : Fr S w w := ⟨rfl, rfl, rfl, Nat.le_refl _, fun _ _ _ => rfl⟩
theorem Fr.trans (h : Fr S w w') (k : Fr S w' w'') : Fr S w w'' :=
  ⟨k.os.trans h.os, k.tape.trans h.tape, k.output.trans h.output, Nat.le_trans h.size k.size,
    fun i hi hs => (k.block i (Nat.lt_of_lt_of_le hi h.size) hs).trans (h.block i hi hs)⟩
theorem Fr.mono (h : Fr S w w') (hs : ∀ k, k < w.heap.size → S k → T k) : Fr T w w' :=
  ⟨h.os, h.tape, h.output, h.size, fun i hi ht => h.block i hi fun h' => ht (hs i hi h')⟩
theorem Fr.trans' (h : Fr S w w') (k : Fr T w' w'') (hs : ∀ k, k < w.heap.size → T k → S k) : Fr S w w'' :=
  ⟨k.os.trans h.os, k.tape.trans h.tape, k.output.trans h.output, Nat.le_trans h.size k.size,
    fun i hi hn => (k.block i (Nat.lt_of_lt_of_le hi h.size) fun ht => hn (hs i hi ht)).trans (h.block i hi hn)⟩
theorem Fr.of_old (h : Old w w') : Fr S w w' := ⟨h.os, h.tape, h.output, h.size, fun i hi _ => h.block i hi⟩
theorem Fr.of_grown {row : Option Nat} (h : w.grownBy w' row) (hr : ∀ k, k < w.heap.size → row = some k → S k) : Fr S w w' :=
  ⟨h.os, h.tape, h.output, h.size, fun i hi hs => h.block i hi fun e => hs (hr i hi e.symm)⟩
theorem Fr.cell (h : Fr S w w') {p : Addr} (hp : p.block < w.heap.size) (hs : ¬ S p.block) : w'.cell? p = w.cell? p :=
  World.cell?_of_block (w := w) (h.block p.block hp hs)
theorem Fr.frozen (h : Fr S w w') {p : Addr} (hp : p.block < w.heap.size) (hs : ¬ S p.block) : w'.frozen? p = w.frozen? p :=
  World.frozen?_of_block (w := w) (h.block p.block hp hs)
theorem Fr.drew (h : Fr S w w') : Fr S w w'.drew := ⟨h.os, h.tape, h.output, h.size, h.block⟩
theorem Fr.alloc (h : Fr S w w') (o : Obj) : Fr S w (w'.alloc o) :=
  ⟨h.os, h.tape, h.output, Nat.le_trans h.size (by simp), fun i hi hs => (Below.heap_alloc w' o i (Nat.lt_of_lt_of_le hi h.size)).trans (h.block i hi hs)⟩
theorem Fr.setCell (h : Fr S w w') {p : Addr} (hp : w.heap.size ≤ p.block ∨ S p.block) (u : Value) : Fr S w (w'.setCell p u) :=
  ⟨h.os, h.tape, h.output, by simpa [World.setCell] using h.size, fun i hi hs => (Below.heap_setCell w' p u i (by
    rintro rfl
    rcases hp with hp | hp
    · omega
    · exact hs hp)).trans (h.block i hi hs)⟩
theorem Old.refl' (w : World) : Old w w := Below.refl _ _
theorem Old.trans' (h : Old w w') (k : Old w' w'') : Old w w'' := h.trans (k.mono h.size)
theorem Old.drewN' (h : Old w w') (n : Nat) : Old w (w'.drewN n) := ⟨h.os, h.tape, h.output, h.size, h.block⟩
theorem Old.alloc' (h : Old w w') (o : Obj) : Old w (w'.alloc o) := h.alloc h.size o
theorem Old.setCell' (h : Old w w') {p : Addr} (hp : w.heap.size ≤ p.block) (u : Value) : Old w (w'.setCell p u) := h.setCell hp u
theorem Old.drew' (h : Old w w') : Old w w'.drew := h.drew
theorem bcell {W w1 : World} (hb : Old W w1) : (∀ b o, b < W.heap.size → w1.cell? ⟨b, o, none⟩ = W.cell? ⟨b, o, none⟩) ∧ (∀ b o, b < W.heap.size → w1.frozen? ⟨b, o, none⟩ = W.frozen? ⟨b, o, none⟩) :=
  ⟨fun b o h => hb.cell (p := ⟨b, o, none⟩) h, fun b o h => hb.frozen (p := ⟨b, o, none⟩) h⟩
end
theorem bempty : ({ data := #[] } : ByteArray) = ByteArray.empty := rfl
def CellsAt (w : World) (A : Option Addr) (cs : List Value) : Prop :=
  cs ≠ [] → ∃ b o, A = some ⟨b, o, none⟩ ∧ b < w.heap.size ∧ ∀ k u, cs[k]? = some u → w.cell? ⟨b, o + k, none⟩ = some u
def Off (S : Nat → Prop) (A : Option Addr) : Prop := ∀ a, A = some a → ¬ S a.block
section
variable {S : Nat → Prop} {w w' : World} {A : Option Addr} {cs : List Value}
theorem CellsAt.nil (w : World) (A : Option Addr) : CellsAt w A [] := fun h => absurd rfl h
theorem CellsAt.fr (h : CellsAt w A cs) (hf : Fr S w w') (ho : cs ≠ [] → Off S A) : CellsAt w' A cs := fun hn => by
  obtain ⟨b, o, rfl, hb, hc⟩ := h hn
  exact ⟨b, o, rfl, Nat.lt_of_lt_of_le hb hf.size, fun k u hk => (hf.cell (p := ⟨b, o + k, none⟩) hb (ho hn ⟨b, o, none⟩ rfl)).trans (hc k u hk)⟩
theorem CellsAt.old (h : CellsAt w A cs) (hf : Old w w') : CellsAt w' A cs :=
  h.fr (S := fun _ => False) (Fr.of_old hf) (fun _ _ _ h => h)
theorem CellsAt.drew (h : CellsAt w A cs) : CellsAt w.drew A cs := h
theorem CellsAt.alloc (h : CellsAt w A cs) (o : Obj) : CellsAt (w.alloc o) A cs := h.old ((Old.refl' w).alloc' o)
theorem CellsAt.take (h : CellsAt w A cs) (n : Nat) : CellsAt w A (cs.take n) := fun hn => by
  obtain ⟨b, o, rfl, hb, hc⟩ := h (fun e => hn (by simp [e]))
  refine ⟨b, o, rfl, hb, fun k u hk => hc k u ?_⟩
  rw [List.getElem?_take] at hk
  split at hk
  · exact hk
  · cases hk
theorem CellsAt.set_ (h : CellsAt w A cs) {p : Addr} (hp : ∀ a, A = some a → a.block ≠ p.block) (u : Value) : CellsAt (w.setCell p u) A cs :=
  h.fr (S := fun k => k = p.block) ((Fr.refl (fun k => k = p.block) w).setCell (.inr rfl) u) (fun _ a e hs => hp a e hs)
theorem add_mk (b o j : Nat) : (⟨b, o, none⟩ : Addr).add j = ⟨b, o + j, none⟩ := by
  by_cases h : j = 0
  · subst h; simp [Addr.add]
  · simp [Addr.add, h]
theorem CellsAt.news {ad : Addr} (h : CellsAt w (some ad) cs) : ∀ j u, cs[j]? = some u → w.cell? (ad.add j) = some u := fun j u hj => by
  obtain ⟨b, o, e, _, hc⟩ := h (fun e => by rw [e] at hj; simp at hj)
  injection e with e
  subst e
  rw [add_mk]
  exact hc j u hj
theorem CellsAt.of_own {base : Nat} {e : TypeId} {size n c : Nat} (h : w.ownsRow base e size (.slice A n c) n cs) : CellsAt w A cs := fun hn => by
  have h' := h
  rcases h with ⟨hl, ⟨_, h0⟩ | ⟨g, cap, cur, hv, _, hg, _⟩⟩
  · subst h0; exact absurd (List.eq_nil_of_length_eq_zero (by simpa using hl)) hn
  · have hA : A = some ⟨g, 0, none⟩ := by injection hv
    subst hA
    refine ⟨g, 0, rfl, (Array.getElem?_eq_some_iff.1 hg).1, fun k u hk => ?_⟩
    have := h'.cells (g := g) rfl k u hk
    by_cases hk0 : k = 0
    · subst hk0; simpa [Addr.add] using this
    · simpa [Addr.add, hk0] using this
end
def Bk (w : World) (g : Nat) (t : TypeId) (cs : Array Value) : Prop := w.heap[g]? = some (.cells cs t (0, 0))
section
variable {w w' : World} {g : Nat} {t : TypeId} {cs : Array Value}
theorem Bk.lt (h : Bk w g t cs) : g < w.heap.size := (Array.getElem?_eq_some_iff.1 h).1
theorem Bk.cell (h : Bk w g t cs) (i : Nat) : w.cell? ⟨g, i, none⟩ = cs[i]? := cell_of_row w g i cs t (0, 0) h
theorem Bk.frozen (h : Bk w g t cs) (i : Nat) : w.frozen? ⟨g, i, none⟩ = false := by
  unfold Bk at h
  simp [World.frozen?, h]
theorem Bk.new (w : World) (t : TypeId) (cs : Array Value) : Bk (w.alloc (.cells cs t)) w.heap.size t cs := heap_alloc_new w _
theorem Bk.drew (h : Bk w g t cs) : Bk w.drew g t cs := h
theorem Bk.alloc (h : Bk w g t cs) (o : Obj) : Bk (w.alloc o) g t cs := (Below.heap_alloc w o g h.lt).trans h
theorem Bk.set_ (h : Bk w g t cs) (i : Nat) (u : Value) : Bk (w.setCell ⟨g, i, none⟩ u) g t (cs.setIfInBounds i u) := by
  unfold Bk at h ⊢
  simp [World.setCell, Array.getElem?_modify, h]
theorem Bk.far (h : Bk w g t cs) {p : Addr} (hp : g ≠ p.block) (u : Value) : Bk (w.setCell p u) g t cs := (Below.heap_setCell w p u g hp).trans h
theorem Bk.fr {S : Nat → Prop} (h : Bk w g t cs) (hf : Fr S w w') (hs : ¬ S g) : Bk w' g t cs := (hf.block g h.lt hs).trans h
theorem Bk.old (h : Bk w g t cs) (hf : Old w w') : Bk w' g t cs := (hf.block g h.lt).trans h
theorem Bk.grown {row : Option Nat} (h : Bk w g t cs) (hb : w.grownBy w' row) (hg : some g ≠ row) : Bk w' g t cs := (hb.block g h.lt hg).trans h
theorem Bk.ne_ {g' : Nat} {t' : TypeId} {cs' : Array Value} (h : Bk w g t cs) (h' : Bk w g' t' cs') (hne : t ≠ t') : g ≠ g' := by
  rintro rfl
  unfold Bk at h h'
  rw [h] at h'
  injection h' with h'
  injection h' with _ ht
  exact hne ht
end
abbrev Ver := Bool × ByteArray
instance : Inhabited Ver := ⟨(false, ByteArray.empty)⟩
def verCells (vs : List Ver) : List Value := vs.flatMap fun v => [.bool v.1, .string v.2]
def Vers (w : World) (A : Option Addr) (vs : List Ver) : Prop := CellsAt w A (verCells vs)
def IntsAt (w : World) (A : Option Addr) (ns : List Int) : Prop := CellsAt w A (ns.map (.int .i64))
theorem verCells_length (vs : List Ver) : (verCells vs).length = vs.length * 2 := by
  induction vs with
  | nil => rfl
  | cons v vs ih => simp [verCells] at ih ⊢; omega
theorem verCells_append (vs us : List Ver) : verCells (vs ++ us) = verCells vs ++ verCells us := by simp [verCells]
theorem verCells_get (vs : List Ver) : ∀ k, k < vs.length → (verCells vs)[k * 2]? = some (.bool (vs[k]?.getD default).1) ∧ (verCells vs)[k * 2 + 1]? = some (.string (vs[k]?.getD default).2) := by
  induction vs with
  | nil => intro k h; simp at h
  | cons v vs ih =>
    intro k hk
    cases k with
    | zero => simp [verCells]
    | succ k =>
      have := ih k (by simpa using hk)
      have e : verCells (v :: vs) = .bool v.1 :: .string v.2 :: verCells vs := rfl
      rw [e, show (k + 1) * 2 = k * 2 + 1 + 1 from by omega]
      simpa using this
theorem verCells_one (vs : List Ver) : ∀ u ∈ verCells vs, u.oneCell' = true := by
  intro u hu
  simp only [verCells, List.mem_flatMap] at hu
  obtain ⟨v, _, h⟩ := hu
  simp at h
  rcases h with rfl | rfl <;> rfl
theorem Vers.at_ {w : World} {A : Option Addr} {vs : List Ver} (h : Vers w A vs) {k : Nat} (hk : k < vs.length) :
    ∃ b o, A = some ⟨b, o, none⟩ ∧ b < w.heap.size ∧ w.cell? ⟨b, o + k * 2, none⟩ = some (.bool (vs[k]?.getD default).1) ∧ w.cell? ⟨b, o + k * 2 + 1, none⟩ = some (.string (vs[k]?.getD default).2) := by
  obtain ⟨b, o, rfl, hb, hc⟩ := h (fun e => by have := verCells_length vs; rw [e] at this; simp at this; omega)
  obtain ⟨h1, h2⟩ := verCells_get vs k hk
  exact ⟨b, o, rfl, hb, hc _ _ h1, hc _ _ h2⟩
theorem IntsAt.at_ {w : World} {A : Option Addr} {ns : List Int} (h : IntsAt w A ns) {k : Nat} (hk : k < ns.length) :
    ∃ b o, A = some ⟨b, o, none⟩ ∧ b < w.heap.size ∧ w.cell? ⟨b, o + k, none⟩ = some (.int .i64 (ns[k]?.getD 0)) := by
  obtain ⟨b, o, rfl, hb, hc⟩ := h (fun e => by have : (ns.map (Value.int .i64)).length = 0 := by rw [e]; rfl
                                               simp at this; subst this; simp at hk)
  refine ⟨b, o, rfl, hb, hc k _ ?_⟩
  rw [List.getElem?_map, List.getElem?_eq_getElem hk]
  rfl
theorem Vers.old {w w' : World} {A : Option Addr} {vs : List Ver} (h : Vers w A vs) (hf : Old w w') : Vers w' A vs := CellsAt.old h hf
theorem Vers.alloc {w : World} {A : Option Addr} {vs : List Ver} (h : Vers w A vs) (o : Obj) : Vers (w.alloc o) A vs := CellsAt.alloc h o
theorem IntsAt.old {w w' : World} {A : Option Addr} {ns : List Int} (h : IntsAt w A ns) (hf : Old w w') : IntsAt w' A ns := CellsAt.old h hf
theorem IntsAt.alloc {w : World} {A : Option Addr} {ns : List Int} (h : IntsAt w A ns) (o : Obj) : IntsAt (w.alloc o) A ns := CellsAt.alloc h o
theorem bytes_eq {a b : ByteArray} : a.toList = b.toList ↔ a = b := by
  constructor
  · intro h
    rw [ByteArray.toList_eq, ByteArray.toList_eq] at h
    cases a; cases b
    simp at h
    simp [h]
  · intro h; rw [h]
theorem take_same {α : Type} [Inhabited α] {as bs : List α} {k : Nat} (h : as.take k = bs.take k) (ha : k < as.length) (hb : k < bs.length)
    (e : as[k]?.getD default = bs[k]?.getD default) : as.take (k + 1) = bs.take (k + 1) := by
  rw [List.getElem?_eq_getElem ha, List.getElem?_eq_getElem hb] at e
  have e' : as[k] = bs[k] := by simpa using e
  rw [List.take_succ_eq_append_getElem ha, List.take_succ_eq_append_getElem hb, h, e']
theorem take_other {α : Type} [Inhabited α] {as bs : List α} {k : Nat} (e : as[k]?.getD default ≠ bs[k]?.getD default) : as ≠ bs := by
  rintro rfl; exact e rfl
end Go.Proofs.Ytffahoocbjfdaaa

/- append onto a slice that the call owns, from any slice that reads as cells (none, empty or full): as a law for plain regions and for steps of drawn ones. No program. -/
namespace Go.Proofs.Ytffahoocbjfdaaa
open Go.RowKit
theorem cells_bk {w : World} {g : Nat} {t : TypeId} {cs : Array Value} (h : Bk w g t cs) : CellsAt w (some ⟨g, 0, none⟩) cs.toList := fun _ =>
  ⟨g, 0, rfl, h.lt, fun k u hk => by rw [Nat.zero_add, h.cell]; simpa using hk⟩
theorem bk_new1 (W : World) (o : Obj) (t : TypeId) (cs : Array Value) : Bk ((W.alloc o).alloc (.cells cs t)) (W.heap.size + 1) t cs := by
  have := Bk.new (W.alloc o) t cs
  rwa [World.size_alloc] at this
theorem own_set {w : World} {base : Nat} {e : TypeId} {size n : Nat} {v : Value} {xs : List Value} (h : w.ownsRow base e size v n xs) {p : Addr} (hne : v.ownBlock ≠ some p.block) (u : Value) : (w.setCell p u).ownsRow base e size v n xs :=
  h.kept (row := some p.block) ⟨rfl, rfl, rfl, by simp [World.setCell], fun k _ hk => Below.heap_setCell w p u k (fun e => hk (by rw [e]))⟩ (.inr hne)
theorem own_old {w w' : World} {base : Nat} {e : TypeId} {size n : Nat} {v : Value} {xs : List Value} (h : w.ownsRow base e size v n xs) (hb : Old w w') : w'.ownsRow base e size v n xs :=
  h.kept (row := none) ⟨hb.os, hb.tape, hb.output, hb.size, fun k hk _ => hb.block k hk⟩ (by cases hv : v.ownBlock <;> simp)
theorem own_fr {S : Nat → Prop} {w w' : World} {base : Nat} {e : TypeId} {size n : Nat} {v : Value} {xs : List Value} (h : w.ownsRow base e size v n xs) (hb : Fr S w w') (ho : ∀ k, v.ownBlock = some k → ¬ S k) : w'.ownsRow base e size v n xs := by
  refine ⟨h.1, ?_⟩
  rcases h.2 with hn | ⟨g, cap, cur, rfl, hb', hgg, rest⟩
  · exact .inl hn
  · refine .inr ⟨g, cap, cur, rfl, hb', ?_, rest⟩
    rw [hb.block g (Array.getElem?_eq_some_iff.1 hgg).1 (ho g rfl)]
    exact hgg
theorem own_form {w : World} {base : Nat} {e : TypeId} {size n : Nat} {v : Value} {xs : List Value} (h : w.ownsRow base e size v n xs) : ∃ A c, v = .slice A n c ∧ n ≤ c ∧ (∀ a, A = some a → base ≤ a.block ∧ a.block < w.heap.size ∧ a = ⟨a.block, 0, none⟩) := by
  rcases h.2 with ⟨rfl, rfl⟩ | ⟨g, cap, cur, rfl, hb, hg, hn, _⟩
  · exact ⟨_, _, rfl, Nat.le_refl _, fun _ h => by cases h⟩
  · exact ⟨_, _, rfl, hn, fun a ha => by cases ha; exact ⟨hb, (Array.getElem?_eq_some_iff.1 hg).1, rfl⟩⟩
section
variable {P : Program} (w : World)
theorem run_append_none' (base : Nat) (t ty e : TypeId) (i : TypeInfo) (size c : Nat) (ht : P.underlying t = some (.slice e)) (hi : P.info? e = some i)
    (v : Value) (n : Nat) (xs : List Value) (hown : w.ownsRow base e size v n xs) :
    (Builtin.append_ #[t, t] ty #[v, .slice none 0 c]).run P w = .ok v w := by
  rcases hown.2 with ⟨rfl, rfl⟩ | ⟨g, cap, cur, rfl, _, _, hnc, _⟩
  · simp [Builtin.append_, run_underlying ht, sizeOf, typeInfo, hi, Builtin.lenOf, Builtin.firstCells]
  · simp [Builtin.append_, run_underlying ht, sizeOf, typeInfo, hi, Builtin.lenOf, Builtin.firstCells, hnc, storeCells]
def Apps (w : World) (base : Nat) (e : TypeId) (size : Nat) (v : Value) (n' : Nat) (xs' : List Value) (v' : Value) (w' : World) : Prop :=
  w'.ownsRow base e size v' n' xs' ∧ w.grownBy w' v.ownBlock ∧ (v'.ownBlock = v.ownBlock ∨ v'.ownBlock = some w.heap.size)
theorem run_app (t ty : TypeId) (base : Nat) (e : TypeId) (i : TypeInfo) (z : Value) (size bytes : Nat) (ht : P.underlying t = some (.slice e)) (hi : P.info? e = some i) (hz : i.zero = some z)
    (hsize : i.size = size) (hby : i.bytes = bytes) (hzs : z.cells.size = size) (hsz : 0 < size)
    (v : Value) (n : Nat) (xs : List Value) (hown : w.ownsRow base e size v n xs)
    (A : Option Addr) (m c : Nat) (news : List Value) (hl : news.length = m * size) (hA : CellsAt w A news) (h1 : ∀ u ∈ news, u.oneCell' = true)
    (h63 : n + m ≤ maxLen) (hbytes : (n + m) * bytes ≤ 140737488355328) (hbase : base ≤ w.heap.size) :
    ∃ v' w', (Builtin.append_ #[t, t] ty #[v, .slice A m c]).run P w = .ok v' w' ∧ Apps w base e size v (n + m) (xs ++ news) v' w' := by
  have hsome : ∀ ad, A = some ad → ∃ v' w', (Builtin.append_ #[t, t] ty #[v, .slice (some ad) m c]).run P w = .ok v' w' ∧ Apps w base e size v (n + m) (xs ++ news) v' w' := fun ad hA' => by
    subst hA'
    obtain ⟨v', w', hr, h2, h3, _, h5⟩ := run_append_own_at (P := P) w base t ty e i z size bytes ht hi hz hsize hby hzs hsz v n xs hown ad m c news hl (CellsAt.news hA) h1 h63 hbytes hbase
    exact ⟨v', w', hr, h2, h3, h5⟩
  cases A with
  | some ad => exact hsome ad rfl
  | none =>
    have hn : news = [] := by
      rcases Classical.em (news = []) with h | h
      · exact h
      · obtain ⟨_, _, e, _⟩ := hA h
        cases e
    subst hn
    have hm : m = 0 := by
      rcases Nat.eq_zero_or_pos m with h | h
      · exact h
      · have := Nat.mul_pos h hsz
        simp at hl
        omega
    subst hm
    exact ⟨v, w, run_append_none' w base t ty e i size c ht hi v n xs hown, by simpa using hown, World.grownBy.refl w _, .inl rfl⟩
theorem wp_app {o : Oper} {a : Act} {K : Act → World → Prop} {Q : Exit → Act → World → Prop} (s x : Operand) (t : TypeId)
    (ho : o.op = .call { callee := .builtin .append, args := #[s, x], argTypes := #[t, t] })
    (base : Nat) (e : TypeId) (i : TypeInfo) (z : Value) (size bytes : Nat) (ht : P.underlying t = some (.slice e)) (hi : P.info? e = some i) (hz : i.zero = some z)
    (hsize : i.size = size) (hby : i.bytes = bytes) (hzs : z.cells.size = size) (hsz : 0 < size)
    (v : Value) (n : Nat) (xs : List Value) (hs : a.eval s = v) (hown : w.ownsRow base e size v n xs)
    (A : Option Addr) (m c : Nat) (news : List Value) (hx : a.eval x = .slice A m c) (hl : news.length = m * size) (hA : CellsAt w A news) (h1 : ∀ u ∈ news, u.oneCell' = true)
    (h63 : n + m ≤ maxLen) (hbytes : (n + m) * bytes ≤ 140737488355328) (hbase : base ≤ w.heap.size) (N : Nat) (hN : n + m = N) (ys : List Value) (hy : xs ++ news = ys)
    (h : ∀ A' c' w', Apps w base e size v N ys (.slice A' N c') w' → K (a.put o.dst (.slice A' N c')) w') : o.wp P a w K Q := by
  subst hN hy
  obtain ⟨v', w', hr, h2⟩ := run_app (P := P) w t o.type base e i z size bytes ht hi hz hsize hby hzs hsz v n xs hown A m c news hl hA h1 h63 hbytes hbase
  obtain ⟨A', c', rfl, _⟩ := own_form h2.1
  unfold Oper.wp execOp
  simp only [ho, resolve, invoke, builtin, Sem.run_bind, Sem.run_pure, Result.andThen_ok, List.map_toArray, List.map_cons, List.map_nil, hs, hx, hr]
  exact h A' c' w' h2
theorem wpList_app {ops : Array Oper} {rest : List Oper} {o : Oper} {a : Act} {Q : Exit → Act → World → Prop} (hgd : o.guard = none) (s x : Operand) (t : TypeId)
    (ho : o.op = .call { callee := .builtin .append, args := #[s, x], argTypes := #[t, t] })
    (base : Nat) (e : TypeId) (i : TypeInfo) (z : Value) (size bytes : Nat) (ht : P.underlying t = some (.slice e)) (hi : P.info? e = some i) (hz : i.zero = some z)
    (hsize : i.size = size) (hby : i.bytes = bytes) (hzs : z.cells.size = size) (hsz : 0 < size)
    (v : Value) (n : Nat) (xs : List Value) (hs : a.eval s = v) (hown : w.ownsRow base e size v n xs)
    (A : Option Addr) (m c : Nat) (news : List Value) (hx : a.eval x = .slice A m c) (hl : news.length = m * size) (hA : CellsAt w A news) (h1 : ∀ u ∈ news, u.oneCell' = true)
    (h63 : n + m ≤ maxLen) (hbytes : (n + m) * bytes ≤ 140737488355328) (hbase : base ≤ w.heap.size) (N : Nat) (hN : n + m = N) (ys : List Value) (hy : xs ++ news = ys)
    (h : ∀ A' c' w', Apps w base e size v N ys (.slice A' N c') w' → wpList P ops Q rest (a.put o.dst (.slice A' N c')) w') : wpList P ops Q (o :: rest) a w :=
  wpList_plain hgd fun _ hK => wp_app w s x t ho base e i z size bytes ht hi hz hsize hby hzs hsz v n xs hs hown A m c news hx hl hA h1 h63 hbytes hbase N hN ys hy fun A' c' w' h2 => hK _ _ (h A' c' w' h2)
theorem step_app {ops : Array Oper} {o : Oper} {a : Act} {K : Act → World → Prop} {Q : Exit → Act → World → Prop} {E : Prop} (hgd : o.guard = none) (s x : Operand) (t : TypeId)
    (ho : o.op = .call { callee := .builtin .append, args := #[s, x], argTypes := #[t, t] })
    (base : Nat) (e : TypeId) (i : TypeInfo) (z : Value) (size bytes : Nat) (ht : P.underlying t = some (.slice e)) (hi : P.info? e = some i) (hz : i.zero = some z)
    (hsize : i.size = size) (hby : i.bytes = bytes) (hzs : z.cells.size = size) (hsz : 0 < size)
    (v : Value) (n : Nat) (xs : List Value) (hs : a.eval s = v) (hown : w.ownsRow base e size v n xs)
    (A : Option Addr) (m c : Nat) (news : List Value) (hx : a.eval x = .slice A m c) (hl : news.length = m * size) (hA : CellsAt w A news) (h1 : ∀ u ∈ news, u.oneCell' = true)
    (h63 : n + m ≤ maxLen) (hbytes : (n + m) * bytes ≤ 140737488355328) (hbase : base ≤ w.heap.size) (N : Nat) (hN : n + m = N) (ys : List Value) (hy : xs ++ news = ys)
    (h : ∀ A' c' w', Apps w base e size v N ys (.slice A' N c') w' → K (a.put o.dst (.slice A' N c')) w') :
    if Region.wanted o (yielded ops a.tmps) = true then Oper.wp P o a w K Q else E := by
  have hw : Region.wanted o (yielded ops a.tmps) = true := by simp [Region.wanted, hgd]
  rw [if_pos hw]
  exact wp_app w s x t ho base e i z size bytes ht hi hz hsize hby hzs hsz v n xs hs hown A m c news hx hl hA h1 h63 hbytes hbase N hN ys hy h
end
section
variable {w w' : World} {base : Nat} {e : TypeId} {size n' : Nat} {v v' : Value} {xs' : List Value}
theorem Apps.own (h : Apps w base e size v n' xs' v' w') : w'.ownsRow base e size v' n' xs' := h.1
theorem Apps.old {w0 : World} (h : Apps w base e size v n' xs' v' w') (hb : Old w0 w) (hv : ∀ k, v.ownBlock = some k → w0.heap.size ≤ k) : Old w0 w' :=
  hb.grown h.2.1 hb.size hv
theorem Apps.block (h : Apps w base e size v n' xs' v' w') {k : Nat} (hk : k < w.heap.size) (hne : v.ownBlock ≠ some k) : w'.heap[k]? = w.heap[k]? := h.2.1.block k hk (fun e => hne e.symm)
theorem Apps.bk {g : Nat} {t : TypeId} {cs : Array Value} (h : Apps w base e size v n' xs' v' w') (hb : Bk w g t cs) (hne : v.ownBlock ≠ some g) : Bk w' g t cs := (h.block hb.lt hne).trans hb
theorem Apps.fr {S : Nat → Prop} (h : Apps w base e size v n' xs' v' w') (hv : ∀ k, k < w.heap.size → v.ownBlock = some k → S k) : Fr S w w' := Fr.of_grown h.2.1 hv
end
theorem run_callFunc {P : Program} {w : World} {f : FuncId} {fn : Func} (vals : Array Value) (hf : P.funcs[f]? = some fn) (hn : (fn.name == "runtime.NumGoroutine") = false) (hb : fn.body.isNone = false) :
    (callFunc f vals).run P w = .ok (.enter f vals) w := by
  unfold callFunc
  rw [Sem.run_bind]
  show Sem.run P (match P.funcs[f]? with
    | none => _
    | some fn => _) w = _
  rw [hf]
  simp only [hn, hb, Bool.false_eq_true, if_false, Sem.run_pure]
theorem step_call {P : Program} {w : World} {ops : Array Oper} {o : Oper} {a : Act} {K : Act → World → Prop} {Q : Exit → Act → World → Prop} {E : Prop} (hgd : o.guard = none) (f : FuncId) (fn : Func) (hf : P.funcs[f]? = some fn) (hn : (fn.name == "runtime.NumGoroutine") = false) (hb : fn.body.isNone = false) (xs : List Operand) (tys : Array TypeId)
    (ho : o.op = .call { callee := .value (.func f), args := xs.toArray, argTypes := tys }) (vals : List Value) (hv : xs.map a.eval = vals) {R : Ending → World → Prop} (h : Calls P f vals.toArray w R)
    (hR : ∀ e w', R e w' → ∃ v, e = .returned v ∧ K (a.put o.dst v) w') :
    if Region.wanted o (yielded ops a.tmps) = true then Oper.wp P o a w K Q else E := by
  have hw : Region.wanted o (yielded ops a.tmps) = true := by simp [Region.wanted, hgd]
  rw [if_pos hw]
  unfold Oper.wp execOp
  simp only [ho, resolve, invoke, Sem.run_bind, Sem.run_pure, Result.andThen_ok, List.map_toArray, hv, Act.eval, Deferred.ofValue, Array.append_empty, Array.empty_append, run_callFunc _ hf hn hb]
  refine h.mono fun e w' he => ?_
  obtain ⟨v, rfl, hk⟩ := hR e w' he
  exact hk
end Go.Proofs.Ytffahoocbjfdaaa

/- A row that the call owns: appended to within its room, cut, cleared behind its end; stores into it. No program. -/
namespace Go.Proofs.Ytffahoocbjfdaaa
open Go.RowKit
section
variable {P : Program} {w w' : World} {base : Nat} {e : TypeId} {size g n cap : Nat} {xs : List Value}
theorem own_some (h : w.ownsRow base e size (.slice (some ⟨g, 0, none⟩) n cap) n xs) : base ≤ g ∧ n ≤ cap ∧ cap ≤ maxLen ∧ ∃ cur, Bk w g e cur ∧ cur.size = cap * size ∧ cur.toList.take (n * size) = xs := by
  rcases h.2 with ⟨h', _⟩ | ⟨g', cap', cur, h', hb, hg, hn, hm, hs, ht⟩
  · simp at h'
  · simp only [Value.slice.injEq, Option.some.injEq, Addr.mk.injEq, and_true, true_and] at h'
    obtain ⟨rfl, rfl⟩ := h'
    exact ⟨hb, hn, hm, cur, hg, hs, ht⟩
theorem own_mk {cur : Array Value} (hb : base ≤ g) (hn : n ≤ cap) (hm : cap ≤ maxLen) (hg : Bk w g e cur) (hs : cur.size = cap * size) (ht : cur.toList.take (n * size) = xs) :
    w.ownsRow base e size (.slice (some ⟨g, 0, none⟩) n cap) n xs := by
  refine ⟨?_, .inr ⟨g, cap, cur, rfl, hb, hg, hn, hm, hs, ht⟩⟩
  rw [← ht, List.length_take, Array.length_toList, hs]
  exact Nat.min_eq_left (Nat.mul_le_mul_right _ hn)
theorem own_cut (h : w.ownsRow base e size (.slice (some ⟨g, 0, none⟩) n cap) n xs) {k : Nat} (hk : k ≤ n) : w.ownsRow base e size (.slice (some ⟨g, 0, none⟩) k cap) k (xs.take (k * size)) := by
  obtain ⟨hb, hn, hm, cur, hg, hs, ht⟩ := own_some h
  refine own_mk hb (by omega) hm hg hs ?_
  rw [← ht, List.take_take, Nat.min_eq_left (Nat.mul_le_mul_right _ hk)]
theorem own_cells (h : w.ownsRow base e size (.slice (some ⟨g, 0, none⟩) n cap) n xs) : ∀ k u, xs[k]? = some u → w.cell? ⟨g, k, none⟩ = some u := fun k u hk => by
  obtain ⟨hb, hn, hm, cur, hg, hs, ht⟩ := own_some h
  rw [hg.cell, ← Array.getElem?_toList]
  rw [← ht, List.getElem?_take] at hk
  split at hk
  · exact hk
  · cases hk
theorem own_frozen (h : w.ownsRow base e size (.slice (some ⟨g, 0, none⟩) n cap) n xs) (k : Nat) : w.frozen? ⟨g, k, none⟩ = false := by
  obtain ⟨_, _, _, cur, hg, _, _⟩ := own_some h
  exact hg.frozen k
theorem own_lt (h : w.ownsRow base e size (.slice (some ⟨g, 0, none⟩) n cap) n xs) : g < w.heap.size := by
  obtain ⟨_, _, _, cur, hg, _, _⟩ := own_some h
  exact hg.lt
theorem own_rest (h : w.ownsRow base e size (.slice (some ⟨g, 0, none⟩) n cap) n xs) (j : Nat) : CellsAt w (some ⟨g, j, none⟩) (xs.drop j) := fun _ =>
  ⟨g, j, rfl, own_lt h, fun k u hk => own_cells h _ u (by rw [List.getElem?_drop] at hk; exact hk)⟩
theorem own_store (h : w.ownsRow base e size (.slice (some ⟨g, 0, none⟩) n cap) n xs) (j : Nat) (u : Value) : (w.setCell ⟨g, j, none⟩ u).ownsRow base e size (.slice (some ⟨g, 0, none⟩) n cap) n (xs.set j u) := by
  obtain ⟨hb, hn, hm, cur, hg, hs, ht⟩ := own_some h
  refine own_mk hb hn hm (hg.set_ j u) (by simpa using hs) ?_
  rw [Array.toList_setIfInBounds, List.take_set, ht]
theorem own_size (h : w.ownsRow base e size (.slice (some ⟨g, 0, none⟩) n cap) n xs) : n ≤ cap ∧ cap ≤ maxLen := by
  obtain ⟨_, h1, h2, _⟩ := own_some h
  exact ⟨h1, h2⟩
theorem own_ne_bk {v : Value} {t : TypeId} {cs : Array Value} (h : w.ownsRow base e size v n xs) (hb : Bk w g t cs) (hne : e ≠ t) : v.ownBlock ≠ some g := by
  rcases h.2 with ⟨rfl, _⟩ | ⟨g', cap', cur, rfl, _, hg, _⟩
  · simp [Value.ownBlock]
  · intro e'
    obtain rfl : g' = g := by simpa [Value.ownBlock] using e'
    exact Bk.ne_ (g := g') hg hb hne rfl
theorem own_blk {v : Value} (h : w.ownsRow base e size v n xs) {k : Nat} (hk : v.ownBlock = some k) : base ≤ k ∧ ∃ cur, Bk w k e cur := by
  rcases h.2 with ⟨rfl, _⟩ | ⟨g, cap, cur, rfl, hb, hg, _⟩
  · simp [Value.ownBlock] at hk
  · obtain rfl : g = k := by simpa [Value.ownBlock] using hk
    exact ⟨hb, cur, hg⟩
end
end Go.Proofs.Ytffahoocbjfdaaa
namespace Go.Proofs.Ytffahoocbjfdaaa
open Go.RowKit
section
variable {T U : TypeId → Prop} {base : Nat} {w w' w'' : World}
theorem Old.fr_new {S : Nat → Prop} (h : Old w w') (f : Fr S w' w'') (hS : ∀ k, S k → w.heap.size ≤ k) : Old w w'' :=
  ⟨f.os.trans h.os, f.tape.trans h.tape, f.output.trans h.output, Nat.le_trans h.size f.size,
    fun i hi => (f.block i (Nat.lt_of_lt_of_le hi h.size) (fun hs => by have := hS i hs; omega)).trans (h.block i hi)⟩
end
end Go.Proofs.Ytffahoocbjfdaaa

/- A region that draws its order: loads taken first under S, S asked only behind operations that do not wait for them (Z: those that wait: the stores at the end). No program. -/
namespace Go.Proofs.Ytffahoocbjfdaaa
open Go.RowKit
section
variable {P : Program} {md : Region.Mode} {ops : Array Oper} {Q : Exit → Act → World → Prop} {S : World → Prop} {Z : Nat → Bool}
def wpAnyZ (P : Program) (md : Region.Mode) (ops : Array Oper) (Q : Exit → Act → World → Prop) (S : World → Prop) (Z : Nat → Bool) : Nat → Array Bool → Act → World → Prop
  | 0, listed, a, w => Region.ready md ops listed = [] ∧ Q .normal a w
  | fuel + 1, listed, a, w =>
    (Region.ready md ops listed = [] → Q .normal a w) ∧
    ∀ i ∈ Region.ready md ops listed, wpOp P ops Q i (fun a' w' => (Z i = true ∨ (S w → S w')) ∧ wpAnyZ P md ops Q S Z fuel (listed.setIfInBounds i true) a' w') a w
theorem wpAny_of_Z : ∀ (fuel : Nat) (listed : Array Bool) (a : Act) (w : World), wpAnyZ P md ops Q S Z fuel listed a w → wpAny P md ops Q fuel listed a w
  | 0, _, _, _, h => h
  | fuel + 1, _, _, _, h => ⟨h.1, fun i hi => wpOp_mono (fun a' w' h' => wpAny_of_Z fuel _ a' w' h'.2) (h.2 i hi)⟩
def waitsAll (md : Region.Mode) (ops : Array Oper) (zs : List Nat) (i : Nat) : Bool :=
  zs.all fun j => match ops[j]? with
    | some o => o.after.any fun e => Region.binds md e && e.on == i
    | none => true
theorem wpAnyZ_first {i : Nat} {oi : Oper} {v : Value} (hi : ops[i]? = some oi) (hsel : ∀ (j : Nat) (o : Oper) cs b, ops[j]? = some o → o.op ≠ .select cs b)
    (hZ : ∀ j oj, ops[j]? = some oj → Z j = true → ∃ e ∈ oj.after, Region.binds md e = true ∧ e.on = i)
    (hQ : ∀ c a w, Q (.panic c) (a.put oi.dst v) w → Q (.panic c) a w) :
    ∀ (fuel : Nat) (listed : Array Bool) (a : Act) (w : World),
      (∀ j oj, ops[j]? = some oj → j ≠ i → listed.getD j true = false → (∀ e ∈ oj.after, Region.binds md e = true → e.on ≠ i) → oi.apart ops oj = true) →
      i ∈ Region.ready md ops listed → YieldsIf P ops S oi v a → S w →
      wpAnyZ P md ops Q S Z fuel (listed.setIfInBounds i true) (a.put oi.dst v) w → wpAnyZ P md ops Q S Z (fuel + 1) listed a w := by
  intro fuel
  induction fuel with
  | zero =>
    intro listed a w _ hr hy hS H
    refine ⟨fun h => (by rw [h] at hr; cases hr), fun j hj => ?_⟩
    by_cases hji : j = i
    · subst hji; exact hy.wpOp hi hS ⟨.inr id, H⟩
    · have := ready_mono hj hji
      rw [H.1] at this
      cases this
  | succ fuel ih =>
    intro listed a w hfree hr hy hS H
    refine ⟨fun h => (by rw [h] at hr; cases hr), fun j hj => ?_⟩
    by_cases hji : j = i
    · subst hji; exact hy.wpOp hi hS ⟨.inr id, H⟩
    · have h1 := H.2 j (ready_mono hj hji)
      obtain ⟨hjun, oj, hoj, hall⟩ := mem_ready.1 hj
      have hnot : ∀ e ∈ oj.after, Region.binds md e = true → e.on ≠ i := fun e he hb heq => by
        have h1 := hall e he hb
        have h0 := (mem_ready.1 hr).1
        rw [heq] at h1
        rcases Nat.lt_or_ge i listed.size with h' | h'
        · simp [h'] at h0 h1; rw [h0] at h1; cases h1
        · simp [Array.getElem?_eq_none h'] at h1
      have hzj : Z j ≠ true := fun hz => by
        obtain ⟨e, he, hb, ho⟩ := hZ j oj hoj hz
        exact hnot e he hb ho
      have h2 := wpOp_putIf hoj (hfree j oj hoj hji hjun hnot) (fun cs b => hsel i oi cs b hi) (fun cs b => hsel j oj cs b hoj) hQ hy h1
      have hfree' : ∀ k ok, ops[k]? = some ok → k ≠ i → (listed.setIfInBounds j true).getD k true = false →
          (∀ e ∈ ok.after, Region.binds md e = true → e.on ≠ i) → oi.apart ops ok = true := fun k ok hk hki hun hno => by
        refine hfree k ok hk hki ?_ hno
        by_cases hjk : j = k
        · subst hjk; exact hjun
        · rw [getD_set_ne true hjk] at hun; exact hun
      refine wpOp_mono (fun a' w' h3 => ⟨h3.2.1, ih (listed.setIfInBounds j true) a' w' hfree' (ready_mono hr (Ne.symm hji)) h3.1 (h3.2.1.resolve_left hzj hS) ?_⟩) h2
      rw [Array.setIfInBounds_comm _ _ hji]
      exact h3.2.2
theorem wpAnyZ_free {i : Nat} {oi : Oper} {v : Value} (hi : ops[i]? = some oi) (hsel : ∀ (j : Nat) (o : Oper) cs b, ops[j]? = some o → o.op ≠ .select cs b)
    (hQ : ∀ c a w, Q (.panic c) (a.put oi.dst v) w → Q (.panic c) a w) :
    ∀ (fuel : Nat) (listed : Array Bool) (a : Act) (w : World),
      (∀ j oj, ops[j]? = some oj → j ≠ i → listed.getD j true = false → (∀ e ∈ oj.after, Region.binds md e = true → e.on ≠ i) → oi.apart ops oj = true) →
      i ∈ Region.ready md ops listed → YieldsIf P ops (fun _ => True) oi v a →
      wpAnyZ P md ops Q S Z fuel (listed.setIfInBounds i true) (a.put oi.dst v) w → wpAnyZ P md ops Q S Z (fuel + 1) listed a w := by
  intro fuel
  induction fuel with
  | zero =>
    intro listed a w _ hr hy H
    refine ⟨fun h => (by rw [h] at hr; cases hr), fun j hj => ?_⟩
    by_cases hji : j = i
    · subst hji; exact hy.wpOp hi trivial ⟨.inr id, H⟩
    · have := ready_mono hj hji
      rw [H.1] at this
      cases this
  | succ fuel ih =>
    intro listed a w hfree hr hy H
    refine ⟨fun h => (by rw [h] at hr; cases hr), fun j hj => ?_⟩
    by_cases hji : j = i
    · subst hji; exact hy.wpOp hi trivial ⟨.inr id, H⟩
    · have h1 := H.2 j (ready_mono hj hji)
      obtain ⟨hjun, oj, hoj, hall⟩ := mem_ready.1 hj
      have hnot : ∀ e ∈ oj.after, Region.binds md e = true → e.on ≠ i := fun e he hb heq => by
        have h1 := hall e he hb
        have h0 := (mem_ready.1 hr).1
        rw [heq] at h1
        rcases Nat.lt_or_ge i listed.size with h' | h'
        · simp [h'] at h0 h1; rw [h0] at h1; cases h1
        · simp [Array.getElem?_eq_none h'] at h1
      have h2 := wpOp_putIf hoj (hfree j oj hoj hji hjun hnot) (fun cs b => hsel i oi cs b hi) (fun cs b => hsel j oj cs b hoj) hQ hy h1
      have hfree' : ∀ k ok, ops[k]? = some ok → k ≠ i → (listed.setIfInBounds j true).getD k true = false →
          (∀ e ∈ ok.after, Region.binds md e = true → e.on ≠ i) → oi.apart ops ok = true := fun k ok hk hki hun hno => by
        refine hfree k ok hk hki ?_ hno
        by_cases hjk : j = k
        · subst hjk; exact hjun
        · rw [getD_set_ne true hjk] at hun; exact hun
      refine wpOp_mono (fun a' w' h3 => ⟨h3.2.1, ih (listed.setIfInBounds j true) a' w' hfree' (ready_mono hr (Ne.symm hji)) h3.1 ?_⟩) h2
      rw [Array.setIfInBounds_comm _ _ hji]
      exact h3.2.2
theorem waits_spec {zs : List Nat} {i : Nat} (h : waitsAll md ops zs i = true) : ∀ j oj, ops[j]? = some oj → zs.contains j = true → ∃ e ∈ oj.after, Region.binds md e = true ∧ e.on = i := fun j oj hj hz => by
  unfold waitsAll at h
  rw [List.all_eq_true] at h
  have := h j (by simpa using hz)
  simp only [hj, Array.any_eq_true'] at this
  obtain ⟨e, he, hb⟩ := this
  simp only [Bool.and_eq_true, beq_iff_eq] at hb
  exact ⟨e, he, hb.1, hb.2⟩
theorem wpAnyZ_take {zs : List Nat} (i : Nat) {oi : Oper} (v : Value) {fuel : Nat} {listed : Array Bool} {a : Act} {w : World} (hi : ops[i]? = some oi)
    (hs : Region.noSelect ops = true) (hf : Region.free md ops listed i = true) (hr : (Region.ready md ops listed).contains i = true) (hz : waitsAll md ops zs i = true)
    (hQ : ∀ c a w, Q (.panic c) (a.put oi.dst v) w → Q (.panic c) a w) (hy : YieldsIf P ops S oi v a) (hS : S w)
    (h : wpAnyZ P md ops Q S zs.contains fuel (listed.setIfInBounds i true) (a.put oi.dst v) w) : wpAnyZ P md ops Q S zs.contains (fuel + 1) listed a w :=
  wpAnyZ_first hi (Region.noSelect_spec hs) (waits_spec hz) hQ fuel listed a w (Region.free_spec hi hf) (by simpa using hr) hy hS h
theorem wpAnyZ_pure (i : Nat) {oi : Oper} (v : Value) {fuel : Nat} {listed : Array Bool} {a : Act} {w : World} (hi : ops[i]? = some oi)
    (hs : Region.noSelect ops = true) (hf : Region.free md ops listed i = true) (hr : (Region.ready md ops listed).contains i = true)
    (hQ : ∀ c a w, Q (.panic c) (a.put oi.dst v) w → Q (.panic c) a w) (hy : YieldsIf P ops (fun _ => True) oi v a)
    (h : wpAnyZ P md ops Q S Z fuel (listed.setIfInBounds i true) (a.put oi.dst v) w) : wpAnyZ P md ops Q S Z (fuel + 1) listed a w :=
  wpAnyZ_free hi (Region.noSelect_spec hs) hQ fuel listed a w (Region.free_spec hi hf) (by simpa using hr) hy h
theorem wpAnyZ_all {rs : List Nat} {fuel : Nat} {listed : Array Bool} {a : Act} {w : World} (hr : Region.ready md ops listed = rs) (hne : rs ≠ [])
    (h : ∀ i ∈ rs, wpOp P ops Q i (fun a' w' => (Z i = true ∨ (S w → S w')) ∧ wpAnyZ P md ops Q S Z fuel (listed.setIfInBounds i true) a' w') a w) : wpAnyZ P md ops Q S Z (fuel + 1) listed a w :=
  ⟨fun h0 => absurd (hr ▸ h0) hne, hr ▸ h⟩
theorem wpAnyZ_done {listed : Array Bool} {a : Act} {w : World} (hr : Region.ready md ops listed = []) (h : Q .normal a w) :
    ∀ fuel, wpAnyZ P md ops Q S Z fuel listed a w
  | 0 => ⟨hr, h⟩
  | _ + 1 => ⟨fun _ => h, by rw [hr]; simp⟩
theorem wp_region_Z {id : Nat} {a : Act} {w : World} (hm : P.follows .mixedOrders = true)
    (h : wpAnyZ P .any ops Q S Z ops.size (Array.replicate ops.size false) a { w with drawn := w.drawn + 1 }) : (Code.region id ops true).wp P Q a w :=
  wp_region_any hm (wpAny_of_Z _ _ _ _ h)
theorem wpOp_mk {i : Nat} {o : Oper} {K : Act → World → Prop} {a : Act} {w : World} (hi : ops[i]? = some o) (hg : o.guard = none) (h : Oper.wp P o a w K Q) : wpOp P ops Q i K a w := by
  have hw : Region.wanted o (yielded ops a.tmps) = true := by simp [Region.wanted, hg]
  unfold Go.wpOp
  simp only [hi, hw, if_true]
  exact .inl h
theorem wpOp_call {i : Nat} {o : Oper} {K : Act → World → Prop} {a : Act} {w : World} (hi : ops[i]? = some o) (hgd : o.guard = none) (f : FuncId) (fn : Func) (hf : P.funcs[f]? = some fn) (hn : (fn.name == "runtime.NumGoroutine") = false) (hb : fn.body.isNone = false) (xs : List Operand) (tys : Array TypeId)
    (ho : o.op = .call { callee := .value (.func f), args := xs.toArray, argTypes := tys }) (vals : List Value) (hv : xs.map a.eval = vals) {R : Ending → World → Prop} (h : Calls P f vals.toArray w R)
    (hR : ∀ e w', R e w' → ∃ v, e = .returned v ∧ K (a.put o.dst v) w') : wpOp P ops Q i K a w := by
  have hw : Region.wanted o (yielded ops a.tmps) = true := by simp [Region.wanted, hgd]
  have := step_call (P := P) (ops := ops) (Q := Q) (E := False) hgd f fn hf hn hb xs tys ho vals hv h hR
  rw [if_pos hw] at this
  exact wpOp_mk hi hgd this
theorem wpOp_run {i : Nat} {o : Oper} {K : Act → World → Prop} {a : Act} {w w' : World} (u : Value) (hi : ops[i]? = some o) (hg : o.guard = none) (hr : (execOp a.eval o).run P w = .ok (.value u) w') (h : K (a.put o.dst u) w') : wpOp P ops Q i K a w :=
  wpOp_mk hi hg (by unfold Oper.wp; rw [hr]; exact h)
end
end Go.Proofs.Ytffahoocbjfdaaa
namespace Go.Proofs.Ytffahoocbjfdaaa
open Go.RowKit
section
variable {P : Program} {md : Region.Mode} {ops : Array Oper} {Q : Exit → Act → World → Prop} {S : World → Prop} {Z : Nat → Bool}
theorem wpAnyZ_pureD (i : Nat) {oi : Oper} (d : Option Nat) (v : Value) {fuel : Nat} {listed : Array Bool} {a : Act} {w : World} (hi : ops[i]? = some oi) (hd : oi.dst = d)
    (hs : Region.noSelect ops = true) (hf : Region.free md ops listed i = true) (hr : (Region.ready md ops listed).contains i = true)
    (hQ : ∀ c a w, Q (.panic c) (a.put d v) w → Q (.panic c) a w) (hy : YieldsIf P ops (fun _ => True) oi v a)
    (h : wpAnyZ P md ops Q S Z fuel (listed.setIfInBounds i true) (a.put d v) w) : wpAnyZ P md ops Q S Z (fuel + 1) listed a w := by
  subst hd
  exact wpAnyZ_pure i v hi hs hf hr hQ hy h
theorem wpAnyZ_takeD {zs : List Nat} (i : Nat) {oi : Oper} (d : Option Nat) (v : Value) {fuel : Nat} {listed : Array Bool} {a : Act} {w : World} (hi : ops[i]? = some oi) (hd : oi.dst = d)
    (hs : Region.noSelect ops = true) (hf : Region.free md ops listed i = true) (hr : (Region.ready md ops listed).contains i = true) (hz : waitsAll md ops zs i = true)
    (hQ : ∀ c a w, Q (.panic c) (a.put d v) w → Q (.panic c) a w) (hy : YieldsIf P ops S oi v a) (hS : S w)
    (h : wpAnyZ P md ops Q S zs.contains fuel (listed.setIfInBounds i true) (a.put d v) w) : wpAnyZ P md ops Q S zs.contains (fuel + 1) listed a w := by
  subst hd
  exact wpAnyZ_take i v hi hs hf hr hz hQ hy hS h
theorem wpOp_callD {i : Nat} {o : Oper} (d : Option Nat) {K : Act → World → Prop} {a : Act} {w : World} (hi : ops[i]? = some o) (hd : o.dst = d) (hw : Region.wanted o (yielded ops a.tmps) = true) (f : FuncId) (fn : Func) (hf : P.funcs[f]? = some fn) (hn : (fn.name == "runtime.NumGoroutine") = false) (hb : fn.body.isNone = false) (xs : List Operand) (tys : Array TypeId)
    (ho : o.op = .call { callee := .value (.func f), args := xs.toArray, argTypes := tys }) (vals : List Value) (hv : xs.map a.eval = vals) {R : Ending → World → Prop} (h : Calls P f vals.toArray w R)
    (hR : ∀ e w', R e w' → ∃ v, e = .returned v ∧ K (a.put d v) w') : wpOp P ops Q i K a w := by
  subst hd
  unfold Go.wpOp
  simp only [hi, hw, if_true]
  left
  unfold Oper.wp execOp
  simp only [ho, resolve, invoke, Sem.run_bind, Sem.run_pure, Result.andThen_ok, List.map_toArray, hv, Act.eval, Deferred.ofValue, Array.append_empty, Array.empty_append, run_callFunc _ hf hn hb]
  refine h.mono fun e w' he => ?_
  obtain ⟨v, rfl, hk⟩ := hR e w' he
  exact hk
theorem wpAnyZ_one {fuel : Nat} {listed : Array Bool} {a : Act} {w : World} (i : Nat) (hr : (Region.ready md ops listed == [i]) = true)
    (h : wpOp P ops Q i (fun a' w' => (Z i = true ∨ (S w → S w')) ∧ wpAnyZ P md ops Q S Z fuel (listed.setIfInBounds i true) a' w') a w) : wpAnyZ P md ops Q S Z (fuel + 1) listed a w :=
  wpAnyZ_all (eq_of_beq hr) (by simp) fun j hj => by rw [List.mem_singleton] at hj; subst hj; exact h
theorem wpAnyZ_end {listed : Array Bool} {a : Act} {w : World} (hr : (Region.ready md ops listed).isEmpty = true) (h : Q .normal a w) (fuel : Nat) : wpAnyZ P md ops Q S Z fuel listed a w :=
  wpAnyZ_done (List.isEmpty_iff.1 hr) h fuel
end
end Go.Proofs.Ytffahoocbjfdaaa

/- append(b, s...), s a string: the law with the row's block told. No program. -/
namespace Go.Proofs.Ytffahoocbjfdaaa
open Go.RowKit Go.Lib
end Go.Proofs.Ytffahoocbjfdaaa
