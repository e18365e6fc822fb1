/- A row that the call owns: appended to within its room, cut, cleared behind its end; stores into it. No program. -/
import Derived.Deep.RegionLaw
import Derived.Test.YtcbnibldlbnkbaaApp
namespace Go.Proofs.Ytcbnibldlbnkbaa
open Go.RowKit

section
variable {P : Program} {w w' : World} {base : Nat} {e : TypeId} {size g n cap : Nat} {xs : List Value}

theorem own_some (h : w.ownsRow base e size (.slice (some ⟨g, 0, none⟩) n cap) n xs) : base ≤ g ∧ n ≤ cap ∧ cap ≤ maxLen ∧ ∃ cur, Bk w g e cur ∧ cur.size = cap * size ∧ cur.toList.take (n * size) = xs := by
  rcases h.2 with ⟨h', _⟩ | ⟨g', cap', cur, h', hb, hg, hn, hm, hs, ht⟩
  · simp at h'
  · simp only [Value.slice.injEq, Option.some.injEq, Addr.mk.injEq, and_true, true_and] at h'
    obtain ⟨rfl, rfl⟩ := h'
    exact ⟨hb, hn, hm, cur, hg, hs, ht⟩
theorem own_mk {cur : Array Value} (hb : base ≤ g) (hn : n ≤ cap) (hm : cap ≤ maxLen) (hg : Bk w g e cur) (hs : cur.size = cap * size) (ht : cur.toList.take (n * size) = xs) :
    w.ownsRow base e size (.slice (some ⟨g, 0, none⟩) n cap) n xs := by
  refine ⟨?_, .inr ⟨g, cap, cur, rfl, hb, hg, hn, hm, hs, ht⟩⟩
  rw [← ht, List.length_take, Array.length_toList, hs]
  exact Nat.min_eq_left (Nat.mul_le_mul_right _ hn)
theorem own_cut (h : w.ownsRow base e size (.slice (some ⟨g, 0, none⟩) n cap) n xs) {k : Nat} (hk : k ≤ n) : w.ownsRow base e size (.slice (some ⟨g, 0, none⟩) k cap) k (xs.take (k * size)) := by
  obtain ⟨hb, hn, hm, cur, hg, hs, ht⟩ := own_some h
  refine own_mk hb (by omega) hm hg hs ?_
  rw [← ht, List.take_take, Nat.min_eq_left (Nat.mul_le_mul_right _ hk)]
theorem own_cells (h : w.ownsRow base e size (.slice (some ⟨g, 0, none⟩) n cap) n xs) : ∀ k u, xs[k]? = some u → w.cell? ⟨g, k, none⟩ = some u := fun k u hk => by
  obtain ⟨hb, hn, hm, cur, hg, hs, ht⟩ := own_some h
  rw [hg.cell, ← Array.getElem?_toList]
  rw [← ht, List.getElem?_take] at hk
  split at hk
  · exact hk
  · cases hk
theorem own_frozen (h : w.ownsRow base e size (.slice (some ⟨g, 0, none⟩) n cap) n xs) (k : Nat) : w.frozen? ⟨g, k, none⟩ = false := by
  obtain ⟨_, _, _, cur, hg, _, _⟩ := own_some h
  exact hg.frozen k
theorem own_lt (h : w.ownsRow base e size (.slice (some ⟨g, 0, none⟩) n cap) n xs) : g < w.heap.size := by
  obtain ⟨_, _, _, cur, hg, _, _⟩ := own_some h
  exact hg.lt
theorem own_rest (h : w.ownsRow base e size (.slice (some ⟨g, 0, none⟩) n cap) n xs) (j : Nat) : CellsAt w (some ⟨g, j, none⟩) (xs.drop j) := fun _ =>
  ⟨g, j, rfl, own_lt h, fun k u hk => own_cells h _ u (by rw [List.getElem?_drop] at hk; exact hk)⟩
/-- a cell of the row is stored -/
theorem own_store (h : w.ownsRow base e size (.slice (some ⟨g, 0, none⟩) n cap) n xs) (j : Nat) (u : Value) : (w.setCell ⟨g, j, none⟩ u).ownsRow base e size (.slice (some ⟨g, 0, none⟩) n cap) n (xs.set j u) := by
  obtain ⟨hb, hn, hm, cur, hg, hs, ht⟩ := own_some h
  refine own_mk hb hn hm (hg.set_ j u) (by simpa using hs) ?_
  rw [Array.toList_setIfInBounds, List.take_set, ht]
theorem own_size (h : w.ownsRow base e size (.slice (some ⟨g, 0, none⟩) n cap) n xs) : n ≤ cap ∧ cap ≤ maxLen := by
  obtain ⟨_, h1, h2, _⟩ := own_some h
  exact ⟨h1, h2⟩

theorem own_ne_bk {v : Value} {t : TypeId} {cs : Array Value} (h : w.ownsRow base e size v n xs) (hb : Bk w g t cs) (hne : e ≠ t) : v.ownBlock ≠ some g := by
  rcases h.2 with ⟨rfl, _⟩ | ⟨g', cap', cur, rfl, _, hg, _⟩
  · simp [Value.ownBlock]
  · intro e'
    obtain rfl : g' = g := by simpa [Value.ownBlock] using e'
    exact Bk.ne_ (g := g') hg hb hne rfl
theorem own_mono {v : Value} {b : Nat} (h : w.ownsRow base e size v n xs) (hb : b ≤ base) : w.ownsRow b e size v n xs := by
  refine ⟨h.1, ?_⟩
  rcases h.2 with hn | ⟨g, cap, cur, rfl, hb', rest⟩
  · exact .inl hn
  · exact .inr ⟨g, cap, cur, rfl, Nat.le_trans hb hb', rest⟩
theorem own_blk {v : Value} (h : w.ownsRow base e size v n xs) {k : Nat} (hk : v.ownBlock = some k) : base ≤ k ∧ ∃ cur, Bk w k e cur := by
  rcases h.2 with ⟨rfl, _⟩ | ⟨g, cap, cur, rfl, hb, hg, _⟩
  · simp [Value.ownBlock] at hk
  · obtain rfl : g = k := by simpa [Value.ownBlock] using hk
    exact ⟨hb, cur, hg⟩

theorem run_fits (t ty : TypeId) (i : TypeInfo) (ht : P.underlying t = some (.slice e)) (hi : P.info? e = some i) (hsize : i.size = size)
    (hown : w.ownsRow base e size (.slice (some ⟨g, 0, none⟩) n cap) n xs) (A : Option Addr) (m c : Nat) (news : List Value) (hl : news.length = m * size) (hsz : 0 < size) (hA : CellsAt w A news) (h1 : ∀ u ∈ news, u.oneCell' = true) (hroom : n + m ≤ cap) :
    ∃ w', (Builtin.append_ #[t, t] ty #[.slice (some ⟨g, 0, none⟩) n cap, .slice A m c]).run P w = .ok (.slice (some ⟨g, 0, none⟩) (n + m) cap) w' ∧
      w'.ownsRow base e size (.slice (some ⟨g, 0, none⟩) (n + m) cap) (n + m) (xs ++ news) ∧ Fr (fun k => k = g) w w' := by
  cases A with
  | some ad =>
    obtain ⟨w', hr, ho, hg⟩ := run_append_fits (P := P) w base t ty e i size ht hi hsize g n cap xs hown ad m c news hl (CellsAt.news hA) h1 hroom
    exact ⟨w', hr, ho, Fr.of_grown hg (fun k _ e => by cases e; rfl)⟩
  | none =>
    have hn : news = [] := by
      rcases Classical.em (news = []) with h | h
      · exact h
      · obtain ⟨_, _, e, _⟩ := hA h
        cases e
    subst hn
    have hm : m = 0 := by
      rcases Nat.eq_zero_or_pos m with h | h
      · exact h
      · have := Nat.mul_pos h hsz
        simp at hl
        omega
    subst hm
    exact ⟨w, run_append_none' w base t ty e i size c ht hi _ n xs hown, by simpa using hown, Fr.refl _ _⟩

theorem wp_fits {o : Oper} {a : Act} {K : Act → World → Prop} {Q : Exit → Act → World → Prop} (s x : Operand) (t : TypeId)
    (ho : o.op = .call { callee := .builtin .append, args := #[s, x], argTypes := #[t, t] })
    (i : TypeInfo) (ht : P.underlying t = some (.slice e)) (hi : P.info? e = some i) (hsize : i.size = size) (hsz : 0 < size)
    (hs : a.eval s = .slice (some ⟨g, 0, none⟩) n cap) (hown : w.ownsRow base e size (.slice (some ⟨g, 0, none⟩) n cap) n xs)
    (A : Option Addr) (m c : Nat) (news : List Value) (hx : a.eval x = .slice A m c) (hl : news.length = m * size) (hA : CellsAt w A news) (h1 : ∀ u ∈ news, u.oneCell' = true) (hroom : n + m ≤ cap)
    (N : Nat) (hN : n + m = N) (ys : List Value) (hy : xs ++ news = ys)
    (h : ∀ w', w'.ownsRow base e size (.slice (some ⟨g, 0, none⟩) N cap) N ys → Fr (fun k => k = g) w w' → K (a.put o.dst (.slice (some ⟨g, 0, none⟩) N cap)) w') : o.wp P a w K Q := by
  subst hN hy
  obtain ⟨w', hr, h2, h3⟩ := run_fits (P := P) t o.type i ht hi hsize hown A m c news hl hsz hA h1 hroom
  unfold Oper.wp execOp
  simp only [ho, resolve, invoke, builtin, Sem.run_bind, Sem.run_pure, Result.andThen_ok, List.map_toArray, List.map_cons, List.map_nil, hs, hx, hr]
  exact h w' h2 h3
theorem wpList_fits {ops : Array Oper} {rest : List Oper} {o : Oper} {a : Act} {Q : Exit → Act → World → Prop} (hgd : o.guard = none) (s x : Operand) (t : TypeId)
    (ho : o.op = .call { callee := .builtin .append, args := #[s, x], argTypes := #[t, t] })
    (i : TypeInfo) (ht : P.underlying t = some (.slice e)) (hi : P.info? e = some i) (hsize : i.size = size) (hsz : 0 < size)
    (hs : a.eval s = .slice (some ⟨g, 0, none⟩) n cap) (hown : w.ownsRow base e size (.slice (some ⟨g, 0, none⟩) n cap) n xs)
    (A : Option Addr) (m c : Nat) (news : List Value) (hx : a.eval x = .slice A m c) (hl : news.length = m * size) (hA : CellsAt w A news) (h1 : ∀ u ∈ news, u.oneCell' = true) (hroom : n + m ≤ cap)
    (N : Nat) (hN : n + m = N) (ys : List Value) (hy : xs ++ news = ys)
    (h : ∀ w', w'.ownsRow base e size (.slice (some ⟨g, 0, none⟩) N cap) N ys → Fr (fun k => k = g) w w' → wpList P ops Q rest (a.put o.dst (.slice (some ⟨g, 0, none⟩) N cap)) w') : wpList P ops Q (o :: rest) a w :=
  wpList_plain hgd fun _ hK => wp_fits s x t ho i ht hi hsize hsz hs hown A m c news hx hl hA h1 hroom N hN ys hy fun w' h2 h3 => hK _ _ (h w' h2 h3)
theorem step_fits {ops : Array Oper} {o : Oper} {a : Act} {K : Act → World → Prop} {Q : Exit → Act → World → Prop} {E : Prop} (hgd : o.guard = none) (s x : Operand) (t : TypeId)
    (ho : o.op = .call { callee := .builtin .append, args := #[s, x], argTypes := #[t, t] })
    (i : TypeInfo) (ht : P.underlying t = some (.slice e)) (hi : P.info? e = some i) (hsize : i.size = size) (hsz : 0 < size)
    (hs : a.eval s = .slice (some ⟨g, 0, none⟩) n cap) (hown : w.ownsRow base e size (.slice (some ⟨g, 0, none⟩) n cap) n xs)
    (A : Option Addr) (m c : Nat) (news : List Value) (hx : a.eval x = .slice A m c) (hl : news.length = m * size) (hA : CellsAt w A news) (h1 : ∀ u ∈ news, u.oneCell' = true) (hroom : n + m ≤ cap)
    (N : Nat) (hN : n + m = N) (ys : List Value) (hy : xs ++ news = ys)
    (h : ∀ w', w'.ownsRow base e size (.slice (some ⟨g, 0, none⟩) N cap) N ys → Fr (fun k => k = g) w w' → K (a.put o.dst (.slice (some ⟨g, 0, none⟩) N cap)) w') :
    if Region.wanted o (yielded ops a.tmps) = true then Oper.wp P o a w K Q else E := by
  have hw : Region.wanted o (yielded ops a.tmps) = true := by simp [Region.wanted, hgd]
  rw [if_pos hw]
  exact wp_fits s x t ho i ht hi hsize hsz hs hown A m c news hx hl hA h1 hroom N hN ys hy h

/-- clear of what lies behind the row's end (or of nothing) -/
theorem run_clear_behind (t ty : TypeId) (z : Value) (ht : P.underlying t = some (.slice e)) (hv : ∀ w, (zeroValue e).run P w = .ok z w) (hz : z.cells.size = size) (h1 : ∀ u ∈ z.cells.toList, u.oneCell' = true) (hsz : 0 < size)
    (hown : w.ownsRow base e size (.slice (some ⟨g, 0, none⟩) n cap) n xs) (A : Option Addr) (m c : Nat) (hA : 0 < m → A = some ⟨g, n * size, none⟩) (hroom : n + m ≤ cap) :
    ∃ w', (Builtin.clear_ #[t] ty #[.slice A m c]).run P w = .ok (.tuple #[]) w' ∧ w'.ownsRow base e size (.slice (some ⟨g, 0, none⟩) n cap) n xs ∧ Fr (fun k => k = g) w w' := by
  rcases Nat.eq_zero_or_pos m with rfl | hm
  · refine ⟨w, ?_, hown, Fr.refl _ _⟩
    cases A <;> simp [Builtin.clear_, run_underlying ht]
  · obtain rfl := hA hm
    obtain ⟨hb, hn, hcm, cur, hg, hs, htk⟩ := own_some hown
    have hzl : (Builtin.zeroCells z.cells m).toList.length = m * size := by rw [Array.length_toList, size_zeroCells, hz]
    have hfit : n * size + 0 + (Builtin.zeroCells z.cells m).toList.length ≤ cur.size := by rw [hzl, hs, Nat.add_zero, ← Nat.add_mul]; exact Nat.mul_le_mul_right _ hroom
    have h1' : ∀ u ∈ (Builtin.zeroCells z.cells m).toList, u.oneCell' = true := by
      intro u hu
      rw [Array.mem_toList_iff] at hu
      simp only [Builtin.zeroCells, Array.mem_map] at hu
      obtain ⟨k, _, rfl⟩ := hu
      have hlt : k % z.cells.size < z.cells.size := Nat.mod_lt _ (by omega)
      rw [getElem!_pos z.cells _ hlt]
      exact h1 _ (by simp)
    have hst := run_storeCells_at P g (n * size) e (Builtin.zeroCells z.cells m).toList 0 cur w hg hfit h1'
    simp only [Nat.add_zero] at hst hfit
    have hf2 := hfit
    rw [Array.length_toList] at hf2
    refine ⟨w.setRow g (cur.toList.take (n * size) ++ (Builtin.zeroCells z.cells m).toList ++ cur.toList.drop (n * size + (Builtin.zeroCells z.cells m).toList.length)).toArray, ?_, own_mk hb hn hcm (setRow_heap w g cur _ e _ hg) ?_ ?_, ⟨rfl, rfl, rfl, by simp, fun k _ hk => setRow_other w g k _ hk⟩⟩
    · obtain ⟨m', rfl⟩ : ∃ m', m = m' + 1 := ⟨m - 1, by omega⟩
      simp [Builtin.clear_, run_underlying ht, hv, hst]
    · simp only [List.size_toArray, List.length_append, List.length_take, List.length_drop, Array.length_toList]
      omega
    · rw [← htk]
      simp only [List.append_assoc]
      rw [List.take_left' (by rw [List.length_take, Array.length_toList]; omega)]

theorem wpList_clear_behind {ops : Array Oper} {rest : List Oper} {o : Oper} {a : Act} {Q : Exit → Act → World → Prop} (hgd : o.guard = none) (x : Operand) (t : TypeId)
    (ho : o.op = .call { callee := .builtin .clear, args := #[x], argTypes := #[t] }) (z : Value) (ht : P.underlying t = some (.slice e)) (hv : ∀ w, (zeroValue e).run P w = .ok z w) (hz : z.cells.size = size) (h1 : ∀ u ∈ z.cells.toList, u.oneCell' = true) (hsz : 0 < size)
    (hown : w.ownsRow base e size (.slice (some ⟨g, 0, none⟩) n cap) n xs) (A : Option Addr) (m c : Nat) (hx : a.eval x = .slice A m c) (hA : 0 < m → A = some ⟨g, n * size, none⟩) (hroom : n + m ≤ cap)
    (h : ∀ w', w'.ownsRow base e size (.slice (some ⟨g, 0, none⟩) n cap) n xs → Fr (fun k => k = g) w w' → wpList P ops Q rest (a.put o.dst (.tuple #[])) w') : wpList P ops Q (o :: rest) a w := by
  refine wpList_plain hgd fun K hK => ?_
  obtain ⟨w', hr, h2, h3⟩ := run_clear_behind (P := P) t o.type z ht hv hz h1 hsz hown A m c hA hroom
  unfold Oper.wp execOp
  simp only [ho, resolve, invoke, builtin, Sem.run_bind, Sem.run_pure, Result.andThen_ok, List.map_toArray, List.map_cons, List.map_nil, hx, hr]
  exact hK _ _ (h w' h2 h3)
/-- the same, the operation written out: under 'with_reducible' it fails fast elsewhere -/
theorem wpList_clear_at {ops : Array Oper} {rest : List Oper} {ty : TypeId} {pos : String} {af : Array Edge} {a : Act} {Q : Exit → Act → World → Prop} (x : Operand) (t : TypeId)
    (z : Value) (ht : P.underlying t = some (.slice e)) (hv : ∀ w, (zeroValue e).run P w = .ok z w) (hz : z.cells.size = size) (h1 : ∀ u ∈ z.cells.toList, u.oneCell' = true) (hsz : 0 < size)
    (hown : w.ownsRow base e size (.slice (some ⟨g, 0, none⟩) n cap) n xs) (A : Option Addr) (m c : Nat) (hx : a.eval x = .slice A m c) (hA : 0 < m → A = some ⟨g, n * size, none⟩) (hroom : n + m ≤ cap)
    (h : ∀ w', w'.ownsRow base e size (.slice (some ⟨g, 0, none⟩) n cap) n xs → Fr (fun k => k = g) w w' → wpList P ops Q rest a w') : wpList P ops Q (⟨none, .call { callee := .builtin .clear, args := #[x], argTypes := #[t] }, ty, pos, af, none⟩ :: rest) a w :=
  wpList_clear_behind rfl x t rfl z ht hv hz h1 hsz hown A m c hx hA hroom h
end
end Go.Proofs.Ytcbnibldlbnkbaa

/- Frames by types: only new blocks, and those from base on of some element types, have turned. No program. -/
namespace Go.Proofs.Ytcbnibldlbnkbaa
open Go.RowKit

/-- a block from base on, of cells of a type of T -/
def Tch (T : TypeId → Prop) (base : Nat) (w : World) (k : Nat) : Prop := base ≤ k ∧ ∃ cs t fr, w.heap[k]? = some (.cells cs t fr) ∧ T t
/-- only such blocks, and new ones, have turned -/
abbrev FrT (T : TypeId → Prop) (base : Nat) (w w' : World) : Prop := Fr (Tch T base w) w w'

section
variable {T U : TypeId → Prop} {base : Nat} {w w' w'' : World}
theorem FrT.trans (h : FrT T base w w') (k : FrT T base w' w'') : FrT T base w w'' :=
  Fr.trans' h k fun i hi ht => by
    by_cases hn : Tch T base w i
    · exact hn
    · obtain ⟨hb, cs, t, fr, hc, hT⟩ := ht
      exact ⟨hb, cs, t, fr, (h.block i hi hn).symm.trans hc, hT⟩
theorem FrT.of_old (h : Old w w') : FrT T base w w' := Fr.of_old h
theorem FrT.refl (w : World) : FrT T base w w := Fr.refl _ w
theorem FrT.mono (h : FrT T base w w') (hT : ∀ t, T t → U t) : FrT U base w w' :=
  Fr.mono h fun _ _ ⟨hb, cs, t, fr, hc, ht⟩ => ⟨hb, cs, t, fr, hc, hT t ht⟩
theorem FrT.low {b : Nat} (h : FrT T base w w') (hb : b ≤ base) : FrT T b w w' :=
  Fr.mono h fun _ _ ⟨hb', r⟩ => ⟨Nat.le_trans hb hb', r⟩
theorem FrT.of_blk {g : Nat} {t : TypeId} {cs : Array Value} (h : Fr (fun k => k = g) w w') (hg : Bk w g t cs) (hb : base ≤ g) (ht : T t) : FrT T base w w' :=
  Fr.mono h fun k _ e => by subst e; exact ⟨hb, cs, t, _, hg, ht⟩
theorem FrT.drew (h : FrT T base w w') : FrT T base w w'.drew := Fr.drew h
theorem FrT.drewN (h : FrT T base w w') (n : Nat) : FrT T base w (w'.drewN n) := Fr.drewN h n
theorem FrT.alloc (h : FrT T base w w') (o : Obj) : FrT T base w (w'.alloc o) := Fr.alloc h o
theorem FrT.then_old (h : FrT T base w w') (k : Old w' w'') : FrT T base w w'' := FrT.trans h (FrT.of_old k)
/-- what was there ahead of the base is as it was -/
theorem FrT.old {w0 : World} (h : FrT T w0.heap.size w w') (hb : Old w0 w) : Old w0 w' :=
  ⟨h.os.trans hb.os, h.tape.trans hb.tape, h.output.trans hb.output, Nat.le_trans hb.size h.size,
    fun i hi => (h.block i (Nat.lt_of_lt_of_le hi hb.size) (fun ⟨hb', _⟩ => by omega)).trans (hb.block i hi)⟩
/-- a store into a known block of a type of T -/
theorem FrT.set_ {g : Nat} {t : TypeId} {cs : Array Value} (h : FrT T base w w') (hg : Bk w' g t cs) (hb : base ≤ g) (ht : T t) (i : Nat) (u : Value) : FrT T base w (w'.setCell ⟨g, i, none⟩ u) :=
  h.trans (FrT.of_blk (Fr.setCell (S := fun k => k = g) (p := ⟨g, i, none⟩) (Fr.refl _ w') (.inr rfl) u) hg hb ht)
theorem Old.fr_new {S : Nat → Prop} (h : Old w w') (f : Fr S w' w'') (hS : ∀ k, S k → w.heap.size ≤ k) : Old w w'' :=
  ⟨f.os.trans h.os, f.tape.trans h.tape, f.output.trans h.output, Nat.le_trans h.size f.size,
    fun i hi => (f.block i (Nat.lt_of_lt_of_le hi h.size) (fun hs => by have := hS i hs; omega)).trans (h.block i hi)⟩
theorem Bk.frT {g : Nat} {t : TypeId} {cs : Array Value} (h : Bk w g t cs) (hf : FrT T base w w') (ht : ¬ T t) : Bk w' g t cs :=
  Bk.fr h hf fun ⟨_, cs', t', fr, hc, hT⟩ => by
    unfold Bk at h
    rw [h] at hc
    injection hc with hc
    injection hc with _ e
    subst e
    exact ht hT
theorem own_frT {b' : Nat} {e : TypeId} {size n : Nat} {v : Value} {xs : List Value} (h : w.ownsRow b' e size v n xs) (hf : FrT T base w w') (ht : ¬ T e) : w'.ownsRow b' e size v n xs := by
  rcases own_form h with ⟨A, c, rfl, -, hA⟩
  refine own_fr h hf fun k hk => ?_
  cases A with
  | none => simp [Value.ownBlock] at hk
  | some a =>
    obtain ⟨_, _, ha⟩ := hA a rfl
    obtain ⟨g, o, sp⟩ := a
    injection ha with _ e1 e2
    subst e1 e2
    obtain rfl : g = k := by simpa [Value.ownBlock] using hk
    obtain ⟨_, _, _, cur, hg, _, _⟩ := own_some h
    rintro ⟨_, cs', t', fr, hc, hT⟩
    unfold Bk at hg
    rw [hg] at hc
    injection hc with hc
    injection hc with _ e
    subst e
    exact ht hT
theorem Apps.frT {b : Nat} {e : TypeId} {size n n' : Nat} {v v' : Value} {xs xs' : List Value} (h : Apps w b e size v n' xs' v' w') (ho : w.ownsRow b e size v n xs) (hT : T e) (hb : base ≤ b) : FrT T base w w' :=
  h.fr fun k _ hk => by
    obtain ⟨hbk, cur, hc⟩ := own_blk ho hk
    exact ⟨Nat.le_trans hb hbk, cur, e, _, hc, hT⟩
theorem CellsAt.frT {A : Option Addr} {cs : List Value} (h : CellsAt w A cs) (hf : FrT T base w w') (ho : ∀ a, A = some a → a.block < base) : CellsAt w' A cs :=
  h.fr hf (fun _ a e ⟨hb, _⟩ => by have := ho a e; omega)
end
end Go.Proofs.Ytcbnibldlbnkbaa
