/- append onto a slice that the call owns, from any slice that reads as cells (none, empty or full): as a law for plain regions and for steps of drawn ones. No program. -/
import Derived.Deep.AppendLies
import Derived.Laws.AppendOwnNone
import Derived.Test.YtcbnibldlbnkbaaBase
namespace Go.Proofs.Ytcbnibldlbnkbaa
open Go.RowKit

theorem cells_bk {w : World} {g : Nat} {t : TypeId} {cs : Array Value} (h : Bk w g t cs) : CellsAt w (some ⟨g, 0, none⟩) cs.toList := fun _ =>
  ⟨g, 0, rfl, h.lt, fun k u hk => by rw [Nat.zero_add, h.cell]; simpa using hk⟩
theorem bk_new1 (W : World) (o : Obj) (t : TypeId) (cs : Array Value) : Bk ((W.alloc o).alloc (.cells cs t)) (W.heap.size + 1) t cs := by
  have := Bk.new (W.alloc o) t cs
  rwa [World.size_alloc] at this
theorem own_set {w : World} {base : Nat} {e : TypeId} {size n : Nat} {v : Value} {xs : List Value} (h : w.ownsRow base e size v n xs) {p : Addr} (hne : v.ownBlock ≠ some p.block) (u : Value) : (w.setCell p u).ownsRow base e size v n xs :=
  h.kept (row := some p.block) ⟨rfl, rfl, rfl, by simp [World.setCell], fun k _ hk => Below.heap_setCell w p u k (fun e => hk (by rw [e]))⟩ (.inr hne)
theorem own_old {w w' : World} {base : Nat} {e : TypeId} {size n : Nat} {v : Value} {xs : List Value} (h : w.ownsRow base e size v n xs) (hb : Old w w') : w'.ownsRow base e size v n xs :=
  h.kept (row := none) ⟨hb.os, hb.tape, hb.output, hb.size, fun k hk _ => hb.block k hk⟩ (by cases hv : v.ownBlock <;> simp)
theorem own_fr {S : Nat → Prop} {w w' : World} {base : Nat} {e : TypeId} {size n : Nat} {v : Value} {xs : List Value} (h : w.ownsRow base e size v n xs) (hb : Fr S w w') (ho : ∀ k, v.ownBlock = some k → ¬ S k) : w'.ownsRow base e size v n xs := by
  refine ⟨h.1, ?_⟩
  rcases h.2 with hn | ⟨g, cap, cur, rfl, hb', hgg, rest⟩
  · exact .inl hn
  · refine .inr ⟨g, cap, cur, rfl, hb', ?_, rest⟩
    rw [hb.block g (Array.getElem?_eq_some_iff.1 hgg).1 (ho g rfl)]
    exact hgg
theorem own_drew {w : World} {base : Nat} {e : TypeId} {size n : Nat} {v : Value} {xs : List Value} (h : w.ownsRow base e size v n xs) : w.drew.ownsRow base e size v n xs := h
theorem own_drewN {w : World} {base : Nat} {e : TypeId} {size n : Nat} {v : Value} {xs : List Value} (h : w.ownsRow base e size v n xs) (k : Nat) : (w.drewN k).ownsRow base e size v n xs := h
/-- what a value that owns a row looks like -/
theorem own_form {w : World} {base : Nat} {e : TypeId} {size n : Nat} {v : Value} {xs : List Value} (h : w.ownsRow base e size v n xs) : ∃ A c, v = .slice A n c ∧ n ≤ c ∧ (∀ a, A = some a → base ≤ a.block ∧ a.block < w.heap.size ∧ a = ⟨a.block, 0, none⟩) := by
  rcases h.2 with ⟨rfl, rfl⟩ | ⟨g, cap, cur, rfl, hb, hg, hn, _⟩
  · exact ⟨_, _, rfl, Nat.le_refl _, fun _ h => by cases h⟩
  · exact ⟨_, _, rfl, hn, fun a ha => by cases ha; exact ⟨hb, (Array.getElem?_eq_some_iff.1 hg).1, rfl⟩⟩

section
variable {P : Program} (w : World)

theorem run_append_none' (base : Nat) (t ty e : TypeId) (i : TypeInfo) (size c : Nat) (ht : P.underlying t = some (.slice e)) (hi : P.info? e = some i)
    (v : Value) (n : Nat) (xs : List Value) (hown : w.ownsRow base e size v n xs) :
    (Builtin.append_ #[t, t] ty #[v, .slice none 0 c]).run P w = .ok v w := by
  rcases hown.2 with ⟨rfl, rfl⟩ | ⟨g, cap, cur, rfl, _, _, hnc, _⟩
  · simp [Builtin.append_, run_underlying ht, sizeOf, typeInfo, hi, Builtin.lenOf, Builtin.firstCells]
  · simp [Builtin.append_, run_underlying ht, sizeOf, typeInfo, hi, Builtin.lenOf, Builtin.firstCells, hnc, storeCells]

/-- an append's outcome: the new value owns the longer row; only the old row and new blocks have turned -/
def Apps (w : World) (base : Nat) (e : TypeId) (size : Nat) (v : Value) (n' : Nat) (xs' : List Value) (v' : Value) (w' : World) : Prop :=
  w'.ownsRow base e size v' n' xs' ∧ w.grownBy w' v.ownBlock ∧ (v'.ownBlock = v.ownBlock ∨ v'.ownBlock = some w.heap.size)

theorem run_app (t ty : TypeId) (base : Nat) (e : TypeId) (i : TypeInfo) (z : Value) (size bytes : Nat) (ht : P.underlying t = some (.slice e)) (hi : P.info? e = some i) (hz : i.zero = some z)
    (hsize : i.size = size) (hby : i.bytes = bytes) (hzs : z.cells.size = size) (hsz : 0 < size)
    (v : Value) (n : Nat) (xs : List Value) (hown : w.ownsRow base e size v n xs)
    (A : Option Addr) (m c : Nat) (news : List Value) (hl : news.length = m * size) (hA : CellsAt w A news) (h1 : ∀ u ∈ news, u.oneCell' = true)
    (h63 : n + m ≤ maxLen) (hbytes : (n + m) * bytes ≤ 140737488355328) (hbase : base ≤ w.heap.size) :
    ∃ v' w', (Builtin.append_ #[t, t] ty #[v, .slice A m c]).run P w = .ok v' w' ∧ Apps w base e size v (n + m) (xs ++ news) v' w' := by
  have hsome : ∀ ad, A = some ad → ∃ v' w', (Builtin.append_ #[t, t] ty #[v, .slice (some ad) m c]).run P w = .ok v' w' ∧ Apps w base e size v (n + m) (xs ++ news) v' w' := fun ad hA' => by
    subst hA'
    obtain ⟨v', w', hr, h2, h3, _, h5⟩ := run_append_own_at (P := P) w base t ty e i z size bytes ht hi hz hsize hby hzs hsz v n xs hown ad m c news hl (CellsAt.news hA) h1 h63 hbytes hbase
    exact ⟨v', w', hr, h2, h3, h5⟩
  cases A with
  | some ad => exact hsome ad rfl
  | none =>
    have hn : news = [] := by
      rcases Classical.em (news = []) with h | h
      · exact h
      · obtain ⟨_, _, e, _⟩ := hA h
        cases e
    subst hn
    have hm : m = 0 := by
      rcases Nat.eq_zero_or_pos m with h | h
      · exact h
      · have := Nat.mul_pos h hsz
        simp at hl
        omega
    subst hm
    exact ⟨v, w, run_append_none' w base t ty e i size c ht hi v n xs hown, by simpa using hown, World.grownBy.refl w _, .inl rfl⟩

theorem wp_app {o : Oper} {a : Act} {K : Act → World → Prop} {Q : Exit → Act → World → Prop} (s x : Operand) (t : TypeId)
    (ho : o.op = .call { callee := .builtin .append, args := #[s, x], argTypes := #[t, t] })
    (base : Nat) (e : TypeId) (i : TypeInfo) (z : Value) (size bytes : Nat) (ht : P.underlying t = some (.slice e)) (hi : P.info? e = some i) (hz : i.zero = some z)
    (hsize : i.size = size) (hby : i.bytes = bytes) (hzs : z.cells.size = size) (hsz : 0 < size)
    (v : Value) (n : Nat) (xs : List Value) (hs : a.eval s = v) (hown : w.ownsRow base e size v n xs)
    (A : Option Addr) (m c : Nat) (news : List Value) (hx : a.eval x = .slice A m c) (hl : news.length = m * size) (hA : CellsAt w A news) (h1 : ∀ u ∈ news, u.oneCell' = true)
    (h63 : n + m ≤ maxLen) (hbytes : (n + m) * bytes ≤ 140737488355328) (hbase : base ≤ w.heap.size) (N : Nat) (hN : n + m = N) (ys : List Value) (hy : xs ++ news = ys)
    (h : ∀ A' c' w', Apps w base e size v N ys (.slice A' N c') w' → K (a.put o.dst (.slice A' N c')) w') : o.wp P a w K Q := by
  subst hN hy
  obtain ⟨v', w', hr, h2⟩ := run_app (P := P) w t o.type base e i z size bytes ht hi hz hsize hby hzs hsz v n xs hown A m c news hl hA h1 h63 hbytes hbase
  obtain ⟨A', c', rfl, _⟩ := own_form h2.1
  unfold Oper.wp execOp
  simp only [ho, resolve, invoke, builtin, Sem.run_bind, Sem.run_pure, Result.andThen_ok, List.map_toArray, List.map_cons, List.map_nil, hs, hx, hr]
  exact h A' c' w' h2

theorem wpList_app {ops : Array Oper} {rest : List Oper} {o : Oper} {a : Act} {Q : Exit → Act → World → Prop} (hgd : o.guard = none) (s x : Operand) (t : TypeId)
    (ho : o.op = .call { callee := .builtin .append, args := #[s, x], argTypes := #[t, t] })
    (base : Nat) (e : TypeId) (i : TypeInfo) (z : Value) (size bytes : Nat) (ht : P.underlying t = some (.slice e)) (hi : P.info? e = some i) (hz : i.zero = some z)
    (hsize : i.size = size) (hby : i.bytes = bytes) (hzs : z.cells.size = size) (hsz : 0 < size)
    (v : Value) (n : Nat) (xs : List Value) (hs : a.eval s = v) (hown : w.ownsRow base e size v n xs)
    (A : Option Addr) (m c : Nat) (news : List Value) (hx : a.eval x = .slice A m c) (hl : news.length = m * size) (hA : CellsAt w A news) (h1 : ∀ u ∈ news, u.oneCell' = true)
    (h63 : n + m ≤ maxLen) (hbytes : (n + m) * bytes ≤ 140737488355328) (hbase : base ≤ w.heap.size) (N : Nat) (hN : n + m = N) (ys : List Value) (hy : xs ++ news = ys)
    (h : ∀ A' c' w', Apps w base e size v N ys (.slice A' N c') w' → wpList P ops Q rest (a.put o.dst (.slice A' N c')) w') : wpList P ops Q (o :: rest) a w :=
  wpList_plain hgd fun _ hK => wp_app w s x t ho base e i z size bytes ht hi hz hsize hby hzs hsz v n xs hs hown A m c news hx hl hA h1 h63 hbytes hbase N hN ys hy fun A' c' w' h2 => hK _ _ (h A' c' w' h2)

theorem step_app {ops : Array Oper} {o : Oper} {a : Act} {K : Act → World → Prop} {Q : Exit → Act → World → Prop} {E : Prop} (hgd : o.guard = none) (s x : Operand) (t : TypeId)
    (ho : o.op = .call { callee := .builtin .append, args := #[s, x], argTypes := #[t, t] })
    (base : Nat) (e : TypeId) (i : TypeInfo) (z : Value) (size bytes : Nat) (ht : P.underlying t = some (.slice e)) (hi : P.info? e = some i) (hz : i.zero = some z)
    (hsize : i.size = size) (hby : i.bytes = bytes) (hzs : z.cells.size = size) (hsz : 0 < size)
    (v : Value) (n : Nat) (xs : List Value) (hs : a.eval s = v) (hown : w.ownsRow base e size v n xs)
    (A : Option Addr) (m c : Nat) (news : List Value) (hx : a.eval x = .slice A m c) (hl : news.length = m * size) (hA : CellsAt w A news) (h1 : ∀ u ∈ news, u.oneCell' = true)
    (h63 : n + m ≤ maxLen) (hbytes : (n + m) * bytes ≤ 140737488355328) (hbase : base ≤ w.heap.size) (N : Nat) (hN : n + m = N) (ys : List Value) (hy : xs ++ news = ys)
    (h : ∀ A' c' w', Apps w base e size v N ys (.slice A' N c') w' → K (a.put o.dst (.slice A' N c')) w') :
    if Region.wanted o (yielded ops a.tmps) = true then Oper.wp P o a w K Q else E := by
  have hw : Region.wanted o (yielded ops a.tmps) = true := by simp [Region.wanted, hgd]
  rw [if_pos hw]
  exact wp_app w s x t ho base e i z size bytes ht hi hz hsize hby hzs hsz v n xs hs hown A m c news hx hl hA h1 h63 hbytes hbase N hN ys hy h
end

section
variable {w w' : World} {base : Nat} {e : TypeId} {size n' : Nat} {v v' : Value} {xs' : List Value}
theorem Apps.own (h : Apps w base e size v n' xs' v' w') : w'.ownsRow base e size v' n' xs' := h.1
/-- what was old ahead of the slice's base is as it was -/
theorem Apps.old {w0 : World} (h : Apps w base e size v n' xs' v' w') (hb : Old w0 w) (hv : ∀ k, v.ownBlock = some k → w0.heap.size ≤ k) : Old w0 w' :=
  hb.grown h.2.1 hb.size hv
theorem Apps.block (h : Apps w base e size v n' xs' v' w') {k : Nat} (hk : k < w.heap.size) (hne : v.ownBlock ≠ some k) : w'.heap[k]? = w.heap[k]? := h.2.1.block k hk (fun e => hne e.symm)
theorem Apps.bk {g : Nat} {t : TypeId} {cs : Array Value} (h : Apps w base e size v n' xs' v' w') (hb : Bk w g t cs) (hne : v.ownBlock ≠ some g) : Bk w' g t cs := (h.block hb.lt hne).trans hb
theorem Apps.cells {A : Option Addr} {cs : List Value} (h : Apps w base e size v n' xs' v' w') (hc : CellsAt w A cs) (hne : ∀ a, A = some a → v.ownBlock ≠ some a.block) : CellsAt w' A cs := fun hn => by
  obtain ⟨b, o, rfl, hb, hcc⟩ := hc hn
  have hbl := h.block hb (hne _ rfl)
  exact ⟨b, o, rfl, Nat.lt_of_lt_of_le hb h.2.1.size, fun k u hk => (World.cell?_of_block (w := w) (a := ⟨b, o + k, none⟩) hbl).trans (hcc k u hk)⟩
theorem Apps.fr {S : Nat → Prop} (h : Apps w base e size v n' xs' v' w') (hv : ∀ k, k < w.heap.size → v.ownBlock = some k → S k) : Fr S w w' := Fr.of_grown h.2.1 hv
end

theorem run_callFunc {P : Program} {w : World} {f : FuncId} {fn : Func} (vals : Array Value) (hf : P.funcs[f]? = some fn) (hn : (fn.name == "runtime.NumGoroutine") = false) (hb : fn.body.isNone = false) :
    (callFunc f vals).run P w = .ok (.enter f vals) w := by
  unfold callFunc
  rw [Sem.run_bind]
  show Sem.run P (match P.funcs[f]? with
    | none => _
    | some fn => _) w = _
  rw [hf]
  simp only [hn, hb, Bool.false_eq_true, if_false, Sem.run_pure]
/-- A contract at a step of a region that draws its order (for 'go_region_law'). -/
theorem step_call {P : Program} {w : World} {ops : Array Oper} {o : Oper} {a : Act} {K : Act → World → Prop} {Q : Exit → Act → World → Prop} {E : Prop} (hgd : o.guard = none) (f : FuncId) (fn : Func) (hf : P.funcs[f]? = some fn) (hn : (fn.name == "runtime.NumGoroutine") = false) (hb : fn.body.isNone = false) (xs : List Operand) (tys : Array TypeId)
    (ho : o.op = .call { callee := .value (.func f), args := xs.toArray, argTypes := tys }) (vals : List Value) (hv : xs.map a.eval = vals) {R : Ending → World → Prop} (h : Calls P f vals.toArray w R)
    (hR : ∀ e w', R e w' → ∃ v, e = .returned v ∧ K (a.put o.dst v) w') :
    if Region.wanted o (yielded ops a.tmps) = true then Oper.wp P o a w K Q else E := by
  have hw : Region.wanted o (yielded ops a.tmps) = true := by simp [Region.wanted, hgd]
  rw [if_pos hw]
  unfold Oper.wp execOp
  simp only [ho, resolve, invoke, Sem.run_bind, Sem.run_pure, Result.andThen_ok, List.map_toArray, hv, Act.eval, Deferred.ofValue, Array.append_empty, Array.empty_append, run_callFunc _ hf hn hb]
  refine h.mono fun e w' he => ?_
  obtain ⟨v, rfl, hk⟩ := hR e w' he
  exact hk
end Go.Proofs.Ytcbnibldlbnkbaa
