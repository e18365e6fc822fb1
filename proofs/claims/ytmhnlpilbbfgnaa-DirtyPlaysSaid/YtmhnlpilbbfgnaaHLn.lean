/- line.Line: what a log is; its block, its rows, its store. -/
import Derived.Test.YtmhnlpilbbfgnaaHSt
import Derived.Deep.CutBlock
namespace Go.Proofs.Ytmhnlpilbbfgnaa
open Go.RowKit

/-! ### plain -/
def lastSeqR : List ReqV → Int → Int
  | [], _ => 0
  | q :: r, c => if q.client = c then q.seq else lastSeqR r c
def lastAtR : List ReqV → Int → Nat
  | [], _ => 0
  | q :: r, i => if q.id = i then r.length + 1 else lastAtR r i
/-- a client's last number, a resource's last place -/
def lastSeq (qs : List ReqV) (c : Int) : Int := lastSeqR qs.reverse c
def lastAt (qs : List ReqV) (i : Int) : Nat := lastAtR qs.reverse i
theorem lastSeq_nil (c : Int) : lastSeq [] c = 0 := rfl
theorem lastAt_nil (c : Int) : lastAt [] c = 0 := rfl
theorem lastSeq_snoc (qs : List ReqV) (q : ReqV) (c : Int) : lastSeq (qs ++ [q]) c = if q.client = c then q.seq else lastSeq qs c := by simp [lastSeq, lastSeqR]
theorem lastAt_snoc (qs : List ReqV) (q : ReqV) (i : Int) : lastAt (qs ++ [q]) i = if q.id = i then qs.length + 1 else lastAt qs i := by simp [lastAt, lastAtR]
theorem lastAt_le (qs : List ReqV) (i : Int) : lastAt qs i ≤ qs.length := by
  suffices h : ∀ r : List ReqV, lastAtR r i ≤ r.length by have := h qs.reverse; simpa [lastAt] using this
  intro r
  induction r with
  | nil => exact Nat.le_refl _
  | cons q r ih => unfold lastAtR; split <;> simp <;> omega

structure LnV where
  quota : Int
  qs : List ReqV
  k : Nat
def LnV.new (quota : Int) : LnV := ⟨quota, [], 0⟩
def LnV.may (l : LnV) (q : ReqV) : Bool := q.q.may && Writes q.kind && decide (lastSeq l.qs q.client < q.seq)
def LnV.put (l : LnV) (q : ReqV) : LnV := if l.may q then ⟨l.quota, l.qs ++ [q], l.k⟩ else l
def LnV.err (l : LnV) (q : ReqV) : Int := if q.q.may && Writes q.kind then (if lastSeq l.qs q.client < q.seq then 0 else 9) else 1
def LnV.at_ (l : LnV) (q : ReqV) : Nat := if l.may q then l.qs.length + 1 else 0
def LnV.st (l : LnV) : StV := runS l.quota (l.qs.take l.k)
def LnV.commit (l : LnV) (n : Nat) : LnV := ⟨l.quota, l.qs, n⟩
/-- what the request at a place is told -/
def LnV.rep (l : LnV) (j : Nat) : Rep := (runS l.quota (l.qs.take j)).rep (l.qs[j]?.getD default).q

/-- all of them may be, their clients' numbers rise -/
def LnOk (qs : List ReqV) : Prop := ∀ j q, qs[j]? = some q → q.q.may = true ∧ Writes q.kind = true ∧ lastSeq (qs.take j) q.client < q.seq
theorem LnOk.nil : LnOk [] := fun j q h => by simp at h
theorem LnOk.snoc {qs : List ReqV} (h : LnOk qs) {q : ReqV} (h1 : q.q.may = true) (h2 : Writes q.kind = true) (h3 : lastSeq qs q.client < q.seq) : LnOk (qs ++ [q]) := fun j x hx => by
  rcases Nat.lt_trichotomy j qs.length with hj | hj | hj
  · rw [List.getElem?_append_left hj] at hx
    have := h j x hx
    rwa [List.take_append_of_le_length (by omega)]
  · subst hj
    simp at hx
    subst hx
    rw [List.take_append_of_le_length (Nat.le_refl _), List.take_of_length_le (Nat.le_refl _)]
    exact ⟨h1, h2, h3⟩
  · rw [List.getElem?_eq_none (by simp; omega)] at hx
    cases hx
theorem LnOk.take {qs : List ReqV} (h : LnOk qs) (k : Nat) : LnOk (qs.take k) := fun j x hx => by
  by_cases hj : j < k
  · rw [List.getElem?_take_of_lt hj] at hx
    rw [List.take_take, Nat.min_eq_left (by omega)]
    exact h j x hx
  · rw [List.getElem?_eq_none (by rw [List.length_take]; omega)] at hx
    cases hx
theorem LnV.may_iff {l : LnV} {q : ReqV} : l.may q = true ↔ q.q.may = true ∧ Writes q.kind = true ∧ lastSeq l.qs q.client < q.seq := by
  simp [LnV.may, and_assoc]
theorem LnOk.put {l : LnV} (h : LnOk l.qs) (q : ReqV) : LnOk (l.put q).qs := by
  unfold LnV.put
  split
  · rename_i hm
    obtain ⟨h1, h2, h3⟩ := LnV.may_iff.1 hm
    exact h.snoc h1 h2 h3
  · exact h
/-- all puts of such a log's store succeed -/
theorem runS_of_ok (quota : Int) {qs : List ReqV} (h : LnOk qs) : ∀ k, k ≤ qs.length → (runS quota (qs.take k)).n = k ∧ ∀ c, ((runS quota (qs.take k)).ss c).seq = lastSeq (qs.take k) c := by
  intro k
  induction k with
  | zero => intro _; exact ⟨rfl, fun c => rfl⟩
  | succ k ih =>
    intro hk
    obtain ⟨i1, i2⟩ := ih (by omega)
    have hkq : k < qs.length := by omega
    obtain ⟨h1, h2, h3⟩ := h k qs[k] (List.getElem?_eq_getElem hkq)
    rw [List.take_succ_eq_append_getElem hkq, runS_snoc]
    have hm : (runS quota (qs.take k)).may qs[k].q = true := by
      unfold StV.may
      rw [h1, show qs[k].q.kind = qs[k].kind from rfl, h2, show qs[k].q.client = qs[k].client from rfl, i2, show qs[k].q.seq = qs[k].seq from rfl]
      simpa using h3
    have e : (runS quota (qs.take k)).put qs[k].q = (runS quota (qs.take k)).done qs[k].q := by unfold StV.put; rw [hm]; rfl
    rw [e]
    refine ⟨by show (runS quota (qs.take k)).n + 1 = k + 1; rw [i1], fun c => ?_⟩
    rw [lastSeq_snoc]
    show (if c = qs[k].client then (⟨qs[k].seq, _, _⟩ : Sess) else (runS quota (qs.take k)).ss c).seq = _
    by_cases hc : qs[k].client = c
    · rw [if_pos hc.symm, if_pos hc]
    · rw [if_neg (fun e => hc e.symm), if_neg hc, i2]
theorem runS_put_ok (quota : Int) {qs : List ReqV} (h : LnOk qs) {k : Nat} (hk : k < qs.length) :
    (runS quota (qs.take k)).err qs[k].q = 0 ∧ (runS quota (qs.take k)).may qs[k].q = true ∧ (runS quota (qs.take k)).put qs[k].q = runS quota (qs.take (k + 1)) := by
  obtain ⟨i1, i2⟩ := runS_of_ok quota h k (by omega)
  obtain ⟨h1, h2, h3⟩ := h k qs[k] (List.getElem?_eq_getElem hk)
  have hs : ((runS quota (qs.take k)).ss qs[k].q.client).seq < qs[k].q.seq := by
    rw [show qs[k].q.client = qs[k].client from rfl, i2]; exact h3
  have hw : (qs[k].q.may && Writes qs[k].q.kind) = true := by rw [h1]; exact h2
  refine ⟨?_, ?_, ?_⟩
  · unfold StV.err
    rw [hw, if_pos rfl, if_pos hs]
  · unfold StV.may
    rw [hw]
    simpa using hs
  · rw [List.take_succ_eq_append_getElem hk, runS_snoc]
theorem LnV.st_n {l : LnV} (h : LnOk l.qs) (hk : l.k ≤ l.qs.length) : l.st.n = l.k := (runS_of_ok l.quota h l.k hk).1
theorem rep_vs {s : StV} {q : Q} : (s.rep q).vs = [] := by
  unfold StV.rep
  split
  · rename_i h
    unfold StV.may at h
    simp only [Bool.and_eq_true] at h
    exact doRep_vs h.1.2
  · rfl

/-! ### in memory -/
structure LnB (w : World) (g : Nat) (cs : Array Value) (V : Value) (n : Nat) (xs : List Value) (R : Value) (k : Nat) (rs : List Value) (gs : Nat) (Fs : Nat → Prop) (st : StV) : Prop where
  bk : Bk w g 79 cs
  row : w.ownsRow 0 23 6 V n xs
  reps : w.ownsRow 0 32 4 R k rs
  sto : StAt w gs Fs st
  sg : ¬ Fs g
  sv : ∀ b, V.ownBlock = some b → ¬ Fs b
  sr : ∀ b, R.ownBlock = some b → ¬ Fs b
/-- the blocks of a log -/
def LnF (g : Nat) (V R : Value) (Fs : Nat → Prop) (k : Nat) : Prop := k = g ∨ V.ownBlock = some k ∨ R.ownBlock = some k ∨ Fs k
/-- the cells of a log -/
structure LnC (cs : Array Value) (V R : Value) (gs : Nat) (quota : Int) (qs : List ReqV) : Prop where
  q0 : cs[0]? = some (.int .i64 quota)
  l0 : cs[1]? = some V
  sq : ∀ c : Nat, c < 4 → cs[2 + c]? = some (.int .i64 (lastSeq qs c))
  tc : ∀ i : Nat, i < 32 → cs[6 + i]? = some (.int .i64 (lastAt qs i))
  s0 : cs[38]? = some (.pointer (some ⟨gs, 0, none⟩))
  r0 : cs[39]? = some R
def RepsOk (l : LnV) (rs : List Value) : Prop := ∀ j, j < l.k → rs[j * 4]? = some (.int .i64 (l.rep j).code) ∧ rs[j * 4 + 1]? = some (.int .i64 (l.rep j).ver) ∧ rs[j * 4 + 2]? = some (.string (l.rep j).data) ∧ ∃ A c, rs[j * 4 + 3]? = some (.slice A 0 c)
structure LnAt (w : World) (g : Nat) (F : Nat → Prop) (l : LnV) : Prop where
  ex : ∃ cs V R rs gs Fs, LnB w g cs V l.qs.length (l.qs.flatMap ReqV.cells) R l.k rs gs Fs l.st ∧ LnC cs V R gs l.quota l.qs ∧ RepsOk l rs ∧ ∀ k, LnF g V R Fs k → F k
  ok : LnOk l.qs
  kl : l.k ≤ l.qs.length
  lt : ∀ k, F k → k < w.heap.size

section
variable {w w' : World} {g n k gs : Nat} {cs : Array Value} {V R : Value} {xs rs : List Value} {F Fs S : Nat → Prop} {st : StV} {l : LnV}
theorem LnB.fr (h : LnB w g cs V n xs R k rs gs Fs st) (hf : Fr S w w') (hS : ∀ k, LnF g V R Fs k → ¬ S k) : LnB w' g cs V n xs R k rs gs Fs st :=
  ⟨h.bk.fr hf (hS g (.inl rfl)), own_fr h.row hf (fun b hb => hS b (.inr (.inl hb))), own_fr h.reps hf (fun b hb => hS b (.inr (.inr (.inl hb)))), h.sto.fr hf (fun b hb => hS b (.inr (.inr (.inr hb)))), h.sg, h.sv, h.sr⟩
theorem LnB.old (h : LnB w g cs V n xs R k rs gs Fs st) (hf : Old w w') : LnB w' g cs V n xs R k rs gs Fs st := h.fr (S := fun _ => False) (Fr.of_old hf) (fun _ _ h => h)
theorem own_block_lt {e : TypeId} {size : Nat} (h : w.ownsRow 0 e size V n xs) {b : Nat} (hb : V.ownBlock = some b) : b < w.heap.size := (own_blk h hb).2.elim fun _ h => h.lt
theorem LnB.lt (h : LnB w g cs V n xs R k rs gs Fs st) {b : Nat} (hb : LnF g V R Fs b) : b < w.heap.size := by
  rcases hb with rfl | hb | hb | hb
  · exact h.bk.lt
  · exact own_block_lt h.row hb
  · exact own_block_lt h.reps hb
  · exact h.sto.lt b hb
theorem LnB.ne_vr (h : LnB w g cs V n xs R k rs gs Fs st) {b : Nat} (h1 : V.ownBlock = some b) : R.ownBlock ≠ some b := fun h2 => by
  obtain ⟨-, c1, b1⟩ := own_blk h.row h1
  obtain ⟨-, c2, b2⟩ := own_blk h.reps h2
  exact Bk.ne_ b1 b2 (by decide) rfl
theorem LnB.ne_gv (h : LnB w g cs V n xs R k rs gs Fs st) : V.ownBlock ≠ some g := own_ne_bk h.row h.bk (by decide)
theorem LnB.ne_gr (h : LnB w g cs V n xs R k rs gs Fs st) : R.ownBlock ≠ some g := own_ne_bk h.reps h.bk (by decide)
/-- a store into the log's own block -/
theorem LnB.set_ (h : LnB w g cs V n xs R k rs gs Fs st) (i : Nat) (u : Value) : LnB (w.setCell ⟨g, i, none⟩ u) g (cs.setIfInBounds i u) V n xs R k rs gs Fs st := by
  have hf : Fr (fun k => k = g) w (w.setCell ⟨g, i, none⟩ u) := Fr.setCell (S := fun k => k = g) (p := ⟨g, i, none⟩) (Fr.refl _ w) (.inr rfl) u
  exact ⟨h.bk.set_ i u, own_set h.row h.ne_gv u, own_set h.reps h.ne_gr u, h.sto.fr hf (fun b hb e => h.sg (e ▸ hb)), h.sg, h.sv, h.sr⟩
theorem LnAt.fr (h : LnAt w g F l) (hf : Fr S w w') (hS : ∀ k, F k → ¬ S k) : LnAt w' g F l := by
  obtain ⟨⟨cs, V, R, rs, gs, Fs, h1, h2, h3, h4⟩, h5, h6, h7⟩ := h
  exact ⟨⟨cs, V, R, rs, gs, Fs, h1.fr hf (fun k hk => hS k (h4 k hk)), h2, h3, h4⟩, h5, h6, fun k hk => Nat.lt_of_lt_of_le (h7 k hk) hf.size⟩
theorem LnAt.old (h : LnAt w g F l) (hf : Old w w') : LnAt w' g F l := h.fr (S := fun _ => False) (Fr.of_old hf) (fun _ _ h => h)
theorem LnAt.gF (h : LnAt w g F l) : F g := by
  obtain ⟨⟨cs, V, R, rs, gs, Fs, h1, h2, h3, h4⟩, h5, h6, h7⟩ := h
  exact h4 g (.inl rfl)
end
def lnCells (quota : Int) (gs : Nat) : Array Value := #[.int .i64 quota, .slice none 0 0, .int .i64 0, .int .i64 0, .int .i64 0, .int .i64 0,
  .int .i64 0, .int .i64 0, .int .i64 0, .int .i64 0, .int .i64 0, .int .i64 0, .int .i64 0, .int .i64 0, .int .i64 0, .int .i64 0, .int .i64 0, .int .i64 0, .int .i64 0, .int .i64 0, .int .i64 0, .int .i64 0,
  .int .i64 0, .int .i64 0, .int .i64 0, .int .i64 0, .int .i64 0, .int .i64 0, .int .i64 0, .int .i64 0, .int .i64 0, .int .i64 0, .int .i64 0, .int .i64 0, .int .i64 0, .int .i64 0, .int .i64 0, .int .i64 0,
  .pointer (some ⟨gs, 0, none⟩), .slice none 0 0]
theorem lnCells_eq (quota : Int) (gs : Nat) : lnCells quota gs = (#[.int .i64 quota, .slice none 0 0] ++ Array.replicate 36 (.int .i64 0)) ++ #[.pointer (some ⟨gs, 0, none⟩), .slice none 0 0] := by kernel_rfl
theorem lnCells_mid (quota : Int) (gs i : Nat) (hi : i < 36) : (lnCells quota gs)[2 + i]? = some (.int .i64 0) := by
  rw [lnCells_eq, Array.getElem?_append_left (by simp; omega), Array.getElem?_append_right (by simp)]
  simp [Array.getElem?_replicate, hi]
theorem Ln_new {w : World} {g gs : Nat} {Fs : Nat → Prop} {quota : Int} (h : Bk w g 79 (lnCells quota gs)) (hs : StAt w gs Fs (StV.new quota)) (hg : ¬ Fs g) : LnAt w g (fun k => k = g ∨ Fs k) (LnV.new quota) :=
  ⟨⟨lnCells quota gs, .slice none 0 0, .slice none 0 0, [], gs, Fs, ⟨h, World.ownsRow_nil _ _ _ _, World.ownsRow_nil _ _ _ _, hs, hg, fun b hb => by simp [Value.ownBlock] at hb, fun b hb => by simp [Value.ownBlock] at hb⟩,
    ⟨rfl, rfl, fun c hc => lnCells_mid quota gs c (by omega), fun i hi => by have := lnCells_mid quota gs (4 + i) (by omega); rw [← Nat.add_assoc] at this; exact this, rfl, rfl⟩, fun j hj => absurd hj (Nat.not_lt_zero _), fun k hk => by
      rcases hk with hk | hk | hk | hk
      · exact .inl hk
      · simp [Value.ownBlock] at hk
      · simp [Value.ownBlock] at hk
      · exact .inr hk⟩, LnOk.nil, Nat.le_refl _, fun k hk => by
      rcases hk with rfl | hk
      · exact h.lt
      · exact hs.lt k hk⟩
end Go.Proofs.Ytmhnlpilbbfgnaa

/- line.Line: New, Len, Committed, Seq, Last; what of it is read. -/
namespace Go.Proofs.Ytmhnlpilbbfgnaa
open Go.RowKit

set_option maxHeartbeats 400000 in
theorem Newer_at (c s k i m : Int) (d : ByteArray) (n : Int) (b1 b : Bool) (h1 : mayQ c s k i m d = b1) (hb : (b1 && decide (n < s)) = b) (w : World) :
    Calls Try.prog 44 #[.agg #[.int .i64 c, .int .i64 s, .int .i64 k, .int .i64 i, .int .i64 m, .string d], .int .i64 n] w fun e w' => e = .returned (.bool b) ∧ Old w w' := by
  have cM := hide (fun W => iMay_at c s k i m d b1 h1 W)
  have hbk := Bk.new w 23 #[.int .i64 c, .int .i64 s, .int .i64 k, .int .i64 i, .int .i64 m, .string d]
  clear h1
  by_cases hlt : n < s
  all_goals
    cases b1 <;> simp [hlt] at hb <;> subst hb
    all_goals
      go_enter Try.func44, Try.ntmps44
      go_wp2_with (go_at_call 42; refine (cM.out _).mono ?_; rintro e w1 ⟨rfl, hb1⟩; obtain ⟨⟨x0, x1, x2, x3, x4, x5⟩, l1⟩ := bk6 (hbk.old hb1))
      go_ret
      exact ⟨by first | rfl | simp [hlt] | simp, ((Old.refl' w).alloc' _).trans' hb1⟩

/-- what a log's block tells, wherever it is read while it stands -/
structure LnSee (w : World) (g : Nat) (l : LnV) (A : Option Addr) (n ca gs : Nat) (Fs : Nat → Prop) (B : Option Addr) (cb : Nat) (rs : List Value) : Prop where
  gl : g < w.heap.size
  q0 : w.cell? ⟨g, 0, none⟩ = some (.int .i64 l.quota)
  l0 : w.cell? ⟨g, 1, none⟩ = some (.slice A n ca)
  sq : ∀ c : Nat, c < 4 → w.cell? ⟨g, 2 + c, none⟩ = some (.int .i64 (lastSeq l.qs c))
  tc : ∀ i : Nat, i < 32 → w.cell? ⟨g, 6 + i, none⟩ = some (.int .i64 (lastAt l.qs i))
  s0 : w.cell? ⟨g, 38, none⟩ = some (.pointer (some ⟨gs, 0, none⟩))
  r0 : w.cell? ⟨g, 39, none⟩ = some (.slice B l.k cb)
  row : ReqsAt w A l.qs
  reps : CellsAt w B rs
  rok : RepsOk l rs
  rl : rs.length = l.k * 4
  sto : StAt w gs Fs l.st
  fz : ∀ o, w.frozen? ⟨g, o, none⟩ = false
theorem LnAt.see {w : World} {g : Nat} {F : Nat → Prop} {l : LnV} (h : LnAt w g F l) {n : Nat} (hn : l.qs.length = n) : ∃ A ca gs Fs B cb rs, LnSee w g l A n ca gs Fs B cb rs := by
  subst hn
  obtain ⟨⟨cs, V, R, rs, gs, Fs, h1, h2, h3, h4⟩, h5, h6, h7⟩ := h
  obtain ⟨A, ca, rfl, -, -⟩ := own_form h1.row
  obtain ⟨B, cb, rfl, -, -⟩ := own_form h1.reps
  have hc := h1.bk.cell
  exact ⟨A, ca, gs, Fs, B, cb, rs, h1.bk.lt, (hc 0).trans h2.q0, (hc 1).trans h2.l0, fun c hc4 => (hc _).trans (h2.sq c hc4), fun i hi => (hc _).trans (h2.tc i hi), (hc 38).trans h2.s0, (hc 39).trans h2.r0,
    CellsAt.of_own h1.row, CellsAt.of_own h1.reps, h3, h1.reps.1, h1.sto, h1.bk.frozen⟩

set_option maxRecDepth 100000 in
set_option maxHeartbeats 400000 in
theorem New_ln (quota : Int) (hq : 1 ≤ quota ∧ quota ≤ 100) (w : World) :
    Calls Try.prog 24 #[.int .i64 quota] w fun e w' => ∃ g F, e = .returned (.tuple #[.pointer (some ⟨g, 0, none⟩), .int .i64 0]) ∧ LnAt w' g F (LnV.new quota) ∧ (∀ k, F k → w.heap.size ≤ k) ∧ Old w w' := by
  have cN := hide (New_st quota hq w)
  go_enter Try.func24, Try.ntmps24
  go_wp2_with (go_at_call 47; refine cN.out.mono ?_; rintro e w1 ⟨rfl, st1, o1⟩)
  refine bodyPost_ret (v := .tuple #[.pointer (some ⟨w1.heap.size, 0, none⟩), .int .i64 0]) (by simp [results, Try.results24, go_sem]) rfl ?_
  refine ⟨w1.heap.size, _, rfl, Ln_new (gs := w.heap.size) (Fs := fun k => k = w.heap.size) (Bk.new w1 79 (lnCells quota w.heap.size)) (st1.old ((Old.refl' w1).alloc' _)) (fun e => ?_), fun k hk => ?_, o1.alloc' _⟩
  · have := st1.lt _ rfl; omega
  · have := o1.size; omega
set_option maxHeartbeats 400000 in
theorem New_ln_no (quota : Int) (hq : ¬ (1 ≤ quota ∧ quota ≤ 100)) (w : World) :
    Calls Try.prog 24 #[.int .i64 quota] w fun e w' => e = .returned (.tuple #[.pointer none, .int .i64 1]) ∧ w = w' := by
  have cN := hide (New_no quota hq w)
  go_enter Try.func24, Try.ntmps24
  go_wp2_with (go_at_call 47; refine cN.out.mono ?_; rintro e w1 ⟨rfl, rfl⟩)
  exact bodyPost_ret (v := .tuple #[.pointer none, .int .i64 1]) (by simp [results, Try.results24, go_sem]) rfl ⟨rfl, rfl⟩

set_option maxHeartbeats 400000 in
theorem Len_ln (g : Nat) (F : Nat → Prop) (l : LnV) (n : Nat) (hn : l.qs.length = n) (w : World) (h : LnAt w g F l) :
    Calls Try.prog 18 #[.pointer (some ⟨g, 0, none⟩)] w fun e w' => e = .returned (.int .i64 n) ∧ w = w' := by
  obtain ⟨A, ca, gs, Fs, B, cb, rs, hs⟩ := h.see hn
  have l0 := hs.l0
  clear h hs hn
  go_enter Try.func18, Try.ntmps18
  go_wp2
  go_ret
  exact ⟨rfl, rfl⟩
set_option maxHeartbeats 400000 in
theorem Len_ln_nil (w : World) :
    Calls Try.prog 18 #[.pointer none] w fun e w' => e = .returned (.int .i64 0) ∧ w = w' := by
  go_enter Try.func18, Try.ntmps18
  go_wp2
  go_ret
  exact ⟨rfl, rfl⟩
set_option maxHeartbeats 400000 in
theorem Com_ln (g : Nat) (F : Nat → Prop) (l : LnV) (k : Nat) (hk : l.k = k) (w : World) (h : LnAt w g F l) :
    Calls Try.prog 19 #[.pointer (some ⟨g, 0, none⟩)] w fun e w' => e = .returned (.int .i64 k) ∧ w = w' := by
  obtain ⟨A, ca, gs, Fs, B, cb, rs, hs⟩ := h.see rfl
  have s0 := hs.s0
  have cL := hide (by have := Len_st gs Fs l.st w hs.sto; rwa [LnV.st_n h.ok h.kl, hk] at this)
  clear h hs
  go_enter Try.func19, Try.ntmps19
  go_wp2_with (go_at_call 28; refine cL.out.mono ?_; rintro e w1 ⟨rfl, rfl⟩)
  go_ret
  exact ⟨rfl, rfl⟩
set_option maxHeartbeats 400000 in
theorem Com_ln_nil (w : World) :
    Calls Try.prog 19 #[.pointer none] w fun e w' => e = .returned (.int .i64 0) ∧ w = w' := by
  go_enter Try.func19, Try.ntmps19
  go_wp2
  go_ret
  exact ⟨rfl, rfl⟩
set_option maxHeartbeats 400000 in
theorem Seq_ln (g c : Nat) (hc : c < 4) (F : Nat → Prop) (l : LnV) (w : World) (h : LnAt w g F l) :
    Calls Try.prog 21 #[.pointer (some ⟨g, 0, none⟩), .int .i64 c] w fun e w' => e = .returned (.int .i64 (lastSeq l.qs c)) ∧ w = w' := by
  obtain ⟨A, ca, gs, Fs, B, cb, rs, hs⟩ := h.see rfl
  have q := hs.sq c hc
  have hc0 : (0 : Int) ≤ c := by omega
  have hc4 : (c : Int) < 4 := by omega
  clear h hs
  go_enter Try.func21, Try.ntmps21
  go_wp2
  go_ret
  exact ⟨rfl, rfl⟩
set_option maxHeartbeats 400000 in
theorem Seq_ln_out (p : Option Addr) (c : Int) (hc : p = none ∨ ¬ (0 ≤ c ∧ c < 4)) (w : World) :
    Calls Try.prog 21 #[.pointer p, .int .i64 c] w fun e w' => e = .returned (.int .i64 0) ∧ w = w' := by
  by_cases h1 : 0 ≤ c <;> by_cases h2 : c < 4 <;> rcases hc with rfl | hc
  all_goals first | (exfalso; omega) | skip
  all_goals try clear hc
  all_goals try (cases p)
  all_goals
    go_enter Try.func21, Try.ntmps21
    go_wp2
    go_ret
    exact ⟨rfl, rfl⟩
set_option maxHeartbeats 400000 in
theorem Last_ln (g i : Nat) (hi : i < 32) (F : Nat → Prop) (l : LnV) (w : World) (h : LnAt w g F l) :
    Calls Try.prog 22 #[.pointer (some ⟨g, 0, none⟩), .int .i64 i] w fun e w' => e = .returned (.int .i64 (lastAt l.qs i)) ∧ w = w' := by
  obtain ⟨A, ca, gs, Fs, B, cb, rs, hs⟩ := h.see rfl
  have q := hs.tc i hi
  have hc0 : (0 : Int) ≤ i := by omega
  have hc4 : (i : Int) ≤ 31 := by omega
  have hc5 : (i : Int) < 32 := by omega
  clear h hs
  go_enter Try.func22, Try.ntmps22
  go_wp2
  go_ret
  exact ⟨rfl, rfl⟩
set_option maxHeartbeats 400000 in
theorem Last_ln_out (p : Option Addr) (c : Int) (hc : p = none ∨ ¬ (0 ≤ c ∧ c ≤ 31)) (w : World) :
    Calls Try.prog 22 #[.pointer p, .int .i64 c] w fun e w' => e = .returned (.int .i64 0) ∧ w = w' := by
  by_cases h1 : 0 ≤ c <;> by_cases h2 : c ≤ 31 <;> rcases hc with rfl | hc
  all_goals first | (exfalso; omega) | skip
  all_goals try clear hc
  all_goals try (cases p)
  all_goals
    go_enter Try.func22, Try.ntmps22
    go_wp2
    go_ret
    exact ⟨rfl, rfl⟩
end Go.Proofs.Ytmhnlpilbbfgnaa

/- line.Line.Put. -/
namespace Go.Proofs.Ytmhnlpilbbfgnaa
open Go.RowKit

theorem wp_runv {P : Program} {Q : Exit → Act → World → Prop} {K : Act → World → Prop} {o : Oper} {a : Act} {w w' : World} (u : Value) (hr : (execOp a.eval o).run P w = .ok (.value u) w') (h : K (a.put o.dst u) w') : Oper.wp P o a w K Q := by
  unfold Oper.wp
  rw [hr]
  exact h
theorem info_Req : (Try.prog.info? 23).map (fun i => (i.zero, i.size, i.bytes)) = some (some (.agg #[.int .i64 0, .int .i64 0, .int .i64 0, .int .i64 0, .int .i64 0, .string { data := #[] }]), 6, 56) := by kernel_rfl

/-- its row has grown -/
theorem LnB.app {w w1 W2 : World} {g n k gs ca c2 : Nat} {cs : Array Value} {A A2 : Option Addr} {R : Value} {xs ys rs : List Value} {Fs : Nat → Prop} {st : StV} (h : LnB w g cs (.slice A n ca) n xs R k rs gs Fs st) (ho : Old w w1)
    (h2 : Apps w1 0 23 6 (.slice A n ca) (n + 1) ys (.slice A2 (n + 1) c2) W2) :
    LnB (W2.setCell ⟨g, 1, none⟩ (.slice A2 (n + 1) c2)) g (cs.setIfInBounds 1 (.slice A2 (n + 1) c2)) (.slice A2 (n + 1) c2) (n + 1) ys R k rs gs Fs st ∧
    Fr (fun b => b = g ∨ (Value.slice A n ca).ownBlock = some b) w (W2.setCell ⟨g, 1, none⟩ (.slice A2 (n + 1) c2)) ∧
    (∀ b, (Value.slice A2 (n + 1) c2).ownBlock = some b → (Value.slice A n ca).ownBlock = some b ∨ w.heap.size ≤ b) := by
  have hs := ho.size
  have h1 := h.old ho
  have hf : Fr (fun b => (Value.slice A n ca).ownBlock = some b) w1 W2 := h2.fr (fun k _ hk => hk)
  have hv2 : ∀ b, (Value.slice A2 (n + 1) c2).ownBlock = some b → (Value.slice A n ca).ownBlock = some b ∨ w1.heap.size = b := fun b hb => by
    rcases h2.2.2 with e | e
    · exact .inl (e ▸ hb)
    · rw [hb] at e; injection e with e; exact .inr e.symm
  have hB : LnB W2 g cs (.slice A2 (n + 1) c2) (n + 1) ys R k rs gs Fs st :=
    ⟨h1.bk.fr hf h1.ne_gv, h2.own, own_fr h1.reps hf (fun b hb hb' => h1.ne_vr hb' hb), h1.sto.fr hf (fun b hb hb' => h1.sv b hb' hb), h1.sg, fun b hb hF => by
      rcases hv2 b hb with e | e
      · exact h1.sv b e hF
      · have := h1.sto.lt b hF; omega, h1.sr⟩
  refine ⟨hB.set_ 1 _, ?_, fun b hb => ?_⟩
  · exact Fr.setCell (p := ⟨g, 1, none⟩) ((Fr.of_old ho).trans (hf.mono fun k _ hk => .inr hk)) (.inr (.inl rfl)) _
  · rcases hv2 b hb with e | e
    · exact .inl e
    · right; omega
/-- a log that has one request more -/
theorem LnAt.grown {w w' : World} {g n c2 gs ca : Nat} {F Fs : Nat → Prop} {l : LnV} {cs cs' : Array Value} {A A2 : Option Addr} {R : Value} {rs : List Value} {q : ReqV} (hn : l.qs.length = n) (hs : w.heap.size ≤ w'.heap.size)
    (h0 : LnB w g cs (.slice A n ca) n (l.qs.flatMap ReqV.cells) R l.k rs gs Fs l.st) (h : LnB w' g cs' (.slice A2 (n + 1) c2) (n + 1) (l.qs.flatMap ReqV.cells ++ q.cells) R l.k rs gs Fs l.st) (hc : LnC cs' (.slice A2 (n + 1) c2) R gs l.quota (l.qs ++ [q])) (hr : RepsOk l rs)
    (hF : ∀ b, LnF g (.slice A n ca) R Fs b → F b) (hv : ∀ b, (Value.slice A2 (n + 1) c2).ownBlock = some b → (Value.slice A n ca).ownBlock = some b ∨ w.heap.size ≤ b) (hok : LnOk l.qs) (hm : l.may q = true) (hk : l.k ≤ l.qs.length) (hlt : ∀ b, F b → b < w.heap.size) :
    ∃ F', LnAt w' g F' (l.put q) ∧ ∀ b, F' b → F b ∨ w.heap.size ≤ b := by
  have e : l.put q = ⟨l.quota, l.qs ++ [q], l.k⟩ := by unfold LnV.put; rw [if_pos hm]
  obtain ⟨m1, m2, m3⟩ := LnV.may_iff.1 hm
  have est : (⟨l.quota, l.qs ++ [q], l.k⟩ : LnV).st = l.st := by show runS _ _ = runS _ _; rw [List.take_append_of_le_length hk]
  rw [e]
  refine ⟨fun b => (F b ∨ w.heap.size ≤ b) ∧ b < w'.heap.size, ⟨⟨cs', .slice A2 (n + 1) c2, R, rs, gs, Fs, ?_, hc, ?_, fun b hb => ⟨?_, h.lt hb⟩⟩, hok.snoc m1 m2 m3, by show l.k ≤ (l.qs ++ [q]).length; simp; omega, fun b hb => hb.2⟩, fun b hb => hb.1⟩
  · rw [est]
    show LnB w' g cs' _ (l.qs ++ [q]).length ((l.qs ++ [q]).flatMap ReqV.cells) R l.k rs gs Fs l.st
    rw [List.length_append, List.flatMap_append, hn]
    simpa using h
  · intro j hj
    have hj' : j < l.k := hj
    have : (⟨l.quota, l.qs ++ [q], l.k⟩ : LnV).rep j = l.rep j := by
      unfold LnV.rep
      show (runS l.quota ((l.qs ++ [q]).take j)).rep ((l.qs ++ [q])[j]?.getD default).q = _
      rw [List.take_append_of_le_length (by omega), List.getElem?_append_left (by omega)]
    rw [this]
    exact hr j hj
  · rcases hb with hb | hb | hb | hb
    · exact .inl (hF b (.inl hb))
    · rcases hv b hb with hb | hb
      · exact .inl (hF b (.inr (.inl hb)))
      · exact .inr hb
    · exact .inl (hF b (.inr (.inr (.inl hb))))
    · exact .inl (hF b (.inr (.inr (.inr hb))))

/-- two cells, each set or not yet -/
def cs2 (cs : Array Value) (a b : Nat) (u v : Value) (o1 o2 : Option Value) : Array Value := match o1, o2 with
  | none, none => cs
  | some _, none => cs.setIfInBounds a u
  | none, some _ => cs.setIfInBounds b v
  | some _, some _ => (cs.setIfInBounds a u).setIfInBounds b v
theorem get_ne {cs : Array Value} {i j : Nat} (h : i ≠ j) (u : Value) : (cs.setIfInBounds i u)[j]? = cs[j]? := by
  rw [Array.getElem?_setIfInBounds, if_neg h]
theorem get_eq {cs : Array Value} {j : Nat} {v : Value} (h : cs[j]? = some v) (u : Value) : (cs.setIfInBounds j u)[j]? = some u := by
  rw [Array.getElem?_setIfInBounds, if_pos rfl, if_pos (Array.getElem?_eq_some_iff.1 h).1]
theorem cs2_1 {cs : Array Value} {a b : Nat} {u v x : Value} (h : a ≠ b) (o : Option Value) : (cs2 cs a b u v none o).setIfInBounds a u = cs2 cs a b u v (some x) o := by
  cases o
  · rfl
  · exact Array.setIfInBounds_comm _ _ (Ne.symm h)
theorem cs2_2 {cs : Array Value} {a b : Nat} {u v x : Value} (o : Option Value) : (cs2 cs a b u v o none).setIfInBounds b v = cs2 cs a b u v o (some x) := by
  cases o <;> rfl
theorem cs2_ne {cs : Array Value} {a b j : Nat} {u v w : Value} (h1 : a ≠ j) (h2 : b ≠ j) (h : cs[j]? = some w) (o1 o2 : Option Value) : (cs2 cs a b u v o1 o2)[j]? = some w := by
  cases o1 <;> cases o2 <;> simp only [cs2, get_ne h1, get_ne h2, h]
theorem cs2_some {cs : Array Value} {a b j : Nat} {u v w : Value} (h : cs[j]? = some w) (o1 o2 : Option Value) : ∃ w', (cs2 cs a b u v o1 o2)[j]? = some w' := by
  have hs := (Array.getElem?_eq_some_iff.1 h).1
  cases o1 <;> cases o2 <;> simp only [cs2] <;> exact ⟨_, Array.getElem?_eq_getElem (by simpa using hs)⟩
/-- its cells with one request more -/
theorem LnC.put {cs : Array Value} {V V2 R : Value} {gs n : Nat} {quota : Int} {qs : List ReqV} (h : LnC cs V R gs quota qs) {c i : Nat} (hc : c < 4) (hi : i < 32) {k m s : Int} {d : ByteArray} (hn : qs.length = n) :
    LnC (((cs.setIfInBounds 1 V2).setIfInBounds (2 + c) (.int .i64 s)).setIfInBounds (6 + i) (.int .i64 ((n : Int) + 1))) V2 R gs quota (qs ++ [⟨c, s, k, i, m, d⟩]) := by
  refine ⟨?_, ?_, fun c' hc' => ?_, fun i' hi' => ?_, ?_, ?_⟩
  · rw [get_ne (by omega), get_ne (by omega), get_ne (by omega)]; exact h.q0
  · rw [get_ne (by omega), get_ne (by omega)]; exact get_eq h.l0 _
  · rw [get_ne (by omega), lastSeq_snoc]
    by_cases e : c = c'
    · subst e
      rw [if_pos rfl]
      exact get_eq (v := .int .i64 (lastSeq qs c)) (by rw [get_ne (by omega)]; exact h.sq c hc) _
    · rw [get_ne (by omega), get_ne (by omega), if_neg (show ¬ ((c : Int) = (c' : Int)) by omega)]; exact h.sq c' hc'
  · rw [lastAt_snoc]
    by_cases e : i = i'
    · subst e
      rw [if_pos rfl, get_eq (v := .int .i64 (lastAt qs i)) (by rw [get_ne (by omega), get_ne (by omega)]; exact h.tc i hi) _, hn]
      simp
    · rw [get_ne (by omega), get_ne (by omega), get_ne (by omega), if_neg (show ¬ ((i : Int) = (i' : Int)) by omega)]; exact h.tc i' hi'
  · rw [get_ne (by omega), get_ne (by omega), get_ne (by omega)]; exact h.s0
  · rw [get_ne (by omega), get_ne (by omega), get_ne (by omega)]; exact h.r0

set_option maxHeartbeats 400000 in
theorem LPut_nil (q : ReqV) (w : World) :
    Calls Try.prog 13 #[.pointer none, q.q.v] w fun e w' => e = .returned (.tuple #[.int .i64 0, .int .i64 1]) ∧ Old w w' := by
  obtain ⟨c, s, k, i, m, dt⟩ := q
  simp only [ReqV.q, Q.v]
  go_enter Try.func13, Try.ntmps13
  go_wp2
  refine bodyPost_ret (v := .tuple #[.int .i64 0, .int .i64 1]) (by simp [results, Try.results13, go_sem]) rfl ?_
  exact ⟨rfl, (Old.refl' w).alloc' _⟩

set_option maxRecDepth 100000 in
set_option maxHeartbeats 1000000 in
theorem LPut_arg (g : Nat) (q : ReqV) (hq : (q.q.may && Writes q.kind) = false) (w : World) :
    Calls Try.prog 13 #[.pointer (some ⟨g, 0, none⟩), q.q.v] w fun e w' => e = .returned (.tuple #[.int .i64 0, .int .i64 1]) ∧ Old w w' := by
  obtain ⟨c, s, k, i, m, dt⟩ := q
  simp only [ReqV.q, Q.v, Q.may] at hq ⊢
  obtain ⟨b1, h1⟩ : ∃ b, mayQ c s k i m dt = b := ⟨_, rfl⟩
  have cM := hide (fun (W : World) => iMay_at c s k i m dt b1 h1 W)
  have hX := hide (fun (W : World) (h : Old (w.alloc (.cells #[.int .i64 c, .int .i64 s, .int .i64 k, .int .i64 i, .int .i64 m, .string dt] 23)) W) => bk6 ((Bk.new w 23 #[.int .i64 c, .int .i64 s, .int .i64 k, .int .i64 i, .int .i64 m, .string dt]).old h))
  cases b1 with
  | false =>
    clear hq h1
    go_enter Try.func13, Try.ntmps13
    go_wp2_with (go_at_call 42; refine (cM.out _).mono ?_; rintro e w1 ⟨rfl, hb1⟩; obtain ⟨⟨x0, x1, x2, x3, x4, x5⟩, l1⟩ := hX.out _ hb1)
    refine bodyPost_ret (v := .tuple #[.int .i64 0, .int .i64 1]) (by simp [results, Try.results13, go_sem]) rfl ?_
    exact ⟨rfl, ((Old.refl' w).alloc' _).trans' hb1⟩
  | true =>
    have hw : Writes k = false := by rw [h1] at hq; simpa using hq
    have cW := hide (fun (W : World) => iWrites_at c s k i m dt false hw W)
    clear hq h1 hw
    go_enter Try.func13, Try.ntmps13
    go_wp2_with (first
      | (go_at_call 42; refine (cM.out _).mono ?_; rintro e w1 ⟨rfl, hb1⟩; obtain ⟨⟨x0, x1, x2, x3, x4, x5⟩, l1⟩ := hX.out _ hb1)
      | (go_at_call 43; refine (cW.out _).mono ?_; rintro e w2 ⟨rfl, hb2⟩; clear x0 x1 x2 x3 x4 x5 l1; have hbb := hb1.trans' hb2; obtain ⟨⟨x0, x1, x2, x3, x4, x5⟩, l1⟩ := hX.out _ hbb; clear hb1 hb2))
    refine bodyPost_ret (v := .tuple #[.int .i64 0, .int .i64 1]) (by simp [results, Try.results13, go_sem]) rfl ?_
    exact ⟨rfl, ((Old.refl' w).alloc' _).trans' hbb⟩

theorem mayQ_b {c s k i m : Int} {d : ByteArray} (h : mayQ c s k i m d = true) : (0 ≤ c ∧ c ≤ 3) ∧ (1 ≤ s ∧ s ≤ 1073741824) ∧ (0 ≤ i ∧ i ≤ 31) ∧ (0 ≤ m ∧ m ≤ 100) := by
  simp only [mayQ, Bool.and_eq_true, decide_eq_true_eq] at h
  omega
theorem mayQ_d {c s k i m : Int} {d : ByteArray} (h : mayQ c s k i m d = true) : d.size ≤ 64 := by
  simp only [mayQ, Bool.and_eq_true, decide_eq_true_eq] at h
  obtain ⟨-, h⟩ := h
  unfold mayK at h
  split at h
  · simp only [Bool.and_eq_true, decide_eq_true_eq] at h; exact h.2
  · split at h
    · simpa using h
    · have e0 : ByteArray.empty.size = 0 := rfl
      split at h
      · simp only [decide_eq_true_eq] at h; rw [h, e0]; omega
      · split at h
        · simp only [Bool.and_eq_true, decide_eq_true_eq] at h; rw [h.2, e0]; omega
        · split at h
          · simp only [Bool.and_eq_true, decide_eq_true_eq] at h; rw [h.2, e0]; omega
          · cases h

set_option maxRecDepth 100000 in
set_option maxHeartbeats 2000000 in
theorem LPut_order (g : Nat) (F : Nat → Prop) (l : LnV) (q : ReqV) (hq : (q.q.may && Writes q.kind) = true) (hs : ¬ lastSeq l.qs q.client < q.seq) (w : World) (h : LnAt w g F l) :
    Calls Try.prog 13 #[.pointer (some ⟨g, 0, none⟩), q.q.v] w fun e w' => e = .returned (.tuple #[.int .i64 0, .int .i64 9]) ∧ Old w w' := by
  obtain ⟨c, s, k, i, m, dt⟩ := q
  simp only [ReqV.q, Q.v, Q.may, Bool.and_eq_true] at hq hs ⊢
  obtain ⟨h1, h2⟩ := hq
  obtain ⟨⟨c0, c3⟩, -, -, -⟩ := mayQ_b h1
  obtain ⟨c, rfl⟩ : ∃ n : Nat, c = n := ⟨c.toNat, by omega⟩
  obtain ⟨sq, hsq⟩ : ∃ x, lastSeq l.qs c = x := ⟨_, rfl⟩
  rw [hsq] at hs
  obtain ⟨A, ca, gs, Fs, B, cb, rs, hsee⟩ := h.see rfl
  have hSQ := hide (fun (W : World) (hW : Old (w.alloc (.cells #[.int .i64 c, .int .i64 s, .int .i64 k, .int .i64 i, .int .i64 m, .string dt] 23)) W) => (((((Old.refl' w).alloc' _).trans' hW).cell (p := ⟨g, 2 + c, none⟩) hsee.gl).trans (by rw [← hsq]; exact hsee.sq c (by omega)) : W.cell? ⟨g, 2 + c, none⟩ = some (.int .i64 sq)))
  have cM := hide (fun (W : World) => iMay_at c s k i m dt true h1 W)
  have cW := hide (fun (W : World) => iWrites_at c s k i m dt true h2 W)
  have cN := hide (fun (W : World) => Newer_at c s k i m dt sq true false h1 (by simpa using hs) W)
  have hX := hide (fun (W : World) (h : Old (w.alloc (.cells #[.int .i64 c, .int .i64 s, .int .i64 k, .int .i64 i, .int .i64 m, .string dt] 23)) W) => bk6 ((Bk.new w 23 #[.int .i64 c, .int .i64 s, .int .i64 k, .int .i64 i, .int .i64 m, .string dt]).old h))
  have hc4 : (c : Int) < 4 := by omega
  clear h1 h2 h hsee hs hsq
  go_enter Try.func13, Try.ntmps13
  go_wp2_with (first
    | (go_at_call 42; refine (cM.out _).mono ?_; rintro e w1 ⟨rfl, hb1⟩; obtain ⟨⟨x0, x1, x2, x3, x4, x5⟩, l1⟩ := hX.out _ hb1)
    | (go_at_call 43; refine (cW.out _).mono ?_; rintro e w2 ⟨rfl, hb2⟩; clear x0 x1 x2 x3 x4 x5 l1; have hbb := hb1.trans' hb2; obtain ⟨⟨x0, x1, x2, x3, x4, x5⟩, l1⟩ := hX.out _ hbb; clear hb1 hb2))
  refine region_steps (R := pick [eqv (.agg #[.int .i64 c, .int .i64 s, .int .i64 k, .int .i64 i, .int .i64 m, .string dt]), eqv (.pointer (some ⟨g, 0, none⟩)), eqv (.pointer (some ⟨w.heap.size, 0, none⟩)), eqv (.int .i64 c), eqv (.pointer (some ⟨g, 0, none⟩)), eqv (.pointer (some ⟨g, 2, none⟩)), eqv (.pointer (some ⟨g, 2 + c, none⟩)), eqv (.int .i64 sq), eqv (.bool false), eqv (.bool true), eqv (.bool true)]) (S := fun _ w' => Old (w.alloc (.cells #[.int .i64 c, .int .i64 s, .int .i64 k, .int .i64 i, .int .i64 m, .string dt] 23)) w') (T := Old) (by kernel_rfl) (by kernel_rfl) (by kernel_rfl) (Stab.pick (Stab.eqv (Stab.eqv (Stab.eqv (Stab.eqv (Stab.eqv (Stab.eqv (Stab.eqv (Stab.eqv (Stab.eqv (Stab.eqv (Stab.eqv (Stab.nil))))))))))))) (hbb.drew') ?steps ?ends
  case steps =>
    refine StepsOk.cons (stepOk_pure [] [(3, .pointer (some ⟨w.heap.size, 0, none⟩))] rfl rfl (by kernel_rfl) (by kernel_rfl) rfl Old.refl' (fun _ _ _ h => h) (fun d E w' hk hda hS hc hf => by rintro  e3; obtain ⟨⟨s0, s1, s2, s3, s4, s5⟩, l9⟩ := hX.out _ hS; have t0 := hSQ.out _ hS; exact ⟨_, by go_simp, rfl⟩)) ?_
    refine StepsOk.cons (stepOk_pure [] [(0, .pointer (some ⟨g, 0, none⟩))] rfl rfl (by kernel_rfl) (by kernel_rfl) rfl Old.refl' (fun _ _ _ h => h) (fun d E w' hk hda hS hc hf => by rintro  e0; exact ⟨_, by go_simp, rfl⟩)) ?_
    refine StepsOk.cons (stepOk_pure [] [(3, .pointer (some ⟨w.heap.size, 0, none⟩))] rfl rfl (by kernel_rfl) (by kernel_rfl) rfl Old.refl' (fun _ _ _ h => h) (fun d E w' hk hda hS hc hf => by rintro  e3; exact ⟨_, by go_simp, rfl⟩)) ?_
    refine StepsOk.cons (stepOk_pure [(2, 22)] [] rfl rfl (by kernel_rfl) (by kernel_rfl) rfl Old.refl' (fun _ _ _ h => h) (fun d E w' hk hda hS hc hf => by rintro _ q2 rfl e22 ; obtain ⟨⟨s0, s1, s2, s3, s4, s5⟩, l9⟩ := hX.out _ hS; have t0 := hSQ.out _ hS; exact ⟨_, by go_simp, rfl⟩)) ?_
    refine StepsOk.cons (stepOk_pure [(1, 21)] [] rfl rfl (by kernel_rfl) (by kernel_rfl) rfl Old.refl' (fun _ _ _ h => h) (fun d E w' hk hda hS hc hf => by rintro _ q1 rfl e21 ; exact ⟨_, by go_simp, rfl⟩)) ?_
    refine StepsOk.cons (stepOk_pure [(4, 24)] [] rfl rfl (by kernel_rfl) (by kernel_rfl) rfl Old.refl' (fun _ _ _ h => h) (fun d E w' hk hda hS hc hf => by rintro _ q4 rfl e24 ; exact ⟨_, by go_simp, rfl⟩)) ?_
    refine StepsOk.cons (stepOk_pure [(5, 25), (3, 23)] [] rfl rfl (by kernel_rfl) (by kernel_rfl) rfl Old.refl' (fun _ _ _ h => h) (fun d E w' hk hda hS hc hf => by rintro _ q5 rfl e25 _ q3 rfl e23 ; obtain ⟨⟨s0, s1, s2, s3, s4, s5⟩, l9⟩ := hX.out _ hS; have t0 := hSQ.out _ hS; exact ⟨_, by go_simp, rfl⟩)) ?_
    refine StepsOk.cons (stepOk_pure [(6, 26)] [] rfl rfl (by kernel_rfl) (by kernel_rfl) rfl Old.refl' (fun _ _ _ h => h) (fun d E w' hk hda hS hc hf => by rintro _ q6 rfl e26 ; obtain ⟨⟨s0, s1, s2, s3, s4, s5⟩, l9⟩ := hX.out _ hS; have t0 := hSQ.out _ hS; exact ⟨_, by go_simp, rfl⟩)) ?_
    refine StepsOk.cons (stepOk_mk [(0, 20), (7, 27)] [] rfl rfl (by kernel_rfl) (by kernel_rfl) rfl ?_) ?_
    · rintro d a w' hk hda hS _ q0 rfl e20 _ q7 rfl e27 
      first | refine Given.nil (Known.nil ?_) | refine Known.nil ?_
      refine wp_call 44 _ Try.func44 (by kernel_rfl) (by kernel_rfl) _ _ (by rfl) [.agg #[.int .i64 c, .int .i64 s, .int .i64 k, .int .i64 i, .int .i64 m, .string dt], .int .i64 sq] (by simp only [List.map_cons, List.map_nil, *]; try rfl) (cN.out _) ?_
      rintro e w1 ⟨rfl, hb⟩
      exact ⟨_, rfl, _, rfl, rfl, hb, hS.trans' hb⟩
    refine StepsOk.cons (stepOk_pure [(8, 28)] [] rfl rfl (by kernel_rfl) (by kernel_rfl) rfl Old.refl' (fun _ _ _ h => h) (fun d E w' hk hda hS hc hf => by rintro _ q8 rfl e28 ; exact ⟨_, by go_simp, rfl⟩)) ?_
    refine StepsOk.cons (stepOk_pure [(9, 29)] [] rfl rfl (by kernel_rfl) (by kernel_rfl) rfl Old.refl' (fun _ _ _ h => h) (fun d E w' hk hda hS hc hf => by rintro _ q9 rfl e29 ; exact ⟨_, by go_simp, rfl⟩)) ?_
    exact StepsOk.nil
  case ends =>
    intro σ9 w9 hS9 hA9
    refine Ends.eqv (some 20) (.agg #[.int .i64 c, .int .i64 s, .int .i64 k, .int .i64 i, .int .i64 m, .string dt]) rfl (fun _ h => h) ?_
    refine Ends.eqv (some 21) (.pointer (some ⟨g, 0, none⟩)) rfl (fun _ h => h) ?_
    refine Ends.eqv (some 22) (.pointer (some ⟨w.heap.size, 0, none⟩)) rfl (fun _ h => h) ?_
    refine Ends.eqv (some 23) (.int .i64 c) rfl (fun _ h => h) ?_
    refine Ends.eqv (some 24) (.pointer (some ⟨g, 0, none⟩)) rfl (fun _ h => h) ?_
    refine Ends.eqv (some 25) (.pointer (some ⟨g, 2, none⟩)) rfl (fun _ h => h) ?_
    refine Ends.eqv (some 26) (.pointer (some ⟨g, 2 + c, none⟩)) rfl (fun _ h => h) ?_
    refine Ends.eqv (some 27) (.int .i64 sq) rfl (fun _ h => h) ?_
    refine Ends.eqv (some 28) (.bool false) rfl (fun _ h => h) ?_
    refine Ends.eqv (some 29) (.bool true) rfl (fun _ h => h) ?_
    refine Ends.eqv (some 19) (.bool true) rfl (fun _ h => h) ?_
    refine Ends.nil ?_
    clear hA9
    simp only [put_lit, put_none, List.set_cons_zero, List.set_cons_succ]
    clear x0 x1 x2 x3 x4 x5 l1 hbb
    have hbb := hS9
    clear hS9
    obtain ⟨⟨x0, x1, x2, x3, x4, x5⟩, l1⟩ := hX.out _ hbb
    go_wp2_with fail
    refine bodyPost_ret (v := .tuple #[.int .i64 0, .int .i64 9]) (by simp [results, Try.results13, go_sem]) rfl ?_
    exact ⟨rfl, ((Old.refl' w).alloc' _).trans' hbb⟩

set_option maxRecDepth 100000 in
set_option maxHeartbeats 4000000 in
theorem LPut_done (g : Nat) (F : Nat → Prop) (l : LnV) (n : Nat) (hn : l.qs.length = n) (hn2 : n ≤ 50000) (q : ReqV) (hq : (q.q.may && Writes q.kind) = true) (hs : lastSeq l.qs q.client < q.seq) (w : World) (h : LnAt w g F l) :
    Calls Try.prog 13 #[.pointer (some ⟨g, 0, none⟩), q.q.v] w fun e w' => e = .returned (.tuple #[.int .i64 ((n : Int) + 1), .int .i64 0]) ∧
      (∃ F', LnAt w' g F' (l.put q) ∧ ∀ b, F' b → F b ∨ w.heap.size ≤ b) ∧ Fr F w w' := by
  obtain ⟨j0, hj0, hj00, hj01, hj02⟩ := info_parts info_Req
  have hm : l.may q = true := by unfold LnV.may; rw [hq]; simpa using hs
  have hGR := fun (w' : World) (A A2 : Option Addr) (ca c2 gs : Nat) (R : Value) (rs : List Value) (Fs : Nat → Prop) (cs cs' : Array Value) hs' h0 h9 hc hr hF hv => LnAt.grown (w := w) (w' := w') (g := g) (n := n) (c2 := c2) (gs := gs) (ca := ca) (F := F) (Fs := Fs) (l := l) (cs := cs) (cs' := cs') (A := A) (A2 := A2) (R := R) (rs := rs) (q := q) hn hs' h0 h9 hc hr hF hv h.ok hm h.kl h.lt
  have HGR := hide hGR
  obtain ⟨lp, hlp⟩ : ∃ x, l.put q = x := ⟨_, rfl⟩
  rw [hlp]
  have hAPS := fun x => lastSeq_snoc l.qs q x
  have hAPT := fun x => lastAt_snoc l.qs q x
  obtain ⟨c, s, k, i, m, dt⟩ := q
  simp only [ReqV.q, Q.v, Q.may, Bool.and_eq_true] at hq hs hAPS hAPT ⊢
  obtain ⟨h1, h2⟩ := hq
  obtain ⟨⟨c0, c3⟩, -, ⟨i0, i31⟩, -⟩ := mayQ_b h1
  obtain ⟨c, rfl⟩ : ∃ n : Nat, c = n := ⟨c.toNat, by omega⟩
  obtain ⟨i, rfl⟩ : ∃ n : Nat, i = n := ⟨i.toNat, by omega⟩
  obtain ⟨sq, hsq⟩ : ∃ x, lastSeq l.qs c = x := ⟨_, rfl⟩
  rw [hsq] at hs
  obtain ⟨⟨cs, V, R, rs, gs, Fs, hB, hC, hR, hFF⟩, hok, hkl, hFl⟩ := h
  obtain ⟨A, ca, rfl, -, -⟩ := own_form hB.row
  rw [hn] at hB hC hFF
  obtain ⟨xs, hxs⟩ : ∃ xs, l.qs.flatMap ReqV.cells = xs := ⟨_, rfl⟩
  obtain ⟨st, hst⟩ : ∃ st, l.st = st := ⟨_, rfl⟩
  obtain ⟨k0, hk0⟩ : ∃ k0, l.k = k0 := ⟨_, rfl⟩
  rw [hxs, hst, hk0] at hB
  have hgl := hB.bk.lt
  have hSQ := hide (fun (W : World) (hW : Old (w.alloc (.cells #[.int .i64 c, .int .i64 s, .int .i64 k, .int .i64 i, .int .i64 m, .string dt] 23)) W) => (((((Old.refl' w).alloc' _).trans' hW).cell (p := ⟨g, 2 + c, none⟩) hgl).trans ((hB.bk.cell _).trans (by rw [← hsq]; exact hC.sq c (by omega))) : W.cell? ⟨g, 2 + c, none⟩ = some (.int .i64 sq)))
  have cM := hide (fun (W : World) => iMay_at c s k i m dt true h1 W)
  have cW := hide (fun (W : World) => iWrites_at c s k i m dt true h2 W)
  have cN := hide (fun (W : World) => Newer_at c s k i m dt sq true true h1 (by simpa using hs) W)
  have hX := hide (fun (W : World) (h : Old (w.alloc (.cells #[.int .i64 c, .int .i64 s, .int .i64 k, .int .i64 i, .int .i64 m, .string dt] 23)) W) => bk6 ((Bk.new w 23 #[.int .i64 c, .int .i64 s, .int .i64 k, .int .i64 i, .int .i64 m, .string dt]).old h))
  have hBQ := hide (fun (W : World) (h : Old (w.alloc (.cells #[.int .i64 c, .int .i64 s, .int .i64 k, .int .i64 i, .int .i64 m, .string dt] 23)) W) => (Bk.new w 23 #[.int .i64 c, .int .i64 s, .int .i64 k, .int .i64 i, .int .i64 m, .string dt]).old h)
  have hBB := hide (fun (W : World) (h : Old (w.alloc (.cells #[.int .i64 c, .int .i64 s, .int .i64 k, .int .i64 i, .int .i64 m, .string dt] 23)) W) => hB.old (((Old.refl' w).alloc' (.cells #[.int .i64 c, .int .i64 s, .int .i64 k, .int .i64 i, .int .i64 m, .string dt] 23)).trans' h))
  have HB := hide hB
  have HC := hide hC
  have HR := hide hR
  have HFF := hide hFF
  have hc4 : (c : Int) < 4 := by omega
  have hi32 : (i : Int) < 32 := by omega
  have hX1 : cs[1]? = some (.slice A n ca) := hC.l0
  have HS := hide hs
  clear h1 h2 hs hB hC hR hFF hGR hm hok hkl
  go_enter Try.func13, Try.ntmps13
  go_wp2_with (first
    | (go_at_call 42; refine (cM.out _).mono ?_; rintro e w1 ⟨rfl, hb1⟩; obtain ⟨⟨x0, x1, x2, x3, x4, x5⟩, l1⟩ := hX.out _ hb1)
    | (go_at_call 43; refine (cW.out _).mono ?_; rintro e w2 ⟨rfl, hb2⟩; clear x0 x1 x2 x3 x4 x5 l1; have hbb := hb1.trans' hb2; obtain ⟨⟨x0, x1, x2, x3, x4, x5⟩, l1⟩ := hX.out _ hbb; clear hb1 hb2))
  refine region_steps (R := pick [eqv (.agg #[.int .i64 c, .int .i64 s, .int .i64 k, .int .i64 i, .int .i64 m, .string dt]), eqv (.pointer (some ⟨g, 0, none⟩)), eqv (.pointer (some ⟨w.heap.size, 0, none⟩)), eqv (.int .i64 c), eqv (.pointer (some ⟨g, 0, none⟩)), eqv (.pointer (some ⟨g, 2, none⟩)), eqv (.pointer (some ⟨g, 2 + c, none⟩)), eqv (.int .i64 sq), eqv (.bool true), eqv (.bool false), eqv (.bool false)]) (S := fun _ w' => Old (w.alloc (.cells #[.int .i64 c, .int .i64 s, .int .i64 k, .int .i64 i, .int .i64 m, .string dt] 23)) w') (T := Old) (by kernel_rfl) (by kernel_rfl) (by kernel_rfl) (Stab.pick (Stab.eqv (Stab.eqv (Stab.eqv (Stab.eqv (Stab.eqv (Stab.eqv (Stab.eqv (Stab.eqv (Stab.eqv (Stab.eqv (Stab.eqv (Stab.nil))))))))))))) (hbb.drew') ?steps ?ends
  case steps =>
    refine StepsOk.cons (stepOk_pure [] [(3, .pointer (some ⟨w.heap.size, 0, none⟩))] rfl rfl (by kernel_rfl) (by kernel_rfl) rfl Old.refl' (fun _ _ _ h => h) (fun d E w' hk hda hS hc hf => by rintro  e3; obtain ⟨⟨s0, s1, s2, s3, s4, s5⟩, l9⟩ := hX.out _ hS; have t0 := hSQ.out _ hS; exact ⟨_, by go_simp, rfl⟩)) ?_
    refine StepsOk.cons (stepOk_pure [] [(0, .pointer (some ⟨g, 0, none⟩))] rfl rfl (by kernel_rfl) (by kernel_rfl) rfl Old.refl' (fun _ _ _ h => h) (fun d E w' hk hda hS hc hf => by rintro  e0; exact ⟨_, by go_simp, rfl⟩)) ?_
    refine StepsOk.cons (stepOk_pure [] [(3, .pointer (some ⟨w.heap.size, 0, none⟩))] rfl rfl (by kernel_rfl) (by kernel_rfl) rfl Old.refl' (fun _ _ _ h => h) (fun d E w' hk hda hS hc hf => by rintro  e3; exact ⟨_, by go_simp, rfl⟩)) ?_
    refine StepsOk.cons (stepOk_pure [(2, 22)] [] rfl rfl (by kernel_rfl) (by kernel_rfl) rfl Old.refl' (fun _ _ _ h => h) (fun d E w' hk hda hS hc hf => by rintro _ q2 rfl e22 ; obtain ⟨⟨s0, s1, s2, s3, s4, s5⟩, l9⟩ := hX.out _ hS; have t0 := hSQ.out _ hS; exact ⟨_, by go_simp, rfl⟩)) ?_
    refine StepsOk.cons (stepOk_pure [(1, 21)] [] rfl rfl (by kernel_rfl) (by kernel_rfl) rfl Old.refl' (fun _ _ _ h => h) (fun d E w' hk hda hS hc hf => by rintro _ q1 rfl e21 ; exact ⟨_, by go_simp, rfl⟩)) ?_
    refine StepsOk.cons (stepOk_pure [(4, 24)] [] rfl rfl (by kernel_rfl) (by kernel_rfl) rfl Old.refl' (fun _ _ _ h => h) (fun d E w' hk hda hS hc hf => by rintro _ q4 rfl e24 ; exact ⟨_, by go_simp, rfl⟩)) ?_
    refine StepsOk.cons (stepOk_pure [(5, 25), (3, 23)] [] rfl rfl (by kernel_rfl) (by kernel_rfl) rfl Old.refl' (fun _ _ _ h => h) (fun d E w' hk hda hS hc hf => by rintro _ q5 rfl e25 _ q3 rfl e23 ; obtain ⟨⟨s0, s1, s2, s3, s4, s5⟩, l9⟩ := hX.out _ hS; have t0 := hSQ.out _ hS; exact ⟨_, by go_simp, rfl⟩)) ?_
    refine StepsOk.cons (stepOk_pure [(6, 26)] [] rfl rfl (by kernel_rfl) (by kernel_rfl) rfl Old.refl' (fun _ _ _ h => h) (fun d E w' hk hda hS hc hf => by rintro _ q6 rfl e26 ; obtain ⟨⟨s0, s1, s2, s3, s4, s5⟩, l9⟩ := hX.out _ hS; have t0 := hSQ.out _ hS; exact ⟨_, by go_simp, rfl⟩)) ?_
    refine StepsOk.cons (stepOk_mk [(0, 20), (7, 27)] [] rfl rfl (by kernel_rfl) (by kernel_rfl) rfl ?_) ?_
    · rintro d a w' hk hda hS _ q0 rfl e20 _ q7 rfl e27 
      first | refine Given.nil (Known.nil ?_) | refine Known.nil ?_
      refine wp_call 44 _ Try.func44 (by kernel_rfl) (by kernel_rfl) _ _ (by rfl) [.agg #[.int .i64 c, .int .i64 s, .int .i64 k, .int .i64 i, .int .i64 m, .string dt], .int .i64 sq] (by simp only [List.map_cons, List.map_nil, *]; try rfl) (cN.out _) ?_
      rintro e w1 ⟨rfl, hb⟩
      exact ⟨_, rfl, _, rfl, rfl, hb, hS.trans' hb⟩
    refine StepsOk.cons (stepOk_pure [(8, 28)] [] rfl rfl (by kernel_rfl) (by kernel_rfl) rfl Old.refl' (fun _ _ _ h => h) (fun d E w' hk hda hS hc hf => by rintro _ q8 rfl e28 ; exact ⟨_, by go_simp, rfl⟩)) ?_
    refine StepsOk.cons (stepOk_pure [(9, 29)] [] rfl rfl (by kernel_rfl) (by kernel_rfl) rfl Old.refl' (fun _ _ _ h => h) (fun d E w' hk hda hS hc hf => by rintro _ q9 rfl e29 ; exact ⟨_, by go_simp, rfl⟩)) ?_
    exact StepsOk.nil
  case ends =>
    intro σ9 w9 hS9 hA9
    refine Ends.eqv (some 20) (.agg #[.int .i64 c, .int .i64 s, .int .i64 k, .int .i64 i, .int .i64 m, .string dt]) rfl (fun _ h => h) ?_
    refine Ends.eqv (some 21) (.pointer (some ⟨g, 0, none⟩)) rfl (fun _ h => h) ?_
    refine Ends.eqv (some 22) (.pointer (some ⟨w.heap.size, 0, none⟩)) rfl (fun _ h => h) ?_
    refine Ends.eqv (some 23) (.int .i64 c) rfl (fun _ h => h) ?_
    refine Ends.eqv (some 24) (.pointer (some ⟨g, 0, none⟩)) rfl (fun _ h => h) ?_
    refine Ends.eqv (some 25) (.pointer (some ⟨g, 2, none⟩)) rfl (fun _ h => h) ?_
    refine Ends.eqv (some 26) (.pointer (some ⟨g, 2 + c, none⟩)) rfl (fun _ h => h) ?_
    refine Ends.eqv (some 27) (.int .i64 sq) rfl (fun _ h => h) ?_
    refine Ends.eqv (some 28) (.bool true) rfl (fun _ h => h) ?_
    refine Ends.eqv (some 29) (.bool false) rfl (fun _ h => h) ?_
    refine Ends.eqv (some 19) (.bool false) rfl (fun _ h => h) ?_
    refine Ends.nil ?_
    clear hA9
    simp only [put_lit, put_none, List.set_cons_zero, List.set_cons_succ]
    clear x0 x1 x2 x3 x4 x5 l1 hbb
    have hbb := hS9
    clear hS9
    obtain ⟨⟨x0, x1, x2, x3, x4, x5⟩, l1⟩ := hX.out _ hbb
    go_wp2_with fail
    clear x0 x1 x2 x3 x4 x5 l1
    have hB4 := hBB.out _ hbb.drew'
    have hQ4 := hBQ.out _ hbb.drew'
    have hw4 : Old w w9.drew := (((Old.refl' w).alloc' (.cells #[.int .i64 c, .int .i64 s, .int .i64 k, .int .i64 i, .int .i64 m, .string dt] 23)).trans' hbb).drew'
    obtain ⟨WD, hWDe⟩ : ∃ U, w9.drew = U := ⟨_, rfl⟩
    rw [hWDe] at hB4 hQ4 hw4
    have bkX := hB4.bk
    have ownX := hB4.row
    have hNE := hB4.ne_gv
    have CS := hide (fun (U : World) (h : Old WD U) => (⟨(bk6 (hQ4.old h)).1, ((bkX.old h).cell 1).trans hX1⟩ : (U.cell? ⟨w.heap.size, 0, none⟩ = some (.int .i64 c) ∧ U.cell? ⟨w.heap.size, 1, none⟩ = some (.int .i64 s) ∧ U.cell? ⟨w.heap.size, 2, none⟩ = some (.int .i64 k) ∧ U.cell? ⟨w.heap.size, 3, none⟩ = some (.int .i64 i) ∧ U.cell? ⟨w.heap.size, 4, none⟩ = some (.int .i64 m) ∧ U.cell? ⟨w.heap.size, 5, none⟩ = some (.string dt)) ∧ U.cell? ⟨g, 1, none⟩ = some (.slice A n ca)))
    have hqg : g ≠ w.heap.size := by omega
    obtain ⟨Fin, hFin⟩ : ∃ F : World → Prop, F = fun U => ∃ A2 c2, LnB U g (cs.setIfInBounds 1 (.slice A2 (n + 1) c2)) (.slice A2 (n + 1) c2) (n + 1) (xs ++ [.int .i64 c, .int .i64 s, .int .i64 k, .int .i64 i, .int .i64 m, .string dt]) R k0 rs gs Fs st ∧ Bk U w.heap.size 23 #[.int .i64 c, .int .i64 s, .int .i64 k, .int .i64 i, .int .i64 m, .string dt] ∧
      Fr (fun b => b = g ∨ (Value.slice A n ca).ownBlock = some b) w U ∧ (∀ b, (Value.slice A2 (n + 1) c2).ownBlock = some b → (Value.slice A n ca).ownBlock = some b ∨ w.heap.size ≤ b) := ⟨_, rfl⟩
    have hAPP := fun (A2 : Option Addr) (c2 : Nat) (W2 : World) (h2 : Apps (WD.alloc (.cells #[.int .i64 c, .int .i64 s, .int .i64 k, .int .i64 i, .int .i64 m, .string dt] 23)) 0 23 6 (.slice A n ca) (n + 1) (xs ++ [.int .i64 c, .int .i64 s, .int .i64 k, .int .i64 i, .int .i64 m, .string dt]) (.slice A2 (n + 1) c2) W2) => (by
      obtain ⟨a1, a2, a3⟩ := hB4.app ((Old.refl' WD).alloc' _) h2
      rw [hFin]
      have hlt := HB.out.row
      have hqn : ¬ (w.heap.size = g ∨ (Value.slice A n ca).ownBlock = some w.heap.size) := fun e => by
        rcases e with e | e
        · exact hqg e.symm
        · have := own_block_lt HB.out.row e; omega
      refine ⟨A2, c2, a1, hQ4.fr a2 hqn, (Fr.of_old hw4).trans a2, fun b hb => ?_⟩
      rcases a3 b hb with hb | hb
      · exact .inl hb
      · have := hw4.size; exact .inr (by omega) : Fin (W2.setCell ⟨g, 1, none⟩ (.slice A2 (n + 1) c2)))
    clear hB4 hQ4 hw4 hbb
    refine region_steps (R := pick [eqv (.pointer (some ⟨g, 0, none⟩)), eqv (.pointer (some ⟨g, 0, none⟩)), eqv (.pointer (some ⟨g, 0, none⟩)), eqv (.pointer (some ⟨g, 1, none⟩)), eqv (.slice A n ca), eqv (.agg #[.int .i64 c, .int .i64 s, .int .i64 k, .int .i64 i, .int .i64 m, .string dt]), eqv (.slice (some ⟨WD.heap.size, 0, none⟩) 1 1), fun v w' => ∃ A2 c2, v = .slice A2 (n + 1) c2, eqv (.pointer (some ⟨g, 0, none⟩)), eqv (.pointer (some ⟨g, 1, none⟩)), eqv (undef)]) (S := fun σ w' => (σ 10 ≠ none → Fin w') ∧ (σ 10 = none → σ 7 ≠ none → ∃ A2 c2, σ 7 = some (.slice A2 (n + 1) c2) ∧ Apps (WD.alloc (.cells #[.int .i64 c, .int .i64 s, .int .i64 k, .int .i64 i, .int .i64 m, .string dt] 23)) 0 23 6 (.slice A n ca) (n + 1) (xs ++ [.int .i64 c, .int .i64 s, .int .i64 k, .int .i64 i, .int .i64 m, .string dt]) (.slice A2 (n + 1) c2) w') ∧ (σ 10 = none → σ 7 = none → σ 6 ≠ none → w' = (WD.alloc (.cells #[.int .i64 c, .int .i64 s, .int .i64 k, .int .i64 i, .int .i64 m, .string dt] 23))) ∧ (σ 10 = none → σ 7 = none → σ 6 = none → w' = WD)) (T := (fun _ _ => True)) (by kernel_rfl) (by kernel_rfl) (by kernel_rfl) (Stab.pick (Stab.eqv (Stab.eqv (Stab.eqv (Stab.eqv (Stab.eqv (Stab.eqv (Stab.eqv (Stab.cons (fun _ _ _ _ h => h) (Stab.eqv (Stab.eqv (Stab.eqv (Stab.nil))))))))))))) (⟨fun h => absurd rfl h, fun _ h => absurd rfl h, fun _ _ h => absurd rfl h, fun _ _ _ => hWDe⟩) ?steps ?ends
    case steps =>
      refine StepsOk.cons (stepOk_pure [] [(0, .pointer (some ⟨g, 0, none⟩))] rfl rfl (by kernel_rfl) (by kernel_rfl) rfl (fun _ => trivial) (fun σ v w h => by simpa [upd] using h) (fun d E w' hk hda hS hc hf => by rintro  e0; exact ⟨_, by go_simp, rfl⟩)) ?_
      refine StepsOk.cons (stepOk_pure [] [(0, .pointer (some ⟨g, 0, none⟩))] rfl rfl (by kernel_rfl) (by kernel_rfl) rfl (fun _ => trivial) (fun σ v w h => by simpa [upd] using h) (fun d E w' hk hda hS hc hf => by rintro  e0; exact ⟨_, by go_simp, rfl⟩)) ?_
      refine StepsOk.cons (stepOk_pure [(1, 31)] [] rfl rfl (by kernel_rfl) (by kernel_rfl) rfl (fun _ => trivial) (fun σ v w h => by simpa [upd] using h) (fun d E w' hk hda hS hc hf => by rintro _ q1 rfl e31 ; exact ⟨_, by go_simp, rfl⟩)) ?_
      refine StepsOk.cons (stepOk_pure [(2, 32)] [] rfl rfl (by kernel_rfl) (by kernel_rfl) rfl (fun _ => trivial) (fun σ v w h => by simpa [upd] using h) (fun d E w' hk hda hS hc hf => by rintro _ q2 rfl e32 ; exact ⟨_, by go_simp, rfl⟩)) ?_
      refine StepsOk.cons (stepOk_pure [(3, 33)] [] rfl rfl (by kernel_rfl) (by kernel_rfl) rfl (fun _ => trivial) (fun σ v w h => by simpa [upd] using h) (fun d E w' hk hda hS hc hf => by rintro _ q3 rfl e33 ; obtain ⟨⟨s0, s1, s2, s3, s4, s5⟩, t1⟩ := CS.out w' ((Classical.em (d 6 = none)).elim (fun h13 => by rw [hS.2.2.2 (hk 10 (by kernel_rfl)) (hk 7 (by kernel_rfl)) h13]; exact Old.refl' _) (fun h13 => by rw [hS.2.2.1 (hk 10 (by kernel_rfl)) (hk 7 (by kernel_rfl)) h13]; exact (Old.refl' _).alloc' _)); exact ⟨_, by go_simp, rfl⟩)) ?_
      refine StepsOk.cons (stepOk_pure [] [(3, .pointer (some ⟨w.heap.size, 0, none⟩))] rfl rfl (by kernel_rfl) (by kernel_rfl) rfl (fun _ => trivial) (fun σ v w h => by simpa [upd] using h) (fun d E w' hk hda hS hc hf => by rintro  e3; obtain ⟨⟨s0, s1, s2, s3, s4, s5⟩, t1⟩ := CS.out w' ((Classical.em (d 6 = none)).elim (fun h13 => by rw [hS.2.2.2 (hk 10 (by kernel_rfl)) (hk 7 (by kernel_rfl)) h13]; exact Old.refl' _) (fun h13 => by rw [hS.2.2.1 (hk 10 (by kernel_rfl)) (hk 7 (by kernel_rfl)) h13]; exact (Old.refl' _).alloc' _)); exact ⟨_, by go_simp, rfl⟩)) ?_
      refine StepsOk.cons (stepOk_mk [(5, 35)] [] rfl rfl (by kernel_rfl) (by kernel_rfl) rfl ?_) ?_
      · rintro d a w' hk hda hS _ q5 rfl e35 
        first | refine Given.nil (Known.nil ?_) | refine Known.nil ?_
        obtain rfl := (hS.2.2.2 (hk 10 (by kernel_rfl)) (hk 7 (by kernel_rfl)) (hk 6 (by kernel_rfl))).symm
        refine wp_runv (w' := (WD.alloc (.cells #[.int .i64 c, .int .i64 s, .int .i64 k, .int .i64 i, .int .i64 m, .string dt] 23))) (.slice (some ⟨WD.heap.size, 0, none⟩) 1 1) (by revert e35; generalize a.eval = E; intro e35; go_simp) ⟨_, rfl, rfl, trivial, ?_⟩
        exact ⟨fun h => absurd (hk 10 (by kernel_rfl)) (by simpa [upd] using h), fun _ h => absurd (hk 7 (by kernel_rfl)) (by simpa [upd] using h), fun _ _ _ => rfl, fun _ _ h => by simp [upd] at h⟩
      refine StepsOk.cons (stepOk_mk [(4, 34), (6, 36)] [] rfl rfl (by kernel_rfl) (by kernel_rfl) rfl ?_) ?_
      · rintro d a w' hk hda hS _ q4 rfl e34 _ q6 rfl e36 
        first | refine Given.nil (Known.nil ?_) | refine Known.nil ?_
        obtain rfl := hS.2.2.1 (hk 10 (by kernel_rfl)) (hk 7 (by kernel_rfl)) (by rw [q6]; simp)
        refine wp_app _ (.tmp 34) (.tmp 36) 38 rfl 0 23 j0 (.agg #[.int .i64 0, .int .i64 0, .int .i64 0, .int .i64 0, .int .i64 0, .string { data := #[] }]) 6 56 Try.underlying38 hj0 hj00 hj01 hj02 rfl (by decide) (.slice A n ca) n (xs) e34 (ownX.alloc _) (some ⟨WD.heap.size, 0, none⟩) 1 1 [.int .i64 c, .int .i64 s, .int .i64 k, .int .i64 i, .int .i64 m, .string dt] e36 rfl (cells_bk (Bk.new WD 23 #[.int .i64 c, .int .i64 s, .int .i64 k, .int .i64 i, .int .i64 m, .string dt])) (by simp [Value.oneCell']) (by unfold maxLen; omega) (by omega) (Nat.zero_le _) (n + 1) rfl _ rfl ?_
        intro A2 c2 W2 h2
        exact ⟨_, rfl, ⟨A2, c2, rfl⟩, trivial, fun h => absurd (hk 10 (by kernel_rfl)) (by simpa [upd] using h), fun _ _ => ⟨A2, c2, by simp [upd], h2⟩, fun _ h => by simp [upd] at h, fun _ h => by simp [upd] at h⟩
      refine StepsOk.cons (stepOk_pure [(0, 30)] [] rfl rfl (by kernel_rfl) (by kernel_rfl) rfl (fun _ => trivial) (fun σ v w h => by simpa [upd] using h) (fun d E w' hk hda hS hc hf => by rintro _ q0 rfl e30 ; exact ⟨_, by go_simp, rfl⟩)) ?_
      refine StepsOk.cons (stepOk_pure [(8, 38)] [] rfl rfl (by kernel_rfl) (by kernel_rfl) rfl (fun _ => trivial) (fun σ v w h => by simpa [upd] using h) (fun d E w' hk hda hS hc hf => by rintro _ q8 rfl e38 ; exact ⟨_, by go_simp, rfl⟩)) ?_
      refine StepsOk.cons (stepOk_store [(9, 39), (7, 37)] [] rfl rfl (by kernel_rfl) (by kernel_rfl) rfl (fun d E w' hk hda hS hc hf => by rintro _ q9 rfl e39 _ q7 ⟨A2, c2, rfl⟩ e37 ; obtain ⟨A3, c3, e14, h2⟩ := hS.2.1 (hk 10 (by kernel_rfl)) (by rw [q7]; simp); rw [q7] at e14; injection e14 with e14; injection e14 with e14a _ e14b; subst e14a e14b; have hG2 := h2.bk (bkX.alloc _) hNE; have y0 := (hG2.cell 1).trans hX1; have y1 := hG2.frozen 1; exact ⟨w'.setCell ⟨g, 1, none⟩ (.slice A2 (n + 1) c2), by go_simp, rfl, trivial, ⟨fun _ => hAPP _ _ _ h2, fun h => by simp [upd] at h, fun h => by simp [upd] at h, fun h => by simp [upd] at h⟩⟩)) ?_
      exact StepsOk.nil
    case ends =>
      intro σ9 w9 hS9 hA9
      refine Ends.eqv (some 30) (.pointer (some ⟨g, 0, none⟩)) rfl (fun _ h => h) ?_
      refine Ends.eqv (some 31) (.pointer (some ⟨g, 0, none⟩)) rfl (fun _ h => h) ?_
      refine Ends.eqv (some 32) (.pointer (some ⟨g, 0, none⟩)) rfl (fun _ h => h) ?_
      refine Ends.eqv (some 33) (.pointer (some ⟨g, 1, none⟩)) rfl (fun _ h => h) ?_
      refine Ends.eqv (some 34) (.slice A n ca) rfl (fun _ h => h) ?_
      refine Ends.eqv (some 35) (.agg #[.int .i64 c, .int .i64 s, .int .i64 k, .int .i64 i, .int .i64 m, .string dt]) rfl (fun _ h => h) ?_
      refine Ends.eqv (some 36) (.slice (some ⟨WD.heap.size, 0, none⟩) 1 1) rfl (fun _ h => h) ?_
      refine Ends.ex (some 37) rfl ?_
      rintro _ p7 ⟨A2, c2, rfl⟩
      refine Ends.eqv (some 38) (.pointer (some ⟨g, 0, none⟩)) rfl (fun _ h => h) ?_
      refine Ends.eqv (some 39) (.pointer (some ⟨g, 1, none⟩)) rfl (fun _ h => h) ?_
      refine Ends.eqv none (undef) rfl (fun _ h => h) ?_
      refine Ends.nil ?_
      have hA9' := hA9
      clear hA9
      simp only [put_lit, put_none, List.set_cons_zero, List.set_cons_succ]
      have hfin := hS9.1 (by have := hA9' 10 (by simp); intro e; rw [e] at this; simp at this)
      clear hS9 hA9'
      rw [hFin] at hfin
      obtain ⟨A2, c2, hB5, hQ5, hF5, hV5⟩ := hfin
      clear CS hAPP bkX ownX hNE hFin hWDe
      obtain ⟨W5, hW5⟩ : ∃ U, w9 = U := ⟨_, rfl⟩
      rw [hW5] at hB5 hQ5 hF5
      simp only [hW5]
      clear hW5
      obtain ⟨xs2, hxs2⟩ : ∃ x, xs ++ [.int .i64 c, .int .i64 s, .int .i64 k, .int .i64 i, .int .i64 m, .string dt] = x := ⟨_, rfl⟩
      obtain ⟨cs1, hcs1⟩ : ∃ x, cs.setIfInBounds 1 (Value.slice A2 (n + 1) c2) = x := ⟨_, rfl⟩
      rw [hcs1, hxs2] at hB5
      have hl1 : cs1[1]? = some (.slice A2 (n + 1) c2) := hcs1 ▸ get_eq hX1 _
      have hC1 := fun o1 o2 => cs2_ne (a := 2 + c) (b := 6 + i) (u := .int .i64 s) (v := .int .i64 ((n : Int) + 1)) (by omega) (by omega) hl1 o1 o2
      have hC2 := fun o1 o2 => cs2_some (a := 2 + c) (b := 6 + i) (u := .int .i64 s) (v := .int .i64 ((n : Int) + 1)) (j := 2 + c) (cs := cs1) (w := .int .i64 (lastSeq l.qs c)) (by rw [← hcs1, get_ne (by omega)]; exact HC.out.sq c (by omega)) o1 o2
      have hC3 := fun o1 o2 => cs2_some (a := 2 + c) (b := 6 + i) (u := .int .i64 s) (v := .int .i64 ((n : Int) + 1)) (j := 6 + i) (cs := cs1) (w := .int .i64 (lastAt l.qs i)) (by rw [← hcs1, get_ne (by omega)]; exact HC.out.tc i (by omega)) o1 o2
      have hST1 : ∀ (d : Nat → Option Value) (W : World), d 16 = none → LnB W g (cs2 cs1 (2 + c) (6 + i) (.int .i64 s) (.int .i64 ((n : Int) + 1)) (d 16) (d 20)) (.slice A2 (n + 1) c2) (n + 1) xs2 R k0 rs gs Fs st →
          LnB (W.setCell ⟨g, 2 + c, none⟩ (.int .i64 s)) g (cs2 cs1 (2 + c) (6 + i) (.int .i64 s) (.int .i64 ((n : Int) + 1)) (upd d 16 undef 16) (upd d 16 undef 20)) (.slice A2 (n + 1) c2) (n + 1) xs2 R k0 rs gs Fs st := fun d W h1 h2 => by
        have e1 : upd d 16 undef 16 = some undef := by simp [upd]
        have e2 : upd d 16 undef 20 = d 20 := by simp [upd]
        rw [h1] at h2
        rw [e1, e2, ← cs2_1 (by omega)]
        exact h2.set_ _ _
      have hST2 : ∀ (d : Nat → Option Value) (W : World), d 20 = none → LnB W g (cs2 cs1 (2 + c) (6 + i) (.int .i64 s) (.int .i64 ((n : Int) + 1)) (d 16) (d 20)) (.slice A2 (n + 1) c2) (n + 1) xs2 R k0 rs gs Fs st →
          LnB (W.setCell ⟨g, 6 + i, none⟩ (.int .i64 ((n : Int) + 1))) g (cs2 cs1 (2 + c) (6 + i) (.int .i64 s) (.int .i64 ((n : Int) + 1)) (upd d 20 undef 16) (upd d 20 undef 20)) (.slice A2 (n + 1) c2) (n + 1) xs2 R k0 rs gs Fs st := fun d W h1 h2 => by
        have e1 : upd d 20 undef 20 = some undef := by simp [upd]
        have e2 : upd d 20 undef 16 = d 16 := by simp [upd]
        rw [h1] at h2
        rw [e1, e2, ← cs2_2]
        exact h2.set_ _ _
      have hn50 : (n : Int) + 1 ≤ 50001 := by omega
      have HL1 := hide hl1
      clear hl1 hX1
      go_wp2_with fail
      refine region_steps (R := pick [eqv (.pointer (some ⟨g, 0, none⟩)), eqv (.pointer (some ⟨w.heap.size, 0, none⟩)), eqv (.int .i64 c), eqv (.pointer (some ⟨g, 0, none⟩)), eqv (.pointer (some ⟨w.heap.size, 3, none⟩)), eqv (.int .i64 i), eqv (.pointer (some ⟨w.heap.size, 1, none⟩)), eqv (.int .i64 s), eqv (.pointer (some ⟨g, 0, none⟩)), eqv (.pointer (some ⟨g, 0, none⟩)), eqv (.pointer (some ⟨g, 1, none⟩)), eqv (.slice A2 (n + 1) c2), eqv (.int .i64 ((n : Int) + 1)), eqv (.pointer (some ⟨g, 0, none⟩)), eqv (.pointer (some ⟨g, 2, none⟩)), eqv (.pointer (some ⟨g, 2 + c, none⟩)), eqv (undef), eqv (.pointer (some ⟨g, 0, none⟩)), eqv (.pointer (some ⟨g, 6, none⟩)), eqv (.pointer (some ⟨g, 6 + i, none⟩)), eqv (undef)]) (S := fun σ w' => LnB w' g (cs2 cs1 (2 + c) (6 + i) (.int .i64 s) (.int .i64 ((n : Int) + 1)) (σ 16) (σ 20)) (.slice A2 (n + 1) c2) (n + 1) xs2 R k0 rs gs Fs st ∧ Bk w' w.heap.size 23 #[.int .i64 c, .int .i64 s, .int .i64 k, .int .i64 i, .int .i64 m, .string dt] ∧ Fr (fun b => b = g) W5 w') (T := (fun _ _ => True)) (by kernel_rfl) (by kernel_rfl) (by kernel_rfl) (Stab.pick (Stab.eqv (Stab.eqv (Stab.eqv (Stab.eqv (Stab.eqv (Stab.eqv (Stab.eqv (Stab.eqv (Stab.eqv (Stab.eqv (Stab.eqv (Stab.eqv (Stab.eqv (Stab.eqv (Stab.eqv (Stab.eqv (Stab.eqv (Stab.eqv (Stab.eqv (Stab.eqv (Stab.eqv (Stab.nil))))))))))))))))))))))) (⟨hB5.old (Old.refl' _).drew', hQ5.drew, (Fr.refl _ _).drew⟩) ?steps ?ends
      case steps =>
        refine StepsOk.cons (stepOk_pure [] [(0, .pointer (some ⟨g, 0, none⟩))] rfl rfl (by kernel_rfl) (by kernel_rfl) rfl (fun _ => trivial) (fun σ v w h => by simpa [upd] using h) (fun d E w' hk hda hS hc hf => by rintro  e0; exact ⟨_, by go_simp, rfl⟩)) ?_
        refine StepsOk.cons (stepOk_pure [] [(3, .pointer (some ⟨w.heap.size, 0, none⟩))] rfl rfl (by kernel_rfl) (by kernel_rfl) rfl (fun _ => trivial) (fun σ v w h => by simpa [upd] using h) (fun d E w' hk hda hS hc hf => by rintro  e3; exact ⟨_, by go_simp, rfl⟩)) ?_
        refine StepsOk.cons (stepOk_pure [(1, 41)] [] rfl rfl (by kernel_rfl) (by kernel_rfl) rfl (fun _ => trivial) (fun σ v w h => by simpa [upd] using h) (fun d E w' hk hda hS hc hf => by rintro _ q1 rfl e41 ; obtain ⟨hB6, hQ6, hF6⟩ := hS; obtain ⟨⟨s0, s1, s2, s3, s4, s5⟩, l9⟩ := bk6 hQ6; have hb6 := hB6.bk; have t1 := (hb6.cell 1).trans (hC1 _ _); exact ⟨_, by go_simp, rfl⟩)) ?_
        refine StepsOk.cons (stepOk_pure [] [(0, .pointer (some ⟨g, 0, none⟩))] rfl rfl (by kernel_rfl) (by kernel_rfl) rfl (fun _ => trivial) (fun σ v w h => by simpa [upd] using h) (fun d E w' hk hda hS hc hf => by rintro  e0; exact ⟨_, by go_simp, rfl⟩)) ?_
        refine StepsOk.cons (stepOk_pure [] [(3, .pointer (some ⟨w.heap.size, 0, none⟩))] rfl rfl (by kernel_rfl) (by kernel_rfl) rfl (fun _ => trivial) (fun σ v w h => by simpa [upd] using h) (fun d E w' hk hda hS hc hf => by rintro  e3; exact ⟨_, by go_simp, rfl⟩)) ?_
        refine StepsOk.cons (stepOk_pure [(4, 44)] [] rfl rfl (by kernel_rfl) (by kernel_rfl) rfl (fun _ => trivial) (fun σ v w h => by simpa [upd] using h) (fun d E w' hk hda hS hc hf => by rintro _ q4 rfl e44 ; obtain ⟨hB6, hQ6, hF6⟩ := hS; obtain ⟨⟨s0, s1, s2, s3, s4, s5⟩, l9⟩ := bk6 hQ6; have hb6 := hB6.bk; have t1 := (hb6.cell 1).trans (hC1 _ _); exact ⟨_, by go_simp, rfl⟩)) ?_
        refine StepsOk.cons (stepOk_pure [] [(3, .pointer (some ⟨w.heap.size, 0, none⟩))] rfl rfl (by kernel_rfl) (by kernel_rfl) rfl (fun _ => trivial) (fun σ v w h => by simpa [upd] using h) (fun d E w' hk hda hS hc hf => by rintro  e3; exact ⟨_, by go_simp, rfl⟩)) ?_
        refine StepsOk.cons (stepOk_pure [(6, 46)] [] rfl rfl (by kernel_rfl) (by kernel_rfl) rfl (fun _ => trivial) (fun σ v w h => by simpa [upd] using h) (fun d E w' hk hda hS hc hf => by rintro _ q6 rfl e46 ; obtain ⟨hB6, hQ6, hF6⟩ := hS; obtain ⟨⟨s0, s1, s2, s3, s4, s5⟩, l9⟩ := bk6 hQ6; have hb6 := hB6.bk; have t1 := (hb6.cell 1).trans (hC1 _ _); exact ⟨_, by go_simp, rfl⟩)) ?_
        refine StepsOk.cons (stepOk_pure [] [(0, .pointer (some ⟨g, 0, none⟩))] rfl rfl (by kernel_rfl) (by kernel_rfl) rfl (fun _ => trivial) (fun σ v w h => by simpa [upd] using h) (fun d E w' hk hda hS hc hf => by rintro  e0; exact ⟨_, by go_simp, rfl⟩)) ?_
        refine StepsOk.cons (stepOk_pure [(8, 48)] [] rfl rfl (by kernel_rfl) (by kernel_rfl) rfl (fun _ => trivial) (fun σ v w h => by simpa [upd] using h) (fun d E w' hk hda hS hc hf => by rintro _ q8 rfl e48 ; exact ⟨_, by go_simp, rfl⟩)) ?_
        refine StepsOk.cons (stepOk_pure [(9, 49)] [] rfl rfl (by kernel_rfl) (by kernel_rfl) rfl (fun _ => trivial) (fun σ v w h => by simpa [upd] using h) (fun d E w' hk hda hS hc hf => by rintro _ q9 rfl e49 ; exact ⟨_, by go_simp, rfl⟩)) ?_
        refine StepsOk.cons (stepOk_pure [(10, 50)] [] rfl rfl (by kernel_rfl) (by kernel_rfl) rfl (fun _ => trivial) (fun σ v w h => by simpa [upd] using h) (fun d E w' hk hda hS hc hf => by rintro _ q10 rfl e50 ; obtain ⟨hB6, hQ6, hF6⟩ := hS; obtain ⟨⟨s0, s1, s2, s3, s4, s5⟩, l9⟩ := bk6 hQ6; have hb6 := hB6.bk; have t1 := (hb6.cell 1).trans (hC1 _ _); exact ⟨_, by go_simp, rfl⟩)) ?_
        refine StepsOk.cons (stepOk_pure [(11, 51)] [] rfl rfl (by kernel_rfl) (by kernel_rfl) rfl (fun _ => trivial) (fun σ v w h => by simpa [upd] using h) (fun d E w' hk hda hS hc hf => by rintro _ q11 rfl e51 ; exact ⟨_, by go_simp, rfl⟩)) ?_
        refine StepsOk.cons (stepOk_pure [(0, 40)] [] rfl rfl (by kernel_rfl) (by kernel_rfl) rfl (fun _ => trivial) (fun σ v w h => by simpa [upd] using h) (fun d E w' hk hda hS hc hf => by rintro _ q0 rfl e40 ; exact ⟨_, by go_simp, rfl⟩)) ?_
        refine StepsOk.cons (stepOk_pure [(13, 53)] [] rfl rfl (by kernel_rfl) (by kernel_rfl) rfl (fun _ => trivial) (fun σ v w h => by simpa [upd] using h) (fun d E w' hk hda hS hc hf => by rintro _ q13 rfl e53 ; exact ⟨_, by go_simp, rfl⟩)) ?_
        refine StepsOk.cons (stepOk_pure [(14, 54), (2, 42)] [] rfl rfl (by kernel_rfl) (by kernel_rfl) rfl (fun _ => trivial) (fun σ v w h => by simpa [upd] using h) (fun d E w' hk hda hS hc hf => by rintro _ q14 rfl e54 _ q2 rfl e42 ; obtain ⟨hB6, hQ6, hF6⟩ := hS; obtain ⟨⟨s0, s1, s2, s3, s4, s5⟩, l9⟩ := bk6 hQ6; have hb6 := hB6.bk; have t1 := (hb6.cell 1).trans (hC1 _ _); exact ⟨_, by go_simp, rfl⟩)) ?_
        refine StepsOk.cons (stepOk_store [(15, 55), (7, 47)] [] rfl rfl (by kernel_rfl) (by kernel_rfl) rfl (fun d E w' hk hda hS hc hf => by rintro _ q15 rfl e55 _ q7 rfl e47 ; obtain ⟨hB6, hQ6, hF6⟩ := hS; obtain ⟨⟨s0, s1, s2, s3, s4, s5⟩, l9⟩ := bk6 hQ6; have hb6 := hB6.bk; have t1 := (hb6.cell 1).trans (hC1 _ _); obtain ⟨v0, hv0⟩ := hC2 (d 16) (d 20); have y0 := (hb6.cell (2 + c)).trans hv0; have y1 := hb6.frozen (2 + c); exact ⟨w'.setCell ⟨g, 2 + c, none⟩ (.int .i64 s), by go_simp, rfl, trivial, ⟨hST1 _ _ (hk 16 (by kernel_rfl)) hB6, hQ6.far (p := ⟨g, 2 + c, none⟩) (Ne.symm hqg) _, hF6.setCell (p := ⟨g, 2 + c, none⟩) (.inr rfl) _⟩⟩)) ?_
        refine StepsOk.cons (stepOk_pure [(3, 43)] [] rfl rfl (by kernel_rfl) (by kernel_rfl) rfl (fun _ => trivial) (fun σ v w h => by simpa [upd] using h) (fun d E w' hk hda hS hc hf => by rintro _ q3 rfl e43 ; exact ⟨_, by go_simp, rfl⟩)) ?_
        refine StepsOk.cons (stepOk_pure [(17, 56)] [] rfl rfl (by kernel_rfl) (by kernel_rfl) rfl (fun _ => trivial) (fun σ v w h => by simpa [upd] using h) (fun d E w' hk hda hS hc hf => by rintro _ q17 rfl e56 ; exact ⟨_, by go_simp, rfl⟩)) ?_
        refine StepsOk.cons (stepOk_pure [(18, 57), (5, 45)] [] rfl rfl (by kernel_rfl) (by kernel_rfl) rfl (fun _ => trivial) (fun σ v w h => by simpa [upd] using h) (fun d E w' hk hda hS hc hf => by rintro _ q18 rfl e57 _ q5 rfl e45 ; obtain ⟨hB6, hQ6, hF6⟩ := hS; obtain ⟨⟨s0, s1, s2, s3, s4, s5⟩, l9⟩ := bk6 hQ6; have hb6 := hB6.bk; have t1 := (hb6.cell 1).trans (hC1 _ _); exact ⟨_, by go_simp, rfl⟩)) ?_
        refine StepsOk.cons (stepOk_store [(19, 58), (12, 52)] [] rfl rfl (by kernel_rfl) (by kernel_rfl) rfl (fun d E w' hk hda hS hc hf => by rintro _ q19 rfl e58 _ q12 rfl e52 ; obtain ⟨hB6, hQ6, hF6⟩ := hS; obtain ⟨⟨s0, s1, s2, s3, s4, s5⟩, l9⟩ := bk6 hQ6; have hb6 := hB6.bk; have t1 := (hb6.cell 1).trans (hC1 _ _); obtain ⟨v0, hv0⟩ := hC3 (d 16) (d 20); have y0 := (hb6.cell (6 + i)).trans hv0; have y1 := hb6.frozen (6 + i); exact ⟨w'.setCell ⟨g, 6 + i, none⟩ (.int .i64 ((n : Int) + 1)), by go_simp, rfl, trivial, ⟨hST2 _ _ (hk 20 (by kernel_rfl)) hB6, hQ6.far (p := ⟨g, 6 + i, none⟩) (Ne.symm hqg) _, hF6.setCell (p := ⟨g, 6 + i, none⟩) (.inr rfl) _⟩⟩)) ?_
        exact StepsOk.nil
      case ends =>
        intro σ9 w9 hS9 hA9
        refine Ends.eqv (some 40) (.pointer (some ⟨g, 0, none⟩)) rfl (fun _ h => h) ?_
        refine Ends.eqv (some 41) (.pointer (some ⟨w.heap.size, 0, none⟩)) rfl (fun _ h => h) ?_
        refine Ends.eqv (some 42) (.int .i64 c) rfl (fun _ h => h) ?_
        refine Ends.eqv (some 43) (.pointer (some ⟨g, 0, none⟩)) rfl (fun _ h => h) ?_
        refine Ends.eqv (some 44) (.pointer (some ⟨w.heap.size, 3, none⟩)) rfl (fun _ h => h) ?_
        refine Ends.eqv (some 45) (.int .i64 i) rfl (fun _ h => h) ?_
        refine Ends.eqv (some 46) (.pointer (some ⟨w.heap.size, 1, none⟩)) rfl (fun _ h => h) ?_
        refine Ends.eqv (some 47) (.int .i64 s) rfl (fun _ h => h) ?_
        refine Ends.eqv (some 48) (.pointer (some ⟨g, 0, none⟩)) rfl (fun _ h => h) ?_
        refine Ends.eqv (some 49) (.pointer (some ⟨g, 0, none⟩)) rfl (fun _ h => h) ?_
        refine Ends.eqv (some 50) (.pointer (some ⟨g, 1, none⟩)) rfl (fun _ h => h) ?_
        refine Ends.eqv (some 51) (.slice A2 (n + 1) c2) rfl (fun _ h => h) ?_
        refine Ends.eqv (some 52) (.int .i64 ((n : Int) + 1)) rfl (fun _ h => h) ?_
        refine Ends.eqv (some 53) (.pointer (some ⟨g, 0, none⟩)) rfl (fun _ h => h) ?_
        refine Ends.eqv (some 54) (.pointer (some ⟨g, 2, none⟩)) rfl (fun _ h => h) ?_
        refine Ends.eqv (some 55) (.pointer (some ⟨g, 2 + c, none⟩)) rfl (fun _ h => h) ?_
        refine Ends.eqv none (undef) rfl (fun _ h => h) ?_
        refine Ends.eqv (some 56) (.pointer (some ⟨g, 0, none⟩)) rfl (fun _ h => h) ?_
        refine Ends.eqv (some 57) (.pointer (some ⟨g, 6, none⟩)) rfl (fun _ h => h) ?_
        refine Ends.eqv (some 58) (.pointer (some ⟨g, 6 + i, none⟩)) rfl (fun _ h => h) ?_
        refine Ends.eqv none (undef) rfl (fun _ h => h) ?_
        refine Ends.nil ?_
        have hA9' := hA9
        clear hA9
        simp only [put_lit, put_none, List.set_cons_zero, List.set_cons_succ]
        obtain ⟨hB9, hQ9, hF9⟩ := hS9
        obtain ⟨u1, hu1⟩ := Option.isSome_iff_exists.1 (hA9' 16 (by simp))
        obtain ⟨u2, hu2⟩ := Option.isSome_iff_exists.1 (hA9' 20 (by simp))
        rw [hu1, hu2] at hB9
        clear hu1 hu2 hA9'
        have hT := hB9.bk
        have hz0 := (hT.cell 1).trans (cs2_ne (a := 2 + c) (b := 6 + i) (u := .int .i64 s) (v := .int .i64 ((n : Int) + 1)) (by omega) (by omega) HL1.out (some u1) (some u2))
        have hgl9 := hT.lt
        have hsz := hF5.size
        have hsz2 := hF9.size
        obtain ⟨F9, hL9, hF9'⟩ := HGR.out w9 A A2 ca c2 gs R rs Fs cs _ (by omega) (by rw [hxs, hst, hk0]; exact HB.out) (by rw [hxs, hst, hk0, show (⟨c, s, k, i, m, dt⟩ : ReqV).cells = [.int .i64 c, .int .i64 s, .int .i64 k, .int .i64 i, .int .i64 m, .string dt] from rfl, hxs2]; exact hB9) (by
          show LnC ((cs1.setIfInBounds (2 + c) (.int .i64 s)).setIfInBounds (6 + i) (.int .i64 ((n : Int) + 1))) _ _ _ _ _
          rw [← hcs1]
          exact HC.out.put (by omega) (by omega) hn) HR.out HFF.out hV5
        rw [hlp] at hL9
        have hfin := hide (⟨F9, hL9, hF9'⟩ : ∃ F', LnAt w9 g F' lp ∧ ∀ b, F' b → F b ∨ w.heap.size ≤ b)
        have hfr := hide (hF5.trans' hF9 (fun b _ hb => .inl hb) |>.mono (T := F) (fun b _ hb => HFF.out b (by
          rcases hb with hb | hb
          · exact .inl hb
          · exact .inr (.inl hb))))
        clear hB9 hQ9 hF9 hT hL9 hF9' hC1 hC2 hC3 hST1 hST2 hB5 hQ5 hF5
        go_wp2_with fail
        refine bodyPost_ret (v := .tuple #[.int .i64 ((n : Int) + 1), .int .i64 0]) (by simp [results, Try.results13, go_sem]) rfl ?_
        exact ⟨rfl, hfin.out, hfr.out⟩
end Go.Proofs.Ytmhnlpilbbfgnaa

/- line.Line: Put in all cases, Take; one reply more. -/
namespace Go.Proofs.Ytmhnlpilbbfgnaa
open Go.RowKit

theorem LPut_at (g : Nat) (F : Nat → Prop) (l : LnV) (n : Nat) (hn : l.qs.length = n) (hn2 : n ≤ 50000) (q : ReqV) (AT E : Int) (l' : LnV) (h1 : (l.at_ q : Int) = AT) (h2 : l.err q = E) (h3 : l.put q = l') (w : World) (h : LnAt w g F l) :
    Calls Try.prog 13 #[.pointer (some ⟨g, 0, none⟩), .agg #[.int .i64 q.client, .int .i64 q.seq, .int .i64 q.kind, .int .i64 q.id, .int .i64 q.mat, .string q.data]] w fun e w' => e = .returned (.tuple #[.int .i64 AT, .int .i64 E]) ∧
      (∃ F', LnAt w' g F' l' ∧ ∀ b, F' b → F b ∨ w.heap.size ≤ b) ∧ Fr F w w' := by
  subst h1 h2 h3
  by_cases hq : (q.q.may && Writes q.kind) = true
  · by_cases hs : lastSeq l.qs q.client < q.seq
    · have hm : l.may q = true := by unfold LnV.may; rw [hq]; simpa using hs
      have e2 : l.at_ q = l.qs.length + 1 := by unfold LnV.at_; rw [hm]; rfl
      have e3 : l.err q = 0 := by unfold LnV.err; rw [hq, if_pos rfl, if_pos hs]
      rw [e2, e3, hn]
      exact LPut_done g F l n hn hn2 q hq hs w h
    · have hm : l.may q = false := by unfold LnV.may; rw [hq]; simpa using hs
      have e1 : l.put q = l := by unfold LnV.put; rw [hm]; rfl
      have e2 : l.at_ q = 0 := by unfold LnV.at_; rw [hm]; rfl
      have e3 : l.err q = 9 := by unfold LnV.err; rw [hq, if_pos rfl, if_neg hs]
      rw [e1, e2, e3]
      exact (LPut_order g F l q hq hs w h).mono fun e w' ⟨he, hb⟩ => ⟨he, ⟨F, h.old hb, fun k hk => .inl hk⟩, Fr.of_old hb⟩
  · have hq' : (q.q.may && Writes q.kind) = false := by simpa using hq
    have hm : l.may q = false := by unfold LnV.may; rw [hq']; rfl
    have e1 : l.put q = l := by unfold LnV.put; rw [hm]; rfl
    have e2 : l.at_ q = 0 := by unfold LnV.at_; rw [hm]; rfl
    have e3 : l.err q = 1 := by unfold LnV.err; rw [hq']; rfl
    rw [e1, e2, e3]
    exact (LPut_arg g q hq' w).mono fun e w' ⟨he, hb⟩ => ⟨he, ⟨F, h.old hb, fun k hk => .inl hk⟩, Fr.of_old hb⟩

def LnV.terr (l : LnV) (a : Int) (q : ReqV) : Int := if a = (l.qs.length : Int) + 1 then l.err q else 9
def LnV.take (l : LnV) (a : Int) (q : ReqV) : LnV := if a = (l.qs.length : Int) + 1 then l.put q else l
set_option maxHeartbeats 400000 in
theorem LTake_nil (a : Int) (q : ReqV) (w : World) :
    Calls Try.prog 16 #[.pointer none, .int .i64 a, q.q.v] w fun e w' => e = .returned (.int .i64 1) ∧ Old w w' := by
  obtain ⟨c, s, k, i, m, dt⟩ := q
  simp only [ReqV.q, Q.v]
  go_enter Try.func16, Try.ntmps16
  go_wp2
  go_ret
  exact ⟨rfl, (Old.refl' w).alloc' _⟩
set_option maxRecDepth 100000 in
set_option maxHeartbeats 1000000 in
theorem LTake_at (g : Nat) (F : Nat → Prop) (l : LnV) (n : Nat) (hn : l.qs.length = n) (hn2 : n ≤ 50000) (a : Int) (q : ReqV) (E : Int) (l' : LnV) (h2 : l.terr a q = E) (h3 : l.take a q = l') (w : World) (h : LnAt w g F l) :
    Calls Try.prog 16 #[.pointer (some ⟨g, 0, none⟩), .int .i64 a, .agg #[.int .i64 q.client, .int .i64 q.seq, .int .i64 q.kind, .int .i64 q.id, .int .i64 q.mat, .string q.data]] w fun e w' => e = .returned (.int .i64 E) ∧
      (∃ F', LnAt w' g F' l' ∧ ∀ b, F' b → F b ∨ w.heap.size ≤ b) ∧ Fr F w w' := by
  subst h2 h3
  obtain ⟨A, ca, gs, Fs, B, cb, rs, hs⟩ := h.see hn
  have l0 := hs.l0
  have hgl := hs.gl
  clear hs
  have hbk := Bk.new w 23 #[.int .i64 q.client, .int .i64 q.seq, .int .i64 q.kind, .int .i64 q.id, .int .i64 q.mat, .string q.data]
  by_cases ha : a = (n : Int) + 1
  · have e1 : l.terr a q = l.err q := by unfold LnV.terr; rw [if_pos (by rw [hn]; exact ha)]
    have e2 : l.take a q = l.put q := by unfold LnV.take; rw [if_pos (by rw [hn]; exact ha)]
    rw [e1, e2]
    subst ha
    obtain ⟨AT, hAT⟩ : ∃ x, (l.at_ q : Int) = x := ⟨_, rfl⟩
    obtain ⟨E, hE⟩ : ∃ x, l.err q = x := ⟨_, rfl⟩
    obtain ⟨l', hl'⟩ : ∃ x, l.put q = x := ⟨_, rfl⟩
    rw [hE, hl']
    have cP := hide (LPut_at g F l n hn hn2 q AT E l' hAT hE hl' _ (h.old ((Old.refl' w).alloc' (.cells #[.int .i64 q.client, .int .i64 q.seq, .int .i64 q.kind, .int .i64 q.id, .int .i64 q.mat, .string q.data] 23))))
    obtain ⟨⟨x0, x1, x2, x3, x4, x5⟩, l1⟩ := bk6 hbk
    have HF := hide (fun (w' : World) (hf : Fr F (w.alloc (.cells #[.int .i64 q.client, .int .i64 q.seq, .int .i64 q.kind, .int .i64 q.id, .int .i64 q.mat, .string q.data] 23)) w') => (Fr.of_old ((Old.refl' w).alloc' _)).trans hf)
    clear hAT hE hl' h hn e1 e2
    go_enter Try.func16, Try.ntmps16
    go_wp2_with fail
    refine cP.out.mono ?_
    rintro e w1 ⟨rfl, ⟨F', hF', hF2⟩, hf⟩
    have hfin := hide (⟨F', hF', fun b hb => (hF2 b hb).imp id (fun h => by simp at h; omega)⟩ : ∃ F', LnAt w1 g F' l' ∧ ∀ b, F' b → F b ∨ w.heap.size ≤ b)
    have hfr := hide (HF.out w1 hf)
    clear x0 x1 x2 x3 x4 x5 l1 hF' hF2 hf l0 hbk
    go_wp2_with fail
    go_ret
    exact ⟨rfl, hfin.out, hfr.out⟩
  · have e1 : l.terr a q = 9 := by unfold LnV.terr; rw [if_neg (by rw [hn]; exact ha)]
    have e2 : l.take a q = l := by unfold LnV.take; rw [if_neg (by rw [hn]; exact ha)]
    rw [e1, e2]
    have HA := hide h
    have ha' : (a != (n : Int) + 1) = true := by simpa using ha
    clear h hn e1 e2
    go_enter Try.func16, Try.ntmps16
    go_wp2
    go_ret
    exact ⟨rfl, ⟨F, HA.out.old ((Old.refl' w).alloc' _), fun b hb => .inl hb⟩, Fr.of_old ((Old.refl' w).alloc' _)⟩

theorem info_Reply : (Try.prog.info? 32).map (fun i => (i.zero, i.size, i.bytes)) = some (some (.agg #[.int .i64 0, .int .i64 0, .string { data := #[] }, .slice none 0 0]), 4, 56) := by kernel_rfl
/-- its store has turned -/
theorem LnB.put {w w' : World} {g n k gs : Nat} {cs : Array Value} {V R : Value} {xs rs : List Value} {Fs Fs' : Nat → Prop} {st st' : StV} (h : LnB w g cs V n xs R k rs gs Fs st) (hf : Fr Fs w w') (h' : StAt w' gs Fs' st') (hn : ∀ b, Fs' b → Fs b ∨ w.heap.size ≤ b) :
    LnB w' g cs V n xs R k rs gs Fs' st' := by
  have off : ∀ b, b < w.heap.size → ¬ Fs b → ¬ Fs' b := fun b hb hF hF' => by
    rcases hn b hF' with h | h
    · exact hF h
    · omega
  exact ⟨h.bk.fr hf h.sg, own_fr h.row hf (fun b hb => h.sv b hb), own_fr h.reps hf (fun b hb => h.sr b hb), h', off g h.bk.lt h.sg, fun b hb => off b (own_block_lt h.row hb) (h.sv b hb), fun b hb => off b (own_block_lt h.reps hb) (h.sr b hb)⟩
/-- its replies have grown -/
theorem LnB.apr {w w1 W2 : World} {g n k gs cb c2 : Nat} {cs : Array Value} {B A2 : Option Addr} {V : Value} {xs ys rs : List Value} {Fs : Nat → Prop} {st : StV} (h : LnB w g cs V n xs (.slice B k cb) k rs gs Fs st) (ho : Old w w1)
    (h2 : Apps w1 0 32 4 (.slice B k cb) (k + 1) ys (.slice A2 (k + 1) c2) W2) :
    LnB (W2.setCell ⟨g, 39, none⟩ (.slice A2 (k + 1) c2)) g (cs.setIfInBounds 39 (.slice A2 (k + 1) c2)) V n xs (.slice A2 (k + 1) c2) (k + 1) ys gs Fs st ∧
    Fr (fun b => b = g ∨ (Value.slice B k cb).ownBlock = some b) w (W2.setCell ⟨g, 39, none⟩ (.slice A2 (k + 1) c2)) ∧
    (∀ b, (Value.slice A2 (k + 1) c2).ownBlock = some b → (Value.slice B k cb).ownBlock = some b ∨ w.heap.size ≤ b) := by
  have hs := ho.size
  have h1 := h.old ho
  have hf : Fr (fun b => (Value.slice B k cb).ownBlock = some b) w1 W2 := h2.fr (fun k _ hk => hk)
  have hv2 : ∀ b, (Value.slice A2 (k + 1) c2).ownBlock = some b → (Value.slice B k cb).ownBlock = some b ∨ w1.heap.size = b := fun b hb => by
    rcases h2.2.2 with e | e
    · exact .inl (e ▸ hb)
    · rw [hb] at e; injection e with e; exact .inr e.symm
  have hB : LnB W2 g cs V n xs (.slice A2 (k + 1) c2) (k + 1) ys gs Fs st :=
    ⟨h1.bk.fr hf h1.ne_gr, own_fr h1.row hf (fun b hb hb' => h1.ne_vr hb hb'), h2.own, h1.sto.fr hf (fun b hb hb' => h1.sr b hb' hb), h1.sg, h1.sv, fun b hb hF => by
      rcases hv2 b hb with e | e
      · exact h1.sr b e hF
      · have := h1.sto.lt b hF; omega⟩
  refine ⟨hB.set_ 39 _, ?_, fun b hb => ?_⟩
  · exact Fr.setCell (p := ⟨g, 39, none⟩) ((Fr.of_old ho).trans (hf.mono fun k _ hk => .inr hk)) (.inr (.inl rfl)) _
  · rcases hv2 b hb with e | e
    · exact .inl e
    · right; omega
theorem LnC.rep {cs : Array Value} {V R R2 : Value} {gs : Nat} {quota : Int} {qs : List ReqV} (h : LnC cs V R gs quota qs) : LnC (cs.setIfInBounds 39 R2) V R2 gs quota qs :=
  ⟨(get_ne (by omega) _).trans h.q0, (get_ne (by omega) _).trans h.l0, fun c hc => (get_ne (by omega) _).trans (h.sq c hc), fun i hi => (get_ne (by omega) _).trans (h.tc i hi), (get_ne (by omega) _).trans h.s0, get_eq h.r0 _⟩
theorem RepsOk.snoc {l : LnV} {rs : List Value} (h : RepsOk l rs) (hl : rs.length = l.k * 4) {r : Rep} (hr : l.rep l.k = r) {A : Option Addr} {c : Nat} : RepsOk (l.commit (l.k + 1)) (rs ++ [.int .i64 r.code, .int .i64 r.ver, .string r.data, .slice A 0 c]) := by
  intro j hj
  have hj' : j < l.k + 1 := hj
  have er : (l.commit (l.k + 1)).rep j = l.rep j := rfl
  rw [er]
  by_cases hlt : j < l.k
  · obtain ⟨h1, h2, h3, A', c', h4⟩ := h j hlt
    exact ⟨by rw [List.getElem?_append_left (by omega)]; exact h1, by rw [List.getElem?_append_left (by omega)]; exact h2, by rw [List.getElem?_append_left (by omega)]; exact h3, A', c', by rw [List.getElem?_append_left (by omega)]; exact h4⟩
  · obtain rfl : j = l.k := by omega
    rw [hr]
    have e0 : l.k * 4 - rs.length = 0 := by omega
    have e1 : l.k * 4 + 1 - rs.length = 1 := by omega
    have e2 : l.k * 4 + 2 - rs.length = 2 := by omega
    have e3 : l.k * 4 + 3 - rs.length = 3 := by omega
    exact ⟨by rw [List.getElem?_append_right (by omega), e0]; rfl, by rw [List.getElem?_append_right (by omega), e1]; rfl, by rw [List.getElem?_append_right (by omega), e2]; rfl, A, c, by rw [List.getElem?_append_right (by omega), e3]; rfl⟩
end Go.Proofs.Ytmhnlpilbbfgnaa

/- line.Line.Commit. -/
namespace Go.Proofs.Ytmhnlpilbbfgnaa
open Go.RowKit

theorem fr4' {w W : World} {b : Nat} {u0 u1 u2 u3 : Value} (h : Fr (fun k => k = b) w W) :
    Fr (fun k => k = b) w ((((W.setCell ⟨b, 0, none⟩ u0).setCell ⟨b, 1, none⟩ u1).setCell ⟨b, 2, none⟩ u2).setCell ⟨b, 3, none⟩ u3) := by
  have stp : ∀ {W : World} (j : Nat) (u : Value), Fr (fun k => k = b) w W → Fr (fun k => k = b) w (W.setCell ⟨b, j, none⟩ u) := fun j u h => Fr.setCell (p := ⟨b, j, none⟩) h (.inr rfl) u
  exact stp _ _ (stp _ _ (stp _ _ (stp _ _ h)))

set_option maxHeartbeats 400000 in
theorem LCom_nil (n : Int) (w : World) :
    Calls Try.prog 17 #[.pointer none, .int .i64 n] w fun e w' => e = .returned (.int .i64 1) ∧ w = w' := by
  go_enter Try.func17, Try.ntmps17
  go_wp2
  go_ret
  exact ⟨rfl, rfl⟩
set_option maxHeartbeats 1000000 in
theorem LCom_no (g : Nat) (F : Nat → Prop) (l : LnV) (n : Int) (hn : ¬ ((l.k : Int) ≤ n ∧ n ≤ l.qs.length)) (w : World) (h : LnAt w g F l) :
    Calls Try.prog 17 #[.pointer (some ⟨g, 0, none⟩), .int .i64 n] w fun e w' => e = .returned (.int .i64 6) ∧ w = w' := by
  obtain ⟨N, hN⟩ : ∃ N, l.qs.length = N := ⟨_, rfl⟩
  obtain ⟨k, hk⟩ : ∃ k, l.k = k := ⟨_, rfl⟩
  obtain ⟨A, ca, gs, Fs, B, cb, rs, hs⟩ := h.see hN
  have l0 := hs.l0
  have cK := hide (Com_ln g F l k hk w h)
  rw [hN, hk] at hn
  clear hs h hk hN
  by_cases h1 : n < k
  · go_enter Try.func17, Try.ntmps17
    go_wp2_with (go_at_call 19; refine cK.out.mono ?_; rintro e w1 ⟨rfl, rfl⟩)
    go_ret
    exact ⟨rfl, rfl⟩
  · have h2 : (N : Int) < n := by omega
    go_enter Try.func17, Try.ntmps17
    go_wp2_with (go_at_call 19; refine cK.out.mono ?_; rintro e w1 ⟨rfl, rfl⟩)
    go_ret
    exact ⟨rfl, rfl⟩

set_option maxRecDepth 100000 in
set_option maxHeartbeats 2000000 in
theorem LCom_none (g : Nat) (F : Nat → Prop) (l : LnV) (k : Nat) (hk : l.k = k) (w : World) (h : LnAt w g F l) :
    Calls Try.prog 17 #[.pointer (some ⟨g, 0, none⟩), .int .i64 k] w fun e w' => e = .returned (.int .i64 0) ∧ Old w w' := by
  obtain ⟨N, hN⟩ : ∃ N, l.qs.length = N := ⟨_, rfl⟩
  have hkN : k ≤ N := by have := h.kl; omega
  have cK := hide (fun (W : World) (hW : Old w W) => Com_ln g F l k hk W (h.old hW))
  have hh := h
  obtain ⟨⟨cs, V, R, rs, gs, Fs, hB, hC, hR, hFF⟩, hok, hkl, hFl⟩ := hh
  rw [hN] at hB
  have hgl := hB.bk.lt
  have l0' := hC.l0
  have hi0 : (0 : Int) ≤ k := by omega
  have hi1 : (k : Int) ≤ N := by omega
  have hi2 : ¬ ((k : Int) < k) := by omega
  have hi3 : ¬ ((N : Int) < k) := by omega
  rcases hB.row.2 with ⟨rfl, h0⟩ | ⟨b, ca, cur, rfl, -, -, hnc, hcm, -, -⟩
  · obtain rfl : k = 0 := by omega
    have hL := hide (fun (W : World) (hW : Old w W) => (((hW.cell (p := ⟨g, 1, none⟩) hgl).trans (hB.bk.cell 1)).trans l0' : W.cell? ⟨g, 1, none⟩ = some (.slice none 0 0)))
    have l0 := hL.out _ (Old.refl' w)
    subst h0
    clear hB hC hR hFF h hok hkl hFl hk hN l0'
    go_enter Try.func17, Try.ntmps17
    go_wp2_with (go_at_call 19; refine (cK.out _ (Old.refl' w)).mono ?_; rintro e w1 ⟨rfl, rfl⟩)
    refine region_steps (R := pick [eqv (.pointer (some ⟨g, 0, none⟩)), eqv (.pointer (some ⟨g, 0, none⟩)), eqv (.pointer (some ⟨g, 1, none⟩)), eqv (.slice none 0 0), eqv (.pointer (some ⟨g, 0, none⟩)), eqv (.int .i64 0), eqv (.int .i64 0), eqv (.slice none 0 0), eqv (.int .i64 0), eqv (.int .i64 0)]) (S := fun _ w' => Old w w') (T := Old) (by kernel_rfl) (by kernel_rfl) (by kernel_rfl) (Stab.pick (Stab.eqv (Stab.eqv (Stab.eqv (Stab.eqv (Stab.eqv (Stab.eqv (Stab.eqv (Stab.eqv (Stab.eqv (Stab.eqv (Stab.nil)))))))))))) ((Old.refl' w).drew') ?steps ?ends
    case steps =>
      refine StepsOk.cons (stepOk_pure [] [(0, .pointer (some ⟨g, 0, none⟩))] rfl rfl (by kernel_rfl) (by kernel_rfl) rfl Old.refl' (fun _ _ _ h => h) (fun d E w' hk hda hS hc hf => by rintro  e0; exact ⟨_, by go_simp, rfl⟩)) ?_
      refine StepsOk.cons (stepOk_pure [(0, 24)] [] rfl rfl (by kernel_rfl) (by kernel_rfl) rfl Old.refl' (fun _ _ _ h => h) (fun d E w' hk hda hS hc hf => by rintro _ q0 rfl e24 ; exact ⟨_, by go_simp, rfl⟩)) ?_
      refine StepsOk.cons (stepOk_pure [(1, 25)] [] rfl rfl (by kernel_rfl) (by kernel_rfl) rfl Old.refl' (fun _ _ _ h => h) (fun d E w' hk hda hS hc hf => by rintro _ q1 rfl e25 ; exact ⟨_, by go_simp, rfl⟩)) ?_
      refine StepsOk.cons (stepOk_pure [(2, 26)] [] rfl rfl (by kernel_rfl) (by kernel_rfl) rfl Old.refl' (fun _ _ _ h => h) (fun d E w' hk hda hS hc hf => by rintro _ q2 rfl e26 ; obtain t1 := hL.out _ hS; exact ⟨_, by go_simp, rfl⟩)) ?_
      refine StepsOk.cons (stepOk_pure [] [(0, .pointer (some ⟨g, 0, none⟩))] rfl rfl (by kernel_rfl) (by kernel_rfl) rfl Old.refl' (fun _ _ _ h => h) (fun d E w' hk hda hS hc hf => by rintro  e0; exact ⟨_, by go_simp, rfl⟩)) ?_
      refine StepsOk.cons (stepOk_mk [(4, 28)] [] rfl rfl (by kernel_rfl) (by kernel_rfl) rfl ?_) ?_
      · rintro d a w' hk hda hS _ q4 rfl e28 
        first | refine Given.nil (Known.nil ?_) | refine Known.nil ?_
        refine wp_call 19 _ Try.func19 (by kernel_rfl) (by kernel_rfl) _ _ (by rfl) [.pointer (some ⟨g, 0, none⟩)] (by simp only [List.map_cons, List.map_nil, *]; try rfl) (cK.out _ hS) ?_
        rintro e w1 ⟨rfl, rfl⟩
        exact ⟨_, rfl, _, rfl, rfl, Old.refl' _, hS⟩
      refine StepsOk.cons (stepOk_pure [] [(1, .int .i64 0)] rfl rfl (by kernel_rfl) (by kernel_rfl) rfl Old.refl' (fun _ _ _ h => h) (fun d E w' hk hda hS hc hf => by rintro  e1; exact ⟨_, by go_simp, rfl⟩)) ?_
      refine StepsOk.cons (stepOk_pure [(3, 27), (5, 29), (6, 30)] [] rfl rfl (by kernel_rfl) (by kernel_rfl) rfl Old.refl' (fun _ _ _ h => h) (fun d E w' hk hda hS hc hf => by rintro _ q3 rfl e27 _ q5 rfl e29 _ q6 rfl e30 ; obtain t1 := hL.out _ hS; exact ⟨_, by go_simp, rfl⟩)) ?_
      refine StepsOk.cons (stepOk_pure [(7, 31)] [] rfl rfl (by kernel_rfl) (by kernel_rfl) rfl Old.refl' (fun _ _ _ h => h) (fun d E w' hk hda hS hc hf => by rintro _ q7 rfl e31 ; exact ⟨_, by go_simp, rfl⟩)) ?_
      refine StepsOk.cons (stepOk_pure [] [] rfl rfl (by kernel_rfl) (by kernel_rfl) rfl Old.refl' (fun _ _ _ h => h) (fun d E w' hk hda hS hc hf => by exact ⟨_, by go_simp, rfl⟩)) ?_
      exact StepsOk.nil
    case ends =>
      intro σ9 w9 hS9 hA9
      refine Ends.eqv (some 24) (.pointer (some ⟨g, 0, none⟩)) rfl (fun _ h => h) ?_
      refine Ends.eqv (some 25) (.pointer (some ⟨g, 0, none⟩)) rfl (fun _ h => h) ?_
      refine Ends.eqv (some 26) (.pointer (some ⟨g, 1, none⟩)) rfl (fun _ h => h) ?_
      refine Ends.eqv (some 27) (.slice none 0 0) rfl (fun _ h => h) ?_
      refine Ends.eqv (some 28) (.pointer (some ⟨g, 0, none⟩)) rfl (fun _ h => h) ?_
      refine Ends.eqv (some 29) (.int .i64 0) rfl (fun _ h => h) ?_
      refine Ends.eqv (some 30) (.int .i64 0) rfl (fun _ h => h) ?_
      refine Ends.eqv (some 31) (.slice none 0 0) rfl (fun _ h => h) ?_
      refine Ends.eqv (some 32) (.int .i64 0) rfl (fun _ h => h) ?_
      refine Ends.eqv (some 33) (.int .i64 0) rfl (fun _ h => h) ?_
      refine Ends.nil ?_
      clear hA9
      simp only [put_lit, put_none, List.set_cons_zero, List.set_cons_succ]
      have o9 := hS9
      clear hS9
      have HO := hide o9
      clear o9 l0
      go_wp2_with fail
      refine wp_loop_rounds 1 ?_
      rw [rounds_succ]
      go_wp2
      go_ret
      exact ⟨rfl, HO.out⟩
  · have hL := hide (fun (W : World) (hW : Old w W) => (((hW.cell (p := ⟨g, 1, none⟩) hgl).trans (hB.bk.cell 1)).trans l0' : W.cell? ⟨g, 1, none⟩ = some (.slice (some ⟨b, 0, none⟩) N ca)))
    have l0 := hL.out _ (Old.refl' w)
    have hnc' : (N : Int) ≤ ca := by omega
    have hkc : (k : Int) ≤ ca := by omega
    clear hB hC hR hFF h hok hkl hFl hk hN l0'
    by_cases hck : ca = k
    · subst hck
      go_enter Try.func17, Try.ntmps17
      go_wp2_with (go_at_call 19; refine (cK.out _ (Old.refl' w)).mono ?_; rintro e w1 ⟨rfl, rfl⟩)
      refine region_steps (R := pick [eqv (.pointer (some ⟨g, 0, none⟩)), eqv (.pointer (some ⟨g, 0, none⟩)), eqv (.pointer (some ⟨g, 1, none⟩)), eqv (.slice (some ⟨b, 0, none⟩) N ca), eqv (.pointer (some ⟨g, 0, none⟩)), eqv (.int .i64 ca), eqv (.int .i64 ca), eqv (.slice (some ⟨b, 0, none⟩) 0 0), eqv (.int .i64 0), eqv (.int .i64 0)]) (S := fun _ w' => Old w w') (T := Old) (by kernel_rfl) (by kernel_rfl) (by kernel_rfl) (Stab.pick (Stab.eqv (Stab.eqv (Stab.eqv (Stab.eqv (Stab.eqv (Stab.eqv (Stab.eqv (Stab.eqv (Stab.eqv (Stab.eqv (Stab.nil)))))))))))) ((Old.refl' w).drew') ?steps ?ends
      case steps =>
        refine StepsOk.cons (stepOk_pure [] [(0, .pointer (some ⟨g, 0, none⟩))] rfl rfl (by kernel_rfl) (by kernel_rfl) rfl Old.refl' (fun _ _ _ h => h) (fun d E w' hk hda hS hc hf => by rintro  e0; exact ⟨_, by go_simp, rfl⟩)) ?_
        refine StepsOk.cons (stepOk_pure [(0, 24)] [] rfl rfl (by kernel_rfl) (by kernel_rfl) rfl Old.refl' (fun _ _ _ h => h) (fun d E w' hk hda hS hc hf => by rintro _ q0 rfl e24 ; exact ⟨_, by go_simp, rfl⟩)) ?_
        refine StepsOk.cons (stepOk_pure [(1, 25)] [] rfl rfl (by kernel_rfl) (by kernel_rfl) rfl Old.refl' (fun _ _ _ h => h) (fun d E w' hk hda hS hc hf => by rintro _ q1 rfl e25 ; exact ⟨_, by go_simp, rfl⟩)) ?_
        refine StepsOk.cons (stepOk_pure [(2, 26)] [] rfl rfl (by kernel_rfl) (by kernel_rfl) rfl Old.refl' (fun _ _ _ h => h) (fun d E w' hk hda hS hc hf => by rintro _ q2 rfl e26 ; obtain t1 := hL.out _ hS; exact ⟨_, by go_simp, rfl⟩)) ?_
        refine StepsOk.cons (stepOk_pure [] [(0, .pointer (some ⟨g, 0, none⟩))] rfl rfl (by kernel_rfl) (by kernel_rfl) rfl Old.refl' (fun _ _ _ h => h) (fun d E w' hk hda hS hc hf => by rintro  e0; exact ⟨_, by go_simp, rfl⟩)) ?_
        refine StepsOk.cons (stepOk_mk [(4, 28)] [] rfl rfl (by kernel_rfl) (by kernel_rfl) rfl ?_) ?_
        · rintro d a w' hk hda hS _ q4 rfl e28 
          first | refine Given.nil (Known.nil ?_) | refine Known.nil ?_
          refine wp_call 19 _ Try.func19 (by kernel_rfl) (by kernel_rfl) _ _ (by rfl) [.pointer (some ⟨g, 0, none⟩)] (by simp only [List.map_cons, List.map_nil, *]; try rfl) (cK.out _ hS) ?_
          rintro e w1 ⟨rfl, rfl⟩
          exact ⟨_, rfl, _, rfl, rfl, Old.refl' _, hS⟩
        refine StepsOk.cons (stepOk_pure [] [(1, .int .i64 ca)] rfl rfl (by kernel_rfl) (by kernel_rfl) rfl Old.refl' (fun _ _ _ h => h) (fun d E w' hk hda hS hc hf => by rintro  e1; exact ⟨_, by go_simp, rfl⟩)) ?_
        refine StepsOk.cons (stepOk_pure [(3, 27), (5, 29), (6, 30)] [] rfl rfl (by kernel_rfl) (by kernel_rfl) rfl Old.refl' (fun _ _ _ h => h) (fun d E w' hk hda hS hc hf => by rintro _ q3 rfl e27 _ q5 rfl e29 _ q6 rfl e30 ; obtain t1 := hL.out _ hS; exact ⟨_, by go_simp, rfl⟩)) ?_
        refine StepsOk.cons (stepOk_pure [(7, 31)] [] rfl rfl (by kernel_rfl) (by kernel_rfl) rfl Old.refl' (fun _ _ _ h => h) (fun d E w' hk hda hS hc hf => by rintro _ q7 rfl e31 ; exact ⟨_, by go_simp, rfl⟩)) ?_
        refine StepsOk.cons (stepOk_pure [] [] rfl rfl (by kernel_rfl) (by kernel_rfl) rfl Old.refl' (fun _ _ _ h => h) (fun d E w' hk hda hS hc hf => by exact ⟨_, by go_simp, rfl⟩)) ?_
        exact StepsOk.nil
      case ends =>
        intro σ9 w9 hS9 hA9
        refine Ends.eqv (some 24) (.pointer (some ⟨g, 0, none⟩)) rfl (fun _ h => h) ?_
        refine Ends.eqv (some 25) (.pointer (some ⟨g, 0, none⟩)) rfl (fun _ h => h) ?_
        refine Ends.eqv (some 26) (.pointer (some ⟨g, 1, none⟩)) rfl (fun _ h => h) ?_
        refine Ends.eqv (some 27) (.slice (some ⟨b, 0, none⟩) N ca) rfl (fun _ h => h) ?_
        refine Ends.eqv (some 28) (.pointer (some ⟨g, 0, none⟩)) rfl (fun _ h => h) ?_
        refine Ends.eqv (some 29) (.int .i64 ca) rfl (fun _ h => h) ?_
        refine Ends.eqv (some 30) (.int .i64 ca) rfl (fun _ h => h) ?_
        refine Ends.eqv (some 31) (.slice (some ⟨b, 0, none⟩) 0 0) rfl (fun _ h => h) ?_
        refine Ends.eqv (some 32) (.int .i64 0) rfl (fun _ h => h) ?_
        refine Ends.eqv (some 33) (.int .i64 0) rfl (fun _ h => h) ?_
        refine Ends.nil ?_
        clear hA9
        simp only [put_lit, put_none, List.set_cons_zero, List.set_cons_succ]
        have o9 := hS9
        clear hS9
        have HO := hide o9
        clear o9 l0
        go_wp2_with fail
        refine wp_loop_rounds 1 ?_
        rw [rounds_succ]
        go_wp2
        go_ret
        exact ⟨rfl, HO.out⟩
    · have hck2 : ¬ ca ≤ k := by omega
      have hck3 : ¬ (ca - k = 0) := by omega
      go_enter Try.func17, Try.ntmps17
      go_wp2_with (go_at_call 19; refine (cK.out _ (Old.refl' w)).mono ?_; rintro e w1 ⟨rfl, rfl⟩)
      refine region_steps (R := pick [eqv (.pointer (some ⟨g, 0, none⟩)), eqv (.pointer (some ⟨g, 0, none⟩)), eqv (.pointer (some ⟨g, 1, none⟩)), eqv (.slice (some ⟨b, 0, none⟩) N ca), eqv (.pointer (some ⟨g, 0, none⟩)), eqv (.int .i64 k), eqv (.int .i64 k), eqv (.slice (some ⟨b, k * 6, none⟩) 0 (ca - k)), eqv (.int .i64 0), eqv (.int .i64 0)]) (S := fun _ w' => Old w w') (T := Old) (by kernel_rfl) (by kernel_rfl) (by kernel_rfl) (Stab.pick (Stab.eqv (Stab.eqv (Stab.eqv (Stab.eqv (Stab.eqv (Stab.eqv (Stab.eqv (Stab.eqv (Stab.eqv (Stab.eqv (Stab.nil)))))))))))) ((Old.refl' w).drew') ?steps ?ends
      case steps =>
        refine StepsOk.cons (stepOk_pure [] [(0, .pointer (some ⟨g, 0, none⟩))] rfl rfl (by kernel_rfl) (by kernel_rfl) rfl Old.refl' (fun _ _ _ h => h) (fun d E w' hk hda hS hc hf => by rintro  e0; exact ⟨_, by go_simp, rfl⟩)) ?_
        refine StepsOk.cons (stepOk_pure [(0, 24)] [] rfl rfl (by kernel_rfl) (by kernel_rfl) rfl Old.refl' (fun _ _ _ h => h) (fun d E w' hk hda hS hc hf => by rintro _ q0 rfl e24 ; exact ⟨_, by go_simp, rfl⟩)) ?_
        refine StepsOk.cons (stepOk_pure [(1, 25)] [] rfl rfl (by kernel_rfl) (by kernel_rfl) rfl Old.refl' (fun _ _ _ h => h) (fun d E w' hk hda hS hc hf => by rintro _ q1 rfl e25 ; exact ⟨_, by go_simp, rfl⟩)) ?_
        refine StepsOk.cons (stepOk_pure [(2, 26)] [] rfl rfl (by kernel_rfl) (by kernel_rfl) rfl Old.refl' (fun _ _ _ h => h) (fun d E w' hk hda hS hc hf => by rintro _ q2 rfl e26 ; obtain t1 := hL.out _ hS; exact ⟨_, by go_simp, rfl⟩)) ?_
        refine StepsOk.cons (stepOk_pure [] [(0, .pointer (some ⟨g, 0, none⟩))] rfl rfl (by kernel_rfl) (by kernel_rfl) rfl Old.refl' (fun _ _ _ h => h) (fun d E w' hk hda hS hc hf => by rintro  e0; exact ⟨_, by go_simp, rfl⟩)) ?_
        refine StepsOk.cons (stepOk_mk [(4, 28)] [] rfl rfl (by kernel_rfl) (by kernel_rfl) rfl ?_) ?_
        · rintro d a w' hk hda hS _ q4 rfl e28 
          first | refine Given.nil (Known.nil ?_) | refine Known.nil ?_
          refine wp_call 19 _ Try.func19 (by kernel_rfl) (by kernel_rfl) _ _ (by rfl) [.pointer (some ⟨g, 0, none⟩)] (by simp only [List.map_cons, List.map_nil, *]; try rfl) (cK.out _ hS) ?_
          rintro e w1 ⟨rfl, rfl⟩
          exact ⟨_, rfl, _, rfl, rfl, Old.refl' _, hS⟩
        refine StepsOk.cons (stepOk_pure [] [(1, .int .i64 k)] rfl rfl (by kernel_rfl) (by kernel_rfl) rfl Old.refl' (fun _ _ _ h => h) (fun d E w' hk hda hS hc hf => by rintro  e1; exact ⟨_, by go_simp, rfl⟩)) ?_
        refine StepsOk.cons (stepOk_pure [(3, 27), (5, 29), (6, 30)] [] rfl rfl (by kernel_rfl) (by kernel_rfl) rfl Old.refl' (fun _ _ _ h => h) (fun d E w' hk hda hS hc hf => by rintro _ q3 rfl e27 _ q5 rfl e29 _ q6 rfl e30 ; obtain t1 := hL.out _ hS; exact ⟨_, by go_simp, rfl⟩)) ?_
        refine StepsOk.cons (stepOk_pure [(7, 31)] [] rfl rfl (by kernel_rfl) (by kernel_rfl) rfl Old.refl' (fun _ _ _ h => h) (fun d E w' hk hda hS hc hf => by rintro _ q7 rfl e31 ; exact ⟨_, by go_simp, rfl⟩)) ?_
        refine StepsOk.cons (stepOk_pure [] [] rfl rfl (by kernel_rfl) (by kernel_rfl) rfl Old.refl' (fun _ _ _ h => h) (fun d E w' hk hda hS hc hf => by exact ⟨_, by go_simp, rfl⟩)) ?_
        exact StepsOk.nil
      case ends =>
        intro σ9 w9 hS9 hA9
        refine Ends.eqv (some 24) (.pointer (some ⟨g, 0, none⟩)) rfl (fun _ h => h) ?_
        refine Ends.eqv (some 25) (.pointer (some ⟨g, 0, none⟩)) rfl (fun _ h => h) ?_
        refine Ends.eqv (some 26) (.pointer (some ⟨g, 1, none⟩)) rfl (fun _ h => h) ?_
        refine Ends.eqv (some 27) (.slice (some ⟨b, 0, none⟩) N ca) rfl (fun _ h => h) ?_
        refine Ends.eqv (some 28) (.pointer (some ⟨g, 0, none⟩)) rfl (fun _ h => h) ?_
        refine Ends.eqv (some 29) (.int .i64 k) rfl (fun _ h => h) ?_
        refine Ends.eqv (some 30) (.int .i64 k) rfl (fun _ h => h) ?_
        refine Ends.eqv (some 31) (.slice (some ⟨b, k * 6, none⟩) 0 (ca - k)) rfl (fun _ h => h) ?_
        refine Ends.eqv (some 32) (.int .i64 0) rfl (fun _ h => h) ?_
        refine Ends.eqv (some 33) (.int .i64 0) rfl (fun _ h => h) ?_
        refine Ends.nil ?_
        clear hA9
        simp only [put_lit, put_none, List.set_cons_zero, List.set_cons_succ]
        have o9 := hS9
        clear hS9
        have HO := hide o9
        clear o9 l0
        go_wp2_with fail
        refine wp_loop_rounds 1 ?_
        rw [rounds_succ]
        go_wp2
        go_ret
        exact ⟨rfl, HO.out⟩

def stp (o : Option Value) (a b : StV) : StV := match o with
  | none => a
  | some _ => b
/-- a log while it commits -/
def LnMid (w wr : World) (g : Nat) (F : Nat → Prop) (quota : Int) (qs : List ReqV) (V : Value) (N gs k : Nat) : Prop :=
  ∃ cs B cb rs Fs, LnB wr g cs V N (qs.flatMap ReqV.cells) (.slice B k cb) k rs gs Fs (runS quota (qs.take k)) ∧ LnC cs V (.slice B k cb) gs quota qs ∧ RepsOk ⟨quota, qs, k⟩ rs ∧ (∀ c, LnF g V (.slice B k cb) Fs c → F c ∨ w.heap.size ≤ c) ∧ Fr F w wr

set_option maxRecDepth 100000 in
set_option maxHeartbeats 4000000 in
theorem LCom_more (g : Nat) (F : Nat → Prop) (l : LnV) (k m M : Nat) (hk : l.k = k) (hm0 : 0 < m) (hM : M = k + m) (hm : k + m ≤ l.qs.length) (hfew : l.qs.length ≤ 50000) (w : World) (h : LnAt w g F l) :
    Calls Try.prog 17 #[.pointer (some ⟨g, 0, none⟩), .int .i64 M] w fun e w' => e = .returned (.int .i64 0) ∧ (∃ F', LnAt w' g F' (l.commit M) ∧ ∀ b, F' b → F b ∨ w.heap.size ≤ b) ∧ Fr F w w' := by
  obtain ⟨j0, hj0, hj00, hj01, hj02⟩ := info_parts info_Reply
  obtain ⟨N, hN⟩ : ∃ N, l.qs.length = N := ⟨_, rfl⟩
  have cK := hide (fun (W : World) (hW : Old w W) => Com_ln g F l k hk W (h.old hW))
  have hh := h
  obtain ⟨⟨cs, V, R, rs, gs, Fs, hB, hC, hR, hFF⟩, hok, hkl, hFl⟩ := hh
  obtain ⟨B, cb, rfl, -, -⟩ := own_form hB.reps
  rw [hN] at hB hm hfew
  rw [hk] at hB hC hFF
  have hgl := hB.bk.lt
  have l0' := hC.l0
  have est : l.st = runS l.quota (l.qs.take k) := by unfold LnV.st; rw [hk]
  rcases hB.row.2 with ⟨-, h0⟩ | ⟨b, ca, cur, rfl, -, -, hnc, hcm, -, -⟩
  · omega
  have hmid : LnMid w w g F l.quota l.qs (.slice (some ⟨b, 0, none⟩) N ca) N gs (k + 0) := ⟨cs, B, cb, rs, Fs, by have q := hB; rw [est] at q; exact q, hC, fun j hj => hR j (by rw [hk]; exact hj), fun c hc => .inl (hFF c hc), Fr.refl _ _⟩
  have hL := hide (fun (W : World) (hW : Old w W) => (((hW.cell (p := ⟨g, 1, none⟩) hgl).trans (hB.bk.cell 1)).trans l0' : W.cell? ⟨g, 1, none⟩ = some (.slice (some ⟨b, 0, none⟩) N ca)))
  have l0 := hL.out _ (Old.refl' w)
  have HFL := hide hFl
  have HOK := hide hok
  have HN := hide hN
  have hi0 : (0 : Int) ≤ k := by omega
  have hi1 : (M : Int) ≤ N := by omega
  have hi2 : ¬ ((M : Int) < k) := by omega
  have hi3 : ¬ ((N : Int) < M) := by omega
  have hi4 : (k : Int) ≤ M := by omega
  have hi5 : (M : Int) ≤ ca := by omega
  have hck2 : ¬ ca ≤ k := by omega
  have hck3 : ¬ (ca - k = 0) := by omega
  have hck4 : ¬ (ca = k) := by omega
  have hmm : M - k = m := by omega
  have hmm2 : ((M : Int) - (k : Int)).toNat = m := by omega
  have HMM := hide hM
  clear hM
  clear hB hC hR hFF h hok hkl hFl hN l0' est
  go_enter Try.func17, Try.ntmps17
  go_wp2_with (go_at_call 19; refine (cK.out _ (Old.refl' w)).mono ?_; rintro e w1 ⟨rfl, rfl⟩)
  refine region_steps (R := pick [eqv (.pointer (some ⟨g, 0, none⟩)), eqv (.pointer (some ⟨g, 0, none⟩)), eqv (.pointer (some ⟨g, 1, none⟩)), eqv (.slice (some ⟨b, 0, none⟩) N ca), eqv (.pointer (some ⟨g, 0, none⟩)), eqv (.int .i64 k), eqv (.int .i64 M), eqv (.slice (some ⟨b, k * 6, none⟩) m (ca - k)), eqv (.int .i64 m), eqv (.int .i64 0)]) (S := fun _ w' => Old w w') (T := Old) (by kernel_rfl) (by kernel_rfl) (by kernel_rfl) (Stab.pick (Stab.eqv (Stab.eqv (Stab.eqv (Stab.eqv (Stab.eqv (Stab.eqv (Stab.eqv (Stab.eqv (Stab.eqv (Stab.eqv (Stab.nil)))))))))))) ((Old.refl' w).drew') ?steps ?ends
  case steps =>
    refine StepsOk.cons (stepOk_pure [] [(0, .pointer (some ⟨g, 0, none⟩))] rfl rfl (by kernel_rfl) (by kernel_rfl) rfl Old.refl' (fun _ _ _ h => h) (fun d E w' hk hda hS hc hf => by rintro  e0; exact ⟨_, by go_simp, rfl⟩)) ?_
    refine StepsOk.cons (stepOk_pure [(0, 24)] [] rfl rfl (by kernel_rfl) (by kernel_rfl) rfl Old.refl' (fun _ _ _ h => h) (fun d E w' hk hda hS hc hf => by rintro _ q0 rfl e24 ; exact ⟨_, by go_simp, rfl⟩)) ?_
    refine StepsOk.cons (stepOk_pure [(1, 25)] [] rfl rfl (by kernel_rfl) (by kernel_rfl) rfl Old.refl' (fun _ _ _ h => h) (fun d E w' hk hda hS hc hf => by rintro _ q1 rfl e25 ; exact ⟨_, by go_simp, rfl⟩)) ?_
    refine StepsOk.cons (stepOk_pure [(2, 26)] [] rfl rfl (by kernel_rfl) (by kernel_rfl) rfl Old.refl' (fun _ _ _ h => h) (fun d E w' hk hda hS hc hf => by rintro _ q2 rfl e26 ; obtain t1 := hL.out _ hS; exact ⟨_, by go_simp, rfl⟩)) ?_
    refine StepsOk.cons (stepOk_pure [] [(0, .pointer (some ⟨g, 0, none⟩))] rfl rfl (by kernel_rfl) (by kernel_rfl) rfl Old.refl' (fun _ _ _ h => h) (fun d E w' hk hda hS hc hf => by rintro  e0; exact ⟨_, by go_simp, rfl⟩)) ?_
    refine StepsOk.cons (stepOk_mk [(4, 28)] [] rfl rfl (by kernel_rfl) (by kernel_rfl) rfl ?_) ?_
    · rintro d a w' hk hda hS _ q4 rfl e28 
      first | refine Given.nil (Known.nil ?_) | refine Known.nil ?_
      refine wp_call 19 _ Try.func19 (by kernel_rfl) (by kernel_rfl) _ _ (by rfl) [.pointer (some ⟨g, 0, none⟩)] (by simp only [List.map_cons, List.map_nil, *]; try rfl) (cK.out _ hS) ?_
      rintro e w1 ⟨rfl, rfl⟩
      exact ⟨_, rfl, _, rfl, rfl, Old.refl' _, hS⟩
    refine StepsOk.cons (stepOk_pure [] [(1, .int .i64 M)] rfl rfl (by kernel_rfl) (by kernel_rfl) rfl Old.refl' (fun _ _ _ h => h) (fun d E w' hk hda hS hc hf => by rintro  e1; exact ⟨_, by go_simp, rfl⟩)) ?_
    refine StepsOk.cons (stepOk_pure [(3, 27), (5, 29), (6, 30)] [] rfl rfl (by kernel_rfl) (by kernel_rfl) rfl Old.refl' (fun _ _ _ h => h) (fun d E w' hk hda hS hc hf => by rintro _ q3 rfl e27 _ q5 rfl e29 _ q6 rfl e30 ; obtain t1 := hL.out _ hS; exact ⟨_, by go_simp, rfl⟩)) ?_
    refine StepsOk.cons (stepOk_pure [(7, 31)] [] rfl rfl (by kernel_rfl) (by kernel_rfl) rfl Old.refl' (fun _ _ _ h => h) (fun d E w' hk hda hS hc hf => by rintro _ q7 rfl e31 ; exact ⟨_, by go_simp, rfl⟩)) ?_
    refine StepsOk.cons (stepOk_pure [] [] rfl rfl (by kernel_rfl) (by kernel_rfl) rfl Old.refl' (fun _ _ _ h => h) (fun d E w' hk hda hS hc hf => by exact ⟨_, by go_simp, rfl⟩)) ?_
    exact StepsOk.nil
  case ends =>
    intro σ9 w9 hS9 hA9
    refine Ends.eqv (some 24) (.pointer (some ⟨g, 0, none⟩)) rfl (fun _ h => h) ?_
    refine Ends.eqv (some 25) (.pointer (some ⟨g, 0, none⟩)) rfl (fun _ h => h) ?_
    refine Ends.eqv (some 26) (.pointer (some ⟨g, 1, none⟩)) rfl (fun _ h => h) ?_
    refine Ends.eqv (some 27) (.slice (some ⟨b, 0, none⟩) N ca) rfl (fun _ h => h) ?_
    refine Ends.eqv (some 28) (.pointer (some ⟨g, 0, none⟩)) rfl (fun _ h => h) ?_
    refine Ends.eqv (some 29) (.int .i64 k) rfl (fun _ h => h) ?_
    refine Ends.eqv (some 30) (.int .i64 M) rfl (fun _ h => h) ?_
    refine Ends.eqv (some 31) (.slice (some ⟨b, k * 6, none⟩) m (ca - k)) rfl (fun _ h => h) ?_
    refine Ends.eqv (some 32) (.int .i64 m) rfl (fun _ h => h) ?_
    refine Ends.eqv (some 33) (.int .i64 0) rfl (fun _ h => h) ?_
    refine Ends.nil ?_
    clear hA9
    simp only [put_lit, put_none, List.set_cons_zero, List.set_cons_succ]
    have o9 := hS9
    clear hS9
    have hmid9 : LnMid w w9 g F l.quota l.qs (.slice (some ⟨b, 0, none⟩) N ca) N gs (k + 0) := by
      obtain ⟨cs, B, cb, rs, Fs, q1, q2, q3, q4, q5⟩ := hmid
      exact ⟨cs, B, cb, rs, Fs, q1.old o9, q2, q3, q4, q5.trans (Fr.of_old o9)⟩
    clear hmid o9 l0 cK hL
    go_wp2_with fail
    have hi2n : ¬ M < k := by omega
    have hi3n : ¬ N < M := by omega
    simp only [hi2n, hi3n, decide_false, Bool.or_false]
    clear hi2 hi3 hi2n hi3n
    go_loopw [33] (fun iv wr => ∃ j : Nat, j ≤ m ∧ iv = .int .i64 j ∧ LnMid w wr g F l.quota l.qs (.slice (some ⟨b, 0, none⟩) N ca) N gs (k + j)) (fun iv _ => m - (intOf iv).toNat)
    case atStart => exact ⟨0, Nat.zero_le _, rfl, hmid9⟩
    case round =>
      clear hmid9
      obtain ⟨j, hj, rfl, hmid⟩ := hrel
      by_cases hlt : j < m
      · obtain ⟨cs, B, cb, rs, Fs, hB, hC, hR, hFF, hFr⟩ := hmid
        obtain ⟨kj, hkj⟩ : ∃ kj, k + j = kj := ⟨_, rfl⟩
        have hkjN : kj < N := by omega
        rw [hkj] at hB hC hR hFF
        have hkq : kj < l.qs.length := by have := HN.out; omega
        obtain ⟨x, hx⟩ : ∃ x, l.qs[kj] = x := ⟨_, rfl⟩
        have hxx : l.qs[kj]?.getD default = x := by rw [List.getElem?_eq_getElem hkq]; exact hx
        obtain ⟨p1, p2, p3⟩ := runS_put_ok l.quota HOK.out hkq
        rw [hx] at p1 p2 p3
        have hnn := (runS_of_ok l.quota HOK.out kj (by omega)).1
        obtain ⟨s0, hs0⟩ : ∃ s, runS l.quota (l.qs.take kj) = s := ⟨_, rfl⟩
        rw [hs0] at p1 p2 p3 hB hnn
        have hrp : (⟨l.quota, l.qs, kj⟩ : LnV).rep kj = s0.rep x.q := by unfold LnV.rep; show (runS l.quota (l.qs.take kj)).rep (l.qs[kj]?.getD default).q = _; rw [hs0, hxx]
        obtain ⟨rp, hrr⟩ : ∃ r, s0.rep x.q = r := ⟨_, rfl⟩
        rw [hrr] at hrp
        obtain ⟨c0, hc0⟩ : ∃ c, rp.code = c := ⟨_, rfl⟩
        obtain ⟨v0, hv0⟩ : ∃ c, rp.ver = c := ⟨_, rfl⟩
        obtain ⟨d0, hd0⟩ : ∃ c, rp.data = c := ⟨_, rfl⟩
        obtain ⟨E, hE⟩ : ∃ c : Int, c = 0 := ⟨_, rfl⟩
        obtain ⟨s1, hs1⟩ : ∃ c, s0.put x.q = c := ⟨_, rfl⟩
        have hP := hide (fun (Fs : Nat → Prop) (W : World) (hW : StAt W gs Fs s0) => Put_at gs Fs s0 x.q c0 v0 E d0 s1 (by rw [hrr]; exact hc0) (by rw [hrr]; exact hv0) (by rw [hrr]; exact hd0) (p1.trans hE.symm) hs1 (by omega) W hW)
        obtain ⟨b', o', e', hb', hc⟩ := (show ReqsAt wr (some ⟨b, 0, none⟩) l.qs from CellsAt.of_own hB.row).at5 (k := kj) hkq
        cases e'
        rw [hxx] at hc
        simp only [Nat.zero_add] at hc
        have e6 : kj * 6 = k * 6 + j * 6 := by omega
        rw [e6] at hc
        have x0 : wr.cell? ⟨b, k * 6 + j * 6, none⟩ = some (.int .i64 x.client) := hc 0 _ (by omega) rfl
        have x1 := hc 1 _ (by omega) rfl
        have x2 := hc 2 _ (by omega) rfl
        have x3 := hc 3 _ (by omega) rfl
        have x4 := hc 4 _ (by omega) rfl
        have x5 := hc 5 _ (by omega) rfl
        have hC38 := hC.s0
        have hC39 := hC.r0
        have hB0 := hB.old ((Old.refl' wr).alloc' (.cells #[.int .i64 x.client, .int .i64 x.seq, .int .i64 x.kind, .int .i64 x.id, .int .i64 x.mat, .string x.data] 23))
        have hQ0 := Bk.new wr 23 #[.int .i64 x.client, .int .i64 x.seq, .int .i64 x.kind, .int .i64 x.id, .int .i64 x.mat, .string x.data]
        have hq0 : ¬ Fs wr.heap.size := fun h => by have := hB.sto.lt _ h; omega
        have hqF : ∀ c, LnF g (.slice (some ⟨b, 0, none⟩) N ca) (.slice B kj cb) Fs c → c < wr.heap.size := fun c hc => hB.lt hc
        obtain ⟨bq, hbq⟩ : ∃ q, wr.heap.size = q := ⟨_, rfl⟩
        rw [hbq] at hQ0 hq0 hqF
        have HHB := hide hB
        have HBQ := hide hbq
        have HC := hide hC
        have HR := hide hR
        have HFF := hide hFF
        have HFR := hide hFr
        have HPS := hide (hs1.symm.trans p3)
        have HCV := hide (show rp.code = c0 ∧ rp.ver = v0 ∧ rp.data = d0 from ⟨hc0, hv0, hd0⟩)
        have HRP := hide hrp
        have HJ := hide hkj
        clear hc hx hxx p1 p2 p3 hs0 hrp hrr hc0 hv0 hd0 hE hs1 hB hC hR hFF hFr e6 hkj hnn
        have HNF := hide (fun (b7 : Nat) (Fs1 : Nat → Prop) (g1 : ¬ Fs1 b7) (g2 : bq ≤ b7) (hk : LnF g (.slice (some ⟨b, 0, none⟩) N ca) (.slice B kj cb) Fs1 b7) => (by
          rcases hk with h | h | h | h
          · have := hqF _ (.inl h); omega
          · have := hqF _ (.inr (.inl h)); omega
          · have := hqF _ (.inr (.inr (.inl h))); omega
          · exact g1 h : False))
        obtain ⟨xs, hxs⟩ : ∃ xs, l.qs.flatMap ReqV.cells = xs := ⟨_, rfl⟩
        rw [hxs] at hB0
        have HXS := hide hxs
        obtain ⟨WD, hWD⟩ : ∃ W, wr.alloc (.cells #[.int .i64 x.client, .int .i64 x.seq, .int .i64 x.kind, .int .i64 x.id, .int .i64 x.mat, .string x.data] 23) = W := ⟨_, rfl⟩
        have hbqW : bq ≤ WD.heap.size := by rw [← hWD, ← HBQ.out]; simp
        go_wp2_with fail
        simp only [HBQ.out, hWD] at hB0 hQ0 ⊢
        clear x0 x1 x2 x3 x4 x5 hxs
        refine region_steps (R := pick [eqv (.pointer (some ⟨g, 0, none⟩)), eqv (.pointer (some ⟨g, 0, none⟩)), eqv (.pointer (some ⟨g, 38, none⟩)), eqv (.pointer (some ⟨gs, 0, none⟩)), eqv (.agg #[.int .i64 x.client, .int .i64 x.seq, .int .i64 x.kind, .int .i64 x.id, .int .i64 x.mat, .string x.data]), fun v w' => ∃ A4 c4, v = .tuple #[.agg #[.int .i64 c0, .int .i64 v0, .string d0, .slice A4 0 c4], .int .i64 E], fun v w' => ∃ A4 c4, v = .tuple #[.agg #[.int .i64 c0, .int .i64 v0, .string d0, .slice A4 0 c4], .int .i64 E], fun v w' => ∃ A4 c4, v = .agg #[.int .i64 c0, .int .i64 v0, .string d0, .slice A4 0 c4], eqv (.int .i64 E), fun v w' => ∃ b7, v = .pointer (some ⟨b7, 0, none⟩), eqv (undef), eqv (.int .i64 E)]) (S := fun σ w' => ∃ Fs', LnB w' g cs (.slice (some ⟨b, 0, none⟩) N ca) N xs (.slice B kj cb) kj rs gs Fs' (stp (σ 5) s0 s1) ∧ Bk w' bq 23 #[.int .i64 x.client, .int .i64 x.seq, .int .i64 x.kind, .int .i64 x.id, .int .i64 x.mat, .string x.data] ∧ ¬ Fs' bq ∧ Fr Fs WD w' ∧ (∀ b, Fs' b → Fs b ∨ WD.heap.size ≤ b) ∧ (∀ v, σ 9 = some v → ∃ b7, v = .pointer (some ⟨b7, 0, none⟩) ∧ ¬ Fs' b7 ∧ WD.heap.size ≤ b7 ∧ (σ 10 = none → Bk w' b7 32 #[.int .i64 0, .int .i64 0, .string { data := #[] }, .slice none 0 0]) ∧ (σ 10 ≠ none → ∃ A4 c4, Bk w' b7 32 #[.int .i64 c0, .int .i64 v0, .string d0, .slice A4 0 c4]))) (T := (fun _ _ => True)) (by kernel_rfl) (by kernel_rfl) (by kernel_rfl) (Stab.pick (Stab.eqv (Stab.eqv (Stab.eqv (Stab.eqv (Stab.eqv (Stab.cons (fun _ _ _ _ h => h) (Stab.cons (fun _ _ _ _ h => h) (Stab.cons (fun _ _ _ _ h => h) (Stab.eqv (Stab.cons (fun _ _ _ _ h => h) (Stab.eqv (Stab.eqv (Stab.nil)))))))))))))) (⟨Fs, hB0.old (Old.refl' _).drew', hQ0.drew, hq0, (Fr.refl _ _).drew, fun b hb => .inl hb, fun v hv => by cases hv⟩) ?steps ?ends
        case steps =>
          refine StepsOk.cons (stepOk_pure [] [(0, .pointer (some ⟨g, 0, none⟩))] rfl rfl (by kernel_rfl) (by kernel_rfl) rfl (fun _ => trivial) (fun σ v w h => by simpa [upd] using h) (fun d E w' hk hda hS hc hf => by rintro  e0; exact ⟨_, by go_simp, rfl⟩)) ?_
          refine StepsOk.cons (stepOk_pure [(0, 38)] [] rfl rfl (by kernel_rfl) (by kernel_rfl) rfl (fun _ => trivial) (fun σ v w h => by simpa [upd] using h) (fun d E w' hk hda hS hc hf => by rintro _ q0 rfl e38 ; exact ⟨_, by go_simp, rfl⟩)) ?_
          refine StepsOk.cons (stepOk_pure [(1, 39)] [] rfl rfl (by kernel_rfl) (by kernel_rfl) rfl (fun _ => trivial) (fun σ v w h => by simpa [upd] using h) (fun d E w' hk hda hS hc hf => by rintro _ q1 rfl e39 ; exact ⟨_, by go_simp, rfl⟩)) ?_
          refine StepsOk.cons (stepOk_pure [(2, 40)] [] rfl rfl (by kernel_rfl) (by kernel_rfl) rfl (fun _ => trivial) (fun σ v w h => by simpa [upd] using h) (fun d E w' hk hda hS hc hf => by rintro _ q2 rfl e40 ; obtain ⟨Fs1, hB1, hQ1, hq1, hf1, hn1, h91⟩ := hS; obtain ⟨⟨y0, y1, y2, y3, y4, y5⟩, l9⟩ := bk6 hQ1; have t1 := (hB1.bk.cell 38).trans hC38; exact ⟨_, by go_simp, rfl⟩)) ?_
          refine StepsOk.cons (stepOk_pure [] [(6, .pointer (some ⟨bq, 0, none⟩))] rfl rfl (by kernel_rfl) (by kernel_rfl) rfl (fun _ => trivial) (fun σ v w h => by simpa [upd] using h) (fun d E w' hk hda hS hc hf => by rintro  e6; obtain ⟨Fs1, hB1, hQ1, hq1, hf1, hn1, h91⟩ := hS; obtain ⟨⟨y0, y1, y2, y3, y4, y5⟩, l9⟩ := bk6 hQ1; have t1 := (hB1.bk.cell 38).trans hC38; exact ⟨_, by go_simp, rfl⟩)) ?_
          refine StepsOk.cons (stepOk_mk [(3, 41), (4, 42)] [] rfl rfl (by kernel_rfl) (by kernel_rfl) rfl ?_) ?_
          · rintro d a w' hk hda hS _ q3 rfl e41 _ q4 rfl e42 
            first | refine Given.nil (Known.nil ?_) | refine Known.nil ?_
            obtain ⟨Fs1, hB1, hQ1, hq1, hf1, hn1, h91⟩ := hS
            rw [hk 5 (by kernel_rfl)] at hB1
            refine wp_call 31 _ Try.func31 (by kernel_rfl) (by kernel_rfl) _ _ (by rfl) [.pointer (some ⟨gs, 0, none⟩), .agg #[.int .i64 x.client, .int .i64 x.seq, .int .i64 x.kind, .int .i64 x.id, .int .i64 x.mat, .string x.data]] (by simp only [List.map_cons, List.map_nil, *]; try rfl) (hP.out Fs1 _ hB1.sto) ?_
            rintro e w1 ⟨⟨A4, c4, rfl⟩, ⟨F', st', hn'⟩, hf'⟩
            refine ⟨_, rfl, _, rfl, ⟨A4, c4, rfl⟩, trivial, F', ?_, hQ1.fr hf' hq1, fun h => ?_, ?_, fun b hb => ?_, fun v hv => ?_⟩
            · have e5 : upd d 5 (.tuple #[.agg #[.int .i64 c0, .int .i64 v0, .string d0, .slice A4 0 c4], .int .i64 E]) 5 = some (.tuple #[.agg #[.int .i64 c0, .int .i64 v0, .string d0, .slice A4 0 c4], .int .i64 E]) := by simp [upd]
              rw [e5]
              exact hB1.put hf' st' hn'
            · rcases hn' _ h with h | h
              · exact hq1 h
              · have := hQ1.lt; omega
            · exact hf1.trans' hf' (fun b hb hF => (hn1 b hF).elim id (fun h => by omega))
            · rcases hn' _ hb with h | h
              · exact hn1 b h
              · have := hf1.size; exact .inr (by omega)
            · have e9 : upd d 5 (.tuple #[.agg #[.int .i64 c0, .int .i64 v0, .string d0, .slice A4 0 c4], .int .i64 E]) 9 = d 9 := by simp [upd]
              have e10 : upd d 5 (.tuple #[.agg #[.int .i64 c0, .int .i64 v0, .string d0, .slice A4 0 c4], .int .i64 E]) 10 = d 10 := by simp [upd]
              rw [e9] at hv
              rw [e10]
              obtain ⟨b7, rfl, g1, g2, g3, g4⟩ := h91 v hv
              refine ⟨b7, rfl, fun h => ?_, g2, fun h => (g3 h).fr hf' g1, fun h => absurd (hk 10 (by kernel_rfl)) h⟩
              rcases hn' _ h with h | h
              · exact g1 h
              · have := (g3 (hk 10 (by kernel_rfl))).lt; omega
          refine StepsOk.cons (stepOk_mk [(5, 43)] [] rfl rfl (by kernel_rfl) (by kernel_rfl) rfl ?_) ?_
          · rintro d a w' hk hda hS _ q5 ⟨A4, c4, rfl⟩ e43 
            first | refine Given.nil (Known.nil ?_) | refine Known.nil ?_
            refine wp_runv (w' := w') (.tuple #[.agg #[.int .i64 c0, .int .i64 v0, .string d0, .slice A4 0 c4], .int .i64 E]) (by revert e43; generalize a.eval = E9; intro e43; go_simp) ⟨_, rfl, ⟨A4, c4, rfl⟩, trivial, by simpa [upd] using hS⟩
          refine StepsOk.cons (stepOk_mk [(6, 37)] [] rfl rfl (by kernel_rfl) (by kernel_rfl) rfl ?_) ?_
          · rintro d a w' hk hda hS _ q6 ⟨A4, c4, rfl⟩ e37 
            first | refine Given.nil (Known.nil ?_) | refine Known.nil ?_
            refine wp_runv (w' := w') (.agg #[.int .i64 c0, .int .i64 v0, .string d0, .slice A4 0 c4]) (by revert e37; generalize a.eval = E9; intro e37; go_simp) ⟨_, rfl, ⟨A4, c4, rfl⟩, trivial, by simpa [upd] using hS⟩
          refine StepsOk.cons (stepOk_pure [(6, 37)] [] rfl rfl (by kernel_rfl) (by kernel_rfl) rfl (fun _ => trivial) (fun σ v w h => by simpa [upd] using h) (fun d E w' hk hda hS hc hf => by rintro _ q6 ⟨A4, c4, rfl⟩ e37 ; exact ⟨_, by go_simp, rfl⟩)) ?_
          refine StepsOk.cons (stepOk_mk [] [] rfl rfl (by kernel_rfl) (by kernel_rfl) rfl ?_) ?_
          · rintro d a w' hk hda hS  
            first | refine Given.nil (Known.nil ?_) | refine Known.nil ?_
            obtain ⟨Fs1, hB1, hQ1, hq1, hf1, hn1, h91⟩ := hS
            refine wp_runv (w' := w'.alloc (.cells #[.int .i64 0, .int .i64 0, .string { data := #[] }, .slice none 0 0] 32)) (.pointer (some ⟨w'.heap.size, 0, none⟩)) (by generalize a.eval = E9; go_simp) ⟨_, rfl, ⟨_, rfl⟩, trivial, Fs1, ?_, hQ1.alloc _, hq1, hf1.alloc _, hn1, fun v hv => ?_⟩
            · have e5 : upd d 9 (.pointer (some ⟨w'.heap.size, 0, none⟩)) 5 = d 5 := by simp [upd]
              rw [e5]
              exact hB1.old ((Old.refl' _).alloc' _)
            · have e9 : upd d 9 (.pointer (some ⟨w'.heap.size, 0, none⟩)) 9 = some (.pointer (some ⟨w'.heap.size, 0, none⟩)) := by simp [upd]
              have e10 : upd d 9 (.pointer (some ⟨w'.heap.size, 0, none⟩)) 10 = d 10 := by simp [upd]
              rw [e9] at hv
              injection hv with hv
              subst hv
              rw [e10]
              exact ⟨_, rfl, fun h => by have := hB1.sto.lt _ h; omega, hf1.size, fun _ => Bk.new _ _ _, fun h => absurd (hk 10 (by kernel_rfl)) h⟩
          refine StepsOk.cons (stepOk_store [(9, 7), (7, 44)] [] rfl rfl (by kernel_rfl) (by kernel_rfl) rfl (fun d E w' hk hda hS hc hf => by rintro _ q9 ⟨b7, rfl⟩ e7 _ q7 ⟨A4, c4, rfl⟩ e44 ; obtain ⟨Fs1, hB1, hQ1, hq1, hf1, hn1, h91⟩ := hS; obtain ⟨b8, e8, g1, g2, g3, g4⟩ := h91 _ q9; injection e8 with e8; injection e8 with e8; injection e8 with e8; subst e8; have hz := g3 (hk 10 (by kernel_rfl)); obtain ⟨⟨z0, z1, z2, z3⟩, ⟨f0, f1, f2, f3⟩, lz⟩ := bk4 hz; exact ⟨((((w'.setCell ⟨b7, 0, none⟩ (.int .i64 c0)).setCell ⟨b7, 1, none⟩ (.int .i64 v0)).setCell ⟨b7, 2, none⟩ (.string d0)).setCell ⟨b7, 3, none⟩ (.slice A4 0 c4)), by go_simp, rfl, trivial, ⟨Fs1, (by have e5 : upd d 10 undef 5 = d 5 := (by simp [upd]); rw [e5]; exact hB1.fr (S := fun k => k = b7) (fr4' (Fr.refl _ _)) (fun k hk e => by subst e; exact HNF.out _ _ g1 (Nat.le_trans hbqW g2) hk)), hQ1.fr (fr4' (Fr.refl _ _)) (fun e => by have := hQ0.lt; omega), hq1, (hf1.trans' (T := fun k => k = b7) (fr4' (Fr.refl _ _)) (fun b hb e => by omega)), hn1, fun v hv => ⟨b7, by rw [show upd d 10 undef 9 = d 9 by simp [upd], q9] at hv; injection hv with hv; exact hv.symm, g1, g2, fun h => by simp [upd] at h, fun _ => ⟨A4, c4, Bk.set4 hz⟩⟩⟩⟩)) ?_
          refine StepsOk.cons (stepOk_pure [(8, 45)] [] rfl rfl (by kernel_rfl) (by kernel_rfl) rfl (fun _ => trivial) (fun σ v w h => by simpa [upd] using h) (fun d E w' hk hda hS hc hf => by rintro _ q8 rfl e45 ; exact ⟨_, by go_simp, rfl⟩)) ?_
          exact StepsOk.nil
        case ends =>
          intro σ9 w9 hS9 hA9
          refine Ends.eqv (some 38) (.pointer (some ⟨g, 0, none⟩)) rfl (fun _ h => h) ?_
          refine Ends.eqv (some 39) (.pointer (some ⟨g, 0, none⟩)) rfl (fun _ h => h) ?_
          refine Ends.eqv (some 40) (.pointer (some ⟨g, 38, none⟩)) rfl (fun _ h => h) ?_
          refine Ends.eqv (some 41) (.pointer (some ⟨gs, 0, none⟩)) rfl (fun _ h => h) ?_
          refine Ends.eqv (some 42) (.agg #[.int .i64 x.client, .int .i64 x.seq, .int .i64 x.kind, .int .i64 x.id, .int .i64 x.mat, .string x.data]) rfl (fun _ h => h) ?_
          refine Ends.ex (some 43) rfl ?_
          rintro _ p5 ⟨A4, c4, rfl⟩
          refine Ends.ex (some 37) rfl ?_
          rintro _ p6 ⟨A4, c4, rfl⟩
          refine Ends.ex (some 44) rfl ?_
          rintro _ p7 ⟨A4, c4, rfl⟩
          refine Ends.eqv (some 45) (.int .i64 E) rfl (fun _ h => h) ?_
          refine Ends.ex (some 7) rfl ?_
          rintro _ p9 ⟨b7, rfl⟩
          refine Ends.eqv none (undef) rfl (fun _ h => h) ?_
          refine Ends.eqv (some 8) (.int .i64 E) rfl (fun _ h => h) ?_
          refine Ends.nil ?_
          have hA9' := hA9
          clear hA9
          simp only [put_lit, put_none, List.set_cons_zero, List.set_cons_succ]
          obtain ⟨Fs1, hB1, hQ1, hq1, hf1, hn1, h91⟩ := hS9
          obtain ⟨u5, hu5⟩ := Option.isSome_iff_exists.1 (hA9' 5 (by simp))
          obtain ⟨u10, hu10⟩ := Option.isSome_iff_exists.1 (hA9' 10 (by simp))
          rw [hu5] at hB1
          obtain ⟨b8, e8, g1, g2, -, g4⟩ := h91 _ p9
          injection e8 with e8; injection e8 with e8; injection e8 with e8; subst e8
          obtain ⟨A5, c5, h7⟩ := g4 (by rw [hu10]; exact fun h => by cases h)
          clear h91 g4 hu5 hu10 hA9'
          have hWDs : wr.heap.size ≤ WD.heap.size := by rw [← hWD]; simp
          have hwr := HFR.out.size
          have hf1s := hf1.size
          have hFW : Fr F w w9.drew := (((HFR.out.trans (Fr.of_old (hWD ▸ (Old.refl' wr).alloc' _))).trans' hf1 (fun c hc hF => (HFF.out c (.inr (.inr (.inr hF)))).elim id (fun h => by omega)))).drew
          have hB8 := hB1.old (Old.refl' w9).drew'
          have h78 := h7.drew
          have hbs8 : WD.heap.size ≤ w9.drew.heap.size := hf1s
          obtain ⟨W8, hW8e⟩ : ∃ U, w9.drew = U := ⟨_, rfl⟩
          rw [hW8e] at hB8 h78 hFW hbs8
          clear hB1 hQ1 hq1 hf1 h7 hf1s hB0 hQ0
          have bkX := hB8.bk
          have ownX := hB8.reps
          have hNE := hB8.ne_gr
          have hX1 := hC39
          obtain ⟨A4, hA4⟩ : ∃ A, A = A5 := ⟨_, rfl⟩
          obtain ⟨c4, hc4⟩ : ∃ A, A = c5 := ⟨_, rfl⟩
          rw [← hA4, ← hc4] at h78
          clear hA4 hc4
          have CS := hide (fun (U : World) (h : Old W8 U) => (⟨(bk4 (h78.old h)).1, ((bkX.old h).cell 39).trans hX1⟩ : (U.cell? ⟨b7, 0, none⟩ = some (.int .i64 c0) ∧ U.cell? ⟨b7, 1, none⟩ = some (.int .i64 v0) ∧ U.cell? ⟨b7, 2, none⟩ = some (.string d0) ∧ U.cell? ⟨b7, 3, none⟩ = some (.slice A4 0 c4)) ∧ U.cell? ⟨g, 39, none⟩ = some (.slice B kj cb)))
          obtain ⟨Fin9, hFin⟩ : ∃ P : World → Prop, P = fun U => LnMid w U g F l.quota l.qs (.slice (some ⟨b, 0, none⟩) N ca) N gs (kj + 1) := ⟨_, rfl⟩
          have hAPP := fun (A2 : Option Addr) (c2 : Nat) (W2 : World) (h2 : Apps (W8.alloc (.cells #[.int .i64 c0, .int .i64 v0, .string d0, .slice A4 0 c4] 32)) 0 32 4 (.slice B kj cb) (kj + 1) (rs ++ [.int .i64 c0, .int .i64 v0, .string d0, .slice A4 0 c4]) (.slice A2 (kj + 1) c2) W2) => (by
            obtain ⟨a1, a2, a3⟩ := hB8.apr ((Old.refl' W8).alloc' _) h2
            obtain ⟨v1, v2, v3⟩ := HCV.out
            rw [hFin]
            have hrl : rs.length = kj * 4 := HHB.out.reps.1
            have hro := RepsOk.snoc (A := A4) (c := c4) HR.out hrl HRP.out
            rw [v1, v2, v3] at hro
            refine ⟨_, A2, c2, _, Fs1, ?_, HC.out.rep, hro, fun c hc => ?_, ?_⟩
            · rw [HXS.out, ← HPS.out]; exact a1
            · rcases hc with hc | hc | hc | hc
              · exact HFF.out c (.inl hc)
              · exact HFF.out c (.inr (.inl hc))
              · rcases a3 c hc with h | h
                · exact HFF.out c (.inr (.inr (.inl h)))
                · right; omega
              · rcases hn1 c hc with h | h
                · exact HFF.out c (.inr (.inr (.inr h)))
                · right; omega
            · refine hFW.trans' a2 (fun c hc h => ?_)
              rcases h with h | h
              · exact (HFF.out c (.inl h)).elim id (fun h => by omega)
              · exact (HFF.out c (.inr (.inr (.inl h)))).elim id (fun h => by omega) : Fin9 (W2.setCell ⟨g, 39, none⟩ (.slice A2 (kj + 1) c2)))
          clear hB8 h78
          go_wp2_with fail
          refine region_steps (R := pick [eqv (.pointer (some ⟨g, 0, none⟩)), eqv (.pointer (some ⟨g, 0, none⟩)), eqv (.pointer (some ⟨g, 0, none⟩)), eqv (.pointer (some ⟨g, 39, none⟩)), eqv (.slice B kj cb), eqv (.agg #[.int .i64 c0, .int .i64 v0, .string d0, .slice A4 0 c4]), eqv (.slice (some ⟨W8.heap.size, 0, none⟩) 1 1), fun v w' => ∃ A2 c2, v = .slice A2 (kj + 1) c2, eqv (.pointer (some ⟨g, 0, none⟩)), eqv (.pointer (some ⟨g, 39, none⟩)), eqv (undef)]) (S := fun σ w' => (σ 10 ≠ none → Fin9 w') ∧ (σ 10 = none → σ 7 ≠ none → ∃ A2 c2, σ 7 = some (.slice A2 (kj + 1) c2) ∧ Apps (W8.alloc (.cells #[.int .i64 c0, .int .i64 v0, .string d0, .slice A4 0 c4] 32)) 0 32 4 (.slice B kj cb) (kj + 1) (rs ++ [.int .i64 c0, .int .i64 v0, .string d0, .slice A4 0 c4]) (.slice A2 (kj + 1) c2) w') ∧ (σ 10 = none → σ 7 = none → σ 6 ≠ none → w' = (W8.alloc (.cells #[.int .i64 c0, .int .i64 v0, .string d0, .slice A4 0 c4] 32))) ∧ (σ 10 = none → σ 7 = none → σ 6 = none → w' = W8)) (T := (fun _ _ => True)) (by kernel_rfl) (by kernel_rfl) (by kernel_rfl) (Stab.pick (Stab.eqv (Stab.eqv (Stab.eqv (Stab.eqv (Stab.eqv (Stab.eqv (Stab.eqv (Stab.cons (fun _ _ _ _ h => h) (Stab.eqv (Stab.eqv (Stab.eqv (Stab.nil))))))))))))) (⟨fun h => absurd rfl h, fun _ h => absurd rfl h, fun _ _ h => absurd rfl h, fun _ _ _ => hW8e⟩) ?steps ?ends
          case steps =>
            refine StepsOk.cons (stepOk_pure [] [(0, .pointer (some ⟨g, 0, none⟩))] rfl rfl (by kernel_rfl) (by kernel_rfl) rfl (fun _ => trivial) (fun σ v w h => by simpa [upd] using h) (fun d E w' hk hda hS hc hf => by rintro  e0; exact ⟨_, by go_simp, rfl⟩)) ?_
            refine StepsOk.cons (stepOk_pure [] [(0, .pointer (some ⟨g, 0, none⟩))] rfl rfl (by kernel_rfl) (by kernel_rfl) rfl (fun _ => trivial) (fun σ v w h => by simpa [upd] using h) (fun d E w' hk hda hS hc hf => by rintro  e0; exact ⟨_, by go_simp, rfl⟩)) ?_
            refine StepsOk.cons (stepOk_pure [(1, 47)] [] rfl rfl (by kernel_rfl) (by kernel_rfl) rfl (fun _ => trivial) (fun σ v w h => by simpa [upd] using h) (fun d E w' hk hda hS hc hf => by rintro _ q1 rfl e47 ; exact ⟨_, by go_simp, rfl⟩)) ?_
            refine StepsOk.cons (stepOk_pure [(2, 48)] [] rfl rfl (by kernel_rfl) (by kernel_rfl) rfl (fun _ => trivial) (fun σ v w h => by simpa [upd] using h) (fun d E w' hk hda hS hc hf => by rintro _ q2 rfl e48 ; exact ⟨_, by go_simp, rfl⟩)) ?_
            refine StepsOk.cons (stepOk_pure [(3, 49)] [] rfl rfl (by kernel_rfl) (by kernel_rfl) rfl (fun _ => trivial) (fun σ v w h => by simpa [upd] using h) (fun d E w' hk hda hS hc hf => by rintro _ q3 rfl e49 ; obtain ⟨⟨y0, y1, y2, y3⟩, t1⟩ := CS.out w' ((Classical.em (d 6 = none)).elim (fun h13 => by rw [hS.2.2.2 (hk 10 (by kernel_rfl)) (hk 7 (by kernel_rfl)) h13]; exact Old.refl' _) (fun h13 => by rw [hS.2.2.1 (hk 10 (by kernel_rfl)) (hk 7 (by kernel_rfl)) h13]; exact (Old.refl' _).alloc' _)); exact ⟨_, by go_simp, rfl⟩)) ?_
            refine StepsOk.cons (stepOk_pure [] [(7, .pointer (some ⟨b7, 0, none⟩))] rfl rfl (by kernel_rfl) (by kernel_rfl) rfl (fun _ => trivial) (fun σ v w h => by simpa [upd] using h) (fun d E w' hk hda hS hc hf => by rintro  e7; obtain ⟨⟨y0, y1, y2, y3⟩, t1⟩ := CS.out w' ((Classical.em (d 6 = none)).elim (fun h13 => by rw [hS.2.2.2 (hk 10 (by kernel_rfl)) (hk 7 (by kernel_rfl)) h13]; exact Old.refl' _) (fun h13 => by rw [hS.2.2.1 (hk 10 (by kernel_rfl)) (hk 7 (by kernel_rfl)) h13]; exact (Old.refl' _).alloc' _)); exact ⟨_, by go_simp, rfl⟩)) ?_
            refine StepsOk.cons (stepOk_mk [(5, 51)] [] rfl rfl (by kernel_rfl) (by kernel_rfl) rfl ?_) ?_
            · rintro d a w' hk hda hS _ q5 rfl e51 
              first | refine Given.nil (Known.nil ?_) | refine Known.nil ?_
              obtain rfl := (hS.2.2.2 (hk 10 (by kernel_rfl)) (hk 7 (by kernel_rfl)) (hk 6 (by kernel_rfl))).symm
              refine wp_runv (w' := (W8.alloc (.cells #[.int .i64 c0, .int .i64 v0, .string d0, .slice A4 0 c4] 32))) (.slice (some ⟨W8.heap.size, 0, none⟩) 1 1) (by revert e51; generalize a.eval = E; intro e51; go_simp) ⟨_, rfl, rfl, trivial, ?_⟩
              exact ⟨fun h => absurd (hk 10 (by kernel_rfl)) (by simpa [upd] using h), fun _ h => absurd (hk 7 (by kernel_rfl)) (by simpa [upd] using h), fun _ _ _ => rfl, fun _ _ h => by simp [upd] at h⟩
            refine StepsOk.cons (stepOk_mk [(4, 50), (6, 52)] [] rfl rfl (by kernel_rfl) (by kernel_rfl) rfl ?_) ?_
            · rintro d a w' hk hda hS _ q4 rfl e50 _ q6 rfl e52 
              first | refine Given.nil (Known.nil ?_) | refine Known.nil ?_
              obtain rfl := hS.2.2.1 (hk 10 (by kernel_rfl)) (hk 7 (by kernel_rfl)) (by rw [q6]; simp)
              refine wp_app _ (.tmp 50) (.tmp 52) 77 rfl 0 32 j0 (.agg #[.int .i64 0, .int .i64 0, .string { data := #[] }, .slice none 0 0]) 4 56 Try.underlying77 hj0 hj00 hj01 hj02 rfl (by decide) (.slice B kj cb) kj (rs) e50 (ownX.alloc _) (some ⟨W8.heap.size, 0, none⟩) 1 1 [.int .i64 c0, .int .i64 v0, .string d0, .slice A4 0 c4] e52 rfl (cells_bk (Bk.new W8 32 #[.int .i64 c0, .int .i64 v0, .string d0, .slice A4 0 c4])) (by simp [Value.oneCell']) (by unfold maxLen; omega) (by omega) (Nat.zero_le _) (kj + 1) rfl _ rfl ?_
              intro A2 c2 W2 h2
              exact ⟨_, rfl, ⟨A2, c2, rfl⟩, trivial, fun h => absurd (hk 10 (by kernel_rfl)) (by simpa [upd] using h), fun _ _ => ⟨A2, c2, by simp [upd], h2⟩, fun _ h => by simp [upd] at h, fun _ h => by simp [upd] at h⟩
            refine StepsOk.cons (stepOk_pure [(0, 46)] [] rfl rfl (by kernel_rfl) (by kernel_rfl) rfl (fun _ => trivial) (fun σ v w h => by simpa [upd] using h) (fun d E w' hk hda hS hc hf => by rintro _ q0 rfl e46 ; exact ⟨_, by go_simp, rfl⟩)) ?_
            refine StepsOk.cons (stepOk_pure [(8, 54)] [] rfl rfl (by kernel_rfl) (by kernel_rfl) rfl (fun _ => trivial) (fun σ v w h => by simpa [upd] using h) (fun d E w' hk hda hS hc hf => by rintro _ q8 rfl e54 ; exact ⟨_, by go_simp, rfl⟩)) ?_
            refine StepsOk.cons (stepOk_store [(9, 55), (7, 53)] [] rfl rfl (by kernel_rfl) (by kernel_rfl) rfl (fun d E w' hk hda hS hc hf => by rintro _ q9 rfl e55 _ q7 ⟨A2, c2, rfl⟩ e53 ; obtain ⟨A3, c3, e14, h2⟩ := hS.2.1 (hk 10 (by kernel_rfl)) (by rw [q7]; simp); rw [q7] at e14; injection e14 with e14; injection e14 with e14a _ e14b; subst e14a e14b; have hG2 := h2.bk (bkX.alloc _) hNE; have y0 := (hG2.cell 39).trans hX1; have y1 := hG2.frozen 39; exact ⟨w'.setCell ⟨g, 39, none⟩ (.slice A2 (kj + 1) c2), by go_simp, rfl, trivial, ⟨fun _ => hAPP _ _ _ h2, fun h => by simp [upd] at h, fun h => by simp [upd] at h, fun h => by simp [upd] at h⟩⟩)) ?_
            exact StepsOk.nil
          case ends =>
            intro σ9 w9 hS9 hA9
            refine Ends.eqv (some 46) (.pointer (some ⟨g, 0, none⟩)) rfl (fun _ h => h) ?_
            refine Ends.eqv (some 47) (.pointer (some ⟨g, 0, none⟩)) rfl (fun _ h => h) ?_
            refine Ends.eqv (some 48) (.pointer (some ⟨g, 0, none⟩)) rfl (fun _ h => h) ?_
            refine Ends.eqv (some 49) (.pointer (some ⟨g, 39, none⟩)) rfl (fun _ h => h) ?_
            refine Ends.eqv (some 50) (.slice B kj cb) rfl (fun _ h => h) ?_
            refine Ends.eqv (some 51) (.agg #[.int .i64 c0, .int .i64 v0, .string d0, .slice A4 0 c4]) rfl (fun _ h => h) ?_
            refine Ends.eqv (some 52) (.slice (some ⟨W8.heap.size, 0, none⟩) 1 1) rfl (fun _ h => h) ?_
            refine Ends.ex (some 53) rfl ?_
            rintro _ p7 ⟨A2, c2, rfl⟩
            refine Ends.eqv (some 54) (.pointer (some ⟨g, 0, none⟩)) rfl (fun _ h => h) ?_
            refine Ends.eqv (some 55) (.pointer (some ⟨g, 39, none⟩)) rfl (fun _ h => h) ?_
            refine Ends.eqv none (undef) rfl (fun _ h => h) ?_
            refine Ends.nil ?_
            have hA9' := hA9
            clear hA9
            simp only [put_lit, put_none, List.set_cons_zero, List.set_cons_succ]
            have hfin := hS9.1 (by have := hA9' 10 (by simp); intro e; rw [e] at this; simp at this)
            clear hS9 hA9'
            rw [hFin] at hfin
            have HFIN := hide hfin
            clear hfin CS hAPP bkX ownX hNE hFin hW8e
            go_wp2_with fail
            go_roundw
            case rel =>
              exact ⟨j + 1, by omega, by go_num, by rw [← Nat.add_assoc, HJ.out]; exact HFIN.out⟩
            case measure => simp [intOf]; omega
      · obtain rfl : j = m := by omega
        have HM := hide hmid
        clear hmid
        go_wp2_with fail
        go_ret
        obtain ⟨cs, B, cb, rs, Fs, hB, hC, hR, hFF, hFr⟩ := HM.out
        rw [← HMM.out] at hB hC hR hFF
        refine ⟨rfl, ⟨fun b => (F b ∨ w.heap.size ≤ b) ∧ b < wr.heap.size, ⟨⟨cs, _, _, rs, gs, Fs, ?_, hC, hR, fun c hc => ⟨hFF c hc, hB.lt hc⟩⟩, HOK.out, ?_, fun c hc => hc.2⟩, fun c hc => hc.1⟩, hFr⟩
        · show LnB wr g cs _ l.qs.length _ _ M rs gs Fs (runS l.quota (l.qs.take M))
          rw [HN.out]
          exact hB
        · show M ≤ l.qs.length
          have := HMM.out
          have := HN.out
          omega

/-- Commit, its outcome named ahead -/
theorem LCom_at (g : Nat) (F : Nat → Prop) (l : LnV) (n : Int) (E : Int) (l' : LnV) (hE : (if (l.k : Int) ≤ n ∧ n ≤ l.qs.length then (0 : Int) else 6) = E) (hl : (if (l.k : Int) ≤ n ∧ n ≤ l.qs.length then l.commit n.toNat else l) = l') (hfew : l.qs.length ≤ 50000) (w : World) (h : LnAt w g F l) :
    Calls Try.prog 17 #[.pointer (some ⟨g, 0, none⟩), .int .i64 n] w fun e w' => e = .returned (.int .i64 E) ∧ (∃ F', LnAt w' g F' l' ∧ ∀ b, F' b → F b ∨ w.heap.size ≤ b) ∧ Fr F w w' := by
  subst hE hl
  by_cases hc : (l.k : Int) ≤ n ∧ n ≤ l.qs.length
  · rw [if_pos hc, if_pos hc]
    obtain ⟨n, rfl⟩ : ∃ m : Nat, n = m := ⟨n.toNat, by omega⟩
    rw [Int.toNat_natCast]
    by_cases he : l.k = n
    · have e1 : l.commit n = l := by rw [← he]; rfl
      rw [e1]
      exact (LCom_none g F l n he w h).mono fun e w' ⟨he, hb⟩ => ⟨he, ⟨F, h.old hb, fun b hb => .inl hb⟩, Fr.of_old hb⟩
    · exact LCom_more g F l l.k (n - l.k) n rfl (by omega) (by omega) (by omega) hfew w h
  · rw [if_neg hc, if_neg hc]
    exact (LCom_no g F l n hc w h).mono fun e w' ⟨he, hb⟩ => ⟨he, ⟨F, hb ▸ h, fun b hb => .inl hb⟩, hb ▸ Fr.refl _ _⟩
end Go.Proofs.Ytmhnlpilbbfgnaa

/- line.Line.Reply, Store. -/
namespace Go.Proofs.Ytmhnlpilbbfgnaa
open Go.RowKit

theorem old_set4 {w W : World} {b : Nat} (h : Old w W) (hb : w.heap.size ≤ b) (u0 u1 u2 u3 : Value) : Old w ((((W.setCell ⟨b, 0, none⟩ u0).setCell ⟨b, 1, none⟩ u1).setCell ⟨b, 2, none⟩ u2).setCell ⟨b, 3, none⟩ u3) :=
  Old.setCell' (p := ⟨b, 3, none⟩) (Old.setCell' (p := ⟨b, 2, none⟩) (Old.setCell' (p := ⟨b, 1, none⟩) (Old.setCell' (p := ⟨b, 0, none⟩) h hb _) hb _) hb _) hb _

set_option maxHeartbeats 400000 in
theorem LRep_nil (n : Int) (w : World) :
    Calls Try.prog 15 #[.pointer none, .int .i64 n] w fun e w' => e = .returned (.tuple #[.agg #[.int .i64 0, .int .i64 0, .string ByteArray.empty, .slice none 0 0], .int .i64 1]) ∧ Old w w' := by
  go_enter Try.func15, Try.ntmps15
  go_wp2
  refine bodyPost_ret (v := .tuple #[.agg #[.int .i64 0, .int .i64 0, .string ByteArray.empty, .slice none 0 0], .int .i64 1]) ?_ rfl ⟨rfl, ?_⟩
  · simp [results, Try.results15, go_sem]
    try rfl
  · exact (Old.refl' w).alloc' _
set_option maxHeartbeats 1000000 in
theorem LRep_no (g : Nat) (F : Nat → Prop) (l : LnV) (n : Int) (hn : ¬ (1 ≤ n ∧ n ≤ l.k)) (w : World) (h : LnAt w g F l) :
    Calls Try.prog 15 #[.pointer (some ⟨g, 0, none⟩), .int .i64 n] w fun e w' => e = .returned (.tuple #[.agg #[.int .i64 0, .int .i64 0, .string ByteArray.empty, .slice none 0 0], .int .i64 6]) ∧ Old w w' := by
  obtain ⟨k, hk⟩ : ∃ k, l.k = k := ⟨_, rfl⟩
  have cK := hide (fun (W : World) (hW : Old w W) => Com_ln g F l k hk W (h.old hW))
  rw [hk] at hn
  clear h hk
  by_cases h1 : n < 1
  · go_enter Try.func15, Try.ntmps15
    go_wp2
    refine bodyPost_ret (v := .tuple #[.agg #[.int .i64 0, .int .i64 0, .string ByteArray.empty, .slice none 0 0], .int .i64 6]) ?_ rfl ⟨rfl, ?_⟩
    · simp [results, Try.results15, go_sem]
      try rfl
    · exact (Old.refl' w).alloc' _
  · have h2 : (k : Int) < n := by omega
    go_enter Try.func15, Try.ntmps15
    go_wp2_with (go_at_call 19; refine (cK.out _ ((Old.refl' w).alloc' _)).mono ?_; rintro e w1 ⟨rfl, rfl⟩)
    refine bodyPost_ret (v := .tuple #[.agg #[.int .i64 0, .int .i64 0, .string ByteArray.empty, .slice none 0 0], .int .i64 6]) ?_ rfl ⟨rfl, ?_⟩
    · simp [results, Try.results15, go_sem]
      try rfl
    · exact (Old.refl' w).alloc' _
set_option maxRecDepth 100000 in
set_option maxHeartbeats 2000000 in
theorem LRep_yes (g : Nat) (F : Nat → Prop) (l : LnV) (j : Nat) (hj : j < l.k) (c0 v0 : Int) (d0 : ByteArray) (h1 : (l.rep j).code = c0) (h2 : (l.rep j).ver = v0) (h3 : (l.rep j).data = d0) (hfew : l.qs.length ≤ 50000) (w : World) (h : LnAt w g F l) :
    Calls Try.prog 15 #[.pointer (some ⟨g, 0, none⟩), .int .i64 ((j : Int) + 1)] w fun e w' => ∃ A c, e = .returned (.tuple #[.agg #[.int .i64 c0, .int .i64 v0, .string d0, .slice A 0 c], .int .i64 0]) ∧ Old w w' := by
  obtain ⟨k, hk⟩ : ∃ k, l.k = k := ⟨_, rfl⟩
  have cK := hide (fun (W : World) (hW : Old w W) => Com_ln g F l k hk W (h.old hW))
  obtain ⟨A, ca, gs, Fs, B, cb, rs, hs⟩ := h.see rfl
  have hgl := hs.gl
  have r0 := hs.r0
  have hrl := hs.rl
  rw [hk] at r0 hrl hj
  have hkl := h.kl
  obtain ⟨y0, y1, y2, A3, c3, y3⟩ := hs.rok j (by rw [hk]; exact hj)
  obtain ⟨bb, o, rfl, hbb, hc⟩ := hs.reps (fun e => by rw [e] at hrl; simp at hrl; omega)
  have x0 := hc _ _ y0
  have x1 := hc _ _ y1
  have x2 := hc _ _ y2
  have x3 := hc _ _ y3
  rw [h1] at x0
  rw [h2] at x1
  rw [h3] at x2
  rw [← Nat.add_assoc] at x1 x2 x3
  have q1 : ¬ ((j : Int) + 1 < 1) := by omega
  have q2 : ¬ ((k : Int) < (j : Int) + 1) := by omega
  have q3 : (j : Int) < k := by omega
  have q4 : (j : Int) + 1 - 1 = j := by omega
  have q5 : (j : Int) ≤ 50000 := by omega
  have cC := hide (fun (W : World) => Clone_ints A3 0 c3 [] (by omega) rfl W (CellsAt.nil _ _))
  have HO := hide (Old.refl' w)
  clear h hs hc y0 y1 y2 y3 h1 h2 h3 hk hrl hkl hj hfew
  go_enter Try.func15, Try.ntmps15
  go_wp2_with (go_at_call 19; refine (cK.out _ ((Old.refl' w).alloc' _)).mono ?_; rintro e w1 ⟨rfl, rfl⟩)
  refine (cC.out _).mono ?_
  rintro e w2 ⟨A4, c4, rfl, -, b4⟩
  obtain ⟨⟨a0, a1, a2, a3⟩, ⟨f0, f1, f2, f3⟩, la⟩ := bk4 (((Bk.new w 32 #[.int .i64 0, .int .i64 0, .string { data := #[] }, .slice none 0 0]).alloc (.cells #[.int .i64 c0, .int .i64 v0, .string d0, .slice A3 0 c3] 32)).old b4)
  obtain ⟨⟨z0, z1, z2, z3⟩, ⟨g0, g1, g2, g3⟩, lz⟩ := bk4 ((bk_new1 w (.cells #[.int .i64 0, .int .i64 0, .string { data := #[] }, .slice none 0 0] 32) 32 #[.int .i64 c0, .int .i64 v0, .string d0, .slice A3 0 c3]).old b4)
  have o4 := hide ((((Old.refl' w).alloc' (.cells #[.int .i64 0, .int .i64 0, .string { data := #[] }, .slice none 0 0] 32)).alloc' (.cells #[.int .i64 c0, .int .i64 v0, .string d0, .slice A3 0 c3] 32)).trans' b4)
  clear b4 cC cK
  go_wp2_with fail
  refine bodyPost_ret (v := .tuple #[.agg #[.int .i64 c0, .int .i64 v0, .string d0, .slice A4 0 c4], .int .i64 0]) ?_ rfl ⟨A4, c4, rfl, ?_⟩
  · simp [results, Try.results15, go_sem, *]
  · exact old_set4 (Old.setCell' (p := ⟨w.heap.size + 1, 3, none⟩) o4.out (Nat.le_succ _) _) (Nat.le_refl _) _ _ _ _

set_option maxHeartbeats 400000 in
theorem LSto_nil (w : World) :
    Calls Try.prog 27 #[.pointer none] w fun e w' => e = .returned (.pointer none) ∧ w = w' := by
  go_enter Try.func27, Try.ntmps27
  go_wp2
  go_ret
  exact ⟨rfl, rfl⟩
set_option maxRecDepth 100000 in
set_option maxHeartbeats 4000000 in
theorem LSto_ln (g : Nat) (F : Nat → Prop) (l : LnV) (hq : 1 ≤ l.quota ∧ l.quota ≤ 100) (hfew : l.qs.length ≤ 50000) (w : World) (h : LnAt w g F l) :
    Calls Try.prog 27 #[.pointer (some ⟨g, 0, none⟩)] w fun e w' => ∃ gs, e = .returned (.pointer (some ⟨gs, 0, none⟩)) ∧ One w w' gs l.st := by
  obtain ⟨N, hN⟩ : ∃ N, l.qs.length = N := ⟨_, rfl⟩
  obtain ⟨k, hk⟩ : ∃ k, l.k = k := ⟨_, rfl⟩
  have hkN : k ≤ N := by have := h.kl; omega
  have cNew := hide (fun W => New_st l.quota hq W)
  have hh := h
  obtain ⟨⟨cs, V, R, rs, gs, Fs, hB, hC, hR, hFF⟩, hok, hkl, hFl⟩ := hh
  rw [hN] at hB hfew
  have hgl := hB.bk.lt
  have q0 : w.cell? ⟨g, 0, none⟩ = some (.int .i64 l.quota) := (hB.bk.cell 0).trans hC.q0
  have HST := hide (show l.st = runS l.quota (l.qs.take k) by unfold LnV.st; rw [hk])
  have hi1 : (k : Int) ≤ N := by omega
  have HOK := hide hok
  have HN := hide hN
  have hrow := hB.row
  obtain ⟨qt, hqt⟩ : ∃ q, l.quota = q := ⟨_, rfl⟩
  rw [hqt] at q0
  have HQT := hide hqt
  rcases hrow.2 with ⟨rfl, h0⟩ | ⟨b, ca, cur, rfl, -, -, hnc, hcm, -, -⟩
  · have hk0 : k = 0 := by omega
    subst h0
    have hL0 := fun (w0 : World) (hw : Old w w0) => hide (fun (W : World) (hW : Old w0 W) => ((((hw.trans' hW).cell (p := ⟨g, 1, none⟩) hgl).trans (hB.bk.cell 1)).trans hC.l0 : W.cell? ⟨g, 1, none⟩ = some (.slice none 0 0)))
    have cK0 := fun (w0 : World) (hw : Old w w0) => hide (fun (W : World) (hW : Old w0 W) => Com_ln g F l k hk W (h.old (hw.trans' hW)))
    have HL0 := hide hL0
    have CK0 := hide cK0
    clear hL0 cK0 hB hC hR hFF h hok hkl hFl hk hN hq hrow hqt
    subst hk0
    go_enter Try.func27, Try.ntmps27
    go_wp2_with (go_at_call 47; refine (HQT.out ▸ cNew.out _).mono ?_; rintro e w0 ⟨rfl, st1, o1⟩)
    have hL := HL0.out w0 o1
    have cK := CK0.out w0 o1
    have l0 := hL.out _ (Old.refl' w0)
    go_wp2_with fail
    refine region_steps (R := pick [eqv (.pointer (some ⟨g, 0, none⟩)), eqv (.pointer (some ⟨g, 0, none⟩)), eqv (.pointer (some ⟨g, 1, none⟩)), eqv (.slice none 0 0), eqv (.pointer (some ⟨g, 0, none⟩)), eqv (.int .i64 0), eqv (.slice none 0 0), eqv (.int .i64 0), eqv (.int .i64 0)]) (S := fun _ w' => Old w0 w') (T := Old) (by kernel_rfl) (by kernel_rfl) (by kernel_rfl) (Stab.pick (Stab.eqv (Stab.eqv (Stab.eqv (Stab.eqv (Stab.eqv (Stab.eqv (Stab.eqv (Stab.eqv (Stab.eqv (Stab.nil))))))))))) ((Old.refl' w0).drew') ?steps ?ends
    case steps =>
      refine StepsOk.cons (stepOk_pure [] [(0, .pointer (some ⟨g, 0, none⟩))] rfl rfl (by kernel_rfl) (by kernel_rfl) rfl Old.refl' (fun _ _ _ h => h) (fun d E w' hk hda hS hc hf => by rintro  e0; exact ⟨_, by go_simp, rfl⟩)) ?_
      refine StepsOk.cons (stepOk_pure [(0, 17)] [] rfl rfl (by kernel_rfl) (by kernel_rfl) rfl Old.refl' (fun _ _ _ h => h) (fun d E w' hk hda hS hc hf => by rintro _ q0 rfl e17 ; exact ⟨_, by go_simp, rfl⟩)) ?_
      refine StepsOk.cons (stepOk_pure [(1, 18)] [] rfl rfl (by kernel_rfl) (by kernel_rfl) rfl Old.refl' (fun _ _ _ h => h) (fun d E w' hk hda hS hc hf => by rintro _ q1 rfl e18 ; exact ⟨_, by go_simp, rfl⟩)) ?_
      refine StepsOk.cons (stepOk_pure [(2, 19)] [] rfl rfl (by kernel_rfl) (by kernel_rfl) rfl Old.refl' (fun _ _ _ h => h) (fun d E w' hk hda hS hc hf => by rintro _ q2 rfl e19 ; obtain t1 := hL.out _ hS; exact ⟨_, by go_simp, rfl⟩)) ?_
      refine StepsOk.cons (stepOk_pure [] [(0, .pointer (some ⟨g, 0, none⟩))] rfl rfl (by kernel_rfl) (by kernel_rfl) rfl Old.refl' (fun _ _ _ h => h) (fun d E w' hk hda hS hc hf => by rintro  e0; exact ⟨_, by go_simp, rfl⟩)) ?_
      refine StepsOk.cons (stepOk_mk [(4, 21)] [] rfl rfl (by kernel_rfl) (by kernel_rfl) rfl ?_) ?_
      · rintro d a w' hk hda hS _ q4 rfl e21 
        first | refine Given.nil (Known.nil ?_) | refine Known.nil ?_
        refine wp_call 19 _ Try.func19 (by kernel_rfl) (by kernel_rfl) _ _ (by rfl) [.pointer (some ⟨g, 0, none⟩)] (by simp only [List.map_cons, List.map_nil, *]; try rfl) (cK.out _ hS) ?_
        rintro e w1 ⟨rfl, rfl⟩
        exact ⟨_, rfl, _, rfl, rfl, Old.refl' _, hS⟩
      refine StepsOk.cons (stepOk_pure [(3, 20), (5, 22)] [] rfl rfl (by kernel_rfl) (by kernel_rfl) rfl Old.refl' (fun _ _ _ h => h) (fun d E w' hk hda hS hc hf => by rintro _ q3 rfl e20 _ q5 rfl e22 ; obtain t1 := hL.out _ hS; exact ⟨_, by go_simp, rfl⟩)) ?_
      refine StepsOk.cons (stepOk_pure [(6, 23)] [] rfl rfl (by kernel_rfl) (by kernel_rfl) rfl Old.refl' (fun _ _ _ h => h) (fun d E w' hk hda hS hc hf => by rintro _ q6 rfl e23 ; exact ⟨_, by go_simp, rfl⟩)) ?_
      refine StepsOk.cons (stepOk_pure [] [] rfl rfl (by kernel_rfl) (by kernel_rfl) rfl Old.refl' (fun _ _ _ h => h) (fun d E w' hk hda hS hc hf => by exact ⟨_, by go_simp, rfl⟩)) ?_
      exact StepsOk.nil
    case ends =>
      intro σ9 w9 hS9 hA9
      refine Ends.eqv (some 17) (.pointer (some ⟨g, 0, none⟩)) rfl (fun _ h => h) ?_
      refine Ends.eqv (some 18) (.pointer (some ⟨g, 0, none⟩)) rfl (fun _ h => h) ?_
      refine Ends.eqv (some 19) (.pointer (some ⟨g, 1, none⟩)) rfl (fun _ h => h) ?_
      refine Ends.eqv (some 20) (.slice none 0 0) rfl (fun _ h => h) ?_
      refine Ends.eqv (some 21) (.pointer (some ⟨g, 0, none⟩)) rfl (fun _ h => h) ?_
      refine Ends.eqv (some 22) (.int .i64 0) rfl (fun _ h => h) ?_
      refine Ends.eqv (some 23) (.slice none 0 0) rfl (fun _ h => h) ?_
      refine Ends.eqv (some 24) (.int .i64 0) rfl (fun _ h => h) ?_
      refine Ends.eqv (some 25) (.int .i64 0) rfl (fun _ h => h) ?_
      refine Ends.nil ?_
      clear hA9
      simp only [put_lit, put_none, List.set_cons_zero, List.set_cons_succ]
      have o9 := hS9
      clear hS9
      have HO := hide (o1.trans' o9)
      have HS := hide (st1.old o9)
      clear o9 l0 st1 o1
      go_wp2_with fail
      refine wp_loop_rounds 1 ?_
      rw [rounds_succ]
      go_wp2
      go_ret
      refine ⟨w.heap.size, rfl, fun c => c = w.heap.size, ?_, fun c hc => Nat.le_of_eq hc.symm, HO.out⟩
      rw [HST.out]
      exact HQT.out ▸ HS.out
  · have hL0 := fun (w0 : World) (hw : Old w w0) => hide (fun (W : World) (hW : Old w0 W) => ((((hw.trans' hW).cell (p := ⟨g, 1, none⟩) hgl).trans (hB.bk.cell 1)).trans hC.l0 : W.cell? ⟨g, 1, none⟩ = some (.slice (some ⟨b, 0, none⟩) N ca)))
    have cK0 := fun (w0 : World) (hw : Old w w0) => hide (fun (W : World) (hW : Old w0 W) => Com_ln g F l k hk W (h.old (hw.trans' hW)))
    have HL0 := hide hL0
    have CK0 := hide cK0
    have hQ : ReqsAt w (some ⟨b, 0, none⟩) l.qs := CellsAt.of_own hrow
    have HQ := hide hQ
    have hi5 : (k : Int) ≤ ca := by omega
    have hca : (N : Int) ≤ ca := by omega
    clear hL0 cK0 hB hC hR hFF h hok hkl hFl hk hN hq hrow hqt hQ
    go_enter Try.func27, Try.ntmps27
    go_wp2_with (go_at_call 47; refine (HQT.out ▸ cNew.out _).mono ?_; rintro e w0 ⟨rfl, st1, o1⟩)
    have hL := HL0.out w0 o1
    have cK := CK0.out w0 o1
    have l0 := hL.out _ (Old.refl' w0)
    have hp : One w w0 w.heap.size (runS l.quota (l.qs.take 0)) := ⟨_, HQT.out ▸ st1, fun c hc => Nat.le_of_eq hc.symm, o1⟩
    obtain ⟨g1, hg1⟩ : ∃ q, w.heap.size = q := ⟨_, rfl⟩
    simp only [hg1] at hp ⊢
    clear st1 o1 hg1
    go_wp2_with fail
    refine region_steps (R := pick [eqv (.pointer (some ⟨g, 0, none⟩)), eqv (.pointer (some ⟨g, 0, none⟩)), eqv (.pointer (some ⟨g, 1, none⟩)), eqv (.slice (some ⟨b, 0, none⟩) N ca), eqv (.pointer (some ⟨g, 0, none⟩)), eqv (.int .i64 k), eqv (.slice (some ⟨b, 0, none⟩) k ca), eqv (.int .i64 k), eqv (.int .i64 0)]) (S := fun _ w' => Old w0 w') (T := Old) (by kernel_rfl) (by kernel_rfl) (by kernel_rfl) (Stab.pick (Stab.eqv (Stab.eqv (Stab.eqv (Stab.eqv (Stab.eqv (Stab.eqv (Stab.eqv (Stab.eqv (Stab.eqv (Stab.nil))))))))))) ((Old.refl' w0).drew') ?steps ?ends
    case steps =>
      refine StepsOk.cons (stepOk_pure [] [(0, .pointer (some ⟨g, 0, none⟩))] rfl rfl (by kernel_rfl) (by kernel_rfl) rfl Old.refl' (fun _ _ _ h => h) (fun d E w' hk hda hS hc hf => by rintro  e0; exact ⟨_, by go_simp, rfl⟩)) ?_
      refine StepsOk.cons (stepOk_pure [(0, 17)] [] rfl rfl (by kernel_rfl) (by kernel_rfl) rfl Old.refl' (fun _ _ _ h => h) (fun d E w' hk hda hS hc hf => by rintro _ q0 rfl e17 ; exact ⟨_, by go_simp, rfl⟩)) ?_
      refine StepsOk.cons (stepOk_pure [(1, 18)] [] rfl rfl (by kernel_rfl) (by kernel_rfl) rfl Old.refl' (fun _ _ _ h => h) (fun d E w' hk hda hS hc hf => by rintro _ q1 rfl e18 ; exact ⟨_, by go_simp, rfl⟩)) ?_
      refine StepsOk.cons (stepOk_pure [(2, 19)] [] rfl rfl (by kernel_rfl) (by kernel_rfl) rfl Old.refl' (fun _ _ _ h => h) (fun d E w' hk hda hS hc hf => by rintro _ q2 rfl e19 ; obtain t1 := hL.out _ hS; exact ⟨_, by go_simp, rfl⟩)) ?_
      refine StepsOk.cons (stepOk_pure [] [(0, .pointer (some ⟨g, 0, none⟩))] rfl rfl (by kernel_rfl) (by kernel_rfl) rfl Old.refl' (fun _ _ _ h => h) (fun d E w' hk hda hS hc hf => by rintro  e0; exact ⟨_, by go_simp, rfl⟩)) ?_
      refine StepsOk.cons (stepOk_mk [(4, 21)] [] rfl rfl (by kernel_rfl) (by kernel_rfl) rfl ?_) ?_
      · rintro d a w' hk hda hS _ q4 rfl e21 
        first | refine Given.nil (Known.nil ?_) | refine Known.nil ?_
        refine wp_call 19 _ Try.func19 (by kernel_rfl) (by kernel_rfl) _ _ (by rfl) [.pointer (some ⟨g, 0, none⟩)] (by simp only [List.map_cons, List.map_nil, *]; try rfl) (cK.out _ hS) ?_
        rintro e w1 ⟨rfl, rfl⟩
        exact ⟨_, rfl, _, rfl, rfl, Old.refl' _, hS⟩
      refine StepsOk.cons (stepOk_pure [(3, 20), (5, 22)] [] rfl rfl (by kernel_rfl) (by kernel_rfl) rfl Old.refl' (fun _ _ _ h => h) (fun d E w' hk hda hS hc hf => by rintro _ q3 rfl e20 _ q5 rfl e22 ; obtain t1 := hL.out _ hS; exact ⟨_, by go_simp, rfl⟩)) ?_
      refine StepsOk.cons (stepOk_pure [(6, 23)] [] rfl rfl (by kernel_rfl) (by kernel_rfl) rfl Old.refl' (fun _ _ _ h => h) (fun d E w' hk hda hS hc hf => by rintro _ q6 rfl e23 ; exact ⟨_, by go_simp, rfl⟩)) ?_
      refine StepsOk.cons (stepOk_pure [] [] rfl rfl (by kernel_rfl) (by kernel_rfl) rfl Old.refl' (fun _ _ _ h => h) (fun d E w' hk hda hS hc hf => by exact ⟨_, by go_simp, rfl⟩)) ?_
      exact StepsOk.nil
    case ends =>
      intro σ9 w9 hS9 hA9
      refine Ends.eqv (some 17) (.pointer (some ⟨g, 0, none⟩)) rfl (fun _ h => h) ?_
      refine Ends.eqv (some 18) (.pointer (some ⟨g, 0, none⟩)) rfl (fun _ h => h) ?_
      refine Ends.eqv (some 19) (.pointer (some ⟨g, 1, none⟩)) rfl (fun _ h => h) ?_
      refine Ends.eqv (some 20) (.slice (some ⟨b, 0, none⟩) N ca) rfl (fun _ h => h) ?_
      refine Ends.eqv (some 21) (.pointer (some ⟨g, 0, none⟩)) rfl (fun _ h => h) ?_
      refine Ends.eqv (some 22) (.int .i64 k) rfl (fun _ h => h) ?_
      refine Ends.eqv (some 23) (.slice (some ⟨b, 0, none⟩) k ca) rfl (fun _ h => h) ?_
      refine Ends.eqv (some 24) (.int .i64 k) rfl (fun _ h => h) ?_
      refine Ends.eqv (some 25) (.int .i64 0) rfl (fun _ h => h) ?_
      refine Ends.nil ?_
      clear hA9
      simp only [put_lit, put_none, List.set_cons_zero, List.set_cons_succ]
      have o9 := hS9
      clear hS9
      have hp9 := hp.old o9
      clear hp o9 l0 hL cK
      go_wp2_with fail
      go_loopw [25] (fun iv wr => ∃ j : Nat, j ≤ k ∧ iv = .int .i64 j ∧ One w wr g1 (runS l.quota (l.qs.take j))) (fun iv _ => k - (intOf iv).toNat)
      case atStart => exact ⟨0, Nat.zero_le _, rfl, hp9⟩
      case round =>
        clear hp9
        obtain ⟨j, hj, rfl, pr⟩ := hrel
        by_cases hlt : j < k
        · have hkq : j < l.qs.length := by have := HN.out; omega
          obtain ⟨b', o', e', hb', hc⟩ := HQ.out.at5 (k := j) hkq
          cases e'
          obtain ⟨x, hx⟩ : ∃ x, l.qs[j]?.getD default = x := ⟨_, rfl⟩
          rw [hx] at hc
          simp only [Nat.zero_add] at hc
          have hxx : l.qs[j] = x := by rw [List.getElem?_eq_getElem hkq] at hx; simpa using hx
          have HTK := hide (show runS l.quota (l.qs.take (j + 1)) = (runS l.quota (l.qs.take j)).put x.q by rw [List.take_succ_eq_append_getElem hkq, hxx, runS_snoc])
          have hsn := (runS_of_ok l.quota HOK.out j (by omega)).1
          obtain ⟨s0, hs0⟩ : ∃ s, runS l.quota (l.qs.take j) = s := ⟨_, rfl⟩
          rw [hs0] at pr hsn
          have HS0 := hide hs0
          obtain ⟨c0, hc0⟩ : ∃ c, (s0.rep x.q).code = c := ⟨_, rfl⟩
          obtain ⟨v0, hv0⟩ : ∃ c, (s0.rep x.q).ver = c := ⟨_, rfl⟩
          obtain ⟨d0, hd0⟩ : ∃ c, (s0.rep x.q).data = c := ⟨_, rfl⟩
          obtain ⟨E, hE⟩ : ∃ c, s0.err x.q = c := ⟨_, rfl⟩
          obtain ⟨s1, hs1⟩ : ∃ c, s0.put x.q = c := ⟨_, rfl⟩
          have HS1 := hide hs1
          have c1 := hide (fun (W : World) (hW : Old wr W) => (pr.old hW).put x c0 v0 E d0 s1 hc0 hv0 hd0 hE hs1 (by omega))
          have hW := pr.o
          have x0 : wr.cell? ⟨b, j * 6, none⟩ = some (.int .i64 x.client) := (hW.cell (p := ⟨b, j * 6, none⟩) hb').trans (hc 0 _ (by omega) rfl)
          have x1 := (hW.cell (p := ⟨b, j * 6 + 1, none⟩) hb').trans (hc 1 _ (by omega) rfl)
          have x2 := (hW.cell (p := ⟨b, j * 6 + 2, none⟩) hb').trans (hc 2 _ (by omega) rfl)
          have x3 := (hW.cell (p := ⟨b, j * 6 + 3, none⟩) hb').trans (hc 3 _ (by omega) rfl)
          have x4 := (hW.cell (p := ⟨b, j * 6 + 4, none⟩) hb').trans (hc 4 _ (by omega) rfl)
          have x5 := (hW.cell (p := ⟨b, j * 6 + 5, none⟩) hb').trans (hc 5 _ (by omega) rfl)
          clear hx hxx hs0 hs1 hc0 hv0 hd0 hE hc hW
          go_wp2_with fail
          refine (c1.out _ ((Old.refl' wr).alloc' _)).mono ?_
          rintro e w4 ⟨⟨A4, c4, rfl⟩, pr4⟩
          have hfin := hide pr4
          clear x0 x1 x2 x3 x4 x5 pr4 pr
          go_wp2_with fail
          go_roundw
          case rel => exact ⟨j + 1, by omega, by go_num, by rw [HTK.out, HS0.out, HS1.out]; exact hfin.out⟩
          case measure => simp [intOf]; omega
        · obtain rfl : j = k := by omega
          have HP := hide pr
          clear pr
          go_wp2_with fail
          go_ret
          exact ⟨g1, rfl, HST.out ▸ HP.out⟩
end Go.Proofs.Ytmhnlpilbbfgnaa
