/- A store's block, written piece by piece. -/
import Derived.Test.YtcbnibldlbnkbaaSt4
namespace Go.Proofs.Ytcbnibldlbnkbaa
open Go.RowKit

structure StB (w : World) (g : Nat) (F : Nat → Prop) (quota : Int) (n : Nat) (f : Int → List Ver) (ss : Int → Sess) : Prop where
  q0 : w.cell? ⟨g, 0, none⟩ = some (.int .i64 quota)
  n0 : w.cell? ⟨g, 1, none⟩ = some (.int .i64 n)
  tab : VTab w g 2 F f
  ses : ∀ c : Nat, c < 4 → SesAt w g (4 + c * 6) (ss c)
  fz : ∀ o, w.frozen? ⟨g, o, none⟩ = false
  lt : ∀ k, F k → k < w.heap.size
  gF : F g

theorem StAt.b {w : World} {g : Nat} {F : Nat → Prop} {s : StV} (h : StAt w g F s) : StB w g F s.quota s.n s.f s.ss := ⟨h.q0, h.n0, h.tab, h.ses, h.fz, h.lt, h.gF⟩
theorem StB.a {w : World} {g : Nat} {F : Nat → Prop} {s : StV} (h : StB w g F s.quota s.n s.f s.ss) (few : ∀ k, (s.f k).length ≤ s.n) (off : ∀ k, ¬ (0 ≤ k ∧ k ≤ 31) → s.f k = []) : StAt w g F s :=
  ⟨h.q0, h.n0, h.tab, h.ses, h.fz, h.lt, h.gF, few, off⟩

theorem cell_set_ne {w : World} {g i j : Nat} (u : Value) (h : i ≠ j) : (w.setCell ⟨g, j, none⟩ u).cell? ⟨g, i, none⟩ = w.cell? ⟨g, i, none⟩ := World.cell?_setCell_other _ _ _ _ (by intro e; injection e; omega)
theorem cell_set_eq {w : World} {g j : Nat} (u : Value) {v : Value} (h : w.cell? ⟨g, j, none⟩ = some v) : (w.setCell ⟨g, j, none⟩ u).cell? ⟨g, j, none⟩ = some u := by simp [go_sem, h]
theorem size_set {w : World} {p : Addr} (u : Value) : (w.setCell p u).heap.size = w.heap.size := by simp [World.setCell]

theorem VTab.set_ {w : World} {g o : Nat} {F : Nat → Prop} {f : Int → List Ver} (h : VTab w g o F f) {j : Nat} (h1 : o ≠ j) (h2 : o + 1 ≠ j) (u : Value) : VTab (w.setCell ⟨g, j, none⟩ u) g o F f := by
  obtain ⟨A, ck, B, cv, vs, ht, hF, hr⟩ := h.ex
  have hf : Fr (fun k => k = g) w (w.setCell ⟨g, j, none⟩ u) := Fr.setCell (S := fun k => k = g) (p := ⟨g, j, none⟩) (Fr.of_old (Old.refl' w)) (.inr rfl) u
  refine ⟨A, ck, B, cv, vs, ⟨(cell_set_ne u h1).trans ht.k0, (cell_set_ne u h2).trans ht.v0, by rw [World.frozen?_setCell]; exact ht.fk, by rw [World.frozen?_setCell]; exact ht.fv, own_fr ht.ko hf (fun k hk e => ht.kg (by rw [hk, e])), own_fr ht.vo hf (fun k hk e => ht.vg (by rw [hk, e])), ht.one, ht.ne, ht.kg, ht.vg, ht.low, by rw [size_set]; exact ht.lt, ht.rise⟩, hF, fun i k v hk hv => ?_⟩
  obtain ⟨A1, c1, rfl, hV, hc, ho⟩ := hr i k v hk hv
  refine ⟨A1, c1, rfl, CellsAt.fr hV hf (fun hn a ha e => ?_), hc, ho⟩
  have hl : f k ≠ [] := fun e => hn (by rw [e]; rfl)
  exact (ho hl a ha).2 (.inl e)

section
variable {w w' : World} {g : Nat} {F F' S : Nat → Prop} {quota : Int} {n : Nat} {f f' : Int → List Ver} {ss : Int → Sess}
theorem StB.fr (h : StB w g F quota n f ss) (hf : Fr S w w') (hS : ∀ k, F k → ¬ S k) : StB w' g F quota n f ss := by
  have hg := h.lt g h.gF
  have hc : ∀ j, w'.cell? ⟨g, j, none⟩ = w.cell? ⟨g, j, none⟩ := fun j => hf.cell (p := ⟨g, j, none⟩) hg (hS g h.gF)
  exact ⟨(hc _).trans h.q0, (hc _).trans h.n0, h.tab.fr hf hS, fun c hcc => (h.ses c hcc).fr hg hf (hS g h.gF), fun j => (hf.frozen (p := ⟨g, j, none⟩) hg (hS g h.gF)).trans (h.fz j), fun k hk => Nat.lt_of_lt_of_le (h.lt k hk) hf.size, h.gF⟩
theorem StB.old (h : StB w g F quota n f ss) (hf : Old w w') : StB w' g F quota n f ss := h.fr (S := fun _ => False) (Fr.of_old hf) (fun _ _ h => h)
theorem StB.drew (h : StB w g F quota n f ss) : StB w.drew g F quota n f ss := h.old ((Old.refl' w).drew')
theorem SesAt.move {o : Nat} {x : Sess} (h : SesAt w g o x) (hc : ∀ i, i < 6 → w'.cell? ⟨g, o + i, none⟩ = w.cell? ⟨g, o + i, none⟩) : SesAt w' g o x := by
  obtain ⟨s0, s1, s2, s3, s4, s5, A, cc, s6⟩ := h
  exact ⟨(hc 0 (by omega)).trans s0, (hc 1 (by omega)).trans s1, (hc 2 (by omega)).trans s2, (hc 3 (by omega)).trans s3, (hc 4 (by omega)).trans s4, s5, A, cc, (hc 5 (by omega)).trans s6⟩
/-- the table has turned, what lies beside it has not -/
theorem StB.keep (h : StB w g F quota n f ss) (hk : Keeps g 2 w w') (ht : VTab w' g 2 F' f') (hlt : ∀ k, F' k → k < w'.heap.size) (hg : F' g) : StB w' g F' quota n f' ss := by
  have hc : ∀ j, j ≠ 2 → j ≠ 3 → w'.cell? ⟨g, j, none⟩ = w.cell? ⟨g, j, none⟩ := fun j h1 h2 => (hk j h1 h2).1
  have hz : ∀ j, j ≠ 2 → j ≠ 3 → w'.frozen? ⟨g, j, none⟩ = w.frozen? ⟨g, j, none⟩ := fun j h1 h2 => (hk j h1 h2).2
  obtain ⟨A, ck, B, cv, vs, ha, -, -⟩ := ht.ex
  refine ⟨(hc _ (by omega) (by omega)).trans h.q0, (hc _ (by omega) (by omega)).trans h.n0, ht, fun c hcc => ?_, fun j => ?_, hlt, hg⟩
  · exact (h.ses c hcc).move fun i hi => hc _ (by omega) (by omega)
  · by_cases h2 : j = 2
    · subst h2; exact ha.fk
    · by_cases h3 : j = 3
      · subst h3; exact ha.fv
      · exact (hz j h2 h3).trans (h.fz j)
theorem StB.setN (h : StB w g F quota n f ss) (m : Nat) (v : Int) (hv : v = m) : StB (w.setCell ⟨g, 1, none⟩ (.int .i64 v)) g F quota m f ss := by
  subst hv
  have hc : ∀ j, j ≠ 1 → (w.setCell ⟨g, 1, none⟩ (.int .i64 m)).cell? ⟨g, j, none⟩ = w.cell? ⟨g, j, none⟩ := fun j h1 => cell_set_ne _ h1
  refine ⟨(hc _ (by omega)).trans h.q0, cell_set_eq _ h.n0, h.tab.set_ (by omega) (by omega) _, fun c hcc => ?_, fun j => by rw [World.frozen?_setCell]; exact h.fz j, fun k hk => by rw [size_set]; exact h.lt k hk, h.gF⟩
  exact (h.ses c hcc).move fun i hi => hc _ (by omega)
theorem Bk.set4 {b : Nat} {t : TypeId} {a0 a1 a2 a3 b0 b1 b2 b3 : Value} (h : Bk w b t #[a0, a1, a2, a3]) : Bk ((((w.setCell ⟨b, 0, none⟩ b0).setCell ⟨b, 1, none⟩ b1).setCell ⟨b, 2, none⟩ b2).setCell ⟨b, 3, none⟩ b3) b t #[b0, b1, b2, b3] := by
  have := (((h.set_ 0 b0).set_ 1 b1).set_ 2 b2).set_ 3 b3
  simpa using this
/-- a session's six cells -/
def setSes (w : World) (g o : Nat) (x : Sess) (A : Option Addr) (c : Nat) : World :=
  (((((w.setCell ⟨g, o, none⟩ (.int .i64 x.seq)).setCell ⟨g, o + 1, none⟩ (.int .i64 x.place)).setCell ⟨g, o + 2, none⟩ (.int .i64 x.rep.code)).setCell ⟨g, o + 3, none⟩ (.int .i64 x.rep.ver)).setCell ⟨g, o + 4, none⟩ (.string x.rep.data)).setCell ⟨g, o + 5, none⟩ (.slice A 0 c)
theorem setSes_other {o j : Nat} {x : Sess} {A : Option Addr} {c : Nat} (h : j < o ∨ o + 5 < j) : (setSes w g o x A c).cell? ⟨g, j, none⟩ = w.cell? ⟨g, j, none⟩ := by
  unfold setSes
  rw [cell_set_ne _ (by omega), cell_set_ne _ (by omega), cell_set_ne _ (by omega), cell_set_ne _ (by omega), cell_set_ne _ (by omega), cell_set_ne _ (by omega)]
theorem setSes_fz {o : Nat} {x : Sess} {A : Option Addr} {c : Nat} (p : Addr) : (setSes w g o x A c).frozen? p = w.frozen? p := by
  unfold setSes
  simp only [World.frozen?_setCell]
theorem setSes_size {o : Nat} {x : Sess} {A : Option Addr} {c : Nat} : (setSes w g o x A c).heap.size = w.heap.size := by
  unfold setSes
  simp only [size_set]
theorem setSes_fr {o : Nat} {x : Sess} {A : Option Addr} {c : Nat} : Fr (fun k => k = g) w (setSes w g o x A c) := by
  unfold setSes
  have st : ∀ {W : World} (j : Nat) (u : Value), Fr (fun k => k = g) w W → Fr (fun k => k = g) w (W.setCell ⟨g, j, none⟩ u) := fun j u h => Fr.setCell (p := ⟨g, j, none⟩) h (.inr rfl) u
  exact st _ _ (st _ _ (st _ _ (st _ _ (st _ _ (st _ _ (Fr.refl _ w))))))
theorem setSes_at {o : Nat} {x y : Sess} {A : Option Addr} {c : Nat} (h : SesAt w g o y) (hv : x.rep.vs = []) : SesAt (setSes w g o x A c) g o x := by
  obtain ⟨s0, s1, s2, s3, s4, s5, A', c', s6⟩ := h
  unfold setSes
  refine ⟨?_, ?_, ?_, ?_, ?_, hv, A, c, ?_⟩
  · rw [cell_set_ne _ (by omega), cell_set_ne _ (by omega), cell_set_ne _ (by omega), cell_set_ne _ (by omega), cell_set_ne _ (by omega)]; exact cell_set_eq _ s0
  · rw [cell_set_ne _ (by omega), cell_set_ne _ (by omega), cell_set_ne _ (by omega), cell_set_ne _ (by omega)]; exact cell_set_eq _ ((cell_set_ne _ (by omega)).trans s1)
  · rw [cell_set_ne _ (by omega), cell_set_ne _ (by omega), cell_set_ne _ (by omega)]; exact cell_set_eq _ ((cell_set_ne _ (by omega)).trans ((cell_set_ne _ (by omega)).trans s2))
  · rw [cell_set_ne _ (by omega), cell_set_ne _ (by omega)]; exact cell_set_eq _ ((cell_set_ne _ (by omega)).trans ((cell_set_ne _ (by omega)).trans ((cell_set_ne _ (by omega)).trans s3)))
  · rw [cell_set_ne _ (by omega)]; exact cell_set_eq _ ((cell_set_ne _ (by omega)).trans ((cell_set_ne _ (by omega)).trans ((cell_set_ne _ (by omega)).trans ((cell_set_ne _ (by omega)).trans s4))))
  · exact cell_set_eq _ ((cell_set_ne _ (by omega)).trans ((cell_set_ne _ (by omega)).trans ((cell_set_ne _ (by omega)).trans ((cell_set_ne _ (by omega)).trans ((cell_set_ne _ (by omega)).trans s6)))))
theorem setSes_tab {o : Nat} {x : Sess} {A : Option Addr} {c : Nat} (h : VTab w g 2 F f) (ho : 4 ≤ o) : VTab (setSes w g o x A c) g 2 F f := by
  unfold setSes
  exact (((((h.set_ (by omega) (by omega) _).set_ (by omega) (by omega) _).set_ (by omega) (by omega) _).set_ (by omega) (by omega) _).set_ (by omega) (by omega) _).set_ (by omega) (by omega) _
theorem StB.setS (h : StB w g F quota n f ss) {c : Nat} (hc : c < 4) (x : Sess) (hv : x.rep.vs = []) (A : Option Addr) (cc : Nat) : StB (setSes w g (4 + c * 6) x A cc) g F quota n f (fun k => if k = (c : Int) then x else ss k) := by
  refine ⟨(setSes_other (by omega)).trans h.q0, (setSes_other (by omega)).trans h.n0, setSes_tab h.tab (by omega), fun c' hc' => ?_, fun j => by rw [setSes_fz]; exact h.fz j, fun k hk => by rw [setSes_size]; exact h.lt k hk, h.gF⟩
  by_cases e : c' = c
  · subst e
    simp only [if_true]
    exact setSes_at (h.ses c' hc') hv
  · have e' : ¬ (c' : Int) = (c : Int) := by omega
    simp only [if_neg e']
    exact (h.ses c' hc').move fun i hi => setSes_other (by omega)
end
/-- behind chart.Do and the box of its reply -/
def AfterDo (w WB w' : World) (nL : Nat) (L : List Ver) (R : Rep) (v6 v8 : Value) : Prop :=
  ∃ A1 c1 b8 A2 c2, v6 = .slice A1 nL c1 ∧ v8 = .pointer (some ⟨b8, 0, none⟩) ∧ Old WB w' ∧ Vers w' A1 L ∧ (∀ a, A1 = some a → w.heap.size + 2 ≤ a.block) ∧ nL ≤ c1 ∧
    Bk w' b8 32 #[.int .i64 R.code, .int .i64 R.ver, .string R.data, .slice A2 0 c2] ∧ w.heap.size + 2 ≤ b8 ∧ (L ≠ [] → ∀ a, A1 = some a → a.block ≠ b8)
/-- behind the table's Put -/
def AfterPut (w w' : World) (g b8 : Nat) (F : Nat → Prop) (quota : Int) (n : Nat) (f : Int → List Ver) (ss : Int → Sess) (qc : Array Value) (rc : Array Value) : Prop :=
  ∃ F1, StB w' g F1 quota n f ss ∧ (∀ k, F1 k → F k ∨ w.heap.size ≤ k) ∧ Fr F w w' ∧ Bk w' w.heap.size 36 qc ∧ Bk w' (w.heap.size + 1) 32 #[.int .i64 0, .int .i64 0, .string ByteArray.empty, .slice none 0 0] ∧ Bk w' b8 32 rc ∧
    ¬ F1 w.heap.size ∧ ¬ F1 (w.heap.size + 1) ∧ ¬ F1 b8
theorem vers_len {w : World} {A : Option Addr} {L : List Ver} (h : Vers w A L) (hL : L ≠ []) : ∀ a, A = some a → a.block < w.heap.size := fun a ha => by
  obtain ⟨b, o, e, hb, _⟩ := h (by
    intro e
    have := verCells_length L
    rw [e] at this
    cases L with
    | nil => exact hL rfl
    | cons x l => simp at this)
  rw [ha] at e
  injection e with e
  subst e
  exact hb
end Go.Proofs.Ytcbnibldlbnkbaa
