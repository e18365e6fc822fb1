/- The document's store: its block; what stays of it, what stores into it make. -/
import Derived.Test.YtcbnibldlbnkbaaRDoA
import Derived.Test.YtcbnibldlbnkbaaStB
namespace Go.Proofs.Ytcbnibldlbnkbaa
open Go.RowKit

structure SD (w : World) (g : Nat) (F : Nat → Prop) (quota : Int) (n : Nat) (f : Int → List Ver) (sq : Int → Int) (pl : Int → Nat) (rp : Int → Rep) : Prop where
  q0 : w.cell? ⟨g, 0, none⟩ = some (.int .i64 quota)
  n0 : w.cell? ⟨g, 1, none⟩ = some (.int .i64 n)
  fm : ∀ i : Nat, i < 32 → ∃ A c, w.cell? ⟨g, 2 + i, none⟩ = some (.slice A (f i).length c) ∧ Vers w A (f i) ∧ (f i ≠ [] → ∀ a, A = some a → F a.block ∧ a.block ≠ g)
  sqs : ∀ c : Nat, c < 4 → w.cell? ⟨g, 34 + c, none⟩ = some (.int .i64 (sq c))
  pls : ∀ c : Nat, c < 4 → w.cell? ⟨g, 38 + c, none⟩ = some (.int .i64 (pl c))
  rps : ∀ c : Nat, c < 4 → (rp c).vs = [] ∧ w.cell? ⟨g, 42 + c * 4, none⟩ = some (.int .i64 (rp c).code) ∧ w.cell? ⟨g, 42 + c * 4 + 1, none⟩ = some (.int .i64 (rp c).ver) ∧ w.cell? ⟨g, 42 + c * 4 + 2, none⟩ = some (.string (rp c).data) ∧ ∃ A k, w.cell? ⟨g, 42 + c * 4 + 3, none⟩ = some (.slice A 0 k)
  fz : ∀ o, w.frozen? ⟨g, o, none⟩ = false
  lt : ∀ k, F k → k < w.heap.size
  gF : F g

def SDAt (w : World) (g : Nat) (F : Nat → Prop) (s : StV) : Prop :=
  SD w g F s.quota s.n s.f (fun c => (s.ss c).seq) (fun c => (s.ss c).place) (fun c => (s.ss c).rep) ∧ (∀ k, (s.f k).length ≤ s.n) ∧ (∀ k, ¬ (0 ≤ k ∧ k ≤ 31) → s.f k = [])

section
variable {w w' : World} {g : Nat} {F S : Nat → Prop} {quota : Int} {n : Nat} {f : Int → List Ver} {sq : Int → Int} {pl : Int → Nat} {rp : Int → Rep}
theorem vers_ne {vs : List Ver} (h : verCells vs ≠ []) : vs ≠ [] := fun e => h (by rw [e]; rfl)
theorem SD.fr (h : SD w g F quota n f sq pl rp) (hf : Fr S w w') (hS : ∀ k, F k → ¬ S k) : SD w' g F quota n f sq pl rp := by
  have hg := h.lt g h.gF
  have hc : ∀ o, w'.cell? ⟨g, o, none⟩ = w.cell? ⟨g, o, none⟩ := fun o => hf.cell (p := ⟨g, o, none⟩) hg (hS g h.gF)
  refine ⟨(hc 0).trans h.q0, (hc 1).trans h.n0, fun i hi => ?_, fun c h4 => (hc _).trans (h.sqs c h4), fun c h4 => (hc _).trans (h.pls c h4), fun c h4 => ?_, fun o => ?_, fun k hk => Nat.lt_of_lt_of_le (h.lt k hk) hf.size, h.gF⟩
  · obtain ⟨A, c, h1, h2, h3⟩ := h.fm i hi
    exact ⟨A, c, (hc _).trans h1, CellsAt.fr h2 hf (fun hne a ha => hS _ (h3 (vers_ne hne) a ha).1), h3⟩
  · obtain ⟨h0, h1, h2, h3, A, k, h5⟩ := h.rps c h4
    exact ⟨h0, (hc _).trans h1, (hc _).trans h2, (hc _).trans h3, A, k, (hc _).trans h5⟩
  · exact (hf.frozen (p := ⟨g, o, none⟩) hg (hS g h.gF)).trans (h.fz o)
theorem SD.old (h : SD w g F quota n f sq pl rp) (hf : Old w w') : SD w' g F quota n f sq pl rp := h.fr (S := fun _ => False) (Fr.of_old hf) (fun _ _ h => h)
theorem SD.drew (h : SD w g F quota n f sq pl rp) : SD w.drew g F quota n f sq pl rp := h.old ((Old.refl' w).drew')
theorem SDAt.old {s : StV} (h : SDAt w g F s) (hf : Old w w') : SDAt w' g F s := ⟨h.1.old hf, h.2⟩
theorem SDAt.fr {s : StV} (h : SDAt w g F s) (hf : Fr S w w') (hS : ∀ k, F k → ¬ S k) : SDAt w' g F s := ⟨h.1.fr hf hS, h.2⟩

theorem SD.setF (h : SD w g F quota n f sq pl rp) {i : Nat} (hi : i < 32) {A : Option Addr} {c nL : Nat} {L : List Ver} (hV : Vers w A L) (hn : L.length = nL) (hA : L ≠ [] → ∀ a, A = some a → a.block ≠ g) :
    SD (w.setCell ⟨g, 2 + i, none⟩ (.slice A nL c)) g (fun k => F k ∨ (L ≠ [] ∧ ∃ a, A = some a ∧ k = a.block)) quota n (fun k => if k = (i : Int) then L else f k) sq pl rp := by
  subst hn
  have hc : ∀ j, j ≠ 2 + i → (w.setCell ⟨g, 2 + i, none⟩ (.slice A L.length c)).cell? ⟨g, j, none⟩ = w.cell? ⟨g, j, none⟩ := fun j hj => cell_set_ne _ hj
  refine ⟨(hc 0 (by omega)).trans h.q0, (hc 1 (by omega)).trans h.n0, fun j hj => ?_, fun c h4 => (hc _ (by omega)).trans (h.sqs c h4), fun c h4 => (hc _ (by omega)).trans (h.pls c h4), fun c h4 => ?_, fun o => ?_, fun k hk => ?_, .inl h.gF⟩
  · by_cases hji : j = i
    · subst hji
      simp only [if_pos]
      obtain ⟨A0, c0, h1, -, -⟩ := h.fm j hj
      exact ⟨A, c, cell_set_eq _ h1, CellsAt.fr (S := fun k => k = g) hV ((Fr.refl (fun k => k = g) w).setCell (p := ⟨g, 2 + j, none⟩) (.inr rfl) _) (fun hne a ha => hA (vers_ne hne) a ha), fun hne a ha => ⟨.inr ⟨hne, a, ha, rfl⟩, hA hne a ha⟩⟩
    · have hji' : ¬ (j : Int) = (i : Int) := by omega
      simp only [if_neg hji']
      obtain ⟨A0, c0, h1, h2, h3⟩ := h.fm j hj
      exact ⟨A0, c0, (hc _ (by omega)).trans h1, CellsAt.fr (S := fun k => k = g) h2 ((Fr.refl (fun k => k = g) w).setCell (p := ⟨g, 2 + i, none⟩) (.inr rfl) _) (fun hne a ha => (h3 (vers_ne hne) a ha).2), fun hne a ha => ⟨.inl (h3 hne a ha).1, (h3 hne a ha).2⟩⟩
  · obtain ⟨h0, h1, h2, h3, A, k, h5⟩ := h.rps c h4
    exact ⟨h0, (hc _ (by omega)).trans h1, (hc _ (by omega)).trans h2, (hc _ (by omega)).trans h3, A, k, (hc _ (by omega)).trans h5⟩
  · simpa [go_sem] using h.fz o
  · rw [size_set]
    rcases hk with hk | ⟨hne, a, ha, rfl⟩
    · exact h.lt k hk
    · exact vers_len hV hne a ha
/-- other cells of its own, not the forms -/
theorem SD.keepF (h : SD w g F quota n f sq pl rp) {j : Nat} (hj : j < 2 ∨ 34 ≤ j) (u : Value) : ∀ i : Nat, i < 32 → ∃ A c, (w.setCell ⟨g, j, none⟩ u).cell? ⟨g, 2 + i, none⟩ = some (.slice A (f i).length c) ∧ Vers (w.setCell ⟨g, j, none⟩ u) A (f i) ∧ (f i ≠ [] → ∀ a, A = some a → F a.block ∧ a.block ≠ g) := fun i hi => by
  obtain ⟨A0, c0, h1, h2, h3⟩ := h.fm i hi
  exact ⟨A0, c0, (cell_set_ne _ (by omega)).trans h1, CellsAt.fr (S := fun k => k = g) h2 ((Fr.refl (fun k => k = g) w).setCell (p := ⟨g, j, none⟩) (.inr rfl) _) (fun hne a ha => (h3 (vers_ne hne) a ha).2), h3⟩
theorem SD.setN (h : SD w g F quota n f sq pl rp) (m : Nat) (v : Int) (hv : v = m) : SD (w.setCell ⟨g, 1, none⟩ (.int .i64 v)) g F quota m f sq pl rp := by
  subst hv
  have hc : ∀ (v : Value) j, j ≠ 1 → (w.setCell ⟨g, 1, none⟩ v).cell? ⟨g, j, none⟩ = w.cell? ⟨g, j, none⟩ := fun v j hj => cell_set_ne _ hj
  refine ⟨(hc _ 0 (by omega)).trans h.q0, cell_set_eq _ h.n0, h.keepF (.inl (by omega)) _, fun c h4 => (hc _ _ (by omega)).trans (h.sqs c h4), fun c h4 => (hc _ _ (by omega)).trans (h.pls c h4), fun c h4 => ?_, fun o => by simpa [go_sem] using h.fz o, fun k hk => by rw [size_set]; exact h.lt k hk, h.gF⟩
  obtain ⟨h0, h1, h2, h3, A, k, h5⟩ := h.rps c h4
  exact ⟨h0, (hc _ _ (by omega)).trans h1, (hc _ _ (by omega)).trans h2, (hc _ _ (by omega)).trans h3, A, k, (hc _ _ (by omega)).trans h5⟩
theorem SD.setS (h : SD w g F quota n f sq pl rp) {c : Nat} (hc4 : c < 4) (x : Int) : SD (w.setCell ⟨g, 34 + c, none⟩ (.int .i64 x)) g F quota n f (fun k => if k = (c : Int) then x else sq k) pl rp := by
  have hc : ∀ (v : Value) j, j ≠ 34 + c → (w.setCell ⟨g, 34 + c, none⟩ v).cell? ⟨g, j, none⟩ = w.cell? ⟨g, j, none⟩ := fun v j hj => cell_set_ne _ hj
  refine ⟨(hc _ 0 (by omega)).trans h.q0, (hc _ 1 (by omega)).trans h.n0, h.keepF (.inr (by omega)) _, fun d h4 => ?_, fun c h4 => (hc _ _ (by omega)).trans (h.pls c h4), fun c h4 => ?_, fun o => by simpa [go_sem] using h.fz o, fun k hk => by rw [size_set]; exact h.lt k hk, h.gF⟩
  · by_cases e : d = c
    · subst e
      simp only [if_pos]
      exact cell_set_eq _ (h.sqs d h4)
    · have e' : ¬ (d : Int) = (c : Int) := by omega
      simp only [if_neg e']
      exact (hc _ _ (by omega)).trans (h.sqs d h4)
  · obtain ⟨h0, h1, h2, h3, A, k, h5⟩ := h.rps c h4
    exact ⟨h0, (hc _ _ (by omega)).trans h1, (hc _ _ (by omega)).trans h2, (hc _ _ (by omega)).trans h3, A, k, (hc _ _ (by omega)).trans h5⟩
theorem SD.setP (h : SD w g F quota n f sq pl rp) {c : Nat} (hc4 : c < 4) (m : Nat) (v : Int) (hv : v = m) : SD (w.setCell ⟨g, 38 + c, none⟩ (.int .i64 v)) g F quota n f sq (fun k => if k = (c : Int) then m else pl k) rp := by
  subst hv
  have hc : ∀ (v : Value) j, j ≠ 38 + c → (w.setCell ⟨g, 38 + c, none⟩ v).cell? ⟨g, j, none⟩ = w.cell? ⟨g, j, none⟩ := fun v j hj => cell_set_ne _ hj
  refine ⟨(hc _ 0 (by omega)).trans h.q0, (hc _ 1 (by omega)).trans h.n0, h.keepF (.inr (by omega)) _, fun c h4 => (hc _ _ (by omega)).trans (h.sqs c h4), fun d h4 => ?_, fun c h4 => ?_, fun o => by simpa [go_sem] using h.fz o, fun k hk => by rw [size_set]; exact h.lt k hk, h.gF⟩
  · by_cases e : d = c
    · subst e
      simp only [if_pos]
      exact cell_set_eq _ (h.pls d h4)
    · have e' : ¬ (d : Int) = (c : Int) := by omega
      simp only [if_neg e']
      exact (hc _ _ (by omega)).trans (h.pls d h4)
  · obtain ⟨h0, h1, h2, h3, A, k, h5⟩ := h.rps c h4
    exact ⟨h0, (hc _ _ (by omega)).trans h1, (hc _ _ (by omega)).trans h2, (hc _ _ (by omega)).trans h3, A, k, (hc _ _ (by omega)).trans h5⟩
def setRp (w : World) (g o : Nat) (r : Rep) (A : Option Addr) (c : Nat) : World :=
  (((w.setCell ⟨g, o, none⟩ (.int .i64 r.code)).setCell ⟨g, o + 1, none⟩ (.int .i64 r.ver)).setCell ⟨g, o + 2, none⟩ (.string r.data)).setCell ⟨g, o + 3, none⟩ (.slice A 0 c)
theorem SD.setR (h : SD w g F quota n f sq pl rp) {c : Nat} (hc4 : c < 4) (r : Rep) (hr : r.vs = []) (A : Option Addr) (cc : Nat) : SD (setRp w g (42 + c * 4) r A cc) g F quota n f sq pl (fun k => if k = (c : Int) then r else rp k) := by
  have hc : ∀ j, (j < 42 + c * 4 ∨ 42 + c * 4 + 3 < j) → (setRp w g (42 + c * 4) r A cc).cell? ⟨g, j, none⟩ = w.cell? ⟨g, j, none⟩ := fun j hj => by
    unfold setRp
    rw [cell_set_ne _ (by omega), cell_set_ne _ (by omega), cell_set_ne _ (by omega), cell_set_ne _ (by omega)]
  have hfr : Fr (fun k => k = g) w (setRp w g (42 + c * 4) r A cc) := by
    have stp : ∀ {W : World} (j : Nat) (u : Value), Fr (fun k => k = g) w W → Fr (fun k => k = g) w (W.setCell ⟨g, j, none⟩ u) := fun j u h => Fr.setCell (p := ⟨g, j, none⟩) h (.inr rfl) u
    exact stp _ _ (stp _ _ (stp _ _ (stp _ _ (Fr.refl _ w))))
  refine ⟨(hc 0 (by omega)).trans h.q0, (hc 1 (by omega)).trans h.n0, fun i hi => ?_, fun c h4 => (hc _ (by omega)).trans (h.sqs c h4), fun c h4 => (hc _ (by omega)).trans (h.pls c h4), fun d h4 => ?_, fun o => by simpa [setRp, go_sem] using h.fz o, fun k hk => Nat.lt_of_lt_of_le (h.lt k hk) hfr.size, h.gF⟩
  · obtain ⟨A0, c0, h1, h2, h3⟩ := h.fm i hi
    exact ⟨A0, c0, (hc _ (by omega)).trans h1, CellsAt.fr h2 hfr (fun hne a ha => (h3 (vers_ne hne) a ha).2), h3⟩
  · obtain ⟨h0, h1, h2, h3, A', k, h5⟩ := h.rps d h4
    by_cases e : d = c
    · subst e
      simp only [if_pos]
      refine ⟨hr, ?_, ?_, ?_, A, cc, ?_⟩
      · unfold setRp
        rw [cell_set_ne _ (by omega), cell_set_ne _ (by omega), cell_set_ne _ (by omega), cell_set_eq _ h1]
      · unfold setRp
        rw [cell_set_ne _ (by omega), cell_set_ne _ (by omega)]
        exact cell_set_eq _ ((cell_set_ne _ (by omega)).trans h2)
      · unfold setRp
        rw [cell_set_ne _ (by omega)]
        exact cell_set_eq _ ((cell_set_ne _ (by omega)).trans ((cell_set_ne _ (by omega)).trans h3))
      · unfold setRp
        exact cell_set_eq _ ((cell_set_ne _ (by omega)).trans ((cell_set_ne _ (by omega)).trans ((cell_set_ne _ (by omega)).trans h5)))
    · have e' : ¬ (d : Int) = (c : Int) := by omega
      simp only [if_neg e']
      exact ⟨h0, (hc _ (by omega)).trans h1, (hc _ (by omega)).trans h2, (hc _ (by omega)).trans h3, A', k, (hc _ (by omega)).trans h5⟩
end

def sdCells (quota : Int) : Array Value := #[.int .i64 quota, .int .i64 0, .slice none 0 0, .slice none 0 0, .slice none 0 0, .slice none 0 0, .slice none 0 0, .slice none 0 0, .slice none 0 0, .slice none 0 0, .slice none 0 0, .slice none 0 0, .slice none 0 0, .slice none 0 0, .slice none 0 0, .slice none 0 0, .slice none 0 0, .slice none 0 0, .slice none 0 0, .slice none 0 0, .slice none 0 0, .slice none 0 0, .slice none 0 0, .slice none 0 0, .slice none 0 0, .slice none 0 0, .slice none 0 0, .slice none 0 0, .slice none 0 0, .slice none 0 0, .slice none 0 0, .slice none 0 0, .slice none 0 0, .slice none 0 0, .int .i64 0, .int .i64 0, .int .i64 0, .int .i64 0, .int .i64 0, .int .i64 0, .int .i64 0, .int .i64 0, .int .i64 0, .int .i64 0, .string { data := #[] }, .slice none 0 0, .int .i64 0, .int .i64 0, .string { data := #[] }, .slice none 0 0, .int .i64 0, .int .i64 0, .string { data := #[] }, .slice none 0 0, .int .i64 0, .int .i64 0, .string { data := #[] }, .slice none 0 0]
theorem sdCells_eq (quota : Int) : sdCells quota = (#[.int .i64 quota, .int .i64 0] ++ Array.replicate 32 (.slice none 0 0)) ++ #[.int .i64 0, .int .i64 0, .int .i64 0, .int .i64 0, .int .i64 0, .int .i64 0, .int .i64 0, .int .i64 0, .int .i64 0, .int .i64 0, .string { data := #[] }, .slice none 0 0, .int .i64 0, .int .i64 0, .string { data := #[] }, .slice none 0 0, .int .i64 0, .int .i64 0, .string { data := #[] }, .slice none 0 0, .int .i64 0, .int .i64 0, .string { data := #[] }, .slice none 0 0] := by kernel_rfl
theorem SD_new {w : World} {g : Nat} {t : TypeId} {quota : Int} (h : Bk w g t (sdCells quota)) : SDAt w g (fun k => k = g) (StV.new quota) := by
  have hc : ∀ i : Nat, w.cell? ⟨g, i, none⟩ = (sdCells quota)[i]? := h.cell
  refine ⟨⟨hc 0, hc 1, fun i hi => ⟨none, 0, ?_, CellsAt.nil _ _, fun h => absurd rfl h⟩, fun c h4 => ?_, fun c h4 => ?_, fun c h4 => ⟨rfl, ?_, ?_, ?_, none, 0, ?_⟩, h.frozen, fun k hk => hk ▸ h.lt, rfl⟩, fun k => by simp [StV.new], fun k _ => rfl⟩
  · rw [hc, sdCells_eq]
    rw [Array.getElem?_append_left (by simp; omega), Array.getElem?_append_right (by simp)]
    simp [Array.getElem?_replicate, hi, StV.new]
  · rw [hc]
    rcases (by omega : c = 0 ∨ c = 1 ∨ c = 2 ∨ c = 3) with rfl | rfl | rfl | rfl <;> rfl
  · rw [hc]
    rcases (by omega : c = 0 ∨ c = 1 ∨ c = 2 ∨ c = 3) with rfl | rfl | rfl | rfl <;> rfl
  all_goals
    rw [hc]
    rcases (by omega : c = 0 ∨ c = 1 ∨ c = 2 ∨ c = 3) with rfl | rfl | rfl | rfl <;> rfl
end Go.Proofs.Ytcbnibldlbnkbaa
