/- The document's store: its block; what stays of it, what stores into it make. -/
import Derived.Test.YtffahoocbjfdaaaHRDoA
import Derived.Test.YtffahoocbjfdaaaHSt
import Derived.Deep.CutBlock
import Derived.Test.YtffahoocbjfdaaaHMay
namespace Go.Proofs.Ytffahoocbjfdaaa
open Go.RowKit
structure SD (w : World) (g : Nat) (F : Nat → Prop) (quota : Int) (n : Nat) (f : Int → List Ver) (sq : Int → Int) (pl : Int → Nat) (rp : Int → Rep) : Prop where
  q0 : w.cell? ⟨g, 0, none⟩ = some (.int .i64 quota)
  n0 : w.cell? ⟨g, 1, none⟩ = some (.int .i64 n)
  fm : ∀ i : Nat, i < 32 → ∃ A c, w.cell? ⟨g, 2 + i, none⟩ = some (.slice A (f i).length c) ∧ Vers w A (f i) ∧ (f i ≠ [] → ∀ a, A = some a → F a.block ∧ a.block ≠ g)
  sqs : ∀ c : Nat, c < 4 → w.cell? ⟨g, 34 + c, none⟩ = some (.int .i64 (sq c))
  pls : ∀ c : Nat, c < 4 → w.cell? ⟨g, 38 + c, none⟩ = some (.int .i64 (pl c))
  rps : ∀ c : Nat, c < 4 → (rp c).vs = [] ∧ w.cell? ⟨g, 42 + c * 4, none⟩ = some (.int .i64 (rp c).code) ∧ w.cell? ⟨g, 42 + c * 4 + 1, none⟩ = some (.int .i64 (rp c).ver) ∧ w.cell? ⟨g, 42 + c * 4 + 2, none⟩ = some (.string (rp c).data) ∧ ∃ A k, w.cell? ⟨g, 42 + c * 4 + 3, none⟩ = some (.slice A 0 k)
  fz : ∀ o, w.frozen? ⟨g, o, none⟩ = false
  lt : ∀ k, F k → k < w.heap.size
  gF : F g
def SDAt (w : World) (g : Nat) (F : Nat → Prop) (s : StV) : Prop :=
  SD w g F s.quota s.n s.f (fun c => (s.ss c).seq) (fun c => (s.ss c).place) (fun c => (s.ss c).rep) ∧ (∀ k, (s.f k).length ≤ s.n) ∧ (∀ k, ¬ (0 ≤ k ∧ k ≤ 31) → s.f k = [])
section
variable {w w' : World} {g : Nat} {F S : Nat → Prop} {quota : Int} {n : Nat} {f : Int → List Ver} {sq : Int → Int} {pl : Int → Nat} {rp : Int → Rep}
theorem vers_ne {vs : List Ver} (h : verCells vs ≠ []) : vs ≠ [] := fun e => h (by rw [e]; rfl)
theorem SD.fr (h : SD w g F quota n f sq pl rp) (hf : Fr S w w') (hS : ∀ k, F k → ¬ S k) : SD w' g F quota n f sq pl rp := by
  have hg := h.lt g h.gF
  have hc : ∀ o, w'.cell? ⟨g, o, none⟩ = w.cell? ⟨g, o, none⟩ := fun o => hf.cell (p := ⟨g, o, none⟩) hg (hS g h.gF)
  refine ⟨(hc 0).trans h.q0, (hc 1).trans h.n0, fun i hi => ?_, fun c h4 => (hc _).trans (h.sqs c h4), fun c h4 => (hc _).trans (h.pls c h4), fun c h4 => ?_, fun o => ?_, fun k hk => Nat.lt_of_lt_of_le (h.lt k hk) hf.size, h.gF⟩
  · obtain ⟨A, c, h1, h2, h3⟩ := h.fm i hi
    exact ⟨A, c, (hc _).trans h1, CellsAt.fr h2 hf (fun hne a ha => hS _ (h3 (vers_ne hne) a ha).1), h3⟩
  · obtain ⟨h0, h1, h2, h3, A, k, h5⟩ := h.rps c h4
    exact ⟨h0, (hc _).trans h1, (hc _).trans h2, (hc _).trans h3, A, k, (hc _).trans h5⟩
  · exact (hf.frozen (p := ⟨g, o, none⟩) hg (hS g h.gF)).trans (h.fz o)
theorem SD.old (h : SD w g F quota n f sq pl rp) (hf : Old w w') : SD w' g F quota n f sq pl rp := h.fr (S := fun _ => False) (Fr.of_old hf) (fun _ _ h => h)
theorem SD.drew (h : SD w g F quota n f sq pl rp) : SD w.drew g F quota n f sq pl rp := h.old ((Old.refl' w).drew')
theorem SDAt.old {s : StV} (h : SDAt w g F s) (hf : Old w w') : SDAt w' g F s := ⟨h.1.old hf, h.2⟩
theorem SD.setF (h : SD w g F quota n f sq pl rp) {i : Nat} (hi : i < 32) {A : Option Addr} {c nL : Nat} {L : List Ver} (hV : Vers w A L) (hn : L.length = nL) (hA : L ≠ [] → ∀ a, A = some a → a.block ≠ g) :
    SD (w.setCell ⟨g, 2 + i, none⟩ (.slice A nL c)) g (fun k => F k ∨ (L ≠ [] ∧ ∃ a, A = some a ∧ k = a.block)) quota n (fun k => if k = (i : Int) then L else f k) sq pl rp := by
  subst hn
  have hc : ∀ j, j ≠ 2 + i → (w.setCell ⟨g, 2 + i, none⟩ (.slice A L.length c)).cell? ⟨g, j, none⟩ = w.cell? ⟨g, j, none⟩ := fun j hj => cell_set_ne _ hj
  refine ⟨(hc 0 (by omega)).trans h.q0, (hc 1 (by omega)).trans h.n0, fun j hj => ?_, fun c h4 => (hc _ (by omega)).trans (h.sqs c h4), fun c h4 => (hc _ (by omega)).trans (h.pls c h4), fun c h4 => ?_, fun o => ?_, fun k hk => ?_, .inl h.gF⟩
  · by_cases hji : j = i
    · subst hji
      simp only [if_pos]
      obtain ⟨A0, c0, h1, -, -⟩ := h.fm j hj
      exact ⟨A, c, cell_set_eq _ h1, CellsAt.fr (S := fun k => k = g) hV ((Fr.refl (fun k => k = g) w).setCell (p := ⟨g, 2 + j, none⟩) (.inr rfl) _) (fun hne a ha => hA (vers_ne hne) a ha), fun hne a ha => ⟨.inr ⟨hne, a, ha, rfl⟩, hA hne a ha⟩⟩
    · have hji' : ¬ (j : Int) = (i : Int) := by omega
      simp only [if_neg hji']
      obtain ⟨A0, c0, h1, h2, h3⟩ := h.fm j hj
      exact ⟨A0, c0, (hc _ (by omega)).trans h1, CellsAt.fr (S := fun k => k = g) h2 ((Fr.refl (fun k => k = g) w).setCell (p := ⟨g, 2 + i, none⟩) (.inr rfl) _) (fun hne a ha => (h3 (vers_ne hne) a ha).2), fun hne a ha => ⟨.inl (h3 hne a ha).1, (h3 hne a ha).2⟩⟩
  · obtain ⟨h0, h1, h2, h3, A, k, h5⟩ := h.rps c h4
    exact ⟨h0, (hc _ (by omega)).trans h1, (hc _ (by omega)).trans h2, (hc _ (by omega)).trans h3, A, k, (hc _ (by omega)).trans h5⟩
  · simpa [go_sem] using h.fz o
  · rw [size_set]
    rcases hk with hk | ⟨hne, a, ha, rfl⟩
    · exact h.lt k hk
    · exact vers_len hV hne a ha
theorem SD.keepF (h : SD w g F quota n f sq pl rp) {j : Nat} (hj : j < 2 ∨ 34 ≤ j) (u : Value) : ∀ i : Nat, i < 32 → ∃ A c, (w.setCell ⟨g, j, none⟩ u).cell? ⟨g, 2 + i, none⟩ = some (.slice A (f i).length c) ∧ Vers (w.setCell ⟨g, j, none⟩ u) A (f i) ∧ (f i ≠ [] → ∀ a, A = some a → F a.block ∧ a.block ≠ g) := fun i hi => by
  obtain ⟨A0, c0, h1, h2, h3⟩ := h.fm i hi
  exact ⟨A0, c0, (cell_set_ne _ (by omega)).trans h1, CellsAt.fr (S := fun k => k = g) h2 ((Fr.refl (fun k => k = g) w).setCell (p := ⟨g, j, none⟩) (.inr rfl) _) (fun hne a ha => (h3 (vers_ne hne) a ha).2), h3⟩
theorem SD.setN (h : SD w g F quota n f sq pl rp) (m : Nat) (v : Int) (hv : v = m) : SD (w.setCell ⟨g, 1, none⟩ (.int .i64 v)) g F quota m f sq pl rp := by
  subst hv
  have hc : ∀ (v : Value) j, j ≠ 1 → (w.setCell ⟨g, 1, none⟩ v).cell? ⟨g, j, none⟩ = w.cell? ⟨g, j, none⟩ := fun v j hj => cell_set_ne _ hj
  refine ⟨(hc _ 0 (by omega)).trans h.q0, cell_set_eq _ h.n0, h.keepF (.inl (by omega)) _, fun c h4 => (hc _ _ (by omega)).trans (h.sqs c h4), fun c h4 => (hc _ _ (by omega)).trans (h.pls c h4), fun c h4 => ?_, fun o => by simpa [go_sem] using h.fz o, fun k hk => by rw [size_set]; exact h.lt k hk, h.gF⟩
  obtain ⟨h0, h1, h2, h3, A, k, h5⟩ := h.rps c h4
  exact ⟨h0, (hc _ _ (by omega)).trans h1, (hc _ _ (by omega)).trans h2, (hc _ _ (by omega)).trans h3, A, k, (hc _ _ (by omega)).trans h5⟩
theorem SD.setS (h : SD w g F quota n f sq pl rp) {c : Nat} (hc4 : c < 4) (x : Int) : SD (w.setCell ⟨g, 34 + c, none⟩ (.int .i64 x)) g F quota n f (fun k => if k = (c : Int) then x else sq k) pl rp := by
  have hc : ∀ (v : Value) j, j ≠ 34 + c → (w.setCell ⟨g, 34 + c, none⟩ v).cell? ⟨g, j, none⟩ = w.cell? ⟨g, j, none⟩ := fun v j hj => cell_set_ne _ hj
  refine ⟨(hc _ 0 (by omega)).trans h.q0, (hc _ 1 (by omega)).trans h.n0, h.keepF (.inr (by omega)) _, fun d h4 => ?_, fun c h4 => (hc _ _ (by omega)).trans (h.pls c h4), fun c h4 => ?_, fun o => by simpa [go_sem] using h.fz o, fun k hk => by rw [size_set]; exact h.lt k hk, h.gF⟩
  · by_cases e : d = c
    · subst e
      simp only [if_pos]
      exact cell_set_eq _ (h.sqs d h4)
    · have e' : ¬ (d : Int) = (c : Int) := by omega
      simp only [if_neg e']
      exact (hc _ _ (by omega)).trans (h.sqs d h4)
  · obtain ⟨h0, h1, h2, h3, A, k, h5⟩ := h.rps c h4
    exact ⟨h0, (hc _ _ (by omega)).trans h1, (hc _ _ (by omega)).trans h2, (hc _ _ (by omega)).trans h3, A, k, (hc _ _ (by omega)).trans h5⟩
theorem SD.setP (h : SD w g F quota n f sq pl rp) {c : Nat} (hc4 : c < 4) (m : Nat) (v : Int) (hv : v = m) : SD (w.setCell ⟨g, 38 + c, none⟩ (.int .i64 v)) g F quota n f sq (fun k => if k = (c : Int) then m else pl k) rp := by
  subst hv
  have hc : ∀ (v : Value) j, j ≠ 38 + c → (w.setCell ⟨g, 38 + c, none⟩ v).cell? ⟨g, j, none⟩ = w.cell? ⟨g, j, none⟩ := fun v j hj => cell_set_ne _ hj
  refine ⟨(hc _ 0 (by omega)).trans h.q0, (hc _ 1 (by omega)).trans h.n0, h.keepF (.inr (by omega)) _, fun c h4 => (hc _ _ (by omega)).trans (h.sqs c h4), fun d h4 => ?_, fun c h4 => ?_, fun o => by simpa [go_sem] using h.fz o, fun k hk => by rw [size_set]; exact h.lt k hk, h.gF⟩
  · by_cases e : d = c
    · subst e
      simp only [if_pos]
      exact cell_set_eq _ (h.pls d h4)
    · have e' : ¬ (d : Int) = (c : Int) := by omega
      simp only [if_neg e']
      exact (hc _ _ (by omega)).trans (h.pls d h4)
  · obtain ⟨h0, h1, h2, h3, A, k, h5⟩ := h.rps c h4
    exact ⟨h0, (hc _ _ (by omega)).trans h1, (hc _ _ (by omega)).trans h2, (hc _ _ (by omega)).trans h3, A, k, (hc _ _ (by omega)).trans h5⟩
def setRp (w : World) (g o : Nat) (r : Rep) (A : Option Addr) (c : Nat) : World :=
  (((w.setCell ⟨g, o, none⟩ (.int .i64 r.code)).setCell ⟨g, o + 1, none⟩ (.int .i64 r.ver)).setCell ⟨g, o + 2, none⟩ (.string r.data)).setCell ⟨g, o + 3, none⟩ (.slice A 0 c)
theorem SD.setR (h : SD w g F quota n f sq pl rp) {c : Nat} (hc4 : c < 4) (r : Rep) (hr : r.vs = []) (A : Option Addr) (cc : Nat) : SD (setRp w g (42 + c * 4) r A cc) g F quota n f sq pl (fun k => if k = (c : Int) then r else rp k) := by
  have hc : ∀ j, (j < 42 + c * 4 ∨ 42 + c * 4 + 3 < j) → (setRp w g (42 + c * 4) r A cc).cell? ⟨g, j, none⟩ = w.cell? ⟨g, j, none⟩ := fun j hj => by
    unfold setRp
    rw [cell_set_ne _ (by omega), cell_set_ne _ (by omega), cell_set_ne _ (by omega), cell_set_ne _ (by omega)]
  have hfr : Fr (fun k => k = g) w (setRp w g (42 + c * 4) r A cc) := by
    have stp : ∀ {W : World} (j : Nat) (u : Value), Fr (fun k => k = g) w W → Fr (fun k => k = g) w (W.setCell ⟨g, j, none⟩ u) := fun j u h => Fr.setCell (p := ⟨g, j, none⟩) h (.inr rfl) u
    exact stp _ _ (stp _ _ (stp _ _ (stp _ _ (Fr.refl _ w))))
  refine ⟨(hc 0 (by omega)).trans h.q0, (hc 1 (by omega)).trans h.n0, fun i hi => ?_, fun c h4 => (hc _ (by omega)).trans (h.sqs c h4), fun c h4 => (hc _ (by omega)).trans (h.pls c h4), fun d h4 => ?_, fun o => by simpa [setRp, go_sem] using h.fz o, fun k hk => Nat.lt_of_lt_of_le (h.lt k hk) hfr.size, h.gF⟩
  · obtain ⟨A0, c0, h1, h2, h3⟩ := h.fm i hi
    exact ⟨A0, c0, (hc _ (by omega)).trans h1, CellsAt.fr h2 hfr (fun hne a ha => (h3 (vers_ne hne) a ha).2), h3⟩
  · obtain ⟨h0, h1, h2, h3, A', k, h5⟩ := h.rps d h4
    by_cases e : d = c
    · subst e
      simp only [if_pos]
      refine ⟨hr, ?_, ?_, ?_, A, cc, ?_⟩
      · unfold setRp
        rw [cell_set_ne _ (by omega), cell_set_ne _ (by omega), cell_set_ne _ (by omega), cell_set_eq _ h1]
      · unfold setRp
        rw [cell_set_ne _ (by omega), cell_set_ne _ (by omega)]
        exact cell_set_eq _ ((cell_set_ne _ (by omega)).trans h2)
      · unfold setRp
        rw [cell_set_ne _ (by omega)]
        exact cell_set_eq _ ((cell_set_ne _ (by omega)).trans ((cell_set_ne _ (by omega)).trans h3))
      · unfold setRp
        exact cell_set_eq _ ((cell_set_ne _ (by omega)).trans ((cell_set_ne _ (by omega)).trans ((cell_set_ne _ (by omega)).trans h5)))
    · have e' : ¬ (d : Int) = (c : Int) := by omega
      simp only [if_neg e']
      exact ⟨h0, (hc _ (by omega)).trans h1, (hc _ (by omega)).trans h2, (hc _ (by omega)).trans h3, A', k, (hc _ (by omega)).trans h5⟩
end
def sdCells (quota : Int) : Array Value := #[.int .i64 quota, .int .i64 0, .slice none 0 0, .slice none 0 0, .slice none 0 0, .slice none 0 0, .slice none 0 0, .slice none 0 0, .slice none 0 0, .slice none 0 0, .slice none 0 0, .slice none 0 0, .slice none 0 0, .slice none 0 0, .slice none 0 0, .slice none 0 0, .slice none 0 0, .slice none 0 0, .slice none 0 0, .slice none 0 0, .slice none 0 0, .slice none 0 0, .slice none 0 0, .slice none 0 0, .slice none 0 0, .slice none 0 0, .slice none 0 0, .slice none 0 0, .slice none 0 0, .slice none 0 0, .slice none 0 0, .slice none 0 0, .slice none 0 0, .slice none 0 0, .int .i64 0, .int .i64 0, .int .i64 0, .int .i64 0, .int .i64 0, .int .i64 0, .int .i64 0, .int .i64 0, .int .i64 0, .int .i64 0, .string { data := #[] }, .slice none 0 0, .int .i64 0, .int .i64 0, .string { data := #[] }, .slice none 0 0, .int .i64 0, .int .i64 0, .string { data := #[] }, .slice none 0 0, .int .i64 0, .int .i64 0, .string { data := #[] }, .slice none 0 0]
theorem sdCells_eq (quota : Int) : sdCells quota = (#[.int .i64 quota, .int .i64 0] ++ Array.replicate 32 (.slice none 0 0)) ++ #[.int .i64 0, .int .i64 0, .int .i64 0, .int .i64 0, .int .i64 0, .int .i64 0, .int .i64 0, .int .i64 0, .int .i64 0, .int .i64 0, .string { data := #[] }, .slice none 0 0, .int .i64 0, .int .i64 0, .string { data := #[] }, .slice none 0 0, .int .i64 0, .int .i64 0, .string { data := #[] }, .slice none 0 0, .int .i64 0, .int .i64 0, .string { data := #[] }, .slice none 0 0] := by kernel_rfl
theorem SD_new {w : World} {g : Nat} {t : TypeId} {quota : Int} (h : Bk w g t (sdCells quota)) : SDAt w g (fun k => k = g) (StV.new quota) := by
  have hc : ∀ i : Nat, w.cell? ⟨g, i, none⟩ = (sdCells quota)[i]? := h.cell
  refine ⟨⟨hc 0, hc 1, fun i hi => ⟨none, 0, ?_, CellsAt.nil _ _, fun h => absurd rfl h⟩, fun c h4 => ?_, fun c h4 => ?_, fun c h4 => ⟨rfl, ?_, ?_, ?_, none, 0, ?_⟩, h.frozen, fun k hk => hk ▸ h.lt, rfl⟩, fun k => by simp [StV.new], fun k _ => rfl⟩
  · rw [hc, sdCells_eq]
    rw [Array.getElem?_append_left (by simp; omega), Array.getElem?_append_right (by simp)]
    simp [Array.getElem?_replicate, hi, StV.new]
  · rw [hc]
    rcases (by omega : c = 0 ∨ c = 1 ∨ c = 2 ∨ c = 3) with rfl | rfl | rfl | rfl <;> rfl
  · rw [hc]
    rcases (by omega : c = 0 ∨ c = 1 ∨ c = 2 ∨ c = 3) with rfl | rfl | rfl | rfl <;> rfl
  all_goals
    rw [hc]
    rcases (by omega : c = 0 ∨ c = 1 ∨ c = 2 ∨ c = 3) with rfl | rfl | rfl | rfl <;> rfl
end Go.Proofs.Ytffahoocbjfdaaa

/- The document's store: Put, Ask. -/
namespace Go.Proofs.Ytffahoocbjfdaaa
open Go.RowKit
theorem rMay_at (c s k i m : Int) (d : ByteArray) (b : Bool) (hb : mayQ c s k i m d = b) (w : World) :
    Calls Try.prog 31 #[.agg #[.int .i64 c, .int .i64 s, .int .i64 k, .int .i64 i, .int .i64 m, .string d]] w fun e w' => e = .returned (.bool b) ∧ Old w w' := by
  subst hb
  exact RMay_any c s k i m d w
theorem rWrites_at (c s k i m : Int) (d : ByteArray) (b : Bool) (hb : Writes k = b) (w : World) :
    Calls Try.prog 18 #[.agg #[.int .i64 c, .int .i64 s, .int .i64 k, .int .i64 i, .int .i64 m, .string d]] w fun e w' => e = .returned (.bool b) ∧ Old w w' := by
  subst hb
  exact Writes_any c s k i m d w
theorem RDo_at2 (L : List Ver) (R : Rep) (A : Option Addr) (n cap : Nat) (vs : List Ver) (hn : n ≤ 100000) (hl : n = vs.length) (c s k i m quota : Int) (d : ByteArray) (w : World) (hV : Vers w A vs) (hm : -9223372036854775808 ≤ m) (hm2 : m ≤ 9223372036854775807)
    (hL : doL vs k m quota d = L) (hR : doRep vs k m quota d = R) (nL nR : Nat) (h1 : L.length = nL) (h2 : R.vs.length = nR) :
    Calls Try.prog 32 #[.slice A n cap, .agg #[.int .i64 c, .int .i64 s, .int .i64 k, .int .i64 i, .int .i64 m, .string d], .int .i64 quota] w fun e w' =>
      ∃ A1 c1 A2 c2, e = .returned (.tuple #[.slice A1 nL c1, .agg #[.int .i64 R.code, .int .i64 R.ver, .string R.data, .slice A2 nR c2]]) ∧ Vers w' A1 L ∧ ((A1 = A ∧ L = vs) ∨ ∀ a, A1 = some a → w.heap.size ≤ a.block) ∧ Old w w' := by
  subst hL hR h1 h2
  refine (RDo_any A n cap vs hn hl c s k i m quota d w hV hm hm2).mono ?_
  rintro e w' ⟨v, u, rfl, ⟨A1, c1, rfl, hv, hnew⟩, ⟨A2, c2, rfl, hi, _⟩, hb⟩
  exact ⟨A1, c1, A2, c2, rfl, hv, hnew, hb⟩
theorem vers_set4 {w : World} {A : Option Addr} {L : List Ver} {b : Nat} {u0 u1 u2 u3 : Value} (h : Vers w A L) (hne : L ≠ [] → ∀ a, A = some a → a.block ≠ b) :
    Vers ((((w.setCell ⟨b, 0, none⟩ u0).setCell ⟨b, 1, none⟩ u1).setCell ⟨b, 2, none⟩ u2).setCell ⟨b, 3, none⟩ u3) A L := by
  have stp : ∀ {W : World} (j : Nat) (u : Value), Fr (fun k => k = b) w W → Fr (fun k => k = b) w (W.setCell ⟨b, j, none⟩ u) := fun j u h => Fr.setCell (p := ⟨b, j, none⟩) h (.inr rfl) u
  exact CellsAt.fr h (stp _ _ (stp _ _ (stp _ _ (stp _ _ (Fr.refl _ w))))) fun hn a ha => hne (vers_ne hn) a ha
def AfterDoD (w WB w' : World) (g : Nat) (F : Nat → Prop) (nL : Nat) (L : List Ver) (R : Rep) (v6 v7 : Value) : Prop :=
  ∃ A1 c1 b8 A2 c2, v6 = .slice A1 nL c1 ∧ v7 = .pointer (some ⟨b8, 0, none⟩) ∧ Old WB w' ∧ Vers w' A1 L ∧ (L ≠ [] → ∀ a, A1 = some a → a.block ≠ g ∧ (F a.block ∨ w.heap.size + 2 ≤ a.block)) ∧
    Bk w' b8 43 #[.int .i64 R.code, .int .i64 R.ver, .string R.data, .slice A2 0 c2] ∧ w.heap.size + 2 ≤ b8 ∧ (L ≠ [] → ∀ a, A1 = some a → a.block ≠ b8)
def sel {α : Type} (o : Option Value) (x y : α) : α := match o with
  | none => x
  | some _ => y
set_option maxRecDepth 100000 in
set_option maxHeartbeats 1000000 in
theorem SPut_arg (g : Nat) (q : Q) (hq : (q.may && Writes q.kind) = false) (w : World) :
    Calls Try.prog 21 #[.pointer (some ⟨g, 0, none⟩), q.v] w fun e w' => e = .returned (.tuple #[.agg #[.int .i64 0, .int .i64 0, .string ByteArray.empty, .slice none 0 0], .int .i64 1]) ∧ Old w w' := by
  obtain ⟨c, s, k, i, m, d⟩ := q
  simp only [Q.v]
  obtain ⟨b1, h1⟩ : ∃ b, mayQ c s k i m d = b := ⟨_, rfl⟩
  have cM := hide (fun (W : World) => rMay_at c s k i m d b1 h1 W)
  have hX := hide (fun (W : World) (h : Old ((w.alloc (.cells #[.int .i64 c, .int .i64 s, .int .i64 k, .int .i64 i, .int .i64 m, .string d] 24)).alloc (.cells #[.int .i64 0, .int .i64 0, .string ByteArray.empty, .slice none 0 0] 43)) W) => boxed h)
  cases b1 with
  | false =>
    clear hq h1
    go_enter Try.func21, Try.ntmps21
    go_wp2_with (go_at_call 31; refine (cM.out _).mono ?_; rintro e w1 ⟨rfl, hb1⟩; obtain ⟨⟨x0, x1, x2, x3, x4, x5⟩, ⟨y0, y1, y2, y3⟩, ⟨f0, f1, f2, f3⟩, l1, o1⟩ := hX.out _ hb1)
    refine bodyPost_ret (v := .tuple #[.agg #[.int .i64 0, .int .i64 0, .string ByteArray.empty, .slice none 0 0], .int .i64 1]) ?_ rfl ⟨rfl, ?_⟩
    · simp [results, Try.results21, go_sem, *]
      try rfl
    · repeat (first | with_reducible exact o1 | with_reducible refine Old.setCell' ?_ (by simp) _)
  | true =>
    have hw : Writes k = false := by simpa [Q.may, h1] using hq
    have cW := hide (fun (W : World) => rWrites_at c s k i m d false hw W)
    clear hq h1 hw
    go_enter Try.func21, Try.ntmps21
    go_wp2_with (first
      | (go_at_call 31; refine (cM.out _).mono ?_; rintro e w1 ⟨rfl, hb1⟩; obtain ⟨⟨x0, x1, x2, x3, x4, x5⟩, ⟨y0, y1, y2, y3⟩, ⟨f0, f1, f2, f3⟩, l1, o1⟩ := hX.out _ hb1)
      | (go_at_call 18; refine (cW.out _).mono ?_; rintro e w2 ⟨rfl, hb2⟩; clear x0 x1 x2 x3 x4 x5 y0 y1 y2 y3 f0 f1 f2 f3 l1 o1; obtain ⟨⟨x0, x1, x2, x3, x4, x5⟩, ⟨y0, y1, y2, y3⟩, ⟨f0, f1, f2, f3⟩, l1, o1⟩ := hX.out _ (hb1.trans' hb2); have hbb := hb1.trans' hb2; clear hb1 hb2))
    refine bodyPost_ret (v := .tuple #[.agg #[.int .i64 0, .int .i64 0, .string ByteArray.empty, .slice none 0 0], .int .i64 1]) ?_ rfl ⟨rfl, ?_⟩
    · simp [results, Try.results21, go_sem, *]
      try rfl
    · repeat (first | with_reducible exact o1 | with_reducible refine Old.setCell' ?_ (by simp) _)
set_option maxRecDepth 100000 in
set_option maxHeartbeats 4000000 in
theorem SPut_order (g : Nat) (F : Nat → Prop) (st : StV) (q : Q) (hq : (q.may && Writes q.kind) = true) (hs : ¬ (st.ss q.client).seq < q.seq) (w : World) (h : SDAt w g F st) :
    Calls Try.prog 21 #[.pointer (some ⟨g, 0, none⟩), q.v] w fun e w' => e = .returned (.tuple #[.agg #[.int .i64 0, .int .i64 0, .string ByteArray.empty, .slice none 0 0], .int .i64 9]) ∧ Old w w' := by
  obtain ⟨c, s, k, i, m, d⟩ := q
  simp only [Q.v, Q.may, Bool.and_eq_true] at hq hs ⊢
  obtain ⟨h1, h2⟩ := hq
  have hcc : 0 ≤ c ∧ c ≤ 3 := by
    simp only [mayQ, Bool.and_eq_true, decide_eq_true_eq] at h1
    omega
  obtain ⟨c, rfl⟩ : ∃ n : Nat, c = n := ⟨c.toNat, by omega⟩
  obtain ⟨x, hx⟩ : ∃ x, (st.ss c).seq = x := ⟨_, rfl⟩
  rw [hx] at hs
  have hQ := hide (fun (W : World) (hW : Old w W) => (hx ▸ (h.old hW).1.sqs c (by omega) : W.cell? ⟨g, 34 + c, none⟩ = some (.int .i64 x)))
  have cM := hide (fun (W : World) => rMay_at c s k i m d true h1 W)
  have cW := hide (fun (W : World) => rWrites_at c s k i m d true h2 W)
  have hX := hide (fun (W : World) (h : Old ((w.alloc (.cells #[.int .i64 c, .int .i64 s, .int .i64 k, .int .i64 i, .int .i64 m, .string d] 24)).alloc (.cells #[.int .i64 0, .int .i64 0, .string ByteArray.empty, .slice none 0 0] 43)) W) => boxed h)
  have hle : s ≤ x := by omega
  have hc4 : (c : Int) < 4 := by omega
  clear h1 h2 hs hx h hcc
  go_enter Try.func21, Try.ntmps21
  go_wp2_with (first
    | (go_at_call 31; refine (cM.out _).mono ?_; rintro e w1 ⟨rfl, hb1⟩; obtain ⟨⟨x0, x1, x2, x3, x4, x5⟩, ⟨y0, y1, y2, y3⟩, ⟨f0, f1, f2, f3⟩, l1, o1⟩ := hX.out _ hb1)
    | (go_at_call 18; refine (cW.out _).mono ?_; rintro e w2 ⟨rfl, hb2⟩; clear x0 x1 x2 x3 x4 x5 y0 y1 y2 y3 f0 f1 f2 f3 l1 o1; obtain ⟨⟨x0, x1, x2, x3, x4, x5⟩, ⟨y0, y1, y2, y3⟩, ⟨f0, f1, f2, f3⟩, l1, o1⟩ := hX.out _ (hb1.trans' hb2); have hbb := hb1.trans' hb2; clear hb1 hb2))
  refine region_steps (R := pick [eqv (.pointer (some ⟨w.heap.size, 1, none⟩)), eqv (.int .i64 s), eqv (.pointer (some ⟨g, 0, none⟩)), eqv (.pointer (some ⟨w.heap.size, 0, none⟩)), eqv (.int .i64 c), eqv (.pointer (some ⟨g, 0, none⟩)), eqv (.pointer (some ⟨g, 34, none⟩)), eqv (.pointer (some ⟨g, 34 + c, none⟩)), eqv (.int .i64 x), eqv (.bool true)]) (S := fun _ w' => Old ((w.alloc (.cells #[.int .i64 c, .int .i64 s, .int .i64 k, .int .i64 i, .int .i64 m, .string d] 24)).alloc (.cells #[.int .i64 0, .int .i64 0, .string ByteArray.empty, .slice none 0 0] 43)) w') (T := Old) (by kernel_rfl) (by kernel_rfl) (by kernel_rfl) (Stab.pick (Stab.eqv (Stab.eqv (Stab.eqv (Stab.eqv (Stab.eqv (Stab.eqv (Stab.eqv (Stab.eqv (Stab.eqv (Stab.eqv (Stab.nil)))))))))))) (hbb.drew') ?steps ?ends
  case steps =>
    refine StepsOk.cons (stepOk_pure [] [(3, .pointer (some ⟨w.heap.size, 0, none⟩))] rfl rfl (by kernel_rfl) (by kernel_rfl) rfl Old.refl' (fun _ _ _ h => h) (fun d E w' hk hda hS hc hf => by rintro  e3; exact ⟨_, by go_simp, rfl⟩)) ?_
    refine StepsOk.cons (stepOk_pure [(0, 17)] [] rfl rfl (by kernel_rfl) (by kernel_rfl) rfl Old.refl' (fun _ _ _ h => h) (fun d E w' hk hda hS hc hf => by rintro _ q0 rfl e17 ; obtain ⟨⟨s0, s1, s2, s3, s4, s5⟩, -, -, -, ho⟩ := hX.out _ hS; have t0 := hQ.out _ ho; exact ⟨_, by go_simp, rfl⟩)) ?_
    refine StepsOk.cons (stepOk_pure [] [(0, .pointer (some ⟨g, 0, none⟩))] rfl rfl (by kernel_rfl) (by kernel_rfl) rfl Old.refl' (fun _ _ _ h => h) (fun d E w' hk hda hS hc hf => by rintro  e0; exact ⟨_, by go_simp, rfl⟩)) ?_
    refine StepsOk.cons (stepOk_pure [] [(3, .pointer (some ⟨w.heap.size, 0, none⟩))] rfl rfl (by kernel_rfl) (by kernel_rfl) rfl Old.refl' (fun _ _ _ h => h) (fun d E w' hk hda hS hc hf => by rintro  e3; exact ⟨_, by go_simp, rfl⟩)) ?_
    refine StepsOk.cons (stepOk_pure [(3, 20)] [] rfl rfl (by kernel_rfl) (by kernel_rfl) rfl Old.refl' (fun _ _ _ h => h) (fun d E w' hk hda hS hc hf => by rintro _ q3 rfl e20 ; obtain ⟨⟨s0, s1, s2, s3, s4, s5⟩, -, -, -, ho⟩ := hX.out _ hS; have t0 := hQ.out _ ho; exact ⟨_, by go_simp, rfl⟩)) ?_
    refine StepsOk.cons (stepOk_pure [(2, 19)] [] rfl rfl (by kernel_rfl) (by kernel_rfl) rfl Old.refl' (fun _ _ _ h => h) (fun d E w' hk hda hS hc hf => by rintro _ q2 rfl e19 ; exact ⟨_, by go_simp, rfl⟩)) ?_
    refine StepsOk.cons (stepOk_pure [(5, 22)] [] rfl rfl (by kernel_rfl) (by kernel_rfl) rfl Old.refl' (fun _ _ _ h => h) (fun d E w' hk hda hS hc hf => by rintro _ q5 rfl e22 ; exact ⟨_, by go_simp, rfl⟩)) ?_
    refine StepsOk.cons (stepOk_pure [(6, 23), (4, 21)] [] rfl rfl (by kernel_rfl) (by kernel_rfl) rfl Old.refl' (fun _ _ _ h => h) (fun d E w' hk hda hS hc hf => by rintro _ q6 rfl e23 _ q4 rfl e21 ; obtain ⟨⟨s0, s1, s2, s3, s4, s5⟩, -, -, -, ho⟩ := hX.out _ hS; have t0 := hQ.out _ ho; exact ⟨_, by go_simp, rfl⟩)) ?_
    refine StepsOk.cons (stepOk_pure [(7, 24)] [] rfl rfl (by kernel_rfl) (by kernel_rfl) rfl Old.refl' (fun _ _ _ h => h) (fun d E w' hk hda hS hc hf => by rintro _ q7 rfl e24 ; obtain ⟨⟨s0, s1, s2, s3, s4, s5⟩, -, -, -, ho⟩ := hX.out _ hS; have t0 := hQ.out _ ho; exact ⟨_, by go_simp, rfl⟩)) ?_
    refine StepsOk.cons (stepOk_pure [(1, 18), (8, 25)] [] rfl rfl (by kernel_rfl) (by kernel_rfl) rfl Old.refl' (fun _ _ _ h => h) (fun d E w' hk hda hS hc hf => by rintro _ q1 rfl e18 _ q8 rfl e25 ; exact ⟨_, by go_simp, rfl⟩)) ?_
    exact StepsOk.nil
  case ends =>
    intro σ9 w9 hS9 hA9
    refine Ends.eqv (some 17) (.pointer (some ⟨w.heap.size, 1, none⟩)) rfl (fun _ h => h) ?_
    refine Ends.eqv (some 18) (.int .i64 s) rfl (fun _ h => h) ?_
    refine Ends.eqv (some 19) (.pointer (some ⟨g, 0, none⟩)) rfl (fun _ h => h) ?_
    refine Ends.eqv (some 20) (.pointer (some ⟨w.heap.size, 0, none⟩)) rfl (fun _ h => h) ?_
    refine Ends.eqv (some 21) (.int .i64 c) rfl (fun _ h => h) ?_
    refine Ends.eqv (some 22) (.pointer (some ⟨g, 0, none⟩)) rfl (fun _ h => h) ?_
    refine Ends.eqv (some 23) (.pointer (some ⟨g, 34, none⟩)) rfl (fun _ h => h) ?_
    refine Ends.eqv (some 24) (.pointer (some ⟨g, 34 + c, none⟩)) rfl (fun _ h => h) ?_
    refine Ends.eqv (some 25) (.int .i64 x) rfl (fun _ h => h) ?_
    refine Ends.eqv (some 26) (.bool true) rfl (fun _ h => h) ?_
    refine Ends.nil ?_
    clear hA9
    simp only [put_lit, put_none, List.set_cons_zero, List.set_cons_succ]
    clear x0 x1 x2 x3 x4 x5 y0 y1 y2 y3 f0 f1 f2 f3 l1 o1 hbb
    obtain ⟨⟨x0, x1, x2, x3, x4, x5⟩, ⟨y0, y1, y2, y3⟩, ⟨f0, f1, f2, f3⟩, l1, o1⟩ := hX.out _ hS9
    have hbb := hS9
    clear hS9
    go_wp2_with fail
    refine bodyPost_ret (v := .tuple #[.agg #[.int .i64 0, .int .i64 0, .string ByteArray.empty, .slice none 0 0], .int .i64 9]) ?_ rfl ⟨rfl, ?_⟩
    · simp [results, Try.results21, go_sem, *]
      try rfl
    · repeat (first | with_reducible exact o1 | with_reducible refine Old.setCell' ?_ (by simp) _)
set_option maxRecDepth 100000 in
set_option maxHeartbeats 4000000 in
theorem SPut_done (g : Nat) (F : Nat → Prop) (st : StV) (q : Q) (hq : (q.may && Writes q.kind) = true) (hs : (st.ss q.client).seq < q.seq) (hfew : st.n ≤ 50000) (w : World) (h : SDAt w g F st) :
    Calls Try.prog 21 #[.pointer (some ⟨g, 0, none⟩), q.v] w fun e w' => (∃ A c, e = .returned (.tuple #[.agg #[.int .i64 (st.doRep q).code, .int .i64 (st.doRep q).ver, .string (st.doRep q).data, .slice A 0 c], .int .i64 0])) ∧
      (∃ F', SDAt w' g F' (st.done q) ∧ ∀ k, F' k → F k ∨ w.heap.size ≤ k) ∧ Fr F w w' := by
  obtain ⟨c, s, k, i, m, d⟩ := q
  obtain ⟨R, hR⟩ : ∃ R, st.doRep ⟨c, s, k, i, m, d⟩ = R := ⟨_, rfl⟩
  obtain ⟨L, hL⟩ : ∃ L, st.doL ⟨c, s, k, i, m, d⟩ = L := ⟨_, rfl⟩
  have hL' : doL (st.f i) k m st.quota d = L := hL
  have hR' : doRep (st.f i) k m st.quota d = R := hR
  have HR := hide hR
  have HL := hide hL
  rw [hR]
  clear hR hL
  simp only [Q.v, Q.may, Bool.and_eq_true] at hq hs ⊢
  obtain ⟨h1, h2⟩ := hq
  have hcc : 0 ≤ c ∧ c ≤ 3 ∧ 0 ≤ i ∧ i ≤ 31 ∧ -9223372036854775808 ≤ m ∧ m ≤ 9223372036854775807 := by
    simp only [mayQ, Bool.and_eq_true, decide_eq_true_eq] at h1
    omega
  obtain ⟨hc0, hc3, hi0, hi31, hm0, hm1⟩ := hcc
  obtain ⟨c, rfl⟩ : ∃ n : Nat, c = n := ⟨c.toNat, by omega⟩
  obtain ⟨i, rfl⟩ : ∃ n : Nat, i = n := ⟨i.toNat, by omega⟩
  obtain ⟨x, hx⟩ : ∃ x, (st.ss c).seq = x := ⟨_, rfl⟩
  rw [hx] at hs
  obtain ⟨n, hn⟩ : ∃ n, (st.f i).length = n := ⟨_, rfl⟩
  have hnf := h.2.1 i
  obtain ⟨A, cc, hA, hV, hAF⟩ := h.1.fm i (by omega)
  rw [hn] at hA
  have hRv : R.vs = [] := by
    rw [← hR']
    exact doRep_vs h2
  have hLlen : L.length ≤ n + 1 := by
    rw [← hL', ← hn]
    unfold doL
    split
    · unfold doR
      repeat' split
      all_goals simp
    · omega
  obtain ⟨nL, hnL⟩ : ∃ nL, L.length = nL := ⟨_, rfl⟩
  have cD := hide (fun (W : World) (hW : Old w W) => RDo_at2 L R A n cc (st.f i) (by omega) hn.symm c s k i m st.quota d W (CellsAt.old hV hW) hm0 hm1 hL' hR' nL 0 hnL (by rw [hRv]; rfl))
  have hQ := hide (fun (W : World) (hW : Old w W) => (hx ▸ (h.old hW).1.sqs c (by omega) : W.cell? ⟨g, 34 + c, none⟩ = some (.int .i64 x)))
  have hQ0 := hide (fun (W : World) (hW : Old w W) => (h.old hW).1.q0)
  have hQF := hide (fun (W : World) (hW : Old w W) => ((bcell hW).1 g (2 + i) (h.1.lt g h.1.gF)).trans hA)
  have cM := hide (fun (W : World) => rMay_at c s k i m d true h1 W)
  have cW := hide (fun (W : World) => rWrites_at c s k i m d true h2 W)
  have hX := hide (fun (W : World) (h : Old ((w.alloc (.cells #[.int .i64 c, .int .i64 s, .int .i64 k, .int .i64 i, .int .i64 m, .string d] 24)).alloc (.cells #[.int .i64 0, .int .i64 0, .string ByteArray.empty, .slice none 0 0] 43)) W) => boxed h)
  have hle : ¬ s ≤ x := by omega
  have hc4 : (c : Int) < 4 := by omega
  have hi32 : (i : Int) < 32 := by omega
  have hgl := h.1.lt g h.1.gF
  have HFL := hide (fun (hne : st.f i ≠ []) (a : Addr) (ha : A = some a) => (h.1.lt a.block (hAF hne a ha).1 : a.block < w.heap.size))
  have HAF := hide (fun (hL : L ≠ []) {A1 : Option Addr} {W : World} (hn3 : (A1 = A ∧ L = st.f i) ∨ ∀ a, A1 = some a → W.heap.size ≤ a.block) (a : Addr) (ha : A1 = some a) (hs : w.heap.size + 2 ≤ W.heap.size) => (by
    rcases hn3 with ⟨e1, e2⟩ | hn3
    · exact ⟨(hAF (e2 ▸ hL) a (e1 ▸ ha)).2, .inl (hAF (e2 ▸ hL) a (e1 ▸ ha)).1⟩
    · have := hn3 a ha; exact ⟨by omega, .inr (by omega)⟩ : a.block ≠ g ∧ (F a.block ∨ w.heap.size + 2 ≤ a.block)))
  have HS := hide h
  have HV := hide hV
  have HN := hide hn
  have HNL := hide hnL
  have HRV := hide hRv
  obtain ⟨qt, hqt⟩ : ∃ qt, st.quota = qt := ⟨_, rfl⟩
  rw [hqt] at hQ0 cD
  have HQT := hide hqt
  have HLL := hide hLlen
  clear h1 h2 hs hx h hV hA hAF hn hnL hRv hL' hR' hqt hLlen
  go_enter Try.func21, Try.ntmps21
  go_wp2_with (first
    | (go_at_call 31; refine (cM.out _).mono ?_; rintro e w1 ⟨rfl, hb1⟩; obtain ⟨⟨x0, x1, x2, x3, x4, x5⟩, ⟨y0, y1, y2, y3⟩, ⟨f0, f1, f2, f3⟩, l1, o1⟩ := hX.out _ hb1)
    | (go_at_call 18; refine (cW.out _).mono ?_; rintro e w2 ⟨rfl, hb2⟩; clear x0 x1 x2 x3 x4 x5 y0 y1 y2 y3 f0 f1 f2 f3 l1 o1; obtain ⟨⟨x0, x1, x2, x3, x4, x5⟩, ⟨y0, y1, y2, y3⟩, ⟨f0, f1, f2, f3⟩, l1, o1⟩ := hX.out _ (hb1.trans' hb2); have hbb := hb1.trans' hb2; clear hb1 hb2))
  refine region_steps (R := pick [eqv (.pointer (some ⟨w.heap.size, 1, none⟩)), eqv (.int .i64 s), eqv (.pointer (some ⟨g, 0, none⟩)), eqv (.pointer (some ⟨w.heap.size, 0, none⟩)), eqv (.int .i64 c), eqv (.pointer (some ⟨g, 0, none⟩)), eqv (.pointer (some ⟨g, 34, none⟩)), eqv (.pointer (some ⟨g, 34 + c, none⟩)), eqv (.int .i64 x), eqv (.bool false)]) (S := fun _ w' => Old ((w.alloc (.cells #[.int .i64 c, .int .i64 s, .int .i64 k, .int .i64 i, .int .i64 m, .string d] 24)).alloc (.cells #[.int .i64 0, .int .i64 0, .string ByteArray.empty, .slice none 0 0] 43)) w') (T := Old) (by kernel_rfl) (by kernel_rfl) (by kernel_rfl) (Stab.pick (Stab.eqv (Stab.eqv (Stab.eqv (Stab.eqv (Stab.eqv (Stab.eqv (Stab.eqv (Stab.eqv (Stab.eqv (Stab.eqv (Stab.nil)))))))))))) (hbb.drew') ?steps ?ends
  case steps =>
    refine StepsOk.cons (stepOk_pure [] [(3, .pointer (some ⟨w.heap.size, 0, none⟩))] rfl rfl (by kernel_rfl) (by kernel_rfl) rfl Old.refl' (fun _ _ _ h => h) (fun d E w' hk hda hS hc hf => by rintro  e3; exact ⟨_, by go_simp, rfl⟩)) ?_
    refine StepsOk.cons (stepOk_pure [(0, 17)] [] rfl rfl (by kernel_rfl) (by kernel_rfl) rfl Old.refl' (fun _ _ _ h => h) (fun d E w' hk hda hS hc hf => by rintro _ q0 rfl e17 ; obtain ⟨⟨s0, s1, s2, s3, s4, s5⟩, -, -, -, ho⟩ := hX.out _ hS; have t0 := hQ.out _ ho; exact ⟨_, by go_simp, rfl⟩)) ?_
    refine StepsOk.cons (stepOk_pure [] [(0, .pointer (some ⟨g, 0, none⟩))] rfl rfl (by kernel_rfl) (by kernel_rfl) rfl Old.refl' (fun _ _ _ h => h) (fun d E w' hk hda hS hc hf => by rintro  e0; exact ⟨_, by go_simp, rfl⟩)) ?_
    refine StepsOk.cons (stepOk_pure [] [(3, .pointer (some ⟨w.heap.size, 0, none⟩))] rfl rfl (by kernel_rfl) (by kernel_rfl) rfl Old.refl' (fun _ _ _ h => h) (fun d E w' hk hda hS hc hf => by rintro  e3; exact ⟨_, by go_simp, rfl⟩)) ?_
    refine StepsOk.cons (stepOk_pure [(3, 20)] [] rfl rfl (by kernel_rfl) (by kernel_rfl) rfl Old.refl' (fun _ _ _ h => h) (fun d E w' hk hda hS hc hf => by rintro _ q3 rfl e20 ; obtain ⟨⟨s0, s1, s2, s3, s4, s5⟩, -, -, -, ho⟩ := hX.out _ hS; have t0 := hQ.out _ ho; exact ⟨_, by go_simp, rfl⟩)) ?_
    refine StepsOk.cons (stepOk_pure [(2, 19)] [] rfl rfl (by kernel_rfl) (by kernel_rfl) rfl Old.refl' (fun _ _ _ h => h) (fun d E w' hk hda hS hc hf => by rintro _ q2 rfl e19 ; exact ⟨_, by go_simp, rfl⟩)) ?_
    refine StepsOk.cons (stepOk_pure [(5, 22)] [] rfl rfl (by kernel_rfl) (by kernel_rfl) rfl Old.refl' (fun _ _ _ h => h) (fun d E w' hk hda hS hc hf => by rintro _ q5 rfl e22 ; exact ⟨_, by go_simp, rfl⟩)) ?_
    refine StepsOk.cons (stepOk_pure [(6, 23), (4, 21)] [] rfl rfl (by kernel_rfl) (by kernel_rfl) rfl Old.refl' (fun _ _ _ h => h) (fun d E w' hk hda hS hc hf => by rintro _ q6 rfl e23 _ q4 rfl e21 ; obtain ⟨⟨s0, s1, s2, s3, s4, s5⟩, -, -, -, ho⟩ := hX.out _ hS; have t0 := hQ.out _ ho; exact ⟨_, by go_simp, rfl⟩)) ?_
    refine StepsOk.cons (stepOk_pure [(7, 24)] [] rfl rfl (by kernel_rfl) (by kernel_rfl) rfl Old.refl' (fun _ _ _ h => h) (fun d E w' hk hda hS hc hf => by rintro _ q7 rfl e24 ; obtain ⟨⟨s0, s1, s2, s3, s4, s5⟩, -, -, -, ho⟩ := hX.out _ hS; have t0 := hQ.out _ ho; exact ⟨_, by go_simp, rfl⟩)) ?_
    refine StepsOk.cons (stepOk_pure [(1, 18), (8, 25)] [] rfl rfl (by kernel_rfl) (by kernel_rfl) rfl Old.refl' (fun _ _ _ h => h) (fun d E w' hk hda hS hc hf => by rintro _ q1 rfl e18 _ q8 rfl e25 ; exact ⟨_, by go_simp, rfl⟩)) ?_
    exact StepsOk.nil
  case ends =>
    intro σ9 w9 hS9 hA9
    refine Ends.eqv (some 17) (.pointer (some ⟨w.heap.size, 1, none⟩)) rfl (fun _ h => h) ?_
    refine Ends.eqv (some 18) (.int .i64 s) rfl (fun _ h => h) ?_
    refine Ends.eqv (some 19) (.pointer (some ⟨g, 0, none⟩)) rfl (fun _ h => h) ?_
    refine Ends.eqv (some 20) (.pointer (some ⟨w.heap.size, 0, none⟩)) rfl (fun _ h => h) ?_
    refine Ends.eqv (some 21) (.int .i64 c) rfl (fun _ h => h) ?_
    refine Ends.eqv (some 22) (.pointer (some ⟨g, 0, none⟩)) rfl (fun _ h => h) ?_
    refine Ends.eqv (some 23) (.pointer (some ⟨g, 34, none⟩)) rfl (fun _ h => h) ?_
    refine Ends.eqv (some 24) (.pointer (some ⟨g, 34 + c, none⟩)) rfl (fun _ h => h) ?_
    refine Ends.eqv (some 25) (.int .i64 x) rfl (fun _ h => h) ?_
    refine Ends.eqv (some 26) (.bool false) rfl (fun _ h => h) ?_
    refine Ends.nil ?_
    clear hA9
    simp only [put_lit, put_none, List.set_cons_zero, List.set_cons_succ]
    clear x0 x1 x2 x3 x4 x5 y0 y1 y2 y3 f0 f1 f2 f3 l1 o1 hbb
    obtain ⟨⟨x0, x1, x2, x3, x4, x5⟩, ⟨y0, y1, y2, y3⟩, ⟨f0, f1, f2, f3⟩, l1, o1⟩ := hX.out _ hS9
    have hbb := hS9
    clear hS9
    clear x0 x1 x2 x3 x4 x5 y0 y1 y2 y3 f0 f1 f2 f3
    go_wp2_with fail
    go_cut [6, 7] from 28 to 43 (fun v6 v7 w' => AfterDoD w ((w.alloc (.cells #[.int .i64 c, .int .i64 s, .int .i64 k, .int .i64 i, .int .i64 m, .string d] 24)).alloc (.cells #[.int .i64 0, .int .i64 0, .string ByteArray.empty, .slice none 0 0] 43)) w' g F nL L R v6 v7)
    case first =>
      refine wp_region_Z (S := fun w' => Old ((w.alloc (.cells #[.int .i64 c, .int .i64 s, .int .i64 k, .int .i64 i, .int .i64 m, .string d] 24)).alloc (.cells #[.int .i64 0, .int .i64 0, .string ByteArray.empty, .slice none 0 0] 43)) w') (Z := ([18] : List Nat).contains) (by kernel_rfl) ?_
      refine wpAnyZ_pureD 0 (some 29) (.pointer (some ⟨g, 0, none⟩)) rfl rfl (by kernel_rfl) (by kernel_rfl) (by kernel_rfl) (fun _ _ _ h => h) (Or.inl ⟨by kernel_rfl, fun w_ _ => by generalize hE : Act.eval _ = E; have e0 : E (.tmp 0) = .pointer (some ⟨g, 0, none⟩) := (by rw [← hE]; kernel_rfl); clear hE; go_simp⟩) ?_
      refine wpAnyZ_pureD 1 (some 30) (.pointer (some ⟨w.heap.size, 3, none⟩)) rfl rfl (by kernel_rfl) (by kernel_rfl) (by kernel_rfl) (fun _ _ _ h => h) (Or.inl ⟨by kernel_rfl, fun w_ _ => by generalize hE : Act.eval _ = E; have e0 : E (.tmp 3) = .pointer (some ⟨w.heap.size, 0, none⟩) := (by rw [← hE]; kernel_rfl); clear hE; go_simp⟩) ?_
      refine wpAnyZ_takeD 2 (some 31) (.int .i64 i) rfl rfl (by kernel_rfl) (by kernel_rfl) (by kernel_rfl) (by kernel_rfl) (fun _ _ _ h => h) (Or.inl ⟨by kernel_rfl, fun w' hS => by obtain ⟨⟨s0, s1, s2, s3, s4, s5⟩, -, -, -, ho⟩ := hX.out _ hS; generalize hE : Act.eval _ = E; have e0 : E (.tmp 30) = .pointer (some ⟨w.heap.size, 3, none⟩) := (by rw [← hE]; kernel_rfl); clear hE; go_simp⟩) (by exact hbb.drew') ?_
      refine wpAnyZ_pureD 3 (some 32) (.pointer (some ⟨g, 0, none⟩)) rfl rfl (by kernel_rfl) (by kernel_rfl) (by kernel_rfl) (fun _ _ _ h => h) (Or.inl ⟨by kernel_rfl, fun w_ _ => by generalize hE : Act.eval _ = E; have e0 : E (.tmp 29) = .pointer (some ⟨g, 0, none⟩) := (by rw [← hE]; kernel_rfl); clear hE; go_simp⟩) ?_
      refine wpAnyZ_pureD 4 (some 33) (.pointer (some ⟨g, 2, none⟩)) rfl rfl (by kernel_rfl) (by kernel_rfl) (by kernel_rfl) (fun _ _ _ h => h) (Or.inl ⟨by kernel_rfl, fun w_ _ => by generalize hE : Act.eval _ = E; have e0 : E (.tmp 32) = .pointer (some ⟨g, 0, none⟩) := (by rw [← hE]; kernel_rfl); clear hE; go_simp⟩) ?_
      refine wpAnyZ_pureD 5 (some 34) (.pointer (some ⟨g, 2 + i, none⟩)) rfl rfl (by kernel_rfl) (by kernel_rfl) (by kernel_rfl) (fun _ _ _ h => h) (Or.inl ⟨by kernel_rfl, fun w_ _ => by generalize hE : Act.eval _ = E; have e0 : E (.tmp 33) = .pointer (some ⟨g, 2, none⟩) := (by rw [← hE]; kernel_rfl); have e1 : E (.tmp 31) = .int .i64 i := (by rw [← hE]; kernel_rfl); clear hE; go_simp⟩) ?_
      refine wpAnyZ_takeD 6 (some 35) (.slice A n cc) rfl rfl (by kernel_rfl) (by kernel_rfl) (by kernel_rfl) (by kernel_rfl) (fun _ _ _ h => h) (Or.inl ⟨by kernel_rfl, fun w' hS => by obtain ⟨⟨s0, s1, s2, s3, s4, s5⟩, -, -, -, ho⟩ := hX.out _ hS; have t0 := hQF.out _ ho; generalize hE : Act.eval _ = E; have e0 : E (.tmp 34) = .pointer (some ⟨g, 2 + i, none⟩) := (by rw [← hE]; kernel_rfl); clear hE; go_simp⟩) (by exact hbb.drew') ?_
      refine wpAnyZ_takeD 7 (some 36) (.agg #[.int .i64 c, .int .i64 s, .int .i64 k, .int .i64 i, .int .i64 m, .string d]) rfl rfl (by kernel_rfl) (by kernel_rfl) (by kernel_rfl) (by kernel_rfl) (fun _ _ _ h => h) (Or.inl ⟨by kernel_rfl, fun w' hS => by obtain ⟨⟨s0, s1, s2, s3, s4, s5⟩, -, -, -, ho⟩ := hX.out _ hS; generalize hE : Act.eval _ = E; have e0 : E (.tmp 3) = .pointer (some ⟨w.heap.size, 0, none⟩) := (by rw [← hE]; kernel_rfl); clear hE; go_simp⟩) (by exact hbb.drew') ?_
      refine wpAnyZ_pureD 8 (some 37) (.pointer (some ⟨g, 0, none⟩)) rfl rfl (by kernel_rfl) (by kernel_rfl) (by kernel_rfl) (fun _ _ _ h => h) (Or.inl ⟨by kernel_rfl, fun w_ _ => by generalize hE : Act.eval _ = E; have e0 : E (.tmp 0) = .pointer (some ⟨g, 0, none⟩) := (by rw [← hE]; kernel_rfl); clear hE; go_simp⟩) ?_
      refine wpAnyZ_pureD 9 (some 38) (.pointer (some ⟨g, 0, none⟩)) rfl rfl (by kernel_rfl) (by kernel_rfl) (by kernel_rfl) (fun _ _ _ h => h) (Or.inl ⟨by kernel_rfl, fun w_ _ => by generalize hE : Act.eval _ = E; have e0 : E (.tmp 37) = .pointer (some ⟨g, 0, none⟩) := (by rw [← hE]; kernel_rfl); clear hE; go_simp⟩) ?_
      refine wpAnyZ_pureD 10 (some 39) (.pointer (some ⟨g, 0, none⟩)) rfl rfl (by kernel_rfl) (by kernel_rfl) (by kernel_rfl) (fun _ _ _ h => h) (Or.inl ⟨by kernel_rfl, fun w_ _ => by generalize hE : Act.eval _ = E; have e0 : E (.tmp 38) = .pointer (some ⟨g, 0, none⟩) := (by rw [← hE]; kernel_rfl); clear hE; go_simp⟩) ?_
      refine wpAnyZ_takeD 11 (some 40) (.int .i64 qt) rfl rfl (by kernel_rfl) (by kernel_rfl) (by kernel_rfl) (by kernel_rfl) (fun _ _ _ h => h) (Or.inl ⟨by kernel_rfl, fun w' hS => by obtain ⟨⟨s0, s1, s2, s3, s4, s5⟩, -, -, -, ho⟩ := hX.out _ hS; have t0 := hQ0.out _ ho; generalize hE : Act.eval _ = E; have e0 : E (.tmp 39) = .pointer (some ⟨g, 0, none⟩) := (by rw [← hE]; kernel_rfl); clear hE; go_simp⟩) (by exact hbb.drew') ?_
      refine wpAnyZ_all (rs := [12, 16]) (by kernel_rfl) (by simp) ?_
      intro j hj
      simp only [List.mem_cons, List.not_mem_nil, or_false] at hj
      rcases hj with rfl | rfl
      · refine wpOp_callD (some 41) rfl rfl (by kernel_rfl) 32 _ Try.func32 (by kernel_rfl) (by kernel_rfl) [.tmp 35, .tmp 36, .tmp 40] #[57, 24, 3] rfl [.slice A n cc, .agg #[.int .i64 c, .int .i64 s, .int .i64 k, .int .i64 i, .int .i64 m, .string d], .int .i64 qt] (by kernel_rfl) (cD.out _ (o1.drew')) ?_
        rintro e w3 ⟨A1, c1, A2, c2, rfl, hv3, hn3, hb3⟩
        refine ⟨_, rfl, .inr fun h => h.trans' hb3, ?_⟩
        refine wpAnyZ_pureD 13 (some 28) (.tuple #[.slice A1 nL c1, .agg #[.int .i64 R.code, .int .i64 R.ver, .string R.data, .slice A2 0 c2]]) rfl rfl (by kernel_rfl) (by kernel_rfl) (by kernel_rfl) (fun _ _ _ h => h) (Or.inl ⟨by kernel_rfl, fun w_ _ => by generalize hE : Act.eval _ = E; have e0 : E (.tmp 41) = .tuple #[.slice A1 nL c1, .agg #[.int .i64 R.code, .int .i64 R.ver, .string R.data, .slice A2 0 c2]] := (by rw [← hE]; kernel_rfl); clear hE; go_simp⟩) ?_
        refine wpAnyZ_pureD 14 (some 42) (.slice A1 nL c1) rfl rfl (by kernel_rfl) (by kernel_rfl) (by kernel_rfl) (fun _ _ _ h => h) (Or.inl ⟨by kernel_rfl, fun w_ _ => by generalize hE : Act.eval _ = E; have e0 : E (.tmp 28) = .tuple #[.slice A1 nL c1, .agg #[.int .i64 R.code, .int .i64 R.ver, .string R.data, .slice A2 0 c2]] := (by rw [← hE]; kernel_rfl); clear hE; go_simp⟩) ?_
        refine wpAnyZ_pureD 15 (some 43) (.agg #[.int .i64 R.code, .int .i64 R.ver, .string R.data, .slice A2 0 c2]) rfl rfl (by kernel_rfl) (by kernel_rfl) (by kernel_rfl) (fun _ _ _ h => h) (Or.inl ⟨by kernel_rfl, fun w_ _ => by generalize hE : Act.eval _ = E; have e0 : E (.tmp 28) = .tuple #[.slice A1 nL c1, .agg #[.int .i64 R.code, .int .i64 R.ver, .string R.data, .slice A2 0 c2]] := (by rw [← hE]; kernel_rfl); clear hE; go_simp⟩) ?_
        refine wpAnyZ_one 16 (by kernel_rfl) ?_
        refine wpOp_runD (w' := w3.alloc (.cells #[.int .i64 0, .int .i64 0, .string ByteArray.empty, .slice none 0 0] 43)) (some 7) (.pointer (some ⟨w3.heap.size, 0, none⟩)) rfl rfl rfl (by go_simp; try rfl) ⟨.inr fun h => h.alloc' _, ?_⟩
        refine wpAnyZ_pureD 17 (some 6) (.slice A1 nL c1) rfl rfl (by kernel_rfl) (by kernel_rfl) (by kernel_rfl) (fun _ _ _ h => h) (Or.inl ⟨by kernel_rfl, fun w_ _ => by generalize hE : Act.eval _ = E; have e0 : E (.tmp 42) = .slice A1 nL c1 := (by rw [← hE]; kernel_rfl); clear hE; go_simp⟩) ?_
        refine wpAnyZ_one 18 (by kernel_rfl) ?_
        simp only [put_lit, put_none, List.set_cons_zero, List.set_cons_succ]
        refine wpOp_mk rfl rfl ?_
        go_simp
        refine wpAnyZ_end (by kernel_rfl) ?_ _
        try simp only [put_lit, put_none, List.set_cons_zero, List.set_cons_succ]
        go_wp2_with fail
        go_meet
        case rel => exact ⟨A1, c1, w3.heap.size, A2, c2, rfl, rfl, (hbb.drew'.trans' hb3).alloc' _, CellsAt.alloc hv3 _, fun hL a ha => HAF.out hL hn3 a ha (by have := hbb.size; simpa using this), Bk.new w3 43 _, by have := hb3.size; have := hbb.size; simp at *; omega, fun hL a ha => by have := vers_len hv3 hL a ha; omega⟩
      · refine wpOp_runD (w' := w9.drew.alloc (.cells #[.int .i64 0, .int .i64 0, .string ByteArray.empty, .slice none 0 0] 43)) (some 7) (.pointer (some ⟨w9.drew.heap.size, 0, none⟩)) rfl rfl rfl (by go_simp; try rfl) ⟨.inr fun h => h.alloc' _, ?_⟩
        refine wpAnyZ_one 12 (by kernel_rfl) ?_
        refine wpOp_callD (some 41) rfl rfl (by kernel_rfl) 32 _ Try.func32 (by kernel_rfl) (by kernel_rfl) [.tmp 35, .tmp 36, .tmp 40] #[57, 24, 3] rfl [.slice A n cc, .agg #[.int .i64 c, .int .i64 s, .int .i64 k, .int .i64 i, .int .i64 m, .string d], .int .i64 qt] (by kernel_rfl) (cD.out _ (o1.drew'.alloc' _)) ?_
        rintro e w3 ⟨A1, c1, A2, c2, rfl, hv3, hn3, hb3⟩
        refine ⟨_, rfl, .inr fun h => h.trans' hb3, ?_⟩
        have hk8 : Bk w3 w9.heap.size 43 #[.int .i64 0, .int .i64 0, .string ByteArray.empty, .slice none 0 0] := (Bk.new w9.drew 43 #[.int .i64 0, .int .i64 0, .string ByteArray.empty, .slice none 0 0]).old hb3
        obtain ⟨⟨r0, r1, r2, r3⟩, ⟨v0, v1, v2, v3⟩, l8⟩ := bk4 hk8
        have hne : L ≠ [] → ∀ a, A1 = some a → a.block ≠ w9.heap.size := fun hL a ha => by
          rcases hn3 with ⟨e1, e2⟩ | hn3
          · have := HFL.out (e2 ▸ hL) a (e1 ▸ ha); have := hbb.size; simp at *; omega
          · have := hn3 a ha; simp at this; omega
        refine wpAnyZ_pureD 13 (some 28) (.tuple #[.slice A1 nL c1, .agg #[.int .i64 R.code, .int .i64 R.ver, .string R.data, .slice A2 0 c2]]) rfl rfl (by kernel_rfl) (by kernel_rfl) (by kernel_rfl) (fun _ _ _ h => h) (Or.inl ⟨by kernel_rfl, fun w_ _ => by generalize hE : Act.eval _ = E; have e0 : E (.tmp 41) = .tuple #[.slice A1 nL c1, .agg #[.int .i64 R.code, .int .i64 R.ver, .string R.data, .slice A2 0 c2]] := (by rw [← hE]; kernel_rfl); clear hE; go_simp⟩) ?_
        refine wpAnyZ_pureD 14 (some 42) (.slice A1 nL c1) rfl rfl (by kernel_rfl) (by kernel_rfl) (by kernel_rfl) (fun _ _ _ h => h) (Or.inl ⟨by kernel_rfl, fun w_ _ => by generalize hE : Act.eval _ = E; have e0 : E (.tmp 28) = .tuple #[.slice A1 nL c1, .agg #[.int .i64 R.code, .int .i64 R.ver, .string R.data, .slice A2 0 c2]] := (by rw [← hE]; kernel_rfl); clear hE; go_simp⟩) ?_
        refine wpAnyZ_pureD 15 (some 43) (.agg #[.int .i64 R.code, .int .i64 R.ver, .string R.data, .slice A2 0 c2]) rfl rfl (by kernel_rfl) (by kernel_rfl) (by kernel_rfl) (fun _ _ _ h => h) (Or.inl ⟨by kernel_rfl, fun w_ _ => by generalize hE : Act.eval _ = E; have e0 : E (.tmp 28) = .tuple #[.slice A1 nL c1, .agg #[.int .i64 R.code, .int .i64 R.ver, .string R.data, .slice A2 0 c2]] := (by rw [← hE]; kernel_rfl); clear hE; go_simp⟩) ?_
        refine wpAnyZ_pureD 17 (some 6) (.slice A1 nL c1) rfl rfl (by kernel_rfl) (by kernel_rfl) (by kernel_rfl) (fun _ _ _ h => h) (Or.inl ⟨by kernel_rfl, fun w_ _ => by generalize hE : Act.eval _ = E; have e0 : E (.tmp 42) = .slice A1 nL c1 := (by rw [← hE]; kernel_rfl); clear hE; go_simp⟩) ?_
        refine wpAnyZ_one 18 (by kernel_rfl) ?_
        simp only [put_lit, put_none, List.set_cons_zero, List.set_cons_succ]
        refine wpOp_mk rfl rfl ?_
        go_simp
        refine wpAnyZ_end (by kernel_rfl) ?_ _
        try simp only [put_lit, put_none, List.set_cons_zero, List.set_cons_succ]
        go_wp2_with fail
        go_meet
        case rel => exact ⟨A1, c1, w9.heap.size, A2, c2, rfl, rfl, Old.setCell' (Old.setCell' (Old.setCell' (Old.setCell' ((hbb.drew'.alloc' _).trans' hb3) (by have := hbb.size; simpa using this) _) (by have := hbb.size; simpa using this) _) (by have := hbb.size; simpa using this) _) (by have := hbb.size; simpa using this) _, vers_set4 hv3 hne, fun hL a ha => HAF.out hL hn3 a ha (by have := hbb.size; simp at *; omega), Bk.set4 hk8, by have := hbb.size; simp at *; omega, hne⟩
    case rest =>
      clear hbb l1 o1 cD
      obtain ⟨W6, rfl⟩ : ∃ W, W = wc := ⟨_, rfl⟩
      obtain ⟨A1, c1, b8, A2, c2, rfl, rfl, hbb, hv1, hn1, hk8, hb8, hne8⟩ := hcut
      obtain ⟨⟨x0, x1, x2, x3, x4, x5⟩, ⟨y0, y1, y2, y3⟩, ⟨f0, f1, f2, f3⟩, l1, o1⟩ := hX.out _ hbb
      have bq : Bk W6 w.heap.size 24 #[.int .i64 c, .int .i64 s, .int .i64 k, .int .i64 i, .int .i64 m, .string d] := ((Bk.new w 24 _).alloc _).old hbb
      have br : Bk W6 (w.heap.size + 1) 43 #[.int .i64 0, .int .i64 0, .string ByteArray.empty, .slice none 0 0] := (bk_new1 w _ 43 _).old hbb
      obtain ⟨f', hf'⟩ : ∃ f', (fun k' => if k' = (i : Int) then L else st.f k') = f' := ⟨_, rfl⟩
      obtain ⟨n0, hn0⟩ : ∃ n0, st.n = n0 := ⟨_, rfl⟩
      obtain ⟨sq, hsq⟩ : ∃ sq, (fun c => (st.ss c).seq) = sq := ⟨_, rfl⟩
      obtain ⟨pl, hpl⟩ : ∃ pl, (fun c => (st.ss c).place) = pl := ⟨_, rfl⟩
      obtain ⟨rp, hrp⟩ : ∃ rp, (fun c => (st.ss c).rep) = rp := ⟨_, rfl⟩
      have h6 : SD W6 g F qt n0 st.f sq pl rp := hn0 ▸ HQT.out ▸ hsq ▸ hpl ▸ hrp ▸ (HS.out.old o1).1
      obtain ⟨A0, c0, g6, -, -⟩ := h6.fm i (by omega)
      have z6 := h6.fz (2 + i)
      have lg := h6.lt g h6.gF
      have hG1 : ∀ x, w.heap.size ≤ x → ¬ F x := fun x hx h => by have := HS.out.1.lt x h; omega
      obtain ⟨F1, hF1e⟩ : ∃ F1 : Nat → Prop, F1 = fun k => F k ∨ (L ≠ [] ∧ ∃ a, A1 = some a ∧ k = a.block) := ⟨_, rfl⟩
      have hF1 : ∀ k, F1 k → F k ∨ w.heap.size + 2 ≤ k := fun k hk => by
        rw [hF1e] at hk
        rcases hk with h | ⟨hL, a, ha, rfl⟩
        · exact .inl h
        · exact (hn1 hL a ha).2
      have n8 : ¬ F1 b8 := fun h => by
        rw [hF1e] at h
        rcases h with h | ⟨hL, a, ha, e⟩
        · exact hG1 _ (by omega) h
        · exact hne8 hL a ha e.symm
      have H6 := hide h6
      have HF' := hide hf'
      have HN0 := hide hn0
      have HSQ := hide hsq
      have HPL := hide hpl
      have HRP := hide hrp
      have HF1E := hide hF1e
      have HF1 := hide hF1
      have N8 := hide n8
      have HNE := hide (fun (hL : L ≠ []) (a : Addr) (ha : A1 = some a) => (hn1 hL a ha).1)
      clear hf' hn0 hsq hpl hrp hF1e hF1 n8 hn1 hne8 h6 hbb l1
      go_wp2_with fail
      refine region_steps (R := pick [eqv (.pointer (some ⟨g, 0, none⟩)), eqv (.pointer (some ⟨w.heap.size, 3, none⟩)), eqv (.int .i64 i), eqv (.slice A1 nL c1), eqv (.pointer (some ⟨g, 0, none⟩)), eqv (.pointer (some ⟨g, 2, none⟩)), eqv (.pointer (some ⟨g, 2 + i, none⟩)), eqv (undef)]) (S := fun σ w' => (σ 7 = none → w' = W6.drew) ∧ (σ 7 ≠ none → w' = W6.drew.setCell ⟨g, 2 + i, none⟩ (.slice A1 nL c1))) (T := (fun _ _ => True)) (by kernel_rfl) (by kernel_rfl) (by kernel_rfl) (Stab.pick (Stab.eqv (Stab.eqv (Stab.eqv (Stab.eqv (Stab.eqv (Stab.eqv (Stab.eqv (Stab.eqv (Stab.nil)))))))))) (⟨fun _ => rfl, fun h => absurd rfl h⟩) ?steps ?ends
      case steps =>
        refine StepsOk.cons (stepOk_pure [] [(0, .pointer (some ⟨g, 0, none⟩))] rfl rfl (by kernel_rfl) (by kernel_rfl) rfl (fun _ => trivial) (fun σ v w h => by simpa [upd] using h) (fun d E w' hk hda hS hc hf => by rintro  e0; exact ⟨_, by go_simp, rfl⟩)) ?_
        refine StepsOk.cons (stepOk_pure [] [(3, .pointer (some ⟨w.heap.size, 0, none⟩))] rfl rfl (by kernel_rfl) (by kernel_rfl) rfl (fun _ => trivial) (fun σ v w h => by simpa [upd] using h) (fun d E w' hk hda hS hc hf => by rintro  e3; exact ⟨_, by go_simp, rfl⟩)) ?_
        refine StepsOk.cons (stepOk_pure [(1, 45)] [] rfl rfl (by kernel_rfl) (by kernel_rfl) rfl (fun _ => trivial) (fun σ v w h => by simpa [upd] using h) (fun d E w' hk hda hS hc hf => by rintro _ q1 rfl e45 ; obtain rfl := hS.1 (hk 7 (by kernel_rfl)); exact ⟨_, by go_simp, rfl⟩)) ?_
        refine StepsOk.cons (stepOk_pure [] [(6, .slice A1 nL c1)] rfl rfl (by kernel_rfl) (by kernel_rfl) rfl (fun _ => trivial) (fun σ v w h => by simpa [upd] using h) (fun d E w' hk hda hS hc hf => by rintro  e6; exact ⟨_, by go_simp, rfl⟩)) ?_
        refine StepsOk.cons (stepOk_pure [(0, 44)] [] rfl rfl (by kernel_rfl) (by kernel_rfl) rfl (fun _ => trivial) (fun σ v w h => by simpa [upd] using h) (fun d E w' hk hda hS hc hf => by rintro _ q0 rfl e44 ; exact ⟨_, by go_simp, rfl⟩)) ?_
        refine StepsOk.cons (stepOk_pure [(4, 48)] [] rfl rfl (by kernel_rfl) (by kernel_rfl) rfl (fun _ => trivial) (fun σ v w h => by simpa [upd] using h) (fun d E w' hk hda hS hc hf => by rintro _ q4 rfl e48 ; exact ⟨_, by go_simp, rfl⟩)) ?_
        refine StepsOk.cons (stepOk_pure [(5, 49), (2, 46)] [] rfl rfl (by kernel_rfl) (by kernel_rfl) rfl (fun _ => trivial) (fun σ v w h => by simpa [upd] using h) (fun d E w' hk hda hS hc hf => by rintro _ q5 rfl e49 _ q2 rfl e46 ; obtain rfl := hS.1 (hk 7 (by kernel_rfl)); exact ⟨_, by go_simp, rfl⟩)) ?_
        refine StepsOk.cons (stepOk_store [(6, 50), (3, 47)] [] rfl rfl (by kernel_rfl) (by kernel_rfl) rfl (fun d E w' hk hda hS hc hf => by rintro _ q6 rfl e50 _ q3 rfl e47 ; obtain rfl := hS.1 (hk 7 (by kernel_rfl)); exact ⟨W6.drew.setCell ⟨g, 2 + i, none⟩ (.slice A1 nL c1), by go_simp, rfl, trivial, ⟨fun h => by simp [upd] at h, fun _ => rfl⟩⟩)) ?_
        exact StepsOk.nil
      case ends =>
        intro σ9 w9 hS9 hA9
        refine Ends.eqv (some 44) (.pointer (some ⟨g, 0, none⟩)) rfl (fun _ h => h) ?_
        refine Ends.eqv (some 45) (.pointer (some ⟨w.heap.size, 3, none⟩)) rfl (fun _ h => h) ?_
        refine Ends.eqv (some 46) (.int .i64 i) rfl (fun _ h => h) ?_
        refine Ends.eqv (some 47) (.slice A1 nL c1) rfl (fun _ h => h) ?_
        refine Ends.eqv (some 48) (.pointer (some ⟨g, 0, none⟩)) rfl (fun _ h => h) ?_
        refine Ends.eqv (some 49) (.pointer (some ⟨g, 2, none⟩)) rfl (fun _ h => h) ?_
        refine Ends.eqv (some 50) (.pointer (some ⟨g, 2 + i, none⟩)) rfl (fun _ h => h) ?_
        refine Ends.eqv none (undef) rfl (fun _ h => h) ?_
        refine Ends.nil ?_
        have hA9' := hA9
        clear hA9
        simp only [put_lit, put_none, List.set_cons_zero, List.set_cons_succ]
        have hw7 := hS9.2 (by have := hA9' 7 (by simp); intro e; rw [e] at this; simp at this)
        clear hS9 hA9'
        have h7 : SD w9 g F1 qt n0 f' sq pl rp := hw7 ▸ HF1E.out ▸ HF'.out ▸ (H6.out.drew).setF (i := i) (by omega) (CellsAt.drew hv1) HNL.out HNE.out
        have f7 : Fr (fun k => k = g) W6.drew w9 := hw7 ▸ Fr.setCell (S := fun k => k = g) (p := ⟨g, 2 + i, none⟩) (Fr.refl _ _) (.inr rfl) _
        have ne8 : g ≠ b8 := fun e => N8.out (e ▸ h7.gF)
        have neq : g ≠ w.heap.size := by omega
        have ner : g ≠ w.heap.size + 1 := by omega
        have q7 := bq.drew.fr f7 (Ne.symm neq)
        have r7 := br.drew.fr f7 (Ne.symm ner)
        have k7 := hk8.drew.fr f7 (Ne.symm ne8)
        have F7 := hide ((Fr.of_old o1.drew').trans (f7.mono fun x _ hx => by subst hx; exact HS.out.1.gF) : Fr F w w9)
        clear hw7 f7 bq br hk8 hv1 g6 z6 lg o1 x0 x1 x2 x3 x4 x5 y0 y1 y2 y3 f0 f1 f2 f3
        have c0' := h7.n0
        have z0 := h7.fz 1
        have lg := h7.lt g h7.gF
        have hn01 : (n0 : Int) ≤ 50000 := by have := HN0.out; omega
        go_wp2_with fail
        obtain ⟨W8, hW8⟩ : ∃ W, w9.setCell ⟨g, 1, none⟩ (.int .i64 ((n0 : Int) + 1)) = W := ⟨_, rfl⟩
        have H8 := hide (hW8 ▸ h7.setN (n0 + 1) _ (by omega) : SD W8 g F1 qt (n0 + 1) f' sq pl rp)
        have q8 : Bk W8 w.heap.size 24 #[.int .i64 c, .int .i64 s, .int .i64 k, .int .i64 i, .int .i64 m, .string d] := hW8 ▸ q7.far (p := ⟨g, 1, none⟩) (Ne.symm neq) _
        have r8 : Bk W8 (w.heap.size + 1) 43 #[.int .i64 0, .int .i64 0, .string ByteArray.empty, .slice none 0 0] := hW8 ▸ r7.far (p := ⟨g, 1, none⟩) (Ne.symm ner) _
        have k8 : Bk W8 b8 43 #[.int .i64 R.code, .int .i64 R.ver, .string R.data, .slice A2 0 c2] := hW8 ▸ k7.far (p := ⟨g, 1, none⟩) (Ne.symm ne8) _
        have F8 := hide (hW8 ▸ F7.out.setCell (p := ⟨g, 1, none⟩) (.inr HS.out.1.gF) _ : Fr F w W8)
        rw [hW8]
        clear hW8 c0' z0 lg h7 q7 r7 k7
        have Q8 := hide (fun (W : World) (h : Fr (fun k => k = g) W8.drew W) => q8.drew.fr h (Ne.symm neq))
        have K8 := hide (fun (W : World) (h : Fr (fun k => k = g) W8.drew W) => k8.drew.fr h (Ne.symm ne8))
        have hcast : ((n0 : Int) + 1) = ((n0 + 1 : Nat) : Int) := by omega
        have HCAST := hide hcast
        have HR8 := hide (fun (W : World) (h : Fr (fun k => k = g) W8.drew W) => r8.drew.fr h (Ne.symm ner))
        clear hcast q8 r8 k8
        refine region_steps (R := pick [eqv (.pointer (some ⟨g, 0, none⟩)), eqv (.pointer (some ⟨w.heap.size, 0, none⟩)), eqv (.int .i64 c), eqv (.pointer (some ⟨g, 0, none⟩)), eqv (.pointer (some ⟨w.heap.size, 0, none⟩)), eqv (.int .i64 c), eqv (.pointer (some ⟨g, 0, none⟩)), eqv (.pointer (some ⟨w.heap.size, 0, none⟩)), eqv (.int .i64 c), eqv (.pointer (some ⟨w.heap.size, 1, none⟩)), eqv (.int .i64 s), eqv (.pointer (some ⟨g, 0, none⟩)), eqv (.pointer (some ⟨g, 0, none⟩)), eqv (.pointer (some ⟨g, 1, none⟩)), eqv (.int .i64 (n0 + 1)), eqv (.agg #[.int .i64 R.code, .int .i64 R.ver, .string R.data, .slice A2 0 c2]), eqv (.pointer (some ⟨g, 0, none⟩)), eqv (.pointer (some ⟨g, 34, none⟩)), eqv (.pointer (some ⟨g, 34 + c, none⟩)), eqv (undef), eqv (.pointer (some ⟨g, 0, none⟩)), eqv (.pointer (some ⟨g, 38, none⟩)), eqv (.pointer (some ⟨g, 38 + c, none⟩)), eqv (undef), eqv (.pointer (some ⟨g, 0, none⟩)), eqv (.pointer (some ⟨g, 42, none⟩)), eqv (.pointer (some ⟨g, 42 + c * 4, none⟩)), eqv (undef)]) (S := fun σ w' => SD w' g F1 qt (n0 + 1) f' (sel (σ 19) sq (fun k => if k = (c : Int) then s else sq k)) (sel (σ 23) pl (fun k => if k = (c : Int) then n0 + 1 else pl k)) (sel (σ 27) rp (fun k => if k = (c : Int) then R else rp k)) ∧ Fr (fun k => k = g) W8.drew w') (T := (fun _ _ => True)) (by kernel_rfl) (by kernel_rfl) (by kernel_rfl) (Stab.pick (Stab.eqv (Stab.eqv (Stab.eqv (Stab.eqv (Stab.eqv (Stab.eqv (Stab.eqv (Stab.eqv (Stab.eqv (Stab.eqv (Stab.eqv (Stab.eqv (Stab.eqv (Stab.eqv (Stab.eqv (Stab.eqv (Stab.eqv (Stab.eqv (Stab.eqv (Stab.eqv (Stab.eqv (Stab.eqv (Stab.eqv (Stab.eqv (Stab.eqv (Stab.eqv (Stab.eqv (Stab.eqv (Stab.nil)))))))))))))))))))))))))))))) (⟨by simpa [sel] using H8.out.drew, Fr.refl _ _⟩) ?steps ?ends
        case steps =>
          refine StepsOk.cons (stepOk_pure [] [(0, .pointer (some ⟨g, 0, none⟩))] rfl rfl (by kernel_rfl) (by kernel_rfl) rfl (fun _ => trivial) (fun σ v w h => by simpa [upd] using h) (fun d E w' hk hda hS hc hf => by rintro  e0; exact ⟨_, by go_simp, rfl⟩)) ?_
          refine StepsOk.cons (stepOk_pure [] [(3, .pointer (some ⟨w.heap.size, 0, none⟩))] rfl rfl (by kernel_rfl) (by kernel_rfl) rfl (fun _ => trivial) (fun σ v w h => by simpa [upd] using h) (fun d E w' hk hda hS hc hf => by rintro  e3; exact ⟨_, by go_simp, rfl⟩)) ?_
          refine StepsOk.cons (stepOk_pure [(1, 59)] [] rfl rfl (by kernel_rfl) (by kernel_rfl) rfl (fun _ => trivial) (fun σ v w h => by simpa [upd] using h) (fun d E w' hk hda hS hc hf => by rintro _ q1 rfl e59 ; obtain ⟨⟨x0, x1, x2, x3, x4, x5⟩, lq⟩ := bk6 (Q8.out _ hS.2); obtain ⟨⟨r0, r1, r2, r3⟩, -, lr⟩ := bk4 (K8.out _ hS.2); have c1 : w'.cell? ⟨g, 1, none⟩ = some (.int .i64 (n0 + 1)) := HCAST.out ▸ hS.1.n0; exact ⟨_, by go_simp, rfl⟩)) ?_
          refine StepsOk.cons (stepOk_pure [] [(0, .pointer (some ⟨g, 0, none⟩))] rfl rfl (by kernel_rfl) (by kernel_rfl) rfl (fun _ => trivial) (fun σ v w h => by simpa [upd] using h) (fun d E w' hk hda hS hc hf => by rintro  e0; exact ⟨_, by go_simp, rfl⟩)) ?_
          refine StepsOk.cons (stepOk_pure [] [(3, .pointer (some ⟨w.heap.size, 0, none⟩))] rfl rfl (by kernel_rfl) (by kernel_rfl) rfl (fun _ => trivial) (fun σ v w h => by simpa [upd] using h) (fun d E w' hk hda hS hc hf => by rintro  e3; exact ⟨_, by go_simp, rfl⟩)) ?_
          refine StepsOk.cons (stepOk_pure [(4, 62)] [] rfl rfl (by kernel_rfl) (by kernel_rfl) rfl (fun _ => trivial) (fun σ v w h => by simpa [upd] using h) (fun d E w' hk hda hS hc hf => by rintro _ q4 rfl e62 ; obtain ⟨⟨x0, x1, x2, x3, x4, x5⟩, lq⟩ := bk6 (Q8.out _ hS.2); obtain ⟨⟨r0, r1, r2, r3⟩, -, lr⟩ := bk4 (K8.out _ hS.2); have c1 : w'.cell? ⟨g, 1, none⟩ = some (.int .i64 (n0 + 1)) := HCAST.out ▸ hS.1.n0; exact ⟨_, by go_simp, rfl⟩)) ?_
          refine StepsOk.cons (stepOk_pure [] [(0, .pointer (some ⟨g, 0, none⟩))] rfl rfl (by kernel_rfl) (by kernel_rfl) rfl (fun _ => trivial) (fun σ v w h => by simpa [upd] using h) (fun d E w' hk hda hS hc hf => by rintro  e0; exact ⟨_, by go_simp, rfl⟩)) ?_
          refine StepsOk.cons (stepOk_pure [] [(3, .pointer (some ⟨w.heap.size, 0, none⟩))] rfl rfl (by kernel_rfl) (by kernel_rfl) rfl (fun _ => trivial) (fun σ v w h => by simpa [upd] using h) (fun d E w' hk hda hS hc hf => by rintro  e3; exact ⟨_, by go_simp, rfl⟩)) ?_
          refine StepsOk.cons (stepOk_pure [(7, 65)] [] rfl rfl (by kernel_rfl) (by kernel_rfl) rfl (fun _ => trivial) (fun σ v w h => by simpa [upd] using h) (fun d E w' hk hda hS hc hf => by rintro _ q7 rfl e65 ; obtain ⟨⟨x0, x1, x2, x3, x4, x5⟩, lq⟩ := bk6 (Q8.out _ hS.2); obtain ⟨⟨r0, r1, r2, r3⟩, -, lr⟩ := bk4 (K8.out _ hS.2); have c1 : w'.cell? ⟨g, 1, none⟩ = some (.int .i64 (n0 + 1)) := HCAST.out ▸ hS.1.n0; exact ⟨_, by go_simp, rfl⟩)) ?_
          refine StepsOk.cons (stepOk_pure [] [(3, .pointer (some ⟨w.heap.size, 0, none⟩))] rfl rfl (by kernel_rfl) (by kernel_rfl) rfl (fun _ => trivial) (fun σ v w h => by simpa [upd] using h) (fun d E w' hk hda hS hc hf => by rintro  e3; exact ⟨_, by go_simp, rfl⟩)) ?_
          refine StepsOk.cons (stepOk_pure [(9, 67)] [] rfl rfl (by kernel_rfl) (by kernel_rfl) rfl (fun _ => trivial) (fun σ v w h => by simpa [upd] using h) (fun d E w' hk hda hS hc hf => by rintro _ q9 rfl e67 ; obtain ⟨⟨x0, x1, x2, x3, x4, x5⟩, lq⟩ := bk6 (Q8.out _ hS.2); obtain ⟨⟨r0, r1, r2, r3⟩, -, lr⟩ := bk4 (K8.out _ hS.2); have c1 : w'.cell? ⟨g, 1, none⟩ = some (.int .i64 (n0 + 1)) := HCAST.out ▸ hS.1.n0; exact ⟨_, by go_simp, rfl⟩)) ?_
          refine StepsOk.cons (stepOk_pure [] [(0, .pointer (some ⟨g, 0, none⟩))] rfl rfl (by kernel_rfl) (by kernel_rfl) rfl (fun _ => trivial) (fun σ v w h => by simpa [upd] using h) (fun d E w' hk hda hS hc hf => by rintro  e0; exact ⟨_, by go_simp, rfl⟩)) ?_
          refine StepsOk.cons (stepOk_pure [(11, 69)] [] rfl rfl (by kernel_rfl) (by kernel_rfl) rfl (fun _ => trivial) (fun σ v w h => by simpa [upd] using h) (fun d E w' hk hda hS hc hf => by rintro _ q11 rfl e69 ; exact ⟨_, by go_simp, rfl⟩)) ?_
          refine StepsOk.cons (stepOk_pure [(12, 70)] [] rfl rfl (by kernel_rfl) (by kernel_rfl) rfl (fun _ => trivial) (fun σ v w h => by simpa [upd] using h) (fun d E w' hk hda hS hc hf => by rintro _ q12 rfl e70 ; exact ⟨_, by go_simp, rfl⟩)) ?_
          refine StepsOk.cons (stepOk_pure [(13, 71)] [] rfl rfl (by kernel_rfl) (by kernel_rfl) rfl (fun _ => trivial) (fun σ v w h => by simpa [upd] using h) (fun d E w' hk hda hS hc hf => by rintro _ q13 rfl e71 ; obtain ⟨⟨x0, x1, x2, x3, x4, x5⟩, lq⟩ := bk6 (Q8.out _ hS.2); obtain ⟨⟨r0, r1, r2, r3⟩, -, lr⟩ := bk4 (K8.out _ hS.2); have c1 : w'.cell? ⟨g, 1, none⟩ = some (.int .i64 (n0 + 1)) := HCAST.out ▸ hS.1.n0; exact ⟨_, by go_simp, rfl⟩)) ?_
          refine StepsOk.cons (stepOk_pure [] [(7, .pointer (some ⟨b8, 0, none⟩))] rfl rfl (by kernel_rfl) (by kernel_rfl) rfl (fun _ => trivial) (fun σ v w h => by simpa [upd] using h) (fun d E w' hk hda hS hc hf => by rintro  e7; obtain ⟨⟨x0, x1, x2, x3, x4, x5⟩, lq⟩ := bk6 (Q8.out _ hS.2); obtain ⟨⟨r0, r1, r2, r3⟩, -, lr⟩ := bk4 (K8.out _ hS.2); have c1 : w'.cell? ⟨g, 1, none⟩ = some (.int .i64 (n0 + 1)) := HCAST.out ▸ hS.1.n0; exact ⟨_, by go_simp, rfl⟩)) ?_
          refine StepsOk.cons (stepOk_pure [(0, 58)] [] rfl rfl (by kernel_rfl) (by kernel_rfl) rfl (fun _ => trivial) (fun σ v w h => by simpa [upd] using h) (fun d E w' hk hda hS hc hf => by rintro _ q0 rfl e58 ; exact ⟨_, by go_simp, rfl⟩)) ?_
          refine StepsOk.cons (stepOk_pure [(16, 74)] [] rfl rfl (by kernel_rfl) (by kernel_rfl) rfl (fun _ => trivial) (fun σ v w h => by simpa [upd] using h) (fun d E w' hk hda hS hc hf => by rintro _ q16 rfl e74 ; exact ⟨_, by go_simp, rfl⟩)) ?_
          refine StepsOk.cons (stepOk_pure [(17, 75), (2, 60)] [] rfl rfl (by kernel_rfl) (by kernel_rfl) rfl (fun _ => trivial) (fun σ v w h => by simpa [upd] using h) (fun d E w' hk hda hS hc hf => by rintro _ q17 rfl e75 _ q2 rfl e60 ; obtain ⟨⟨x0, x1, x2, x3, x4, x5⟩, lq⟩ := bk6 (Q8.out _ hS.2); obtain ⟨⟨r0, r1, r2, r3⟩, -, lr⟩ := bk4 (K8.out _ hS.2); have c1 : w'.cell? ⟨g, 1, none⟩ = some (.int .i64 (n0 + 1)) := HCAST.out ▸ hS.1.n0; exact ⟨_, by go_simp, rfl⟩)) ?_
          refine StepsOk.cons (stepOk_store [(18, 76), (10, 68)] [] rfl rfl (by kernel_rfl) (by kernel_rfl) rfl (fun d E w' hk hda hS hc hf => by rintro _ q18 rfl e76 _ q10 rfl e68 ; have h0 := hk 19 (by kernel_rfl); have t0 := hS.1.sqs c (by omega); have z0 := hS.1.fz (34 + c); exact ⟨w'.setCell ⟨g, 34 + c, none⟩ (.int .i64 s), by go_simp, rfl, trivial, ⟨by have := (hS.1).setS (c := c) (by omega) s; rw [h0] at this; simpa [upd, sel] using this, Fr.setCell (p := ⟨g, 34 + c, none⟩) (hS.2) (.inr rfl) (.int .i64 s)⟩⟩)) ?_
          refine StepsOk.cons (stepOk_pure [(3, 61)] [] rfl rfl (by kernel_rfl) (by kernel_rfl) rfl (fun _ => trivial) (fun σ v w h => by simpa [upd] using h) (fun d E w' hk hda hS hc hf => by rintro _ q3 rfl e61 ; exact ⟨_, by go_simp, rfl⟩)) ?_
          refine StepsOk.cons (stepOk_pure [(20, 77)] [] rfl rfl (by kernel_rfl) (by kernel_rfl) rfl (fun _ => trivial) (fun σ v w h => by simpa [upd] using h) (fun d E w' hk hda hS hc hf => by rintro _ q20 rfl e77 ; exact ⟨_, by go_simp, rfl⟩)) ?_
          refine StepsOk.cons (stepOk_pure [(21, 78), (5, 63)] [] rfl rfl (by kernel_rfl) (by kernel_rfl) rfl (fun _ => trivial) (fun σ v w h => by simpa [upd] using h) (fun d E w' hk hda hS hc hf => by rintro _ q21 rfl e78 _ q5 rfl e63 ; obtain ⟨⟨x0, x1, x2, x3, x4, x5⟩, lq⟩ := bk6 (Q8.out _ hS.2); obtain ⟨⟨r0, r1, r2, r3⟩, -, lr⟩ := bk4 (K8.out _ hS.2); have c1 : w'.cell? ⟨g, 1, none⟩ = some (.int .i64 (n0 + 1)) := HCAST.out ▸ hS.1.n0; exact ⟨_, by go_simp, rfl⟩)) ?_
          refine StepsOk.cons (stepOk_store [(22, 79), (14, 72)] [] rfl rfl (by kernel_rfl) (by kernel_rfl) rfl (fun d E w' hk hda hS hc hf => by rintro _ q22 rfl e79 _ q14 rfl e72 ; have h0 := hk 23 (by kernel_rfl); have t0 := hS.1.pls c (by omega); have z0 := hS.1.fz (38 + c); exact ⟨w'.setCell ⟨g, 38 + c, none⟩ (.int .i64 (n0 + 1)), by go_simp, rfl, trivial, ⟨by have := (hS.1).setP (c := c) (by omega) (n0 + 1) (n0 + 1) HCAST.out; rw [h0] at this; simpa [upd, sel] using this, Fr.setCell (p := ⟨g, 38 + c, none⟩) (hS.2) (.inr rfl) (.int .i64 (n0 + 1))⟩⟩)) ?_
          refine StepsOk.cons (stepOk_pure [(6, 64)] [] rfl rfl (by kernel_rfl) (by kernel_rfl) rfl (fun _ => trivial) (fun σ v w h => by simpa [upd] using h) (fun d E w' hk hda hS hc hf => by rintro _ q6 rfl e64 ; exact ⟨_, by go_simp, rfl⟩)) ?_
          refine StepsOk.cons (stepOk_pure [(24, 80)] [] rfl rfl (by kernel_rfl) (by kernel_rfl) rfl (fun _ => trivial) (fun σ v w h => by simpa [upd] using h) (fun d E w' hk hda hS hc hf => by rintro _ q24 rfl e80 ; exact ⟨_, by go_simp, rfl⟩)) ?_
          refine StepsOk.cons (stepOk_pure [(25, 81), (8, 66)] [] rfl rfl (by kernel_rfl) (by kernel_rfl) rfl (fun _ => trivial) (fun σ v w h => by simpa [upd] using h) (fun d E w' hk hda hS hc hf => by rintro _ q25 rfl e81 _ q8 rfl e66 ; obtain ⟨⟨x0, x1, x2, x3, x4, x5⟩, lq⟩ := bk6 (Q8.out _ hS.2); obtain ⟨⟨r0, r1, r2, r3⟩, -, lr⟩ := bk4 (K8.out _ hS.2); have c1 : w'.cell? ⟨g, 1, none⟩ = some (.int .i64 (n0 + 1)) := HCAST.out ▸ hS.1.n0; exact ⟨_, by go_simp, rfl⟩)) ?_
          refine StepsOk.cons (stepOk_store [(26, 82), (15, 73)] [] rfl rfl (by kernel_rfl) (by kernel_rfl) rfl (fun d E w' hk hda hS hc hf => by rintro _ q26 rfl e82 _ q15 rfl e73 ; have h0 := hk 27 (by kernel_rfl); obtain ⟨-, t0, t1, t2, A5, c5, t3⟩ := hS.1.rps c (by omega); have z0 := hS.1.fz (42 + c * 4); have z1 := hS.1.fz (42 + c * 4 + 1); have z2 := hS.1.fz (42 + c * 4 + 2); have z3 := hS.1.fz (42 + c * 4 + 3); exact ⟨((((w'.setCell ⟨g, 42 + c * 4, none⟩ (.int .i64 R.code)).setCell ⟨g, 42 + c * 4 + 1, none⟩ (.int .i64 R.ver)).setCell ⟨g, 42 + c * 4 + 2, none⟩ (.string R.data)).setCell ⟨g, 42 + c * 4 + 3, none⟩ (.slice A2 0 c2)), by go_simp, rfl, trivial, ⟨by have := (hS.1).setR (c := c) (by omega) R HRV.out A2 c2; rw [h0] at this; simpa [upd, sel, setRp] using this, Fr.setCell (p := ⟨g, 42 + c * 4 + 3, none⟩) (Fr.setCell (p := ⟨g, 42 + c * 4 + 2, none⟩) (Fr.setCell (p := ⟨g, 42 + c * 4 + 1, none⟩) (Fr.setCell (p := ⟨g, 42 + c * 4, none⟩) (hS.2) (.inr rfl) (.int .i64 R.code)) (.inr rfl) (.int .i64 R.ver)) (.inr rfl) (.string R.data)) (.inr rfl) (.slice A2 0 c2)⟩⟩)) ?_
          exact StepsOk.nil
        case ends =>
          intro σ9 w9 hS9 hA9
          refine Ends.eqv (some 58) (.pointer (some ⟨g, 0, none⟩)) rfl (fun _ h => h) ?_
          refine Ends.eqv (some 59) (.pointer (some ⟨w.heap.size, 0, none⟩)) rfl (fun _ h => h) ?_
          refine Ends.eqv (some 60) (.int .i64 c) rfl (fun _ h => h) ?_
          refine Ends.eqv (some 61) (.pointer (some ⟨g, 0, none⟩)) rfl (fun _ h => h) ?_
          refine Ends.eqv (some 62) (.pointer (some ⟨w.heap.size, 0, none⟩)) rfl (fun _ h => h) ?_
          refine Ends.eqv (some 63) (.int .i64 c) rfl (fun _ h => h) ?_
          refine Ends.eqv (some 64) (.pointer (some ⟨g, 0, none⟩)) rfl (fun _ h => h) ?_
          refine Ends.eqv (some 65) (.pointer (some ⟨w.heap.size, 0, none⟩)) rfl (fun _ h => h) ?_
          refine Ends.eqv (some 66) (.int .i64 c) rfl (fun _ h => h) ?_
          refine Ends.eqv (some 67) (.pointer (some ⟨w.heap.size, 1, none⟩)) rfl (fun _ h => h) ?_
          refine Ends.eqv (some 68) (.int .i64 s) rfl (fun _ h => h) ?_
          refine Ends.eqv (some 69) (.pointer (some ⟨g, 0, none⟩)) rfl (fun _ h => h) ?_
          refine Ends.eqv (some 70) (.pointer (some ⟨g, 0, none⟩)) rfl (fun _ h => h) ?_
          refine Ends.eqv (some 71) (.pointer (some ⟨g, 1, none⟩)) rfl (fun _ h => h) ?_
          refine Ends.eqv (some 72) (.int .i64 (n0 + 1)) rfl (fun _ h => h) ?_
          refine Ends.eqv (some 73) (.agg #[.int .i64 R.code, .int .i64 R.ver, .string R.data, .slice A2 0 c2]) rfl (fun _ h => h) ?_
          refine Ends.eqv (some 74) (.pointer (some ⟨g, 0, none⟩)) rfl (fun _ h => h) ?_
          refine Ends.eqv (some 75) (.pointer (some ⟨g, 34, none⟩)) rfl (fun _ h => h) ?_
          refine Ends.eqv (some 76) (.pointer (some ⟨g, 34 + c, none⟩)) rfl (fun _ h => h) ?_
          refine Ends.eqv none (undef) rfl (fun _ h => h) ?_
          refine Ends.eqv (some 77) (.pointer (some ⟨g, 0, none⟩)) rfl (fun _ h => h) ?_
          refine Ends.eqv (some 78) (.pointer (some ⟨g, 38, none⟩)) rfl (fun _ h => h) ?_
          refine Ends.eqv (some 79) (.pointer (some ⟨g, 38 + c, none⟩)) rfl (fun _ h => h) ?_
          refine Ends.eqv none (undef) rfl (fun _ h => h) ?_
          refine Ends.eqv (some 80) (.pointer (some ⟨g, 0, none⟩)) rfl (fun _ h => h) ?_
          refine Ends.eqv (some 81) (.pointer (some ⟨g, 42, none⟩)) rfl (fun _ h => h) ?_
          refine Ends.eqv (some 82) (.pointer (some ⟨g, 42 + c * 4, none⟩)) rfl (fun _ h => h) ?_
          refine Ends.eqv none (undef) rfl (fun _ h => h) ?_
          refine Ends.nil ?_
          have hA9' := hA9
          clear hA9
          simp only [put_lit, put_none, List.set_cons_zero, List.set_cons_succ]
          have h9 : SD w9 g F1 qt (n0 + 1) f' (fun k => if k = (c : Int) then s else sq k) (fun k => if k = (c : Int) then n0 + 1 else pl k) (fun k => if k = (c : Int) then R else rp k) := by
            have e1 := Option.isSome_iff_exists.1 (hA9' 19 (by simp)); have e2 := Option.isSome_iff_exists.1 (hA9' 23 (by simp)); have e3 := Option.isSome_iff_exists.1 (hA9' 27 (by simp))
            obtain ⟨u1, e1⟩ := e1
            obtain ⟨u2, e2⟩ := e2
            obtain ⟨u3, e3⟩ := e3
            have := hS9.1
            rw [e1, e2, e3] at this
            exact this
          have f9 := hS9.2
          clear hS9 hA9'
          have k9 := K8.out _ f9
          have r9 := HR8.out _ f9
          have H9 := hide h9
          have F9 := hide (F8.out.drew.trans (f9.mono fun x _ hx => by subst hx; exact HS.out.1.gF) : Fr F w w9)
          clear h9 f9
          obtain ⟨⟨x0, x1, x2, x3⟩, -, lx⟩ := bk4 k9
          obtain ⟨⟨y0, y1, y2, y3⟩, ⟨v0, v1, v2, v3⟩, ly⟩ := bk4 r9
          clear k9 r9
          go_wp2_with fail
          have hfin : ∀ {W : World}, Fr (fun k => k = w.heap.size + 1) W ((((W.setCell ⟨w.heap.size + 1, 0, none⟩ (.int .i64 R.code)).setCell ⟨w.heap.size + 1, 1, none⟩ (.int .i64 R.ver)).setCell ⟨w.heap.size + 1, 2, none⟩ (.string R.data)).setCell ⟨w.heap.size + 1, 3, none⟩ (.slice A2 0 c2)) := by
            intro w12
            have stp : ∀ {W : World} (j : Nat) (u : Value), Fr (fun k => k = w.heap.size + 1) w12 W → Fr (fun k => k = w.heap.size + 1) w12 (W.setCell ⟨w.heap.size + 1, j, none⟩ u) := fun j u h => Fr.setCell (p := ⟨w.heap.size + 1, j, none⟩) h (.inr rfl) u
            exact stp _ _ (stp _ _ (stp _ _ (stp _ _ (Fr.refl _ w12))))
          refine bodyPost_ret (v := .tuple #[.agg #[.int .i64 R.code, .int .i64 R.ver, .string R.data, .slice A2 0 c2], .int .i64 0]) ?_ rfl ⟨⟨A2, c2, rfl⟩, ⟨F1, ?_, fun k hk => (HF1.out k hk).imp id (fun h => by omega)⟩, ?_⟩
          · simp [results, Try.results21, go_sem, *]
          · have hb := H9.out.fr hfin (fun x hx e => by
              rcases HF1.out x hx with h | h
              · exact hG1 x (by omega) h
              · omega)
            have e1 : st.done ⟨c, s, k, i, m, d⟩ = ⟨qt, n0 + 1, f', fun k => if k = (c : Int) then ⟨s, n0 + 1, R⟩ else st.ss k⟩ := by
              unfold StV.done
              rw [HL.out, HR.out, HQT.out, HN0.out]
              simp only [HF'.out]
            rw [e1]
            refine ⟨?_, fun x => ?_, fun x hx => ?_⟩
            · have e2 : (fun k => (if k = (c : Int) then (⟨s, n0 + 1, R⟩ : Sess) else st.ss k).seq) = (fun k => if k = (c : Int) then s else sq k) := by
                funext k; rw [← HSQ.out]; simp only; split <;> rfl
              have e3 : (fun k => (if k = (c : Int) then (⟨s, n0 + 1, R⟩ : Sess) else st.ss k).place) = (fun k => if k = (c : Int) then n0 + 1 else pl k) := by
                funext k; rw [← HPL.out]; simp only; split <;> rfl
              have e4 : (fun k => (if k = (c : Int) then (⟨s, n0 + 1, R⟩ : Sess) else st.ss k).rep) = (fun k => if k = (c : Int) then R else rp k) := by
                funext k; rw [← HRP.out]; simp only; split <;> rfl
              simp only [e2, e3, e4]
              exact hb
            · show (f' x).length ≤ n0 + 1
              rw [← HF'.out]
              simp only
              have h1 := HN0.out
              have h2 := HN.out
              have h3 := HS.out.2.1 x
              have h4 := HLL.out
              split
              · omega
              · omega
            · show f' x = []
              rw [← HF'.out]
              simp only
              rw [if_neg (by omega)]
              exact HS.out.2.2 x hx
          · exact F9.out.trans' hfin (fun x hx e => by omega)
end Go.Proofs.Ytffahoocbjfdaaa

/- The document's store: Ask, Ids, Bytes. -/
namespace Go.Proofs.Ytffahoocbjfdaaa
open Go.RowKit
theorem fr4 {w W : World} {b : Nat} {u0 u1 u2 u3 : Value} (h : Fr (fun k => k = b) w W) :
    Fr (fun k => k = b) w ((((W.setCell ⟨b, 0, none⟩ u0).setCell ⟨b, 1, none⟩ u1).setCell ⟨b, 2, none⟩ u2).setCell ⟨b, 3, none⟩ u3) := by
  have stp : ∀ {W : World} (j : Nat) (u : Value), Fr (fun k => k = b) w W → Fr (fun k => k = b) w (W.setCell ⟨b, j, none⟩ u) := fun j u h => Fr.setCell (p := ⟨b, j, none⟩) h (.inr rfl) u
  exact stp _ _ (stp _ _ (stp _ _ (stp _ _ h)))
set_option maxRecDepth 100000 in
set_option maxHeartbeats 1000000 in
theorem SAsk_no (g : Nat) (q : Q) (hq : askOk q = false) (w : World) :
    Calls Try.prog 22 #[.pointer (some ⟨g, 0, none⟩), q.v] w fun e w' => e = .returned (.tuple #[.agg #[.int .i64 0, .int .i64 0, .string ByteArray.empty, .slice none 0 0], .int .i64 1]) ∧ Old w w' := by
  obtain ⟨c, s, k, i, m, d⟩ := q
  simp only [Q.v]
  obtain ⟨b1, h1⟩ : ∃ b, mayQ c s k i m d = b := ⟨_, rfl⟩
  have cM := hide (fun (W : World) => rMay_at c s k i m d b1 h1 W)
  have hX := hide (fun (W : World) (h : Old ((w.alloc (.cells #[.int .i64 c, .int .i64 s, .int .i64 k, .int .i64 i, .int .i64 m, .string d] 24)).alloc (.cells #[.int .i64 0, .int .i64 0, .string ByteArray.empty, .slice none 0 0] 43)) W) => boxed h)
  cases b1 with
  | false =>
    clear hq h1
    go_enter Try.func22, Try.ntmps22
    go_wp2_with (go_at_call 31; refine (cM.out _).mono ?_; rintro e w1 ⟨rfl, hb1⟩; obtain ⟨⟨x0, x1, x2, x3, x4, x5⟩, ⟨y0, y1, y2, y3⟩, ⟨f0, f1, f2, f3⟩, l1, o1⟩ := hX.out _ hb1)
    refine bodyPost_ret (v := .tuple #[.agg #[.int .i64 0, .int .i64 0, .string ByteArray.empty, .slice none 0 0], .int .i64 1]) ?_ rfl ⟨rfl, ?_⟩
    · simp [results, Try.results22, go_sem, *]
      try rfl
    · repeat (first | with_reducible exact o1 | with_reducible refine Old.setCell' ?_ (by simp) _)
  | true =>
    have hw : Writes k = true := by simpa [askOk, Q.may, h1] using hq
    have cW := hide (fun (W : World) => rWrites_at c s k i m d true hw W)
    clear hq h1 hw
    go_enter Try.func22, Try.ntmps22
    go_wp2_with (first
      | (go_at_call 31; refine (cM.out _).mono ?_; rintro e w1 ⟨rfl, hb1⟩; obtain ⟨⟨x0, x1, x2, x3, x4, x5⟩, ⟨y0, y1, y2, y3⟩, ⟨f0, f1, f2, f3⟩, l1, o1⟩ := hX.out _ hb1)
      | (go_at_call 18; refine (cW.out _).mono ?_; rintro e w2 ⟨rfl, hb2⟩; clear x0 x1 x2 x3 x4 x5 y0 y1 y2 y3 f0 f1 f2 f3 l1 o1; obtain ⟨⟨x0, x1, x2, x3, x4, x5⟩, ⟨y0, y1, y2, y3⟩, ⟨f0, f1, f2, f3⟩, l1, o1⟩ := hX.out _ (hb1.trans' hb2); have hbb := hb1.trans' hb2; clear hb1 hb2))
    refine bodyPost_ret (v := .tuple #[.agg #[.int .i64 0, .int .i64 0, .string ByteArray.empty, .slice none 0 0], .int .i64 1]) ?_ rfl ⟨rfl, ?_⟩
    · simp [results, Try.results22, go_sem, *]
      try rfl
    · repeat (first | with_reducible exact o1 | with_reducible refine Old.setCell' ?_ (by simp) _)
set_option maxRecDepth 100000 in
set_option maxHeartbeats 4000000 in
theorem SAsk_yesN (g : Nat) (F : Nat → Prop) (st : StV) (q : Q) (hq : askOk q = true) (ra : Rep) (ha : askR (st.f q.id) q.kind q.mat = ra) (nR : Nat) (hnR : ra.vs.length = nR) (hfew : st.n ≤ 50000) (w : World) (h : SDAt w g F st) :
    Calls Try.prog 22 #[.pointer (some ⟨g, 0, none⟩), q.v] w fun e w' => ∃ A c, e = .returned (.tuple #[.agg #[.int .i64 ra.code, .int .i64 ra.ver, .string ra.data, .slice A nR c], .int .i64 0]) ∧ IntsAt w' A ra.vs ∧ (∀ a', A = some a' → w.heap.size ≤ a'.block) ∧ Old w w' := by
  obtain ⟨c, s, k, i, m, dt⟩ := q
  simp only [Q.v, Q.may, askOk, Bool.and_eq_true, Bool.not_eq_true'] at hq ha ⊢
  obtain ⟨h1, h2⟩ := hq
  have hcc : 0 ≤ i ∧ i ≤ 31 ∧ -9223372036854775808 ≤ m ∧ m ≤ 9223372036854775807 := by
    simp only [mayQ, Bool.and_eq_true, decide_eq_true_eq] at h1
    omega
  obtain ⟨hi0, hi31, hm0, hm1⟩ := hcc
  obtain ⟨i, rfl⟩ : ∃ n : Nat, i = n := ⟨i.toNat, by omega⟩
  obtain ⟨n, hn⟩ : ∃ n, (st.f i).length = n := ⟨_, rfl⟩
  have hnf := h.2.1 i
  obtain ⟨A, cc, hA, hV, hAF⟩ := h.1.fm i (by omega)
  rw [hn] at hA
  have cA := hide (fun (W : World) (hW : Old w W) => (RAsk_any A n cc (st.f i) (by omega) hn.symm c s k i m dt W (CellsAt.old hV hW) hm0 hm1).mono (fun e w' (he : ∃ v, e = .returned v ∧ RepAt W w' v (askR (st.f i) k m) ∧ Old W w') => (by
    obtain ⟨v, rfl, ⟨A2, c2, rfl, hi2, ha2⟩, hb2⟩ := he
    rw [ha, hnR]
    rw [ha] at hi2
    exact ⟨A2, c2, rfl, hi2, ha2, hb2⟩ : ∃ A2 c2, e = .returned (.agg #[.int .i64 ra.code, .int .i64 ra.ver, .string ra.data, .slice A2 nR c2]) ∧ IntsAt w' A2 ra.vs ∧ (∀ a', A2 = some a' → W.heap.size ≤ a'.block) ∧ Old W w')))
  have hQF := hide (fun (W : World) (hW : Old w W) => ((bcell hW).1 g (2 + i) (h.1.lt g h.1.gF)).trans hA)
  have cM := hide (fun (W : World) => rMay_at c s k i m dt true h1 W)
  have cW := hide (fun (W : World) => rWrites_at c s k i m dt false h2 W)
  have hX := hide (fun (W : World) (h : Old ((w.alloc (.cells #[.int .i64 c, .int .i64 s, .int .i64 k, .int .i64 i, .int .i64 m, .string dt] 24)).alloc (.cells #[.int .i64 0, .int .i64 0, .string ByteArray.empty, .slice none 0 0] 43)) W) => boxed h)
  have hi32 : (i : Int) < 32 := by omega
  clear h1 h2 h hV hA hAF hn hnf ha hnR
  go_enter Try.func22, Try.ntmps22
  go_wp2_with (first
    | (go_at_call 31; refine (cM.out _).mono ?_; rintro e w1 ⟨rfl, hb1⟩; obtain ⟨⟨x0, x1, x2, x3, x4, x5⟩, ⟨y0, y1, y2, y3⟩, ⟨f0, f1, f2, f3⟩, l1, o1⟩ := hX.out _ hb1)
    | (go_at_call 18; refine (cW.out _).mono ?_; rintro e w2 ⟨rfl, hb2⟩; clear x0 x1 x2 x3 x4 x5 y0 y1 y2 y3 f0 f1 f2 f3 l1 o1; obtain ⟨⟨x0, x1, x2, x3, x4, x5⟩, ⟨y0, y1, y2, y3⟩, ⟨f0, f1, f2, f3⟩, l1, o1⟩ := hX.out _ (hb1.trans' hb2); have hbb := hb1.trans' hb2; clear hb1 hb2))
  refine region_steps (R := pick [eqv (.pointer (some ⟨g, 0, none⟩)), eqv (.pointer (some ⟨w.heap.size, 3, none⟩)), eqv (.int .i64 i), eqv (.pointer (some ⟨g, 0, none⟩)), eqv (.pointer (some ⟨g, 2, none⟩)), eqv (.pointer (some ⟨g, 2 + i, none⟩)), eqv (.slice A n cc), eqv (.agg #[.int .i64 c, .int .i64 s, .int .i64 k, .int .i64 i, .int .i64 m, .string dt]), fun v w' => ∃ A2 c2, v = .agg #[.int .i64 ra.code, .int .i64 ra.ver, .string ra.data, .slice A2 nR c2] ∧ IntsAt w' A2 ra.vs ∧ ∀ a', A2 = some a' → w.heap.size + 2 ≤ a'.block, eqv (undef), eqv (.int .i64 0)]) (S := fun σ w' => (σ 9 = none → Old ((w.alloc (.cells #[.int .i64 c, .int .i64 s, .int .i64 k, .int .i64 i, .int .i64 m, .string dt] 24)).alloc (.cells #[.int .i64 0, .int .i64 0, .string ByteArray.empty, .slice none 0 0] 43)) w') ∧ (σ 9 ≠ none → Old w w' ∧ ∃ A2 c2, Bk w' (w.heap.size + 1) 43 #[.int .i64 ra.code, .int .i64 ra.ver, .string ra.data, .slice A2 nR c2] ∧ IntsAt w' A2 ra.vs ∧ ∀ a', A2 = some a' → w.heap.size + 2 ≤ a'.block)) (T := Fr (fun k => k = w.heap.size + 1)) (by kernel_rfl) (by kernel_rfl) (by kernel_rfl) (Stab.pick (Stab.eqv (Stab.eqv (Stab.eqv (Stab.eqv (Stab.eqv (Stab.eqv (Stab.eqv (Stab.eqv (Stab.cons (fun v w1 w2 hT h => by obtain ⟨A2, c2, e, hi, ha⟩ := h; exact ⟨A2, c2, e, CellsAt.fr hi hT (fun _ a' h' e' => by have := ha a' h'; omega), ha⟩) (Stab.eqv (Stab.eqv (Stab.nil))))))))))))) (⟨fun _ => hbb.drew', fun h => absurd rfl h⟩) ?steps ?ends
  case steps =>
    refine StepsOk.cons (stepOk_pure [] [(0, .pointer (some ⟨g, 0, none⟩))] rfl rfl (by kernel_rfl) (by kernel_rfl) rfl (fun _ => Fr.refl _ _) (fun σ v w h => ⟨fun e => h.1 (by simpa [upd] using e), fun e => h.2 (by simpa [upd] using e)⟩) (fun d E w' hk hda hS hc hf => by rintro  e0; exact ⟨_, by go_simp, rfl⟩)) ?_
    refine StepsOk.cons (stepOk_pure [] [(3, .pointer (some ⟨w.heap.size, 0, none⟩))] rfl rfl (by kernel_rfl) (by kernel_rfl) rfl (fun _ => Fr.refl _ _) (fun σ v w h => ⟨fun e => h.1 (by simpa [upd] using e), fun e => h.2 (by simpa [upd] using e)⟩) (fun d E w' hk hda hS hc hf => by rintro  e3; exact ⟨_, by go_simp, rfl⟩)) ?_
    refine StepsOk.cons (stepOk_pure [(1, 15)] [] rfl rfl (by kernel_rfl) (by kernel_rfl) rfl (fun _ => Fr.refl _ _) (fun σ v w h => ⟨fun e => h.1 (by simpa [upd] using e), fun e => h.2 (by simpa [upd] using e)⟩) (fun d E w' hk hda hS hc hf => by rintro _ q1 rfl e15 ; obtain ⟨⟨s0, s1, s2, s3, s4, s5⟩, -, -, -, ho⟩ := hX.out _ (hS.1 (hk 9 (by kernel_rfl))); have t0 := hQF.out _ ho; exact ⟨_, by go_simp, rfl⟩)) ?_
    refine StepsOk.cons (stepOk_pure [(0, 14)] [] rfl rfl (by kernel_rfl) (by kernel_rfl) rfl (fun _ => Fr.refl _ _) (fun σ v w h => ⟨fun e => h.1 (by simpa [upd] using e), fun e => h.2 (by simpa [upd] using e)⟩) (fun d E w' hk hda hS hc hf => by rintro _ q0 rfl e14 ; exact ⟨_, by go_simp, rfl⟩)) ?_
    refine StepsOk.cons (stepOk_pure [(3, 17)] [] rfl rfl (by kernel_rfl) (by kernel_rfl) rfl (fun _ => Fr.refl _ _) (fun σ v w h => ⟨fun e => h.1 (by simpa [upd] using e), fun e => h.2 (by simpa [upd] using e)⟩) (fun d E w' hk hda hS hc hf => by rintro _ q3 rfl e17 ; exact ⟨_, by go_simp, rfl⟩)) ?_
    refine StepsOk.cons (stepOk_pure [(4, 18), (2, 16)] [] rfl rfl (by kernel_rfl) (by kernel_rfl) rfl (fun _ => Fr.refl _ _) (fun σ v w h => ⟨fun e => h.1 (by simpa [upd] using e), fun e => h.2 (by simpa [upd] using e)⟩) (fun d E w' hk hda hS hc hf => by rintro _ q4 rfl e18 _ q2 rfl e16 ; obtain ⟨⟨s0, s1, s2, s3, s4, s5⟩, -, -, -, ho⟩ := hX.out _ (hS.1 (hk 9 (by kernel_rfl))); have t0 := hQF.out _ ho; exact ⟨_, by go_simp, rfl⟩)) ?_
    refine StepsOk.cons (stepOk_pure [(5, 19)] [] rfl rfl (by kernel_rfl) (by kernel_rfl) rfl (fun _ => Fr.refl _ _) (fun σ v w h => ⟨fun e => h.1 (by simpa [upd] using e), fun e => h.2 (by simpa [upd] using e)⟩) (fun d E w' hk hda hS hc hf => by rintro _ q5 rfl e19 ; obtain ⟨⟨s0, s1, s2, s3, s4, s5⟩, -, -, -, ho⟩ := hX.out _ (hS.1 (hk 9 (by kernel_rfl))); have t0 := hQF.out _ ho; exact ⟨_, by go_simp, rfl⟩)) ?_
    refine StepsOk.cons (stepOk_pure [] [(3, .pointer (some ⟨w.heap.size, 0, none⟩))] rfl rfl (by kernel_rfl) (by kernel_rfl) rfl (fun _ => Fr.refl _ _) (fun σ v w h => ⟨fun e => h.1 (by simpa [upd] using e), fun e => h.2 (by simpa [upd] using e)⟩) (fun d E w' hk hda hS hc hf => by rintro  e3; obtain ⟨⟨s0, s1, s2, s3, s4, s5⟩, -, -, -, ho⟩ := hX.out _ (hS.1 (hk 9 (by kernel_rfl))); have t0 := hQF.out _ ho; exact ⟨_, by go_simp, rfl⟩)) ?_
    refine StepsOk.cons (stepOk_mk [(6, 20), (7, 21)] [] rfl rfl (by kernel_rfl) (by kernel_rfl) rfl ?_) ?_
    · rintro d a w' hk hda hS _ q6 rfl e20 _ q7 rfl e21 
      first | refine Given.nil (Known.nil ?_) | refine Known.nil ?_
      have hW := hS.1 (hk 9 (by kernel_rfl))
      have hsz := hW.size
      simp at hsz
      refine wp_call 33 _ Try.func33 (by kernel_rfl) (by kernel_rfl) _ _ (by rfl) [.slice A n cc, .agg #[.int .i64 c, .int .i64 s, .int .i64 k, .int .i64 i, .int .i64 m, .string dt]] (by simp only [List.map_cons, List.map_nil, *]; try rfl) (cA.out _ (hX.out _ hW).2.2.2.2) ?_
      rintro e w1 ⟨A2, c2, rfl, hi2, ha2, hb2⟩
      exact ⟨_, rfl, _, rfl, ⟨A2, c2, rfl, hi2, fun a' h' => by have := ha2 a' h'; omega⟩, Fr.of_old hb2, ⟨fun e => hW.trans' hb2, fun e => absurd (hk 9 (by kernel_rfl)) (by simpa [upd] using e)⟩⟩
    refine StepsOk.cons (stepOk_store [(8, 22)] [(4, .pointer (some ⟨w.heap.size + 1, 0, none⟩))] rfl rfl (by kernel_rfl) (by kernel_rfl) rfl (fun d E w' hk hda hS hc hf => by rintro _ q8 ⟨A2, c2, rfl, hi2, ha2⟩ e22 e4; have hW := hS.1 (hk 9 (by kernel_rfl)); obtain ⟨-, ⟨z0, z1, z2, z3⟩, ⟨v0, v1, v2, v3⟩, lz, hoz⟩ := hX.out _ hW; have hbr := (bk_new1 w (.cells #[.int .i64 c, .int .i64 s, .int .i64 k, .int .i64 i, .int .i64 m, .string dt] 24) 43 #[.int .i64 0, .int .i64 0, .string ByteArray.empty, .slice none 0 0]).old hW; exact ⟨((((w'.setCell ⟨w.heap.size + 1, 0, none⟩ (.int .i64 ra.code)).setCell ⟨w.heap.size + 1, 1, none⟩ (.int .i64 ra.ver)).setCell ⟨w.heap.size + 1, 2, none⟩ (.string ra.data)).setCell ⟨w.heap.size + 1, 3, none⟩ (.slice A2 nR c2)), by go_simp, rfl, fr4 (Fr.refl _ _), ⟨fun h => by simp [upd] at h, fun _ => ⟨Old.setCell' (Old.setCell' (Old.setCell' (Old.setCell' hoz (Nat.le_succ _) _) (Nat.le_succ _) _) (Nat.le_succ _) _) (Nat.le_succ _) _, A2, c2, Bk.set4 hbr, CellsAt.fr hi2 (fr4 (Fr.refl _ _)) (fun _ a' h' e' => by have := ha2 a' h'; omega), ha2⟩⟩⟩)) ?_
    refine StepsOk.cons (stepOk_pure [] [] rfl rfl (by kernel_rfl) (by kernel_rfl) rfl (fun _ => Fr.refl _ _) (fun σ v w h => ⟨fun e => h.1 (by simpa [upd] using e), fun e => h.2 (by simpa [upd] using e)⟩) (fun d E w' hk hda hS hc hf => by exact ⟨_, by go_simp, rfl⟩)) ?_
    exact StepsOk.nil
  case ends =>
    intro σ9 w9 hS9 hA9
    refine Ends.eqv (some 14) (.pointer (some ⟨g, 0, none⟩)) rfl (fun _ h => h) ?_
    refine Ends.eqv (some 15) (.pointer (some ⟨w.heap.size, 3, none⟩)) rfl (fun _ h => h) ?_
    refine Ends.eqv (some 16) (.int .i64 i) rfl (fun _ h => h) ?_
    refine Ends.eqv (some 17) (.pointer (some ⟨g, 0, none⟩)) rfl (fun _ h => h) ?_
    refine Ends.eqv (some 18) (.pointer (some ⟨g, 2, none⟩)) rfl (fun _ h => h) ?_
    refine Ends.eqv (some 19) (.pointer (some ⟨g, 2 + i, none⟩)) rfl (fun _ h => h) ?_
    refine Ends.eqv (some 20) (.slice A n cc) rfl (fun _ h => h) ?_
    refine Ends.eqv (some 21) (.agg #[.int .i64 c, .int .i64 s, .int .i64 k, .int .i64 i, .int .i64 m, .string dt]) rfl (fun _ h => h) ?_
    refine Ends.ex (some 22) rfl ?_
    rintro _ p8 ⟨A2, c2, rfl, hi2, ha2⟩
    refine Ends.eqv none (undef) rfl (fun _ h => h) ?_
    refine Ends.eqv (some 5) (.int .i64 0) rfl (fun _ h => h) ?_
    refine Ends.nil ?_
    have hA9' := hA9
    clear hA9
    simp only [put_lit, put_none, List.set_cons_zero, List.set_cons_succ]
    have h9 := hS9.2 (by have := hA9' 9 (by simp); intro e; rw [e] at this; simp at this)
    clear hS9 hA9'
    obtain ⟨ho9, A3, c3, hk9, hi9, hn9⟩ := h9
    have HI := hide hi9
    have HN9 := hide (fun (a' : Addr) (h' : A3 = some a') => (by have := hn9 a' h'; omega : w.heap.size ≤ a'.block))
    clear hi9 hn9
    obtain ⟨⟨z0, z1, z2, z3⟩, -, lz⟩ := bk4 hk9
    go_wp2_with fail
    refine bodyPost_ret (v := .tuple #[.agg #[.int .i64 ra.code, .int .i64 ra.ver, .string ra.data, .slice A3 nR c3], .int .i64 0]) ?_ rfl ⟨A3, c3, rfl, HI.out, HN9.out, ho9⟩
    simp [results, Try.results22, go_sem, *]
end Go.Proofs.Ytffahoocbjfdaaa

/- The document's store and the program's side by side. -/
namespace Go.Proofs.Ytffahoocbjfdaaa
open Go.RowKit
theorem SPut_at (g : Nat) (F : Nat → Prop) (st : StV) (q : Q) (c0 v0 E : Int) (d0 : ByteArray) (s' : StV) (h1 : (st.rep q).code = c0) (h2 : (st.rep q).ver = v0) (h3 : (st.rep q).data = d0) (h4 : st.err q = E) (h5 : st.put q = s') (hfew : st.n ≤ 50000) (w : World) (h : SDAt w g F st) :
    Calls Try.prog 21 #[.pointer (some ⟨g, 0, none⟩), .agg #[.int .i64 q.client, .int .i64 q.seq, .int .i64 q.kind, .int .i64 q.id, .int .i64 q.mat, .string q.data]] w fun e w' => (∃ A c, e = .returned (.tuple #[.agg #[.int .i64 c0, .int .i64 v0, .string d0, .slice A 0 c], .int .i64 E])) ∧
      (∃ F', SDAt w' g F' s' ∧ ∀ k, F' k → F k ∨ w.heap.size ≤ k) ∧ Fr F w w' := by
  subst h1 h2 h3 h4 h5
  by_cases hq : (q.may && Writes q.kind) = true
  · by_cases hs : (st.ss q.client).seq < q.seq
    · have hm : st.may q = true := by unfold StV.may; rw [hq]; simpa using hs
      have e1 : st.put q = st.done q := by unfold StV.put; rw [hm]; rfl
      have e2 : st.rep q = st.doRep q := by unfold StV.rep; rw [hm]; rfl
      have e3 : st.err q = 0 := by unfold StV.err; rw [hq, if_pos rfl, if_pos hs]
      rw [e1, e2, e3]
      exact SPut_done g F st q hq hs hfew w h
    · have hm : st.may q = false := by unfold StV.may; rw [hq]; simpa using hs
      have e1 : st.put q = st := by unfold StV.put; rw [hm]; rfl
      have e2 : st.rep q = Rep.zero := by unfold StV.rep; rw [hm]; rfl
      have e3 : st.err q = 9 := by unfold StV.err; rw [hq, if_pos rfl, if_neg hs]
      rw [e1, e2, e3]
      exact (SPut_order g F st q hq hs w h).mono fun e w' ⟨he, hb⟩ => ⟨⟨none, 0, he⟩, ⟨F, h.old hb, fun k hk => .inl hk⟩, Fr.of_old hb⟩
  · have hq' : (q.may && Writes q.kind) = false := by simpa using hq
    have hm : st.may q = false := by unfold StV.may; rw [hq']; rfl
    have e1 : st.put q = st := by unfold StV.put; rw [hm]; rfl
    have e2 : st.rep q = Rep.zero := by unfold StV.rep; rw [hm]; rfl
    have e3 : st.err q = 1 := by unfold StV.err; rw [hq']; rfl
    rw [e1, e2, e3]
    exact (SPut_arg g q hq' w).mono fun e w' ⟨he, hb⟩ => ⟨⟨none, 0, he⟩, ⟨F, h.old hb, fun k hk => .inl hk⟩, Fr.of_old hb⟩
theorem SAsk_stN (g : Nat) (F : Nat → Prop) (st : StV) (q : Q) (hfew : st.n ≤ 50000) (nR : Nat) (hnR : (st.ask q).vs.length = nR) (w : World) (h : SDAt w g F st) :
    Calls Try.prog 22 #[.pointer (some ⟨g, 0, none⟩), q.v] w fun e w' => ∃ A c, e = .returned (.tuple #[.agg #[.int .i64 (st.ask q).code, .int .i64 (st.ask q).ver, .string (st.ask q).data, .slice A nR c], .int .i64 (if askOk q then 0 else 1)]) ∧ IntsAt w' A (st.ask q).vs ∧ (∀ a', A = some a' → w.heap.size ≤ a'.block) ∧ Old w w' := by
  by_cases hq : askOk q = true
  · have e1 : st.ask q = askR (st.f q.id) q.kind q.mat := by unfold StV.ask; rw [if_pos hq]
    rw [if_pos hq, e1]
    exact SAsk_yesN g F st q hq _ rfl nR (by rw [← e1]; exact hnR) hfew w h
  · have hq' : askOk q = false := by simpa using hq
    have e1 : st.ask q = Rep.zero := by unfold StV.ask; rw [if_neg hq]
    rw [if_neg hq, e1]
    rw [e1] at hnR
    subst hnR
    exact (SAsk_no g q hq' w).mono fun e w' ⟨he, hb⟩ => ⟨none, 0, he, CellsAt.nil _ _, (fun a h => by cases h), hb⟩
section
variable {w wr w' : World} {gs gx : Nat} {s t : StV}
end
end Go.Proofs.Ytffahoocbjfdaaa
