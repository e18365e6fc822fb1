/- Sorted rows of keys: places, what Put, Del and Get make of them. No program. -/
import Derived.Test.YtcbnibldlbnkbaaTab
namespace Go.Proofs.Ytcbnibldlbnkbaa
open Go.RowKit

/-- where a key is, or would be -/
def plc (ks : List Int) (key : Int) : Nat := (ks.takeWhile fun k => decide (k < key)).length

theorem plc_place {ks : List Int} (h : ks.Pairwise (· < ·)) (key : Int) : PlaceOf ks key (plc ks key) := by
  induction ks with
  | nil => exact ⟨by simp [plc], fun j hj => by simp [plc] at hj, fun j _ hj => by simp at hj⟩
  | cons k ks ih =>
    rw [List.pairwise_cons] at h
    obtain ⟨h1, h2⟩ := h
    obtain ⟨a, b, c⟩ := ih h2
    by_cases hk : k < key
    · have e : plc (k :: ks) key = plc ks key + 1 := by simp [plc, hk]
      rw [e]
      refine ⟨by simpa using a, fun j hj => ?_, fun j h3 h4 => ?_⟩
      · cases j with
        | zero => simpa using hk
        | succ j => simpa using b j (by omega)
      · cases j with
        | zero => omega
        | succ j => simpa using c j (by omega) (by simpa using h4)
    · have e : plc (k :: ks) key = 0 := by simp [plc, hk]
      rw [e]
      refine ⟨by simp, fun j hj => by omega, fun j _ h4 => ?_⟩
      cases j with
      | zero => simp; omega
      | succ j =>
        have hj : j < ks.length := by simpa using h4
        have := h1 ks[j] (List.getElem_mem hj)
        simp [List.getElem?_eq_getElem hj]
        omega

theorem found_iff {ks : List Int} {key : Int} {i : Nat} (hr : ks.Pairwise (· < ·)) (hp : PlaceOf ks key i) : (decide (i < ks.length) && decide (ks[i]?.getD 0 = key)) = decide (key ∈ ks) := by
  obtain ⟨hi, hlo, hhi⟩ := hp
  by_cases hm : key ∈ ks
  · obtain ⟨j, hj, e⟩ := List.getElem_of_mem hm
    have hji : i ≤ j := by
      rcases Nat.lt_or_ge j i with h | h
      · have := hlo j h
        rw [List.getElem?_eq_getElem hj] at this
        simp [e] at this
      · exact h
    have hij : j = i := by
      rcases Nat.lt_or_ge i j with h | h
      · have h1 := List.pairwise_iff_getElem.1 hr i j (by omega) hj h
        have h2 := hhi i (Nat.le_refl _) (by omega)
        rw [List.getElem?_eq_getElem (by omega)] at h2
        simp at h2
        omega
      · omega
    subst hij
    simp [hm, hj, e]
  · rw [decide_eq_false hm]
    by_cases hlt : i < ks.length
    · have : ks[i] ≠ key := fun e => hm (e ▸ List.getElem_mem hlt)
      simp [hlt, this]
    · simp [hlt]

/-- the keys behind a Put -/
def putK (ks : List Int) (key : Int) : List Int := if key ∈ ks then ks else ks.take (plc ks key) ++ ([key] ++ ks.drop (plc ks key))
/-- the values behind a Put -/
def putV {α : Type} (ks : List Int) (us : List α) (key : Int) (v : α) : List α := if key ∈ ks then us.set (plc ks key) v else us.take (plc ks key) ++ ([v] ++ us.drop (plc ks key))
/-- a row without its place -/
def delR {α : Type} (ks : List Int) (us : List α) (key : Int) : List α := if key ∈ ks then us.take (plc ks key) ++ us.drop (plc ks key + 1) else us
/-- what a key has -/
def getV (ks us : List Int) (key : Int) : Int := if key ∈ ks then us[plc ks key]?.getD 0 else 0

theorem plc_le {ks : List Int} (hr : ks.Pairwise (· < ·)) (key : Int) : plc ks key ≤ ks.length := (plc_place hr key).1
theorem plc_lt {ks : List Int} (hr : ks.Pairwise (· < ·)) {key : Int} (h : key ∈ ks) : plc ks key < ks.length ∧ ks[plc ks key]?.getD 0 = key := by
  have := found_iff hr (plc_place hr key)
  rw [decide_eq_true h] at this
  simpa using this
theorem mem_putK {ks : List Int} {key x : Int} : x ∈ putK ks key ↔ x = key ∨ x ∈ ks := by
  unfold putK
  split
  · rename_i h
    constructor
    · exact .inr
    · rintro (rfl | h')
      · exact h
      · exact h'
  · rw [List.mem_append, List.mem_append, List.mem_singleton]
    constructor
    · rintro (h | h | h)
      · exact .inr (List.mem_of_mem_take h)
      · exact .inl h
      · exact .inr (List.mem_of_mem_drop h)
    · rintro (h | h)
      · exact .inr (.inl h)
      · rw [← List.take_append_drop (plc ks key) ks, List.mem_append] at h
        rcases h with h | h
        · exact .inl h
        · exact .inr (.inr h)
theorem rise_putK {ks : List Int} (hr : ks.Pairwise (· < ·)) (key : Int) : (putK ks key).Pairwise (· < ·) := by
  unfold putK
  split
  · exact hr
  · rename_i h
    exact put_rise hr (plc_place hr key) (by rw [found_iff hr (plc_place hr key)]; exact decide_eq_false h)
theorem rise_delR {ks : List Int} (hr : ks.Pairwise (· < ·)) (key : Int) : (delR ks ks key).Pairwise (· < ·) := by
  unfold delR
  split
  · refine hr.sublist ?_
    have := (List.Sublist.refl (ks.take (plc ks key))).append (List.drop_sublist 1 (ks.drop (plc ks key)))
    rw [List.drop_drop, List.take_append_drop] at this
    exact this
  · exact hr
theorem mem_delR {ks : List Int} (hr : ks.Pairwise (· < ·)) {key x : Int} : x ∈ delR ks ks key ↔ x ≠ key ∧ x ∈ ks := by
  unfold delR
  split
  · rename_i h
    obtain ⟨hl, hk⟩ := plc_lt hr h
    have e : ks = ks.take (plc ks key) ++ (key :: ks.drop (plc ks key + 1)) := by
      conv => lhs; rw [← List.take_append_drop (plc ks key) ks]
      rw [List.drop_eq_getElem_cons hl]
      rw [List.getElem?_eq_getElem hl] at hk
      simp at hk
      rw [hk]
    generalize hA : ks.take (plc ks key) = A at *
    generalize hB : ks.drop (plc ks key + 1) = B at *
    rw [e] at hr ⊢
    rw [List.pairwise_append, List.pairwise_cons] at hr
    obtain ⟨_, ⟨h1, _⟩, h2⟩ := hr
    simp only [List.mem_append, List.mem_cons]
    constructor
    · rintro (h' | h')
      · have := h2 x h' key (by simp)
        exact ⟨by omega, .inl h'⟩
      · have := h1 x h'
        exact ⟨by omega, .inr (.inr h')⟩
    · rintro ⟨h3, h' | h' | h'⟩
      · exact .inl h'
      · exact absurd h' h3
      · exact .inr h'
  · rename_i h
    constructor
    · intro hx
      exact ⟨fun e => h (e ▸ hx), hx⟩
    · exact fun hx => hx.2
theorem len_putK {ks : List Int} (hr : ks.Pairwise (· < ·)) (key : Int) : (putK ks key).length = if key ∈ ks then ks.length else ks.length + 1 := by
  unfold putK
  split
  · rfl
  · have := plc_le hr key
    simp
    omega
theorem len_putV {α : Type} {ks : List Int} (hr : ks.Pairwise (· < ·)) (us : List α) (hl : us.length = ks.length) (key : Int) (v : α) : (putV ks us key v).length = (putK ks key).length := by
  rw [len_putK hr]
  unfold putV
  have := plc_le hr key
  split
  · simp [hl]
  · simp
    omega
theorem len_delR {α : Type} {ks : List Int} (us vs : List α) (hl : us.length = vs.length) (key : Int) : (delR ks us key).length = (delR ks vs key).length := by
  unfold delR
  split <;> simp [hl]
/-- rising rows with the same members are the same -/
theorem rise_ext : ∀ {xs ys : List Int}, xs.Pairwise (· < ·) → ys.Pairwise (· < ·) → (∀ x, x ∈ xs ↔ x ∈ ys) → xs = ys := by
  intro xs
  induction xs with
  | nil =>
    intro ys _ _ h
    cases ys with
    | nil => rfl
    | cons y ys => have := (h y).2 (by simp); simp at this
  | cons x xs ih =>
    intro ys hx hy h
    cases ys with
    | nil => have := (h x).1 (by simp); simp at this
    | cons y ys =>
      rw [List.pairwise_cons] at hx hy
      have hxy : x = y := by
        have h1 := (h x).1 (by simp)
        have h2 := (h y).2 (by simp)
        rw [List.mem_cons] at h1 h2
        rcases h1 with h1 | h1
        · exact h1
        · rcases h2 with h2 | h2
          · exact h2.symm
          · have := hy.1 x h1
            have := hx.1 y h2
            omega
      subst hxy
      rw [ih hx.2 hy.2 (fun z => ?_)]
      constructor
      · intro hz
        have := (h z).1 (by simp [hz])
        rw [List.mem_cons] at this
        rcases this with e | e
        · have := hx.1 z hz; omega
        · exact e
      · intro hz
        have := (h z).2 (by simp [hz])
        rw [List.mem_cons] at this
        rcases this with e | e
        · have := hy.1 z hz; omega
        · exact e
end Go.Proofs.Ytcbnibldlbnkbaa
