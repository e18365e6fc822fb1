/- book.Table: what a table is in memory; Put of a new key. -/
import Derived.Outline
import Derived.Test.YtffahoocbjfdaaaHInsII
import Derived.Test.YtffahoocbjfdaaaHBin
import Derived.Test.YtffahoocbjfdaaaHBs
namespace Go.Proofs.Ytffahoocbjfdaaa
open Go.RowKit
def Foot (g : Nat) (K V : Value) (k : Nat) : Prop := k = g ∨ K.ownBlock = some k ∨ V.ownBlock = some k
theorem put_rise {ks : List Int} {key : Int} {i : Nat} (hr : ks.Pairwise (· < ·)) (hp : PlaceOf ks key i) (hf : (decide (i < ks.length) && decide (ks[i]?.getD 0 = key)) = false) : (ks.take i ++ ([key] ++ ks.drop i)).Pairwise (· < ·) := by
  obtain ⟨hi, hlo, hhi⟩ := hp
  have ha : ∀ a ∈ ks.take i, a < key := fun a ha => by
    obtain ⟨j, hj, rfl⟩ := List.getElem_of_mem ha
    simp only [List.length_take] at hj
    have := hlo j (by omega)
    rw [List.getElem?_eq_getElem (by omega)] at this
    simpa using this
  have hb : ∀ b ∈ ks.drop i, key < b := fun b hb => by
    obtain ⟨j, hj, rfl⟩ := List.getElem_of_mem hb
    simp only [List.length_drop] at hj
    have h1 := hhi (i + j) (by omega) (by omega)
    have h0 := hhi i (Nat.le_refl _) (by omega)
    rw [List.getElem?_eq_getElem (by omega)] at h1 h0 hf
    simp only [Option.getD_some] at h1 h0 hf
    have hil : i < ks.length := by omega
    simp only [hil, decide_true, Bool.true_and, decide_eq_false_iff_not] at hf
    simp only [List.getElem_drop]
    by_cases hj0 : j = 0
    · subst hj0
      simp only [Nat.add_zero] at h1 ⊢
      omega
    · have := List.pairwise_iff_getElem.1 hr i (i + j) (by omega) (by omega) (by omega)
      omega
  refine List.pairwise_append.2 ⟨hr.sublist (List.take_sublist _ _), ?_, ?_⟩
  · exact List.pairwise_cons.2 ⟨hb, hr.sublist (List.drop_sublist _ _)⟩
  · intro a h1 b h2
    rcases List.mem_cons.1 h2 with rfl | h2
    · exact ha a h1
    · have := ha a h1
      have := hb b h2
      omega
end Go.Proofs.Ytffahoocbjfdaaa

/- Sorted rows of keys: places, what Put, Del and Get make of them. No program. -/
namespace Go.Proofs.Ytffahoocbjfdaaa
open Go.RowKit
def plc (ks : List Int) (key : Int) : Nat := (ks.takeWhile fun k => decide (k < key)).length
theorem plc_place {ks : List Int} (h : ks.Pairwise (· < ·)) (key : Int) : PlaceOf ks key (plc ks key) := by
  induction ks with
  | nil => exact ⟨by simp [plc], fun j hj => by simp [plc] at hj, fun j _ hj => by simp at hj⟩
  | cons k ks ih =>
    rw [List.pairwise_cons] at h
    obtain ⟨h1, h2⟩ := h
    obtain ⟨a, b, c⟩ := ih h2
    by_cases hk : k < key
    · have e : plc (k :: ks) key = plc ks key + 1 := by simp [plc, hk]
      rw [e]
      refine ⟨by simpa using a, fun j hj => ?_, fun j h3 h4 => ?_⟩
      · cases j with
        | zero => simpa using hk
        | succ j => simpa using b j (by omega)
      · cases j with
        | zero => omega
        | succ j => simpa using c j (by omega) (by simpa using h4)
    · have e : plc (k :: ks) key = 0 := by simp [plc, hk]
      rw [e]
      refine ⟨by simp, fun j hj => by omega, fun j _ h4 => ?_⟩
      cases j with
      | zero => simp; omega
      | succ j =>
        have hj : j < ks.length := by simpa using h4
        have := h1 ks[j] (List.getElem_mem hj)
        simp [List.getElem?_eq_getElem hj]
        omega
theorem found_iff {ks : List Int} {key : Int} {i : Nat} (hr : ks.Pairwise (· < ·)) (hp : PlaceOf ks key i) : (decide (i < ks.length) && decide (ks[i]?.getD 0 = key)) = decide (key ∈ ks) := by
  obtain ⟨hi, hlo, hhi⟩ := hp
  by_cases hm : key ∈ ks
  · obtain ⟨j, hj, e⟩ := List.getElem_of_mem hm
    have hji : i ≤ j := by
      rcases Nat.lt_or_ge j i with h | h
      · have := hlo j h
        rw [List.getElem?_eq_getElem hj] at this
        simp [e] at this
      · exact h
    have hij : j = i := by
      rcases Nat.lt_or_ge i j with h | h
      · have h1 := List.pairwise_iff_getElem.1 hr i j (by omega) hj h
        have h2 := hhi i (Nat.le_refl _) (by omega)
        rw [List.getElem?_eq_getElem (by omega)] at h2
        simp at h2
        omega
      · omega
    subst hij
    simp [hm, hj, e]
  · rw [decide_eq_false hm]
    by_cases hlt : i < ks.length
    · have : ks[i] ≠ key := fun e => hm (e ▸ List.getElem_mem hlt)
      simp [hlt, this]
    · simp [hlt]
def putK (ks : List Int) (key : Int) : List Int := if key ∈ ks then ks else ks.take (plc ks key) ++ ([key] ++ ks.drop (plc ks key))
def putV {α : Type} (ks : List Int) (us : List α) (key : Int) (v : α) : List α := if key ∈ ks then us.set (plc ks key) v else us.take (plc ks key) ++ ([v] ++ us.drop (plc ks key))
theorem plc_le {ks : List Int} (hr : ks.Pairwise (· < ·)) (key : Int) : plc ks key ≤ ks.length := (plc_place hr key).1
theorem plc_lt {ks : List Int} (hr : ks.Pairwise (· < ·)) {key : Int} (h : key ∈ ks) : plc ks key < ks.length ∧ ks[plc ks key]?.getD 0 = key := by
  have := found_iff hr (plc_place hr key)
  rw [decide_eq_true h] at this
  simpa using this
theorem mem_putK {ks : List Int} {key x : Int} : x ∈ putK ks key ↔ x = key ∨ x ∈ ks := by
  unfold putK
  split
  · rename_i h
    constructor
    · exact .inr
    · rintro (rfl | h')
      · exact h
      · exact h'
  · rw [List.mem_append, List.mem_append, List.mem_singleton]
    constructor
    · rintro (h | h | h)
      · exact .inr (List.mem_of_mem_take h)
      · exact .inl h
      · exact .inr (List.mem_of_mem_drop h)
    · rintro (h | h)
      · exact .inr (.inl h)
      · rw [← List.take_append_drop (plc ks key) ks, List.mem_append] at h
        rcases h with h | h
        · exact .inl h
        · exact .inr (.inr h)
theorem rise_putK {ks : List Int} (hr : ks.Pairwise (· < ·)) (key : Int) : (putK ks key).Pairwise (· < ·) := by
  unfold putK
  split
  · exact hr
  · rename_i h
    exact put_rise hr (plc_place hr key) (by rw [found_iff hr (plc_place hr key)]; exact decide_eq_false h)
theorem len_putK {ks : List Int} (hr : ks.Pairwise (· < ·)) (key : Int) : (putK ks key).length = if key ∈ ks then ks.length else ks.length + 1 := by
  unfold putK
  split
  · rfl
  · have := plc_le hr key
    simp
    omega
theorem rise_ext : ∀ {xs ys : List Int}, xs.Pairwise (· < ·) → ys.Pairwise (· < ·) → (∀ x, x ∈ xs ↔ x ∈ ys) → xs = ys := by
  intro xs
  induction xs with
  | nil =>
    intro ys _ _ h
    cases ys with
    | nil => rfl
    | cons y ys => have := (h y).2 (by simp); simp at this
  | cons x xs ih =>
    intro ys hx hy h
    cases ys with
    | nil => have := (h x).1 (by simp); simp at this
    | cons y ys =>
      rw [List.pairwise_cons] at hx hy
      have hxy : x = y := by
        have h1 := (h x).1 (by simp)
        have h2 := (h y).2 (by simp)
        rw [List.mem_cons] at h1 h2
        rcases h1 with h1 | h1
        · exact h1
        · rcases h2 with h2 | h2
          · exact h2.symm
          · have := hy.1 x h1
            have := hx.1 y h2
            omega
      subst hxy
      rw [ih hx.2 hy.2 (fun z => ?_)]
      constructor
      · intro hz
        have := (h z).1 (by simp [hz])
        rw [List.mem_cons] at this
        rcases this with e | e
        · have := hx.1 z hz; omega
        · exact e
      · intro hz
        have := (h z).2 (by simp [hz])
        rw [List.mem_cons] at this
        rcases this with e | e
        · have := hy.1 z hz; omega
        · exact e
end Go.Proofs.Ytffahoocbjfdaaa
