/- book.Table: what a table is in memory; Put of a new key. -/
import Derived.Outline
import Derived.Test.YtcbnibldlbnkbaaInsII
import Derived.Test.YtcbnibldlbnkbaaBin
import Derived.Test.YtcbnibldlbnkbaaHeldZ
namespace Go.Proofs.Ytcbnibldlbnkbaa
open Go.RowKit

/-- a table of which the keys lie in K, the values in V, at ⟨g, o⟩ -/
structure TabAt (w : World) (base g o : Nat) (K V : Value) (ks : List Int) (vs : List Value) : Prop where
  k0 : w.cell? ⟨g, o, none⟩ = some K
  v0 : w.cell? ⟨g, o + 1, none⟩ = some V
  fk : w.frozen? ⟨g, o, none⟩ = false
  fv : w.frozen? ⟨g, o + 1, none⟩ = false
  ko : w.ownsRow base 3 1 K ks.length (ks.map (Value.int .i64))
  vo : w.ownsRow base 3 1 V ks.length vs
  one : ∀ u ∈ vs, u.oneCell' = true
  ne : ∀ k, K.ownBlock = some k → V.ownBlock ≠ some k
  kg : K.ownBlock ≠ some g
  vg : V.ownBlock ≠ some g
  low : base ≤ g
  lt : g < w.heap.size
  rise : ks.Pairwise (· < ·)

/-- what a table's doings may turn -/
def Foot (g : Nat) (K V : Value) (k : Nat) : Prop := k = g ∨ K.ownBlock = some k ∨ V.ownBlock = some k


theorem put_fin {w W1 W2 : World} {base g o : Nat} {K V K' V' : Value} {ks ks' : List Int} {vs vs' : List Value} (h : TabAt w base g o K V ks vs) (hlen : vs'.length = ks'.length)
    (hF : Fr (fun k => K.ownBlock = some k ∨ V.ownBlock = some k) w W2) (h1s : w.heap.size ≤ W1.heap.size) (hf12 : Fr (fun k => V.ownBlock = some k) W1 W2)
    (ho1 : W1.ownsRow base 3 1 K' ks'.length (ks'.map (Value.int .i64))) (ho2 : W2.ownsRow base 3 1 V' ks'.length vs')
    (hn1 : ∀ k, K'.ownBlock = some k → K.ownBlock = some k ∨ w.heap.size ≤ k) (hn2 : ∀ k, V'.ownBlock = some k → V.ownBlock = some k ∨ W1.heap.size ≤ k) (hone : ∀ u ∈ vs', u.oneCell' = true) (hr : ks'.Pairwise (· < ·)) :
    TabAt ((W2.setCell ⟨g, o, none⟩ K').setCell ⟨g, o + 1, none⟩ V') base g o K' V' ks' vs' ∧ Fr (Foot g K V) w ((W2.setCell ⟨g, o, none⟩ K').setCell ⟨g, o + 1, none⟩ V') ∧ ∀ k, Foot g K' V' k → Foot g K V k ∨ w.heap.size ≤ k := by
  have hVlt : ∀ k, V.ownBlock = some k → k < w.heap.size := fun k hk => (h.vo.lt k hk).2
  have ng : ∀ {S : Nat → Prop}, (∀ k, S k → K.ownBlock = some k ∨ V.ownBlock = some k) → ¬ S g := fun hS hs => (hS g hs).elim h.kg h.vg
  have gk : K'.ownBlock ≠ some g := fun e => by
    rcases hn1 g e with e | e
    · exact h.kg e
    · have := h.lt; omega
  have gv : V'.ownBlock ≠ some g := fun e => by
    rcases hn2 g e with e | e
    · exact h.vg e
    · have := h.lt; omega
  have hkv : ∀ k, K'.ownBlock = some k → V.ownBlock ≠ some k := fun k hk e => by
    rcases hn1 k hk with e' | e'
    · exact h.ne k e' e
    · have := hVlt k e; omega
  have ho1' : W2.ownsRow base 3 1 K' ks'.length (ks'.map (Value.int .i64)) := own_fr ho1 hf12 hkv
  have c0 : W2.cell? ⟨g, o, none⟩ = some K := (hF.cell (p := ⟨g, o, none⟩) h.lt (ng fun _ h => h)).trans h.k0
  have c1 : W2.cell? ⟨g, o + 1, none⟩ = some V := (hF.cell (p := ⟨g, o + 1, none⟩) h.lt (ng fun _ h => h)).trans h.v0
  have f0 : W2.frozen? ⟨g, o, none⟩ = false := (hF.frozen (p := ⟨g, o, none⟩) h.lt (ng fun _ h => h)).trans h.fk
  have f1 : W2.frozen? ⟨g, o + 1, none⟩ = false := (hF.frozen (p := ⟨g, o + 1, none⟩) h.lt (ng fun _ h => h)).trans h.fv
  refine ⟨⟨by simp [go_sem, c0], by simp [go_sem, c1], by simp [go_sem, f0], by simp [go_sem, f1], own_set (own_set ho1' gk _) gk _, own_set (own_set ho2 gv _) gv _, hone, fun k hk e => ?_, gk, gv, h.low, ?_, hr⟩, ?_, fun k hk => ?_⟩
  · rcases hn2 k e with e' | e'
    · exact hkv k hk e'
    · have := (ho1.lt k hk).2; omega
  · have := h.lt
    have := hF.size
    simp [World.setCell]
    omega
  · exact Fr.setCell (p := ⟨g, o + 1, none⟩) (Fr.setCell (p := ⟨g, o, none⟩) (hF.mono fun k _ hk => .inr hk) (.inr (.inl rfl)) _) (.inr (.inl rfl)) _
  · rcases hk with rfl | hk | hk
    · exact .inl (.inl rfl)
    · rcases hn1 k hk with e | e
      · exact .inl (.inr (.inl e))
      · exact .inr e
    · rcases hn2 k hk with e | e
      · exact .inl (.inr (.inr e))
      · exact .inr (by omega)

theorem put_rise {ks : List Int} {key : Int} {i : Nat} (hr : ks.Pairwise (· < ·)) (hp : PlaceOf ks key i) (hf : (decide (i < ks.length) && decide (ks[i]?.getD 0 = key)) = false) : (ks.take i ++ ([key] ++ ks.drop i)).Pairwise (· < ·) := by
  obtain ⟨hi, hlo, hhi⟩ := hp
  have ha : ∀ a ∈ ks.take i, a < key := fun a ha => by
    obtain ⟨j, hj, rfl⟩ := List.getElem_of_mem ha
    simp only [List.length_take] at hj
    have := hlo j (by omega)
    rw [List.getElem?_eq_getElem (by omega)] at this
    simpa using this
  have hb : ∀ b ∈ ks.drop i, key < b := fun b hb => by
    obtain ⟨j, hj, rfl⟩ := List.getElem_of_mem hb
    simp only [List.length_drop] at hj
    have h1 := hhi (i + j) (by omega) (by omega)
    have h0 := hhi i (Nat.le_refl _) (by omega)
    rw [List.getElem?_eq_getElem (by omega)] at h1 h0 hf
    simp only [Option.getD_some] at h1 h0 hf
    have hil : i < ks.length := by omega
    simp only [hil, decide_true, Bool.true_and, decide_eq_false_iff_not] at hf
    simp only [List.getElem_drop]
    by_cases hj0 : j = 0
    · subst hj0
      simp only [Nat.add_zero] at h1 ⊢
      omega
    · have := List.pairwise_iff_getElem.1 hr i (i + j) (by omega) (by omega) (by omega)
      omega
  refine List.pairwise_append.2 ⟨hr.sublist (List.take_sublist _ _), ?_, ?_⟩
  · exact List.pairwise_cons.2 ⟨hb, hr.sublist (List.drop_sublist _ _)⟩
  · intro a h1 b h2
    rcases List.mem_cons.1 h2 with rfl | h2
    · exact ha a h1
    · have := ha a h1
      have := hb b h2
      omega
end Go.Proofs.Ytcbnibldlbnkbaa
