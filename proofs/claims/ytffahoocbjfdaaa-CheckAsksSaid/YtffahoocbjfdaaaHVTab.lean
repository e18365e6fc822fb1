/- book.Table: a table of rows of versions. -/
import Derived.Outline
import Derived.Test.YtffahoocbjfdaaaHInsVV
import Derived.Test.YtffahoocbjfdaaaHBk
namespace Go.Proofs.Ytffahoocbjfdaaa
open Go.RowKit
structure VTabAt (w : World) (base g o : Nat) (K V : Value) (ks : List Int) (vs : List Value) : Prop where
  k0 : w.cell? ⟨g, o, none⟩ = some K
  v0 : w.cell? ⟨g, o + 1, none⟩ = some V
  fk : w.frozen? ⟨g, o, none⟩ = false
  fv : w.frozen? ⟨g, o + 1, none⟩ = false
  ko : w.ownsRow base 3 1 K ks.length (ks.map (Value.int .i64))
  vo : w.ownsRow base 57 1 V ks.length vs
  one : ∀ u ∈ vs, u.oneCell' = true
  ne : ∀ k, K.ownBlock = some k → V.ownBlock ≠ some k
  kg : K.ownBlock ≠ some g
  vg : V.ownBlock ≠ some g
  low : base ≤ g
  lt : g < w.heap.size
  rise : ks.Pairwise (· < ·)
def Keeps (g o : Nat) (w w' : World) : Prop := ∀ j, j ≠ o → j ≠ o + 1 → w'.cell? ⟨g, j, none⟩ = w.cell? ⟨g, j, none⟩ ∧ w'.frozen? ⟨g, j, none⟩ = w.frozen? ⟨g, j, none⟩
theorem Keeps.of_fr {g o : Nat} {w w' : World} {S : Nat → Prop} (hF : Fr S w w') (hg : g < w.heap.size) (hS : ¬ S g) : Keeps g o w w' := fun j _ _ => ⟨hF.cell (p := ⟨g, j, none⟩) hg hS, hF.frozen (p := ⟨g, j, none⟩) hg hS⟩
theorem Keeps.set2 {g o : Nat} {w W : World} {a b : Value} (h : Keeps g o w W) : Keeps g o w ((W.setCell ⟨g, o, none⟩ a).setCell ⟨g, o + 1, none⟩ b) := fun j h1 h2 => by
  obtain ⟨c1, f1⟩ := h j h1 h2
  refine ⟨?_, ?_⟩
  · rw [World.cell?_setCell_other _ _ _ _ (by intro e; injection e; omega), World.cell?_setCell_other _ _ _ _ (by intro e; injection e; omega)]
    exact c1
  · simp only [World.frozen?_setCell]
    exact f1
theorem Vput_fin {w W1 W2 : World} {base g o : Nat} {K V K' V' : Value} {ks ks' : List Int} {vs vs' : List Value} (h : VTabAt w base g o K V ks vs) (hlen : vs'.length = ks'.length)
    (hF : Fr (fun k => K.ownBlock = some k ∨ V.ownBlock = some k) w W2) (h1s : w.heap.size ≤ W1.heap.size) (hf12 : Fr (fun k => V.ownBlock = some k) W1 W2)
    (ho1 : W1.ownsRow base 3 1 K' ks'.length (ks'.map (Value.int .i64))) (ho2 : W2.ownsRow base 57 1 V' ks'.length vs')
    (hn1 : ∀ k, K'.ownBlock = some k → K.ownBlock = some k ∨ w.heap.size ≤ k) (hn2 : ∀ k, V'.ownBlock = some k → V.ownBlock = some k ∨ W1.heap.size ≤ k) (hone : ∀ u ∈ vs', u.oneCell' = true) (hr : ks'.Pairwise (· < ·)) :
    VTabAt ((W2.setCell ⟨g, o, none⟩ K').setCell ⟨g, o + 1, none⟩ V') base g o K' V' ks' vs' ∧ Fr (Foot g K V) w ((W2.setCell ⟨g, o, none⟩ K').setCell ⟨g, o + 1, none⟩ V') ∧ Keeps g o w ((W2.setCell ⟨g, o, none⟩ K').setCell ⟨g, o + 1, none⟩ V') ∧ ∀ k, Foot g K' V' k → Foot g K V k ∨ w.heap.size ≤ k := by
  have hVlt : ∀ k, V.ownBlock = some k → k < w.heap.size := fun k hk => (h.vo.lt k hk).2
  have ng : ∀ {S : Nat → Prop}, (∀ k, S k → K.ownBlock = some k ∨ V.ownBlock = some k) → ¬ S g := fun hS hs => (hS g hs).elim h.kg h.vg
  have gk : K'.ownBlock ≠ some g := fun e => by
    rcases hn1 g e with e | e
    · exact h.kg e
    · have := h.lt; omega
  have gv : V'.ownBlock ≠ some g := fun e => by
    rcases hn2 g e with e | e
    · exact h.vg e
    · have := h.lt; omega
  have hkv : ∀ k, K'.ownBlock = some k → V.ownBlock ≠ some k := fun k hk e => by
    rcases hn1 k hk with e' | e'
    · exact h.ne k e' e
    · have := hVlt k e; omega
  have ho1' : W2.ownsRow base 3 1 K' ks'.length (ks'.map (Value.int .i64)) := own_fr ho1 hf12 hkv
  have c0 : W2.cell? ⟨g, o, none⟩ = some K := (hF.cell (p := ⟨g, o, none⟩) h.lt (ng fun _ h => h)).trans h.k0
  have c1 : W2.cell? ⟨g, o + 1, none⟩ = some V := (hF.cell (p := ⟨g, o + 1, none⟩) h.lt (ng fun _ h => h)).trans h.v0
  have f0 : W2.frozen? ⟨g, o, none⟩ = false := (hF.frozen (p := ⟨g, o, none⟩) h.lt (ng fun _ h => h)).trans h.fk
  have f1 : W2.frozen? ⟨g, o + 1, none⟩ = false := (hF.frozen (p := ⟨g, o + 1, none⟩) h.lt (ng fun _ h => h)).trans h.fv
  refine ⟨⟨by simp [go_sem, c0], by simp [go_sem, c1], by simp [go_sem, f0], by simp [go_sem, f1], own_set (own_set ho1' gk _) gk _, own_set (own_set ho2 gv _) gv _, hone, fun k hk e => ?_, gk, gv, h.low, ?_, hr⟩, ?_, (Keeps.of_fr hF h.lt (ng fun _ h => h)).set2, fun k hk => ?_⟩
  · rcases hn2 k e with e' | e'
    · exact hkv k hk e'
    · have := (ho1.lt k hk).2; omega
  · have := h.lt
    have := hF.size
    simp [World.setCell]
    omega
  · exact Fr.setCell (p := ⟨g, o + 1, none⟩) (Fr.setCell (p := ⟨g, o, none⟩) (hF.mono fun k _ hk => .inr hk) (.inr (.inl rfl)) _) (.inr (.inl rfl)) _
  · rcases hk with rfl | hk | hk
    · exact .inl (.inl rfl)
    · rcases hn1 k hk with e | e
      · exact .inl (.inr (.inl e))
      · exact .inr e
    · rcases hn2 k hk with e | e
      · exact .inl (.inr (.inr e))
      · exact .inr (by omega)
end Go.Proofs.Ytffahoocbjfdaaa
namespace Go.Proofs.Ytffahoocbjfdaaa
open Go.RowKit
set_option maxHeartbeats 1000000 in
theorem VTGet_no (base g o i n ck cv : Nat) (A B : Option Addr) (ks : List Int) (vs : List Value) (key : Int) (hl : n = ks.length) (hn : n ≤ 100000) (hp : PlaceOf ks key i) (hf : (decide (i < n) && decide (ks[i]?.getD 0 = key)) = false) (w : World) (h : VTabAt w base g o (.slice A n ck) (.slice B n cv) ks vs) :
    Calls Try.prog 46 #[.pointer (some ⟨g, o, none⟩), .int .i64 key] w fun e w' => e = .returned (.tuple #[.slice none 0 0, .bool false]) ∧ w = w' := by
  have ho := h.ko
  rw [← hl] at ho
  have cB := hide (Bin_any A n ck i ks key false hl hn hp hf w (CellsAt.of_own ho))
  clear hp hf hl
  have k0 := h.k0
  go_enter Try.func46, Try.ntmps46
  go_wp2_with (go_at_call 55; refine cB.out.mono ?_; rintro e w1 ⟨rfl, rfl⟩)
  go_ret2
  exact ⟨rfl, rfl⟩
set_option maxHeartbeats 1000000 in
theorem VTGet_yes (base g o i n ck cv : Nat) (A B : Option Addr) (ks : List Int) (vs : List Value) (key : Int) (u : Value) (hl : n = ks.length) (hn : n ≤ 100000) (hp : PlaceOf ks key i) (hi : i < n) (hk : ks[i]?.getD 0 = key) (hu : vs[i]? = some u) (w : World) (h : VTabAt w base g o (.slice A n ck) (.slice B n cv) ks vs) :
    Calls Try.prog 46 #[.pointer (some ⟨g, o, none⟩), .int .i64 key] w fun e w' => e = .returned (.tuple #[u, .bool true]) ∧ w = w' := by
  have ho := h.ko
  have hv := h.vo
  rw [← hl] at ho hv
  have cB := hide (Bin_any A n ck i ks key true hl hn hp (by simp [hi, hk]) w (CellsAt.of_own ho))
  obtain ⟨b, o2, rfl, hb, hc⟩ := (CellsAt.of_own hv) (by have := hv.1; intro e; subst e; simp at hu)
  have hci := hc i u hu
  clear hp hl hk hc
  have k0 := h.k0
  have v0 := h.v0
  have hi1 : (i : Int) < n := by omega
  have hi0 : (0 : Int) ≤ i := by omega
  go_enter Try.func46, Try.ntmps46
  go_wp2_with (go_at_call 55; refine cB.out.mono ?_; rintro e w1 ⟨rfl, rfl⟩)
  go_ret2
  exact ⟨rfl, rfl⟩
end Go.Proofs.Ytffahoocbjfdaaa
namespace Go.Proofs.Ytffahoocbjfdaaa
open Go.RowKit
theorem Vset_fin {w : World} {base g o b n i ck cv : Nat} {A : Option Addr} {ks : List Int} {vs : List Value} (u : Value) (hl : n = ks.length) (hu : u.oneCell' = true) (h : VTabAt w base g o (.slice A n ck) (.slice (some ⟨b, 0, none⟩) n cv) ks vs) :
    VTabAt (w.setCell ⟨b, i, none⟩ u) base g o (.slice A n ck) (.slice (some ⟨b, 0, none⟩) n cv) ks (vs.set i u) ∧ Fr (Foot g (.slice A n ck) (.slice (some ⟨b, 0, none⟩) n cv)) w (w.setCell ⟨b, i, none⟩ u) ∧ Keeps g o w (w.setCell ⟨b, i, none⟩ u) := by
  have hB : (Value.slice (some ⟨b, 0, none⟩) n cv).ownBlock = some b := rfl
  have hg : b ≠ g := fun e => h.vg (by rw [hB, e])
  have hk : (Value.slice A n ck).ownBlock ≠ some b := fun e => h.ne b e hB
  have hF : Fr (Foot g (.slice A n ck) (.slice (some ⟨b, 0, none⟩) n cv)) w (w.setCell ⟨b, i, none⟩ u) := Fr.setCell (p := ⟨b, i, none⟩) (Fr.of_old (Old.refl' w)) (.inr (.inr (.inr hB))) u
  have hF1 : Fr (fun k => k = b) w (w.setCell ⟨b, i, none⟩ u) := Fr.setCell (S := fun k => k = b) (p := ⟨b, i, none⟩) (Fr.of_old (Old.refl' w)) (.inr rfl) u
  have hv := h.vo
  rw [← hl] at hv
  refine ⟨⟨(hF1.cell (p := ⟨g, o, none⟩) h.lt (Ne.symm hg)).trans h.k0, (hF1.cell (p := ⟨g, o + 1, none⟩) h.lt (Ne.symm hg)).trans h.v0, (hF1.frozen (p := ⟨g, o, none⟩) h.lt (Ne.symm hg)).trans h.fk, (hF1.frozen (p := ⟨g, o + 1, none⟩) h.lt (Ne.symm hg)).trans h.fv,
    own_set (p := ⟨b, i, none⟩) h.ko hk u, ?_, fun x hx => ?_, h.ne, h.kg, h.vg, h.low, Nat.lt_of_lt_of_le h.lt hF1.size, h.rise⟩, hF, Keeps.of_fr hF1 h.lt (Ne.symm hg)⟩
  · rw [← hl]
    exact own_store hv i u
  · rcases List.mem_or_eq_of_mem_set hx with hx | rfl
    · exact h.one x hx
    · exact hu
set_option maxRecDepth 100000 in
set_option maxHeartbeats 1000000 in
theorem VPut_old (base g o i n ck cv : Nat) (A B : Option Addr) (ks : List Int) (vs : List Value) (key : Int) (A3 : Option Addr) (n3 c3 : Nat) (u : Value) (hl : n = ks.length) (hn : n ≤ 99999) (hp : PlaceOf ks key i) (hi : i < n) (hk : ks[i]?.getD 0 = key) (hu : vs[i]? = some u) (w : World) (h : VTabAt w base g o (.slice A n ck) (.slice B n cv) ks vs) :
    Calls Try.prog 48 #[.pointer (some ⟨g, o, none⟩), .int .i64 key, .slice A3 n3 c3] w fun e w' => e = .returned (.tuple #[u, .bool true]) ∧ VTabAt w' base g o (.slice A n ck) (.slice B n cv) ks (vs.set i (.slice A3 n3 c3)) ∧ Fr (Foot g (.slice A n ck) (.slice B n cv)) w w' ∧ Keeps g o w w' := by
  have ho := h.ko
  have hv := h.vo
  rw [← hl] at ho hv
  have cB := hide (Bin_any A n ck i ks key true hl (by omega) hp (by simp [hi, hk]) w (CellsAt.of_own ho))
  cases B with
  | none => 
    have h1 := hv.2
    simp [Value.ownBlock] at h1
    have h2 := hv.1
    omega
  | some a =>
  obtain ⟨b, q, f⟩ := a
  obtain ⟨rfl, rfl⟩ : q = 0 ∧ f = none := by
    obtain ⟨A2, c2, e2, _, hz⟩ := own_form hv
    cases e2
    have h3 := (hz _ rfl).2.2
    cases h3
    exact ⟨rfl, rfl⟩
  have hci := own_cells hv i u hu
  have hfi := own_frozen hv i
  have FIN := hide (Vset_fin (i := i) (.slice A3 n3 c3) hl (by simp [Value.oneCell']) h)
  clear hp hl hk
  have k0 := h.k0
  have v0 := h.v0
  have hi1 : (i : Int) < n := by omega
  have hi0 : (0 : Int) ≤ i := by omega
  go_enter Try.func48, Try.ntmps48
  go_wp2_with (go_at_call 55; refine cB.out.mono ?_; rintro e w1 ⟨rfl, rfl⟩)
  go_ret2
  exact ⟨rfl, FIN.out⟩
end Go.Proofs.Ytffahoocbjfdaaa
