/- book.Table.Put of a key that is there. -/
import Derived.Test.YtidokbgdbakjkaaTabL
namespace Go.Proofs.Ytidokbgdbakjkaa
open Go.RowKit

theorem set_fin {w : World} {base g o b n i ck cv : Nat} {A : Option Addr} {ks : List Int} {vs : List Value} (u : Value) (hl : n = ks.length) (hu : u.oneCell' = true) (h : TabAt w base g o (.slice A n ck) (.slice (some ⟨b, 0, none⟩) n cv) ks vs) :
    TabAt (w.setCell ⟨b, i, none⟩ u) base g o (.slice A n ck) (.slice (some ⟨b, 0, none⟩) n cv) ks (vs.set i u) ∧ Fr (Foot g (.slice A n ck) (.slice (some ⟨b, 0, none⟩) n cv)) w (w.setCell ⟨b, i, none⟩ u) := by
  have hB : (Value.slice (some ⟨b, 0, none⟩) n cv).ownBlock = some b := rfl
  have hg : b ≠ g := fun e => h.vg (by rw [hB, e])
  have hk : (Value.slice A n ck).ownBlock ≠ some b := fun e => h.ne b e hB
  have hF : Fr (Foot g (.slice A n ck) (.slice (some ⟨b, 0, none⟩) n cv)) w (w.setCell ⟨b, i, none⟩ u) := Fr.setCell (p := ⟨b, i, none⟩) (Fr.of_old (Old.refl' w)) (.inr (.inr (.inr hB))) u
  have hF1 : Fr (fun k => k = b) w (w.setCell ⟨b, i, none⟩ u) := Fr.setCell (S := fun k => k = b) (p := ⟨b, i, none⟩) (Fr.of_old (Old.refl' w)) (.inr rfl) u
  have hv := h.vo
  rw [← hl] at hv
  refine ⟨⟨(hF1.cell (p := ⟨g, o, none⟩) h.lt (Ne.symm hg)).trans h.k0, (hF1.cell (p := ⟨g, o + 1, none⟩) h.lt (Ne.symm hg)).trans h.v0, (hF1.frozen (p := ⟨g, o, none⟩) h.lt (Ne.symm hg)).trans h.fk, (hF1.frozen (p := ⟨g, o + 1, none⟩) h.lt (Ne.symm hg)).trans h.fv,
    own_set (p := ⟨b, i, none⟩) h.ko hk u, ?_, fun x hx => ?_, h.ne, h.kg, h.vg, h.low, Nat.lt_of_lt_of_le h.lt hF1.size, h.rise⟩, hF⟩
  · rw [← hl]
    exact own_store hv i u
  · rcases List.mem_or_eq_of_mem_set hx with hx | rfl
    · exact h.one x hx
    · exact hu

set_option maxRecDepth 100000 in
set_option maxHeartbeats 1000000 in
theorem Put_old (base g o i n ck cv : Nat) (A B : Option Addr) (ks : List Int) (vs : List Value) (key v : Int) (u : Value) (hl : n = ks.length) (hn : n ≤ 99999) (hp : PlaceOf ks key i) (hi : i < n) (hk : ks[i]?.getD 0 = key) (hu : vs[i]? = some u) (w : World) (h : TabAt w base g o (.slice A n ck) (.slice B n cv) ks vs) :
    Calls Try.prog 24 #[.pointer (some ⟨g, o, none⟩), .int .i64 key, .int .i64 v] w fun e w' => e = .returned (.tuple #[u, .bool true]) ∧ TabAt w' base g o (.slice A n ck) (.slice B n cv) ks (vs.set i (.int .i64 v)) ∧ Fr (Foot g (.slice A n ck) (.slice B n cv)) w w' := by
  have ho := h.ko
  have hv := h.vo
  rw [← hl] at ho hv
  have cB := hide (Bin_any A n ck i ks key true hl (by omega) hp (by simp [hi, hk]) w (CellsAt.of_own ho))
  cases B with
  | none => 
    have h1 := hv.2
    simp [Value.ownBlock] at h1
    have h2 := hv.1
    omega
  | some a =>
  obtain ⟨b, q, f⟩ := a
  obtain ⟨rfl, rfl⟩ : q = 0 ∧ f = none := by
    obtain ⟨A2, c2, e2, _, hz⟩ := own_form hv
    cases e2
    have h3 := (hz _ rfl).2.2
    cases h3
    exact ⟨rfl, rfl⟩
  have hci := own_cells hv i u hu
  have hfi := own_frozen hv i
  have FIN := hide (set_fin (i := i) (.int .i64 v) hl (by simp [Value.oneCell']) h)
  clear hp hl hk
  have k0 := h.k0
  have v0 := h.v0
  have hi1 : (i : Int) < n := by omega
  have hi0 : (0 : Int) ≤ i := by omega
  go_enter Try.func24, Try.ntmps24
  go_wp2_with (go_at_call 32; refine cB.out.mono ?_; rintro e w1 ⟨rfl, rfl⟩)
  go_ret2
  exact ⟨rfl, FIN.out⟩
end Go.Proofs.Ytidokbgdbakjkaa
