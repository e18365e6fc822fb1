/- A function's own writer: its block, its box, what it has put. -/
import Derived.RangeFuncOwn
import Derived.RangeFuncFrom
import Derived.Test.YtcbnibldlbnkbaaWrT
import Derived.Test.YtcbnibldlbnkbaaRow
namespace Go.Proofs.Ytcbnibldlbnkbaa
open Go.RowKit

/-- a writer at block n, its pointer boxed at n + 1; all of it new behind n -/
def WS (w wr : World) (bs : List Int) : Prop :=
  ∃ V, WrAt wr w.heap.size V bs ∧ (∀ b, WrFoot w.heap.size V b → w.heap.size ≤ b) ∧ Bk wr (w.heap.size + 1) 77 #[.pointer (some ⟨w.heap.size, 0, none⟩)] ∧ Old w wr
/-- blocks of other types stay -/
def KT (W W' : World) : Prop := ∀ b t cs, t ≠ 79 → t ≠ 5 → Bk W b t cs → Bk W' b t cs
structure WPut (w wr : World) (bs : List Int) (w' : World) : Prop where
  ws : WS w w' bs
  kt : KT wr w'
  ko : KeepsOthers wr w'
  below : Below w.heap.size wr w'

section
variable {w wr w' w'' : World} {bs cs : List Int}
theorem WS.box (h : WS w wr bs) : Bk wr (w.heap.size + 1) 77 #[.pointer (some ⟨w.heap.size, 0, none⟩)] := by
  obtain ⟨V, h1, h2, h3, h4⟩ := h
  exact h3
theorem WS.o (h : WS w wr bs) : Old w wr := by
  obtain ⟨V, h1, h2, h3, h4⟩ := h
  exact h4
theorem WS.old (h : WS w wr bs) (hf : Old wr w') : WS w w' bs := by
  obtain ⟨V, h1, h2, h3, h4⟩ := h
  exact ⟨V, h1.old hf, h2, h3.old hf, h4.trans' hf⟩
theorem WS.alloc (h : WS w wr bs) (o : Obj) : WS w (wr.alloc o) bs := h.old ((Old.refl' wr).alloc' o)
theorem WS.drew (h : WS w wr bs) : WS w wr.drew bs := h.old ((Old.refl' wr).drew')
theorem KT.refl (W : World) : KT W W := fun _ _ _ _ _ h => h
theorem KT.trans (h : KT wr w') (k : KT w' w'') : KT wr w'' := fun b t cs h1 h2 h3 => k b t cs h1 h2 (h b t cs h1 h2 h3)
theorem KT.alloc (W : World) (o : Obj) : KT W (W.alloc o) := fun _ _ _ _ _ h => h.alloc o
theorem WPut.trans (h : WPut w wr bs w') (k : WPut w w' cs w'') : WPut w wr cs w'' := ⟨k.ws, h.kt.trans k.kt, ⟨Nat.le_trans h.ko.size k.ko.size, fun x o hx hc => k.ko.same x o (h.ko.same x o hx hc) hc⟩, h.below.trans k.below⟩
theorem WPut.start (h : WS w wr bs) : WPut w wr bs wr := ⟨h, KT.refl _, KeepsOthers.refl _, Below.refl _ _⟩
theorem WPut.alloc (h : WS w wr bs) (o : Obj) : WPut w wr bs (wr.alloc o) := ⟨h.alloc o, KT.alloc _ _, KeepsOthers.alloc _ _, (Below.refl _ _).alloc h.o.size o⟩
theorem WPut.of (h : WS w wr bs) (P : Value → World → Prop) (hp : ∀ V, WrAt wr w.heap.size V bs → P V w' → Wrote wr w.heap.size V cs w') (hP : ∀ V, WrAt wr w.heap.size V bs → P V w') : WPut w wr cs w' := by
  obtain ⟨V, h1, h2, h3, h4⟩ := h
  obtain ⟨V', a, f, n⟩ := hp V h1 (hP V h1)
  have hkt : KT wr w' := fun b t cs ht1 ht2 hb => hb.fr f (fun hx => by
    rcases hx with rfl | hx
    · exact hb.ne_ h1.bk ht1 rfl
    · exact own_ne_bk h1.own hb (Ne.symm ht2) hx)
  refine ⟨⟨V', a, fun b hb => ?_, hkt _ _ _ (by decide) (by decide) h3, ?_⟩, hkt, ⟨f.size, fun k o hk hc => ?_⟩, ⟨f.os, f.tape, f.output, f.size, fun k hk => f.block k (Nat.lt_of_lt_of_le hk h4.size) (fun hx => by have := h2 k hx; omega)⟩⟩
  · rcases n b hb with h | h
    · exact h2 b h
    · exact Nat.le_trans h4.size h
  · exact Old.fr_new h4 f h2
  · have hlt : k < wr.heap.size := (Array.getElem?_eq_some_iff.1 hk).1
    refine (f.block k hlt (fun hx => ?_)).trans hk
    rcases hx with rfl | hx
    · rw [h1.bk] at hk
      injection hk with hk
      subst hk
      simp [Obj.isCells] at hc
    · obtain ⟨_, cur, hcur⟩ := own_blk h1.own hx
      rw [hcur] at hk
      injection hk with hk
      subst hk
      simp [Obj.isCells] at hc
theorem Num_ws (v : Nat) (hv : v < 18446744073709551616) (hn : bs.length ≤ 10000000) (h : WS w wr bs) :
    Calls Try.prog 38 #[.pointer (some ⟨w.heap.size, 0, none⟩), .int .u64 v] wr fun e w' => e = .returned (.tuple #[]) ∧ WPut w wr (bs ++ numB v) w' := by
  have h0 := h
  obtain ⟨V, h1, h2, h3, h4⟩ := h
  refine (Num_w w.heap.size v V bs hn hv wr h1).mono ?_
  rintro e w' ⟨rfl, hw⟩
  exact ⟨rfl, WPut.of ⟨V, h1, h2, h3, h4⟩ (fun V' w' => V' = V → Wrote wr w.heap.size V (bs ++ numB v) w') (fun V' hV' hp => by
    have : V' = V := by
      have e1 := hV'.bk
      rw [Bk] at e1
      have e2 := h1.bk
      rw [Bk] at e2
      rw [e1] at e2
      injection e2 with e2
      injection e2 with e2
      injection e2 with e2
      injection e2
    subst this
    exact hp rfl) (fun V' _ _ => hw)⟩
theorem wr_same {g : Nat} {V V' : Value} (h : WrAt wr g V bs) (h' : WrAt wr g V' cs) : V' = V := by
  have e1 := h'.bk
  rw [Bk] at e1
  have e2 := h.bk
  rw [Bk] at e2
  rw [e1] at e2
  injection e2 with e2
  injection e2 with e2
  injection e2 with e2
  injection e2
theorem Yes_ws (b : Bool) (hn : bs.length ≤ 10000000) (h : WS w wr bs) :
    Calls Try.prog 40 #[.pointer (some ⟨w.heap.size, 0, none⟩), .bool b] wr fun e w' => e = .returned (.tuple #[]) ∧ WPut w wr (bs ++ yesB b) w' := by
  have h0 := h
  obtain ⟨V, h1, h2, h3, h4⟩ := h
  refine (Yes_w w.heap.size b V bs hn wr h1).mono ?_
  rintro e w' ⟨rfl, hw⟩
  exact ⟨rfl, WPut.of h0 (fun V' w' => V' = V → Wrote wr w.heap.size V (bs ++ yesB b) w') (fun V' hV' hp => by have := wr_same h1 hV'; subst this; exact hp rfl) (fun V' _ _ => hw)⟩
theorem Text_ws (d : ByteArray) (hd : d.size ≤ 100000) (hn : bs.length ≤ 9000000) (h : WS w wr bs) :
    Calls Try.prog 41 #[.pointer (some ⟨w.heap.size, 0, none⟩), .string d] wr fun e w' => e = .returned (.tuple #[]) ∧ WPut w wr (bs ++ textB d) w' := by
  have h0 := h
  obtain ⟨V, h1, h2, h3, h4⟩ := h
  refine (Text_w w.heap.size d V bs hn hd wr h1).mono ?_
  rintro e w' ⟨rfl, hw⟩
  exact ⟨rfl, WPut.of h0 (fun V' w' => V' = V → Wrote wr w.heap.size V (bs ++ textB d) w') (fun V' hV' hp => by have := wr_same h1 hV'; subst this; exact hp rfl) (fun V' _ _ => hw)⟩
/-- what a range over a function may do beside does not touch it -/
theorem ws_own {α : Type} (w : World) (B : Nat) (f : List α → List Int) (hB : w.heap.size ≤ B) : OwnFrom B (fun (pre : List α) W => WS w W (f pre)) := fun pre W W' row ⟨V, h1, h2, h3, h4⟩ hg hr => by
  have hF : Fr (fun k => row = some k) W W' := ⟨hg.os, hg.tape, hg.output, hg.size, fun k hk hn => hg.block k hk (fun e => hn e.symm)⟩
  have hcells : ∀ k t cs, Bk W k t cs → ¬ row = some k := fun k t cs hb e => by
    obtain ⟨-, o, ho, hc⟩ := hr k e
    rw [hb] at ho
    injection ho with ho
    subst ho
    simp [Obj.isCells] at hc
  refine ⟨V, h1.fr hF (fun k hk e => ?_), h2, h3.fr hF (fun e => hcells _ _ _ h3 e), Old.fr_new h4 hF (fun k e => Nat.le_trans hB (hr k e).1)⟩
  rcases hk with rfl | hk
  · exact hcells _ _ _ h1.bk e
  · obtain ⟨_, cur, hcur⟩ := own_blk h1.own hk
    exact hcells _ _ _ hcur e
end
end Go.Proofs.Ytcbnibldlbnkbaa
