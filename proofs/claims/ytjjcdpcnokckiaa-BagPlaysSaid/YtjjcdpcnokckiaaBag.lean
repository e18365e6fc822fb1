/- bag: New, Len, is, out, Take, Add. -/
import Derived.Deep.RegionHeld3
import Derived.Deep.QuietTactic
import Derived.BigQuiet
import Derived.Test.YtjjcdpcnokckiaaDel
namespace Go.Proofs.Ytjjcdpcnokckiaa
open Go.RowKit

/-- a message: whom it is from, whom for, where its bytes lie, its bytes -/
structure Msg where
  frm : Int
  to_ : Int
  A : Option Addr
  c : Nat
  bs : List Int
def Msg.sl (m : Msg) : Value := .slice m.A m.bs.length m.c
def Msg.cells (m : Msg) : List Value := [.int .i64 m.frm, .int .i64 m.to_, m.sl]
abbrev u8s (bs : List Int) : List Value := bs.map (Value.int .u8)
/-- the bag's own types -/
def BagT (t : TypeId) : Prop := t = 55 ∨ t = 58

structure BagAt (w : World) (base g : Nat) (ms : List Msg) : Prop where
  row : ∃ A c, Bk w g 55 #[.slice A ms.length c] ∧ w.ownsRow base 58 3 (.slice A ms.length c) ms.length (ms.flatMap Msg.cells)
  own : ∀ m ∈ ms, w.ownsRow base 5 1 m.sl m.bs.length (u8s m.bs)
  low : base ≤ g

theorem BagAt.lt {w : World} {base g : Nat} {ms : List Msg} (h : BagAt w base g ms) : g < w.heap.size := by
  obtain ⟨_, _, hb, _⟩ := h.row
  exact hb.lt
theorem BagAt.frT {T : TypeId → Prop} {w w' : World} {base b g : Nat} {ms : List Msg} (h : BagAt w base g ms) (hf : FrT T b w w') (h1 : ¬ T 55) (h2 : ¬ T 58) (h3 : ¬ T 5) : BagAt w' base g ms := by
  obtain ⟨A, c, hb, ho⟩ := h.row
  exact ⟨⟨A, c, hb.frT hf h1, own_frT ho hf h2⟩, fun m hm => own_frT (h.own m hm) hf h3, h.low⟩
theorem BagAt.old {w w' : World} {base g : Nat} {ms : List Msg} (h : BagAt w base g ms) (hf : Old w w') : BagAt w' base g ms :=
  BagAt.frT (T := fun _ => False) (b := 0) h (FrT.of_old hf) id id id
theorem BagAt.alloc {w : World} {base g : Nat} {ms : List Msg} (h : BagAt w base g ms) (o : Obj) : BagAt (w.alloc o) base g ms := h.old ((Old.refl' w).alloc' o)
theorem BagAt.drew {w : World} {base g : Nat} {ms : List Msg} (h : BagAt w base g ms) : BagAt w.drew base g ms := ⟨h.row, h.own, h.low⟩
theorem BagAt.drewN {w : World} {base g : Nat} {ms : List Msg} (h : BagAt w base g ms) (n : Nat) : BagAt (w.drewN n) base g ms := ⟨h.row, h.own, h.low⟩

theorem msgCells_length (ms : List Msg) : (ms.flatMap Msg.cells).length = ms.length * 3 := by
  induction ms with
  | nil => rfl
  | cons m ms ih => simp [Msg.cells] at ih ⊢; omega
theorem msgCells_one (ms : List Msg) : ∀ u ∈ ms.flatMap Msg.cells, u.oneCell' = true := by
  intro u hu
  simp only [List.mem_flatMap] at hu
  obtain ⟨m, _, h⟩ := hu
  simp [Msg.cells, Msg.sl] at h
  rcases h with rfl | rfl | rfl <;> rfl
theorem msgCells_take (ms : List Msg) : ∀ k, (ms.flatMap Msg.cells).take (k * 3) = (ms.take k).flatMap Msg.cells := by
  induction ms with
  | nil => intro k; simp
  | cons m ms ih =>
    intro k
    cases k with
    | zero => simp
    | succ k =>
      have e : (m :: ms).flatMap Msg.cells = .int .i64 m.frm :: .int .i64 m.to_ :: m.sl :: ms.flatMap Msg.cells := rfl
      rw [e, show (k + 1) * 3 = k * 3 + 1 + 1 + 1 from by omega]
      simp [ih k, Msg.cells]
theorem msgCells_drop (ms : List Msg) : ∀ k, (ms.flatMap Msg.cells).drop (k * 3) = (ms.drop k).flatMap Msg.cells := by
  induction ms with
  | nil => intro k; simp
  | cons m ms ih =>
    intro k
    cases k with
    | zero => simp
    | succ k =>
      have e : (m :: ms).flatMap Msg.cells = .int .i64 m.frm :: .int .i64 m.to_ :: m.sl :: ms.flatMap Msg.cells := rfl
      rw [e, show (k + 1) * 3 = k * 3 + 1 + 1 + 1 from by omega]
      simp [ih k]
theorem msgCells_get (ms : List Msg) : ∀ k m, ms[k]? = some m → (ms.flatMap Msg.cells)[k * 3]? = some (.int .i64 m.frm) ∧ (ms.flatMap Msg.cells)[k * 3 + 1]? = some (.int .i64 m.to_) ∧ (ms.flatMap Msg.cells)[k * 3 + 2]? = some m.sl := by
  induction ms with
  | nil => intro k m h; simp at h
  | cons x ms ih =>
    intro k m h
    cases k with
    | zero => simp at h; subst h; simp [Msg.cells]
    | succ k =>
      have := ih k m (by simpa using h)
      have e : (x :: ms).flatMap Msg.cells = .int .i64 x.frm :: .int .i64 x.to_ :: x.sl :: ms.flatMap Msg.cells := rfl
      rw [e, show (k + 1) * 3 = k * 3 + 1 + 1 + 1 from by omega]
      simpa using this

/-- a place's cells -/
theorem BagAt.at_ {w : World} {base g : Nat} {ms : List Msg} (h : BagAt w base g ms) {k : Nat} {m : Msg} (hk : ms[k]? = some m) :
    ∃ ga c, Bk w g 55 #[.slice (some ⟨ga, 0, none⟩) ms.length c] ∧ w.ownsRow base 58 3 (.slice (some ⟨ga, 0, none⟩) ms.length c) ms.length (ms.flatMap Msg.cells) ∧
      w.cell? ⟨ga, k * 3, none⟩ = some (.int .i64 m.frm) ∧ w.cell? ⟨ga, k * 3 + 1, none⟩ = some (.int .i64 m.to_) ∧ w.cell? ⟨ga, k * 3 + 2, none⟩ = some m.sl := by
  obtain ⟨A, c, hb, ho⟩ := h.row
  have hlt : k < ms.length := (List.getElem?_eq_some_iff.1 hk).1
  obtain ⟨ga, cap, e, _, _⟩ := ho.form (by omega)
  injection e with e1 _ e3
  subst e1 e3
  obtain ⟨g1, g2, g3⟩ := msgCells_get ms k m hk
  exact ⟨ga, c, hb, ho, own_cells ho _ _ g1, own_cells ho _ _ g2, own_cells ho _ _ g3⟩

set_option maxHeartbeats 400000 in
theorem New_bag (w : World) : Calls Try.prog 7 #[] w fun e w' => e = .returned (.pointer (some ⟨w.heap.size, 0, none⟩)) ∧ w' = w.alloc (.cells #[.slice none 0 0] 55) := by
  go_enter Try.func7, Try.ntmps7
  go_wp2
  go_ret
  exact ⟨rfl, rfl⟩
theorem New_bagAt (w : World) {base : Nat} (hb : base ≤ w.heap.size) : BagAt (w.alloc (.cells #[.slice none 0 0] 55)) base w.heap.size [] :=
  ⟨⟨none, 0, Bk.new w _ _, World.ownsRow_nil _ _ _ _⟩, fun _ h => by simp at h, hb⟩

set_option maxHeartbeats 400000 in
theorem Len_bag (base g : Nat) (ms : List Msg) (n : Nat) (hl : ms.length = n) (hn : n ≤ 100000) (w : World) (h : BagAt w base g ms) :
    Calls Try.prog 12 #[.pointer (some ⟨g, 0, none⟩)] w fun e w' => e = .returned (.int .i64 n) ∧ w = w' := by
  obtain ⟨A, c, hb, _⟩ := h.row
  rw [hl] at hb
  have c0 := hb.cell 0
  simp at c0
  clear h hb hl
  go_enter Try.func12, Try.ntmps12
  go_wp2
  go_ret
  exact ⟨rfl, rfl⟩

set_option maxHeartbeats 400000 in
theorem is_yes (g n c k : Nat) (A : Option Addr) (hk : k < n) (hn : n ≤ 100000) (w : World) (hb : Bk w g 55 #[.slice A n c]) :
    Calls Try.prog 20 #[.pointer (some ⟨g, 0, none⟩), .int .i64 k] w fun e w' => e = .returned (.bool true) ∧ w = w' := by
  have c0 := hb.cell 0
  simp at c0
  go_enter Try.func20, Try.ntmps20
  go_wp2
  go_ret
  exact ⟨rfl, rfl⟩
set_option maxHeartbeats 400000 in
theorem is_no (g n c : Nat) (k : Int) (A : Option Addr) (hk : k < 0 ∨ (n : Int) ≤ k) (hn : n ≤ 100000) (w : World) (hb : Bk w g 55 #[.slice A n c]) :
    Calls Try.prog 20 #[.pointer (some ⟨g, 0, none⟩), .int .i64 k] w fun e w' => e = .returned (.bool false) ∧ w = w' := by
  have c0 := hb.cell 0
  simp at c0
  by_cases h0 : 0 ≤ k
  · have h1 : decide (k < (n : Int)) = false := by simp; omega
    go_enter Try.func20, Try.ntmps20
    go_wp2
    go_ret
    exact ⟨rfl, rfl⟩
  · have h1 : decide (0 ≤ k) = false := by simp; omega
    go_enter Try.func20, Try.ntmps20
    go_wp2
    go_ret
    exact ⟨rfl, rfl⟩
end Go.Proofs.Ytjjcdpcnokckiaa
