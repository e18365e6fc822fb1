/- chart's iterator over versions, and what goes by it: last, history. -/
import Derived.RangeFuncNested
import Derived.RangeFuncBound
import Derived.RangeFuncCalls
import Derived.RangeFuncLeaves
import Derived.Shelf.Abstract
import Derived.Shelf.RegionOpen
import Derived.OwnWalkIn
import Derived.TacticsInMore
import Derived.LoopNIn
import Derived.LoopIn
import Derived.Test.YtffahoocbjfdaaaHRef
namespace Go.Proofs.Ytffahoocbjfdaaa
open Go.RowKit Go.Shelf
attribute [local go_sem] Oper.semAt_some
def Kb (n₀ Bs : Nat) (W W' : World) : Prop := Below n₀ W W' ∧ ∀ v, W.cell? ⟨Bs, 0, none⟩ = some v → W'.cell? ⟨Bs, 0, none⟩ = some v
theorem Kb.refl (n₀ Bs : Nat) (W : World) : Kb n₀ Bs W W := ⟨Below.refl _ _, fun _ h => h⟩
theorem Kb.t {n₀ Bs : Nat} {A B C : World} (h : Kb n₀ Bs A B) (k : Kb n₀ Bs B C) : Kb n₀ Bs A C := ⟨h.1.trans k.1, fun v hv => k.2 v (h.2 v hv)⟩
theorem Kb.b {n₀ Bs : Nat} {w : World} (hn : n₀ ≤ w.heap.size) (W : World) (l : Nat) (o o' : Obj) (hl : w.heap.size ≤ l) (h : W.heap[l]? = some o) (hc : o.isCells = false) (hw : o.isWalk = false) : Kb n₀ Bs W (W.putObj l o') :=
  ⟨belowK_b hn W l o o' hl h hc hw, fun _ hv => cell_kept hv (grownBy_putObj' W l o') (fun r e => by cases e; exact ⟨_, h, hc⟩)⟩
theorem Kb.alloc {n₀ Bs : Nat} {W W' : World} (h : Kb n₀ Bs W W') (hn : n₀ ≤ W'.heap.size) (o : Obj) : Kb n₀ Bs W (W'.alloc o) :=
  ⟨h.1.alloc hn o, fun v hv => by
    have h' := h.2 v hv
    exact (World.cell?_alloc_lt W' o ⟨Bs, 0, none⟩ (World.block_lt_of_cell? W' _ h')).trans h'⟩
theorem ownFrom_size {β : Type} {B m : Nat} : OwnFrom B (fun (_ : β) W => m ≤ W.heap.size) := fun _ _ _ _ hs hg _ => Nat.le_trans hs hg.size
def backL (vs : List Ver) (k : Nat) : List (Nat × Ver) := (List.range k).map fun j => (vs.length - j, vs[vs.length - j - 1]?.getD default)
theorem backL_succ (vs : List Ver) (k : Nat) : backL vs (k + 1) = backL vs k ++ [(vs.length - k, vs[vs.length - k - 1]?.getD default)] := by simp [backL, List.range_succ]
theorem backL_length (vs : List Ver) (k : Nat) : (backL vs k).length = k := by simp [backL]
set_option maxRecDepth 100000 in
set_option maxHeartbeats 1000000 in
theorem back1_in (F : Fence) (m : Nat) (h8 : F.fn 71) (hro : F.round = none) (hm : 1 ≤ m) (l Bs n₀ n cap : Nat) (A : Option Addr) (vs : List Ver) (hn : n ≤ 100000) (hl : n = vs.length) (J Jx : List (Nat × Ver) → World → Prop)
    (hY : ∀ pre x W, J pre W → pre.length < n → YieldAt F (m - 1) Try.prog l #[.int .i64 (x.1 : Int), .agg #[.bool x.2.1, .string x.2.2]] W fun e W' =>
      (e = .returned (.bool true) ∧ J (pre ++ [x]) W' ∧ Kb n₀ Bs W W') ∨ (e = .returned (.bool false) ∧ Jx (pre ++ [x]) W'))
    (W : World) (hBs : W.cell? ⟨Bs, 0, none⟩ = some (.slice A n cap)) (hc : Vers W A vs) (hoff : 0 < n → ∀ a, A = some a → a.block < n₀) (h0 : J [] W) :
    CallsIn F m Try.prog 71 #[.func (.yield l) #[] #[], .pointer (some ⟨Bs, 0, none⟩)] W fun e W' => (∃ v, e = .returned v) ∧
      ((∃ ys, ys = backL vs n ∧ J ys W') ∨ (∃ pre, (∃ k, k ≤ n ∧ pre = backL vs k) ∧ Jx pre W')) := by
  have HL := hide hl
  clear hl
  refine callsIn_of_wp Try.func71 rfl h8 ?_ hro
  simp only [Try.ntmps71, List.size_toArray, List.length_cons, List.length_nil, Nat.reduceAdd, Nat.reduceSub, Array.replicate_succ, Array.replicate_zero, List.push_toArray, List.append_toArray, List.nil_append, List.cons_append]
  gi_wp2
  gi_loopw [3] (fun i wr => ∃ k : Nat, k ≤ n ∧ i = .int .i64 ((n : Int) - k) ∧ J (backL vs k) wr ∧ Kb n₀ Bs W wr)
    (fun i _ => (intOf i).toNat)
  case atStart => exact ⟨0, Nat.zero_le _, by simp, h0, Kb.refl _ _ _⟩
  case round =>
    obtain ⟨k, hk, rfl, hJs, hnx⟩ := hrel
    have hbox := hnx.2 _ hBs
    by_cases hlt : k < n
    · obtain ⟨b, o, rfl, hb, g1, g2⟩ := hc.at_ (k := n - k - 1) (by have := HL.out; omega)
      have hb' := hoff (by omega) _ rfl
      obtain ⟨x, hx⟩ : ∃ x, x = vs[n - k - 1]?.getD default := ⟨_, rfl⟩
      rw [← hx] at g1 g2
      have HX := hide hx
      clear hx
      have g1' := (hnx.1.cell (p := ⟨b, o + (n - k - 1) * 2, none⟩) hb').trans g1
      have g2' := (hnx.1.cell (p := ⟨b, o + (n - k - 1) * 2 + 1, none⟩) hb').trans g2
      obtain ⟨fn, tmps, assign, body, hy, hR⟩ := hY _ (n - k, x) wr hJs (by rw [backL_length]; exact hlt)
      dsimp only at hy
      have hcast : ((n - k : Nat) : Int) = (n : Int) - k := by omega
      rw [hcast] at hy
      have HC := hide hcast
      clear hcast g1 g2
      gi_wp2
      refine hR.mono ?_
      rintro e W3 (⟨rfl, hJ3, hk3⟩ | ⟨rfl, hJx3⟩)
      · gi_wp2
        go_roundw
        case rel =>
          refine ⟨k + 1, by omega, by go_num, ?_, hnx.t hk3⟩
          rw [backL_succ, ← HL.out, ← HX.out]; exact hJ3
        case measure => simp [intOf]; omega
      · gi_wp2
        refine bodyPost_ret (results_none rfl _ _ _) rfl ?_
        refine ⟨⟨_, rfl⟩, .inr ⟨_, ⟨k + 1, by omega, ?_⟩, hJx3⟩⟩
        rw [backL_succ, ← HL.out, ← HX.out]
    · obtain rfl : k = n := by omega
      gi_wp2
      go_end0
      exact ⟨⟨_, rfl⟩, .inl ⟨_, rfl, hJs⟩⟩
set_option maxHeartbeats 400000 in
theorem back_in (F : Fence) (m : Nat) (h6 : F.fn 64) (hro : F.round = none) (A : Option Addr) (n cap : Nat) (w : World) :
    CallsIn F m Try.prog 64 #[.slice A n cap] w fun e w' => e = .returned (.func (.func 71) #[] #[.pointer (some ⟨w.heap.size, 0, none⟩)]) ∧ w' = w.alloc (.cells #[.slice A n cap] 57) := by
  refine callsIn_of_wp Try.func64 rfl h6 ?_ hro
  simp only [Try.ntmps64, List.size_toArray, List.length_cons, List.length_nil, Nat.reduceAdd, Nat.reduceSub, Array.replicate_succ, Array.replicate_zero, List.push_toArray, List.append_toArray, List.nil_append, List.cons_append]
  gi_wp2
  go_ret
  exact ⟨rfl, rfl⟩
theorem back_stops (F : Fence) (m : Nat) (h8 : F.fn 71) (hro : F.round = none) (hm : 1 ≤ m) (Bs n₀ n cap : Nat) (A : Option Addr) (vs : List Ver) (hn : n ≤ 100000) (hl : n = vs.length) (w : World) (hBs : Bs < w.heap.size)
    (hc : w.cell? ⟨Bs, 0, none⟩ = some (.slice A n cap)) (hV : Vers w A vs) (hoff : 0 < n → ∀ a, A = some a → a.block < n₀) :
    SeqStopsK F m Try.prog 71 #[.pointer (some ⟨Bs, 0, none⟩)] (fun x : Nat × Ver => #[Value.int .i64 (x.1 : Int), .agg #[.bool x.2.1, .string x.2.2]]) (Kb n₀ Bs) (fun ys => ys = backL vs n)
      (fun pre => ∃ k, k ≤ n ∧ pre = backL vs k) n w := fun l J Jx W hW _ _ hY h0 =>
  back1_in F m h8 hro hm l Bs n₀ n cap A vs hn hl J Jx hY W ((hW.cell (p := ⟨Bs, 0, none⟩) hBs).trans hc) (CellsAt.old hV hW) hoff h0
theorem bk_own {β : Type} (g : Nat) (t : TypeId) (f : β → Array Value) : Own (fun (s : β) W => Bk W g t (f s)) := fun s W W' row hs hg hr => by
  unfold Bk at hs ⊢
  by_cases h : row = some g
  · subst h
    obtain ⟨o, ho, hc⟩ := hr g rfl
    rw [hs] at ho
    injection ho with ho
    subst ho
    simp [Obj.isCells] at hc
  · exact (hg.block g (Array.getElem?_eq_some_iff.1 hs).1 (fun e => h e.symm)).trans hs
theorem Bk.put {W : World} {g : Nat} {t : TypeId} {cs : Array Value} (h : Bk W g t cs) {D : Nat} {o : Obj} (hD : W.heap[D]? = some o) (hc : o.isCells = false) (o' : Obj) : Bk (W.putObj D o') g t cs :=
  (bk_own g t (fun (_ : Unit) => cs)).putObj (s := ()) o' h hD hc
theorem Old.put {w W : World} (h : Old w W) {D : Nat} {o : Obj} (_hD : W.heap[D]? = some o) (hd : w.heap.size ≤ D) (o' : Obj) : Old w (W.putObj D o') :=
  h.grown (grownBy_putObj' W D o') h.size (fun k e => by cases e; exact hd)
theorem ownFrom_ex {α β : Type} {B : Nat} {I : α → β → World → Prop} (h : ∀ x, OwnFrom B (I x)) : OwnFrom B (fun s W => ∃ x, I x s W) :=
  fun s W W' row ⟨x, hs⟩ hg hr => ⟨x, h x s W W' row hs hg hr⟩
def lastV (vs : List Ver) : Ver := vs[vs.length - 1]?.getD default
set_option maxRecDepth 100000 in
set_option maxHeartbeats 2000000 in
theorem last_in (A : Option Addr) (n cap : Nat) (vs : List Ver) (hn : n ≤ 100000) (hl : n = vs.length) (w : World) (hV : Vers w A vs) :
    CallsIn Fence.wide 5 Try.prog 58 #[.slice A n cap] w fun e W' =>
      e = .returned (.tuple #[.int .i64 (n : Int), .agg #[.bool (lastV vs).1, .string (lastV vs).2]]) ∧ Old w W' := by
  have hoff : 0 < n → ∀ a, A = some a → a.block < w.heap.size := fun h a e => by
    obtain ⟨b, o, e', hb, _⟩ := hV.at_ (k := 0) (by omega)
    rw [e] at e'; injection e' with e'; subst e'; exact hb
  have HL := hide hl
  clear hl
  refine callsIn_of_wp_marks Try.func58 rfl trivial ?_ rfl
  simp only [Try.ntmps58, List.size_toArray, List.length_cons, List.length_nil, Nat.reduceAdd, Nat.reduceSub, Array.replicate_succ, Array.replicate_zero, List.push_toArray, List.append_toArray, List.nil_append, List.cons_append]
  gi_wp2_with (refine ⟨trivial, ?_⟩; gi_at_call 64; refine (back_in Fence.wide _ trivial rfl _ _ _ _).mono ?_; rintro e w' ⟨rfl, rfl⟩)
  have b0 : Bk (((w.alloc (.cells #[.int .i64 0] 3)).alloc (.cells #[.bool false, .string { data := #[] }] 96)).alloc (.cells #[.slice A n cap] 57)) w.heap.size 3 #[.int .i64 0] := ((Bk.new w _ _).alloc _).alloc _
  have b1 : Bk (((w.alloc (.cells #[.int .i64 0] 3)).alloc (.cells #[.bool false, .string { data := #[] }] 96)).alloc (.cells #[.slice A n cap] 57)) (w.heap.size + 1) 96 #[.bool false, .string { data := #[] }] := by
    have := (Bk.new (w.alloc (.cells #[.int .i64 0] 3)) 96 #[.bool false, .string { data := #[] }]).alloc (.cells #[.slice A n cap] 57)
    rwa [World.size_alloc] at this
  have b2 : Bk (((w.alloc (.cells #[.int .i64 0] 3)).alloc (.cells #[.bool false, .string { data := #[] }] 96)).alloc (.cells #[.slice A n cap] 57)) (w.heap.size + 2) 57 #[.slice A n cap] := by
    have := Bk.new ((w.alloc (.cells #[.int .i64 0] 3)).alloc (.cells #[.bool false, .string { data := #[] }] 96)) 57 #[.slice A n cap]
    rwa [World.size_alloc, World.size_alloc] at this
  have hB0 : Old w (((w.alloc (.cells #[.int .i64 0] 3)).alloc (.cells #[.bool false, .string { data := #[] }] 96)).alloc (.cells #[.slice A n cap] 57)) := (((Old.refl' w).alloc' _).alloc' _).alloc' _
  have hsz : (((w.alloc (.cells #[.int .i64 0] 3)).alloc (.cells #[.bool false, .string { data := #[] }] 96)).alloc (.cells #[.slice A n cap] 57)).heap.size = w.heap.size + 3 := by simp
  obtain ⟨W0, hW0⟩ : ∃ W0, ((w.alloc (.cells #[.int .i64 0] 3)).alloc (.cells #[.bool false, .string { data := #[] }] 96)).alloc (.cells #[.slice A n cap] 57) = W0 := ⟨_, rfl⟩
  rw [hW0] at b0 b1 b2 hB0 hsz ⊢
  clear hW0
  refine wpIn_rangeFunc_ownH rfl (by omega) (gf := 71) (lb := #[.pointer (some ⟨w.heap.size + 1 + 1, 0, none⟩)]) rfl trivial (enters_of Try.func71 (by kernel_rfl) rfl)
    (back_stops Fence.wide _ trivial rfl (by omega) (w.heap.size + 1 + 1) w.heap.size n cap A vs hn HL.out W0 (by omega) (by rw [b2.cell]; rfl) (CellsAt.old hV hB0) hoff) Kb.t (Kb.b (by omega)) (Below.refl _ _) (fun _ => rfl)
    (fun pre W => ((Bk W w.heap.size 3 #[.int .i64 0] ∧ Bk W (w.heap.size + 1) 96 #[.bool false, .string { data := #[] }]) ∧ Old w W) ∧ (pre = [] ∧ w.heap.size + 3 ≤ W.heap.size))
    (fun c pre W => ((∃ x, (pre = [x] ∧ c = .ret) ∧ (Bk W w.heap.size 3 #[.int .i64 (x.1 : Int)] ∧ Bk W (w.heap.size + 1) 96 #[.bool x.2.1, .string x.2.2])) ∧ Old w W))
    (OwnFrom.and (OwnFrom.and (OwnFrom.and (Own.from (bk_own _ _ (fun _ => _)) _) (Own.from (bk_own _ _ (fun _ => _)) _)) (ownFrom_below (Nat.le_refl _) (by omega))) (OwnFrom.and (fun _ _ _ _ h _ _ => h) ownFrom_size))
    (fun c => OwnFrom.and (ownFrom_ex fun x => OwnFrom.and (fun _ _ _ _ h _ _ => h) (OwnFrom.and (Own.from (bk_own _ _ (fun _ => _)) _) (Own.from (bk_own _ _ (fun _ => _)) _))) (ownFrom_below (Nat.le_refl _) (by omega)))
    ⟨⟨⟨b0, b1⟩, hB0⟩, rfl, by omega⟩
    (fun x a' W => (∃ Bx, (w.heap.size + 2 < Bx ∧ a' = { tmps := #[.slice A n cap, undef, .pointer (some ⟨w.heap.size, 0, none⟩), .pointer (some ⟨w.heap.size + 1, 0, none⟩), .int .i64 (x.1 : Int), .pointer (some ⟨Bx, 0, none⟩), .slice A n cap, .func (.func 71) #[] #[.pointer (some ⟨w.heap.size + 1 + 1, 0, none⟩)], .int .i64 (x.1 : Int), .agg #[.bool x.2.1, .string x.2.2], undef, undef, undef], defers := [] }) ∧ Bk W Bx 96 #[.bool x.2.1, .string x.2.2]))
    (fun x a' => ownFrom_ex fun Bx => OwnFrom.and (fun _ _ _ _ h _ _ => h) (Own.from (bk_own _ _ (fun _ => _)) _))
    ?assign ?body ?done ?stop
  case assign =>
    rintro l pre x W K ⟨⟨⟨c0, c1⟩, hB1⟩, rfl, hs1⟩ hK
    gi_wp2
    exact hK _ _ ((KeepsOthers.alloc _ _).from _) ((Kb.refl _ _ W).alloc hB1.size _) ⟨⟨⟨c0.alloc _, c1.alloc _⟩, hB1.alloc' _⟩, by simp; omega⟩ ⟨W.heap.size, ⟨by omega, rfl⟩, Bk.new W _ _⟩
  case body =>
    rintro l pre x a' W hl ⟨r, hr⟩ ⟨⟨⟨c0, c1⟩, hB1⟩, rfl, hs1⟩ ⟨Bx, ⟨hBx, rfl⟩, cX⟩ hlt
    have e0 := c0.cell 0
    have f0 := c0.frozen 0
    have e1 := c1.cell 0
    have e2 := c1.cell 1
    have f1 := c1.frozen 0
    have f2 := c1.frozen 1
    have e3 := cX.cell 0
    have e4 := cX.cell 1
    simp at e0 e1 e2 e3 e4
    gi_wp2
    gi_region
    all_goals gi_wp2
    all_goals
      refine ⟨((((KeepsOthers.setCell _ _ _).trans (KeepsOthers.setCell _ _ _)).trans (KeepsOthers.setCell _ _ _)).trans (KeepsOthers.drew _)).from _, ⟨x, ⟨rfl, rfl⟩, ?_, ?_⟩, ?_⟩
      · exact ((((c0.set_ 0 _).far (p := ⟨w.heap.size + 1, 0, none⟩) (by simp) _).far (p := ⟨w.heap.size + 1, 1, none⟩) (by simp) _)).drew
      · exact (((c1.far (p := ⟨w.heap.size, 0, none⟩) (by simp) _).set_ 0 _).set_ 1 _).drew
      · exact (((hB1.setCell (p := ⟨w.heap.size, 0, none⟩) (by simp) _).setCell (p := ⟨w.heap.size + 1, 0, none⟩) (by simp) _).setCell (p := ⟨w.heap.size + 1, 1, none⟩) (by simp) _).drew
  case done =>
    rintro D ys W hD hys ⟨⟨⟨c0, c1⟩, hB1⟩, hnil, hs1⟩ hK
    have hn0 : n = 0 := by
      rw [hys] at hnil
      have := backL_length vs n
      rw [hnil] at this
      simpa using this.symm
    have e0 := c0.cell 0
    have f0 := c0.frozen 0
    have e1 := c1.cell 0
    have e2 := c1.cell 1
    have f1 := c1.frozen 0
    have f2 := c1.frozen 1
    simp at e0 e1 e2
    have HN := hide hn0
    clear hys hnil hn0
    gi_wp2
    have d0 := (((c0.set_ 0 (.int .i64 0)).far (p := ⟨w.heap.size + 1, 0, none⟩) (by simp) (.bool false)).far (p := ⟨w.heap.size + 1, 1, none⟩) (by simp) (.string { data := #[] }))
    have d1 := (((c1.far (p := ⟨w.heap.size, 0, none⟩) (by simp) (.int .i64 0)).set_ 0 (.bool false)).set_ 1 (.string { data := #[] }))
    have hK' := (((KeepsOthers.setCell W ⟨w.heap.size, 0, none⟩ (.int .i64 0)).trans (KeepsOthers.setCell _ ⟨w.heap.size + 1, 0, none⟩ (.bool false))).trans (KeepsOthers.setCell _ ⟨w.heap.size + 1, 1, none⟩ (.string { data := #[] }))).same D _ hK rfl
    have hB2 := ((hB1.setCell (p := ⟨w.heap.size, 0, none⟩) (by simp) (.int .i64 0)).setCell (p := ⟨w.heap.size + 1, 0, none⟩) (by simp) (.bool false)).setCell (p := ⟨w.heap.size + 1, 1, none⟩) (by simp) (.string { data := #[] })
    refine ⟨by simp, .inl ⟨_, _, rfl, run_takeDeferred hK', ?_⟩⟩
    have a0 := (d0.put hK' rfl (.deferred none)).cell 0
    have a1 := (d1.put hK' rfl (.deferred none)).cell 0
    have a2 := (d1.put hK' rfl (.deferred none)).cell 1
    simp at a0 a1 a2
    refine ⟨.tuple #[.int .i64 0, .agg #[.bool false, .string { data := #[] }]], by simp [results, Try.f58, go_sem, a0, a1, a2], ?_, Old.put hB2 hK' (by omega) _⟩
    obtain rfl := HN.out
    obtain rfl : vs = [] := List.eq_nil_of_length_eq_zero HL.out.symm
    rfl
  case stop =>
    rintro D c pre W hD ⟨k, hk, hpre⟩ ⟨⟨x, ⟨hx, rfl⟩, c0, c1⟩, hB⟩ hK
    gi_wp2
    refine ⟨by simp, .inl ⟨_, _, rfl, run_takeDeferred hK, ?_⟩⟩
    have a0 := (c0.put hK rfl (.deferred none)).cell 0
    have a1 := (c1.put hK rfl (.deferred none)).cell 0
    have a2 := (c1.put hK rfl (.deferred none)).cell 1
    simp at a0 a1 a2
    refine ⟨.tuple #[.int .i64 (x.1 : Int), .agg #[.bool x.2.1, .string x.2.2]], by simp [results, Try.f58, go_sem, a0, a1, a2], ?_, Old.put hB hK (by omega) _⟩
    have hk1 : k = 1 := by
      have := backL_length vs k
      rw [← hpre, hx] at this
      simpa using this.symm
    subst hk1
    rw [hx] at hpre
    simp [backL] at hpre
    subst hpre
    simp [lastV, ← HL.out]
theorem last_any (A : Option Addr) (n cap : Nat) (vs : List Ver) (hn : n ≤ 100000) (hl : n = vs.length) (w : World) (hV : Vers w A vs) :
    Calls Try.prog 58 #[.slice A n cap] w fun e W' =>
      e = .returned (.tuple #[.int .i64 (n : Int), .agg #[.bool (lastV vs).1, .string (lastV vs).2]]) ∧ Old w W' :=
  callsIn_wide.1 (last_in A n cap vs hn hl w hV)
end Go.Proofs.Ytffahoocbjfdaaa
