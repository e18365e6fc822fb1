/- line.Line.from: the places and requests from one place on; Since, Find go by it. -/
import Derived.RangeFuncBox
import Derived.Maps.AppendAt
import Derived.Test.YtmhnlpilbbfgnaaHHist
import Derived.Test.YtmhnlpilbbfgnaaHLn
import Derived.Test.YtmhnlpilbbfgnaaHSt
namespace Go.Proofs.Ytmhnlpilbbfgnaa
open Go.RowKit Go.Shelf

attribute [local go_sem] Oper.semAt_some

/-- (p, the request there), .. : the first k of them, from place s + 1 -/
def fromL (qs : List ReqV) (s k : Nat) : List (Nat × ReqV) := (List.range k).map fun j => (s + j + 1, qs[s + j]?.getD default)
theorem fromL_succ (qs : List ReqV) (s k : Nat) : fromL qs s (k + 1) = fromL qs s k ++ [(s + k + 1, qs[s + k]?.getD default)] := by simp [fromL, List.range_succ]
theorem fromL_length (qs : List ReqV) (s k : Nat) : (fromL qs s k).length = k := by simp [fromL]
abbrev encR (x : Nat × ReqV) : Array Value := #[.int .i64 (x.1 : Int), .agg #[.int .i64 x.2.client, .int .i64 x.2.seq, .int .i64 x.2.kind, .int .i64 x.2.id, .int .i64 x.2.mat, .string x.2.data]]

/-- what a round must keep: all below n₀, the two boxes of the iterator -/
def Kc (n₀ B1 B2 : Nat) (W W' : World) : Prop := Below n₀ W W' ∧ (∀ v, W.cell? ⟨B1, 0, none⟩ = some v → W'.cell? ⟨B1, 0, none⟩ = some v) ∧ ∀ v, W.cell? ⟨B2, 0, none⟩ = some v → W'.cell? ⟨B2, 0, none⟩ = some v
theorem Kc.refl (n₀ B1 B2 : Nat) (W : World) : Kc n₀ B1 B2 W W := ⟨Below.refl _ _, fun _ h => h, fun _ h => h⟩
theorem Kc.t {n₀ B1 B2 : Nat} {A B C : World} (h : Kc n₀ B1 B2 A B) (k : Kc n₀ B1 B2 B C) : Kc n₀ B1 B2 A C := ⟨h.1.trans k.1, fun v hv => k.2.1 v (h.2.1 v hv), fun v hv => k.2.2 v (h.2.2 v hv)⟩
theorem Kc.k1 {n₀ B1 B2 : Nat} {A B : World} (h : Kc n₀ B1 B2 A B) : Kb n₀ B1 A B := ⟨h.1, h.2.1⟩
theorem Kc.k2 {n₀ B1 B2 : Nat} {A B : World} (h : Kc n₀ B1 B2 A B) : Kb n₀ B2 A B := ⟨h.1, h.2.2⟩
theorem Kc.mk' {n₀ B1 B2 : Nat} {A B : World} (h : Kb n₀ B1 A B) (k : Kb n₀ B2 A B) : Kc n₀ B1 B2 A B := ⟨h.1, h.2, k.2⟩
theorem Kc.b {n₀ B1 B2 : Nat} {w : World} (hn : n₀ ≤ w.heap.size) (W : World) (l : Nat) (o o' : Obj) (hl : w.heap.size ≤ l) (h : W.heap[l]? = some o) (hc : o.isCells = false) (hw : o.isWalk = false) : Kc n₀ B1 B2 W (W.putObj l o') :=
  Kc.mk' (Kb.b hn W l o o' hl h hc hw) (Kb.b hn W l o o' hl h hc hw)

theorem Len_in (F : Fence) (m : Nat) (h8 : F.fn 18) (hro : F.round = none) (g : Nat) (A : Option Addr) (n ca : Nat) (w : World) (l0 : w.cell? ⟨g, 1, none⟩ = some (.slice A n ca)) :
    CallsIn F m Try.prog 18 #[.pointer (some ⟨g, 0, none⟩)] w fun e w' => e = .returned (.int .i64 n) ∧ w = w' := by
  refine callsIn_of_wp Try.func18 rfl h8 ?_ hro
  simp only [Try.ntmps18, List.size_toArray, List.length_cons, List.length_nil, Nat.reduceAdd, Nat.reduceSub, Array.replicate_succ, Array.replicate_zero, List.push_toArray, List.append_toArray, List.nil_append, List.cons_append]
  gi_wp2
  go_ret
  exact ⟨rfl, rfl⟩

set_option maxRecDepth 100000 in
set_option maxHeartbeats 1000000 in
theorem from1_in (F : Fence) (m : Nat) (h8 : F.fn 71) (h7 : F.fn 18) (hro : F.round = none) (hm : 2 ≤ m) (l B1 B2 n₀ g n ca s : Nat) (A : Option Addr) (qs : List ReqV) (hn : n ≤ 100000) (hs : s ≤ 100000) (hl : n = qs.length) (J Jx : List (Nat × ReqV) → World → Prop)
    (hY : ∀ pre x W, J pre W → pre.length < n - s → YieldAt F (m - 1) Try.prog l (encR x) W fun e W' =>
      (e = .returned (.bool true) ∧ J (pre ++ [x]) W' ∧ Kc n₀ B1 B2 W W') ∨ (e = .returned (.bool false) ∧ Jx (pre ++ [x]) W'))
    (W : World) (hB1 : W.cell? ⟨B1, 0, none⟩ = some (.int .i64 ((s : Int) + 1))) (hB2 : W.cell? ⟨B2, 0, none⟩ = some (.pointer (some ⟨g, 0, none⟩))) (hg : g < n₀) (l0 : W.cell? ⟨g, 1, none⟩ = some (.slice A n ca)) (hc : ReqsAt W A qs) (hoff : 0 < n → ∀ a, A = some a → a.block < n₀) (h0 : J [] W) :
    CallsIn F m Try.prog 71 #[.func (.yield l) #[] #[], .pointer (some ⟨B1, 0, none⟩), .pointer (some ⟨B2, 0, none⟩)] W fun e W' => (∃ v, e = .returned v) ∧
      ((∃ ys, ys = fromL qs s (n - s) ∧ J ys W') ∨ (∃ pre, (∃ k, k ≤ n - s ∧ pre = fromL qs s k) ∧ Jx pre W')) := by
  have HL := hide hl
  clear hl
  refine callsIn_of_wp Try.func71 rfl h8 ?_ hro
  simp only [Try.ntmps71, List.size_toArray, List.length_cons, List.length_nil, Nat.reduceAdd, Nat.reduceSub, Array.replicate_succ, Array.replicate_zero, List.push_toArray, List.append_toArray, List.nil_append, List.cons_append]
  gi_wp2
  gi_loopw [4] (fun i wr => ∃ k : Nat, k ≤ n - s ∧ i = .int .i64 ((s : Int) + k + 1) ∧ J (fromL qs s k) wr ∧ Kc n₀ B1 B2 W wr)
    (fun i _ => n + 2 - (intOf i).toNat)
  case atStart => exact ⟨0, Nat.zero_le _, by simp, h0, Kc.refl _ _ _ _⟩
  case round =>
    obtain ⟨k, hk, rfl, hJs, hnx⟩ := hrel
    have hbox := hnx.2.2 _ hB2
    have l0' := (hnx.1.cell (p := ⟨g, 1, none⟩) hg).trans l0
    have cL := hide (Len_in F (m - 1) h7 hro g A n ca wr l0')
    by_cases hlt : s + k < n
    · have hkq : s + k < qs.length := by have := HL.out; omega
      obtain ⟨b, o, rfl, hb, hcc⟩ := hc.at5 (k := s + k) hkq
      have hb' := hoff (by omega) _ rfl
      obtain ⟨x, hx⟩ : ∃ x, qs[s + k]?.getD default = x := ⟨_, rfl⟩
      rw [hx] at hcc
      have HX := hide hx
      have x0 : wr.cell? ⟨b, o + (s + k) * 6, none⟩ = some (.int .i64 x.client) := (hnx.1.cell (p := ⟨b, o + (s + k) * 6, none⟩) hb').trans (hcc 0 _ (by omega) rfl)
      have x1 := (hnx.1.cell (p := ⟨b, o + (s + k) * 6 + 1, none⟩) hb').trans (hcc 1 _ (by omega) rfl)
      have x2 := (hnx.1.cell (p := ⟨b, o + (s + k) * 6 + 2, none⟩) hb').trans (hcc 2 _ (by omega) rfl)
      have x3 := (hnx.1.cell (p := ⟨b, o + (s + k) * 6 + 3, none⟩) hb').trans (hcc 3 _ (by omega) rfl)
      have x4 := (hnx.1.cell (p := ⟨b, o + (s + k) * 6 + 4, none⟩) hb').trans (hcc 4 _ (by omega) rfl)
      have x5 := (hnx.1.cell (p := ⟨b, o + (s + k) * 6 + 5, none⟩) hb').trans (hcc 5 _ (by omega) rfl)
      obtain ⟨fn, tmps, assign, body, hy, hR⟩ := hY _ (s + k + 1, x) wr hJs (by rw [fromL_length]; omega)
      dsimp only [encR] at hy
      have hcast : ((s + k + 1 : Nat) : Int) = (s : Int) + k + 1 := by omega
      rw [hcast] at hy
      have hi1 : (s : Int) + k + 1 ≤ n := by omega
      have hi2 : (s : Int) + k + 1 - 1 = ((s + k : Nat) : Int) := by omega
      have hi3 : ((s + k : Nat) : Int) < n := by omega
      have HC := hide hcast
      clear hcast hx hcc
      gi_wp2_with (refine ⟨fun _ => by omega, ?_⟩; gi_at_call 18; refine cL.out.mono ?_; rintro e w1 ⟨rfl, rfl⟩)
      refine ⟨fun _ => by omega, hR.mono ?_⟩
      rintro e W3 (⟨rfl, hJ3, hk3⟩ | ⟨rfl, hJx3⟩)
      · gi_wp2
        go_roundw
        case rel =>
          refine ⟨k + 1, by omega, by go_num, ?_, hnx.t hk3⟩
          rw [fromL_succ, HX.out]; exact hJ3
        case measure => simp [intOf]; omega
      · gi_wp2
        refine bodyPost_ret (results_none rfl _ _ _) rfl ?_
        refine ⟨⟨_, rfl⟩, .inr ⟨_, ⟨k + 1, by omega, ?_⟩, hJx3⟩⟩
        rw [fromL_succ, HX.out]
    · obtain rfl : k = n - s := by omega
      have hi1 : ¬ ((s : Int) + ((n - s : Nat) : Int) + 1 ≤ n) := by omega
      gi_wp2_with (refine ⟨fun _ => by omega, ?_⟩; gi_at_call 18; refine cL.out.mono ?_; rintro e w1 ⟨rfl, rfl⟩)
      go_end0
      exact ⟨⟨_, rfl⟩, .inl ⟨_, rfl, hJs⟩⟩

set_option maxHeartbeats 400000 in
theorem from_in (F : Fence) (m : Nat) (h6 : F.fn 45) (hro : F.round = none) (g : Nat) (a : Int) (w : World) :
    CallsIn F m Try.prog 45 #[.pointer (some ⟨g, 0, none⟩), .int .i64 a] w fun e w' => e = .returned (.func (.func 71) #[] #[.pointer (some ⟨w.heap.size + 1, 0, none⟩), .pointer (some ⟨w.heap.size, 0, none⟩)]) ∧
      w' = (w.alloc (.cells #[.pointer (some ⟨g, 0, none⟩)] 25)).alloc (.cells #[.int .i64 a] 3) := by
  refine callsIn_of_wp Try.func45 rfl h6 ?_ hro
  simp only [Try.ntmps45, List.size_toArray, List.length_cons, List.length_nil, Nat.reduceAdd, Nat.reduceSub, Array.replicate_succ, Array.replicate_zero, List.push_toArray, List.append_toArray, List.nil_append, List.cons_append]
  gi_wp2
  go_ret
  exact ⟨rfl, rfl⟩

theorem from_stops (F : Fence) (m : Nat) (h8 : F.fn 71) (h7 : F.fn 18) (hro : F.round = none) (hm : 2 ≤ m) (B1 B2 n₀ g n ca s : Nat) (A : Option Addr) (qs : List ReqV) (hn : n ≤ 100000) (hs : s ≤ 100000) (hl : n = qs.length) (w : World) (hB1 : B1 < w.heap.size) (hB2 : B2 < w.heap.size)
    (hc1 : w.cell? ⟨B1, 0, none⟩ = some (.int .i64 ((s : Int) + 1))) (hc2 : w.cell? ⟨B2, 0, none⟩ = some (.pointer (some ⟨g, 0, none⟩))) (hg : g < n₀) (hgw : g < w.heap.size) (l0 : w.cell? ⟨g, 1, none⟩ = some (.slice A n ca)) (hV : ReqsAt w A qs) (hoff : 0 < n → ∀ a, A = some a → a.block < n₀) :
    SeqStopsK F m Try.prog 71 #[.pointer (some ⟨B1, 0, none⟩), .pointer (some ⟨B2, 0, none⟩)] encR (Kc n₀ B1 B2) (fun ys => ys = fromL qs s (n - s))
      (fun pre => ∃ k, k ≤ n - s ∧ pre = fromL qs s k) (n - s) w := fun l J Jx W hW _ _ hY h0 =>
  from1_in F m h8 h7 hro hm l B1 B2 n₀ g n ca s A qs hn hs hl J Jx hY W ((hW.cell (p := ⟨B1, 0, none⟩) hB1).trans hc1) ((hW.cell (p := ⟨B2, 0, none⟩) hB2).trans hc2) hg ((hW.cell (p := ⟨g, 1, none⟩) hgw).trans l0) (CellsAt.old hV hW) hoff h0
end Go.Proofs.Ytmhnlpilbbfgnaa

/- line.Line.Since. -/
namespace Go.Proofs.Ytmhnlpilbbfgnaa
open Go.RowKit Go.Shelf

attribute [local go_sem] Oper.semAt_some

def rowOf (pre : List (Nat × ReqV)) : List Value := pre.flatMap fun x => x.2.cells
theorem rowOf_snoc (pre : List (Nat × ReqV)) (x : Nat × ReqV) : rowOf (pre ++ [x]) = rowOf pre ++ x.2.cells := by simp [rowOf]
theorem rowOf_length (pre : List (Nat × ReqV)) : (rowOf pre).length = pre.length * 6 := by
  induction pre with
  | nil => rfl
  | cons x pre ih =>
    have : x.2.cells.length = 6 := rfl
    simp only [rowOf, List.flatMap_cons, List.length_append, List.length_cons] at ih ⊢
    rw [ih, this]; omega
theorem rowOf_from (qs : List ReqV) (s : Nat) : ∀ k, s + k ≤ qs.length → rowOf (fromL qs s k) = ((qs.drop s).take k).flatMap ReqV.cells := by
  intro k
  induction k with
  | zero => intro _; rfl
  | succ k ih =>
    intro hk
    rw [fromL_succ, rowOf_snoc, ih (by omega)]
    have hd : k < (qs.drop s).length := by rw [List.length_drop]; omega
    rw [List.take_succ_eq_append_getElem hd, List.flatMap_append]
    congr 1
    rw [List.getElem?_eq_getElem (by omega)]
    simp

set_option maxRecDepth 100000 in
set_option maxHeartbeats 400000 in
theorem Since_none (p : Option Addr) (n : Int) (m : Int) (N : Nat) (hN : (p = none ∧ N = 0) ∨ ∃ g F l w', p = some ⟨g, 0, none⟩ ∧ l.qs.length = N ∧ LnAt w' g F l ∧ w' = w') (w : World) (hl : ∀ W, Old w W → Calls Try.prog 18 #[.pointer p] W fun e w' => e = .returned (.int .i64 N) ∧ W = w')
    (hc : n < 0 ∨ m < 1 ∨ (N : Int) ≤ n) :
    Calls Try.prog 20 #[.pointer p, .int .i64 n, .int .i64 m] w fun e w' => e = .returned (.slice none 0 0) ∧ Old w w' := by
  have cL := hide hl
  have hO := hide (((Old.refl' w).alloc' (.cells #[.int .i64 m] 3)).alloc' (.cells #[.slice none 0 0] 38))
  clear hl hN
  by_cases h1 : n < 0
  · clear hc
    go_enter Try.func20, Try.ntmps20
    go_wp2
    go_ret
    exact ⟨rfl, hO.out⟩
  · by_cases h2 : m < 1
    · clear hc
      go_enter Try.func20, Try.ntmps20
      go_wp2
      go_ret
      exact ⟨rfl, hO.out⟩
    · have h3 : (N : Int) ≤ n := by omega
      clear hc
      go_enter Try.func20, Try.ntmps20
      go_wp2_with (go_at_call 18; refine (cL.out _ hO.out).mono ?_; rintro e w1 ⟨rfl, rfl⟩)
      go_ret
      exact ⟨rfl, hO.out⟩

theorem info_ReqH : (Try.prog.info? 23).map (fun i => (i.zero, i.size, i.bytes)) = some (some (.agg #[.int .i64 0, .int .i64 0, .int .i64 0, .int .i64 0, .int .i64 0, .string { data := #[] }]), 6, 56) := by kernel_rfl

set_option maxRecDepth 100000 in
set_option maxHeartbeats 4000000 in
theorem Since_in (g : Nat) (F : Nat → Prop) (l : LnV) (N s most : Nat) (hN : l.qs.length = N) (hs : s < N) (hm : 1 ≤ most) (hfew : N ≤ 50000) (w : World) (h : LnAt w g F l) :
    CallsIn Fence.wide 6 Try.prog 20 #[.pointer (some ⟨g, 0, none⟩), .int .i64 s, .int .i64 most] w fun e W' =>
      ∃ A' c' k, k = min most (N - s) ∧ e = .returned (.slice A' k c') ∧ W'.ownsRow w.heap.size 23 6 (.slice A' k c') k (((l.qs.drop s).take k).flatMap ReqV.cells) ∧ Old w W' := by
  obtain ⟨i0, hi, hz0, hz1, hz2⟩ := info_parts info_ReqH
  obtain ⟨A, ca, gs, Fs, B, cb, rs, hsee⟩ := h.see hN
  have hgl := hsee.gl
  have l0 := hsee.l0
  have hV := hsee.row
  have hoff : 0 < N → ∀ a, A = some a → a.block < w.heap.size := fun h0 a e => by
    obtain ⟨b, o, e', hb, _⟩ := hV.at5 (k := 0) (by omega)
    rw [e] at e'; injection e' with e'; subst e'; exact hb
  have cL := hide (fun (W : World) (hW : Old w W) => Len_in Fence.wide 5 trivial rfl g A N ca W ((hW.cell (p := ⟨g, 1, none⟩) hgl).trans l0))
  have HN := hide hN
  have hO := hide (((Old.refl' w).alloc' (.cells #[.int .i64 most] 3)).alloc' (.cells #[.slice none 0 0] 38))
  have hi1 : ¬ ((s : Int) < 0) := by omega
  have hi2 : ¬ ((most : Int) < 1) := by omega
  have hi3 : ¬ ((N : Int) ≤ s) := by omega
  clear hN h hsee
  refine callsIn_of_wp_marks Try.func20 rfl trivial ?_ rfl
  simp only [Try.ntmps20, List.size_toArray, List.length_cons, List.length_nil, Nat.reduceAdd, Nat.reduceSub, Array.replicate_succ, Array.replicate_zero, List.push_toArray, List.append_toArray, List.nil_append, List.cons_append]
  gi_wp2_with (first
    | (refine ⟨trivial, ?_⟩; gi_at_call 18; refine (cL.out _ hO.out).mono ?_; rintro e w1 ⟨rfl, rfl⟩)
    | (refine ⟨trivial, ?_⟩; gi_at_call 45; refine (from_in Fence.wide _ trivial rfl _ _ _).mono ?_; rintro e w' ⟨rfl, rfl⟩))
  obtain ⟨W0, hW0⟩ : ∃ W0, (((w.alloc (.cells #[.int .i64 most] 3)).alloc (.cells #[.slice none 0 0] 38)).alloc (.cells #[.pointer (some ⟨g, 0, none⟩)] 25)).alloc (.cells #[.int .i64 ((s : Int) + 1)] 3) = W0 := ⟨_, rfl⟩
  have b0 : Boxed W0 w.heap.size 3 (.int .i64 most) := hW0 ▸ (((Boxed.new w _ _).alloc _).alloc _).alloc _
  have b1 : Boxed W0 (w.heap.size + 1) 38 (.slice none 0 0) := by
    have := ((Boxed.new (w.alloc (.cells #[.int .i64 most] 3)) 38 (.slice none 0 0)).alloc (.cells #[.pointer (some ⟨g, 0, none⟩)] 25)).alloc (.cells #[.int .i64 ((s : Int) + 1)] 3)
    rwa [World.size_alloc, hW0] at this
  have b2 : Boxed W0 (w.heap.size + 1 + 1) 25 (.pointer (some ⟨g, 0, none⟩)) := by
    have := (Boxed.new ((w.alloc (.cells #[.int .i64 most] 3)).alloc (.cells #[.slice none 0 0] 38)) 25 (.pointer (some ⟨g, 0, none⟩))).alloc (.cells #[.int .i64 ((s : Int) + 1)] 3)
    rwa [World.size_alloc, World.size_alloc, hW0] at this
  have b3 : Boxed W0 (w.heap.size + 1 + 1 + 1) 3 (.int .i64 ((s : Int) + 1)) := by
    have := Boxed.new (((w.alloc (.cells #[.int .i64 most] 3)).alloc (.cells #[.slice none 0 0] 38)).alloc (.cells #[.pointer (some ⟨g, 0, none⟩)] 25)) 3 (.int .i64 ((s : Int) + 1))
    rwa [World.size_alloc, World.size_alloc, World.size_alloc, hW0] at this
  have hB0 : Old w W0 := hW0 ▸ ((((Old.refl' w).alloc' _).alloc' _).alloc' _).alloc' _
  have hsz : W0.heap.size = w.heap.size + 4 := by rw [← hW0]; simp
  rw [hW0]
  clear hW0
  have l1 := (hB0.cell (p := ⟨g, 1, none⟩) hgl).trans l0
  refine wpIn_rangeFunc_ownH rfl (by omega) (gf := 71) (lb := #[.pointer (some ⟨w.heap.size + 1 + 1 + 1, 0, none⟩), .pointer (some ⟨w.heap.size + 1 + 1, 0, none⟩)]) rfl trivial (enters_of Try.func71 (by kernel_rfl) rfl)
    (from_stops Fence.wide _ trivial trivial rfl (by omega) (w.heap.size + 1 + 1 + 1) (w.heap.size + 1 + 1) w.heap.size g N ca s A l.qs (by omega) (by omega) HN.out.symm W0 (by omega) (by omega) b3.cell b2.cell hgl (by omega) l1 (CellsAt.old hV hB0) hoff) Kc.t (Kc.b (by omega)) (Below.refl _ _) (fun _ => rfl)
    (fun pre W => ((((((∃ v, Boxed W (w.heap.size + 1) 38 v ∧ W.ownsRow w.heap.size 23 6 v pre.length (rowOf pre) ∧ True) ∧ Boxed W w.heap.size 3 (.int .i64 most)) ∧ Boxed W (w.heap.size + 1 + 1) 25 (.pointer (some ⟨g, 0, none⟩))) ∧ Boxed W (w.heap.size + 1 + 1 + 1) 3 (.int .i64 ((s : Int) + 1))) ∧ Old w W) ∧ (w.heap.size + 4 ≤ W.heap.size)) ∧ (pre.length < most))
    (fun c pre W => ((∃ v, Boxed W (w.heap.size + 1) 38 v ∧ W.ownsRow w.heap.size 23 6 v pre.length (rowOf pre) ∧ True) ∧ Old w W) ∧ (c = .exit 0 ∧ pre.length = most))
    (OwnFrom.and (OwnFrom.and (OwnFrom.and (OwnFrom.and (OwnFrom.and (OwnFrom.and (Own.from (holdsRow_own w.heap.size (w.heap.size + 1) 38 23 6 (fun (pre : List (Nat × ReqV)) => pre.length) (fun (pre : List (Nat × ReqV)) => rowOf pre) (fun _ _ => True)) _) (Own.from (boxed_own _ _ (fun _ => _)) _)) (Own.from (boxed_own _ _ (fun _ => _)) _)) (Own.from (boxed_own _ _ (fun _ => _)) _)) (ownFrom_below (Nat.le_refl _) (by omega))) ownFrom_size) (fun _ _ _ _ h _ _ => h))
    (fun c => OwnFrom.and (OwnFrom.and (Own.from (holdsRow_own w.heap.size (w.heap.size + 1) 38 23 6 (fun (pre : List (Nat × ReqV)) => pre.length) (fun (pre : List (Nat × ReqV)) => rowOf pre) (fun _ _ => True)) _) (ownFrom_below (Nat.le_refl _) (by omega))) (fun _ _ _ _ h _ _ => h))
    ⟨⟨⟨⟨⟨⟨⟨_, b1, World.ownsRow_nil _ _ _ _, trivial⟩, b0⟩, b2⟩, b3⟩, hB0⟩, by omega⟩, by simp; omega⟩
    (fun x a' W => (∃ Bx, (w.heap.size + 3 < Bx ∧ a' = { tmps := #[.pointer (some ⟨g, 0, none⟩), .int .i64 s, .int .i64 most, undef, undef, .pointer (some ⟨w.heap.size, 0, none⟩), .slice none 0 0, .pointer (some ⟨w.heap.size + 1, 0, none⟩), undef, .pointer (some ⟨Bx, 0, none⟩), .int .i64 s, .bool false, .bool false, .int .i64 most, .bool false, .bool false, .bool false, .int .i64 s, .pointer (some ⟨g, 0, none⟩), .int .i64 N, .bool false, .bool false, .pointer (some ⟨g, 0, none⟩), .int .i64 s, .int .i64 ((s : Int) + 1), .func (.func 71) #[] #[.pointer (some ⟨w.heap.size + 1 + 1 + 1, 0, none⟩), .pointer (some ⟨w.heap.size + 1 + 1, 0, none⟩)], .int .i64 (x.1 : Int), .agg #[.int .i64 x.2.client, .int .i64 x.2.seq, .int .i64 x.2.kind, .int .i64 x.2.id, .int .i64 x.2.mat, .string x.2.data], undef, undef, undef, undef, undef, undef, undef, undef, undef], defers := [] }) ∧ Bk W Bx 23 #[.int .i64 x.2.client, .int .i64 x.2.seq, .int .i64 x.2.kind, .int .i64 x.2.id, .int .i64 x.2.mat, .string x.2.data]))
    (fun x a' => ownFrom_ex fun Bx => OwnFrom.and (fun _ _ _ _ h _ _ => h) (Own.from (bk_own _ _ (fun _ => _)) _))
    ?assign ?body ?done ?stop
  case assign =>
    rintro lp pre x W K ⟨⟨⟨⟨⟨⟨⟨v, c1, cr, -⟩, c0⟩, c2⟩, c3⟩, hB1⟩, hs1⟩, hlt⟩ hK
    gi_wp2
    exact hK _ _ ((KeepsOthers.alloc _ _).from _) (Kc.mk' ((Kb.refl _ _ W).alloc hB1.size _) ((Kb.refl _ _ W).alloc hB1.size _)) ⟨⟨⟨⟨⟨⟨⟨v, c1.alloc _, cr.alloc _, trivial⟩, c0.alloc _⟩, c2.alloc _⟩, c3.alloc _⟩, hB1.alloc' _⟩, by simp; omega⟩, hlt⟩ ⟨W.heap.size, ⟨by omega, rfl⟩, Bk.new W _ _⟩
  case body =>
    rintro lp pre x a' W hl ⟨r, hr⟩ ⟨⟨⟨⟨⟨⟨⟨v, c1, cr, -⟩, c0⟩, c2⟩, c3⟩, hB1⟩, hs1⟩, hpm⟩ ⟨Bx, ⟨hBx, rfl⟩, cX⟩ hlt
    have hpl : pre.length ≤ 100000 := by omega
    have fin : ∀ (g' cap' : Nat) (w1 : World), w1.ownsRow w.heap.size 23 6 (.slice (some ⟨g', 0, none⟩) (pre.length + 1) cap') (pre.length + 1) (rowOf pre ++ [.int .i64 x.2.client, .int .i64 x.2.seq, .int .i64 x.2.kind, .int .i64 x.2.id, .int .i64 x.2.mat, .string x.2.data]) → (W.alloc (.cells #[.int .i64 x.2.client, .int .i64 x.2.seq, .int .i64 x.2.kind, .int .i64 x.2.id, .int .i64 x.2.mat, .string x.2.data] 23)).grownBy w1 v.ownBlock →
        KeepsFrom W0.heap.size W (w1.setCell ⟨w.heap.size + 1, 0, none⟩ (.slice (some ⟨g', 0, none⟩) (pre.length + 1) cap')) ∧ Kc w.heap.size (w.heap.size + 1 + 1 + 1) (w.heap.size + 1 + 1) W (w1.setCell ⟨w.heap.size + 1, 0, none⟩ (.slice (some ⟨g', 0, none⟩) (pre.length + 1) cap')) ∧
        (∃ v, Boxed (w1.setCell ⟨w.heap.size + 1, 0, none⟩ (.slice (some ⟨g', 0, none⟩) (pre.length + 1) cap')) (w.heap.size + 1) 38 v ∧ (w1.setCell ⟨w.heap.size + 1, 0, none⟩ (.slice (some ⟨g', 0, none⟩) (pre.length + 1) cap')).ownsRow w.heap.size 23 6 v (pre ++ [x]).length (rowOf (pre ++ [x])) ∧ True) ∧
        (Boxed (w1.setCell ⟨w.heap.size + 1, 0, none⟩ (.slice (some ⟨g', 0, none⟩) (pre.length + 1) cap')) w.heap.size 3 (.int .i64 most) ∧ Boxed (w1.setCell ⟨w.heap.size + 1, 0, none⟩ (.slice (some ⟨g', 0, none⟩) (pre.length + 1) cap')) (w.heap.size + 1 + 1) 25 (.pointer (some ⟨g, 0, none⟩)) ∧ Boxed (w1.setCell ⟨w.heap.size + 1, 0, none⟩ (.slice (some ⟨g', 0, none⟩) (pre.length + 1) cap')) (w.heap.size + 1 + 1 + 1) 3 (.int .i64 ((s : Int) + 1))) ∧
        Boxed w1 w.heap.size 3 (.int .i64 most) ∧ Old w (w1.setCell ⟨w.heap.size + 1, 0, none⟩ (.slice (some ⟨g', 0, none⟩) (pre.length + 1) cap')) ∧ w.heap.size + 4 ≤ (w1.setCell ⟨w.heap.size + 1, 0, none⟩ (.slice (some ⟨g', 0, none⟩) (pre.length + 1) cap')).heap.size := by
      intro g' cap' w1 hown' hgrow
      obtain ⟨hv1, hv2, hr2, hk2, hb2⟩ := c1.appended (by decide) cr (by have := hB1.size; omega) (by omega) hown' hgrow
      have k0 := (c0.alloc (.cells #[.int .i64 x.2.client, .int .i64 x.2.seq, .int .i64 x.2.kind, .int .i64 x.2.id, .int .i64 x.2.mat, .string x.2.data] 23)).kept hgrow (c0.not_row (by decide) cr)
      have k2 := ((c2.alloc (.cells #[.int .i64 x.2.client, .int .i64 x.2.seq, .int .i64 x.2.kind, .int .i64 x.2.id, .int .i64 x.2.mat, .string x.2.data] 23)).kept hgrow (c2.not_row (by decide) cr)).other (B' := w.heap.size + 1) (by omega) (.slice (some ⟨g', 0, none⟩) (pre.length + 1) cap')
      have k3 := ((c3.alloc (.cells #[.int .i64 x.2.client, .int .i64 x.2.seq, .int .i64 x.2.kind, .int .i64 x.2.id, .int .i64 x.2.mat, .string x.2.data] 23)).kept hgrow (c3.not_row (by decide) cr)).other (B' := w.heap.size + 1) (by omega) (.slice (some ⟨g', 0, none⟩) (pre.length + 1) cap')
      refine ⟨hk2.from _, ⟨hb2, fun u hu => ?_, fun u hu => ?_⟩, ⟨_, hv2, ?_, trivial⟩, ⟨k0.other (by omega) _, k2, k3⟩, k0, hB1.trans hb2, Nat.le_trans hs1 hk2.size⟩
      · rw [c3.cell] at hu; rw [k3.cell, hu]
      · rw [c2.cell] at hu; rw [k2.cell, hu]
      · rw [rowOf_snoc, List.length_append]; exact hr2
    have e1 := c1.cell
    have e0 := c0.cell
    obtain ⟨⟨y0, y1, y2, y3, y4, y5⟩, ly⟩ := bk6 cX
    by_cases hlast : pre.length + 1 = most
    · have hm1 : (((pre.length : Int) + 1 == (most : Int))) = true := by simp; omega
      have HLA := hide hlast
      clear hlast
      gi_wp2_with (gi_at_builtin; refine wpListIn_append_own _ rfl _ _ 38 rfl w.heap.size 23 i0 (.agg #[.int .i64 0, .int .i64 0, .int .i64 0, .int .i64 0, .int .i64 0, .string { data := #[] }]) 6 56 Try.underlying38 hi hz0 hz1 hz2 rfl (by decide) _ _ _ rfl (cr.alloc _) ⟨W.heap.size, 0, none⟩ 1 1 [.int .i64 x.2.client, .int .i64 x.2.seq, .int .i64 x.2.kind, .int .i64 x.2.id, .int .i64 x.2.mat, .string x.2.data] rfl rfl (fun j u hj => by rw [add_mk]; exact (Bk.new W 23 #[.int .i64 x.2.client, .int .i64 x.2.seq, .int .i64 x.2.kind, .int .i64 x.2.id, .int .i64 x.2.mat, .string x.2.data]).cell (0 + j) |>.trans (by rw [Nat.zero_add]; simpa using hj)) (by simp [Value.oneCell']) (by unfold maxLen; omega) (by omega) (by have := hB1.size; simp; omega) ?_; intro v' w1 hown' hgrow _; obtain ⟨g', cap', rfl⟩ := ownsRow_succ hown'; have hfin := hide (fin g' cap' w1 hown' hgrow); obtain ⟨hv1, hv2, hr2, hk2, hb2⟩ := c1.appended (by decide) cr (by have := hB1.size; omega) (by omega) hown' hgrow; have hc1 := hv1.cell; have hf1 := hv1.frozen; have hc0 := hfin.out.2.2.2.2.1.cell)
      obtain ⟨f1, f2, f3, ⟨f4, f5, f6⟩, f7, f8, f9⟩ := hfin.out
      exact ⟨f1, ⟨f3, f8⟩, rfl, by rw [List.length_append]; exact HLA.out⟩
    · have hm1 : (((pre.length : Int) + 1 == (most : Int))) = false := by simp; omega
      have HLA := hide hlast
      clear hlast
      gi_wp2_with (gi_at_builtin; refine wpListIn_append_own _ rfl _ _ 38 rfl w.heap.size 23 i0 (.agg #[.int .i64 0, .int .i64 0, .int .i64 0, .int .i64 0, .int .i64 0, .string { data := #[] }]) 6 56 Try.underlying38 hi hz0 hz1 hz2 rfl (by decide) _ _ _ rfl (cr.alloc _) ⟨W.heap.size, 0, none⟩ 1 1 [.int .i64 x.2.client, .int .i64 x.2.seq, .int .i64 x.2.kind, .int .i64 x.2.id, .int .i64 x.2.mat, .string x.2.data] rfl rfl (fun j u hj => by rw [add_mk]; exact (Bk.new W 23 #[.int .i64 x.2.client, .int .i64 x.2.seq, .int .i64 x.2.kind, .int .i64 x.2.id, .int .i64 x.2.mat, .string x.2.data]).cell (0 + j) |>.trans (by rw [Nat.zero_add]; simpa using hj)) (by simp [Value.oneCell']) (by unfold maxLen; omega) (by omega) (by have := hB1.size; simp; omega) ?_; intro v' w1 hown' hgrow _; obtain ⟨g', cap', rfl⟩ := ownsRow_succ hown'; have hfin := hide (fin g' cap' w1 hown' hgrow); obtain ⟨hv1, hv2, hr2, hk2, hb2⟩ := c1.appended (by decide) cr (by have := hB1.size; omega) (by omega) hown' hgrow; have hc1 := hv1.cell; have hf1 := hv1.frozen; have hc0 := hfin.out.2.2.2.2.1.cell)
      obtain ⟨f1, f2, f3, ⟨f4, f5, f6⟩, f7, f8, f9⟩ := hfin.out
      exact ⟨f1, f2, ⟨⟨⟨⟨⟨f3, f4⟩, f5⟩, f6⟩, f8⟩, f9⟩, by rw [List.length_append]; have := HLA.out; show pre.length + 1 < most; omega⟩
  case done =>
    rintro D ys W hD hys ⟨⟨⟨⟨⟨⟨⟨v, c1, cr, -⟩, c0⟩, c2⟩, c3⟩, hB1⟩, hs1⟩, hpm⟩ hK
    have e1 := c1.cell
    have hlen : ys.length = N - s := by rw [hys, fromL_length]
    have hrow : rowOf ys = ((l.qs.drop s).take (N - s)).flatMap ReqV.cells := by rw [hys]; exact rowOf_from l.qs s (N - s) (by rw [HN.out]; omega)
    obtain ⟨A', c', rfl, -, -⟩ := own_form cr
    rw [hlen, hrow] at cr
    rw [hlen] at e1 hpm
    have HC := hide cr
    have HK := hide hK
    have HB := hide hB1
    clear cr hrow hlen hys c1 c0 c2 c3 hK hB1
    gi_wp2
    refine ⟨by simp, .inl ⟨_, _, rfl, run_takeDeferred HK.out, ?_⟩⟩
    exact ⟨_, results_tmp rfl _ _ _, A', c', N - s, by omega, rfl, ownsRow_putObj HC.out _ HK.out rfl, Old.put HB.out HK.out (by omega) _⟩
  case stop =>
    rintro D c pre W hD ⟨k, hk, hpre⟩ ⟨⟨⟨v, c1, cr, -⟩, hB1⟩, rfl, hpm⟩ hK
    have e1 := c1.cell
    have hkl : k = most := by rw [← hpm, hpre, fromL_length]
    have hrow : rowOf pre = ((l.qs.drop s).take k).flatMap ReqV.cells := by rw [hpre]; exact rowOf_from l.qs s k (by rw [HN.out]; omega)
    obtain ⟨A', c', rfl, -, -⟩ := own_form cr
    rw [hpm, ← hkl, hrow] at cr
    rw [hpm, ← hkl] at e1
    have HC := hide cr
    have HK := hide hK
    have HB := hide hB1
    have HKM := hide (show k = min most (N - s) by omega)
    clear cr hrow hpre hpm hkl c1 hK hB1
    gi_wp2
    refine ⟨by simp, .inl ⟨_, _, rfl, run_takeDeferred HK.out, ?_⟩⟩
    exact ⟨_, results_tmp rfl _ _ _, A', c', k, HKM.out, rfl, ownsRow_putObj HC.out _ HK.out rfl, Old.put HB.out HK.out (by omega) _⟩
theorem Since_ln (g : Nat) (F : Nat → Prop) (l : LnV) (N s most : Nat) (hN : l.qs.length = N) (hs : s < N) (hm : 1 ≤ most) (hfew : N ≤ 50000) (w : World) (h : LnAt w g F l) :
    Calls Try.prog 20 #[.pointer (some ⟨g, 0, none⟩), .int .i64 s, .int .i64 most] w fun e W' =>
      ∃ A' c' k, k = min most (N - s) ∧ e = .returned (.slice A' k c') ∧ W'.ownsRow w.heap.size 23 6 (.slice A' k c') k (((l.qs.drop s).take k).flatMap ReqV.cells) ∧ Old w W' := callsIn_wide.1 (Since_in g F l N s most hN hs hm hfew w h)
end Go.Proofs.Ytmhnlpilbbfgnaa

/- line.Line.Find. -/
namespace Go.Proofs.Ytmhnlpilbbfgnaa
open Go.RowKit Go.Shelf

attribute [local go_sem] Oper.semAt_some

def hitQ (c s : Int) (q : ReqV) : Bool := decide (q.client = c) && decide (q.seq = s)
/-- the place of a client's request; 0: none -/
def findR (qs : List ReqV) (c s : Int) : Nat := (qs.findIdx? (hitQ c s)).elim 0 (· + 1)
theorem findR_none {qs : List ReqV} {c s : Int} (h : ∀ q ∈ qs, hitQ c s q = false) : findR qs c s = 0 := by
  unfold findR
  rw [List.findIdx?_eq_none_iff.2 h]
  rfl
theorem findR_some {qs : List ReqV} {c s : Int} {j : Nat} {q : ReqV} (hq : qs[j]? = some q) (hh : hitQ c s q = true) (h : ∀ i x, i < j → qs[i]? = some x → hitQ c s x = false) : findR qs c s = j + 1 := by
  unfold findR
  have hj := (List.getElem?_eq_some_iff.1 hq).1
  have he := (List.getElem?_eq_some_iff.1 hq).2
  rw [List.findIdx?_eq_some_iff_getElem.2 ⟨hj, by rw [he]; exact hh, fun i hi => by
    have := h i _ hi (List.getElem?_eq_getElem (by omega))
    simp [this]⟩]
  rfl
theorem mem_fromL {qs : List ReqV} {s k : Nat} {x : Nat × ReqV} : x ∈ fromL qs s k ↔ ∃ j, j < k ∧ x = (s + j + 1, qs[s + j]?.getD default) := by
  unfold fromL
  simp only [List.mem_map, List.mem_range]
  constructor
  · rintro ⟨j, h, rfl⟩; exact ⟨j, h, rfl⟩
  · rintro ⟨j, h, rfl⟩; exact ⟨j, h, rfl⟩

set_option maxRecDepth 100000 in
set_option maxHeartbeats 4000000 in
theorem Find_in (g : Nat) (F : Nat → Prop) (l : LnV) (N : Nat) (c q : Int) (hN : l.qs.length = N) (hfew : N ≤ 50000) (w : World) (h : LnAt w g F l) :
    CallsIn Fence.wide 6 Try.prog 14 #[.pointer (some ⟨g, 0, none⟩), .int .i64 c, .int .i64 q] w fun e W' =>
      e = .returned (.tuple #[.int .i64 (findR l.qs c q), .bool (decide (findR l.qs c q ≠ 0))]) ∧ Old w W' := by
  obtain ⟨A, ca, gs, Fs, B, cb, rs, hsee⟩ := h.see hN
  have hgl := hsee.gl
  have l0 := hsee.l0
  have hV := hsee.row
  have hoff : 0 < N → ∀ a, A = some a → a.block < w.heap.size := fun h0 a e => by
    obtain ⟨b, o, e', hb, _⟩ := hV.at5 (k := 0) (by omega)
    rw [e] at e'; injection e' with e'; subst e'; exact hb
  have HN := hide hN
  clear hN h hsee
  refine callsIn_of_wp_marks Try.func14 rfl trivial ?_ rfl
  simp only [Try.ntmps14, List.size_toArray, List.length_cons, List.length_nil, Nat.reduceAdd, Nat.reduceSub, Array.replicate_succ, Array.replicate_zero, List.push_toArray, List.append_toArray, List.nil_append, List.cons_append]
  gi_wp2_with (refine ⟨trivial, ?_⟩; gi_at_call 45; refine (from_in Fence.wide _ trivial rfl _ _ _).mono ?_; rintro e w' ⟨rfl, rfl⟩)
  obtain ⟨W0, hW0⟩ : ∃ W0, ((((((w.alloc (.cells #[.int .i64 c] 3)).alloc (.cells #[.int .i64 q] 3)).alloc (.cells #[.int .i64 0] 3)).alloc (.cells #[.bool false] 4)).alloc (.cells #[.pointer (some ⟨g, 0, none⟩)] 25)).alloc (.cells #[.int .i64 1] 3)) = W0 := ⟨_, rfl⟩
  have b0 : Boxed W0 w.heap.size 3 (.int .i64 c) := by
    have := (((((Boxed.new w 3 (.int .i64 c)).alloc (.cells #[.int .i64 q] 3)).alloc (.cells #[.int .i64 0] 3)).alloc (.cells #[.bool false] 4)).alloc (.cells #[.pointer (some ⟨g, 0, none⟩)] 25)).alloc (.cells #[.int .i64 1] 3)
    rwa [hW0] at this
  have b1 : Boxed W0 (w.heap.size + 1) 3 (.int .i64 q) := by
    have := ((((Boxed.new (w.alloc (.cells #[.int .i64 c] 3)) 3 (.int .i64 q)).alloc (.cells #[.int .i64 0] 3)).alloc (.cells #[.bool false] 4)).alloc (.cells #[.pointer (some ⟨g, 0, none⟩)] 25)).alloc (.cells #[.int .i64 1] 3)
    rwa [World.size_alloc, hW0] at this
  have b2 : Boxed W0 (w.heap.size + 1 + 1) 3 (.int .i64 0) := by
    have := (((Boxed.new ((w.alloc (.cells #[.int .i64 c] 3)).alloc (.cells #[.int .i64 q] 3)) 3 (.int .i64 0)).alloc (.cells #[.bool false] 4)).alloc (.cells #[.pointer (some ⟨g, 0, none⟩)] 25)).alloc (.cells #[.int .i64 1] 3)
    rwa [World.size_alloc, World.size_alloc, hW0] at this
  have b3 : Boxed W0 (w.heap.size + 1 + 1 + 1) 4 (.bool false) := by
    have := ((Boxed.new (((w.alloc (.cells #[.int .i64 c] 3)).alloc (.cells #[.int .i64 q] 3)).alloc (.cells #[.int .i64 0] 3)) 4 (.bool false)).alloc (.cells #[.pointer (some ⟨g, 0, none⟩)] 25)).alloc (.cells #[.int .i64 1] 3)
    rwa [World.size_alloc, World.size_alloc, World.size_alloc, hW0] at this
  have b4 : Boxed W0 (w.heap.size + 1 + 1 + 1 + 1) 25 (.pointer (some ⟨g, 0, none⟩)) := by
    have := (Boxed.new ((((w.alloc (.cells #[.int .i64 c] 3)).alloc (.cells #[.int .i64 q] 3)).alloc (.cells #[.int .i64 0] 3)).alloc (.cells #[.bool false] 4)) 25 (.pointer (some ⟨g, 0, none⟩))).alloc (.cells #[.int .i64 1] 3)
    rwa [World.size_alloc, World.size_alloc, World.size_alloc, World.size_alloc, hW0] at this
  have b5 : Boxed W0 (w.heap.size + 1 + 1 + 1 + 1 + 1) 3 (.int .i64 1) := by
    have := Boxed.new (((((w.alloc (.cells #[.int .i64 c] 3)).alloc (.cells #[.int .i64 q] 3)).alloc (.cells #[.int .i64 0] 3)).alloc (.cells #[.bool false] 4)).alloc (.cells #[.pointer (some ⟨g, 0, none⟩)] 25)) 3 (.int .i64 1)
    rwa [World.size_alloc, World.size_alloc, World.size_alloc, World.size_alloc, World.size_alloc, hW0] at this
  have hB0 : Old w W0 := hW0 ▸ ((((((Old.refl' w).alloc' _).alloc' _).alloc' _).alloc' _).alloc' _).alloc' _
  have hsz : W0.heap.size = w.heap.size + 6 := by rw [← hW0]; simp
  rw [hW0]
  clear hW0
  have l1 := (hB0.cell (p := ⟨g, 1, none⟩) hgl).trans l0
  refine wpIn_rangeFunc_ownH rfl (by omega) (gf := 71) (lb := #[.pointer (some ⟨w.heap.size + 1 + 1 + 1 + 1 + 1, 0, none⟩), .pointer (some ⟨w.heap.size + 1 + 1 + 1 + 1, 0, none⟩)]) rfl trivial (enters_of Try.func71 (by kernel_rfl) rfl)
    (from_stops Fence.wide _ trivial trivial rfl (by omega) (w.heap.size + 1 + 1 + 1 + 1 + 1) (w.heap.size + 1 + 1 + 1 + 1) w.heap.size g N ca 0 A l.qs (by omega) (by omega) HN.out.symm W0 (by omega) (by omega) b5.cell b4.cell hgl (by omega) l1 (CellsAt.old hV hB0) hoff) Kc.t (Kc.b (by omega)) (Below.refl _ _) (fun _ => rfl)
    (fun pre W => ((((((((Boxed W w.heap.size 3 (.int .i64 c)) ∧ Boxed W (w.heap.size + 1) 3 (.int .i64 q)) ∧ Boxed W (w.heap.size + 1 + 1) 3 (.int .i64 0)) ∧ Boxed W (w.heap.size + 1 + 1 + 1) 4 (.bool false)) ∧ Boxed W (w.heap.size + 1 + 1 + 1 + 1) 25 (.pointer (some ⟨g, 0, none⟩))) ∧ Boxed W (w.heap.size + 1 + 1 + 1 + 1 + 1) 3 (.int .i64 1)) ∧ Old w W) ∧ (w.heap.size + 6 ≤ W.heap.size)) ∧ (∀ x ∈ pre, hitQ c q x.2 = false))
    (fun cc pre W => (∃ x : Nat × ReqV, ((∃ ps, pre = ps ++ [x] ∧ hitQ c q x.2 = true ∧ cc = .ret ∧ ∀ y ∈ ps, hitQ c q y.2 = false) ∧ (Boxed W (w.heap.size + 1 + 1) 3 (.int .i64 (x.1 : Int)) ∧ Boxed W (w.heap.size + 1 + 1 + 1) 4 (.bool true)))) ∧ Old w W)
    (OwnFrom.and (OwnFrom.and (OwnFrom.and (OwnFrom.and (OwnFrom.and (OwnFrom.and (OwnFrom.and (OwnFrom.and (Own.from (boxed_own _ _ (fun _ => _)) _) (Own.from (boxed_own _ _ (fun _ => _)) _)) (Own.from (boxed_own _ _ (fun _ => _)) _)) (Own.from (boxed_own _ _ (fun _ => _)) _)) (Own.from (boxed_own _ _ (fun _ => _)) _)) (Own.from (boxed_own _ _ (fun _ => _)) _)) (ownFrom_below (Nat.le_refl _) (by omega))) ownFrom_size) (fun _ _ _ _ h _ _ => h))
    (fun cc => OwnFrom.and (ownFrom_ex fun x => OwnFrom.and (fun _ _ _ _ h _ _ => h) (OwnFrom.and (Own.from (boxed_own _ _ (fun _ => _)) _) (Own.from (boxed_own _ _ (fun _ => _)) _))) (ownFrom_below (Nat.le_refl _) (by omega)))
    ⟨⟨⟨⟨⟨⟨⟨⟨b0, b1⟩, b2⟩, b3⟩, b4⟩, b5⟩, hB0⟩, by omega⟩, by simp⟩
    (fun x a' W => (∃ Bx, (w.heap.size + 5 < Bx ∧ a' = { tmps := #[.pointer (some ⟨g, 0, none⟩), .int .i64 c, .int .i64 q, undef, .pointer (some ⟨w.heap.size, 0, none⟩), .pointer (some ⟨w.heap.size + 1, 0, none⟩), .pointer (some ⟨w.heap.size + 1 + 1, 0, none⟩), .pointer (some ⟨w.heap.size + 1 + 1 + 1, 0, none⟩), .int .i64 (x.1 : Int), .pointer (some ⟨Bx, 0, none⟩), .pointer (some ⟨g, 0, none⟩), .func (.func 71) #[] #[.pointer (some ⟨w.heap.size + 1 + 1 + 1 + 1 + 1, 0, none⟩), .pointer (some ⟨w.heap.size + 1 + 1 + 1 + 1, 0, none⟩)], .int .i64 (x.1 : Int), .agg #[.int .i64 x.2.client, .int .i64 x.2.seq, .int .i64 x.2.kind, .int .i64 x.2.id, .int .i64 x.2.mat, .string x.2.data], undef, undef, undef, undef, undef, undef, undef, undef, undef, undef, undef], defers := [] }) ∧ Bk W Bx 23 #[.int .i64 x.2.client, .int .i64 x.2.seq, .int .i64 x.2.kind, .int .i64 x.2.id, .int .i64 x.2.mat, .string x.2.data]))
    (fun x a' => ownFrom_ex fun Bx => OwnFrom.and (fun _ _ _ _ h _ _ => h) (Own.from (bk_own _ _ (fun _ => _)) _))
    ?assign ?body ?done ?stop
  case assign =>
    rintro lp pre x W K ⟨⟨⟨⟨⟨⟨⟨⟨c0, c1⟩, c2⟩, c3⟩, c4⟩, c5⟩, hB1⟩, hs1⟩, hno⟩ hK
    gi_wp2
    exact hK _ _ ((KeepsOthers.alloc _ _).from _) (Kc.mk' ((Kb.refl _ _ W).alloc hB1.size _) ((Kb.refl _ _ W).alloc hB1.size _)) ⟨⟨⟨⟨⟨⟨⟨⟨c0.alloc _, c1.alloc _⟩, c2.alloc _⟩, c3.alloc _⟩, c4.alloc _⟩, c5.alloc _⟩, hB1.alloc' _⟩, by simp; omega⟩, hno⟩ ⟨W.heap.size, ⟨by omega, rfl⟩, Bk.new W _ _⟩
  case body =>
    rintro lp pre x a' W hl ⟨r, hr⟩ ⟨⟨⟨⟨⟨⟨⟨⟨c0, c1⟩, c2⟩, c3⟩, c4⟩, c5⟩, hB1⟩, hs1⟩, hno⟩ ⟨Bx, ⟨hBx, rfl⟩, cX⟩ hlt
    have e0 := c0.cell
    have e1 := c1.cell
    have e2 := c2.cell
    have e3 := c3.cell
    have f2 := c2.frozen
    have f3 := c3.frozen
    obtain ⟨⟨y0, y1, y2, y3, y4, y5⟩, ly⟩ := bk6 cX
    by_cases h1 : x.2.client = c
    · by_cases h2 : x.2.seq = q
      · have hh : hitQ c q x.2 = true := by unfold hitQ; rw [decide_eq_true h1, decide_eq_true h2]; rfl
        have HH := hide hh
        have q1 : (x.2.client == c) = true := by simpa using h1
        have q2 : (x.2.seq == q) = true := by simpa using h2
        clear h1 h2 hh
        gi_wp2
        exact ⟨((KeepsOthers.setCell _ _ _).trans (KeepsOthers.setCell _ _ _)).from _, ⟨x, ⟨pre, rfl, HH.out, rfl, hno⟩, (c2.set _).other (by omega) _, (c3.other (by omega) _).set _⟩,
          Old.setCell' (p := ⟨w.heap.size + 1 + 1 + 1, 0, none⟩) (Old.setCell' (p := ⟨w.heap.size + 1 + 1, 0, none⟩) hB1 (by show w.heap.size ≤ w.heap.size + 1 + 1; omega) _) (by show w.heap.size ≤ w.heap.size + 1 + 1 + 1; omega) _⟩
      · have hh : hitQ c q x.2 = false := by unfold hitQ; rw [decide_eq_false h2, Bool.and_false]
        have HH := hide hh
        have q1 : (x.2.client == c) = true := by simpa using h1
        have q2 : (x.2.seq == q) = false := by simpa using h2
        clear h1 h2 hh
        gi_wp2
        exact ⟨(KeepsOthers.refl _).from _, Kc.refl _ _ _ _, ⟨⟨⟨⟨⟨⟨⟨⟨c0, c1⟩, c2⟩, c3⟩, c4⟩, c5⟩, hB1⟩, hs1⟩, fun y hy => by rcases List.mem_append.1 hy with hy | hy; exact hno y hy; obtain rfl : y = x := (by simpa using hy); exact HH.out⟩⟩
    · have hh : hitQ c q x.2 = false := by unfold hitQ; rw [decide_eq_false h1]; rfl
      have HH := hide hh
      have q1 : (x.2.client == c) = false := by simpa using h1
      clear h1 hh
      gi_wp2
      exact ⟨(KeepsOthers.refl _).from _, Kc.refl _ _ _ _, ⟨⟨⟨⟨⟨⟨⟨⟨c0, c1⟩, c2⟩, c3⟩, c4⟩, c5⟩, hB1⟩, hs1⟩, fun y hy => by rcases List.mem_append.1 hy with hy | hy; exact hno y hy; obtain rfl : y = x := (by simpa using hy); exact HH.out⟩⟩
  case done =>
    rintro D ys W hD hys ⟨⟨⟨⟨⟨⟨⟨⟨c0, c1⟩, c2⟩, c3⟩, c4⟩, c5⟩, hB1⟩, hs1⟩, hno⟩ hK
    have hz : findR l.qs c q = 0 := findR_none fun y hy => by
      obtain ⟨j, hj, hjy⟩ := List.mem_iff_getElem.1 hy
      have := hno (0 + j + 1, l.qs[0 + j]?.getD default) (by rw [hys]; exact mem_fromL.2 ⟨j, by have := HN.out; omega, rfl⟩)
      simp only [Nat.zero_add] at this
      rw [List.getElem?_eq_getElem hj, hjy] at this
      exact this
    have e2 := c2.cell
    have e3 := c3.cell
    have f2 := c2.frozen
    have f3 := c3.frozen
    have HZ := hide hz
    have d2 := (c2.set (.int .i64 0)).other (B' := w.heap.size + 1 + 1 + 1) (by omega) (.bool false)
    have d3 := (c3.other (B' := w.heap.size + 1 + 1) (by omega) (.int .i64 0)).set (.bool false)
    have hB2 := Old.setCell' (p := ⟨w.heap.size + 1 + 1 + 1, 0, none⟩) (Old.setCell' (p := ⟨w.heap.size + 1 + 1, 0, none⟩) hB1 (by show w.heap.size ≤ w.heap.size + 1 + 1; omega) (.int .i64 0)) (by show w.heap.size ≤ w.heap.size + 1 + 1 + 1; omega) (.bool false)
    have hK' := ((KeepsOthers.setCell W ⟨w.heap.size + 1 + 1, 0, none⟩ (.int .i64 0)).trans (KeepsOthers.setCell _ ⟨w.heap.size + 1 + 1 + 1, 0, none⟩ (.bool false))).same D _ hK rfl
    clear hys hno hz c0 c1 c2 c3 c4 c5 hK
    gi_wp2
    refine ⟨by simp, .inl ⟨_, _, rfl, run_takeDeferred hK', ?_⟩⟩
    have a0 := (Bk.put (show Bk _ _ _ #[_] from d2) hK' rfl (.deferred none)).cell 0
    have a1 := (Bk.put (show Bk _ _ _ #[_] from d3) hK' rfl (.deferred none)).cell 0
    simp at a0 a1
    refine ⟨.tuple #[.int .i64 0, .bool false], by simp [results, Try.f14, go_sem, a0, a1], ?_, Old.put hB2 hK' (by omega) _⟩
    rw [HZ.out]
    rfl
  case stop =>
    rintro D cc pre W hD ⟨k, hk, hpre⟩ ⟨⟨x, ⟨ps, hps, hh, rfl, hno⟩, c2, c3⟩, hB1⟩ hK
    have hkl : k = ps.length + 1 := by
      have := fromL_length l.qs 0 k
      rw [← hpre, hps, List.length_append] at this
      simpa using this.symm
    subst hkl
    have hfx : ps = fromL l.qs 0 ps.length ∧ x = (0 + ps.length + 1, l.qs[0 + ps.length]?.getD default) := by
      rw [fromL_succ] at hpre
      have := List.append_inj (hps.symm.trans hpre) (by rw [fromL_length])
      exact ⟨this.1, by simpa using this.2⟩
    have hz : findR l.qs c q = ps.length + 1 := by
      obtain ⟨h1, h2⟩ := hfx
      have hlt : ps.length < l.qs.length := by have := HN.out; omega
      refine findR_some (j := ps.length) (q := l.qs[ps.length]) (List.getElem?_eq_getElem hlt) ?_ fun i y hi hy => ?_
      · rw [h2] at hh
        simp only [Nat.zero_add] at hh
        rw [List.getElem?_eq_getElem hlt] at hh
        exact hh
      · have hm : (0 + i + 1, l.qs[0 + i]?.getD default) ∈ ps := by rw [h1]; exact mem_fromL.2 ⟨i, hi, rfl⟩
        have := hno _ hm
        simp only [Nat.zero_add, hy, Option.getD_some] at this
        exact this
    have hx1 : x.1 = ps.length + 1 := by rw [hfx.2]; simp
    have HZ := hide (show (x.1 : Int) = findR l.qs c q ∧ (decide (findR l.qs c q ≠ 0)) = true by rw [hz, hx1]; exact ⟨rfl, by simp⟩)
    clear hz hx1 hfx hh hno hps hpre hk
    gi_wp2
    refine ⟨by simp, .inl ⟨_, _, rfl, run_takeDeferred hK, ?_⟩⟩
    have a0 := (Bk.put (show Bk _ _ _ #[_] from c2) hK rfl (.deferred none)).cell 0
    have a1 := (Bk.put (show Bk _ _ _ #[_] from c3) hK rfl (.deferred none)).cell 0
    simp at a0 a1
    refine ⟨.tuple #[.int .i64 (x.1 : Int), .bool true], by simp [results, Try.f14, go_sem, a0, a1], ?_, Old.put hB1 hK (by omega) _⟩
    rw [← HZ.out.1, HZ.out.2]
theorem Find_ln (g : Nat) (F : Nat → Prop) (l : LnV) (N : Nat) (c q : Int) (hN : l.qs.length = N) (hfew : N ≤ 50000) (w : World) (h : LnAt w g F l) :
    Calls Try.prog 14 #[.pointer (some ⟨g, 0, none⟩), .int .i64 c, .int .i64 q] w fun e W' =>
      e = .returned (.tuple #[.int .i64 (findR l.qs c q), .bool (decide (findR l.qs c q ≠ 0))]) ∧ Old w W' := callsIn_wide.1 (Find_in g F l N c q hN hfew w h)
end Go.Proofs.Ytmhnlpilbbfgnaa

/- line.Line.Find, Since of a log that is none. -/
namespace Go.Proofs.Ytmhnlpilbbfgnaa
open Go.RowKit Go.Shelf

attribute [local go_sem] Oper.semAt_some

theorem Len_in_nil (F : Fence) (m : Nat) (h8 : F.fn 18) (hro : F.round = none) (w : World) :
    CallsIn F m Try.prog 18 #[.pointer none] w fun e w' => e = .returned (.int .i64 0) ∧ w = w' := by
  refine callsIn_of_wp Try.func18 rfl h8 ?_ hro
  simp only [Try.ntmps18, List.size_toArray, List.length_cons, List.length_nil, Nat.reduceAdd, Nat.reduceSub, Array.replicate_succ, Array.replicate_zero, List.push_toArray, List.append_toArray, List.nil_append, List.cons_append]
  gi_wp2
  go_ret
  exact ⟨rfl, rfl⟩
set_option maxHeartbeats 400000 in
theorem from_in_nil (F : Fence) (m : Nat) (h6 : F.fn 45) (hro : F.round = none) (a : Int) (w : World) :
    CallsIn F m Try.prog 45 #[.pointer none, .int .i64 a] w fun e w' => e = .returned (.func (.func 71) #[] #[.pointer (some ⟨w.heap.size + 1, 0, none⟩), .pointer (some ⟨w.heap.size, 0, none⟩)]) ∧
      w' = (w.alloc (.cells #[.pointer none] 25)).alloc (.cells #[.int .i64 a] 3) := by
  refine callsIn_of_wp Try.func45 rfl h6 ?_ hro
  simp only [Try.ntmps45, List.size_toArray, List.length_cons, List.length_nil, Nat.reduceAdd, Nat.reduceSub, Array.replicate_succ, Array.replicate_zero, List.push_toArray, List.append_toArray, List.nil_append, List.cons_append]
  gi_wp2
  go_ret
  exact ⟨rfl, rfl⟩
set_option maxRecDepth 100000 in
set_option maxHeartbeats 1000000 in
theorem from_stops_nil (F : Fence) (m : Nat) (h8 : F.fn 71) (h7 : F.fn 18) (hro : F.round = none) (hm : 2 ≤ m) (B1 B2 n₀ : Nat) (w : World) (hB1 : B1 < w.heap.size) (hB2 : B2 < w.heap.size)
    (hc1 : w.cell? ⟨B1, 0, none⟩ = some (.int .i64 1)) (hc2 : w.cell? ⟨B2, 0, none⟩ = some (.pointer none)) :
    SeqStopsK F m Try.prog 71 #[.pointer (some ⟨B1, 0, none⟩), .pointer (some ⟨B2, 0, none⟩)] encR (Kc n₀ B1 B2) (fun ys => ys = []) (fun pre => pre = []) 0 w := fun l J Jx W hW _ _ hY h0 => by
  have hB1' := (hW.cell (p := ⟨B1, 0, none⟩) hB1).trans hc1
  have hB2' := (hW.cell (p := ⟨B2, 0, none⟩) hB2).trans hc2
  have cL := hide (Len_in_nil F (m - 1) h7 hro W)
  refine callsIn_of_wp Try.func71 rfl h8 ?_ hro
  simp only [Try.ntmps71, List.size_toArray, List.length_cons, List.length_nil, Nat.reduceAdd, Nat.reduceSub, Array.replicate_succ, Array.replicate_zero, List.push_toArray, List.append_toArray, List.nil_append, List.cons_append]
  gi_wp2
  gi_loopw [4] (fun i wr => i = .int .i64 1 ∧ wr = W) (fun i _ => 0)
  case atStart => exact ⟨rfl, rfl⟩
  case round =>
    obtain ⟨rfl, rfl⟩ := hrel
    gi_wp2_with (refine ⟨fun _ => by omega, ?_⟩; gi_at_call 18; refine cL.out.mono ?_; rintro e w1 ⟨rfl, rfl⟩)
    go_end0
    exact ⟨⟨_, rfl⟩, .inl ⟨_, rfl, h0⟩⟩

set_option maxRecDepth 100000 in
set_option maxHeartbeats 4000000 in
theorem Find_nil_in (c q : Int) (w : World) :
    CallsIn Fence.wide 6 Try.prog 14 #[.pointer none, .int .i64 c, .int .i64 q] w fun e W' =>
      e = .returned (.tuple #[.int .i64 0, .bool false]) ∧ Old w W' := by
  refine callsIn_of_wp_marks Try.func14 rfl trivial ?_ rfl
  simp only [Try.ntmps14, List.size_toArray, List.length_cons, List.length_nil, Nat.reduceAdd, Nat.reduceSub, Array.replicate_succ, Array.replicate_zero, List.push_toArray, List.append_toArray, List.nil_append, List.cons_append]
  gi_wp2_with (refine ⟨trivial, ?_⟩; gi_at_call 45; refine (from_in_nil Fence.wide _ trivial rfl _ _).mono ?_; rintro e w' ⟨rfl, rfl⟩)
  obtain ⟨W0, hW0⟩ : ∃ W0, ((((((w.alloc (.cells #[.int .i64 c] 3)).alloc (.cells #[.int .i64 q] 3)).alloc (.cells #[.int .i64 0] 3)).alloc (.cells #[.bool false] 4)).alloc (.cells #[.pointer none] 25)).alloc (.cells #[.int .i64 1] 3)) = W0 := ⟨_, rfl⟩
  have b0 : Boxed W0 w.heap.size 3 (.int .i64 c) := by
    have := (((((Boxed.new w 3 (.int .i64 c)).alloc (.cells #[.int .i64 q] 3)).alloc (.cells #[.int .i64 0] 3)).alloc (.cells #[.bool false] 4)).alloc (.cells #[.pointer none] 25)).alloc (.cells #[.int .i64 1] 3)
    rwa [hW0] at this
  have b1 : Boxed W0 (w.heap.size + 1) 3 (.int .i64 q) := by
    have := ((((Boxed.new (w.alloc (.cells #[.int .i64 c] 3)) 3 (.int .i64 q)).alloc (.cells #[.int .i64 0] 3)).alloc (.cells #[.bool false] 4)).alloc (.cells #[.pointer none] 25)).alloc (.cells #[.int .i64 1] 3)
    rwa [World.size_alloc, hW0] at this
  have b2 : Boxed W0 (w.heap.size + 1 + 1) 3 (.int .i64 0) := by
    have := (((Boxed.new ((w.alloc (.cells #[.int .i64 c] 3)).alloc (.cells #[.int .i64 q] 3)) 3 (.int .i64 0)).alloc (.cells #[.bool false] 4)).alloc (.cells #[.pointer none] 25)).alloc (.cells #[.int .i64 1] 3)
    rwa [World.size_alloc, World.size_alloc, hW0] at this
  have b3 : Boxed W0 (w.heap.size + 1 + 1 + 1) 4 (.bool false) := by
    have := ((Boxed.new (((w.alloc (.cells #[.int .i64 c] 3)).alloc (.cells #[.int .i64 q] 3)).alloc (.cells #[.int .i64 0] 3)) 4 (.bool false)).alloc (.cells #[.pointer none] 25)).alloc (.cells #[.int .i64 1] 3)
    rwa [World.size_alloc, World.size_alloc, World.size_alloc, hW0] at this
  have b4 : Boxed W0 (w.heap.size + 1 + 1 + 1 + 1) 25 (.pointer none) := by
    have := (Boxed.new ((((w.alloc (.cells #[.int .i64 c] 3)).alloc (.cells #[.int .i64 q] 3)).alloc (.cells #[.int .i64 0] 3)).alloc (.cells #[.bool false] 4)) 25 (.pointer none)).alloc (.cells #[.int .i64 1] 3)
    rwa [World.size_alloc, World.size_alloc, World.size_alloc, World.size_alloc, hW0] at this
  have b5 : Boxed W0 (w.heap.size + 1 + 1 + 1 + 1 + 1) 3 (.int .i64 1) := by
    have := Boxed.new (((((w.alloc (.cells #[.int .i64 c] 3)).alloc (.cells #[.int .i64 q] 3)).alloc (.cells #[.int .i64 0] 3)).alloc (.cells #[.bool false] 4)).alloc (.cells #[.pointer none] 25)) 3 (.int .i64 1)
    rwa [World.size_alloc, World.size_alloc, World.size_alloc, World.size_alloc, World.size_alloc, hW0] at this
  have hB0 : Old w W0 := hW0 ▸ ((((((Old.refl' w).alloc' _).alloc' _).alloc' _).alloc' _).alloc' _).alloc' _
  have hsz : W0.heap.size = w.heap.size + 6 := by rw [← hW0]; simp
  rw [hW0]
  clear hW0
  refine wpIn_rangeFunc_ownH rfl (by omega) (gf := 71) (lb := #[.pointer (some ⟨w.heap.size + 1 + 1 + 1 + 1 + 1, 0, none⟩), .pointer (some ⟨w.heap.size + 1 + 1 + 1 + 1, 0, none⟩)]) rfl trivial (enters_of Try.func71 (by kernel_rfl) rfl)
    (from_stops_nil Fence.wide _ trivial trivial rfl (by omega) (w.heap.size + 1 + 1 + 1 + 1 + 1) (w.heap.size + 1 + 1 + 1 + 1) w.heap.size W0 (by omega) (by omega) b5.cell b4.cell) Kc.t (Kc.b (by omega)) (Below.refl _ _) (fun _ => rfl)
    (fun pre W => ((((((((Boxed W w.heap.size 3 (.int .i64 c)) ∧ Boxed W (w.heap.size + 1) 3 (.int .i64 q)) ∧ Boxed W (w.heap.size + 1 + 1) 3 (.int .i64 0)) ∧ Boxed W (w.heap.size + 1 + 1 + 1) 4 (.bool false)) ∧ Boxed W (w.heap.size + 1 + 1 + 1 + 1) 25 (.pointer none)) ∧ Boxed W (w.heap.size + 1 + 1 + 1 + 1 + 1) 3 (.int .i64 1)) ∧ Old w W) ∧ (w.heap.size + 6 ≤ W.heap.size)) ∧ (∀ x ∈ pre, hitQ c q x.2 = false))
    (fun cc pre W => (∃ x : Nat × ReqV, ((∃ ps, pre = ps ++ [x] ∧ hitQ c q x.2 = true ∧ cc = .ret ∧ ∀ y ∈ ps, hitQ c q y.2 = false) ∧ (Boxed W (w.heap.size + 1 + 1) 3 (.int .i64 (x.1 : Int)) ∧ Boxed W (w.heap.size + 1 + 1 + 1) 4 (.bool true)))) ∧ Old w W)
    (OwnFrom.and (OwnFrom.and (OwnFrom.and (OwnFrom.and (OwnFrom.and (OwnFrom.and (OwnFrom.and (OwnFrom.and (Own.from (boxed_own _ _ (fun _ => _)) _) (Own.from (boxed_own _ _ (fun _ => _)) _)) (Own.from (boxed_own _ _ (fun _ => _)) _)) (Own.from (boxed_own _ _ (fun _ => _)) _)) (Own.from (boxed_own _ _ (fun _ => _)) _)) (Own.from (boxed_own _ _ (fun _ => _)) _)) (ownFrom_below (Nat.le_refl _) (by omega))) ownFrom_size) (fun _ _ _ _ h _ _ => h))
    (fun cc => OwnFrom.and (ownFrom_ex fun x => OwnFrom.and (fun _ _ _ _ h _ _ => h) (OwnFrom.and (Own.from (boxed_own _ _ (fun _ => _)) _) (Own.from (boxed_own _ _ (fun _ => _)) _))) (ownFrom_below (Nat.le_refl _) (by omega)))
    ⟨⟨⟨⟨⟨⟨⟨⟨b0, b1⟩, b2⟩, b3⟩, b4⟩, b5⟩, hB0⟩, by omega⟩, by simp⟩
    (fun x a' W => (∃ Bx, (w.heap.size + 5 < Bx ∧ a' = { tmps := #[.pointer none, .int .i64 c, .int .i64 q, undef, .pointer (some ⟨w.heap.size, 0, none⟩), .pointer (some ⟨w.heap.size + 1, 0, none⟩), .pointer (some ⟨w.heap.size + 1 + 1, 0, none⟩), .pointer (some ⟨w.heap.size + 1 + 1 + 1, 0, none⟩), .int .i64 (x.1 : Int), .pointer (some ⟨Bx, 0, none⟩), .pointer none, .func (.func 71) #[] #[.pointer (some ⟨w.heap.size + 1 + 1 + 1 + 1 + 1, 0, none⟩), .pointer (some ⟨w.heap.size + 1 + 1 + 1 + 1, 0, none⟩)], .int .i64 (x.1 : Int), .agg #[.int .i64 x.2.client, .int .i64 x.2.seq, .int .i64 x.2.kind, .int .i64 x.2.id, .int .i64 x.2.mat, .string x.2.data], undef, undef, undef, undef, undef, undef, undef, undef, undef, undef, undef], defers := [] }) ∧ Bk W Bx 23 #[.int .i64 x.2.client, .int .i64 x.2.seq, .int .i64 x.2.kind, .int .i64 x.2.id, .int .i64 x.2.mat, .string x.2.data]))
    (fun x a' => ownFrom_ex fun Bx => OwnFrom.and (fun _ _ _ _ h _ _ => h) (Own.from (bk_own _ _ (fun _ => _)) _))
    ?assign ?body ?done ?stop
  case assign =>
    rintro lp pre x W K ⟨⟨⟨⟨⟨⟨⟨⟨c0, c1⟩, c2⟩, c3⟩, c4⟩, c5⟩, hB1⟩, hs1⟩, hno⟩ hK
    gi_wp2
    exact hK _ _ ((KeepsOthers.alloc _ _).from _) (Kc.mk' ((Kb.refl _ _ W).alloc hB1.size _) ((Kb.refl _ _ W).alloc hB1.size _)) ⟨⟨⟨⟨⟨⟨⟨⟨c0.alloc _, c1.alloc _⟩, c2.alloc _⟩, c3.alloc _⟩, c4.alloc _⟩, c5.alloc _⟩, hB1.alloc' _⟩, by simp; omega⟩, hno⟩ ⟨W.heap.size, ⟨by omega, rfl⟩, Bk.new W _ _⟩
  case body =>
    rintro lp pre x a' W hl ⟨r, hr⟩ ⟨⟨⟨⟨⟨⟨⟨⟨c0, c1⟩, c2⟩, c3⟩, c4⟩, c5⟩, hB1⟩, hs1⟩, hno⟩ ⟨Bx, ⟨hBx, rfl⟩, cX⟩ hlt
    exact absurd hlt (Nat.not_lt_zero _)
  case done =>
    rintro D ys W hD hys ⟨⟨⟨⟨⟨⟨⟨⟨c0, c1⟩, c2⟩, c3⟩, c4⟩, c5⟩, hB1⟩, hs1⟩, hno⟩ hK
    have e2 := c2.cell
    have e3 := c3.cell
    have f2 := c2.frozen
    have f3 := c3.frozen
    have d2 := (c2.set (.int .i64 0)).other (B' := w.heap.size + 1 + 1 + 1) (by omega) (.bool false)
    have d3 := (c3.other (B' := w.heap.size + 1 + 1) (by omega) (.int .i64 0)).set (.bool false)
    have hB2 := Old.setCell' (p := ⟨w.heap.size + 1 + 1 + 1, 0, none⟩) (Old.setCell' (p := ⟨w.heap.size + 1 + 1, 0, none⟩) hB1 (by show w.heap.size ≤ w.heap.size + 1 + 1; omega) (.int .i64 0)) (by show w.heap.size ≤ w.heap.size + 1 + 1 + 1; omega) (.bool false)
    have hK' := ((KeepsOthers.setCell W ⟨w.heap.size + 1 + 1, 0, none⟩ (.int .i64 0)).trans (KeepsOthers.setCell _ ⟨w.heap.size + 1 + 1 + 1, 0, none⟩ (.bool false))).same D _ hK rfl
    clear hys hno c0 c1 c2 c3 c4 c5 hK
    gi_wp2
    refine ⟨by simp, .inl ⟨_, _, rfl, run_takeDeferred hK', ?_⟩⟩
    have a0 := (Bk.put (show Bk _ _ _ #[_] from d2) hK' rfl (.deferred none)).cell 0
    have a1 := (Bk.put (show Bk _ _ _ #[_] from d3) hK' rfl (.deferred none)).cell 0
    simp at a0 a1
    refine ⟨.tuple #[.int .i64 0, .bool false], by simp [results, Try.f14, go_sem, a0, a1], ?_, Old.put hB2 hK' (by omega) _⟩
    rfl
  case stop =>
    rintro D cc pre W hD hpre ⟨⟨x, ⟨ps, hps, hh, rfl, hno⟩, c2, c3⟩, hB1⟩ hK
    have hpre : pre = [] := hpre
    rw [hpre] at hps
    simp at hps
theorem Find_nil (c q : Int) (w : World) :
    Calls Try.prog 14 #[.pointer none, .int .i64 c, .int .i64 q] w fun e W' => e = .returned (.tuple #[.int .i64 0, .bool false]) ∧ Old w W' := callsIn_wide.1 (Find_nil_in c q w)
theorem Since_nil (n m : Int) (w : World) :
    Calls Try.prog 20 #[.pointer none, .int .i64 n, .int .i64 m] w fun e w' => e = .returned (.slice none 0 0) ∧ Old w w' :=
  Since_none none n m 0 (.inl ⟨rfl, rfl⟩) w (fun W _ => Len_ln_nil W) (by omega)
theorem Since_out (g : Nat) (F : Nat → Prop) (l : LnV) (n m : Int) (hc : n < 0 ∨ m < 1 ∨ (l.qs.length : Int) ≤ n) (w : World) (h : LnAt w g F l) :
    Calls Try.prog 20 #[.pointer (some ⟨g, 0, none⟩), .int .i64 n, .int .i64 m] w fun e w' => e = .returned (.slice none 0 0) ∧ Old w w' :=
  Since_none _ n m l.qs.length (.inr ⟨g, F, l, w, rfl, rfl, h, rfl⟩) w (fun W hW => Len_ln g F l _ rfl W (h.old hW)) hc
/-- what is since a place -/
def sinceL (qs : List ReqV) (n m : Int) : List ReqV := if n < 0 then [] else (qs.drop n.toNat).take m.toNat
/-- Since, in all cases -/
theorem Since_at (g : Nat) (F : Nat → Prop) (l : LnV) (n m : Int) (k : Nat) (hk : (sinceL l.qs n m).length = k) (hfew : l.qs.length ≤ 50000) (w : World) (h : LnAt w g F l) :
    Calls Try.prog 20 #[.pointer (some ⟨g, 0, none⟩), .int .i64 n, .int .i64 m] w fun e w' => ∃ A c, e = .returned (.slice A k c) ∧ ReqsAt w' A (sinceL l.qs n m) ∧ Old w w' := by
  subst hk
  by_cases hc : n < 0 ∨ m < 1 ∨ (l.qs.length : Int) ≤ n
  · have e : sinceL l.qs n m = [] := by
      unfold sinceL
      rcases hc with h1 | h1 | h1
      · rw [if_pos h1]
      · split
        · rfl
        · rw [show m.toNat = 0 by omega, List.take_zero]
      · split
        · rfl
        · rw [List.drop_of_length_le (by omega), List.take_nil]
    rw [e]
    exact (Since_out g F l n m hc w h).mono fun e w' ⟨he, hb⟩ => ⟨none, 0, he, CellsAt.nil _ _, hb⟩
  · obtain ⟨s, rfl⟩ : ∃ s : Nat, n = s := ⟨n.toNat, by omega⟩
    obtain ⟨t, rfl⟩ : ∃ s : Nat, m = s := ⟨m.toNat, by omega⟩
    refine (Since_ln g F l l.qs.length s t rfl (by omega) (by omega) hfew w h).mono ?_
    rintro e w' ⟨A, c, k, hk, he, ho, hb⟩
    have e1 : sinceL l.qs s t = (l.qs.drop s).take t := by
      unfold sinceL
      rw [if_neg (by omega)]
      simp
    have e2 : (l.qs.drop s).take t = (l.qs.drop s).take k := by
      rw [hk]
      rcases Nat.le_total t (l.qs.length - s) with h1 | h1
      · rw [Nat.min_eq_left h1]
      · rw [Nat.min_eq_right h1, List.take_of_length_le (by rw [List.length_drop]; exact h1), List.take_of_length_le (by rw [List.length_drop]; exact Nat.le_refl _)]
    have e3 : ((l.qs.drop s).take k).length = k := by rw [List.length_take, List.length_drop]; omega
    rw [e1, e2, e3]
    exact ⟨A, c, he, CellsAt.of_own ho, hb⟩
end Go.Proofs.Ytmhnlpilbbfgnaa

/- A log of the law's own, and blocks beside it; casebooklaw18.told. -/
namespace Go.Proofs.Ytmhnlpilbbfgnaa
open Go.RowKit

abbrev Held := List (Nat × TypeId × Array Value)
def LOne (w wr : World) (g : Nat) (l : LnV) (D : Held) : Prop := ∃ F, LnAt wr g F l ∧ (∀ k, F k → w.heap.size ≤ k) ∧ Old w wr ∧ ∀ d ∈ D, Bk wr d.1 d.2.1 d.2.2 ∧ ¬ F d.1
section
variable {w wr w' : World} {g : Nat} {l : LnV} {D : Held}
theorem LOne.o (h : LOne w wr g l D) : Old w wr := by obtain ⟨F, h1, h2, h3, h4⟩ := h; exact h3
theorem LOne.old (h : LOne w wr g l D) (hf : Old wr w') : LOne w w' g l D := by
  obtain ⟨F, h1, h2, h3, h4⟩ := h
  exact ⟨F, h1.old hf, h2, h3.trans' hf, fun d hd => ⟨(h4 d hd).1.old hf, (h4 d hd).2⟩⟩
theorem LOne.at_ (h : LOne w wr g l D) : ∃ F, LnAt wr g F l := by obtain ⟨F, h1, h2, h3, h4⟩ := h; exact ⟨F, h1⟩
theorem LOne.held (h : LOne w wr g l D) {d : Nat × TypeId × Array Value} (hd : d ∈ D) : Bk wr d.1 d.2.1 d.2.2 := by obtain ⟨F, h1, h2, h3, h4⟩ := h; exact (h4 d hd).1
theorem LOne.alloc (h : LOne w wr g l D) (cs : Array Value) (t : TypeId) : LOne w (wr.alloc (.cells cs t)) g l ((wr.heap.size, t, cs) :: D) := by
  obtain ⟨F, h1, h2, h3, h4⟩ := h
  refine ⟨F, h1.old ((Old.refl' wr).alloc' _), h2, h3.alloc' _, fun d hd => ?_⟩
  rcases List.mem_cons.1 hd with rfl | hd
  · exact ⟨Bk.new wr t cs, fun e => by have := h1.lt _ e; simp only at this; omega⟩
  · exact ⟨(h4 d hd).1.alloc _, (h4 d hd).2⟩
theorem LOne.drop (h : LOne w wr g l D) {D' : Held} (hD : ∀ d ∈ D', d ∈ D) : LOne w wr g l D' := by
  obtain ⟨F, h1, h2, h3, h4⟩ := h
  exact ⟨F, h1, h2, h3, fun d hd => h4 d (hD d hd)⟩
/-- a step of a contract -/
theorem LOne.step {l' : LnV} {F : Nat → Prop} (h1 : LnAt wr g F l) (h2 : ∀ k, F k → w.heap.size ≤ k) (h3 : Old w wr) (h4 : ∀ d ∈ D, Bk wr d.1 d.2.1 d.2.2 ∧ ¬ F d.1) (hs : ∃ F', LnAt w' g F' l' ∧ ∀ b, F' b → F b ∨ wr.heap.size ≤ b) (hf : Fr F wr w') : LOne w w' g l' D := by
  obtain ⟨F', a1, a2⟩ := hs
  refine ⟨F', a1, fun k hk => ?_, Old.fr_new h3 hf h2, fun d hd => ⟨(h4 d hd).1.fr hf (h4 d hd).2, fun e => ?_⟩⟩
  · rcases a2 k hk with h | h
    · exact h2 k h
    · exact Nat.le_trans h3.size h
  · rcases a2 _ e with h | h
    · exact (h4 d hd).2 h
    · have := (h4 d hd).1.lt; omega
theorem LOne.put (h : LOne w wr g l D) (n : Nat) (hn : l.qs.length = n) (hn2 : n ≤ 50000) (q : ReqV) (AT E : Int) (l' : LnV) (h1 : (l.at_ q : Int) = AT) (h2 : l.err q = E) (h3 : l.put q = l') :
    Calls Try.prog 13 #[.pointer (some ⟨g, 0, none⟩), .agg #[.int .i64 q.client, .int .i64 q.seq, .int .i64 q.kind, .int .i64 q.id, .int .i64 q.mat, .string q.data]] wr fun e w' => e = .returned (.tuple #[.int .i64 AT, .int .i64 E]) ∧ LOne w w' g l' D := by
  obtain ⟨F, a1, a2, a3, a4⟩ := h
  exact (LPut_at g F l n hn hn2 q AT E l' h1 h2 h3 wr a1).mono fun e w' ⟨he, hs, hf⟩ => ⟨he, LOne.step a1 a2 a3 a4 hs hf⟩
theorem LOne.take (h : LOne w wr g l D) (n : Nat) (hn : l.qs.length = n) (hn2 : n ≤ 50000) (a : Int) (q : ReqV) (E : Int) (l' : LnV) (h2 : l.terr a q = E) (h3 : l.take a q = l') :
    Calls Try.prog 16 #[.pointer (some ⟨g, 0, none⟩), .int .i64 a, .agg #[.int .i64 q.client, .int .i64 q.seq, .int .i64 q.kind, .int .i64 q.id, .int .i64 q.mat, .string q.data]] wr fun e w' => e = .returned (.int .i64 E) ∧ LOne w w' g l' D := by
  obtain ⟨F, a1, a2, a3, a4⟩ := h
  exact (LTake_at g F l n hn hn2 a q E l' h2 h3 wr a1).mono fun e w' ⟨he, hs, hf⟩ => ⟨he, LOne.step a1 a2 a3 a4 hs hf⟩
theorem LOne.com (h : LOne w wr g l D) (n : Int) (E : Int) (l' : LnV) (hE : (if (l.k : Int) ≤ n ∧ n ≤ l.qs.length then (0 : Int) else 6) = E) (hl : (if (l.k : Int) ≤ n ∧ n ≤ l.qs.length then l.commit n.toNat else l) = l') (hfew : l.qs.length ≤ 50000) :
    Calls Try.prog 17 #[.pointer (some ⟨g, 0, none⟩), .int .i64 n] wr fun e w' => e = .returned (.int .i64 E) ∧ LOne w w' g l' D := by
  obtain ⟨F, a1, a2, a3, a4⟩ := h
  exact (LCom_at g F l n E l' hE hl hfew wr a1).mono fun e w' ⟨he, hs, hf⟩ => ⟨he, LOne.step a1 a2 a3 a4 hs hf⟩
theorem LOne.new (quota : Int) (hq : 1 ≤ quota ∧ quota ≤ 100) (h : Old w wr) (hD : ∀ d ∈ D, Bk wr d.1 d.2.1 d.2.2) :
    Calls Try.prog 24 #[.int .i64 quota] wr fun e w' => ∃ g, e = .returned (.tuple #[.pointer (some ⟨g, 0, none⟩), .int .i64 0]) ∧ LOne w w' g (LnV.new quota) D ∧ Old wr w' :=
  (New_ln quota hq wr).mono fun e w' ⟨g, F, he, a1, a2, a3⟩ => ⟨g, he, ⟨F, a1, fun k hk => Nat.le_trans h.size (a2 k hk), h.trans' a3, fun d hd => ⟨(hD d hd).old a3, fun e => by have := a2 _ e; have := (hD d hd).lt; omega⟩⟩, a3⟩
end

def qL : ReqV := ⟨1, 2, 1, 3, 0, { data := #[120] }⟩
def lL1 : LnV := (LnV.new 5).put qL
def lL2 : LnV := lL1.commit 1
theorem lL_at : (LnV.new 5).at_ qL = 1 := by decide +kernel
theorem lL_err : (LnV.new 5).err qL = 0 := by decide +kernel
theorem lL_len : lL1.qs.length = 1 := by decide +kernel
theorem lL_k : lL1.k = 0 := by decide +kernel
theorem lL_at1 : lL1.at_ qL = 0 := by decide +kernel
theorem lL_err1 : lL1.err qL = 9 := by decide +kernel
theorem lL_may1 : lL1.may qL = false := by decide +kernel
theorem lL_put1 : lL1.put qL = lL1 := by unfold LnV.put; rw [lL_may1]; rfl
theorem lL_terr : lL1.terr 5 qL = 9 := by unfold LnV.terr; rw [lL_len]; rfl
theorem lL_take : lL1.take 5 qL = lL1 := by unfold LnV.take; rw [lL_len]; rfl
theorem lL_len2 : lL2.qs.length = 1 := lL_len
theorem lL_rep : (lL2.rep 0).code = 1 := by decide +kernel
theorem lL_rver : (lL2.rep 0).ver = 1 := by decide +kernel
theorem lL_rdata : (lL2.rep 0).data = ByteArray.empty := by decide +kernel
theorem lL_find : findR lL2.qs 1 2 = 1 := by decide +kernel
theorem lL_last : lastAt lL2.qs ((3 : Nat) : Int) = 1 := by decide +kernel
theorem lL_seq : lastSeq lL2.qs ((1 : Nat) : Int) = 2 := by decide +kernel
theorem lL_since : (sinceL lL2.qs 0 5).length = 1 := by decide +kernel

set_option maxRecDepth 100000 in
set_option maxHeartbeats 4000000 in
theorem told18_any (w : World) : Calls Try.prog 12 #[] w fun e w' => e = .returned (.bool true) ∧ Old w w' := by
  obtain ⟨qc, hqc⟩ : ∃ q : Array Value, #[.int .i64 1, .int .i64 2, .int .i64 1, .int .i64 3, .int .i64 0, .string { data := #[120] }] = q := ⟨_, rfl⟩
  have cP1 := hide (fun (D : Held) (g : Nat) (W : World) (h : LOne w W g (LnV.new 5) D) => h.put 0 rfl (by omega) qL 1 0 lL1 (by rw [lL_at]; rfl) lL_err rfl)
  have cP2 := hide (fun (D : Held) (g : Nat) (W : World) (h : LOne w W g lL1 D) => h.put 1 lL_len (by omega) qL 0 9 lL1 (by rw [lL_at1]; rfl) lL_err1 lL_put1)
  have cT := hide (fun (D : Held) (g : Nat) (W : World) (h : LOne w W g lL1 D) => h.take 1 lL_len (by omega) 5 qL 9 lL1 lL_terr lL_take)
  have cR1 := hide (fun (D : Held) (g : Nat) (W : World) (h : LOne w W g lL1 D) => h.at_.elim fun F hF => LRep_no g F lL1 1 (by rw [lL_k]; omega) W hF)
  have cC1 := hide (fun (D : Held) (g : Nat) (W : World) (h : LOne w W g lL1 D) => h.com 1 0 lL2 (by rw [lL_k, lL_len]; rfl) (by rw [lL_k, lL_len]; rfl) (by rw [lL_len]; omega))
  have cR2 := hide (fun (D : Held) (g : Nat) (W : World) (h : LOne w W g lL2 D) => h.at_.elim fun F hF => LRep_yes g F lL2 0 (by decide) 1 1 ByteArray.empty lL_rep lL_rver lL_rdata (by rw [lL_len2]; omega) W hF)
  have cF := hide (fun (D : Held) (g : Nat) (W : World) (h : LOne w W g lL2 D) => h.at_.elim fun F hF => by have := Find_ln g F lL2 1 1 2 lL_len2 (by omega) W hF; rw [lL_find] at this; exact this)
  have cL := hide (fun (D : Held) (g : Nat) (W : World) (h : LOne w W g lL2 D) => h.at_.elim fun F hF => by have := Last_ln g 3 (by omega) F lL2 W hF; rw [lL_last] at this; exact this)
  have cS := hide (fun (D : Held) (g : Nat) (W : World) (h : LOne w W g lL2 D) => h.at_.elim fun F hF => by have := Seq_ln g 1 (by omega) F lL2 W hF; rw [lL_seq] at this; exact this)
  have cI := hide (fun (D : Held) (g : Nat) (W : World) (h : LOne w W g lL2 D) => h.at_.elim fun F hF => Since_at g F lL2 0 5 1 lL_since (by rw [lL_len2]; omega) W hF)
  have cC2 := hide (fun (D : Held) (g : Nat) (W : World) (h : LOne w W g lL2 D) => h.com 2 6 lL2 (by rw [lL_len2]; rfl) (by rw [lL_len2]; rfl) (by rw [lL_len2]; omega))
  have cN := hide (LOne.new (D := []) 5 (by omega) (Old.refl' w) (fun d hd => by simp at hd))
  clear hqc qc
  go_enter Try.func12, Try.ntmps12
  go_wp2_with fail
  refine cN.out.mono ?_
  rintro e w1 ⟨g, rfl, p1, -⟩
  go_wp2_with fail
  have p2 := p1.alloc #[.int .i64 1, .int .i64 2, .int .i64 1, .int .i64 3, .int .i64 0, .string { data := #[120] }] 23
  clear p1
  refine (cP1.out _ g _ p2).mono ?_
  rintro e w2 ⟨rfl, p3⟩
  obtain ⟨⟨x0, x1, x2, x3, x4, x5⟩, l3⟩ := bk6 (p3.held List.mem_cons_self)
  clear p2
  go_wp2_with fail
  refine (cP2.out _ g _ p3).mono ?_
  rintro e w3 ⟨rfl, p4⟩
  clear x0 x1 x2 x3 x4 x5 l3 p3
  obtain ⟨⟨x0, x1, x2, x3, x4, x5⟩, l3⟩ := bk6 (p4.held List.mem_cons_self)
  go_wp2_with fail
  refine (cT.out _ g _ p4).mono ?_
  rintro e w4 ⟨rfl, p5⟩
  clear x0 x1 x2 x3 x4 x5 l3 p4
  go_wp2_with fail
  refine (cR1.out _ g _ p5).mono ?_
  rintro e w5 ⟨rfl, b5⟩
  have p6 := (p5.old b5).alloc #[.int .i64 0, .int .i64 0, .string ByteArray.empty, .slice none 0 0] 32
  clear p5 b5
  go_wp2_with fail
  refine (cC1.out _ g _ p6).mono ?_
  rintro e w6 ⟨rfl, p7⟩
  clear p6
  go_wp2_with fail
  refine (cR2.out _ g _ p7).mono ?_
  rintro e w7 ⟨A7, c7, rfl, b7⟩
  have p8 := (p7.old b7).alloc #[.int .i64 1, .int .i64 1, .string ByteArray.empty, .slice A7 0 c7] 32
  clear p7 b7
  go_wp2_with fail
  refine (cF.out _ g _ p8).mono ?_
  rintro e w8 ⟨rfl, b8⟩
  have p9 := p8.old b8
  clear p8 b8
  obtain ⟨⟨y0, y1, y2, y3⟩, -, ly⟩ := bk4 (p9.held List.mem_cons_self)
  go_wp2_with (first
    | (go_at_call 22; refine (cL.out _ g _ p9).mono ?_; rintro e wl ⟨rfl, rfl⟩)
    | (go_at_call 21; refine (cS.out _ g _ p9).mono ?_; rintro e ws ⟨rfl, rfl⟩)
    | (go_at_call 20; refine (cI.out _ g _ p9).mono ?_; rintro e wi ⟨Ai, ci, rfl, -, bi⟩; have p10 := p9.old bi)
    | (go_at_call 17; refine (cC2.out _ g _ p10).mono ?_; rintro e wc ⟨rfl, p11⟩))
  go_ret
  exact ⟨rfl, p11.o⟩
end Go.Proofs.Ytmhnlpilbbfgnaa

/- casebookref1.Reqs of two rows that read alike. -/
namespace Go.Proofs.Ytmhnlpilbbfgnaa
open Go.RowKit

set_option maxHeartbeats 2000000 in
theorem Reqs_same (n : Nat) (A B : Option Addr) (qs : List ReqV) (ca cb : Nat) (w : World) (ha : ReqsAt w A qs) (hb : ReqsAt w B qs) (hn : n ≤ 50000) (hl : n = qs.length) :
    Calls Try.prog 23 #[.slice A n ca, .slice B n cb] w fun e w' => e = .returned (.bool true) ∧ Old w w' := by
  have HL := hide hl
  clear hl
  go_enter Try.func23, Try.ntmps23
  go_wp2
  go_loopw [5] (fun i wr => ∃ k : Nat, k ≤ n ∧ i = .int .i64 k ∧ Old w wr) (fun i _ => n - (intOf i).toNat)
  case atStart => exact ⟨0, by omega, rfl, Old.refl' w⟩
  case round =>
    obtain ⟨k, hk, rfl, hbel⟩ := hrel
    by_cases hlt : k < n
    · obtain ⟨b1, o1, rfl, hb1, hc⟩ := ha.at5 (k := k) (by have := HL.out; omega)
      obtain ⟨b2, o2, rfl, hb2, hd⟩ := hb.at5 (k := k) (by have := HL.out; omega)
      obtain ⟨x, hx⟩ : ∃ x, qs[k]?.getD default = x := ⟨_, rfl⟩
      rw [hx] at hc hd
      have x0 : wr.cell? ⟨b1, o1 + k * 6, none⟩ = some (.int .i64 x.client) := (hbel.cell (p := ⟨b1, o1 + k * 6, none⟩) hb1).trans (hc 0 _ (by omega) rfl)
      have x1 := (hbel.cell (p := ⟨b1, o1 + k * 6 + 1, none⟩) hb1).trans (hc 1 _ (by omega) rfl)
      have x2 := (hbel.cell (p := ⟨b1, o1 + k * 6 + 2, none⟩) hb1).trans (hc 2 _ (by omega) rfl)
      have x3 := (hbel.cell (p := ⟨b1, o1 + k * 6 + 3, none⟩) hb1).trans (hc 3 _ (by omega) rfl)
      have x4 := (hbel.cell (p := ⟨b1, o1 + k * 6 + 4, none⟩) hb1).trans (hc 4 _ (by omega) rfl)
      have x5 := (hbel.cell (p := ⟨b1, o1 + k * 6 + 5, none⟩) hb1).trans (hc 5 _ (by omega) rfl)
      have y0 : wr.cell? ⟨b2, o2 + k * 6, none⟩ = some (.int .i64 x.client) := (hbel.cell (p := ⟨b2, o2 + k * 6, none⟩) hb2).trans (hd 0 _ (by omega) rfl)
      have y1 := (hbel.cell (p := ⟨b2, o2 + k * 6 + 1, none⟩) hb2).trans (hd 1 _ (by omega) rfl)
      have y2 := (hbel.cell (p := ⟨b2, o2 + k * 6 + 2, none⟩) hb2).trans (hd 2 _ (by omega) rfl)
      have y3 := (hbel.cell (p := ⟨b2, o2 + k * 6 + 3, none⟩) hb2).trans (hd 3 _ (by omega) rfl)
      have y4 := (hbel.cell (p := ⟨b2, o2 + k * 6 + 4, none⟩) hb2).trans (hd 4 _ (by omega) rfl)
      have y5 := (hbel.cell (p := ⟨b2, o2 + k * 6 + 5, none⟩) hb2).trans (hd 5 _ (by omega) rfl)
      clear hx hc hd
      go_wp2
      go_region
      go_wp2
      go_roundw
      case rel => exact ⟨k + 1, by omega, by go_num, hbel.drew⟩
      case measure => simp [intOf]; omega
    · go_wp2
      go_ret
      exact ⟨rfl, hbel⟩
end Go.Proofs.Ytmhnlpilbbfgnaa
