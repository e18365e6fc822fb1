/- dirty.Dirty: slices.Collect of the iterator over resources that are not clean. -/
import Derived.Test.YtmhnlpilbbfgnaaHDy
namespace Go.Proofs.Ytmhnlpilbbfgnaa
open Go.RowKit Go.Shelf

attribute [local go_sem] Oper.semAt_some

/-- the resources below k that are not clean, rising -/
def dirtyN (l : LnV) (k : Nat) : List Int := ((List.range k).filter fun j : Nat => !(decide (lastAt l.qs (j : Int) ≤ l.k))).map fun j : Nat => (j : Int)
theorem dirtyN_dirty {l : LnV} {k : Nat} (h : ¬ lastAt l.qs (k : Int) ≤ l.k) : dirtyN l (k + 1) = dirtyN l k ++ [(k : Int)] := by
  unfold dirtyN
  rw [List.range_succ, List.filter_append, List.map_append]
  simp [h]
theorem dirtyN_clean {l : LnV} {k : Nat} (h : lastAt l.qs (k : Int) ≤ l.k) : dirtyN l (k + 1) = dirtyN l k := by
  unfold dirtyN
  rw [List.range_succ, List.filter_append, List.map_append]
  simp [h]
theorem dirtyN_length (l : LnV) (k : Nat) : (dirtyN l k).length ≤ k := by
  unfold dirtyN
  rw [List.length_map]
  exact Nat.le_trans (List.length_filter_le _ _) (by simp)
def dirtyL (l : LnV) : List Int := dirtyN l 32

set_option maxRecDepth 100000 in
set_option maxHeartbeats 1000000 in
theorem ids1_in (m : Nat) (hm : 2 ≤ m) (lY Bl n₀ g : Nat) (F : Nat → Prop) (l : LnV) (w : World) (h : LnAt w g F l) (hn0 : n₀ = w.heap.size) (J Jx : List Int → World → Prop)
    (hY : ∀ pre x W, J pre W → pre.length < 32 → YieldAt Fence.wide (m - 1) Try.prog lY #[.int .i64 x] W fun e W' =>
      (e = .returned (.bool true) ∧ J (pre ++ [x]) W' ∧ Kb n₀ Bl W W') ∨ (e = .returned (.bool false) ∧ Jx (pre ++ [x]) W'))
    (W : World) (hO : Old w W) (hBl : W.cell? ⟨Bl, 0, none⟩ = some (.pointer (some ⟨g, 0, none⟩))) (h0 : J [] W) :
    CallsIn Fence.wide m Try.prog 89 #[.func (.yield lY) #[] #[], .pointer (some ⟨Bl, 0, none⟩)] W fun e W' => (∃ v, e = .returned v) ∧
      ((∃ ys, ys = dirtyL l ∧ J ys W') ∨ (∃ pre, True ∧ Jx pre W')) := by
  subst hn0
  refine callsIn_of_wp Try.func89 rfl trivial ?_ rfl
  simp only [Try.ntmps89, List.size_toArray, List.length_cons, List.length_nil, Nat.reduceAdd, Nat.reduceSub, Array.replicate_succ, Array.replicate_zero, List.push_toArray, List.append_toArray, List.nil_append, List.cons_append]
  gi_wp2
  gi_loopw [4] (fun iv wr => ∃ j : Nat, j ≤ 32 ∧ iv = .int .i64 j ∧ J (dirtyN l j) wr ∧ Kb w.heap.size Bl W wr) (fun iv _ => 32 - (intOf iv).toNat)
  case atStart => exact ⟨0, Nat.zero_le _, rfl, h0, Kb.refl _ _ _⟩
  case round =>
    obtain ⟨j, hj, rfl, hJs, hnx⟩ := hrel
    have b1 := hnx.2 _ hBl
    have hOr : Old w wr := hO.trans hnx.1
    by_cases hlt : j < 32
    · have hlt' : (j : Int) < 32 := by omega
      by_cases hc : lastAt l.qs (j : Int) ≤ l.k
      · have cC := hide (Clean_in g j hlt true F l (by simpa using hc) wr (h.old hOr))
        have HS := hide (dirtyN_clean hc)
        clear hc
        gi_wp2_with (refine ⟨trivial, fun _ => by omega, ?_⟩; gi_at_call 37; refine (callsIn_wide.2 cC.out).mono ?_; rintro e w1 ⟨rfl, rfl⟩)
        refine ⟨(fun f e => by cases e), ?_⟩
        gi_wp2
        go_roundw
        case rel => exact ⟨j + 1, by omega, by go_num, by rw [HS.out]; exact hJs, hnx⟩
        case measure => simp [intOf]; omega
      · have cC := hide (Clean_in g j hlt false F l (by simpa using hc) wr (h.old hOr))
        have HS := hide (dirtyN_dirty hc)
        clear hc
        obtain ⟨fn, tmps, assign, body, hy, hR⟩ := hY _ (j : Int) wr hJs (by have := dirtyN_length l j; omega)
        gi_wp2_with (refine ⟨trivial, fun _ => by omega, ?_⟩; gi_at_call 37; refine (callsIn_wide.2 cC.out).mono ?_; rintro e w1 ⟨rfl, rfl⟩)
        refine ⟨fun _ => by omega, hR.mono ?_⟩
        rintro e W3 (⟨rfl, hJ3, hk3⟩ | ⟨rfl, hJx3⟩)
        · gi_wp2
          go_roundw
          case rel => exact ⟨j + 1, by omega, by go_num, by rw [HS.out]; exact hJ3, hnx.t hk3⟩
          case measure => simp [intOf]; omega
        · gi_wp2
          refine bodyPost_ret (results_none rfl _ _ _) rfl ?_
          exact ⟨⟨_, rfl⟩, .inr ⟨_, trivial, hJx3⟩⟩
    · obtain rfl : j = 32 := by omega
      gi_wp2
      go_end0
      exact ⟨⟨_, rfl⟩, .inl ⟨_, rfl, hJs⟩⟩

/-- what the iterator gives -/
theorem ids_stops (n₀ g Bl : Nat) (F : Nat → Prop) (l : LnV) (w : World) (h : LnAt w g F l) (hb : n₀ = w.heap.size) (W0 : World) (hO : Old w W0) (hBl : W0.cell? ⟨Bl, 0, none⟩ = some (.pointer (some ⟨g, 0, none⟩))) (hlt : Bl < W0.heap.size) :
    SeqStopsK Fence.wide 4 Try.prog 89 #[.pointer (some ⟨Bl, 0, none⟩)] (fun x : Int => #[.int .i64 x]) (Kb n₀ Bl) (fun ys => ys = dirtyL l) (fun _ => True) 32 W0 := by
  intro lY J Jx W hW _ _ hY h0
  exact ids1_in 4 (by omega) lY Bl n₀ g F l w h hb J Jx hY W (hO.trans' hW) ((hW.cell (p := ⟨Bl, 0, none⟩) hlt).trans hBl) h0

set_option maxRecDepth 100000 in
set_option maxHeartbeats 2000000 in
theorem AppSeq_in (g Bl : Nat) (F : Nat → Prop) (l : LnV) (w : World) (h : LnAt w g F l) (hBl : w.cell? ⟨Bl, 0, none⟩ = some (.pointer (some ⟨g, 0, none⟩))) (hlt : Bl < w.heap.size) :
    CallsIn Fence.wide 5 Try.prog 88 #[.slice none 0 0, .func (.func 89) #[] #[.pointer (some ⟨Bl, 0, none⟩)]] w fun e W' =>
      ∃ A' c', e = .returned (.slice A' (dirtyL l).length c') ∧ W'.ownsRow w.heap.size 3 1 (.slice A' (dirtyL l).length c') (dirtyL l).length ((dirtyL l).map (Value.int .i64)) ∧ Old w W' := by
  obtain ⟨i0, hi, hz0, hz1, hz2⟩ := info_parts info_intC
  have HH := hide h
  clear h
  refine callsIn_of_wp_marks Try.func88 rfl trivial ?_ rfl
  simp only [Try.ntmps88, List.size_toArray, List.length_cons, List.length_nil, Nat.reduceAdd, Nat.reduceSub, Array.replicate_succ, Array.replicate_zero, List.push_toArray, List.append_toArray, List.nil_append, List.cons_append]
  gi_wp2
  have b0 : Boxed (w.alloc (.cells #[.slice none 0 0] 30)) w.heap.size 30 (.slice none 0 0) := Boxed.new w _ _
  have hB0 : Old w (w.alloc (.cells #[.slice none 0 0] 30)) := (Old.refl' w).alloc' _
  have hsz : (w.alloc (.cells #[.slice none 0 0] 30)).heap.size = w.heap.size + 1 := by simp
  obtain ⟨W0, hW0⟩ : ∃ W0, w.alloc (.cells #[.slice none 0 0] 30) = W0 := ⟨_, rfl⟩
  rw [hW0] at b0 hB0 hsz ⊢
  clear hW0
  refine wpIn_rangeFunc_ownF rfl (by omega) (gf := 89) (lb := #[.pointer (some ⟨Bl, 0, none⟩)]) rfl trivial (enters_of Try.func89 (by kernel_rfl) rfl)
    (ids_stops w.heap.size g Bl F l w HH.out rfl W0 hB0 ((hB0.cell (p := ⟨Bl, 0, none⟩) hlt).trans hBl) (by omega)) Kb.t (Kb.b (by omega)) (Below.refl _ _) (fun _ => rfl)
    (fun pre W => ((∃ v, Boxed W w.heap.size 30 v ∧ W.ownsRow w.heap.size 3 1 v pre.length (pre.map (Value.int .i64)) ∧ True) ∧ Old w W) ∧ (w.heap.size + 1 ≤ W.heap.size))
    (fun _ _ _ => False)
    (OwnFrom.and (OwnFrom.and (Own.from (holdsRow_own w.heap.size w.heap.size 30 3 1 (fun (pre : List Int) => pre.length) (fun (pre : List Int) => pre.map (Value.int .i64)) (fun _ _ => True)) _) (ownFrom_below (Nat.le_refl _) (by omega))) ownFrom_size)
    (fun _ _ _ _ _ hs _ _ => hs)
    ⟨⟨⟨_, b0, World.ownsRow_nil _ _ _ _, trivial⟩, hB0⟩, by omega⟩
    (fun x => { tmps := #[.slice none 0 0, .func (.func 89) #[] #[.pointer (some ⟨Bl, 0, none⟩)], .pointer (some ⟨w.heap.size, 0, none⟩), undef, .slice none 0 0, .int .i64 x, .func (.func 89) #[] #[.pointer (some ⟨Bl, 0, none⟩)], .int .i64 x, undef, undef, undef, undef, undef], defers := [] })
    ?assign ?body ?done ?stop
  case assign =>
    intro lp x W K hK
    gi_wp2
    exact hK
  case body =>
    rintro lp pre x W ⟨⟨⟨v, c0, c1, -⟩, hB1⟩, hs1⟩ hlt2
    have e0 := c0.cell
    have hlen : pre.length ≤ 100000 := by omega
    have fin : ∀ (g' cap' : Nat) (w1 : World), w1.ownsRow w.heap.size 3 1 (.slice (some ⟨g', 0, none⟩) (pre.length + 1) cap') (pre.length + 1) (pre.map (Value.int .i64) ++ [.int .i64 x]) →
        (W.alloc (.cells #[.int .i64 x] 3)).grownBy w1 v.ownBlock → KeepsOthers W (w1.setCell ⟨w.heap.size, 0, none⟩ (.slice (some ⟨g', 0, none⟩) (pre.length + 1) cap')) ∧ Kb w.heap.size Bl W (w1.setCell ⟨w.heap.size, 0, none⟩ (.slice (some ⟨g', 0, none⟩) (pre.length + 1) cap')) ∧
          (((∃ v, Boxed (w1.setCell ⟨w.heap.size, 0, none⟩ (.slice (some ⟨g', 0, none⟩) (pre.length + 1) cap')) w.heap.size 30 v ∧ (w1.setCell ⟨w.heap.size, 0, none⟩ (.slice (some ⟨g', 0, none⟩) (pre.length + 1) cap')).ownsRow w.heap.size 3 1 v (pre ++ [x]).length ((pre ++ [x]).map (Value.int .i64)) ∧ True) ∧
            Old w (w1.setCell ⟨w.heap.size, 0, none⟩ (.slice (some ⟨g', 0, none⟩) (pre.length + 1) cap'))) ∧ w.heap.size + 1 ≤ (w1.setCell ⟨w.heap.size, 0, none⟩ (.slice (some ⟨g', 0, none⟩) (pre.length + 1) cap')).heap.size) := by
      intro g' cap' w1 hown' hgrow
      obtain ⟨hv1, hv2, hr2, hk2, hb2⟩ := c0.appended (by decide) c1 hB1.size (Nat.le_refl _) hown' hgrow
      refine ⟨hk2, ⟨hb2, fun u hu => ?_⟩, ⟨⟨_, hv2, by simpa using hr2, trivial⟩, hB1.trans hb2⟩, Nat.le_trans hs1 hk2.size⟩
      exact (hb2.cell (p := ⟨Bl, 0, none⟩) hlt).trans hu
    gi_wp2_with (gi_at_builtin; refine wpListIn_append_own _ rfl _ _ 30 rfl w.heap.size 3 i0 (.int .i64 0) 1 8 Try.underlying30 hi hz0 hz1 hz2 rfl (by decide) _ _ _ rfl (c1.alloc _) ⟨W.heap.size, 0, none⟩ 1 1 [.int .i64 x] rfl rfl (cell_one_new _ _ _) (by simp [Value.oneCell']) (by unfold maxLen; omega) (by omega) (by have := hB1.size; simp; omega) ?_; intro v' w1 hown' hgrow _; obtain ⟨g', cap', rfl⟩ := ownsRow_succ hown'; have hfin := hide (fin g' cap' w1 hown' hgrow); obtain ⟨hv1, hv2, hr2, hk2, hb2⟩ := c0.appended (by decide) c1 hB1.size (Nat.le_refl _) hown' hgrow; have hc1 := hv1.cell; have hf1 := hv1.frozen)
    exact hfin.out
  case done =>
    rintro D ys W hD hys ⟨⟨⟨v, c0, c1, -⟩, hB1⟩, hs1⟩ hK
    subst hys
    have e0 := c0.cell
    gi_wp2
    refine ⟨by simp, .inl ⟨_, _, rfl, run_takeDeferred hK, ?_⟩⟩
    obtain ⟨Av, cv', rfl, -, -⟩ := own_form c1
    exact ⟨_, results_tmp rfl _ _ _, _, _, rfl, ownsRow_putObj c1 _ hK rfl, Old.put hB1 hK (by omega) _⟩
  case stop =>
    rintro D c pre W _ _ h _
    exact h.elim
set_option maxHeartbeats 400000 in
theorem Collect_in (g Bl : Nat) (F : Nat → Prop) (l : LnV) (w : World) (h : LnAt w g F l) (hBl : w.cell? ⟨Bl, 0, none⟩ = some (.pointer (some ⟨g, 0, none⟩))) (hlt : Bl < w.heap.size) :
    CallsIn Fence.wide 6 Try.prog 67 #[.func (.func 89) #[] #[.pointer (some ⟨Bl, 0, none⟩)]] w fun e W' =>
      ∃ A' c', e = .returned (.slice A' (dirtyL l).length c') ∧ W'.ownsRow w.heap.size 3 1 (.slice A' (dirtyL l).length c') (dirtyL l).length ((dirtyL l).map (Value.int .i64)) ∧ Old w W' := by
  have cA := hide (AppSeq_in g Bl F l w h hBl hlt)
  clear h hBl hlt
  refine callsIn_of_wp Try.func67 rfl trivial ?_ rfl
  simp only [Try.ntmps67, List.size_toArray, List.length_cons, List.length_nil, Nat.reduceAdd, Nat.reduceSub, Array.replicate_succ, Array.replicate_zero, List.push_toArray, List.append_toArray, List.nil_append, List.cons_append]
  gi_wp2_with (refine ⟨trivial, ?_⟩; gi_at_call 88; refine cA.out.mono ?_; rintro e w1 ⟨A', c', rfl, hrow, hb⟩)
  go_ret
  exact ⟨A', c', rfl, hrow, hb⟩
theorem own_geD {w : World} {base : Nat} {e : TypeId} {size n c k : Nat} {A : Option Addr} {xs : List Value} (h : w.ownsRow base e size (.slice A n c) k xs) {a : Addr} (ha : A = some a) : base ≤ a.block := by
  subst ha
  exact (own_blk h (k := a.block) rfl).1
set_option maxHeartbeats 400000 in
theorem Dirty_ln (g : Nat) (F : Nat → Prop) (l : LnV) (L : List Int) (hL : dirtyL l = L) (n : Nat) (hn : L.length = n) (w : World) (h : LnAt w g F l) :
    Calls Try.prog 36 #[.pointer (some ⟨g, 0, none⟩)] w fun e W' =>
      ∃ A' c', e = .returned (.slice A' n c') ∧ IntsAt W' A' L ∧ (∃ base, w.heap.size ≤ base ∧ W'.ownsRow base 3 1 (.slice A' n c') n (L.map (Value.int .i64))) ∧ Old w W' := by
  subst hL hn
  have hO := (Old.refl' w).alloc' (.cells #[.pointer (some ⟨g, 0, none⟩)] 25)
  have hsz : (w.alloc (.cells #[.pointer (some ⟨g, 0, none⟩)] 25)).heap.size = w.heap.size + 1 := by simp
  have cC := hide (callsIn_wide.1 (Collect_in g w.heap.size F l (w.alloc (.cells #[.pointer (some ⟨g, 0, none⟩)] 25)) (h.old hO) (Boxed.new w _ _).cell (by omega)))
  have HO := hide hO
  clear h hO hsz
  go_enter Try.func36, Try.ntmps36
  go_wp2_with (first
    | (go_at_call 67; refine cC.out.mono ?_; rintro e w1 ⟨A', c', rfl, hrow, hb⟩)
    | go_in)
  go_ret
  exact ⟨A', c', rfl, CellsAt.of_own hrow, ⟨_, HO.out.size, hrow⟩, HO.out.trans' hb⟩
end Go.Proofs.Ytmhnlpilbbfgnaa
