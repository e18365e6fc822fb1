/- slices.Reverse on a row of the call's own; chart.history. -/
import Derived.RangeFuncBox
import Derived.Maps.AppendAt
import Derived.Test.YtffahoocbjfdaaaHIter
namespace Go.Proofs.Ytffahoocbjfdaaa
open Go.RowKit Go.Shelf
attribute [local go_sem] Oper.semAt_some
def revZ (ns : List Int) (k j : Nat) : Int := if j < k ∨ ns.length - k ≤ j then ns[ns.length - 1 - j]?.getD 0 else ns[j]?.getD 0
theorem revZ_zero (ns : List Int) (j : Nat) (h : j < ns.length) : revZ ns 0 j = ns[j]?.getD 0 := by unfold revZ; rw [if_neg (by omega)]
theorem revZ_lo (ns : List Int) (k : Nat) (h : k < ns.length - 1 - k) : revZ ns (k + 1) k = revZ ns k (ns.length - 1 - k) := by
  unfold revZ; rw [if_pos (by omega), if_neg (by omega)]
theorem revZ_hi (ns : List Int) (k : Nat) (h : k < ns.length - 1 - k) : revZ ns (k + 1) (ns.length - 1 - k) = revZ ns k k := by
  unfold revZ; rw [if_pos (by omega), if_neg (by omega)]; congr 2; omega
theorem revZ_other (ns : List Int) (k j : Nat) (h1 : j ≠ k) (h2 : j ≠ ns.length - 1 - k) (hj : j < ns.length) : revZ ns (k + 1) j = revZ ns k j := by
  unfold revZ
  by_cases h : j < k ∨ ns.length - k ≤ j
  · rw [if_pos h, if_pos (by omega)]
  · rw [if_neg h, if_neg (by omega)]
theorem revZ_end (ns : List Int) (k j : Nat) (h : ns.length - 1 - k ≤ k) (hj : j < ns.length) : revZ ns k j = ns.reverse[j]?.getD 0 := by
  rw [List.getElem?_reverse hj]
  unfold revZ
  split
  · rfl
  · have : j = ns.length - 1 - j := by omega
    rw [← this]
def Heads (cs : Array Value) (n : Nat) (f : Nat → Int) : Prop := ∀ j, j < n → cs[j]? = some (.int .i64 (f j))
theorem Heads.set2 {cs : Array Value} {ns : List Int} {k : Nat} (h : Heads cs ns.length (revZ ns k)) (hk : k < ns.length - 1 - k) :
    Heads ((cs.setIfInBounds k (.int .i64 (revZ ns k (ns.length - 1 - k)))).setIfInBounds (ns.length - 1 - k) (.int .i64 (revZ ns k k))) ns.length (revZ ns (k + 1)) := by
  intro j hj
  have hs : j < cs.size := (Array.getElem?_eq_some_iff.1 (h j hj)).1
  by_cases h2 : j = ns.length - 1 - k
  · subst h2
    rw [revZ_hi ns k hk]
    simp [hs]
  · by_cases h1 : j = k
    · subst h1
      rw [revZ_lo ns j hk]
      simp [hs, Ne.symm h2]
    · rw [revZ_other ns k j h1 h2 hj]
      simp [Ne.symm h1, Ne.symm h2, h j hj]
theorem only_drew {a w : World} {row : Option Nat} (h : a.grownBy w row) : a.grownBy w.drew row := ⟨h.os, h.tape, h.output, h.size, h.block⟩
theorem only_setCell {a w : World} {g : Nat} (h : a.grownBy w (some g)) {p : Addr} (hp : p.block = g ∨ a.heap.size ≤ p.block) (u : Value) : a.grownBy (w.setCell p u) (some g) :=
  ⟨h.os, h.tape, h.output, by simpa [World.setCell] using h.size, fun i hi hne => (Below.heap_setCell w p u i (by
    rintro rfl
    rcases hp with hp | hp
    · exact hne (by rw [hp])
    · omega)).trans (h.block i hi hne)⟩
set_option maxHeartbeats 400000 in
theorem Reverse_none (A : Option Addr) (cap : Nat) (w : World) :
    Calls Try.prog 70 #[.slice A 0 cap] w fun e w' => e = .returned (.tuple #[]) ∧ w = w' := by
  go_enter Try.func70, Try.ntmps70
  go_wp2
  refine wp_loop_rounds 1 ?_
  rw [rounds_succ]
  go_wp2
  go_end0
  exact ⟨rfl, rfl⟩
set_option maxHeartbeats 1000000 in
theorem Reverse_some (g n cap : Nat) (t : TypeId) (cs : Array Value) (ns : List Int) (w : World) (hb : Bk w g t cs) (hn : n ≤ 100000) (hl : n = ns.length) (hh : Heads cs n (fun j => ns[j]?.getD 0)) :
    Calls Try.prog 70 #[.slice (some ⟨g, 0, none⟩) n cap] w fun e w' => e = .returned (.tuple #[]) ∧
      ∃ cs', Bk w' g t cs' ∧ cs'.size = cs.size ∧ Heads cs' n (fun j => ns.reverse[j]?.getD 0) ∧ w.grownBy w' (some g) := by
  have HL := hide hl
  clear hl
  have h0 : Heads cs ns.length (revZ ns 0) := fun j hj => by rw [revZ_zero ns j hj]; exact hh j (by rw [HL.out]; exact hj)
  go_enter Try.func70, Try.ntmps70
  go_wp2
  go_loopw [2, 3] (fun i jv wr => ∃ k : Nat, k ≤ n ∧ i = .int .i64 k ∧ jv = .int .i64 ((n : Int) - 1 - k) ∧ ∃ cs', (Bk wr g t cs' ∧ cs'.size = cs.size) ∧ Heads cs' ns.length (revZ ns k) ∧ w.grownBy wr (some g))
    (fun i _ _ => n - (intOf i).toNat)
  case atStart => exact ⟨0, by omega, rfl, by simp, cs, ⟨hb, rfl⟩, h0, World.grownBy.refl w _⟩
  case round =>
    obtain ⟨k, hk, rfl, rfl, cs', ⟨hb', hsz⟩, hh', hg⟩ := hrel
    have HS := hide hsz
    clear hsz
    by_cases hlt : k < n - 1 - k
    · have c1 : wr.cell? ⟨g, k, none⟩ = some (.int .i64 (revZ ns k k)) := (hb'.cell k).trans (hh' k (by rw [← HL.out]; omega))
      have c2 : wr.cell? ⟨g, n - 1 - k, none⟩ = some (.int .i64 (revZ ns k (n - 1 - k))) := (hb'.cell (n - 1 - k)).trans (hh' (n - 1 - k) (by rw [← HL.out]; omega))
      have f1 := hb'.frozen k
      have f2 := hb'.frozen (n - 1 - k)
      obtain ⟨x, hx⟩ : ∃ x, x = revZ ns k k := ⟨_, rfl⟩
      obtain ⟨y, hy⟩ : ∃ x, x = revZ ns k (n - 1 - k) := ⟨_, rfl⟩
      rw [← hx] at c1
      rw [← hy] at c2
      have HX := hide hx
      have HY := hide hy
      clear hx hy
      have hi : ((n : Int) - 1 - k).toNat = n - 1 - k := by omega
      have HI := hide hi
      clear hi
      go_wp2
      go_region
      go_wp2
      go_roundw
      case rel =>
        refine ⟨k + 1, by omega, by go_num, by go_num, _, ⟨((hb'.set_ k (.int .i64 y)).set_ (n - 1 - k) (.int .i64 x)).drew, by simpa using HS.out⟩, ?_, only_drew (only_setCell (p := ⟨g, n - 1 - k, none⟩) (only_setCell (p := ⟨g, k, none⟩) hg (.inl rfl) _) (.inl rfl) _)⟩
        rw [HX.out, HY.out, HL.out]
        exact hh'.set2 (by rw [← HL.out]; omega)
      case measure => simp [intOf]; omega
    · go_wp2
      go_end0
      exact ⟨rfl, cs', hb', HS.out, fun j hj => by rw [hh' j (by rw [← HL.out]; exact hj), revZ_end ns k j (by rw [← HL.out]; omega) (by rw [← HL.out]; exact hj)], hg⟩
def histOf (x : Nat × Ver) : Int := if x.2.1 then wrap64 (-(x.1 : Int)) else (x.1 : Int)
def histL (vs : List Ver) : List Int := ((backL vs vs.length).map histOf).reverse
theorem histL_length (vs : List Ver) : (histL vs).length = vs.length := by simp [histL, backL_length]
theorem info_int : (Try.prog.info? 3).map (fun i => (i.zero, i.size, i.bytes)) = some (some (.int .i64 0), 1, 8) := by kernel_rfl
theorem heads_of_own {cur : Array Value} {n : Nat} {ns : List Int} (hl : n = ns.length) (h : cur.toList.take n = ns.map (Value.int .i64)) : Heads cur n (fun j => ns[j]?.getD 0) := by
  subst hl
  intro j hj
  have h1 : (cur.toList.take ns.length)[j]? = (ns.map (Value.int .i64))[j]? := by rw [h]
  rw [List.getElem?_take_of_lt hj, List.getElem?_map, List.getElem?_eq_getElem hj] at h1
  show cur[j]? = some (.int .i64 (ns[j]?.getD 0))
  rw [List.getElem?_eq_getElem hj]
  simpa using h1
theorem own_of_heads {cur : Array Value} {n : Nat} {ns : List Int} (hl : n = ns.length) (hs : n ≤ cur.size) (h : Heads cur n (fun j => ns[j]?.getD 0)) : cur.toList.take n = ns.map (Value.int .i64) := by
  subst hl
  apply List.ext_getElem?
  intro j
  by_cases hj : j < ns.length
  · rw [List.getElem?_take_of_lt hj, List.getElem?_map, List.getElem?_eq_getElem hj]
    have h2 : cur[j]? = some (.int .i64 (ns[j]?.getD 0)) := h j hj
    rw [List.getElem?_eq_getElem hj] at h2
    simpa using h2
  · rw [List.getElem?_eq_none (by simp; omega), List.getElem?_eq_none (by simp; omega)]
set_option maxRecDepth 100000 in
set_option maxHeartbeats 2000000 in
theorem history_in (A : Option Addr) (n cap : Nat) (vs : List Ver) (hn : n ≤ 100000) (hl : n = vs.length) (w : World) (hV : Vers w A vs) :
    CallsIn Fence.wide 5 Try.prog 63 #[.slice A n cap] w fun e W' =>
      ∃ A' c', e = .returned (.slice A' n c') ∧ W'.ownsRow w.heap.size 3 1 (.slice A' n c') n ((histL vs).map (Value.int .i64)) ∧ Old w W' := by
  have hoff : 0 < n → ∀ a, A = some a → a.block < w.heap.size := fun h a e => by
    obtain ⟨b, o, e', hb, _⟩ := hV.at_ (k := 0) (by omega)
    rw [e] at e'; injection e' with e'; subst e'; exact hb
  have HL := hide hl
  clear hl
  obtain ⟨i0, hi, hz0, hz1, hz2⟩ := info_parts info_int
  refine callsIn_of_wp_marks Try.func63 rfl trivial ?_ rfl
  simp only [Try.ntmps63, List.size_toArray, List.length_cons, List.length_nil, Nat.reduceAdd, Nat.reduceSub, Array.replicate_succ, Array.replicate_zero, List.push_toArray, List.append_toArray, List.nil_append, List.cons_append]
  gi_wp2_with (refine ⟨trivial, ?_⟩; gi_at_call 64; refine (back_in Fence.wide _ trivial rfl _ _ _ _).mono ?_; rintro e w' ⟨rfl, rfl⟩)
  have b0 : Boxed ((w.alloc (.cells #[.slice none 0 0] 34)).alloc (.cells #[.slice A n cap] 57)) w.heap.size 34 (.slice none 0 0) := ((Boxed.new w _ _).alloc _)
  have b2 : Boxed ((w.alloc (.cells #[.slice none 0 0] 34)).alloc (.cells #[.slice A n cap] 57)) (w.heap.size + 1) 57 (.slice A n cap) := by
    have := Boxed.new (w.alloc (.cells #[.slice none 0 0] 34)) 57 (.slice A n cap)
    rwa [World.size_alloc] at this
  have hB0 : Old w ((w.alloc (.cells #[.slice none 0 0] 34)).alloc (.cells #[.slice A n cap] 57)) := ((Old.refl' w).alloc' _).alloc' _
  have hsz : ((w.alloc (.cells #[.slice none 0 0] 34)).alloc (.cells #[.slice A n cap] 57)).heap.size = w.heap.size + 2 := by simp
  obtain ⟨W0, hW0⟩ : ∃ W0, (w.alloc (.cells #[.slice none 0 0] 34)).alloc (.cells #[.slice A n cap] 57) = W0 := ⟨_, rfl⟩
  rw [hW0] at b0 b2 hB0 hsz ⊢
  clear hW0
  refine wpIn_rangeFunc_ownH rfl (by omega) (gf := 71) (lb := #[.pointer (some ⟨w.heap.size + 1, 0, none⟩)]) rfl trivial (enters_of Try.func71 (by kernel_rfl) rfl)
    (back_stops Fence.wide _ trivial rfl (by omega) (w.heap.size + 1) w.heap.size n cap A vs hn HL.out W0 (by omega) b2.cell (CellsAt.old hV hB0) hoff) Kb.t (Kb.b (by omega)) (Below.refl _ _) (fun _ => rfl)
    (fun pre W => (((∃ v, Boxed W w.heap.size 34 v ∧ W.ownsRow w.heap.size 3 1 v (pre.map histOf).length ((pre.map histOf).map (Value.int .i64)) ∧ True) ∧ Boxed W (w.heap.size + 1) 57 (.slice A n cap)) ∧ Old w W) ∧ (w.heap.size + 2 ≤ W.heap.size))
    (fun _ _ _ => False)
    (OwnFrom.and (OwnFrom.and (OwnFrom.and (Own.from (holdsRow_own w.heap.size w.heap.size 34 3 1 (fun (pre : List (Nat × Ver)) => (pre.map histOf).length) (fun (pre : List (Nat × Ver)) => (pre.map histOf).map (Value.int .i64)) (fun _ _ => True)) _) (Own.from (boxed_own _ _ (fun _ => _)) _)) (ownFrom_below (Nat.le_refl _) (by omega))) ownFrom_size)
    (fun _ _ _ _ _ hs _ _ => hs)
    ⟨⟨⟨⟨_, b0, World.ownsRow_nil _ _ _ _, trivial⟩, b2⟩, hB0⟩, by omega⟩
    (fun x a' W => (∃ Bx, (w.heap.size + 1 < Bx ∧ a' = { tmps := #[.slice A n cap, undef, .slice none 0 0, .pointer (some ⟨w.heap.size, 0, none⟩), .int .i64 (x.1 : Int), .pointer (some ⟨Bx, 0, none⟩), .slice A n cap, .func (.func 71) #[] #[.pointer (some ⟨w.heap.size + 1, 0, none⟩)], .int .i64 (x.1 : Int), .agg #[.bool x.2.1, .string x.2.2], undef, undef, undef, undef, undef, undef, undef, undef, undef, undef, undef], defers := [] }) ∧ Bk W Bx 96 #[.bool x.2.1, .string x.2.2]))
    (fun x a' => ownFrom_ex fun Bx => OwnFrom.and (fun _ _ _ _ h _ _ => h) (Own.from (bk_own _ _ (fun _ => _)) _))
    ?assign ?body ?done ?stop
  case assign =>
    rintro l pre x W K ⟨⟨⟨⟨v, c0, c1, -⟩, c2⟩, hB1⟩, hs1⟩ hK
    gi_wp2
    exact hK _ _ ((KeepsOthers.alloc _ _).from _) ((Kb.refl _ _ W).alloc hB1.size _) ⟨⟨⟨⟨v, c0.alloc _, c1.alloc _, trivial⟩, c2.alloc _⟩, hB1.alloc' _⟩, by simp; omega⟩ ⟨W.heap.size, ⟨by omega, rfl⟩, Bk.new W _ _⟩
  case body =>
    rintro l pre x a' W hl ⟨r, hr⟩ ⟨⟨⟨⟨v, c0, c1, -⟩, c2⟩, hB1⟩, hs1⟩ ⟨Bx, ⟨hBx, rfl⟩, cX⟩ hlt
    have e0 := c0.cell
    have e3 := cX.cell 0
    have e4 := cX.cell 1
    have e5 := cX.frozen 0
    have f5 := cX.frozen 1
    simp at e3 e4
    obtain ⟨n1, g1, d1⟩ := x
    have hlen : (pre.map histOf).length ≤ 100000 := by simp; omega
    simp only [] at *
    have fin : ∀ (z : Int) (g' cap' : Nat) (w1 : World), histOf (n1, g1, d1) = z → w1.ownsRow w.heap.size 3 1 (.slice (some ⟨g', 0, none⟩) ((pre.map histOf).length + 1) cap') ((pre.map histOf).length + 1) ((pre.map histOf).map (Value.int .i64) ++ [.int .i64 z]) →
        (W.alloc (.cells #[.int .i64 z] 3)).grownBy w1 v.ownBlock → KeepsFrom W0.heap.size W (w1.setCell ⟨w.heap.size, 0, none⟩ (.slice (some ⟨g', 0, none⟩) ((pre.map histOf).length + 1) cap')) ∧ Kb w.heap.size (w.heap.size + 1) W (w1.setCell ⟨w.heap.size, 0, none⟩ (.slice (some ⟨g', 0, none⟩) ((pre.map histOf).length + 1) cap')) ∧
          ((((∃ v, Boxed (w1.setCell ⟨w.heap.size, 0, none⟩ (.slice (some ⟨g', 0, none⟩) ((pre.map histOf).length + 1) cap')) w.heap.size 34 v ∧ (w1.setCell ⟨w.heap.size, 0, none⟩ (.slice (some ⟨g', 0, none⟩) ((pre.map histOf).length + 1) cap')).ownsRow w.heap.size 3 1 v ((pre ++ [(n1, g1, d1)]).map histOf).length (((pre ++ [(n1, g1, d1)]).map histOf).map (Value.int .i64)) ∧ True) ∧
            Boxed (w1.setCell ⟨w.heap.size, 0, none⟩ (.slice (some ⟨g', 0, none⟩) ((pre.map histOf).length + 1) cap')) (w.heap.size + 1) 57 (.slice A n cap)) ∧ Old w (w1.setCell ⟨w.heap.size, 0, none⟩ (.slice (some ⟨g', 0, none⟩) ((pre.map histOf).length + 1) cap'))) ∧ w.heap.size + 2 ≤ (w1.setCell ⟨w.heap.size, 0, none⟩ (.slice (some ⟨g', 0, none⟩) ((pre.map histOf).length + 1) cap')).heap.size) := by
      intro z g' cap' w1 hz hown' hgrow
      obtain ⟨hv1, hv2, hr2, hk2, hb2⟩ := c0.appended (by decide) c1 hB1.size (Nat.le_refl _) hown' hgrow
      have c2' : Boxed (w1.setCell ⟨w.heap.size, 0, none⟩ (.slice (some ⟨g', 0, none⟩) ((pre.map histOf).length + 1) cap')) (w.heap.size + 1) 57 (.slice A n cap) :=
        ((c2.alloc _).kept hgrow (c2.not_row (by decide) c1)).other (by omega) _
      refine ⟨hk2.from _, ⟨hb2, fun u hu => ?_⟩, ⟨⟨⟨_, hv2, by simpa [hz] using hr2, trivial⟩, c2'⟩, hB1.trans hb2⟩, Nat.le_trans hs1 hk2.size⟩
      rw [c2.cell] at hu
      rw [c2'.cell, hu]
    cases g1
    · gi_wp2_with (gi_at_builtin; refine wpListIn_append_own _ rfl _ _ 34 rfl w.heap.size 3 i0 (.int .i64 0) 1 8 Try.underlying34 hi hz0 hz1 hz2 rfl (by decide) _ _ _ rfl (c1.alloc _) ⟨W.heap.size, 0, none⟩ 1 1 [.int .i64 (n1 : Int)] rfl rfl (cell_one_new _ _ _) (by simp [Value.oneCell']) (by unfold maxLen; omega) (by omega) (by have := hB1.size; simp; omega) ?_; intro v' w1 hown' hgrow _; obtain ⟨g', cap', rfl⟩ := ownsRow_succ hown'; have hfin := hide (fin _ g' cap' w1 rfl hown' hgrow); obtain ⟨hv1, hv2, hr2, hk2, hb2⟩ := c0.appended (by decide) c1 hB1.size (Nat.le_refl _) hown' hgrow; have hc1 := hv1.cell; have hf1 := hv1.frozen)
      have hf := hfin.out
      rw [show (pre.map histOf).length = pre.length from by simp] at hf
      exact hf
    · gi_wp2_with (gi_at_builtin; refine wpListIn_append_own _ rfl _ _ 34 rfl w.heap.size 3 i0 (.int .i64 0) 1 8 Try.underlying34 hi hz0 hz1 hz2 rfl (by decide) _ _ _ rfl (c1.alloc _) ⟨W.heap.size, 0, none⟩ 1 1 [.int .i64 (wrap64 (-(n1 : Int)))] rfl rfl (cell_one_new _ _ _) (by simp [Value.oneCell']) (by unfold maxLen; omega) (by omega) (by have := hB1.size; simp; omega) ?_; intro v' w1 hown' hgrow _; obtain ⟨g', cap', rfl⟩ := ownsRow_succ hown'; have hfin := hide (fin _ g' cap' w1 rfl hown' hgrow); obtain ⟨hv1, hv2, hr2, hk2, hb2⟩ := c0.appended (by decide) c1 hB1.size (Nat.le_refl _) hown' hgrow; have hc1 := hv1.cell; have hf1 := hv1.frozen)
      have hf := hfin.out
      rw [show (pre.map histOf).length = pre.length from by simp] at hf
      exact hf
  case done =>
    rintro D ys W hD rfl ⟨⟨⟨⟨v, c0, c1, -⟩, c2⟩, hB1⟩, hs1⟩ hK
    have e0 := c0.cell
    have hlen : ((backL vs n).map histOf).length = n := by simp [backL_length]
    rw [hlen] at c1
    clear hlen
    have hs1' := hs1
    rcases c1 with ⟨hl1, ⟨rfl, h0⟩ | ⟨g, cp, cur, rfl, hg0, hg, hncp, hcm, hcs, htk⟩⟩
    · subst h0
      gi_wp2_with (refine ⟨trivial, ?_⟩; gi_at_call 70; refine (callsIn_wide.2 (Reverse_none _ _ _)).mono ?_; rintro e w1 ⟨rfl, rfl⟩)
      refine ⟨by simp, .inl ⟨_, _, rfl, run_takeDeferred hK, ?_⟩⟩
      have hvs : vs = [] := List.eq_nil_of_length_eq_zero HL.out.symm
      subst hvs
      exact ⟨_, results_tmp rfl _ _ _, _, _, rfl, World.ownsRow_nil _ _ _ _, Old.put hB1 hK (by omega) _⟩
    · have hg' : Bk W g 3 cur := hg
      rw [Nat.mul_one] at htk
      have hh := heads_of_own (ns := (backL vs n).map histOf) (n := n) (by simp [backL_length]) (by rw [htk])
      have hR := hide (Reverse_some g n cp 3 cur ((backL vs n).map histOf) W hg' hn (by simp [backL_length]) hh)
      have hne : w.heap.size ≠ g := (Bk.ne_ (t := 34) c0 hg' (by decide))
      have HK := hide hK
      have HH := hide hh
      have HT := hide htk
      clear hK hh htk hl1
      gi_wp2_with (refine ⟨trivial, ?_⟩; gi_at_call 70; refine (callsIn_wide.2 hR.out).mono ?_; rintro e w1 ⟨rfl, cs', hb', hsz', hh', hgr⟩; have e1 := (Boxed.kept c0 hgr (by simpa using hne)).cell)
      have hK1 : w1.heap[D]? = some (.deferred (some [])) := (hgr.block D (Array.getElem?_eq_some_iff.1 HK.out).1 (fun e => by injection e with e; subst e; have := HK.out; rw [show W.heap[D]? = some (.cells cur 3) from hg] at this; simp at this)).trans HK.out
      refine ⟨by simp, .inl ⟨_, _, rfl, run_takeDeferred hK1, ?_⟩⟩
      have hB2 : Old w w1 := hB1.grown hgr hB1.size (fun k e => by cases e; exact hg0)
      refine ⟨_, results_tmp rfl _ _ _, _, _, rfl, ownsRow_putObj ⟨by simp [histL_length, HL.out], .inr ⟨g, cp, cs', rfl, hg0, hb', hncp, hcm, by rw [hsz']; exact hcs, ?_⟩⟩ _ hK1 rfl, Old.put hB2 hK1 (by omega) _⟩
      rw [Nat.mul_one]
      have e2 : histL vs = ((backL vs n).map histOf).reverse := by rw [histL, HL.out]
      rw [e2]
      exact own_of_heads (by simp [backL_length]) (by omega) hh'
  case stop =>
    rintro D c pre W _ _ h _
    exact h.elim
end Go.Proofs.Ytffahoocbjfdaaa
