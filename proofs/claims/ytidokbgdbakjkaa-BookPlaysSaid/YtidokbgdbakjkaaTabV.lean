/- book: Up, Down, first, From, Back. -/
import Derived.RangeFuncBox
import Derived.RangeFuncFrom
import Derived.Maps.AppendAt
import Derived.Test.YtidokbgdbakjkaaTabU
namespace Go.Proofs.Ytidokbgdbakjkaa
open Go.RowKit Go.Shelf

attribute [local go_sem] Oper.semAt_some

set_option maxHeartbeats 400000 in
theorem Up_any (g o : Nat) (key : Int) (w : World) :
    Calls Try.prog 28 #[.pointer (some ⟨g, o, none⟩), .int .i64 key] w fun e w' => e = .returned (.func (.func 35) #[] #[.pointer (some ⟨w.heap.size, 0, none⟩), .pointer (some ⟨w.heap.size + 1, 0, none⟩)]) ∧ w' = (w.alloc (.cells #[.pointer (some ⟨g, o, none⟩)] 54)).alloc (.cells #[.int .i64 key] 3) := by
  go_enter Try.func28, Try.ntmps28
  go_wp2
  go_ret
  exact ⟨rfl, rfl⟩
set_option maxHeartbeats 400000 in
theorem Down_any (g o : Nat) (key : Int) (w : World) :
    Calls Try.prog 31 #[.pointer (some ⟨g, o, none⟩), .int .i64 key] w fun e w' => e = .returned (.func (.func 36) #[] #[.pointer (some ⟨w.heap.size, 0, none⟩), .pointer (some ⟨w.heap.size + 1, 0, none⟩)]) ∧ w' = (w.alloc (.cells #[.pointer (some ⟨g, o, none⟩)] 54)).alloc (.cells #[.int .i64 key] 3) := by
  go_enter Try.func31, Try.ntmps31
  go_wp2
  go_ret
  exact ⟨rfl, rfl⟩

/-- an iterator over ints that gives L -/
def Gives (gf : Nat) (lb : Array Value) (L : List Int) (w : World) : Prop :=
  SeqStopsK Fence.wide 4 Try.prog gf lb (fun x : Int => #[Value.int .i64 x]) (Below w.heap.size) (fun ys => ys = L) (fun pre => ∃ k, pre = L.take k) L.length w

theorem ownFrom_size {β : Type} {B m : Nat} : OwnFrom B (fun (_ : β) W => m ≤ W.heap.size) := fun _ _ _ _ hs hg _ => Nat.le_trans hs hg.size
theorem Old.put {w W : World} (h : Old w W) {D : Nat} {o : Obj} (_hD : W.heap[D]? = some o) (hd : w.heap.size ≤ D) (o' : Obj) : Old w (W.putObj D o') :=
  h.grown (grownBy_putObj' W D o') h.size (fun k e => by cases e; exact hd)
theorem info_int' : (Try.prog.info? 3).map (fun i => (i.zero, i.size, i.bytes)) = some (some (.int .i64 0), 1, 8) := by kernel_rfl

set_option maxRecDepth 100000 in
set_option maxHeartbeats 2000000 in
theorem first_in (gf : Nat) (lb : Array Value) (L : List Int) (n : Nat) (h0 : 0 < n) (hn : (n : Int) ≤ 9223372036854775807) (hL : L.length ≤ 100000) (w : World) (he : ∀ args w, (callFunc gf args).run Try.prog w = .ok (.enter gf args) w) (hs : Gives gf lb L w) :
    CallsIn Fence.wide 5 Try.prog 27 #[.func (.func gf) #[] lb, .int .i64 n] w fun e W' =>
      ∃ A' c', e = .returned (.slice A' (L.take n).length c') ∧ W'.ownsRow w.heap.size 3 1 (.slice A' (L.take n).length c') (L.take n).length ((L.take n).map (Value.int .i64)) ∧ Old w W' := by
  obtain ⟨i0, hi, hz0, hz1, hz2⟩ := info_parts info_int'
  refine callsIn_of_wp_marks Try.func27 rfl trivial ?_ rfl
  simp only [Try.ntmps27, List.size_toArray, List.length_cons, List.length_nil, Nat.reduceAdd, Nat.reduceSub, Array.replicate_succ, Array.replicate_zero, List.push_toArray, List.append_toArray, List.nil_append, List.cons_append]
  have hne0 : decide (n = 0) = false := by simp; omega
  gi_wp2
  have b0 : Boxed ((w.alloc (.cells #[.int .i64 n] 3)).alloc (.cells #[.slice none 0 0] 22)) w.heap.size 3 (.int .i64 n) := (Boxed.new w _ _).alloc _
  have b1 : Boxed ((w.alloc (.cells #[.int .i64 n] 3)).alloc (.cells #[.slice none 0 0] 22)) (w.heap.size + 1) 22 (.slice none 0 0) := by
    have := Boxed.new (w.alloc (.cells #[.int .i64 n] 3)) 22 (.slice none 0 0)
    rwa [World.size_alloc] at this
  have hB0 : Old w ((w.alloc (.cells #[.int .i64 n] 3)).alloc (.cells #[.slice none 0 0] 22)) := ((Old.refl' w).alloc' _).alloc' _
  have hsz : ((w.alloc (.cells #[.int .i64 n] 3)).alloc (.cells #[.slice none 0 0] 22)).heap.size = w.heap.size + 2 := by simp
  obtain ⟨W0, hW0⟩ : ∃ W0, (w.alloc (.cells #[.int .i64 n] 3)).alloc (.cells #[.slice none 0 0] 22) = W0 := ⟨_, rfl⟩
  rw [hW0] at b0 b1 hB0 hsz ⊢
  clear hW0
  refine wpIn_rangeFunc_ownF rfl (by omega) (gf := gf) (lb := lb) rfl trivial he hs belowK_t (belowK_b (by omega)) hB0 (fun _ => rfl)
    (fun pre W => (((∃ v, Boxed W (w.heap.size + 1) 22 v ∧ W.ownsRow (w.heap.size + 2) 3 1 v pre.length (pre.map (Value.int .i64)) ∧ True) ∧ Boxed W w.heap.size 3 (.int .i64 n)) ∧ Old w W) ∧ pre.length < n ∧ w.heap.size + 2 ≤ W.heap.size)
    (fun c pre W => ((∃ v, Boxed W (w.heap.size + 1) 22 v ∧ W.ownsRow (w.heap.size + 2) 3 1 v pre.length (pre.map (Value.int .i64)) ∧ True) ∧ Old w W) ∧ (c = .exit 0 ∧ pre.length = n))
    (OwnFrom.and (OwnFrom.and (OwnFrom.and (Own.from (holdsRow_own (w.heap.size + 2) (w.heap.size + 1) 22 3 1 (fun (pre : List Int) => pre.length) (fun (pre : List Int) => pre.map (Value.int .i64)) (fun _ _ => True)) _) (Own.from (boxed_own _ _ (fun _ => _)) _)) (ownFrom_below (Nat.le_refl _) (by omega))) (OwnFrom.and (fun _ _ _ _ h _ _ => h) ownFrom_size))
    (fun c => OwnFrom.and (OwnFrom.and (Own.from (holdsRow_own (w.heap.size + 2) (w.heap.size + 1) 22 3 1 (fun (pre : List Int) => pre.length) (fun (pre : List Int) => pre.map (Value.int .i64)) (fun _ _ => True)) _) (ownFrom_below (Nat.le_refl _) (by omega))) (fun _ _ _ _ h _ _ => h))
    ⟨⟨⟨⟨_, b1, World.ownsRow_nil _ _ _ _, trivial⟩, b0⟩, hB0⟩, h0, by omega⟩
    (fun x => { tmps := #[.func (.func gf) #[] lb, .int .i64 n, undef, .pointer (some ⟨w.heap.size, 0, none⟩), .slice none 0 0, .pointer (some ⟨w.heap.size + 1, 0, none⟩), .int .i64 x, .int .i64 n, .bool false, .func (.func gf) #[] lb, .int .i64 x, undef, undef, undef, undef, undef, undef, undef, undef, undef], defers := [] })
    ?assign ?body ?done ?stop
  case assign =>
    intro l x W K hK
    gi_wp2
    exact hK
  case body =>
    rintro l pre x W ⟨⟨⟨⟨v, c0, c1, -⟩, c2⟩, hB1⟩, hpn, hs1⟩ hN
    have e0 := c0.cell
    have hrow0 := own_mono c1 (b := w.heap.size) (by omega)
    have hone : pre.length ≤ 100000 := by omega
    have fin : ∀ (g' cap' : Nat) (w1 : World), w1.ownsRow (w.heap.size + 2) 3 1 (.slice (some ⟨g', 0, none⟩) (pre.length + 1) cap') (pre.length + 1) (pre.map (Value.int .i64) ++ [.int .i64 x]) → (W.alloc (.cells #[.int .i64 x] 3)).grownBy w1 v.ownBlock →
        ((w1.cell? ⟨w.heap.size + 1, 0, none⟩ = some v ∧ w1.frozen? ⟨w.heap.size + 1, 0, none⟩ = false) ∧ w1.cell? ⟨w.heap.size, 0, none⟩ = some (.int .i64 n)) ∧ Hid (KeepsOthers W (w1.setCell ⟨w.heap.size + 1, 0, none⟩ (.slice (some ⟨g', 0, none⟩) (pre.length + 1) cap')) ∧ Below w.heap.size W (w1.setCell ⟨w.heap.size + 1, 0, none⟩ (.slice (some ⟨g', 0, none⟩) (pre.length + 1) cap')) ∧
          ((((∃ v, Boxed (w1.setCell ⟨w.heap.size + 1, 0, none⟩ (.slice (some ⟨g', 0, none⟩) (pre.length + 1) cap')) (w.heap.size + 1) 22 v ∧ (w1.setCell ⟨w.heap.size + 1, 0, none⟩ (.slice (some ⟨g', 0, none⟩) (pre.length + 1) cap')).ownsRow (w.heap.size + 2) 3 1 v (pre ++ [x]).length ((pre ++ [x]).map (Value.int .i64)) ∧ True) ∧
            Boxed (w1.setCell ⟨w.heap.size + 1, 0, none⟩ (.slice (some ⟨g', 0, none⟩) (pre.length + 1) cap')) w.heap.size 3 (.int .i64 n)) ∧ Old w (w1.setCell ⟨w.heap.size + 1, 0, none⟩ (.slice (some ⟨g', 0, none⟩) (pre.length + 1) cap')))) ∧ w.heap.size + 2 ≤ (w1.setCell ⟨w.heap.size + 1, 0, none⟩ (.slice (some ⟨g', 0, none⟩) (pre.length + 1) cap')).heap.size) := by
      intro g' cap' w1 hown' hgrow
      obtain ⟨hv1, hv2, hr2, hk2, hb2⟩ := c0.appended (by decide) hrow0 hB1.size (by omega) (own_mono hown' (b := w.heap.size) (by omega)) hgrow
      have hnb : some w.heap.size ≠ v.ownBlock := fun e => by have := (c1.lt _ e.symm).1; omega
      have c2' := (c2.alloc (.cells #[.int .i64 x] 3)).kept hgrow hnb
      have hnr : (Value.slice (some ⟨g', 0, none⟩) (pre.length + 1) cap').ownBlock ≠ some (w.heap.size + 1) := fun e => by have := (hown'.lt _ e).1; omega
      refine ⟨⟨⟨hv1.cell, hv1.frozen⟩, c2'.cell⟩, ⟨hk2, hb2, ⟨⟨⟨_, hv2, ?_, trivial⟩, c2'.other (by omega) _⟩, hB1.trans hb2⟩, Nat.le_trans hs1 hk2.size⟩⟩
      rw [List.length_append, List.map_append]
      exact own_set (p := ⟨w.heap.size + 1, 0, none⟩) hown' hnr _
    have hFIN := hide fin
    clear fin
    by_cases hend : pre.length + 1 = n
    · have hend' : (((pre.length : Int) + 1) == (n : Int)) = true := by simp; omega
      gi_wp2_with (gi_at_builtin; refine wpListIn_append_own _ rfl _ _ 22 rfl (w.heap.size + 2) 3 i0 (.int .i64 0) 1 8 Try.underlying22 hi hz0 hz1 hz2 rfl (by decide) _ _ _ rfl (c1.alloc _) ⟨W.heap.size, 0, none⟩ 1 1 [.int .i64 x] rfl rfl (cell_one_new _ _ _) (by simp [Value.oneCell']) (by unfold maxLen; omega) (by omega) (by simp; omega) ?_; intro v' w1 hown' hgrow _; obtain ⟨g', cap', rfl⟩ := ownsRow_succ hown'; obtain ⟨⟨⟨hc1, hf1⟩, hc2⟩, HF⟩ := hFIN.out g' cap' w1 hown' hgrow)
      have HF' := HF.out
      rw [hend] at HF'
      obtain ⟨hk2, hb2, ⟨⟨hx, hy⟩, hz⟩, hq⟩ := HF'
      exact ⟨hk2, ⟨hx, hz⟩, rfl, by simp; omega⟩
    · have hend' : (((pre.length : Int) + 1) == (n : Int)) = false := by rw [beq_eq_false_iff_ne]; omega
      gi_wp2_with (gi_at_builtin; refine wpListIn_append_own _ rfl _ _ 22 rfl (w.heap.size + 2) 3 i0 (.int .i64 0) 1 8 Try.underlying22 hi hz0 hz1 hz2 rfl (by decide) _ _ _ rfl (c1.alloc _) ⟨W.heap.size, 0, none⟩ 1 1 [.int .i64 x] rfl rfl (cell_one_new _ _ _) (by simp [Value.oneCell']) (by unfold maxLen; omega) (by omega) (by simp; omega) ?_; intro v' w1 hown' hgrow _; obtain ⟨g', cap', rfl⟩ := ownsRow_succ hown'; obtain ⟨⟨⟨hc1, hf1⟩, hc2⟩, HF⟩ := hFIN.out g' cap' w1 hown' hgrow)
      obtain ⟨hk2, hb2, ⟨⟨hx, hy⟩, hz⟩, hq⟩ := HF.out
      exact ⟨hk2, hb2, ⟨⟨hx, hy⟩, hz⟩, by simp; omega, hq⟩
  case done =>
    rintro D ys W hD rfl ⟨⟨⟨⟨v, c0, c1, -⟩, c2⟩, hB1⟩, hpn, hs1⟩ hK
    have e0 := c0.cell
    gi_wp2
    refine ⟨by simp, .inl ⟨_, _, rfl, run_takeDeferred hK, ?_⟩⟩
    obtain ⟨Av, cv, rfl, -, -⟩ := own_form c1
    rw [List.take_of_length_le (by omega)]
    exact ⟨_, results_tmp rfl _ _ _, _, _, rfl, ownsRow_putObj (own_mono c1 (by omega)) _ hK rfl, Old.put hB1 hK (by omega) _⟩
  case stop =>
    rintro D c pre W hD ⟨k, hpre⟩ ⟨⟨⟨v, c0, c1, -⟩, hB1⟩, rfl, hpn⟩ hK
    have e0 := c0.cell
    gi_wp2
    refine ⟨by simp, .inl ⟨_, _, rfl, run_takeDeferred hK, ?_⟩⟩
    obtain ⟨Av, cv, rfl, -, -⟩ := own_form c1
    have hpt : L.take n = pre := by
      rw [hpre] at hpn ⊢
      rw [List.length_take] at hpn
      rcases Nat.le_total k n with h | h
      · have : k = n ∨ L.length ≤ k := by omega
        rcases this with rfl | h'
        · rfl
        · rw [List.take_of_length_le h', List.take_of_length_le (by omega)]
      · rw [show n = min k L.length from hpn.symm]
        rcases Nat.le_total k L.length with h' | h'
        · rw [Nat.min_eq_left h']
        · rw [Nat.min_eq_right h', List.take_of_length_le h', List.take_of_length_le (Nat.le_refl _)]
    rw [hpt]
    exact ⟨_, results_tmp rfl _ _ _, _, _, rfl, ownsRow_putObj (own_mono c1 (by omega)) _ hK rfl, Old.put hB1 hK (by omega) _⟩

theorem first_none (v : Value) (n : Int) (h0 : n ≤ 0) (w : World) :
    Calls Try.prog 27 #[v, .int .i64 n] w fun e W' => e = .returned (.slice none 0 0) ∧ Old w W' := by
  have h1 : decide (n ≤ 0) = true := by simpa using h0
  go_enter Try.func27, Try.ntmps27
  go_wp2
  go_ret
  exact ⟨rfl, ((Old.refl' w).alloc' _).alloc' _⟩

theorem first_any (gf : Nat) (lb : Array Value) (L : List Int) (n : Int) (hn : n ≤ 9223372036854775807) (hL : L.length ≤ 100000) (w : World) (he : ∀ args w, (callFunc gf args).run Try.prog w = .ok (.enter gf args) w) (hs : Gives gf lb L w) :
    Calls Try.prog 27 #[.func (.func gf) #[] lb, .int .i64 n] w fun e W' =>
      ∃ A' c', e = .returned (.slice A' (L.take n.toNat).length c') ∧ W'.ownsRow w.heap.size 3 1 (.slice A' (L.take n.toNat).length c') (L.take n.toNat).length ((L.take n.toNat).map (Value.int .i64)) ∧ Old w W' := by
  by_cases h0 : 0 < n
  · obtain ⟨m, rfl⟩ : ∃ m : Nat, n = m := ⟨n.toNat, by omega⟩
    exact callsIn_wide.1 (first_in gf lb L m (by omega) hn hL w he hs)
  · refine (first_none _ n (by omega) w).mono ?_
    rintro e w' ⟨rfl, hb⟩
    have : n.toNat = 0 := by omega
    rw [this, List.take_zero]
    exact ⟨none, 0, rfl, World.ownsRow_nil _ _ _ _, hb⟩
end Go.Proofs.Ytidokbgdbakjkaa
