/- store.Store.Ids: the range over the table. -/
import Derived.RangeFuncNested
import Derived.RangeFuncBound
import Derived.RangeFuncCalls
import Derived.RangeFuncLeaves
import Derived.RangeFuncBox
import Derived.RangeFuncFrom
import Derived.Shelf.Abstract
import Derived.Shelf.RegionOpen
import Derived.OwnWalkIn
import Derived.TacticsInMore
import Derived.LoopNIn
import Derived.LoopIn
import Derived.Maps.AppendAt
import Derived.Test.YtcbnibldlbnkbaaSt6
namespace Go.Proofs.Ytcbnibldlbnkbaa
open Go.RowKit Go.Shelf

attribute [local go_sem] Oper.semAt_some

abbrev KV := Int × Value

set_option maxRecDepth 100000 in
set_option maxHeartbeats 1000000 in
theorem all1_in (m : Nat) (hm : 1 ≤ m) (l Bt n₀ g o n ck cv : Nat) (A B : Option Addr) (ks : List Int) (vs : List Value) (hn : n ≤ 100000) (hl : n = ks.length) (hl2 : n = vs.length) (J Jx : List KV → World → Prop)
    (hY : ∀ pre x W, J pre W → pre.length < n → YieldAt Fence.wide (m - 1) Try.prog l #[.int .i64 x.1, x.2] W fun e W' =>
      (e = .returned (.bool true) ∧ J (pre ++ [x]) W' ∧ Kb n₀ Bt W W') ∨ (e = .returned (.bool false) ∧ Jx (pre ++ [x]) W'))
    (W : World) (hBt : W.cell? ⟨Bt, 0, none⟩ = some (.pointer (some ⟨g, o, none⟩))) (hk0 : W.cell? ⟨g, o, none⟩ = some (.slice A n ck)) (hv0 : W.cell? ⟨g, o + 1, none⟩ = some (.slice B n cv)) (hK : IntsAt W A ks) (hV : CellsAt W B vs)
    (hg : g < n₀) (hoA : 0 < n → ∀ a, A = some a → a.block < n₀) (hoB : 0 < n → ∀ a, B = some a → a.block < n₀) (h0 : J [] W) :
    CallsIn Fence.wide m Try.prog 56 #[.func (.yield l) #[] #[], .pointer (some ⟨Bt, 0, none⟩)] W fun e W' => (∃ v, e = .returned v) ∧
      ((∃ ys, ys = ks.zip vs ∧ J ys W') ∨ (∃ pre, (∃ k, pre = (ks.zip vs).take k) ∧ Jx pre W')) := by
  have HL := hide hl
  have HL2 := hide hl2
  clear hl hl2
  have hzl : (ks.zip vs).length = n := by have h1 := HL.out; have h2 := HL2.out; simp; omega
  have HZ := hide hzl
  clear hzl
  refine callsIn_of_wp Try.func56 rfl trivial ?_ rfl
  simp only [Try.ntmps56, List.size_toArray, List.length_cons, List.length_nil, Nat.reduceAdd, Nat.reduceSub, Array.replicate_succ, Array.replicate_zero, List.push_toArray, List.append_toArray, List.nil_append, List.cons_append]
  gi_wp2
  gi_loopw [10] (fun iv wr => ∃ j : Nat, j ≤ n ∧ iv = .int .i64 j ∧ J ((ks.zip vs).take j) wr ∧ Kb n₀ Bt W wr) (fun iv _ => n - (intOf iv).toNat)
  case atStart => exact ⟨0, Nat.zero_le _, rfl, by simpa using h0, Kb.refl _ _ _⟩
  case round =>
    obtain ⟨j, hj, rfl, hJs, hnx⟩ := hrel
    have b1 := hnx.2 _ hBt
    have b2 := (hnx.1.cell (p := ⟨g, o + 1, none⟩) hg).trans hv0
    by_cases hlt : j < n
    · obtain ⟨b, q, rfl, hb, g1⟩ := hK.at_ (k := j) (by have := HL.out; omega)
      have hb' := hoA (by omega) _ rfl
      obtain ⟨x, hx⟩ : ∃ x, x = ks[j]?.getD 0 := ⟨_, rfl⟩
      rw [← hx] at g1
      obtain ⟨v, hv⟩ : ∃ v, vs[j]? = some v := ⟨vs[j]'(by rw [← HL2.out]; exact hlt), List.getElem?_eq_getElem _⟩
      obtain ⟨b', q', rfl, hbb, hcc⟩ := hV (fun e => by rw [e] at hv; simp at hv)
      have g2 := hcc j v hv
      have hb2' := hoB (by omega) _ rfl
      have hsn : (ks.zip vs).take (j + 1) = (ks.zip vs).take j ++ [(x, v)] := by
        have hjl : j < (ks.zip vs).length := by rw [HZ.out]; exact hlt
        rw [List.take_succ_eq_append_getElem hjl, List.getElem_zip]
        have hjk : j < ks.length := by rw [← HL.out]; exact hlt
        have hjv : j < vs.length := by rw [← HL2.out]; exact hlt
        rw [List.getElem?_eq_getElem hjk] at hx
        rw [List.getElem?_eq_getElem hjv] at hv
        simp at hx hv
        rw [hx, hv]
      have HS := hide hsn
      clear hx hsn hv hcc
      have g1' := (hnx.1.cell (p := ⟨b, q + j, none⟩) hb').trans g1
      have g2' := (hnx.1.cell (p := ⟨b', q' + j, none⟩) hb2').trans g2
      obtain ⟨fn, tmps, assign, body, hy, hR⟩ := hY _ (x, v) wr hJs (by rw [List.length_take, HZ.out]; omega)
      dsimp only at hy
      clear g1 g2
      gi_wp2
      refine hR.mono ?_
      rintro e W3 (⟨rfl, hJ3, hk3⟩ | ⟨rfl, hJx3⟩)
      · gi_wp2
        go_roundw
        case rel =>
          refine ⟨j + 1, by omega, by go_num, ?_, hnx.t hk3⟩
          rw [HS.out]; exact hJ3
        case measure => simp [intOf]; omega
      · gi_wp2
        refine bodyPost_ret (results_none rfl _ _ _) rfl ?_
        refine ⟨⟨_, rfl⟩, .inr ⟨_, ⟨j + 1, rfl⟩, ?_⟩⟩
        rw [HS.out]; exact hJx3
    · obtain rfl : j = n := by omega
      gi_wp2
      go_end0
      refine ⟨⟨_, rfl⟩, .inl ⟨_, rfl, ?_⟩⟩
      rw [List.take_of_length_le (by rw [HZ.out]; exact Nat.le_refl _)] at hJs
      exact hJs

set_option maxHeartbeats 400000 in
theorem All_in (m : Nat) (g o : Nat) (w : World) :
    CallsIn Fence.wide m Try.prog 39 #[.pointer (some ⟨g, o, none⟩)] w fun e w' => e = .returned (.func (.func 56) #[] #[.pointer (some ⟨w.heap.size, 0, none⟩)]) ∧ w' = w.alloc (.cells #[.pointer (some ⟨g, o, none⟩)] 92) := by
  refine callsIn_of_wp Try.func39 rfl trivial ?_ rfl
  simp only [Try.ntmps39, List.size_toArray, List.length_cons, List.length_nil, Nat.reduceAdd, Nat.reduceSub, Array.replicate_succ, Array.replicate_zero, List.push_toArray, List.append_toArray, List.nil_append, List.cons_append]
  gi_wp2
  go_ret
  exact ⟨rfl, rfl⟩

/-- what a range over a table gives -/
theorem all_stops (n₀ g o n ck cv Bt : Nat) (A B : Option Addr) (ks : List Int) (vs : List Value) (hn : n ≤ 100000) (hl : n = ks.length) (w : World) (h : VTabAt w 0 g o (.slice A n ck) (.slice B n cv) ks vs) (hb : n₀ = w.heap.size)
    (W0 : World) (hO : Old w W0) (hBt : W0.cell? ⟨Bt, 0, none⟩ = some (.pointer (some ⟨g, o, none⟩))) (hlt : Bt < W0.heap.size) :
    SeqStopsK Fence.wide 4 Try.prog 56 #[.pointer (some ⟨Bt, 0, none⟩)] (fun x : KV => #[.int .i64 x.1, x.2]) (Kb n₀ Bt) (fun ys => ys = ks.zip vs) (fun pre => ∃ k, pre = (ks.zip vs).take k) n W0 := by
  intro l J Jx W hW _ _ hY h0
  have hO' : Old w W := hO.trans' hW
  have ho := h.ko
  have hv := h.vo
  rw [← hl] at ho hv
  have hgl := h.lt
  have key : ∀ {X : Value} {E : TypeId} {xs : List Value} {Y : Option Addr} {c : Nat}, w.ownsRow 0 E 1 (.slice Y n c) n xs → 0 < n → ∀ a, Y = some a → a.block < n₀ := fun {X E xs Y c} hh _ a ha => by
    obtain ⟨A2, c2, e2, _, hz⟩ := own_form hh
    injection e2 with e3
    rw [← e3] at hz
    have := (hz a ha).2.1
    omega
  exact all1_in 4 (by omega) l Bt n₀ g o n ck cv A B ks vs hn hl (by have := hv.1; omega) J Jx hY W ((hW.cell (p := ⟨Bt, 0, none⟩) hlt).trans hBt) ((hO'.cell (p := ⟨g, o, none⟩) hgl).trans h.k0) ((hO'.cell (p := ⟨g, o + 1, none⟩) hgl).trans h.v0)
    (CellsAt.of_own (own_old ho hO')) (CellsAt.of_own (own_old hv hO')) (by omega) (key (X := .nilFunc) ho) (key (X := .nilFunc) hv) h0

set_option maxRecDepth 100000 in
set_option maxHeartbeats 2000000 in
theorem Ids_in (g : Nat) (F : Nat → Prop) (s : StV) (n : Nat) (hl : (ksOf s.f).length = n) (w : World) (h : StAt w g F s) :
    CallsIn Fence.wide 5 Try.prog 24 #[.pointer (some ⟨g, 0, none⟩)] w fun e W' =>
      ∃ A' c', e = .returned (.slice A' n c') ∧ W'.ownsRow w.heap.size 3 1 (.slice A' n c') n ((ksOf s.f).map (Value.int .i64)) ∧ Old w W' := by
  obtain ⟨i0, hi, hz0, hz1, hz2⟩ := info_parts info_intC
  obtain ⟨A, ck, B, cv, vs, ht, -, -⟩ := h.tab.ex
  rw [hl] at ht
  have hn : n ≤ 32 := by rw [← hl]; exact ksOf_length _
  have HL := hide hl
  have HT := hide ht
  clear hl ht h
  refine callsIn_of_wp_marks Try.func24 rfl trivial ?_ rfl
  simp only [Try.ntmps24, List.size_toArray, List.length_cons, List.length_nil, Nat.reduceAdd, Nat.reduceSub, Array.replicate_succ, Array.replicate_zero, List.push_toArray, List.append_toArray, List.nil_append, List.cons_append]
  gi_wp2_with (refine ⟨trivial, ?_⟩; gi_at_call 39; refine (All_in _ _ _ _).mono ?_; rintro e w' ⟨rfl, rfl⟩)
  have b0 : Boxed ((w.alloc (.cells #[.slice none 0 0] 30)).alloc (.cells #[.pointer (some ⟨g, 2, none⟩)] 92)) w.heap.size 30 (.slice none 0 0) := ((Boxed.new w _ _).alloc _)
  have b2 : Boxed ((w.alloc (.cells #[.slice none 0 0] 30)).alloc (.cells #[.pointer (some ⟨g, 2, none⟩)] 92)) (w.heap.size + 1) 92 (.pointer (some ⟨g, 2, none⟩)) := by
    have := Boxed.new (w.alloc (.cells #[.slice none 0 0] 30)) 92 (.pointer (some ⟨g, 2, none⟩))
    rwa [World.size_alloc] at this
  have hB0 : Old w ((w.alloc (.cells #[.slice none 0 0] 30)).alloc (.cells #[.pointer (some ⟨g, 2, none⟩)] 92)) := ((Old.refl' w).alloc' _).alloc' _
  have hsz : ((w.alloc (.cells #[.slice none 0 0] 30)).alloc (.cells #[.pointer (some ⟨g, 2, none⟩)] 92)).heap.size = w.heap.size + 2 := by simp
  obtain ⟨W0, hW0⟩ : ∃ W0, (w.alloc (.cells #[.slice none 0 0] 30)).alloc (.cells #[.pointer (some ⟨g, 2, none⟩)] 92) = W0 := ⟨_, rfl⟩
  rw [hW0] at b0 b2 hB0 hsz ⊢
  clear hW0
  refine wpIn_rangeFunc_ownF rfl (by omega) (gf := 56) (lb := #[.pointer (some ⟨w.heap.size + 1, 0, none⟩)]) rfl trivial (enters_of Try.func56 (by kernel_rfl) rfl)
    (all_stops w.heap.size g 2 n ck cv (w.heap.size + 1) A B (ksOf s.f) vs (by omega) HL.out.symm w HT.out rfl W0 hB0 b2.cell (by omega)) Kb.t (Kb.b (by omega)) (Below.refl _ _) (fun _ => rfl)
    (fun pre W => (((∃ v, Boxed W w.heap.size 30 v ∧ W.ownsRow w.heap.size 3 1 v (pre.map Prod.fst).length ((pre.map Prod.fst).map (Value.int .i64)) ∧ True) ∧ Boxed W (w.heap.size + 1) 92 (.pointer (some ⟨g, 2, none⟩))) ∧ Old w W) ∧ (w.heap.size + 2 ≤ W.heap.size))
    (fun _ _ _ => False)
    (OwnFrom.and (OwnFrom.and (OwnFrom.and (Own.from (holdsRow_own w.heap.size w.heap.size 30 3 1 (fun (pre : List KV) => (pre.map Prod.fst).length) (fun (pre : List KV) => (pre.map Prod.fst).map (Value.int .i64)) (fun _ _ => True)) _) (Own.from (boxed_own _ _ (fun _ => _)) _)) (ownFrom_below (Nat.le_refl _) (by omega))) ownFrom_size)
    (fun _ _ _ _ _ hs _ _ => hs)
    ⟨⟨⟨⟨_, b0, World.ownsRow_nil _ _ _ _, trivial⟩, b2⟩, hB0⟩, by omega⟩
    (fun x => { tmps := #[.pointer (some ⟨g, 0, none⟩), undef, .slice none 0 0, .pointer (some ⟨w.heap.size, 0, none⟩), .int .i64 x.1, .pointer (some ⟨g, 0, none⟩), .bool false, .pointer (some ⟨g, 0, none⟩), .pointer (some ⟨g, 0, none⟩), .pointer (some ⟨g, 2, none⟩), .func (.func 56) #[] #[.pointer (some ⟨w.heap.size + 1, 0, none⟩)], .int .i64 x.1, x.2, undef, undef, undef, undef, undef], defers := [] })
    ?assign ?body ?done ?stop
  case assign =>
    intro l x W K hK
    gi_wp2
    exact hK
  case body =>
    rintro l pre x W ⟨⟨⟨⟨v, c0, c1, -⟩, c2⟩, hB1⟩, hs1⟩ hlt
    have e0 := c0.cell
    obtain ⟨n1, v1⟩ := x
    have hlen : (pre.map Prod.fst).length ≤ 100000 := by simp; omega
    simp only [] at *
    have fin : ∀ (g' cap' : Nat) (w1 : World), w1.ownsRow w.heap.size 3 1 (.slice (some ⟨g', 0, none⟩) ((pre.map Prod.fst).length + 1) cap') ((pre.map Prod.fst).length + 1) ((pre.map Prod.fst).map (Value.int .i64) ++ [.int .i64 n1]) →
        (W.alloc (.cells #[.int .i64 n1] 3)).grownBy w1 v.ownBlock → KeepsOthers W (w1.setCell ⟨w.heap.size, 0, none⟩ (.slice (some ⟨g', 0, none⟩) ((pre.map Prod.fst).length + 1) cap')) ∧ Kb w.heap.size (w.heap.size + 1) W (w1.setCell ⟨w.heap.size, 0, none⟩ (.slice (some ⟨g', 0, none⟩) ((pre.map Prod.fst).length + 1) cap')) ∧
          ((((∃ v, Boxed (w1.setCell ⟨w.heap.size, 0, none⟩ (.slice (some ⟨g', 0, none⟩) ((pre.map Prod.fst).length + 1) cap')) w.heap.size 30 v ∧ (w1.setCell ⟨w.heap.size, 0, none⟩ (.slice (some ⟨g', 0, none⟩) ((pre.map Prod.fst).length + 1) cap')).ownsRow w.heap.size 3 1 v ((pre ++ [(n1, v1)]).map Prod.fst).length (((pre ++ [(n1, v1)]).map Prod.fst).map (Value.int .i64)) ∧ True) ∧
            Boxed (w1.setCell ⟨w.heap.size, 0, none⟩ (.slice (some ⟨g', 0, none⟩) ((pre.map Prod.fst).length + 1) cap')) (w.heap.size + 1) 92 (.pointer (some ⟨g, 2, none⟩))) ∧ Old w (w1.setCell ⟨w.heap.size, 0, none⟩ (.slice (some ⟨g', 0, none⟩) ((pre.map Prod.fst).length + 1) cap'))) ∧ w.heap.size + 2 ≤ (w1.setCell ⟨w.heap.size, 0, none⟩ (.slice (some ⟨g', 0, none⟩) ((pre.map Prod.fst).length + 1) cap')).heap.size) := by
      intro g' cap' w1 hown' hgrow
      obtain ⟨hv1, hv2, hr2, hk2, hb2⟩ := c0.appended (by decide) c1 hB1.size (Nat.le_refl _) hown' hgrow
      have c2' : Boxed (w1.setCell ⟨w.heap.size, 0, none⟩ (.slice (some ⟨g', 0, none⟩) ((pre.map Prod.fst).length + 1) cap')) (w.heap.size + 1) 92 (.pointer (some ⟨g, 2, none⟩)) :=
        ((c2.alloc _).kept hgrow (c2.not_row (by decide) c1)).other (by omega) _
      refine ⟨hk2, ⟨hb2, fun u hu => ?_⟩, ⟨⟨⟨_, hv2, by simpa using hr2, trivial⟩, c2'⟩, hB1.trans hb2⟩, Nat.le_trans hs1 hk2.size⟩
      rw [c2.cell] at hu
      rw [c2'.cell, hu]
    gi_wp2_with (gi_at_builtin; refine wpListIn_append_own _ rfl _ _ 30 rfl w.heap.size 3 i0 (.int .i64 0) 1 8 Try.underlying30 hi hz0 hz1 hz2 rfl (by decide) _ _ _ rfl (c1.alloc _) ⟨W.heap.size, 0, none⟩ 1 1 [.int .i64 n1] rfl rfl (cell_one_new _ _ _) (by simp [Value.oneCell']) (by unfold maxLen; omega) (by omega) (by have := hB1.size; simp; omega) ?_; intro v' w1 hown' hgrow _; obtain ⟨g', cap', rfl⟩ := ownsRow_succ hown'; have hfin := hide (fin g' cap' w1 hown' hgrow); obtain ⟨hv1, hv2, hr2, hk2, hb2⟩ := c0.appended (by decide) c1 hB1.size (Nat.le_refl _) hown' hgrow; have hc1 := hv1.cell; have hf1 := hv1.frozen)
    have hf := hfin.out
    rw [show (pre.map Prod.fst).length = pre.length from by simp] at hf
    exact hf
  case done =>
    rintro D ys W hD rfl ⟨⟨⟨⟨v, c0, c1, -⟩, c2⟩, hB1⟩, hs1⟩ hK
    have e0 := c0.cell
    have hvl : vs.length = (ksOf s.f).length := by have := HT.out.vo.1; have := HL.out; omega
    have hmap : ((ksOf s.f).zip vs).map Prod.fst = ksOf s.f := List.map_fst_zip (by omega)
    rw [hmap] at c1
    clear hmap
    gi_wp2
    refine ⟨by simp, .inl ⟨_, _, rfl, run_takeDeferred hK, ?_⟩⟩
    obtain ⟨Av, cv', rfl, -, -⟩ := own_form c1
    rw [HL.out] at c1 ⊢
    exact ⟨_, results_tmp rfl _ _ _, _, _, rfl, ownsRow_putObj c1 _ hK rfl, Old.put hB1 hK (by omega) _⟩
  case stop =>
    rintro D c pre W _ _ h _
    exact h.elim
theorem Ids_st (g : Nat) (F : Nat → Prop) (s : StV) (n : Nat) (hl : (ksOf s.f).length = n) (w : World) (h : StAt w g F s) :
    Calls Try.prog 24 #[.pointer (some ⟨g, 0, none⟩)] w fun e W' =>
      ∃ A' c', e = .returned (.slice A' n c') ∧ W'.ownsRow w.heap.size 3 1 (.slice A' n c') n ((ksOf s.f).map (Value.int .i64)) ∧ Old w W' := callsIn_wide.1 (Ids_in g F s n hl w h)
end Go.Proofs.Ytcbnibldlbnkbaa

/- The range over a table, each element known as one of it. -/
namespace Go.Proofs.Ytcbnibldlbnkbaa
open Go.RowKit Go.Shelf

attribute [local go_sem] Oper.semAt_some

set_option maxRecDepth 100000 in
set_option maxHeartbeats 1000000 in
theorem all1M_in (m : Nat) (hm : 1 ≤ m) (l Bt n₀ g o n ck cv : Nat) (A B : Option Addr) (ks : List Int) (vs : List Value) (hn : n ≤ 100000) (hl : n = ks.length) (hl2 : n = vs.length) (J Jx : List {x : KV // x ∈ ks.zip vs} → World → Prop)
    (hY : ∀ pre x W, J pre W → pre.length < n → YieldAt Fence.wide (m - 1) Try.prog l #[.int .i64 x.1.1, x.1.2] W fun e W' =>
      (e = .returned (.bool true) ∧ J (pre ++ [x]) W' ∧ Kb n₀ Bt W W') ∨ (e = .returned (.bool false) ∧ Jx (pre ++ [x]) W'))
    (W : World) (hBt : W.cell? ⟨Bt, 0, none⟩ = some (.pointer (some ⟨g, o, none⟩))) (hk0 : W.cell? ⟨g, o, none⟩ = some (.slice A n ck)) (hv0 : W.cell? ⟨g, o + 1, none⟩ = some (.slice B n cv)) (hK : IntsAt W A ks) (hV : CellsAt W B vs)
    (hg : g < n₀) (hoA : 0 < n → ∀ a, A = some a → a.block < n₀) (hoB : 0 < n → ∀ a, B = some a → a.block < n₀) (h0 : J [] W) :
    CallsIn Fence.wide m Try.prog 56 #[.func (.yield l) #[] #[], .pointer (some ⟨Bt, 0, none⟩)] W fun e W' => (∃ v, e = .returned v) ∧
      ((∃ ys, ys = (ks.zip vs).attach ∧ J ys W') ∨ (∃ pre, (∃ k, pre = (ks.zip vs).attach.take k) ∧ Jx pre W')) := by
  have HL := hide hl
  have HL2 := hide hl2
  clear hl hl2
  have hzl : (ks.zip vs).attach.length = n := by have h1 := HL.out; have h2 := HL2.out; rw [List.length_attach]; simp; omega
  have HZ := hide hzl
  clear hzl
  refine callsIn_of_wp Try.func56 rfl trivial ?_ rfl
  simp only [Try.ntmps56, List.size_toArray, List.length_cons, List.length_nil, Nat.reduceAdd, Nat.reduceSub, Array.replicate_succ, Array.replicate_zero, List.push_toArray, List.append_toArray, List.nil_append, List.cons_append]
  gi_wp2
  gi_loopw [10] (fun iv wr => ∃ j : Nat, j ≤ n ∧ iv = .int .i64 j ∧ J ((ks.zip vs).attach.take j) wr ∧ Kb n₀ Bt W wr) (fun iv _ => n - (intOf iv).toNat)
  case atStart => exact ⟨0, Nat.zero_le _, rfl, by simpa using h0, Kb.refl _ _ _⟩
  case round =>
    obtain ⟨j, hj, rfl, hJs, hnx⟩ := hrel
    have b1 := hnx.2 _ hBt
    have b2 := (hnx.1.cell (p := ⟨g, o + 1, none⟩) hg).trans hv0
    by_cases hlt : j < n
    · obtain ⟨b, q, rfl, hb, g1⟩ := hK.at_ (k := j) (by have := HL.out; omega)
      have hb' := hoA (by omega) _ rfl
      obtain ⟨x, hx⟩ : ∃ x, x = ks[j]?.getD 0 := ⟨_, rfl⟩
      rw [← hx] at g1
      obtain ⟨v, hv⟩ : ∃ v, vs[j]? = some v := ⟨vs[j]'(by rw [← HL2.out]; exact hlt), List.getElem?_eq_getElem _⟩
      obtain ⟨b', q', rfl, hbb, hcc⟩ := hV (fun e => by rw [e] at hv; simp at hv)
      have g2 := hcc j v hv
      have hb2' := hoB (by omega) _ rfl
      have hzl' : (ks.zip vs).length = n := by rw [← List.length_attach]; exact HZ.out
      have hel : (ks.zip vs)[j]? = some (x, v) := by
        rw [List.getElem?_eq_getElem (by rw [hzl']; exact hlt), List.getElem_zip]
        have hjk : j < ks.length := by rw [← HL.out]; exact hlt
        have hjv : j < vs.length := by rw [← HL2.out]; exact hlt
        rw [List.getElem?_eq_getElem hjk] at hx
        rw [List.getElem?_eq_getElem hjv] at hv
        simp at hx hv
        rw [hx, hv]
      have hmem : (x, v) ∈ ks.zip vs := List.mem_of_getElem? hel
      have hsn : (ks.zip vs).attach.take (j + 1) = (ks.zip vs).attach.take j ++ [⟨(x, v), hmem⟩] := by
        have hjl : j < (ks.zip vs).attach.length := by rw [HZ.out]; exact hlt
        rw [List.take_succ_eq_append_getElem hjl]
        congr 1
        rw [List.getElem_attach]
        rw [List.getElem?_eq_getElem (by rw [hzl']; exact hlt)] at hel
        injection hel with hel
        simp only [List.cons.injEq, and_true]
        exact Subtype.ext hel
      have HEL := hide hel
      have HZ' := hide hzl'
      clear hel hzl'
      have HS := hide hsn
      clear hx hsn hv hcc
      have g1' := (hnx.1.cell (p := ⟨b, q + j, none⟩) hb').trans g1
      have g2' := (hnx.1.cell (p := ⟨b', q' + j, none⟩) hb2').trans g2
      obtain ⟨fn, tmps, assign, body, hy, hR⟩ := hY _ ⟨(x, v), hmem⟩ wr hJs (by rw [List.length_take, HZ.out]; omega)
      dsimp only at hy
      clear g1 g2
      gi_wp2
      refine hR.mono ?_
      rintro e W3 (⟨rfl, hJ3, hk3⟩ | ⟨rfl, hJx3⟩)
      · gi_wp2
        go_roundw
        case rel =>
          refine ⟨j + 1, by omega, by go_num, ?_, hnx.t hk3⟩
          rw [HS.out]; exact hJ3
        case measure => simp [intOf]; omega
      · gi_wp2
        refine bodyPost_ret (results_none rfl _ _ _) rfl ?_
        refine ⟨⟨_, rfl⟩, .inr ⟨_, ⟨j + 1, rfl⟩, ?_⟩⟩
        rw [HS.out]; exact hJx3
    · obtain rfl : j = n := by omega
      gi_wp2
      go_end0
      refine ⟨⟨_, rfl⟩, .inl ⟨_, rfl, ?_⟩⟩
      rw [List.take_of_length_le (by rw [HZ.out]; exact Nat.le_refl _)] at hJs
      exact hJs

/-- what a range over a table gives -/
theorem allM_stops (n₀ g o n ck cv Bt : Nat) (A B : Option Addr) (ks : List Int) (vs : List Value) (hn : n ≤ 100000) (hl : n = ks.length) (w : World) (h : VTabAt w 0 g o (.slice A n ck) (.slice B n cv) ks vs) (hb : n₀ = w.heap.size)
    (W0 : World) (hO : Old w W0) (hBt : W0.cell? ⟨Bt, 0, none⟩ = some (.pointer (some ⟨g, o, none⟩))) (hlt : Bt < W0.heap.size) :
    SeqStopsK Fence.wide 4 Try.prog 56 #[.pointer (some ⟨Bt, 0, none⟩)] (fun x : {x : KV // x ∈ ks.zip vs} => #[.int .i64 x.1.1, x.1.2]) (Kb n₀ Bt) (fun ys => ys = (ks.zip vs).attach) (fun pre => ∃ k, pre = (ks.zip vs).attach.take k) n W0 := by
  intro l J Jx W hW _ _ hY h0
  have hO' : Old w W := hO.trans' hW
  have ho := h.ko
  have hv := h.vo
  rw [← hl] at ho hv
  have hgl := h.lt
  have key : ∀ {X : Value} {E : TypeId} {xs : List Value} {Y : Option Addr} {c : Nat}, w.ownsRow 0 E 1 (.slice Y n c) n xs → 0 < n → ∀ a, Y = some a → a.block < n₀ := fun {X E xs Y c} hh _ a ha => by
    obtain ⟨A2, c2, e2, _, hz⟩ := own_form hh
    injection e2 with e3
    rw [← e3] at hz
    have := (hz a ha).2.1
    omega
  exact all1M_in 4 (by omega) l Bt n₀ g o n ck cv A B ks vs hn hl (by have := hv.1; omega) J Jx hY W ((hW.cell (p := ⟨Bt, 0, none⟩) hlt).trans hBt) ((hO'.cell (p := ⟨g, o, none⟩) hgl).trans h.k0) ((hO'.cell (p := ⟨g, o + 1, none⟩) hgl).trans h.v0)
    (CellsAt.of_own (own_old ho hO')) (CellsAt.of_own (own_old hv hO')) (by omega) (key (X := .nilFunc) ho) (key (X := .nilFunc) hv) h0

end Go.Proofs.Ytcbnibldlbnkbaa
