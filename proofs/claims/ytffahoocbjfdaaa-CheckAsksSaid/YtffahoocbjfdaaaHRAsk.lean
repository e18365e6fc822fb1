/- The document's Ask: what it computes is askR. -/
import Derived.Test.YtffahoocbjfdaaaHTold0
import Derived.Test.YtffahoocbjfdaaaHBs
namespace Go.Proofs.Ytffahoocbjfdaaa
open Go.RowKit
set_option maxRecDepth 100000 in
set_option maxHeartbeats 2000000 in
theorem RAsk_read (A : Option Addr) (n cap : Nat) (vs : List Ver) (hn : n ≤ 100000) (hl : n = vs.length) (c s i m : Int) (d : ByteArray) (w : World) (hV : Vers w A vs) :
    Calls Try.prog 33 #[.slice A n cap, .agg #[.int .i64 c, .int .i64 s, .int .i64 4, .int .i64 i, .int .i64 m, .string d]] w fun e w' =>
      ∃ v, e = .returned v ∧ RepAt w w' v (askR vs 4 m) ∧ Old w w' := by
  have HL := hide hl
  clear hl
  by_cases h0 : n = 0
  · subst h0
    go_enter Try.func33, Try.ntmps33
    go_wp2
    refine bodyPost_ret (v := .agg #[.int .i64 2, .int .i64 0, .string ByteArray.empty, .slice none 0 0]) ?_ rfl ⟨_, rfl, ?_, ?_⟩
    · simp [results, Try.results33, go_sem, bempty]
    · have e : askR vs 4 m = ⟨2, 0, ByteArray.empty, []⟩ := by simp [askR, ← HL.out]
      rw [e]; exact RepAt.nil _ _ _ _ _
    · repeat (first | with_reducible refine Old.drew' ?_ | with_reducible refine Old.setCell' ?_ (by simp) _ | with_reducible refine Old.alloc' ?_ _ | with_reducible exact Old.refl' _)
  · have h0' : ((n : Int) == 0) = false := by simpa using h0
    have hp : 0 < n := by omega
    obtain ⟨b, o, rfl, hb, g1, g2⟩ := hV.at_ (k := n - 1) (by have := HL.out; omega)
    obtain ⟨x, hx⟩ : ∃ x, x = vs[n - 1]?.getD default := ⟨_, rfl⟩
    have hx' : x = lastV vs := by rw [hx, lastV, ← HL.out]
    obtain ⟨g, d1⟩ := x
    rw [← hx] at g1 g2
    have HX := hide hx'
    clear hx hx'
    cases g
    · go_enter Try.func33, Try.ntmps33
      go_wp2
      refine bodyPost_ret (v := .agg #[.int .i64 1, .int .i64 n, .string d1, .slice none 0 0]) ?_ rfl ⟨_, rfl, ?_, ?_⟩
      · simp [results, Try.results33, go_sem]
      · have e : askR vs 4 m = ⟨1, n, d1, []⟩ := by simp [askR, ← HL.out, ← HX.out, h0]
        rw [e]; exact RepAt.nil _ _ _ _ _
      · repeat (first | with_reducible refine Old.drew' ?_ | with_reducible refine Old.setCell' ?_ (by simp) _ | with_reducible refine Old.alloc' ?_ _ | with_reducible exact Old.refl' _)
    · go_enter Try.func33, Try.ntmps33
      go_wp2
      refine bodyPost_ret (v := .agg #[.int .i64 3, .int .i64 n, .string ByteArray.empty, .slice none 0 0]) ?_ rfl ⟨_, rfl, ?_, ?_⟩
      · simp [results, Try.results33, go_sem, bempty]
      · have e : askR vs 4 m = ⟨3, n, ByteArray.empty, []⟩ := by simp [askR, ← HL.out, ← HX.out, h0]
        rw [e]; exact RepAt.nil _ _ _ _ _
      · repeat (first | with_reducible refine Old.drew' ?_ | with_reducible refine Old.setCell' ?_ (by simp) _ | with_reducible refine Old.alloc' ?_ _ | with_reducible exact Old.refl' _)
set_option maxRecDepth 100000 in
set_option maxHeartbeats 2000000 in
theorem RAsk_version (A : Option Addr) (n cap : Nat) (vs : List Ver) (hn : n ≤ 100000) (hl : n = vs.length) (c s i m : Int) (d : ByteArray) (w : World) (hV : Vers w A vs) (hm : -9223372036854775808 ≤ m) (hm2 : m ≤ 9223372036854775807) :
    Calls Try.prog 33 #[.slice A n cap, .agg #[.int .i64 c, .int .i64 s, .int .i64 5, .int .i64 i, .int .i64 m, .string d]] w fun e w' =>
      ∃ v, e = .returned v ∧ RepAt w w' v (askR vs 5 m) ∧ Old w w' := by
  have HL := hide hl
  clear hl
  by_cases h1 : m < 1
  · go_enter Try.func33, Try.ntmps33
    go_wp2
    refine bodyPost_ret (v := .agg #[.int .i64 2, .int .i64 0, .string ByteArray.empty, .slice none 0 0]) ?_ rfl ⟨_, rfl, ?_, ?_⟩
    · simp [results, Try.results33, go_sem, bempty]
    · have e : askR vs 5 m = ⟨2, 0, ByteArray.empty, []⟩ := by simp [askR]; omega
      rw [e]; exact RepAt.nil _ _ _ _ _
    · repeat (first | with_reducible refine Old.drew' ?_ | with_reducible refine Old.setCell' ?_ (by simp) _ | with_reducible refine Old.alloc' ?_ _ | with_reducible exact Old.refl' _)
  · have h1' : decide (m < 1) = false := by simpa using h1
    by_cases h2 : (n : Int) < m
    · have h2' : decide ((n : Int) < m) = true := by simpa using h2
      go_enter Try.func33, Try.ntmps33
      go_wp2
      refine bodyPost_ret (v := .agg #[.int .i64 2, .int .i64 0, .string ByteArray.empty, .slice none 0 0]) ?_ rfl ⟨_, rfl, ?_, ?_⟩
      · simp [results, Try.results33, go_sem, bempty]
      · have e : askR vs 5 m = ⟨2, 0, ByteArray.empty, []⟩ := by have := HL.out; simp [askR]; omega
        rw [e]; exact RepAt.nil _ _ _ _ _
      · repeat (first | with_reducible refine Old.drew' ?_ | with_reducible refine Old.setCell' ?_ (by simp) _ | with_reducible refine Old.alloc' ?_ _ | with_reducible exact Old.refl' _)
    · obtain ⟨j, hj⟩ : ∃ j : Nat, m = (j : Int) + 1 := ⟨(m - 1).toNat, by omega⟩
      subst hj
      have hjn : j < n := by omega
      clear hm hm2 h1 h1' h2
      have h1' : decide ((j : Int) + 1 < 1) = false := by simp; omega
      have h2' : decide ((n : Int) < (j : Int) + 1) = false := by simp; omega
      obtain ⟨b, o, rfl, hb, g1, g2⟩ := hV.at_ (k := j) (by have := HL.out; omega)
      obtain ⟨y, hy⟩ : ∃ y, y = vs[j]?.getD default := ⟨_, rfl⟩
      obtain ⟨yg, yd⟩ := y
      rw [← hy] at g1 g2
      have HY := hide hy
      clear hy
      cases yg
      · go_enter Try.func33, Try.ntmps33
        go_wp2
        go_region
        go_wp2
        refine bodyPost_ret (v := .agg #[.int .i64 1, .int .i64 ((j : Int) + 1), .string yd, .slice none 0 0]) ?_ rfl ⟨_, rfl, ?_, ?_⟩
        · simp [results, Try.results33, go_sem]
        · have e : askR vs 5 ((j : Int) + 1) = ⟨1, ((j : Int) + 1), yd, []⟩ := by rw [askR_version vs j (by have := HL.out; omega) HY.out]; rfl
          rw [e]; exact RepAt.nil _ _ _ _ _
        · repeat (first | with_reducible refine Old.drew' ?_ | with_reducible refine Old.setCell' ?_ (by simp) _ | with_reducible refine Old.alloc' ?_ _ | with_reducible exact Old.refl' _)
      · go_enter Try.func33, Try.ntmps33
        go_wp2
        refine bodyPost_ret (v := .agg #[.int .i64 3, .int .i64 ((j : Int) + 1), .string ByteArray.empty, .slice none 0 0]) ?_ rfl ⟨_, rfl, ?_, ?_⟩
        · simp [results, Try.results33, go_sem, bempty]
        · have e : askR vs 5 ((j : Int) + 1) = ⟨3, ((j : Int) + 1), ByteArray.empty, []⟩ := by rw [askR_version vs j (by have := HL.out; omega) HY.out]; rfl
          rw [e]; exact RepAt.nil _ _ _ _ _
        · repeat (first | with_reducible refine Old.drew' ?_ | with_reducible refine Old.setCell' ?_ (by simp) _ | with_reducible refine Old.alloc' ?_ _ | with_reducible exact Old.refl' _)
set_option maxRecDepth 100000 in
set_option maxHeartbeats 2000000 in
theorem RAsk_none (A : Option Addr) (n cap : Nat) (vs : List Ver) (hn : n ≤ 100000) (hl : n = vs.length) (c s k i m : Int) (d : ByteArray) (w : World) (hV : Vers w A vs) (k4 : k ≠ 4) (k5 : k ≠ 5) (k6 : k ≠ 6) :
    Calls Try.prog 33 #[.slice A n cap, .agg #[.int .i64 c, .int .i64 s, .int .i64 k, .int .i64 i, .int .i64 m, .string d]] w fun e w' =>
      ∃ v, e = .returned v ∧ RepAt w w' v (askR vs k m) ∧ Old w w' := by
  have HL := hide hl
  clear hl
  have k4' : (k == 4) = false := by simpa using k4
  have k5' : (k == 5) = false := by simpa using k5
  have k6' : (k == 6) = false := by simpa using k6
  go_enter Try.func33, Try.ntmps33
  go_wp2
  refine bodyPost_ret (v := .agg #[.int .i64 0, .int .i64 0, .string ByteArray.empty, .slice none 0 0]) ?_ rfl ⟨_, rfl, ?_, ?_⟩
  · simp [results, Try.results33, go_sem, bempty]
  · have e : askR vs k m = ⟨0, 0, ByteArray.empty, []⟩ := by simp [askR, k4, k5, k6]
    rw [e]; exact RepAt.nil _ _ _ _ _
  · repeat (first | with_reducible refine Old.drew' ?_ | with_reducible refine Old.setCell' ?_ (by simp) _ | with_reducible refine Old.alloc' ?_ _ | with_reducible exact Old.refl' _)
def histTo (vs : List Ver) (k : Nat) : List Int := (List.range k).map fun j => if (vs[j]?.getD default).1 then -((j : Int) + 1) else (j : Int) + 1
theorem histTo_succ (vs : List Ver) (k : Nat) : histTo vs (k + 1) = histTo vs k ++ [if (vs[k]?.getD default).1 then -((k : Int) + 1) else (k : Int) + 1] := by
  simp [histTo, List.range_succ]
theorem histTo_length (vs : List Ver) (k : Nat) : (histTo vs k).length = k := by simp [histTo]
theorem histL_at (vs : List Ver) (hn : vs.length ≤ 100000) (k : Nat) (hk : k < vs.length) :
    (histL vs)[k]?.getD 0 = if (vs[k]?.getD default).1 then -((k : Int) + 1) else (k : Int) + 1 := by
  unfold histL
  have hl : ((backL vs vs.length).map histOf).length = vs.length := by simp [backL_length]
  rw [List.getElem?_reverse (by rw [hl]; exact hk), hl, List.getElem?_map]
  unfold backL
  rw [List.getElem?_map, List.getElem?_range (by omega)]
  simp only [Option.map_some, Option.getD_some]
  rw [show vs.length - (vs.length - 1 - k) = k + 1 from by omega, show k + 1 - 1 = k from rfl]
  unfold histOf
  simp only []
  split
  · rw [IntWalk.wrap64_in _ ⟨by omega, by omega⟩]; omega
  · omega
theorem histTo_all (vs : List Ver) (hn : vs.length ≤ 100000) : histTo vs vs.length = histL vs := by
  apply List.ext_getElem?
  intro k
  by_cases hk : k < vs.length
  · have h1 := histL_at vs hn k hk
    have h2 : (histTo vs vs.length)[k]? = some (if (vs[k]?.getD default).1 then -((k : Int) + 1) else (k : Int) + 1) := by simp [histTo, hk]
    rw [h2, ← h1, List.getElem?_eq_getElem (by rw [histL_length]; exact hk)]
    rfl
  · rw [List.getElem?_eq_none (by rw [histTo_length]; omega), List.getElem?_eq_none (by rw [histL_length]; omega)]
set_option maxRecDepth 100000 in
set_option maxHeartbeats 2000000 in
theorem RAsk_history (A : Option Addr) (n cap : Nat) (vs : List Ver) (hn : n ≤ 100000) (hl : n = vs.length) (c s i m : Int) (d : ByteArray) (w : World) (hV : Vers w A vs) :
    Calls Try.prog 33 #[.slice A n cap, .agg #[.int .i64 c, .int .i64 s, .int .i64 6, .int .i64 i, .int .i64 m, .string d]] w fun e w' =>
      ∃ v, e = .returned v ∧ RepAt w w' v (askR vs 6 m) ∧ Old w w' := by
  have HL := hide hl
  clear hl
  by_cases h0 : n = 0
  · subst h0
    go_enter Try.func33, Try.ntmps33
    go_wp2
    refine bodyPost_ret (v := .agg #[.int .i64 2, .int .i64 0, .string ByteArray.empty, .slice none 0 0]) ?_ rfl ⟨_, rfl, ?_, ?_⟩
    · simp [results, Try.results33, go_sem, bempty]
    · have e : askR vs 6 m = ⟨2, 0, ByteArray.empty, []⟩ := by simp [askR, ← HL.out]
      rw [e]; exact RepAt.nil _ _ _ _ _
    · repeat (first | with_reducible refine Old.drew' ?_ | with_reducible refine Old.setCell' ?_ (by simp) _ | with_reducible refine Old.alloc' ?_ _ | with_reducible exact Old.refl' _)
  · have h0' : ((n : Int) == 0) = false := by simpa using h0
    obtain ⟨i0, hi, hz0, hz1, hz2⟩ := info_parts info_int
    go_enter Try.func33, Try.ntmps33
    go_wp2
    have b0 := Bk.new ((w.alloc (.cells #[.int .i64 c, .int .i64 s, .int .i64 6, .int .i64 i, .int .i64 m, .string d] 24)).alloc (.cells #[.int .i64 0, .int .i64 0, .string { data := #[] }, .slice none 0 0] 43)) 43 #[.int .i64 1, .int .i64 n, .string { data := #[] }, .slice none 0 0]
    have b1 := (Bk.new (w.alloc (.cells #[.int .i64 c, .int .i64 s, .int .i64 6, .int .i64 i, .int .i64 m, .string d] 24)) 43 #[.int .i64 0, .int .i64 0, .string { data := #[] }, .slice none 0 0]).alloc (.cells #[.int .i64 1, .int .i64 n, .string { data := #[] }, .slice none 0 0] 43)
    simp only [World.size_alloc] at b0 b1
    generalize hW : World.alloc (World.alloc (World.alloc w _) _) _ = W0
    have hB0 : Old w W0 := by rw [← hW]; exact (((Old.refl' w).alloc' _).alloc' _).alloc' _
    have hz : w.heap.size + 3 ≤ W0.heap.size := by rw [← hW]; simp
    simp only [bempty] at hW b0 b1
    rw [hW] at b0 b1
    clear hW
    go_loopw [7] (fun iv wr => ∃ k : Nat, k ≤ n ∧ iv = .int .i64 k ∧ (Old w wr ∧ w.heap.size + 3 ≤ wr.heap.size) ∧ Bk wr (w.heap.size + 1) 43 #[.int .i64 0, .int .i64 0, .string ByteArray.empty, .slice none 0 0] ∧
        ∃ V, Bk wr (w.heap.size + 1 + 1) 43 #[.int .i64 1, .int .i64 n, .string ByteArray.empty, V] ∧ wr.ownsRow (w.heap.size + 3) 3 1 V k ((histTo vs k).map (Value.int .i64)))
      (fun iv _ => n - (intOf iv).toNat)
    case atStart => exact ⟨0, by omega, rfl, ⟨hB0, hz⟩, b1, _, b0, World.ownsRow_nil _ _ _ _⟩
    case round =>
      clear hB0 hz b0 b1
      obtain ⟨k, hk, rfl, ⟨hB, hz⟩, b1, V, b2, hown⟩ := hrel
      by_cases hlt : k < n
      · obtain ⟨b, o, rfl, hb, g1, -⟩ := hV.at_ (k := k) (by have := HL.out; omega)
        obtain ⟨g, hg⟩ : ∃ g, g = (vs[k]?.getD default).1 := ⟨_, rfl⟩
        rw [← hg] at g1
        have HG := hide hg
        clear hg
        have g1' := (hB.cell (p := ⟨b, o + k * 2, none⟩) hb).trans g1
        have c3 := b2.cell 3
        simp at c3
        have fin : ∀ (z : Int) (v' : Value) (w1 : World), (if (vs[k]?.getD default).1 then -((k : Int) + 1) else (k : Int) + 1) = z → w1.ownsRow (w.heap.size + 3) 3 1 v' (k + 1) ((histTo vs k).map (Value.int .i64) ++ [.int .i64 z]) →
            (wr.alloc (.cells #[.int .i64 z] 3)).grownBy w1 V.ownBlock → (Old w (w1.setCell ⟨w.heap.size + 1 + 1, 3, none⟩ v') ∧ w.heap.size + 3 ≤ (w1.setCell ⟨w.heap.size + 1 + 1, 3, none⟩ v').heap.size) ∧ Bk (w1.setCell ⟨w.heap.size + 1 + 1, 3, none⟩ v') (w.heap.size + 1) 43 #[.int .i64 0, .int .i64 0, .string ByteArray.empty, .slice none 0 0] ∧
              ∃ V, Bk (w1.setCell ⟨w.heap.size + 1 + 1, 3, none⟩ v') (w.heap.size + 1 + 1) 43 #[.int .i64 1, .int .i64 n, .string ByteArray.empty, V] ∧ (w1.setCell ⟨w.heap.size + 1 + 1, 3, none⟩ v').ownsRow (w.heap.size + 3) 3 1 V (k + 1) ((histTo vs (k + 1)).map (Value.int .i64)) := by
          intro z v' w1 hz' hown' hgr
          have n1 := own_ne hown (b := w.heap.size + 1) (by omega)
          have n2 := own_ne hown (b := w.heap.size + 1 + 1) (by omega)
          have n3 := own_ne hown' (b := w.heap.size + 1 + 1) (by omega)
          have ho := old_grown (hB.alloc' _) hgr (hown.alloc _) (by omega)
          have hs := hgr.size
          simp at hs
          refine ⟨⟨ho.setCell' (by simp; omega) _, by simp [World.setCell]; omega⟩, ((b1.alloc _).grown hgr n1.symm).far (by simp) _, v', ?_, ?_⟩
          · have := ((b2.alloc _).grown hgr n2.symm).set_ 3 v'
            simpa using this
          · rw [histTo_succ, hz', List.map_append]
            exact own_set hown' n3 _
        have c3' : ∀ (z : Int) (w1 : World), (wr.alloc (.cells #[.int .i64 z] 3)).grownBy w1 V.ownBlock → w1.cell? ⟨w.heap.size + 1 + 1, 3, none⟩ = some V ∧ w1.frozen? ⟨w.heap.size + 1 + 1, 3, none⟩ = false := fun z w1 hgr => by
          have n2 := own_ne hown (b := w.heap.size + 1 + 1) (by omega)
          have h := (b2.alloc (.cells #[.int .i64 z] 3)).grown hgr n2.symm
          exact ⟨by rw [h.cell]; rfl, h.frozen 3⟩
        have FIN := hide fin
        have C3 := hide c3'
        clear fin c3'
        cases g
        · go_wp2_with (at_builtin; refine wpList_append_own _ rfl (.tmp 88) (.tmp 90) 34 rfl (w.heap.size + 3) 3 i0 (.int .i64 0) 1 8 Try.underlying34 hi hz0 hz1 hz2 rfl (by decide) V k ((histTo vs k).map (Value.int .i64)) rfl (hown.alloc _) ⟨wr.heap.size, 0, none⟩ 1 1 [.int .i64 ((k : Int) + 1)] rfl rfl (cell_one_new _ _ _) (by simp [Value.oneCell']) (by unfold maxLen; omega) (by omega) (by simp; omega) ?_; intro v' w1 hown' hgrow _; obtain ⟨g', cap', rfl⟩ := ownsRow_succ hown'; obtain ⟨d1, d2⟩ := C3.out _ w1 hgrow)
          go_roundw
          case rel =>
            obtain ⟨h1, h2, h3⟩ := FIN.out _ _ _ (by rw [← HG.out]; rfl) hown' hgrow
            exact ⟨k + 1, by omega, by go_num, h1, h2, h3⟩
          case measure => simp [intOf]; omega
        · go_wp2_with (at_builtin; refine wpList_append_own _ rfl (.tmp 88) (.tmp 90) 34 rfl (w.heap.size + 3) 3 i0 (.int .i64 0) 1 8 Try.underlying34 hi hz0 hz1 hz2 rfl (by decide) V k ((histTo vs k).map (Value.int .i64)) rfl (hown.alloc _) ⟨wr.heap.size, 0, none⟩ 1 1 [.int .i64 (-((k : Int) + 1))] rfl rfl (cell_one_new _ _ _) (by simp [Value.oneCell']) (by unfold maxLen; omega) (by omega) (by simp; omega) ?_; intro v' w1 hown' hgrow _; obtain ⟨g', cap', rfl⟩ := ownsRow_succ hown'; obtain ⟨d1, d2⟩ := C3.out _ w1 hgrow)
          go_roundw
          case rel =>
            obtain ⟨h1, h2, h3⟩ := FIN.out _ _ _ (by rw [← HG.out]; rfl) hown' hgrow
            exact ⟨k + 1, by omega, by go_num, h1, h2, h3⟩
          case measure => simp [intOf]; omega
      · obtain rfl : k = n := by omega
        have q0 := b2.cell 0
        have q1 := b2.cell 1
        have q2 := b2.cell 2
        have q3 := b2.cell 3
        have p0 := b1.cell 0
        have p1 := b1.cell 1
        have p2 := b1.cell 2
        have p3 := b1.cell 3
        have f0 := b1.frozen 0
        have f1 := b1.frozen 1
        have f2 := b1.frozen 2
        have f3 := b1.frozen 3
        simp at q0 q1 q2 q3 p0 p1 p2 p3
        obtain ⟨A', c', rfl⟩ : ∃ A' c', V = .slice A' k c' := by
          rcases hown.2 with ⟨rfl, rfl⟩ | ⟨g, cap, cur, rfl, _⟩
          · exact ⟨_, _, rfl⟩
          · exact ⟨_, _, rfl⟩
        go_wp2
        refine bodyPost_ret (v := .agg #[.int .i64 1, .int .i64 k, .string ByteArray.empty, .slice A' k c']) ?_ rfl ⟨_, rfl, ?_, ?_⟩
        · simp [results, Try.results33, go_sem, bempty, p0, p1, p2, p3]
        · have e : askR vs 6 m = ⟨1, k, ByteArray.empty, histL vs⟩ := by simp [askR, ← HL.out, h0]
          rw [e]
          refine ⟨A', c', by simp only [histL_length, ← HL.out], ?_, ?_⟩
          · rw [← histTo_all vs (by rw [← HL.out]; exact hn), ← HL.out]
            have hne : ∀ a, A' = some a → a.block ≠ w.heap.size + 1 := fun a ha => by have := own_new hown a ha; omega
            exact ((((CellsAt.of_own hown).set_ (p := ⟨w.heap.size + 1, 0, none⟩) hne _).set_ (p := ⟨w.heap.size + 1, 1, none⟩) hne _).set_ (p := ⟨w.heap.size + 1, 2, none⟩) hne _).set_ (p := ⟨w.heap.size + 1, 3, none⟩) hne _
          · intro a ha; have := own_new hown a ha; omega
        · repeat (first | with_reducible refine Old.drew' ?_ | with_reducible refine Old.setCell' ?_ (by simp) _ | with_reducible refine Old.alloc' ?_ _ | with_reducible exact hB)
theorem RAsk_any (A : Option Addr) (n cap : Nat) (vs : List Ver) (hn : n ≤ 100000) (hl : n = vs.length) (c s k i m : Int) (d : ByteArray) (w : World) (hV : Vers w A vs) (hm : -9223372036854775808 ≤ m) (hm2 : m ≤ 9223372036854775807) :
    Calls Try.prog 33 #[.slice A n cap, .agg #[.int .i64 c, .int .i64 s, .int .i64 k, .int .i64 i, .int .i64 m, .string d]] w fun e w' =>
      ∃ v, e = .returned v ∧ RepAt w w' v (askR vs k m) ∧ Old w w' := by
  by_cases k4 : k = 4
  · subst k4; exact RAsk_read A n cap vs hn hl c s i m d w hV
  · by_cases k5 : k = 5
    · subst k5; exact RAsk_version A n cap vs hn hl c s i m d w hV hm hm2
    · by_cases k6 : k = 6
      · subst k6; exact RAsk_history A n cap vs hn hl c s i m d w hV
      · exact RAsk_none A n cap vs hn hl c s k i m d w hV k4 k5 k6
end Go.Proofs.Ytffahoocbjfdaaa
