/- casebookref18.L: Since, Dirty. -/
import Derived.Test.YtmhnlpilbbfgnaaHXlF
import Derived.Test.YtmhnlpilbbfgnaaHDyI
namespace Go.Proofs.Ytmhnlpilbbfgnaa
open Go.RowKit

theorem sinceL_len (qs : List ReqV) (n m : Int) : (sinceL qs n m).length ≤ qs.length := by
  unfold sinceL
  split
  · exact Nat.zero_le _
  · rw [List.length_take, List.length_drop]; omega
theorem since_end {qs : List ReqV} {n m : Int} {j : Nat} (h : j = 0 ∨ (0 ≤ n ∧ n.toNat + j ≤ qs.length ∧ (j : Int) ≤ m)) (hs : n < 0 ∨ (qs.length : Int) ≤ n + j ∨ m ≤ j) : (qs.drop n.toNat).take j = sinceL qs n m ∧ (sinceL qs n m).length = j := by
  unfold sinceL
  by_cases hn : n < 0
  · rw [if_pos hn]
    have : j = 0 := by omega
    subst this
    exact ⟨rfl, rfl⟩
  · rw [if_neg hn]
    have hl : (qs.drop n.toNat).length = qs.length - n.toNat := List.length_drop
    by_cases hjm : m ≤ j
    · have : j = m.toNat := by omega
      subst this
      refine ⟨rfl, ?_⟩
      rw [List.length_take, hl]; omega
    · have hq : (qs.drop n.toNat).length ≤ j := by rw [hl]; omega
      refine ⟨by rw [List.take_of_length_le hq, List.take_of_length_le (by omega)], ?_⟩
      rw [List.length_take, hl]; omega
set_option maxRecDepth 100000 in
set_option maxHeartbeats 2000000 in
theorem XSince_at (x : Nat) (F : Nat → Prop) (l : LnV) (hfew : l.qs.length ≤ 50000) (n m : Int) (k : Nat) (hk : (sinceL l.qs n m).length = k) (w : World) (h : XlAt w x F l) :
    Calls Try.prog 59 #[.pointer (some ⟨x, 0, none⟩), .int .i64 n, .int .i64 m] w fun e w' => ∃ A c, e = .returned (.slice A k c) ∧ ReqsAt w' A (sinceL l.qs n m) ∧ Old w w' := by
  obtain ⟨i0, hi, hz0, hz1, hz2⟩ := info_parts info_ReqH
  obtain ⟨A, ca, hs⟩ := h.see rfl
  have hxl := hs.xl
  have c1 := hs.c1
  have hrow := hs.row
  obtain ⟨N, hN⟩ : ∃ N, l.qs.length = N := ⟨_, rfl⟩
  rw [hN] at c1 hfew
  have HN := hide hN
  have HK := hide hk
  clear h hs hN hk
  go_enter Try.func59, Try.ntmps59
  go_wp2_with fail
  go_loopw [7, 8] (fun ov iv wr => ∃ (j : Nat) (A' : Option Addr) (c' : Nat), iv = .int .i64 (n + j) ∧ ov = .slice A' j c' ∧ wr.ownsRow w.heap.size 23 6 (.slice A' j c') j (((l.qs.drop n.toNat).take j).flatMap ReqV.cells) ∧ Old w wr ∧ (j = 0 ∨ (0 ≤ n ∧ n.toNat + j ≤ N ∧ (j : Int) ≤ m))) (fun _ iv _ => N - (intOf iv).toNat)
  case atStart => exact ⟨0, none, 0, by simp, rfl, World.ownsRow_nil _ _ _ _, Old.refl' w, .inl rfl⟩
  case round =>
    obtain ⟨j, A', c', rfl, rfl, hown, hB, hj⟩ := hrel
    have c1' := (hB.cell (p := ⟨x, 1, none⟩) hxl).trans c1
    by_cases hgo : 0 ≤ n ∧ n + j < N ∧ (j : Int) < m
    · obtain ⟨g1, g2, g3⟩ := hgo
      obtain ⟨s, rfl⟩ : ∃ s : Nat, n = s := ⟨n.toNat, by omega⟩
      have hval : (s : Int) + (j : Int) = ((s + j : Nat) : Int) := by omega
      have hjq : s + j < l.qs.length := by have := HN.out; omega
      obtain ⟨b, o, rfl, hb, hc⟩ := hrow.at5 (k := s + j) hjq
      have hgd : l.qs[s + j]?.getD default = l.qs[s + j] := by rw [List.getElem?_eq_getElem hjq]; rfl
      obtain ⟨q, hq⟩ : ∃ q, l.qs[s + j] = q := ⟨_, rfl⟩
      rw [hgd, hq] at hc
      have x0 : wr.cell? ⟨b, o + (s + j) * 6, none⟩ = some (.int .i64 q.client) := ((hB).cell (p := ⟨b, o + (s + j) * 6, none⟩) hb).trans (hc 0 _ (by omega) rfl)
      have x1 : wr.cell? ⟨b, o + (s + j) * 6 + 1, none⟩ = some (.int .i64 q.seq) := ((hB).cell (p := ⟨b, o + (s + j) * 6 + 1, none⟩) hb).trans (hc 1 _ (by omega) rfl)
      have x2 : wr.cell? ⟨b, o + (s + j) * 6 + 2, none⟩ = some (.int .i64 q.kind) := ((hB).cell (p := ⟨b, o + (s + j) * 6 + 2, none⟩) hb).trans (hc 2 _ (by omega) rfl)
      have x3 : wr.cell? ⟨b, o + (s + j) * 6 + 3, none⟩ = some (.int .i64 q.id) := ((hB).cell (p := ⟨b, o + (s + j) * 6 + 3, none⟩) hb).trans (hc 3 _ (by omega) rfl)
      have x4 : wr.cell? ⟨b, o + (s + j) * 6 + 4, none⟩ = some (.int .i64 q.mat) := ((hB).cell (p := ⟨b, o + (s + j) * 6 + 4, none⟩) hb).trans (hc 4 _ (by omega) rfl)
      have x5 : wr.cell? ⟨b, o + (s + j) * 6 + 5, none⟩ = some (.string q.data) := ((hB).cell (p := ⟨b, o + (s + j) * 6 + 5, none⟩) hb).trans (hc 5 _ (by omega) rfl)
      have hT : ((l.qs.drop (s : Int).toNat).take (j + 1)).flatMap ReqV.cells = ((l.qs.drop (s : Int).toNat).take j).flatMap ReqV.cells ++ q.cells := by
        rw [List.take_succ_eq_append_getElem (by rw [List.length_drop, Int.toNat_natCast]; omega), List.flatMap_append]
        simp [hq]
      have HT := hide hT
      rw [hval]
      have g2' : ((s + j : Nat) : Int) < N := by omega
      have hj5 : j ≤ 50000 := by omega
      have hjN : s + j < N := by omega
      have hs5 : ((s + j : Nat) : Int) ≤ 50000 := by omega
      have HV := hide hval
      clear hc hgd hq hT hval hj g2
      go_wp2_with (at_builtin; refine wpList_app _ rfl (.tmp 29) (.tmp 37) 38 rfl w.heap.size 23 i0 (.agg #[.int .i64 0, .int .i64 0, .int .i64 0, .int .i64 0, .int .i64 0, .string { data := #[] }]) 6 56 Try.underlying38 hi hz0 hz1 hz2 rfl (by decide) _ _ _ rfl (hown.alloc _) (some ⟨wr.heap.size, 0, none⟩) 1 1 [.int .i64 q.client, .int .i64 q.seq, .int .i64 q.kind, .int .i64 q.id, .int .i64 q.mat, .string q.data] rfl rfl (cells_bk (Bk.new wr 23 #[.int .i64 q.client, .int .i64 q.seq, .int .i64 q.kind, .int .i64 q.id, .int .i64 q.mat, .string q.data])) (by simp [Value.oneCell']) (by unfold maxLen; omega) (by omega) (by have := hB.size; simp; omega) (j + 1) rfl _ rfl ?_; intro A2 c2 w2 h2)
      go_roundw
      case rel =>
        refine ⟨j + 1, A2, c2, by go_num, by go_num, ?_, h2.old (hB.alloc' _) (fun k hk => (hown.lt k hk).1), .inr ⟨by omega, by rw [Int.toNat_natCast]; omega, by omega⟩⟩
        rw [HT.out]
        exact h2.own
      case measure => simp [intOf]; omega
    · obtain ⟨he, hl⟩ := since_end (qs := l.qs) (n := n) (m := m) (j := j) (by rw [HN.out]; exact hj) (by rw [HN.out]; omega)
      have hkj : j = k := by rw [← HK.out, hl]
      subst hkj
      have HE := hide he
      have HR := hide hown
      have hj5 : (j : Int) ≤ 50000 := by omega
      clear he hl hj hown
      by_cases g1 : 0 ≤ n
      · by_cases g2 : n + j < N
        · have g3 : ¬ (j : Int) < m := by omega
          clear hgo
          go_wp2_with fail
          go_ret
          have hR2 : ReqsAt wr A' (sinceL l.qs n m) := HE.out ▸ CellsAt.of_own HR.out
          first | exact ⟨A', c', rfl, hR2, hB⟩ | exact ⟨A', ⟨c', rfl⟩, hR2, hB⟩
        · clear hgo
          go_wp2_with fail
          go_ret
          have hR2 : ReqsAt wr A' (sinceL l.qs n m) := HE.out ▸ CellsAt.of_own HR.out
          first | exact ⟨A', c', rfl, hR2, hB⟩ | exact ⟨A', ⟨c', rfl⟩, hR2, hB⟩
      · clear hgo
        go_wp2_with fail
        go_ret
        have hR2 : ReqsAt wr A' (sinceL l.qs n m) := HE.out ▸ CellsAt.of_own HR.out
        first | exact ⟨A', c', rfl, hR2, hB⟩ | exact ⟨A', ⟨c', rfl⟩, hR2, hB⟩

set_option maxRecDepth 100000 in
set_option maxHeartbeats 1000000 in
theorem XDirty_any (x : Nat) (F : Nat → Prop) (l : LnV) (hfew : l.qs.length ≤ 50000) (k : Nat) (hk : (dirtyL l).length = k) (w : World) (h : XlAt w x F l) :
    Calls Try.prog 41 #[.pointer (some ⟨x, 0, none⟩)] w fun e w' => ∃ A c, e = .returned (.slice A k c) ∧ IntsAt w' A (dirtyL l) ∧ Old w w' := by
  obtain ⟨i0, hi, hz0, hz1, hz2⟩ := info_parts info_intC
  have HH := hide h
  have HK := hide hk
  have HF := hide hfew
  clear h hk hfew
  go_enter Try.func41, Try.ntmps41
  go_wp2_with fail
  go_loopw [3, 4] (fun ov iv wr => ∃ (j N : Nat) (A' : Option Addr) (c' : Nat), j ≤ 32 ∧ iv = .int .i64 j ∧ N = (dirtyN l j).length ∧ ov = .slice A' N c' ∧ wr.ownsRow w.heap.size 3 1 (.slice A' N c') N ((dirtyN l j).map (Value.int .i64)) ∧ Old w wr) (fun _ iv _ => 32 - (intOf iv).toNat)
  case atStart => exact ⟨0, 0, none, 0, Nat.zero_le _, rfl, rfl, rfl, World.ownsRow_nil _ _ _ _, Old.refl' w⟩
  case round =>
    obtain ⟨j, N, A', c', hj, rfl, hN, rfl, hown, hB⟩ := hrel
    have hN32 : N ≤ 32 := by rw [hN]; exact Nat.le_trans (dirtyN_length l j) hj
    have HN := hide hN
    clear hN
    by_cases hlt : j < 32
    · have hlt' : (j : Int) ≤ 31 := by omega
      by_cases hc : lastAt l.qs (j : Int) ≤ l.k
      · have cC := hide (XClean_any x F l HF.out j true (by unfold LnV.clean; rw [decide_eq_true (by omega : (0 : Int) ≤ j), decide_eq_true hlt', decide_eq_true hc]; rfl) wr (HH.out.old hB))
        have HS := hide (dirtyN_clean hc)
        clear hc
        go_wp2_with (go_at_call 39; refine cC.out.mono ?_; rintro e w1 ⟨rfl, b1⟩)
        have HO := hide (own_old hown b1)
        go_roundw
        case rel => exact ⟨j + 1, N, A', c', by omega, by go_num, by rw [HS.out]; exact HN.out, rfl, by rw [HS.out]; exact HO.out, hB.trans' b1⟩
        case measure => simp [intOf]; omega
      · have cC := hide (XClean_any x F l HF.out j false (by unfold LnV.clean; rw [decide_eq_false hc, Bool.and_false]) wr (HH.out.old hB))
        have HS := hide (dirtyN_dirty hc)
        clear hc
        go_wp2_with (first
          | (go_at_call 39; refine cC.out.mono ?_; rintro e w1 ⟨rfl, b1⟩; have hown1 := own_old hown b1; have hB1 := hB.trans' b1)
          | (at_builtin; refine wpList_app _ rfl (.tmp 13) (.tmp 15) 30 rfl w.heap.size 3 i0 (.int .i64 0) 1 8 Try.underlying30 hi hz0 hz1 hz2 rfl (by decide) _ _ _ rfl (hown1.alloc _) (some ⟨w1.heap.size, 0, none⟩) 1 1 [.int .i64 j] rfl rfl (cells_bk (Bk.new w1 3 #[.int .i64 j])) (by simp [Value.oneCell']) (by unfold maxLen; omega) (by omega) (by have := hB1.size; simp; omega) (N + 1) rfl _ rfl ?_; intro A2 c2 w2 h2))
        go_roundw
        case rel => exact ⟨j + 1, N + 1, A2, c2, by omega, by go_num, by rw [HS.out, List.length_append, ← HN.out]; rfl, rfl, by rw [HS.out, List.map_append]; exact h2.own, h2.old (hB1.alloc' _) (fun k hk => (hown1.lt k hk).1)⟩
        case measure => simp [intOf]; omega
    · obtain rfl : j = 32 := by omega
      have hNk : N = k := by rw [HN.out, ← HK.out]; rfl
      subst hNk
      have HR := hide hown
      clear hown
      go_wp2_with fail
      go_ret
      have hR2 : IntsAt wr A' (dirtyL l) := CellsAt.of_own HR.out
      first | exact ⟨A', c', rfl, hR2, hB⟩ | exact ⟨A', ⟨c', rfl⟩, hR2, hB⟩
end Go.Proofs.Ytmhnlpilbbfgnaa
