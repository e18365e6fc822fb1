/- book: Table.Up, Table.Down: the iterators. -/
import Derived.RangeFuncNested
import Derived.RangeFuncBound
import Derived.RangeFuncCalls
import Derived.RangeFuncLeaves
import Derived.Shelf.Abstract
import Derived.Shelf.RegionOpen
import Derived.OwnWalkIn
import Derived.TacticsInMore
import Derived.LoopNIn
import Derived.LoopIn
import Derived.Deep.QuietTactic
import Derived.Test.YtidokbgdbakjkaaTabB
namespace Go.Proofs.Ytidokbgdbakjkaa
open Go.RowKit Go.Shelf

attribute [local go_sem] Oper.semAt_some

theorem abides_drewN {β : Type} {B : Nat} {J : β → World → Prop} (h : AbidesFrom B J) {s : β} {W : World} (hs : J s W) (n : Nat) : J s (W.drewN n) :=
  h s W (W.drewN n) none hs ⟨rfl, rfl, rfl, Nat.le_refl _, fun _ _ _ => rfl⟩ (fun r e => by cases e)

set_option maxRecDepth 100000 in
set_option maxHeartbeats 1000000 in
theorem up1_in (m : Nat) (hm : 1 ≤ m) (l Bt Bf n₀ g o n ck i : Nat) (A : Option Addr) (ks : List Int) (key : Int) (f : Bool) (hp : PlaceOf ks key i) (hf : (decide (i < n) && decide (ks[i]?.getD 0 = key)) = f) (hn : n ≤ 100000) (hl : n = ks.length) (J Jx : List Int → World → Prop)
    (hY : ∀ pre x W, J pre W → pre.length < n - i → YieldAt Fence.wide (m - 1) Try.prog l #[.int .i64 x] W fun e W' =>
      (e = .returned (.bool true) ∧ J (pre ++ [x]) W' ∧ Below n₀ W W') ∨ (e = .returned (.bool false) ∧ Jx (pre ++ [x]) W'))
    (W : World) (hBt : W.cell? ⟨Bt, 0, none⟩ = some (.pointer (some ⟨g, o, none⟩))) (hBf : W.cell? ⟨Bf, 0, none⟩ = some (.int .i64 key)) (hk0 : W.cell? ⟨g, o, none⟩ = some (.slice A n ck)) (hK : IntsAt W A ks) (ht : Bt < n₀) (hg : g < n₀) (hoff : 0 < n → ∀ a, A = some a → a.block < n₀) (hJ : AbidesFrom W.heap.size J) (h0 : J [] W) :
    CallsIn Fence.wide m Try.prog 35 #[.func (.yield l) #[] #[], .pointer (some ⟨Bt, 0, none⟩), .pointer (some ⟨Bf, 0, none⟩)] W fun e W' => (∃ v, e = .returned v) ∧
      ((∃ ys, ys = ks.drop i ∧ J ys W') ∨ (∃ pre, (∃ k, pre = (ks.drop i).take k) ∧ Jx pre W')) := by
  have cB := hide (fun (d : Nat) => (Bin_any A n ck i ks key f hl hn hp hf (W.drewN d) (CellsAt.drewN hK d)).mono (R' := fun e w' => e = .returned (.tuple #[.int .i64 i, .bool f]) ∧ w' = W.drewN d) fun _ _ ⟨he, hw⟩ => ⟨he, hw.symm⟩)
  have hin : i ≤ n := by rw [hl]; exact hp.1
  have HL := hide hl
  clear hl hp hf
  refine callsIn_of_wp Try.func35 rfl trivial ?_ rfl
  simp only [Try.ntmps35, List.size_toArray, List.length_cons, List.length_nil, Nat.reduceAdd, Nat.reduceSub, Array.replicate_succ, Array.replicate_zero, List.push_toArray, List.append_toArray, List.nil_append, List.cons_append]
  gi_wp2
  refine wpIn_wide.2 ?_
  go_quiet ((go_at_call 32; exact Calls.quiet_of_same (cB.out _)))
  gi_wp2
  gi_loopw [4] (fun iv wr => ∃ j : Nat, j ≤ n ∧ i ≤ j ∧ iv = .int .i64 j ∧ J ((ks.drop i).take (j - i)) wr ∧ Below n₀ W wr) (fun iv _ => n - (intOf iv).toNat)
  case atStart => exact ⟨i, hin, Nat.le_refl _, rfl, by simpa using abides_drewN hJ h0 nq, ⟨rfl, rfl, rfl, Nat.le_refl _, fun _ _ => rfl⟩⟩
  case round =>
    obtain ⟨j, hj, hij, rfl, hJs, hnx⟩ := hrel
    have b1 := (hnx.cell (p := ⟨Bt, 0, none⟩) ht).trans hBt
    have b2 := (hnx.cell (p := ⟨g, o, none⟩) hg).trans hk0
    by_cases hlt : j < n
    · obtain ⟨b, q, rfl, hb, g1⟩ := hK.at_ (k := j) (by have := HL.out; omega)
      have hb' := hoff (by omega) _ rfl
      obtain ⟨x, hx⟩ : ∃ x, x = ks[j]?.getD 0 := ⟨_, rfl⟩
      rw [← hx] at g1
      have hsn : (ks.drop i).take (j + 1 - i) = (ks.drop i).take (j - i) ++ [x] := by
        rw [show j + 1 - i = (j - i) + 1 from by omega, List.take_succ_eq_append_getElem (by rw [List.length_drop, ← HL.out]; omega), List.getElem_drop]
        have : i + (j - i) = j := by omega
        simp only [this]
        rw [hx, List.getElem?_eq_getElem (by rw [← HL.out]; exact hlt)]
        rfl
      have HS := hide hsn
      clear hx hsn
      have g1' := (hnx.cell (p := ⟨b, q + j, none⟩) hb').trans g1
      obtain ⟨fn, tmps, assign, body, hy, hR⟩ := hY _ x wr hJs (by rw [List.length_take, List.length_drop, ← HL.out]; omega)
      clear g1
      gi_wp2
      refine hR.mono ?_
      rintro e W3 (⟨rfl, hJ3, hk3⟩ | ⟨rfl, hJx3⟩)
      · gi_wp2
        go_roundw
        case rel =>
          refine ⟨j + 1, by omega, by omega, by go_num, ?_, hnx.trans hk3⟩
          rw [HS.out]; exact hJ3
        case measure => simp [intOf]; omega
      · gi_wp2
        go_end0
        refine ⟨⟨_, rfl⟩, .inr ⟨_, ⟨j + 1 - i, rfl⟩, ?_⟩⟩
        rw [HS.out]; exact hJx3
    · obtain rfl : j = n := by omega
      gi_wp2
      refine ⟨fun _ h => (by cases h), ?_⟩
      gi_wp2
      go_end0
      refine ⟨⟨_, rfl⟩, .inl ⟨_, rfl, ?_⟩⟩
      rw [List.take_of_length_le (by rw [List.length_drop, ← HL.out]; exact Nat.le_refl _)] at hJs
      exact hJs

/-- how many are at most the key -/
def topOf (i : Nat) (f : Bool) : Nat := if f then i + 1 else i

set_option maxRecDepth 100000 in
set_option maxHeartbeats 1000000 in
theorem down1_in (m : Nat) (hm : 1 ≤ m) (l Bt Bf n₀ g o n ck i : Nat) (A : Option Addr) (ks : List Int) (key : Int) (f : Bool) (hp : PlaceOf ks key i) (hf : (decide (i < n) && decide (ks[i]?.getD 0 = key)) = f) (hn : n ≤ 100000) (hl : n = ks.length) (J Jx : List Int → World → Prop)
    (hY : ∀ pre x W, J pre W → pre.length < topOf i f → YieldAt Fence.wide (m - 1) Try.prog l #[.int .i64 x] W fun e W' =>
      (e = .returned (.bool true) ∧ J (pre ++ [x]) W' ∧ Below n₀ W W') ∨ (e = .returned (.bool false) ∧ Jx (pre ++ [x]) W'))
    (W : World) (hBt : W.cell? ⟨Bt, 0, none⟩ = some (.pointer (some ⟨g, o, none⟩))) (hBf : W.cell? ⟨Bf, 0, none⟩ = some (.int .i64 key)) (hk0 : W.cell? ⟨g, o, none⟩ = some (.slice A n ck)) (hK : IntsAt W A ks) (ht : Bt < n₀) (hg : g < n₀) (hoff : 0 < n → ∀ a, A = some a → a.block < n₀) (hJ : AbidesFrom W.heap.size J) (h0 : J [] W) :
    CallsIn Fence.wide m Try.prog 36 #[.func (.yield l) #[] #[], .pointer (some ⟨Bt, 0, none⟩), .pointer (some ⟨Bf, 0, none⟩)] W fun e W' => (∃ v, e = .returned v) ∧
      ((∃ ys, ys = (ks.take (topOf i f)).reverse ∧ J ys W') ∨ (∃ pre, (∃ k, pre = (ks.take (topOf i f)).reverse.take k) ∧ Jx pre W')) := by
  have cB := hide (fun (d : Nat) => (Bin_any A n ck i ks key f hl hn hp hf (W.drewN d) (CellsAt.drewN hK d)).mono (R' := fun e w' => e = .returned (.tuple #[.int .i64 i, .bool f]) ∧ w' = W.drewN d) fun _ _ ⟨he, hw⟩ => ⟨he, hw.symm⟩)
  have hin : i ≤ n := by rw [hl]; exact hp.1
  have htop : topOf i f ≤ n := by
    unfold topOf
    cases f
    · exact hin
    · simp at hf
      simp
      omega
  obtain ⟨t, hT⟩ : ∃ t, topOf i f = t := ⟨_, rfl⟩
  rw [hT] at htop hY ⊢
  have HT := hide hT
  have HL := hide hl
  clear hl hp hf
  have hst : f = false → i = t := by rintro rfl; rw [← hT]; simp [topOf]
  have hst' : f = true → i + 1 = t := by rintro rfl; rw [← hT]; simp [topOf]
  clear hT
  refine callsIn_of_wp Try.func36 rfl trivial ?_ rfl
  simp only [Try.ntmps36, List.size_toArray, List.length_cons, List.length_nil, Nat.reduceAdd, Nat.reduceSub, Array.replicate_succ, Array.replicate_zero, List.push_toArray, List.append_toArray, List.nil_append, List.cons_append]
  cases f
  all_goals
    have HST := hide (by first | exact hst rfl | exact hst' rfl)
    clear hst hst'
    gi_wp2
    refine wpIn_wide.2 ?_
    go_quiet ((go_at_call 32; exact Calls.quiet_of_same (cB.out _)))
    gi_wp2
    gi_loopw [4] (fun iv wr => ∃ k : Nat, k ≤ t ∧ iv = .int .i64 ((t : Int) - 1 - k) ∧ J ((ks.take t).reverse.take k) wr ∧ Below n₀ W wr) (fun iv _ => (intOf iv + 1).toNat)
    case atStart => exact ⟨0, by omega, by have := HST.out; simp; omega, by simpa using abides_drewN hJ h0 nq, ⟨rfl, rfl, rfl, Nat.le_refl _, fun _ _ => rfl⟩⟩
    case round =>
      obtain ⟨k, hk, rfl, hJs, hnx⟩ := hrel
      have b1 := (hnx.cell (p := ⟨Bt, 0, none⟩) ht).trans hBt
      have b2 := (hnx.cell (p := ⟨g, o, none⟩) hg).trans hk0
      by_cases hlt : k < t
      · obtain ⟨b, q, rfl, hb, g1⟩ := hK.at_ (k := t - 1 - k) (by have := HL.out; omega)
        have hb' := hoff (by omega) _ rfl
        obtain ⟨x, hx⟩ : ∃ x, x = ks[t - 1 - k]?.getD 0 := ⟨_, rfl⟩
        rw [← hx] at g1
        have hsn : (ks.take t).reverse.take (k + 1) = (ks.take t).reverse.take k ++ [x] := by
          have hlen : (ks.take t).length = t := by rw [List.length_take, ← HL.out]; omega
          rw [List.take_succ_eq_append_getElem (by rw [List.length_reverse, hlen]; exact hlt), List.getElem_reverse, List.getElem_take]
          simp only [hlen]
          rw [hx, List.getElem?_eq_getElem (by rw [← HL.out]; omega)]
          rfl
        have HS := hide hsn
        clear hx hsn
        have g1' := (hnx.cell (p := ⟨b, q + (t - 1 - k), none⟩) hb').trans g1
        have hi : ((t : Int) - 1 - k).toNat = t - 1 - k := by omega
        have hi0 : (0 : Int) ≤ (t : Int) - 1 - k := by omega
        have hi1 : (t : Int) - 1 - k < n := by omega
        obtain ⟨fn, tmps, assign, body, hy, hR⟩ := hY _ x wr hJs (by rw [List.length_take, List.length_reverse, List.length_take, ← HL.out]; omega)
        clear g1
        gi_wp2
        refine hR.mono ?_
        rintro e W3 (⟨rfl, hJ3, hk3⟩ | ⟨rfl, hJx3⟩)
        · gi_wp2
          go_roundw
          case rel =>
            refine ⟨k + 1, by omega, by go_num, ?_, hnx.trans hk3⟩
            rw [HS.out]; exact hJ3
          case measure => simp [intOf]; omega
        · gi_wp2
          go_end0
          refine ⟨⟨_, rfl⟩, .inr ⟨_, ⟨k + 1, rfl⟩, ?_⟩⟩
          rw [HS.out]; exact hJx3
      · obtain rfl : k = t := by omega
        gi_wp2
        refine ⟨fun _ h => (by cases h), ?_⟩
        gi_wp2
        go_end0
        refine ⟨⟨_, rfl⟩, .inl ⟨_, rfl, ?_⟩⟩
        rw [List.take_of_length_le (by rw [List.length_reverse, List.length_take]; omega)] at hJs
        exact hJs
end Go.Proofs.Ytidokbgdbakjkaa
