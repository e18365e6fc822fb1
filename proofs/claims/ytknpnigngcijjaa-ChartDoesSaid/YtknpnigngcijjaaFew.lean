/- casebooklaw4.few, pick. -/
import Derived.Test.YtknpnigngcijjaaTold
import Derived.Test.YtknpnigngcijjaaOpen
namespace Go.Proofs.Ytknpnigngcijjaa
open Go.RowKit

def fewB (vs : List Ver) (d : ByteArray) : Bool := decide (vs.length ≤ 60) && decide (d.size ≤ 100) && vs.all fun v => decide (v.2.size ≤ 100)

set_option maxHeartbeats 1000000 in
theorem few_any (A : Option Addr) (n cap : Nat) (vs : List Ver) (hl : n = vs.length) (hn : n ≤ 9223372036854775807) (c s k i m : Int) (d : ByteArray) (w : World) (hV : Vers w A vs) :
    Calls Try.prog 10 #[.slice A n cap, .agg #[.int .i64 c, .int .i64 s, .int .i64 k, .int .i64 i, .int .i64 m, .string d]] w fun e w' => e = .returned (.bool (fewB vs d)) ∧ Old w w' := by
  have HL := hide hl
  clear hl
  by_cases h1 : 60 < n
  · go_enter Try.func10, Try.ntmps10
    go_wp2
    go_ret
    exact ⟨retb (by have := HL.out; simp [fewB]; omega), (Old.refl' w).alloc' _⟩
  · by_cases h2 : 100 < d.size
    · go_enter Try.func10, Try.ntmps10
      go_wp2
      go_ret
      exact ⟨retb (by have := HL.out; simp [fewB]; omega), (Old.refl' w).alloc' _⟩
    · clear hn
      have hd1 : decide ((60 : Int) < (n : Int)) = false := by simp; omega
      have hd2 : decide ((100 : Int) < (d.size : Int)) = false := by simp; omega
      go_enter Try.func10, Try.ntmps10
      go_wp2
      go_loopw [5] (fun i wr => ∃ k : Nat, k ≤ n ∧ i = .int .i64 k ∧ Old w wr ∧ ∀ j, j < k → (vs[j]?.getD default).2.size ≤ 100) (fun i _ => n - (intOf i).toNat)
      case atStart => exact ⟨0, by omega, rfl, (Old.refl' w).alloc' _, fun j hj => by omega⟩
      case round =>
        obtain ⟨j, hj, rfl, hbel, hall⟩ := hrel
        have HA := hide hall
        clear hall
        by_cases hlt : j < n
        · obtain ⟨b, o, rfl, hb, -, g2⟩ := hV.at_ (k := j) (by have := HL.out; omega)
          obtain ⟨y, hy⟩ : ∃ y, y = (vs[j]?.getD default).2 := ⟨_, rfl⟩
          rw [← hy] at g2
          have HY := hide hy
          clear hy
          have g3 := (hbel.cell (p := ⟨b, o + j * 2 + 1, none⟩) hb).trans g2
          clear g2
          by_cases hy : 100 < y.size
          · go_wp2
            go_ret
            refine ⟨retb ?_, hbel⟩
            have hlt' : j < vs.length := by have := HL.out; omega
            have e1 : vs[j]?.getD default = vs[j] := by rw [List.getElem?_eq_getElem hlt']; rfl
            have hy2 := HY.out
            rw [e1] at hy2
            symm
            unfold fewB
            rw [Bool.and_eq_false_iff]
            refine .inr ?_
            rw [List.all_eq_false]
            exact ⟨vs[j], List.getElem_mem hlt', by rw [← hy2]; simp; omega⟩
          · have hy' : decide ((100 : Int) < (y.size : Int)) = false := by simp; omega
            go_wp2
            go_roundw
            case rel =>
              refine ⟨j + 1, by omega, by go_num, hbel, fun i hi => ?_⟩
              by_cases he : i = j
              · subst he; rw [← HY.out]; omega
              · exact HA.out i (by omega)
            case measure => simp [intOf]; omega
        · go_wp2
          go_ret
          refine ⟨retb ?_, hbel⟩
          symm
          unfold fewB
          have hL := HL.out
          rw [Bool.and_eq_true, Bool.and_eq_true]
          refine ⟨⟨by simp; omega, by simp; omega⟩, ?_⟩
          rw [List.all_eq_true]
          intro v hv
          obtain ⟨i, hi, rfl⟩ := List.getElem_of_mem hv
          have := HA.out i (by omega)
          rw [List.getElem?_eq_getElem hi] at this
          simpa using this

set_option maxHeartbeats 400000 in
theorem pick_any (k : Int) (w : World) : Calls Try.prog 18 #[.int .i64 k] w fun e w' => e = .returned (.string (if k = 3 then ByteArray.empty else { data := #[100] })) ∧ w = w' := by
  by_cases h : k = 3
  · subst h
    go_enter Try.func18, Try.ntmps18
    go_wp2
    go_ret
    exact ⟨rfl, rfl⟩
  · have h' : (k == 3) = false := by simpa using h
    go_enter Try.func18, Try.ntmps18
    go_wp2
    go_ret
    exact ⟨rfl, rfl⟩
theorem few_len {vs : List Ver} {d : ByteArray} (h : fewB vs d = true) : vs.length ≤ 60 := by
  simp [fewB] at h; omega

theorem umod (x K : Int) (h : 0 < K) (hK : K ≤ 4611686018427387904) : ∃ y, wrap64 ((IntKind.u64.wrap x).tmod K) = y ∧ 0 ≤ y ∧ y < K := by
  refine ⟨_, rfl, ?_⟩
  have h0 : 0 ≤ IntKind.u64.wrap x := by rw [IntKind.wrap_u64]; omega
  rw [Int.tmod_eq_emod_of_nonneg h0]
  have h1 := Int.emod_nonneg (IntKind.u64.wrap x) (show K ≠ 0 by omega)
  have h2 := Int.emod_lt_of_pos (IntKind.u64.wrap x) h
  rw [IntWalk.wrap64_in _ ⟨by omega, by omega⟩]
  exact ⟨h1, h2⟩

end Go.Proofs.Ytknpnigngcijjaa
