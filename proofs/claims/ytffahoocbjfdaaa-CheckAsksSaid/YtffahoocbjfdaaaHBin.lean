/- slices.BinarySearch over ints that rise. -/
import Derived.Outline
import Derived.Test.YtffahoocbjfdaaaRows
import Derived.Test.YtffahoocbjfdaaaHBs
namespace Go.Proofs.Ytffahoocbjfdaaa
open Go.RowKit
set_option maxHeartbeats 400000 in
theorem nan_any (x : Int) (w : World) : Calls Try.prog 69 #[.int .i64 x] w fun e w' => e = .returned (.bool false) ∧ w = w' := by
  go_enter Try.func69, Try.ntmps69
  go_wp2
  go_ret
  exact ⟨rfl, rfl⟩
set_option maxHeartbeats 400000 in
theorem nan2_any (x : Int) (w : World) : Calls Try.prog 62 #[.int .i64 x] w fun e w' => e = .returned (.bool false) ∧ w = w' := by
  go_enter Try.func62, Try.ntmps62
  go_wp2
  go_ret
  exact ⟨rfl, rfl⟩
set_option maxHeartbeats 400000 in
theorem Less_any (x y : Int) (b : Bool) (hb : decide (x < y) = b) (w : World) : Calls Try.prog 61 #[.int .i64 x, .int .i64 y] w fun e w' => e = .returned (.bool b) ∧ w = w' := by
  go_enter Try.func61, Try.ntmps61
  go_wp2_with (go_at_call 69; refine (nan_any _ _).mono ?_; rintro e w1 ⟨rfl, rfl⟩)
  go_ret
  exact ⟨rfl, rfl⟩
def PlaceOf (ks : List Int) (key : Int) (i : Nat) : Prop := i ≤ ks.length ∧ (∀ j, j < i → ks[j]?.getD 0 < key) ∧ ∀ j, i ≤ j → j < ks.length → key ≤ ks[j]?.getD 0
set_option maxRecDepth 100000 in
set_option maxHeartbeats 1000000 in
theorem Bin_any (A : Option Addr) (n cap i : Nat) (ks : List Int) (key : Int) (f : Bool) (hl : n = ks.length) (hn : n ≤ 100000) (hp : PlaceOf ks key i) (hf : (decide (i < n) && decide (ks[i]?.getD 0 = key)) = f) (w : World) (hK : IntsAt w A ks) :
    Calls Try.prog 55 #[.slice A n cap, .int .i64 key] w fun e w' => e = .returned (.tuple #[.int .i64 i, .bool f]) ∧ w = w' := by
  obtain ⟨hi, hlo, hhi⟩ := hp
  have hin : i ≤ n := by rw [hl]; exact hi
  have HL := hide hl
  have HLO := hide hlo
  have HHI := hide hhi
  have HF := hide hf
  clear hl hi hlo hhi hf
  go_enter Try.func55, Try.ntmps55
  go_wp2
  go_loopw [7, 8] (fun lv hv wr => ∃ lo hi : Nat, lo ≤ i ∧ i ≤ hi ∧ hi ≤ n ∧ lv = .int .i64 lo ∧ hv = .int .i64 hi ∧ w = wr) (fun lv hv _ => (intOf hv - intOf lv).toNat)
  case atStart => exact ⟨0, n, by omega, by omega, by omega, rfl, rfl, rfl⟩
  case round =>
    obtain ⟨lo, hi, h1, h2, h3, rfl, rfl, rfl⟩ := hrel
    by_cases hlt : lo < hi
    · obtain ⟨b, o, rfl, hb, g⟩ := hK.at_ (k := (lo + hi) / 2) (by have := HL.out; omega)
      obtain ⟨x, hx⟩ : ∃ x, ks[(lo + hi) / 2]?.getD 0 = x := ⟨_, rfl⟩
      rw [hx] at g
      by_cases hmi : (lo + hi) / 2 < i
      · have hr : decide (x < key) = true := by rw [← hx]; exact decide_eq_true (HLO.out _ hmi)
        clear hx
        go_wp2_with (go_at_call 61; refine (Less_any _ _ true hr _).mono ?_; rintro e w1 ⟨rfl, rfl⟩)
        go_roundw
        case rel => exact ⟨(lo + hi) / 2 + 1, hi, by omega, by omega, by omega, by go_num, rfl, trivial⟩
        case measure => simp [intOf]; omega
      · have hr : decide (x < key) = false := by rw [← hx]; exact decide_eq_false (by have := HHI.out ((lo + hi) / 2) (by omega) (by have := HL.out; omega); omega)
        clear hx
        go_wp2_with (go_at_call 61; refine (Less_any _ _ false hr _).mono ?_; rintro e w1 ⟨rfl, rfl⟩)
        go_roundw
        case rel => exact ⟨lo, (lo + hi) / 2, by omega, by omega, by omega, rfl, by go_num, trivial⟩
        case measure => simp [intOf]; omega
    · obtain rfl : lo = i := by omega
      obtain rfl : hi = lo := by omega
      by_cases hin' : hi < n
      · obtain ⟨b, o, rfl, hb, g⟩ := hK.at_ (k := hi) (by have := HL.out; omega)
        obtain ⟨x, hx⟩ : ∃ x, ks[hi]?.getD 0 = x := ⟨_, rfl⟩
        rw [hx] at g
        have hff := HF.out
        rw [hx, decide_eq_true hin', Bool.true_and] at hff
        have hfe : (x == key) = f := by rw [← hff]; rfl
        clear hx hff
        cases f
        · go_wp2_with (go_at_call 62; refine (nan2_any _ _).mono ?_; rintro e w1 ⟨rfl, rfl⟩)
          go_ret2
          exact ⟨rfl, rfl⟩
        · go_wp2
          go_ret2
          exact ⟨rfl, rfl⟩
      · have hff := HF.out
        rw [decide_eq_false hin', Bool.false_and] at hff
        subst hff
        go_wp2
        go_ret2
        exact ⟨rfl, rfl⟩
end Go.Proofs.Ytffahoocbjfdaaa
