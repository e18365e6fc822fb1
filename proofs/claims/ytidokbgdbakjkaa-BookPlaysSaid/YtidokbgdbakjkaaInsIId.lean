/- slices.Delete of one element: Int. -/
import Derived.Test.YtidokbgdbakjkaaInsII
namespace Go.Proofs.Ytidokbgdbakjkaa
open Go.RowKit

set_option maxRecDepth 100000 in
set_option maxHeartbeats 2000000 in
theorem DeleteII (base g n cap i : Nat) (xs : List Value) (w : World) (hown : w.ownsRow base 3 1 (.slice (some ⟨g, 0, none⟩) n cap) n xs) (hi : i < n) (hn : n ≤ 100000) (h1 : ∀ u ∈ xs, u.oneCell' = true) :
    Calls Try.prog 34 #[.slice (some ⟨g, 0, none⟩) n cap, .int .i64 i, .int .i64 ((i : Int) + 1)] w fun e w' =>
      e = .returned (.slice (some ⟨g, 0, none⟩) (n - 1) cap) ∧ w'.ownsRow base 3 1 (.slice (some ⟨g, 0, none⟩) (n - 1) cap) (n - 1) (xs.take i ++ xs.drop (i + 1)) ∧ Fr (fun k => k = g) w w' := by
  obtain ⟨i0, hi0, hz0, hz1, hz2⟩ := info_parts infoII
  obtain ⟨hnc, hcm⟩ := own_size hown
  unfold maxLen at hcm
  have hxl : xs.length = n := by have := hown.1; omega
  have hne : ((i : Int) == (i : Int) + 1) = false := by simp; omega
  have hlen : (xs.drop (i + 1)).length = (n - (i + 1)) * 1 := by rw [List.length_drop, hxl, Nat.mul_one]
  have h1' : ∀ u ∈ xs.drop (i + 1), u.oneCell' = true := fun u hu => h1 u (List.mem_of_mem_drop hu)
  have hcut := own_cut hown (k := i) (by omega)
  rw [Nat.mul_one] at hcut
  have HC := hide hcut
  have HR := hide (own_rest hown (i + 1))
  have HL := hide hlen
  have HX := hide hxl
  clear hlen hcut hxl
  have q0 : (0 : Int) ≤ (i : Int) := by omega
  have q1 : (0 : Int) ≤ (i : Int) + 1 := by omega
  have q2 : (i : Int) + 1 ≤ (n : Int) := by omega
  have q3 : (i : Int) ≤ (n : Int) := by omega
  have q4 : (i : Int) ≤ (cap : Int) := by omega
  have q5 : (i : Int) + 1 ≤ (cap : Int) := by omega
  by_cases hcap : cap = i + 1
  · obtain rfl : n = i + 1 := by omega
    subst hcap
    have hd : xs.drop (i + 1) = [] := List.drop_eq_nil_of_le (by rw [HX.out]; omega)
    rw [hd, List.append_nil]
    have q6 : (i : Int) ≤ (i : Int) + 1 := by omega
    have q7 : (i : Int) + 1 ≤ (i : Int) + 1 := by omega
    clear HR HL h1' hd q2 q3 q4 q5
    go_enter Try.func34, Try.ntmps34
    go_wp2_with fail
    go_region_law ((refine step_fits (g := g) (n := i) (cap := i + 1) rfl (.tmp 22) (.tmp 25) 22 (by rfl) i0 Try.underlying22 hi0 hz1 (by omega) (by simp [Act.eval, Act.put]) (by exact HC.out) (some ⟨g, 0, none⟩) 0 0 [] (by simp [Act.eval, Act.put]) (by rfl) (CellsAt.nil _ _) (by simp) (by omega) i (by omega) _ (List.append_nil _) ?_; intro w1 hown1 hf1))
    go_wp2_with ((with_reducible refine wpList_clear_at (.tmp 31) 22 _ Try.underlying22 zeroII zlII zoII (by decide) hown1 (some ⟨g, i, none⟩) 1 1 ?_ ?_ ?_ ?_); (· rfl); (· exact fun _ => by rw [Nat.mul_one]); (· omega); intro w2 hown2 hf2)
    go_ret
    exact ⟨rfl, hown2, Fr.trans (Fr.trans (Fr.refl _ w).drew hf1) hf2⟩
  · go_enter Try.func34, Try.ntmps34
    go_wp2_with fail
    go_region_law ((refine step_fits (g := g) (n := i) (cap := cap) rfl (.tmp 22) (.tmp 25) 22 (by rfl) i0 Try.underlying22 hi0 hz1 (by omega) (by simp [Act.eval, Act.put]) (by exact HC.out) (some ⟨g, i + 1, none⟩) (n - (i + 1)) (cap - (i + 1)) _ (by simp [Act.eval, Act.put]) HL.out (by exact HR.out) h1' (by omega) (n - 1) (by omega) _ rfl ?_; intro w1 hown1 hf1))
    go_wp2_with ((with_reducible refine wpList_clear_at (.tmp 31) 22 _ Try.underlying22 zeroII zlII zoII (by decide) hown1 (some ⟨g, n - 1, none⟩) (n - (n - 1)) (cap - (n - 1)) ?_ ?_ ?_ ?_); (· rfl); (· exact fun _ => by rw [Nat.mul_one]); (· omega); intro w2 hown2 hf2)
    go_ret
    exact ⟨rfl, hown2, Fr.trans (Fr.trans (Fr.refl _ w).drew hf1) hf2⟩
end Go.Proofs.Ytidokbgdbakjkaa
