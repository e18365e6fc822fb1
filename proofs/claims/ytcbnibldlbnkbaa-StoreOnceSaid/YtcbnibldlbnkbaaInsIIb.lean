/- slices.Insert where it must grow: Int. -/
import Derived.Outline
import Derived.Test.YtcbnibldlbnkbaaInsII
namespace Go.Proofs.Ytcbnibldlbnkbaa
open Go.RowKit

set_option maxRecDepth 100000 in
set_option maxHeartbeats 2000000 in
theorem InsGrowII (base g n i gb : Nat) (xs : List Value) (x : Value) (w : World) (hown : w.ownsRow base 3 1 (.slice (some ⟨g, 0, none⟩) n n) n xs) (hi : i < n) (hn : n ≤ 99999) (h1 : ∀ u ∈ xs, u.oneCell' = true) (hx : x.oneCell' = true) (hb : Bk w gb 3 #[x]) (hbase : base ≤ w.heap.size) :
    Calls Try.prog 53 #[.slice (some ⟨g, 0, none⟩) n n, .int .i64 i, .slice (some ⟨gb, 0, none⟩) 1 1] w fun e w' =>
      ∃ c', e = .returned (.slice (some ⟨w.heap.size, 0, none⟩) (n + 1) c') ∧ w'.ownsRow base 3 1 (.slice (some ⟨w.heap.size, 0, none⟩) (n + 1) c') (n + 1) (xs.take i ++ ([x] ++ xs.drop i)) ∧ Old w w' := by
  obtain ⟨i0, hi0, hz0, hz1, hz2⟩ := info_parts infoII
  have hcm := (own_size hown).2
  unfold maxLen at hcm
  have hxl : xs.length = n := by have := hown.1; omega
  have hcut := own_cut hown (k := i) (by omega)
  rw [Nat.mul_one] at hcut
  obtain ⟨c', w1, hz, hown1, hb1⟩ := run_zeros (P := Try.prog) 30 3 30 i0 (.int .i64 0) 8 .i64 .i64 Try.underlying30 Try.underlying3 hi0 hz0 hz1 hz2 rfl hcut (n + 1 - i) (by omega) (by omega) (by unfold maxLen; omega) (by omega) hbase
  rw [show i + (n + 1 - i) = n + 1 from by omega] at hz hown1
  rw [show (((n + 1 - i : Nat)) : Int) = (n : Int) + 1 - (i : Int) from by omega] at hz
  obtain ⟨hnc', hcm'⟩ := own_size hown1
  unfold maxLen at hcm'
  have hcs : CellsAt w1 (some ⟨gb, 0, none⟩) [x] := CellsAt.old (cells_bk hb) hb1
  have hrest : CellsAt w1 (some ⟨g, i, none⟩) (xs.drop i) := CellsAt.old (own_rest hown i) hb1
  have y1 : over (xs.take i ++ List.replicate (n + 1 - i) (.int .i64 0 : Value)) i [x] = xs.take i ++ ([x] ++ List.replicate (n - i) (.int .i64 0 : Value)) := by
    unfold over
    have e : (xs.take i).length = i := by rw [List.length_take]; omega
    rw [List.take_left' e, List.drop_append, List.drop_of_length_le (by simp; omega), e]
    simp
    omega
  have y2 : over (xs.take i ++ ([x] ++ List.replicate (n - i) (.int .i64 0 : Value))) (i + 1) (xs.drop i) = xs.take i ++ ([x] ++ xs.drop i) := by
    unfold over
    have e : (xs.take i ++ [x]).length = i + 1 := by rw [List.length_append, List.length_take]; simp; omega
    have a : xs.take i ++ ([x] ++ List.replicate (n - i) (.int .i64 0 : Value)) = (xs.take i ++ [x]) ++ List.replicate (n - i) (.int .i64 0 : Value) := (List.append_assoc _ _ _).symm
    have hd : (xs.take i ++ [x] ++ List.replicate (n - i) (.int .i64 0 : Value)).drop (i + 1 + (xs.drop i).length) = [] := List.drop_of_length_le (by simp; omega)
    rw [a, List.take_left' e, hd]
    simp
  have hg1 : g < w.heap.size := own_lt hown
  have hd1 : ∀ u ∈ xs.drop i, u.oneCell' = true := fun u hu => h1 u (List.mem_of_mem_drop hu)
  have hdl : (xs.drop i).length = n - i := by rw [List.length_drop, hxl]
  have hx1 : ∀ u ∈ [x], u.oneCell' = true := by simpa using hx
  have HZ := hide hz
  have HDL := hide hdl
  have HY1 := hide y1
  have HY2 := hide y2
  have HX1 := hide hx1
  have HD1 := hide hd1
  have q0 : (0 : Int) ≤ (i : Int) := by omega
  have q1 : (i : Int) ≤ (n : Int) := by omega
  have q3 : ((i : Int) == (n : Int)) = false := by rw [beq_eq_false_iff_ne]; omega
  have q4 : (i : Int) ≤ (c' : Int) := by omega
  have q5 : (i : Int) + 1 ≤ (c' : Int) := by omega
  have q6 : (0 : Int) ≤ (i : Int) + 1 := by omega
  have q7 : (i : Int) + 1 ≤ (n : Int) + 1 := by omega
  have q8 : (i : Int) ≤ (n : Int) + 1 := by omega
  have q9 : ¬ c' = i := by omega
  have q10 : ¬ c' = i + 1 := by omega
  have q11 : ¬ n = i := by omega
  have q12 : IntKind.i64.wrap ((i : Int) + 1) = (i : Int) + 1 := IntWalk.i64_in _ (by omega)
  clear hz hdl y1 y2 hx1 hd1 h1 hxl hcut
  go_enter Try.func53, Try.ntmps53
  go_wp2_with
    (first
      | (at_builtin; refine Lib.wpList_append_run _ rfl (.tmp 34) (.tmp 39) 30 3 rfl _ _ rfl rfl _ _ HZ.out ?_)
      | ((with_reducible refine wpList_copy_at (.tmp 43) (.tmp 44) 30 Try.underlying30 szII (some ⟨w.heap.size, i, none⟩) (some ⟨gb, 0, none⟩) (n + 1 - i) (c' - i) 1 1 hown1 i [x] hcs HX1.out _ ?_ ?_ ?_ ?_ ?_ HY1.out ?_); (· rfl); (· rfl); (· show (1 : Nat) = min 1 (n + 1 - i); omega); (· exact fun _ => rfl); (· show i + 1 ≤ n + 1; omega); intro w2 hown2 hf2))
  have rest2 : CellsAt w2 (some ⟨g, i, none⟩) (xs.drop i) := hrest.fr hf2 (fun _ a e => by cases e; simp; omega)
  go_region_law ((refine step_copy_own rfl (.tmp 50) (.tmp 53) 30 (by rfl) Try.underlying30 szII (some ⟨w.heap.size, i + 1, none⟩) (some ⟨g, i, none⟩) (n - i) (c' - (i + 1)) (n - i) (n - i) (by simp [Act.eval, Act.put]) (by simp [Act.eval, Act.put]) (by exact hown2) (i + 1) (xs.drop i) (by rw [HDL.out]; show n - i = min (n - i) (n - i); omega) (fun _ => rfl) (by exact rest2) (by rw [HDL.out]; omega) HD1.out _ HY2.out ?_; intro w3 hown3 hf3))
  go_wp2
  go_ret
  exact ⟨c', rfl, hown3, Old.fr_new (Old.drew' (Old.fr_new hb1 hf2 (fun k e => by subst e; exact Nat.le_refl _))) hf3 (fun k e => by subst e; exact Nat.le_refl _)⟩
end Go.Proofs.Ytcbnibldlbnkbaa
