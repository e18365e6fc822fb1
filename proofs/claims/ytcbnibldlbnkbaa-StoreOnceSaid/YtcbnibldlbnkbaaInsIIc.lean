/- slices.Insert where there is room: Int. -/
import Derived.Outline
import Derived.Test.YtcbnibldlbnkbaaInsII
namespace Go.Proofs.Ytcbnibldlbnkbaa
open Go.RowKit

set_option maxRecDepth 100000 in
set_option maxHeartbeats 2000000 in
theorem InsRoomII (base g n cap i gb : Nat) (xs : List Value) (x : Value) (w : World) (hown : w.ownsRow base 3 1 (.slice (some ⟨g, 0, none⟩) n cap) n xs) (hi : i < n) (hc : n + 1 ≤ cap) (hn : n ≤ 99999) (h1 : ∀ u ∈ xs, u.oneCell' = true) (hx : x.oneCell' = true) (hb : Bk w gb 3 #[x]) (hne : gb ≠ g) :
    Calls Try.prog 53 #[.slice (some ⟨g, 0, none⟩) n cap, .int .i64 i, .slice (some ⟨gb, 0, none⟩) 1 1] w fun e w' =>
      e = .returned (.slice (some ⟨g, 0, none⟩) (n + 1) cap) ∧ w'.ownsRow base 3 1 (.slice (some ⟨g, 0, none⟩) (n + 1) cap) (n + 1) (xs.take i ++ ([x] ++ xs.drop i)) ∧ Fr (fun k => k = g) w w' := by
  obtain ⟨i0, hi0, hz0, hz1, hz2⟩ := info_parts infoII
  have hcm := (own_size hown).2
  unfold maxLen at hcm
  have hxl : xs.length = n := by have := hown.1; omega
  obtain ⟨y, hown1⟩ := own_more hown hc
  obtain ⟨_, _, _, cur, hcur, hcs, _⟩ := own_some hown
  have hov := fun (lb cb : Nat) => run_apart (P := Try.prog) (w := w) 61 _ 4 30 Try.func61 (by kernel_rfl) (by kernel_rfl) (by kernel_rfl) (by kernel_rfl) Try.underlying30 sizeII hb hcur hne (by rw [hcs]; omega) 0 (i + 1) 1 1 lb cb
  have hrest : CellsAt w (some ⟨g, i, none⟩) (xs.drop i) := own_rest hown i
  have y1 : over (xs ++ [y]) (i + 1) (xs.drop i) = xs.take (i + 1) ++ xs.drop i := by
    unfold over
    have hd : (xs ++ [y]).drop (i + 1 + (xs.drop i).length) = [] := List.drop_of_length_le (by simp; omega)
    rw [hd, List.append_nil, List.take_append_of_le_length (by omega)]
  have y2 : over (xs.take (i + 1) ++ xs.drop i) i [x] = xs.take i ++ ([x] ++ xs.drop i) := by
    unfold over
    have e : (xs.take (i + 1)).length = i + 1 := by rw [List.length_take]; omega
    rw [List.take_append_of_le_length (by omega), List.take_take, Nat.min_eq_left (by omega)]
    congr 2
    exact List.drop_left' e
  have hd1 : ∀ u ∈ xs.drop i, u.oneCell' = true := fun u hu => h1 u (List.mem_of_mem_drop hu)
  have hdl : (xs.drop i).length = n - i := by rw [List.length_drop, hxl]
  have hx1 : ∀ u ∈ [x], u.oneCell' = true := by simpa using hx
  have HDL := hide hdl
  have HY1 := hide y1
  have HY2 := hide y2
  have HX1 := hide hx1
  have HD1 := hide hd1
  have q0 : (0 : Int) ≤ (i : Int) := by omega
  have q1 : (i : Int) ≤ (n : Int) := by omega
  have q3 : ((i : Int) == (n : Int)) = false := by rw [beq_eq_false_iff_ne]; omega
  have q4 : (i : Int) ≤ (cap : Int) := by omega
  have q5 : (i : Int) + 1 ≤ (cap : Int) := by omega
  have q6 : (0 : Int) ≤ (i : Int) + 1 := by omega
  have q7 : (i : Int) + 1 ≤ (n : Int) + 1 := by omega
  have q8 : (i : Int) ≤ (n : Int) + 1 := by omega
  have q9 : ¬ cap = i := by omega
  have q10 : ¬ cap = i + 1 := by omega
  have q12 : IntKind.i64.wrap ((i : Int) + 1) = (i : Int) + 1 := IntWalk.i64_in _ (by omega)
  clear hdl y1 y2 hx1 hd1 h1 hxl hown hcur hcs
  go_enter Try.func53, Try.ntmps53
  go_wp2_with fail
  go_region_law ((refine step_copy_own rfl (.tmp 73) (.tmp 76) 30 (by rfl) Try.underlying30 szII (some ⟨g, i + 1, none⟩) (some ⟨g, i, none⟩) (n - i) (cap - (i + 1)) (n + 1 - i) (cap - i) (by simp [Act.eval, Act.put]) (by simp [Act.eval, Act.put]) (by exact hown1) (i + 1) (xs.drop i) (by rw [HDL.out]; show n - i = min (n + 1 - i) (n - i); omega) (fun _ => rfl) (by exact hrest) (by rw [HDL.out]; omega) HD1.out _ HY1.out ?_; intro w2 hown2 hf2))
  have hcs : CellsAt w2 (some ⟨gb, 0, none⟩) [x] := cells_bk ((hb.drew).fr hf2 hne)
  go_wp2_with
    ((with_reducible refine wpList_copy_at (.tmp 80) (.tmp 81) 30 Try.underlying30 szII (some ⟨g, i, none⟩) (some ⟨gb, 0, none⟩) (n + 1 - i) (cap - i) 1 1 hown2 i [x] hcs HX1.out _ ?_ ?_ ?_ ?_ ?_ HY2.out ?_); (· rfl); (· rfl); (· show (1 : Nat) = min 1 (n + 1 - i); omega); (· exact fun _ => rfl); (· show i + 1 ≤ n + 1; omega); intro w3 hown3 hf3)
  go_ret
  exact ⟨rfl, hown3, Fr.trans (Fr.trans (Fr.refl _ w).drew hf2) hf3⟩
end Go.Proofs.Ytcbnibldlbnkbaa
