/- slices.Delete of one element, slices.Clone of bytes: at a row that the call owns. -/
import Derived.Test.YtjjcdpcnokckiaaRows
import Derived.Test.YtjjcdpcnokckiaaRow
namespace Go.Proofs.Ytjjcdpcnokckiaa
open Go.RowKit

theorem info_msg : (Try.prog.info? 58).map (fun i => (i.zero, i.size, i.bytes)) = some (some (.agg #[.int .i64 0, .int .i64 0, .slice none 0 0]), 3, 40) := by kernel_rfl
theorem zero_msg : ∀ w, (zeroValue 58).run Try.prog w = .ok (.agg #[.int .i64 0, .int .i64 0, .slice none 0 0]) w := fun _ => by kernel_rfl

theorem zl_msg : (Value.agg #[.int .i64 0, .int .i64 0, .slice none 0 0]).cells.size = 3 := rfl
theorem zo_msg : ∀ u ∈ (Value.agg #[.int .i64 0, .int .i64 0, .slice none 0 0]).cells.toList, u.oneCell' = true := by decide

set_option maxRecDepth 100000 in
set_option maxHeartbeats 2000000 in
theorem Delete_msg (base g n cap i : Nat) (xs : List Value) (w : World) (hown : w.ownsRow base 58 3 (.slice (some ⟨g, 0, none⟩) n cap) n xs) (hi : i < n) (hn : n ≤ 100000) (h1 : ∀ u ∈ xs, u.oneCell' = true) :
    Calls Try.prog 24 #[.slice (some ⟨g, 0, none⟩) n cap, .int .i64 i, .int .i64 ((i : Int) + 1)] w fun e w' =>
      e = .returned (.slice (some ⟨g, 0, none⟩) (n - 1) cap) ∧ w'.ownsRow base 58 3 (.slice (some ⟨g, 0, none⟩) (n - 1) cap) (n - 1) (xs.take (i * 3) ++ xs.drop ((i + 1) * 3)) ∧ Fr (fun k => k = g) w w' := by
  obtain ⟨i0, hi0, hz0, hz1, hz2⟩ := info_parts info_msg
  obtain ⟨hnc, hcm⟩ := own_size hown
  unfold maxLen at hcm
  have hne : ((i : Int) == (i : Int) + 1) = false := by simp; omega
  have hlen : (xs.drop ((i + 1) * 3)).length = (n - (i + 1)) * 3 := by rw [List.length_drop, hown.1, Nat.sub_mul]
  have h1' : ∀ u ∈ xs.drop ((i + 1) * 3), u.oneCell' = true := fun u hu => h1 u (List.mem_of_mem_drop hu)
  have HC := hide (own_cut hown (k := i) (by omega))
  have HR := hide (own_rest hown ((i + 1) * 3))
  have HL := hide hlen
  clear hlen
  have q0 : (0 : Int) ≤ (i : Int) := by omega
  have q1 : (0 : Int) ≤ (i : Int) + 1 := by omega
  have q2 : (i : Int) + 1 ≤ (n : Int) := by omega
  have q3 : (i : Int) ≤ (n : Int) := by omega
  have q4 : (i : Int) ≤ (cap : Int) := by omega
  have q5 : (i : Int) + 1 ≤ (cap : Int) := by omega
  by_cases hcap : cap = i + 1
  · obtain rfl : n = i + 1 := by omega
    subst hcap
    have hd : xs.drop ((i + 1) * 3) = [] := List.drop_eq_nil_of_le (by rw [hown.1]; omega)
    rw [hd, List.append_nil]
    have q6 : (i : Int) ≤ (i : Int) + 1 := by omega
    have q7 : (i : Int) + 1 ≤ (i : Int) + 1 := by omega
    clear HR HL h1' hd q2 q3 q4 q5
    go_enter Try.func24, Try.ntmps24
    go_wp2_with fail
    go_region_law ((refine step_fits rfl (.tmp 22) (.tmp 25) 51 (by rfl) i0 Try.underlying51 hi0 hz1 (by omega) (by rfl) (by exact HC.out) _ 0 _ [] (by rfl) (by rfl) (CellsAt.nil _ _) (by simp) (by omega) i (by omega) _ (List.append_nil _) ?_; intro w1 hown1 hf1))
    go_wp2_with ((with_reducible refine wpList_clear_at (.tmp 31) 51 _ Try.underlying51 zero_msg zl_msg zo_msg (by decide) hown1 (some ⟨g, i * 3, none⟩) 1 1 ?_ ?_ ?_ ?_); (· rfl); (· exact fun _ => rfl); (· omega); intro w2 hown2 hf2)
    go_ret
    exact ⟨rfl, hown2, Fr.trans (Fr.trans (Fr.refl _ w).drew hf1) hf2⟩
  · go_enter Try.func24, Try.ntmps24
    go_wp2_with fail
    go_region_law ((refine step_fits rfl (.tmp 22) (.tmp 25) 51 (by rfl) i0 Try.underlying51 hi0 hz1 (by omega) (by rfl) (by exact HC.out) _ (n - (i + 1)) _ _ (by rfl) HL.out (by exact HR.out) h1' (by omega) (n - 1) (by omega) _ rfl ?_; intro w1 hown1 hf1))
    go_wp2_with ((with_reducible refine wpList_clear_at (.tmp 31) 51 _ Try.underlying51 zero_msg zl_msg zo_msg (by decide) hown1 (some ⟨g, (n - 1) * 3, none⟩) (n - (n - 1)) (cap - (n - 1)) ?_ ?_ ?_ ?_); (· rfl); (· exact fun _ => rfl); (· omega); intro w2 hown2 hf2)
    go_ret
    exact ⟨rfl, hown2, Fr.trans (Fr.trans (Fr.refl _ w).drew hf1) hf2⟩
end Go.Proofs.Ytjjcdpcnokckiaa
