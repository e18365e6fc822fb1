/- slices.Insert, slices.Delete of one element: Int. -/
import Derived.Test.YtffahoocbjfdaaaRows
import Derived.Test.YtffahoocbjfdaaaHCopy
import Derived.Outline
namespace Go.Proofs.Ytffahoocbjfdaaa
open Go.RowKit
theorem infoII : (Try.prog.info? 3).map (fun i => (i.zero, i.size, i.bytes)) = some (some (.int .i64 0), 1, 8) := by kernel_rfl
theorem szII : (Try.prog.info? 3).map (·.size) = some 1 := by kernel_rfl
theorem sizeII : ∀ w, (Go.sizeOf 3).run Try.prog w = .ok 1 w := fun _ => by kernel_rfl
end Go.Proofs.Ytffahoocbjfdaaa
namespace Go.Proofs.Ytffahoocbjfdaaa
open Go.RowKit
set_option maxRecDepth 100000 in
set_option maxHeartbeats 1000000 in
theorem InsEndII (base n cap : Nat) (A : Option Addr) (gb : Nat) (xs : List Value) (x : Value) (w : World) (hown : w.ownsRow base 3 1 (.slice A n cap) n xs) (hn : n ≤ 99999) (hx : x.oneCell' = true) (hb : Bk w gb 3 #[x]) (hbase : base ≤ w.heap.size) :
    Calls Try.prog 59 #[.slice A n cap, .int .i64 n, .slice (some ⟨gb, 0, none⟩) 1 1] w fun e w' =>
      ∃ A' c', e = .returned (.slice A' (n + 1) c') ∧ Apps w base 3 1 (.slice A n cap) (n + 1) (xs ++ [x]) (.slice A' (n + 1) c') w' := by
  obtain ⟨i0, hi0, hz0, hz1, hz2⟩ := info_parts infoII
  obtain ⟨A0, c0, e0, hnc, hA⟩ := own_form hown
  injection e0 with e1 _ e3
  subst e1 e3
  cases A with
  | none =>
    have h0 : n = 0 ∧ cap = 0 := by
      rcases hown.2 with ⟨h, h'⟩ | ⟨g, c, cur, h, _⟩
      · injection h with _ _ h2; exact ⟨h', h2⟩
      · injection h with h1; cases h1
    obtain ⟨rfl, rfl⟩ := h0
    go_enter Try.func59, Try.ntmps59
    go_wp2_with (at_builtin; refine wpList_app _ rfl (.tmp 23) (.tmp 24) 34 rfl base 3 i0 (.int .i64 0) 1 8 Try.underlying34 hi0 hz0 hz1 hz2 rfl (by decide) _ _ _ rfl hown (some ⟨gb, 0, none⟩) 1 1 [x] rfl rfl (cells_bk hb) (by simpa using hx) (by unfold maxLen; omega) (by omega) hbase 1 (Nat.zero_add _) _ rfl ?_; intro A2 c2 w2 h2)
    go_ret
    exact ⟨A2, c2, rfl, h2⟩
  | some a =>
    obtain ⟨_, _, ha⟩ := hA a rfl
    obtain ⟨g, o, sp⟩ := a
    injection ha with _ e1 e2
    subst e1 e2
    have hcm := (own_size hown).2
    unfold maxLen at hcm
    have q0 : (0 : Int) ≤ (n : Int) := by omega
    have q1 : (n : Int) ≤ (n : Int) := by omega
    have q2 : (n : Int) ≤ (cap : Int) := by omega
    by_cases hcap : cap = n
    · subst hcap
      go_enter Try.func59, Try.ntmps59
      go_wp2_with (at_builtin; refine wpList_app _ rfl (.tmp 23) (.tmp 24) 34 rfl base 3 i0 (.int .i64 0) 1 8 Try.underlying34 hi0 hz0 hz1 hz2 rfl (by decide) _ _ _ rfl hown (some ⟨gb, 0, none⟩) 1 1 [x] rfl rfl (cells_bk hb) (by simpa using hx) (by unfold maxLen; omega) (by omega) hbase _ rfl _ rfl ?_; intro A2 c2 w2 h2)
      go_ret
      exact ⟨A2, c2, rfl, h2⟩
    · go_enter Try.func59, Try.ntmps59
      go_wp2_with (at_builtin; refine wpList_app _ rfl (.tmp 23) (.tmp 24) 34 rfl base 3 i0 (.int .i64 0) 1 8 Try.underlying34 hi0 hz0 hz1 hz2 rfl (by decide) _ _ _ rfl hown (some ⟨gb, 0, none⟩) 1 1 [x] rfl rfl (cells_bk hb) (by simpa using hx) (by unfold maxLen; omega) (by omega) hbase _ rfl _ rfl ?_; intro A2 c2 w2 h2)
      go_ret
      exact ⟨A2, c2, rfl, h2⟩
end Go.Proofs.Ytffahoocbjfdaaa
namespace Go.Proofs.Ytffahoocbjfdaaa
open Go.RowKit
set_option maxRecDepth 100000 in
set_option maxHeartbeats 2000000 in
theorem InsGrowII (base g n i gb : Nat) (xs : List Value) (x : Value) (w : World) (hown : w.ownsRow base 3 1 (.slice (some ⟨g, 0, none⟩) n n) n xs) (hi : i < n) (hn : n ≤ 99999) (h1 : ∀ u ∈ xs, u.oneCell' = true) (hx : x.oneCell' = true) (hb : Bk w gb 3 #[x]) (hbase : base ≤ w.heap.size) :
    Calls Try.prog 59 #[.slice (some ⟨g, 0, none⟩) n n, .int .i64 i, .slice (some ⟨gb, 0, none⟩) 1 1] w fun e w' =>
      ∃ c', e = .returned (.slice (some ⟨w.heap.size, 0, none⟩) (n + 1) c') ∧ w'.ownsRow base 3 1 (.slice (some ⟨w.heap.size, 0, none⟩) (n + 1) c') (n + 1) (xs.take i ++ ([x] ++ xs.drop i)) ∧ Old w w' := by
  obtain ⟨i0, hi0, hz0, hz1, hz2⟩ := info_parts infoII
  have hcm := (own_size hown).2
  unfold maxLen at hcm
  have hxl : xs.length = n := by have := hown.1; omega
  have hcut := own_cut hown (k := i) (by omega)
  rw [Nat.mul_one] at hcut
  obtain ⟨c', w1, hz, hown1, hb1⟩ := run_zeros (P := Try.prog) 34 3 34 i0 (.int .i64 0) 8 .i64 .i64 Try.underlying34 Try.underlying3 hi0 hz0 hz1 hz2 rfl hcut (n + 1 - i) (by omega) (by omega) (by unfold maxLen; omega) (by omega) hbase
  rw [show i + (n + 1 - i) = n + 1 from by omega] at hz hown1
  rw [show (((n + 1 - i : Nat)) : Int) = (n : Int) + 1 - (i : Int) from by omega] at hz
  obtain ⟨hnc', hcm'⟩ := own_size hown1
  unfold maxLen at hcm'
  have hcs : CellsAt w1 (some ⟨gb, 0, none⟩) [x] := CellsAt.old (cells_bk hb) hb1
  have hrest : CellsAt w1 (some ⟨g, i, none⟩) (xs.drop i) := CellsAt.old (own_rest hown i) hb1
  have y1 : over (xs.take i ++ List.replicate (n + 1 - i) (.int .i64 0 : Value)) i [x] = xs.take i ++ ([x] ++ List.replicate (n - i) (.int .i64 0 : Value)) := by
    unfold over
    have e : (xs.take i).length = i := by rw [List.length_take]; omega
    rw [List.take_left' e, List.drop_append, List.drop_of_length_le (by simp; omega), e]
    simp
    omega
  have y2 : over (xs.take i ++ ([x] ++ List.replicate (n - i) (.int .i64 0 : Value))) (i + 1) (xs.drop i) = xs.take i ++ ([x] ++ xs.drop i) := by
    unfold over
    have e : (xs.take i ++ [x]).length = i + 1 := by rw [List.length_append, List.length_take]; simp; omega
    have a : xs.take i ++ ([x] ++ List.replicate (n - i) (.int .i64 0 : Value)) = (xs.take i ++ [x]) ++ List.replicate (n - i) (.int .i64 0 : Value) := (List.append_assoc _ _ _).symm
    have hd : (xs.take i ++ [x] ++ List.replicate (n - i) (.int .i64 0 : Value)).drop (i + 1 + (xs.drop i).length) = [] := List.drop_of_length_le (by simp; omega)
    rw [a, List.take_left' e, hd]
    simp
  have hg1 : g < w.heap.size := own_lt hown
  have hd1 : ∀ u ∈ xs.drop i, u.oneCell' = true := fun u hu => h1 u (List.mem_of_mem_drop hu)
  have hdl : (xs.drop i).length = n - i := by rw [List.length_drop, hxl]
  have hx1 : ∀ u ∈ [x], u.oneCell' = true := by simpa using hx
  have HZ := hide hz
  have HDL := hide hdl
  have HY1 := hide y1
  have HY2 := hide y2
  have HX1 := hide hx1
  have HD1 := hide hd1
  have q0 : (0 : Int) ≤ (i : Int) := by omega
  have q1 : (i : Int) ≤ (n : Int) := by omega
  have q3 : ((i : Int) == (n : Int)) = false := by rw [beq_eq_false_iff_ne]; omega
  have q4 : (i : Int) ≤ (c' : Int) := by omega
  have q5 : (i : Int) + 1 ≤ (c' : Int) := by omega
  have q6 : (0 : Int) ≤ (i : Int) + 1 := by omega
  have q7 : (i : Int) + 1 ≤ (n : Int) + 1 := by omega
  have q8 : (i : Int) ≤ (n : Int) + 1 := by omega
  have q9 : ¬ c' = i := by omega
  have q10 : ¬ c' = i + 1 := by omega
  have q11 : ¬ n = i := by omega
  have q12 : IntKind.i64.wrap ((i : Int) + 1) = (i : Int) + 1 := IntWalk.i64_in _ (by omega)
  clear hz hdl y1 y2 hx1 hd1 h1 hxl hcut
  go_enter Try.func59, Try.ntmps59
  go_wp2_with
    (first
      | (at_builtin; refine Lib.wpList_append_run _ rfl (.tmp 34) (.tmp 39) 34 3 rfl _ _ rfl rfl _ _ HZ.out ?_)
      | ((with_reducible refine wpList_copy_at (.tmp 43) (.tmp 44) 34 Try.underlying34 szII (some ⟨w.heap.size, i, none⟩) (some ⟨gb, 0, none⟩) (n + 1 - i) (c' - i) 1 1 hown1 i [x] hcs HX1.out _ ?_ ?_ ?_ ?_ ?_ HY1.out ?_); (· rfl); (· rfl); (· show (1 : Nat) = min 1 (n + 1 - i); omega); (· exact fun _ => rfl); (· show i + 1 ≤ n + 1; omega); intro w2 hown2 hf2))
  have rest2 : CellsAt w2 (some ⟨g, i, none⟩) (xs.drop i) := hrest.fr hf2 (fun _ a e => by cases e; simp; omega)
  go_region_law ((refine step_copy_own rfl (.tmp 50) (.tmp 53) 34 (by rfl) Try.underlying34 szII (some ⟨w.heap.size, i + 1, none⟩) (some ⟨g, i, none⟩) (n - i) (c' - (i + 1)) (n - i) (n - i) (by simp [Act.eval, Act.put]) (by simp [Act.eval, Act.put]) (by exact hown2) (i + 1) (xs.drop i) (by rw [HDL.out]; show n - i = min (n - i) (n - i); omega) (fun _ => rfl) (by exact rest2) (by rw [HDL.out]; omega) HD1.out _ HY2.out ?_; intro w3 hown3 hf3))
  go_wp2
  go_ret
  exact ⟨c', rfl, hown3, Old.fr_new (Old.drew' (Old.fr_new hb1 hf2 (fun k e => by subst e; exact Nat.le_refl _))) hf3 (fun k e => by subst e; exact Nat.le_refl _)⟩
end Go.Proofs.Ytffahoocbjfdaaa
namespace Go.Proofs.Ytffahoocbjfdaaa
open Go.RowKit
set_option maxRecDepth 100000 in
set_option maxHeartbeats 2000000 in
theorem InsRoomII (base g n cap i gb : Nat) (xs : List Value) (x : Value) (w : World) (hown : w.ownsRow base 3 1 (.slice (some ⟨g, 0, none⟩) n cap) n xs) (hi : i < n) (hc : n + 1 ≤ cap) (hn : n ≤ 99999) (h1 : ∀ u ∈ xs, u.oneCell' = true) (hx : x.oneCell' = true) (hb : Bk w gb 3 #[x]) (hne : gb ≠ g) :
    Calls Try.prog 59 #[.slice (some ⟨g, 0, none⟩) n cap, .int .i64 i, .slice (some ⟨gb, 0, none⟩) 1 1] w fun e w' =>
      e = .returned (.slice (some ⟨g, 0, none⟩) (n + 1) cap) ∧ w'.ownsRow base 3 1 (.slice (some ⟨g, 0, none⟩) (n + 1) cap) (n + 1) (xs.take i ++ ([x] ++ xs.drop i)) ∧ Fr (fun k => k = g) w w' := by
  obtain ⟨i0, hi0, hz0, hz1, hz2⟩ := info_parts infoII
  have hcm := (own_size hown).2
  unfold maxLen at hcm
  have hxl : xs.length = n := by have := hown.1; omega
  obtain ⟨y, hown1⟩ := own_more hown hc
  obtain ⟨_, _, _, cur, hcur, hcs, _⟩ := own_some hown
  have hov := fun (lb cb : Nat) => run_apart (P := Try.prog) (w := w) 65 _ 4 34 Try.func65 (by kernel_rfl) (by kernel_rfl) (by kernel_rfl) (by kernel_rfl) Try.underlying34 sizeII hb hcur hne (by rw [hcs]; omega) 0 (i + 1) 1 1 lb cb
  have hrest : CellsAt w (some ⟨g, i, none⟩) (xs.drop i) := own_rest hown i
  have y1 : over (xs ++ [y]) (i + 1) (xs.drop i) = xs.take (i + 1) ++ xs.drop i := by
    unfold over
    have hd : (xs ++ [y]).drop (i + 1 + (xs.drop i).length) = [] := List.drop_of_length_le (by simp; omega)
    rw [hd, List.append_nil, List.take_append_of_le_length (by omega)]
  have y2 : over (xs.take (i + 1) ++ xs.drop i) i [x] = xs.take i ++ ([x] ++ xs.drop i) := by
    unfold over
    have e : (xs.take (i + 1)).length = i + 1 := by rw [List.length_take]; omega
    rw [List.take_append_of_le_length (by omega), List.take_take, Nat.min_eq_left (by omega)]
    congr 2
    exact List.drop_left' e
  have hd1 : ∀ u ∈ xs.drop i, u.oneCell' = true := fun u hu => h1 u (List.mem_of_mem_drop hu)
  have hdl : (xs.drop i).length = n - i := by rw [List.length_drop, hxl]
  have hx1 : ∀ u ∈ [x], u.oneCell' = true := by simpa using hx
  have HDL := hide hdl
  have HY1 := hide y1
  have HY2 := hide y2
  have HX1 := hide hx1
  have HD1 := hide hd1
  have q0 : (0 : Int) ≤ (i : Int) := by omega
  have q1 : (i : Int) ≤ (n : Int) := by omega
  have q3 : ((i : Int) == (n : Int)) = false := by rw [beq_eq_false_iff_ne]; omega
  have q4 : (i : Int) ≤ (cap : Int) := by omega
  have q5 : (i : Int) + 1 ≤ (cap : Int) := by omega
  have q6 : (0 : Int) ≤ (i : Int) + 1 := by omega
  have q7 : (i : Int) + 1 ≤ (n : Int) + 1 := by omega
  have q8 : (i : Int) ≤ (n : Int) + 1 := by omega
  have q9 : ¬ cap = i := by omega
  have q10 : ¬ cap = i + 1 := by omega
  have q12 : IntKind.i64.wrap ((i : Int) + 1) = (i : Int) + 1 := IntWalk.i64_in _ (by omega)
  clear hdl y1 y2 hx1 hd1 h1 hxl hown hcur hcs
  go_enter Try.func59, Try.ntmps59
  go_wp2_with fail
  go_region_law ((refine step_copy_own rfl (.tmp 73) (.tmp 76) 34 (by rfl) Try.underlying34 szII (some ⟨g, i + 1, none⟩) (some ⟨g, i, none⟩) (n - i) (cap - (i + 1)) (n + 1 - i) (cap - i) (by simp [Act.eval, Act.put]) (by simp [Act.eval, Act.put]) (by exact hown1) (i + 1) (xs.drop i) (by rw [HDL.out]; show n - i = min (n + 1 - i) (n - i); omega) (fun _ => rfl) (by exact hrest) (by rw [HDL.out]; omega) HD1.out _ HY1.out ?_; intro w2 hown2 hf2))
  have hcs : CellsAt w2 (some ⟨gb, 0, none⟩) [x] := cells_bk ((hb.drew).fr hf2 hne)
  go_wp2_with
    ((with_reducible refine wpList_copy_at (.tmp 80) (.tmp 81) 34 Try.underlying34 szII (some ⟨g, i, none⟩) (some ⟨gb, 0, none⟩) (n + 1 - i) (cap - i) 1 1 hown2 i [x] hcs HX1.out _ ?_ ?_ ?_ ?_ ?_ HY2.out ?_); (· rfl); (· rfl); (· show (1 : Nat) = min 1 (n + 1 - i); omega); (· exact fun _ => rfl); (· show i + 1 ≤ n + 1; omega); intro w3 hown3 hf3)
  go_ret
  exact ⟨rfl, hown3, Fr.trans (Fr.trans (Fr.refl _ w).drew hf2) hf3⟩
end Go.Proofs.Ytffahoocbjfdaaa
namespace Go.Proofs.Ytffahoocbjfdaaa
open Go.RowKit
theorem InsertII (base n cap i gb : Nat) (A : Option Addr) (xs : List Value) (x : Value) (w : World) (hown : w.ownsRow base 3 1 (.slice A n cap) n xs) (hi : i ≤ n) (hn : n ≤ 99999) (h1 : ∀ u ∈ xs, u.oneCell' = true) (hx : x.oneCell' = true) (hb : Bk w gb 3 #[x]) (hgb : (Value.slice A n cap).ownBlock ≠ some gb) (hbase : base ≤ w.heap.size) :
    Calls Try.prog 59 #[.slice A n cap, .int .i64 i, .slice (some ⟨gb, 0, none⟩) 1 1] w fun e w' =>
      ∃ A' c', e = .returned (.slice A' (n + 1) c') ∧ w'.ownsRow base 3 1 (.slice A' (n + 1) c') (n + 1) (xs.take i ++ ([x] ++ xs.drop i)) ∧ Fr (fun k => (Value.slice A n cap).ownBlock = some k) w w' ∧
        ∀ k, (Value.slice A' (n + 1) c').ownBlock = some k → (Value.slice A n cap).ownBlock = some k ∨ w.heap.size ≤ k := by
  have hxl : xs.length = n := by have := hown.1; omega
  by_cases he : i = n
  · subst he
    refine (InsEndII base i cap A gb xs x w hown hn hx hb hbase).mono fun e w' ⟨A', c', he, ha⟩ => ⟨A', c', he, ?_, ha.fr (fun k _ h => h), fun k hk => ?_⟩
    · rw [List.take_of_length_le (by omega), List.drop_of_length_le (by omega)]
      exact ha.own
    · rcases ha.2.2 with h | h
      · left; rw [← h]; exact hk
      · right; rw [hk] at h; injection h with h; omega
  · obtain ⟨g, c, e, _, hg⟩ := hown.form (by omega)
    injection e with e1 _ e3
    subst e1 e3
    by_cases hc : n + 1 ≤ cap
    · refine (InsRoomII base g n cap i gb xs x w hown (by omega) hc hn h1 hx hb (fun e => hgb (by subst e; rfl))).mono fun e w' ⟨he, ho, hf⟩ => ⟨_, _, he, ho, hf.mono (fun k _ h => by subst h; rfl), fun k hk => .inl hk⟩
    · have hnc := (own_size hown).1
      obtain rfl : cap = n := by omega
      refine (InsGrowII base g cap i gb xs x w hown (by omega) hn h1 hx hb hbase).mono fun e w' ⟨c', he, ho, hf⟩ => ⟨_, _, he, ho, Fr.of_old hf, fun k hk => .inr ?_⟩
      simp [Value.ownBlock] at hk
      omega
end Go.Proofs.Ytffahoocbjfdaaa
