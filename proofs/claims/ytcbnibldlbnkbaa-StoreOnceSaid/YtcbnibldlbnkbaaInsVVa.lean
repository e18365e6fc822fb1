/- slices.Insert at the end: Vers. -/
import Derived.Test.YtcbnibldlbnkbaaInsVV
namespace Go.Proofs.Ytcbnibldlbnkbaa
open Go.RowKit

set_option maxRecDepth 100000 in
set_option maxHeartbeats 1000000 in
theorem InsEndVV (base n cap : Nat) (A : Option Addr) (gb : Nat) (xs : List Value) (x : Value) (w : World) (hown : w.ownsRow base 29 1 (.slice A n cap) n xs) (hn : n ≤ 99999) (hx : x.oneCell' = true) (hb : Bk w gb 29 #[x]) (hbase : base ≤ w.heap.size) :
    Calls Try.prog 54 #[.slice A n cap, .int .i64 n, .slice (some ⟨gb, 0, none⟩) 1 1] w fun e w' =>
      ∃ A' c', e = .returned (.slice A' (n + 1) c') ∧ Apps w base 29 1 (.slice A n cap) (n + 1) (xs ++ [x]) (.slice A' (n + 1) c') w' := by
  obtain ⟨i0, hi0, hz0, hz1, hz2⟩ := info_parts infoVV
  obtain ⟨A0, c0, e0, hnc, hA⟩ := own_form hown
  injection e0 with e1 _ e3
  subst e1 e3
  cases A with
  | none =>
    have h0 : n = 0 ∧ cap = 0 := by
      rcases hown.2 with ⟨h, h'⟩ | ⟨g, c, cur, h, _⟩
      · injection h with _ _ h2; exact ⟨h', h2⟩
      · injection h with h1; cases h1
    obtain ⟨rfl, rfl⟩ := h0
    go_enter Try.func54, Try.ntmps54
    go_wp2_with (at_builtin; refine wpList_app _ rfl (.tmp 23) (.tmp 24) 62 rfl base 29 i0 (.slice none 0 0) 1 24 Try.underlying62 hi0 hz0 hz1 hz2 rfl (by decide) _ _ _ rfl hown (some ⟨gb, 0, none⟩) 1 1 [x] rfl rfl (cells_bk hb) (by simpa using hx) (by unfold maxLen; omega) (by omega) hbase 1 (Nat.zero_add _) _ rfl ?_; intro A2 c2 w2 h2)
    go_ret
    exact ⟨A2, c2, rfl, h2⟩
  | some a =>
    obtain ⟨_, _, ha⟩ := hA a rfl
    obtain ⟨g, o, sp⟩ := a
    injection ha with _ e1 e2
    subst e1 e2
    have hcm := (own_size hown).2
    unfold maxLen at hcm
    have q0 : (0 : Int) ≤ (n : Int) := by omega
    have q1 : (n : Int) ≤ (n : Int) := by omega
    have q2 : (n : Int) ≤ (cap : Int) := by omega
    by_cases hcap : cap = n
    · subst hcap
      go_enter Try.func54, Try.ntmps54
      go_wp2_with (at_builtin; refine wpList_app _ rfl (.tmp 23) (.tmp 24) 62 rfl base 29 i0 (.slice none 0 0) 1 24 Try.underlying62 hi0 hz0 hz1 hz2 rfl (by decide) _ _ _ rfl hown (some ⟨gb, 0, none⟩) 1 1 [x] rfl rfl (cells_bk hb) (by simpa using hx) (by unfold maxLen; omega) (by omega) hbase _ rfl _ rfl ?_; intro A2 c2 w2 h2)
      go_ret
      exact ⟨A2, c2, rfl, h2⟩
    · go_enter Try.func54, Try.ntmps54
      go_wp2_with (at_builtin; refine wpList_app _ rfl (.tmp 23) (.tmp 24) 62 rfl base 29 i0 (.slice none 0 0) 1 24 Try.underlying62 hi0 hz0 hz1 hz2 rfl (by decide) _ _ _ rfl hown (some ⟨gb, 0, none⟩) 1 1 [x] rfl rfl (cells_bk hb) (by simpa using hx) (by unfold maxLen; omega) (by omega) hbase _ rfl _ rfl ?_; intro A2 c2 w2 h2)
      go_ret
      exact ⟨A2, c2, rfl, h2⟩
end Go.Proofs.Ytcbnibldlbnkbaa
