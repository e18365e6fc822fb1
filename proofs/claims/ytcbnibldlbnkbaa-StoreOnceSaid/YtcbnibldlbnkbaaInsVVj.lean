/- slices.Insert of one element, joined: Vers. -/
import Derived.Test.YtcbnibldlbnkbaaInsVVa
import Derived.Test.YtcbnibldlbnkbaaInsVVb
import Derived.Test.YtcbnibldlbnkbaaInsVVc
namespace Go.Proofs.Ytcbnibldlbnkbaa
open Go.RowKit

theorem InsertVV (base n cap i gb : Nat) (A : Option Addr) (xs : List Value) (x : Value) (w : World) (hown : w.ownsRow base 29 1 (.slice A n cap) n xs) (hi : i ≤ n) (hn : n ≤ 99999) (h1 : ∀ u ∈ xs, u.oneCell' = true) (hx : x.oneCell' = true) (hb : Bk w gb 29 #[x]) (hgb : (Value.slice A n cap).ownBlock ≠ some gb) (hbase : base ≤ w.heap.size) :
    Calls Try.prog 54 #[.slice A n cap, .int .i64 i, .slice (some ⟨gb, 0, none⟩) 1 1] w fun e w' =>
      ∃ A' c', e = .returned (.slice A' (n + 1) c') ∧ w'.ownsRow base 29 1 (.slice A' (n + 1) c') (n + 1) (xs.take i ++ ([x] ++ xs.drop i)) ∧ Fr (fun k => (Value.slice A n cap).ownBlock = some k) w w' ∧
        ∀ k, (Value.slice A' (n + 1) c').ownBlock = some k → (Value.slice A n cap).ownBlock = some k ∨ w.heap.size ≤ k := by
  have hxl : xs.length = n := by have := hown.1; omega
  by_cases he : i = n
  · subst he
    refine (InsEndVV base i cap A gb xs x w hown hn hx hb hbase).mono fun e w' ⟨A', c', he, ha⟩ => ⟨A', c', he, ?_, ha.fr (fun k _ h => h), fun k hk => ?_⟩
    · rw [List.take_of_length_le (by omega), List.drop_of_length_le (by omega)]
      exact ha.own
    · rcases ha.2.2 with h | h
      · left; rw [← h]; exact hk
      · right; rw [hk] at h; injection h with h; omega
  · obtain ⟨g, c, e, _, hg⟩ := hown.form (by omega)
    injection e with e1 _ e3
    subst e1 e3
    by_cases hc : n + 1 ≤ cap
    · refine (InsRoomVV base g n cap i gb xs x w hown (by omega) hc hn h1 hx hb (fun e => hgb (by subst e; rfl))).mono fun e w' ⟨he, ho, hf⟩ => ⟨_, _, he, ho, hf.mono (fun k _ h => by subst h; rfl), fun k hk => .inl hk⟩
    · have hnc := (own_size hown).1
      obtain rfl : cap = n := by omega
      refine (InsGrowVV base g cap i gb xs x w hown (by omega) hn h1 hx hb hbase).mono fun e w' ⟨c', he, ho, hf⟩ => ⟨_, _, he, ho, Fr.of_old hf, fun k hk => .inr ?_⟩
      simp [Value.ownBlock] at hk
      omega
end Go.Proofs.Ytcbnibldlbnkbaa
