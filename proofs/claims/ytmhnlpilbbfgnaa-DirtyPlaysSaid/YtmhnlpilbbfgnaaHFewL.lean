/- casebooklaw18.Few; logs that steps make. -/
import Derived.Test.YtmhnlpilbbfgnaaHDoL
import Derived.Test.YtmhnlpilbbfgnaaHOpenO
namespace Go.Proofs.Ytmhnlpilbbfgnaa
open Go.RowKit

def few18 (qs : List LOpV) : Bool := qs.all (fun o => decide (o.q.data.size ≤ 100)) && decide (qs.length ≤ 60)
set_option maxRecDepth 100000 in
set_option maxHeartbeats 1000000 in
theorem few18_any (A : Option Addr) (n cap : Nat) (qs : List LOpV) (b : Bool) (hb : few18 qs = b) (hl : n = qs.length) (hn : n ≤ 9223372036854775807) (w : World) (hQ : LOpsAt w A qs) :
    Calls Try.prog 32 #[.slice A n cap] w fun e w' => e = .returned (.bool b) ∧ w = w' := by
  have HL := hide hl
  have HB := hide hb
  clear hl hb
  go_enter Try.func32, Try.ntmps32
  go_wp2
  go_loop [3] (fun i => ∃ k : Nat, k ≤ n ∧ i = .int .i64 k ∧ (qs.take k).all (fun o => decide (o.q.data.size ≤ 100)) = true) (fun i => n - (intOf i).toNat)
  case atStart => exact ⟨0, Nat.zero_le _, rfl, by simp⟩
  case round =>
    obtain ⟨k, hk, rfl, htk⟩ := hrel
    have HT := hide htk
    clear htk
    by_cases hlt : k < n
    · have hkq : k < qs.length := by have := HL.out; omega
      obtain ⟨b0, o, rfl, hb0, hc⟩ := lops_at hQ (k := k) hkq
      obtain ⟨x, hx⟩ : ∃ x, qs[k]?.getD default = x := ⟨_, rfl⟩
      rw [hx] at hc
      have c8 := hc 8 (.string x.q.data) (by omega) rfl
      have hxx : qs[k] = x := by rw [List.getElem?_eq_getElem hkq] at hx; simpa using hx
      have HX := hide hxx
      clear hc hx hxx
      by_cases hs : x.q.data.size ≤ 100
      · go_wp2
        go_round
        case rel =>
          refine ⟨k + 1, by omega, by go_num, ?_⟩
          rw [List.take_succ_eq_append_getElem hkq, List.all_append, HT.out, HX.out]
          simp [hs]
        case measure => simp [intOf]; omega
      · go_wp2
        go_ret
        refine ⟨retb ?_, rfl⟩
        rw [← HB.out]
        symm
        unfold few18
        rw [Bool.and_eq_false_iff]
        left
        rw [List.all_eq_false]
        exact ⟨x, HX.out ▸ List.getElem_mem hkq, by simpa using hs⟩
    · obtain rfl : k = n := by omega
      have hall := HT.out
      rw [List.take_of_length_le (by have := HL.out; omega)] at hall
      go_wp2
      go_ret
      refine ⟨retb ?_, rfl⟩
      rw [← HB.out]
      unfold few18
      rw [hall, Bool.true_and, ← HL.out]
      rw [Bool.eq_iff_iff]
      simp
      omega
def runO (q0 : Int) (os : List LOpV) : LnV := os.foldl (fun l o => l.step o.kind o.n o.m o.q) (LnV.new q0)
theorem runO_snoc (q0 : Int) (os : List LOpV) (o : LOpV) : runO q0 (os ++ [o]) = (runO q0 os).step o.kind o.n o.m o.q := by simp [runO]
theorem runO_ok (q0 : Int) (os : List LOpV) : (runO q0 os).quota = q0 ∧ (runO q0 os).qs.length ≤ os.length := by
  unfold runO
  suffices h : ∀ (os : List LOpV) (l : LnV), (os.foldl (fun l o => l.step o.kind o.n o.m o.q) l).quota = l.quota ∧ (os.foldl (fun l o => l.step o.kind o.n o.m o.q) l).qs.length ≤ l.qs.length + os.length by
    have := h os (LnV.new q0)
    exact ⟨this.1, by have := this.2; simpa [LnV.new] using this⟩
  intro os
  induction os with
  | nil => intro l; exact ⟨rfl, Nat.le_refl _⟩
  | cons o os ih =>
    intro l
    obtain ⟨h1, h2⟩ := ih (l.step o.kind o.n o.m o.q)
    obtain ⟨f1, f2⟩ := l.step_facts o.kind o.n o.m o.q
    refine ⟨h1.trans f1, ?_⟩
    simp only [List.foldl_cons, List.length_cons]
    omega
theorem LX.new {w w1 : World} {g : Nat} {F : Nat → Prop} {qt : Int} (a1 : LnAt w1 g F (LnV.new qt)) (a2 : ∀ k, F k → w.heap.size ≤ k) (a3 : Old w w1) :
    LX w (w1.alloc (.cells #[.int .i64 qt, .slice none 0 0, .int .i64 0] 60)) g w1.heap.size (LnV.new qt) (LnV.new qt) [] :=
  ⟨F, fun k => k = w1.heap.size, a1.old ((Old.refl' w1).alloc' _), Xl_new (Bk.new w1 60 _), fun k h1 h2 => by have := a1.lt k h1; omega, a2, fun k hk => by have := a3.size; omega, a3.alloc' _, fun d hd => absurd hd List.not_mem_nil⟩
end Go.Proofs.Ytmhnlpilbbfgnaa
