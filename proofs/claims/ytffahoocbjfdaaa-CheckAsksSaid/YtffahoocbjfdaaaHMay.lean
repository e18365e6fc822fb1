/- Which requests may be: item.MayReq, the document's MayReq. -/
import Derived.Test.YtffahoocbjfdaaaHRef
namespace Go.Proofs.Ytffahoocbjfdaaa
open Go.RowKit
def mayK (k m : Int) (d : ByteArray) : Bool :=
  if k = 1 then decide (m = 0) && decide (d.size ≤ 64) else if k = 2 then decide (d.size ≤ 64) else if k = 3 then decide (d = ByteArray.empty)
  else if k = 5 then decide (1 ≤ m) && decide (d = ByteArray.empty) else if k = 4 ∨ k = 6 then decide (m = 0) && decide (d = ByteArray.empty) else false
def mayQ (c s k i m : Int) (d : ByteArray) : Bool := decide (0 ≤ c ∧ c ≤ 3) && decide (1 ≤ s ∧ s ≤ 1073741824) && decide (0 ≤ i ∧ i ≤ 31) && decide (0 ≤ m ∧ m ≤ 100) && mayK k m d
set_option maxHeartbeats 400000 in
theorem within_at (n lo hi : Int) (b : Bool) (hb : decide (lo ≤ n ∧ n ≤ hi) = b) (w : World) :
    Calls Try.prog 54 #[.int .i64 n, .int .i64 lo, .int .i64 hi] w fun e w' => e = .returned (.bool b) ∧ w = w' := by
  subst hb
  by_cases h1 : lo ≤ n
  · by_cases h2 : n ≤ hi
    · go_enter Try.func54, Try.ntmps54
      go_wp2
      go_ret
      exact ⟨by first | (simp; done) | (simp; omega), rfl⟩
    · go_enter Try.func54, Try.ntmps54
      go_wp2
      go_ret
      exact ⟨by first | (simp; done) | (simp; omega), rfl⟩
  · go_enter Try.func54, Try.ntmps54
    go_wp2
    go_ret
    exact ⟨by first | (simp; done) | (simp; omega), rfl⟩
theorem beq0 (m : Int) : (m == 0) = decide (m = 0) := by rw [Bool.eq_iff_iff]; simp
theorem bytes_nil {d : ByteArray} : d.toList = [] ↔ d = ByteArray.empty := by
  have := @bytes_eq d ByteArray.empty
  rwa [show ByteArray.empty.toList = [] by simp [ByteArray.toList_eq]] at this
set_option maxRecDepth 100000 in
set_option maxHeartbeats 4000000 in
theorem May_any (c s k i m : Int) (d : ByteArray) (w : World) :
    Calls Try.prog 45 #[.agg #[.int .i64 c, .int .i64 s, .int .i64 k, .int .i64 i, .int .i64 m, .string d]] w fun e w' => e = .returned (.bool (mayQ c s k i m d)) ∧ Old w w' := by
  obtain ⟨b1, h1⟩ : ∃ b, decide (0 ≤ c ∧ c ≤ 3) = b := ⟨_, rfl⟩
  obtain ⟨b2, h2⟩ : ∃ b, decide (1 ≤ s ∧ s ≤ 1073741824) = b := ⟨_, rfl⟩
  obtain ⟨b3, h3⟩ : ∃ b, decide (0 ≤ i ∧ i ≤ 31) = b := ⟨_, rfl⟩
  obtain ⟨b4, h4⟩ : ∃ b, decide (0 ≤ m ∧ m ≤ 100) = b := ⟨_, rfl⟩
  have W1 := hide (within_at c 0 3 b1 h1)
  have W2 := hide (within_at s 1 1073741824 b2 h2)
  have W3 := hide (within_at i 0 31 b3 h3)
  have W4 := hide (within_at m 0 100 b4 h4)
  have HQ := hide (show mayQ c s k i m d = (b1 && b2 && b3 && b4 && mayK k m d) by unfold mayQ; rw [h1, h2, h3, h4])
  clear h1 h2 h3 h4
  have hO := hide ((Old.refl' w).alloc' (.cells #[.int .i64 c, .int .i64 s, .int .i64 k, .int .i64 i, .int .i64 m, .string d] 24))
  by_cases hb : b1 = true ∧ b2 = true ∧ b3 = true ∧ b4 = true
  · obtain ⟨rfl, rfl, rfl, rfl⟩ := hb
    have hE := hide (show mayQ c s k i m d = mayK k m d by rw [HQ.out]; simp)
    clear HQ
    by_cases hd : d = ByteArray.empty
    · subst hd
      by_cases hm : m = 0
      · subst hm
        go_enter Try.func45, Try.ntmps45
        go_wp2_with (go_at_call 54; first | ((with_reducible refine (W1.out _).mono ?_); rintro e w1 ⟨rfl, rfl⟩) | ((with_reducible refine (W2.out _).mono ?_); rintro e w1 ⟨rfl, rfl⟩) | ((with_reducible refine (W3.out _).mono ?_); rintro e w1 ⟨rfl, rfl⟩) | ((with_reducible refine (W4.out _).mono ?_); rintro e w1 ⟨rfl, rfl⟩))
        all_goals go_ret
        all_goals exact ⟨by rw [hE.out]; first | (simp_all [mayK]; done) | (simp_all [mayK]; omega) | (simp_all [mayK]; exact beq0 m), hO.out⟩
      · have e1 : (m == 0) = false := by simpa using hm
        by_cases hm1 : 1 ≤ m
        all_goals
          go_enter Try.func45, Try.ntmps45
          go_wp2_with (go_at_call 54; first | ((with_reducible refine (W1.out _).mono ?_); rintro e w1 ⟨rfl, rfl⟩) | ((with_reducible refine (W2.out _).mono ?_); rintro e w1 ⟨rfl, rfl⟩) | ((with_reducible refine (W3.out _).mono ?_); rintro e w1 ⟨rfl, rfl⟩) | ((with_reducible refine (W4.out _).mono ?_); rintro e w1 ⟨rfl, rfl⟩))
          all_goals go_ret
          all_goals exact ⟨by rw [hE.out]; first | (simp_all [mayK]; done) | (simp_all [mayK]; omega) | (simp_all [mayK]; exact beq0 m), hO.out⟩
    · have e1 : ¬ d.toList = [] := fun e => hd (bytes_nil.1 e)
      have e2 : d.toList.isEmpty = false := by simpa using e1
      by_cases hm : m = 0
      · subst hm
        by_cases hs : d.size ≤ 64
        all_goals
          go_enter Try.func45, Try.ntmps45
          go_wp2_with (go_at_call 54; first | ((with_reducible refine (W1.out _).mono ?_); rintro e w1 ⟨rfl, rfl⟩) | ((with_reducible refine (W2.out _).mono ?_); rintro e w1 ⟨rfl, rfl⟩) | ((with_reducible refine (W3.out _).mono ?_); rintro e w1 ⟨rfl, rfl⟩) | ((with_reducible refine (W4.out _).mono ?_); rintro e w1 ⟨rfl, rfl⟩))
          all_goals go_ret
          all_goals exact ⟨by rw [hE.out]; first | (simp_all [mayK]; done) | (simp_all [mayK]; omega) | (simp_all [mayK]; exact beq0 m), hO.out⟩
      · have e3 : (m == 0) = false := by simpa using hm
        by_cases hm1 : 1 ≤ m
        all_goals
          by_cases hs : d.size ≤ 64
          all_goals
            go_enter Try.func45, Try.ntmps45
            go_wp2_with (go_at_call 54; first | ((with_reducible refine (W1.out _).mono ?_); rintro e w1 ⟨rfl, rfl⟩) | ((with_reducible refine (W2.out _).mono ?_); rintro e w1 ⟨rfl, rfl⟩) | ((with_reducible refine (W3.out _).mono ?_); rintro e w1 ⟨rfl, rfl⟩) | ((with_reducible refine (W4.out _).mono ?_); rintro e w1 ⟨rfl, rfl⟩))
            all_goals go_ret
            all_goals exact ⟨by rw [hE.out]; first | (simp_all [mayK]; done) | (simp_all [mayK]; omega) | (simp_all [mayK]; exact beq0 m), hO.out⟩
  · have hE := hide (show mayQ c s k i m d = false by rw [HQ.out]; cases b1 <;> cases b2 <;> cases b3 <;> cases b4 <;> simp_all)
    clear HQ
    cases b1
    · go_enter Try.func45, Try.ntmps45
      go_wp2_with (go_at_call 54; first | ((with_reducible refine (W1.out _).mono ?_); rintro e w1 ⟨rfl, rfl⟩) | ((with_reducible refine (W2.out _).mono ?_); rintro e w1 ⟨rfl, rfl⟩) | ((with_reducible refine (W3.out _).mono ?_); rintro e w1 ⟨rfl, rfl⟩) | ((with_reducible refine (W4.out _).mono ?_); rintro e w1 ⟨rfl, rfl⟩))
      all_goals go_ret
      all_goals exact ⟨by rw [hE.out]; rfl, hO.out⟩
    cases b2
    · go_enter Try.func45, Try.ntmps45
      go_wp2_with (go_at_call 54; first | ((with_reducible refine (W1.out _).mono ?_); rintro e w1 ⟨rfl, rfl⟩) | ((with_reducible refine (W2.out _).mono ?_); rintro e w1 ⟨rfl, rfl⟩) | ((with_reducible refine (W3.out _).mono ?_); rintro e w1 ⟨rfl, rfl⟩) | ((with_reducible refine (W4.out _).mono ?_); rintro e w1 ⟨rfl, rfl⟩))
      all_goals go_ret
      all_goals exact ⟨by rw [hE.out]; rfl, hO.out⟩
    cases b3
    · go_enter Try.func45, Try.ntmps45
      go_wp2_with (go_at_call 54; first | ((with_reducible refine (W1.out _).mono ?_); rintro e w1 ⟨rfl, rfl⟩) | ((with_reducible refine (W2.out _).mono ?_); rintro e w1 ⟨rfl, rfl⟩) | ((with_reducible refine (W3.out _).mono ?_); rintro e w1 ⟨rfl, rfl⟩) | ((with_reducible refine (W4.out _).mono ?_); rintro e w1 ⟨rfl, rfl⟩))
      all_goals go_ret
      all_goals exact ⟨by rw [hE.out]; rfl, hO.out⟩
    cases b4
    · go_enter Try.func45, Try.ntmps45
      go_wp2_with (go_at_call 54; first | ((with_reducible refine (W1.out _).mono ?_); rintro e w1 ⟨rfl, rfl⟩) | ((with_reducible refine (W2.out _).mono ?_); rintro e w1 ⟨rfl, rfl⟩) | ((with_reducible refine (W3.out _).mono ?_); rintro e w1 ⟨rfl, rfl⟩) | ((with_reducible refine (W4.out _).mono ?_); rintro e w1 ⟨rfl, rfl⟩))
      all_goals go_ret
      all_goals exact ⟨by rw [hE.out]; rfl, hO.out⟩
    exact absurd ⟨rfl, rfl, rfl, rfl⟩ hb
set_option maxRecDepth 100000 in
set_option maxHeartbeats 8000000 in
theorem RMay_any (c s k i m : Int) (d : ByteArray) (w : World) :
    Calls Try.prog 31 #[.agg #[.int .i64 c, .int .i64 s, .int .i64 k, .int .i64 i, .int .i64 m, .string d]] w fun e w' => e = .returned (.bool (mayQ c s k i m d)) ∧ Old w w' := by
  have hO := hide ((Old.refl' w).alloc' (.cells #[.int .i64 c, .int .i64 s, .int .i64 k, .int .i64 i, .int .i64 m, .string d] 24))
  by_cases h1 : 0 ≤ c ∧ c ≤ 3
  · obtain ⟨h1a, h1b⟩ := h1
    by_cases h2 : 1 ≤ s ∧ s ≤ 1073741824
    · obtain ⟨h2a, h2b⟩ := h2
      by_cases h3 : 0 ≤ i ∧ i ≤ 31
      · obtain ⟨h3a, h3b⟩ := h3
        by_cases h4 : 0 ≤ m ∧ m ≤ 100
        · obtain ⟨h4a, h4b⟩ := h4
          have HQ := hide (show mayQ c s k i m d = mayK k m d by unfold mayQ; rw [decide_eq_true ⟨h1a, h1b⟩, decide_eq_true ⟨h2a, h2b⟩, decide_eq_true ⟨h3a, h3b⟩, decide_eq_true ⟨h4a, h4b⟩]; simp)
          by_cases hk : 1 ≤ k ∧ k ≤ 6
          · have hk' : k = 1 ∨ k = 2 ∨ k = 3 ∨ k = 4 ∨ k = 5 ∨ k = 6 := by omega
            clear hk
            by_cases hd : d = ByteArray.empty
            · subst hd
              rcases hk' with rfl | rfl | rfl | rfl | rfl | rfl
              all_goals
                go_enter Try.func31, Try.ntmps31
                go_wp2
                all_goals go_ret
                all_goals exact ⟨by rw [HQ.out]; first | (simp_all [mayK]; done) | (simp_all [mayK]; omega) | (simp_all [mayK]; exact beq0 m), hO.out⟩
            · have e1 : ¬ d.toList = [] := fun e => hd (bytes_nil.1 e)
              have e2 : d.toList.isEmpty = false := by simpa using e1
              by_cases hs : d.size ≤ 64
              all_goals
                rcases hk' with rfl | rfl | rfl | rfl | rfl | rfl
                all_goals
                  go_enter Try.func31, Try.ntmps31
                  go_wp2
                  all_goals go_ret
                  all_goals exact ⟨by rw [HQ.out]; first | (simp_all [mayK]; done) | (simp_all [mayK]; omega) | (simp_all [mayK]; exact beq0 m), hO.out⟩
          · have hE := hide (show mayQ c s k i m d = false by rw [HQ.out]; unfold mayK; rw [if_neg (by omega), if_neg (by omega), if_neg (by omega), if_neg (by omega), if_neg (by omega)])
            clear HQ
            by_cases hk1 : 1 ≤ k
            all_goals
              go_enter Try.func31, Try.ntmps31
              go_wp2
              all_goals go_ret
              all_goals exact ⟨by rw [hE.out]; rfl, hO.out⟩
        · have hE := hide (show mayQ c s k i m d = false by unfold mayQ; rw [decide_eq_false h4]; simp)
          by_cases hl : 0 ≤ m
          all_goals
            go_enter Try.func31, Try.ntmps31
            go_wp2
            all_goals go_ret
            all_goals exact ⟨by rw [hE.out]; rfl, hO.out⟩
      · have hE := hide (show mayQ c s k i m d = false by unfold mayQ; rw [decide_eq_false h3]; simp)
        by_cases hl : 0 ≤ i
        all_goals
          go_enter Try.func31, Try.ntmps31
          go_wp2
          all_goals go_ret
          all_goals exact ⟨by rw [hE.out]; rfl, hO.out⟩
    · have hE := hide (show mayQ c s k i m d = false by unfold mayQ; rw [decide_eq_false h2]; simp)
      by_cases hl : 1 ≤ s
      all_goals
        go_enter Try.func31, Try.ntmps31
        go_wp2
        all_goals go_ret
        all_goals exact ⟨by rw [hE.out]; rfl, hO.out⟩
  · have hE := hide (show mayQ c s k i m d = false by unfold mayQ; rw [decide_eq_false h1]; simp)
    by_cases hl : 0 ≤ c
    all_goals
      go_enter Try.func31, Try.ntmps31
      go_wp2
      all_goals go_ret
      all_goals exact ⟨by rw [hE.out]; rfl, hO.out⟩
end Go.Proofs.Ytffahoocbjfdaaa
