/- check.Check whatever it is given; check.Writes. -/
import Derived.Test.YtffahoocbjfdaaaHCCk
namespace Go.Proofs.Ytffahoocbjfdaaa
open Go.RowKit Go.Shelf

attribute [local go_sem] Oper.semAt_some
set_option maxRecDepth 100000 in
set_option maxHeartbeats 4000000 in
theorem Check_bad (A : Option Addr) (n ca : Nat) (l : List ActV) (hl : n = l.length) (hok : Few23 l) (Al : Option Addr) (nl cl : Nat) (log : List ReqV) (hll : nl = log.length) (hnl : nl ≤ 1000) (qt : Int) (rd : Bool) (lb mb : Bool) (hlog : okLog qt log = lb) (hmay : mayP l = mb) (hb : (lb && mb) = false) (w : World) (hA : ActsAt w A l) (hQ : ReqsAt w Al log) :
    CallsIn Fence.wide 5 Try.prog 11 #[.slice A n ca, .slice Al nl cl, .int .i64 qt, .bool rd] w fun e w' => e = .returned (.int .i64 1) ∧ Old w w' := by
  have cN := hide (fun W (h : Old w W) => (NewModel_any Al nl cl log hll hnl qt lb hlog W (CellsAt.old hQ h)).mono (R' := fun e w' => ∃ P, e = .returned (.tuple #[.pointer P, .bool lb]) ∧ Old W w') fun e w' ⟨P, h1, h2, _⟩ => ⟨P, h1, h2⟩)
  have cM := hide (fun W (h : Old w W) => PMay_any A n ca l hl hok mb hmay W (hA.old h))
  clear hl hok hll hlog hmay hA hQ
  refine callsIn_of_wp_marks Try.func11 rfl trivial ?_ rfl
  simp only [Try.ntmps11, List.size_toArray, List.length_cons, List.length_nil, Nat.reduceAdd, Nat.reduceSub, Array.replicate_succ, Array.replicate_zero, List.push_toArray, List.append_toArray, List.nil_append, List.cons_append]
  obtain ⟨W0, hW0⟩ : ∃ X, ((w.alloc (.cells #[.slice A n ca] 28)).alloc (.cells #[.bool rd] 4)).alloc (.cells #[.int .i64 0] 3) = X := ⟨_, rfl⟩
  have o0 : Old w W0 := by rw [← hW0]; exact (((Old.refl' w).alloc' _).alloc' _).alloc' _
  obtain ⟨b4, hb4⟩ : ∃ x, w.heap.size = x := ⟨_, rfl⟩
  obtain ⟨b7, hb7⟩ : ∃ x, b4 + 1 = x := ⟨_, rfl⟩
  obtain ⟨b8, hb8⟩ : ∃ x, b7 + 1 = x := ⟨_, rfl⟩
  have k4 : Bk W0 b4 28 #[.slice A n ca] := by rw [← hW0, ← hb4]; exact ((Bk.new w 28 _).alloc _).alloc _
  have k8 : Bk W0 b8 3 #[.int .i64 0] := by
    rw [← hW0, ← hb8, ← hb7, ← hb4]
    have := bk_new1 (w.alloc (.cells #[.slice A n ca] 28)) (.cells #[.bool rd] 4) 3 #[.int .i64 0]
    simpa using this
  have hbw : w.heap.size ≤ b8 := by omega
  cases lb
  · clear hb
    gi_wp2_with (refine ⟨trivial, ?_⟩; gi_at_call 23; refine (callsIn_wide.2 (cN.out W0 o0)).mono ?_; rintro e w1 ⟨P, rfl, o1⟩; have k8' := k8.old (o1.alloc' (.cells #[.pointer P] 65)); have z8 := k8'.cell 0; have f8 := k8'.frozen 0)
    refine ⟨trivial, ?_⟩
    gi_wp2
    have a0 := (k8'.set_ 0 (.int .i64 1)).cell 0
    simp at a0
    exact ⟨.int .i64 1, by simp [results, Try.f11, go_sem, a0], rfl, Old.setCell' (p := ⟨b8, 0, none⟩) ((o0.trans' o1).alloc' _) hbw _⟩
  · obtain rfl : mb = false := by simpa using hb
    clear hb
    gi_wp2_with (first
      | (refine ⟨trivial, ?_⟩; gi_at_call 23; refine (callsIn_wide.2 (cN.out W0 o0)).mono ?_; rintro e w1 ⟨P, rfl, o1⟩; have z4 := (k4.old (o1.alloc' (.cells #[.pointer P] 65))).cell 0)
      | (refine ⟨trivial, ?_⟩; gi_at_call 24; refine (callsIn_wide.2 (cM.out _ (o0.trans' (o1.alloc' _)))).mono ?_; rintro e w2 ⟨rfl, o2⟩; have k8' := (k8.old (o1.alloc' (.cells #[.pointer P] 65))).old o2; have z8 := k8'.cell 0; have f8 := k8'.frozen 0))
    have a0 := (k8'.set_ 0 (.int .i64 1)).cell 0
    simp at a0
    exact ⟨.int .i64 1, by simp [results, Try.f11, go_sem, a0], rfl, Old.setCell' (p := ⟨b8, 0, none⟩) ((o0.trans' (o1.alloc' _)).trans' o2) hbw _⟩
theorem Check_any (A : Option Addr) (n ca : Nat) (l : List ActV) (hl : n = l.length) (hok : Few23 l) (Al : Option Addr) (nl cl : Nat) (log : List ReqV) (hll : nl = log.length) (hnl : nl ≤ 1000) (hcl : nl ≤ cl) (qt : Int) (rd : Bool) (E : Int) (hE : checkP l log qt rd = E) (w : World) (hA : ActsAt w A l) (hQ : ReqsAt w Al log) :
    Calls Try.prog 11 #[.slice A n ca, .slice Al nl cl, .int .i64 qt, .bool rd] w fun e w' => e = .returned (.int .i64 E) ∧ Old w w' := by
  unfold checkP at hE
  by_cases h1 : okLog qt log = true
  · by_cases h2 : mayP l = true
    · rw [h1, h2, ← hl] at hE
      exact callsIn_wide.1 (Check_in A n ca l hl hok Al nl cl log hll hnl hcl qt rd h1 h2 E hE w hA hQ)
    · have h2' : mayP l = false := by simpa using h2
      rw [h1, h2'] at hE
      exact hE ▸ callsIn_wide.1 (Check_bad A n ca l hl hok Al nl cl log hll hnl qt rd true false h1 h2' rfl w hA hQ)
  · have h1' : okLog qt log = false := by simpa using h1
    rw [h1', Bool.false_and] at hE
    exact hE ▸ callsIn_wide.1 (Check_bad A n ca l hl hok Al nl cl log hll hnl qt rd false _ h1' rfl rfl w hA hQ)
set_option maxHeartbeats 400000 in
theorem CWrites_any (A : Option Addr) (n ca : Nat) (l : List ActV) (hl : n = l.length) (hok : Few23 l) (Al : Option Addr) (nl cl : Nat) (log : List ReqV) (hll : nl = log.length) (hnl : nl ≤ 1000) (hcl : nl ≤ cl) (qt : Int) (E : Int) (hE : checkP l log qt false = E) (w : World) (hA : ActsAt w A l) (hQ : ReqsAt w Al log) :
    Calls Try.prog 17 #[.slice A n ca, .slice Al nl cl, .int .i64 qt] w fun e w' => e = .returned (.int .i64 E) ∧ Old w w' := by
  have cC := hide (Check_any A n ca l hl hok Al nl cl log hll hnl hcl qt false E hE w hA hQ)
  clear hl hok hll hE hA hQ
  go_enter Try.func17, Try.ntmps17
  go_wp2_with (go_at_call 11; refine cC.out.mono ?_; rintro e w1 ⟨rfl, h1⟩)
  go_ret
  exact ⟨rfl, h1⟩
end Go.Proofs.Ytffahoocbjfdaaa
