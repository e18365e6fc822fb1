/- The document's Do, at every request. -/
import Derived.Test.YtffahoocbjfdaaaHRDoC
import Derived.Test.YtffahoocbjfdaaaHRDoU
import Derived.Test.YtffahoocbjfdaaaHRDoD
namespace Go.Proofs.Ytffahoocbjfdaaa
open Go.RowKit
set_option maxRecDepth 100000 in
set_option maxHeartbeats 2000000 in
theorem RDo_reads (A : Option Addr) (n cap : Nat) (vs : List Ver) (hn : n ≤ 100000) (hl : n = vs.length) (c s k i m quota : Int) (d : ByteArray) (w : World) (hV : Vers w A vs) (hm : -9223372036854775808 ≤ m) (hm2 : m ≤ 9223372036854775807)
    (k1 : k ≠ 1) (k2 : k ≠ 2) (k3 : k ≠ 3) :
    Calls Try.prog 32 #[.slice A n cap, .agg #[.int .i64 c, .int .i64 s, .int .i64 k, .int .i64 i, .int .i64 m, .string d], .int .i64 quota] w fun e w' =>
      ∃ v u, e = .returned (.tuple #[v, u]) ∧ VersIs w A vs w' v (doL vs k m quota d) ∧ RepAt w w' u (doRep vs k m quota d) ∧ Old w w' := by
  have hA := hide (fun (W : World) (h : Vers W A vs) => RAsk_any A n cap vs hn hl c s k i m d W h hm hm2)
  have E1 := hide (show doL vs k m quota d = vs by simp [doL, k1, k2, k3])
  have E2 := hide (show doRep vs k m quota d = askR vs k m by simp [doRep, k1, k2, k3])
  obtain ⟨r, hr⟩ : ∃ r, r = askR vs k m := ⟨_, rfl⟩
  rw [← hr] at hA
  have HR := hide hr
  have HL := hide hl
  clear hl hm hm2 hr
  have hV2 := hide ((hV.alloc (.cells #[.int .i64 c, .int .i64 s, .int .i64 k, .int .i64 i, .int .i64 m, .string d] 24)).alloc (.cells #[.int .i64 0, .int .i64 0, .string { data := #[] }, .slice none 0 0] 43))
  have hw : Writes k = false := by simp [Writes, k1, k2, k3]
  have HW := hide hw
  clear hw
  by_cases h0 : n = 0
  · subst h0
    have hvs : vs = [] := List.eq_nil_of_length_eq_zero HL.out.symm
    go_enter Try.func32, Try.ntmps32
    go_wp2_with (first | (go_at_call 18; refine (Writes_no _ _ _ _ _ _ _ HW.out).mono ?_; rintro e w1 ⟨rfl, hb1⟩; obtain ⟨k1, k2⟩ := bcell hb1; have z1 : w.heap.size + 1 < w1.heap.size := (by have := hb1.size; simp at this; omega); have z0 : w.heap.size < w1.heap.size := (by omega)) | (go_at_call 33; go_must (refine (hA.out _ (Vers.old hV2.out hb1)).mono ?_); rintro e w2 ⟨u, rfl, ⟨A2, c2, rfl, hi2, hn2⟩, hb2⟩; obtain ⟨p1, p2⟩ := bcell hb2))
    have s0 : w2.cell? ⟨w.heap.size + 1, 0, none⟩ = some (.int .i64 0) := by rw [p1 _ _ z1, k1 _ _ (by simp)]; simp [go_sem]
    have s1 : w2.cell? ⟨w.heap.size + 1, 1, none⟩ = some (.int .i64 0) := by rw [p1 _ _ z1, k1 _ _ (by simp)]; simp [go_sem]
    have s2 : w2.cell? ⟨w.heap.size + 1, 2, none⟩ = some (.string ByteArray.empty) := by rw [p1 _ _ z1, k1 _ _ (by simp)]; simp [go_sem, bempty]
    have s3 : w2.cell? ⟨w.heap.size + 1, 3, none⟩ = some (.slice none 0 0) := by rw [p1 _ _ z1, k1 _ _ (by simp)]; simp [go_sem]
    have hn2' : ∀ a, A2 = some a → a.block ≠ w.heap.size + 1 := fun a ha => by have := hn2 a ha; omega
    refine bodyPost_ret (v := .tuple #[.slice A 0 cap, .agg #[.int .i64 r.code, .int .i64 r.ver, .string r.data, .slice A2 r.vs.length c2]]) ?_ rfl ⟨_, _, rfl, ?_, ?_, ?_⟩
    · simp [results, Try.results32, go_sem, s0, s1, s2, s3]
    · rw [E1.out]
      exact ⟨A, cap, by rw [← HL.out], by rw [hvs]; exact CellsAt.nil _ _, .inl ⟨rfl, rfl⟩⟩
    · rw [E2.out, ← HR.out]
      exact ⟨A2, c2, rfl, (((CellsAt.set_ hi2 (p := ⟨w.heap.size + 1, 0, none⟩) hn2' _).set_ (p := ⟨w.heap.size + 1, 1, none⟩) hn2' _).set_ (p := ⟨w.heap.size + 1, 2, none⟩) hn2' _).set_ (p := ⟨w.heap.size + 1, 3, none⟩) hn2' _, fun a ha => by have := hn2 a ha; omega⟩
    · repeat (first | with_reducible refine Old.drew' ?_ | with_reducible refine Old.setCell' ?_ (by simp) _ | with_reducible refine Old.alloc' ?_ _ | with_reducible refine Old.trans' ?_ hb2 | with_reducible refine Old.trans' ?_ hb1 | with_reducible exact Old.refl' _)
  · have h0' : decide (0 < (n : Int)) = true := by simp; omega
    have hne : ∀ a, A = some a → a.block ≠ w.heap.size + 1 := fun a ha => by
      subst ha
      obtain ⟨b, o, e, hb, _⟩ := hV.at_ (k := 0) (by have := HL.out; omega)
      cases e; simp; omega
    obtain ⟨b, o, rfl, hb, g1, -⟩ := hV.at_ (k := n - 1) (by have := HL.out; omega)
    obtain ⟨g, hg⟩ : ∃ g, g = (vs[n - 1]?.getD default).1 := ⟨_, rfl⟩
    rw [← hg] at g1
    clear hg
    go_enter Try.func32, Try.ntmps32
    go_wp2_with (first | (go_at_call 18; refine (Writes_no _ _ _ _ _ _ _ HW.out).mono ?_; rintro e w1 ⟨rfl, hb1⟩; obtain ⟨k1, k2⟩ := bcell hb1; have z1 : w.heap.size + 1 < w1.heap.size := (by have := hb1.size; simp at this; omega); have z0 : w.heap.size < w1.heap.size := (by omega)) | (go_at_call 33; go_must (refine (hA.out _ (Vers.old hV2.out hb1)).mono ?_); rintro e w2 ⟨u, rfl, ⟨A2, c2, rfl, hi2, hn2⟩, hb2⟩; obtain ⟨p1, p2⟩ := bcell hb2))
    have s0 : w2.cell? ⟨w.heap.size + 1, 0, none⟩ = some (.int .i64 0) := by rw [p1 _ _ z1, k1 _ _ (by simp)]; simp [go_sem]
    have s1 : w2.cell? ⟨w.heap.size + 1, 1, none⟩ = some (.int .i64 0) := by rw [p1 _ _ z1, k1 _ _ (by simp)]; simp [go_sem]
    have s2 : w2.cell? ⟨w.heap.size + 1, 2, none⟩ = some (.string ByteArray.empty) := by rw [p1 _ _ z1, k1 _ _ (by simp)]; simp [go_sem, bempty]
    have s3 : w2.cell? ⟨w.heap.size + 1, 3, none⟩ = some (.slice none 0 0) := by rw [p1 _ _ z1, k1 _ _ (by simp)]; simp [go_sem]
    have hn2' : ∀ a, A2 = some a → a.block ≠ w.heap.size + 1 := fun a ha => by have := hn2 a ha; omega
    refine bodyPost_ret (v := .tuple #[.slice (some ⟨b, o, none⟩) n cap, .agg #[.int .i64 r.code, .int .i64 r.ver, .string r.data, .slice A2 r.vs.length c2]]) ?_ rfl ⟨_, _, rfl, ?_, ?_, ?_⟩
    · simp [results, Try.results32, go_sem, s0, s1, s2, s3]
    · rw [E1.out]
      exact ⟨(some ⟨b, o, none⟩), cap, by rw [← HL.out], CellsAt.set_ (CellsAt.set_ (CellsAt.set_ (CellsAt.set_ (CellsAt.old (CellsAt.old hV2.out hb1) hb2) hne _) hne _) hne _) hne _, .inl ⟨rfl, rfl⟩⟩
    · rw [E2.out, ← HR.out]
      exact ⟨A2, c2, rfl, (((CellsAt.set_ hi2 (p := ⟨w.heap.size + 1, 0, none⟩) hn2' _).set_ (p := ⟨w.heap.size + 1, 1, none⟩) hn2' _).set_ (p := ⟨w.heap.size + 1, 2, none⟩) hn2' _).set_ (p := ⟨w.heap.size + 1, 3, none⟩) hn2' _, fun a ha => by have := hn2 a ha; omega⟩
    · repeat (first | with_reducible refine Old.drew' ?_ | with_reducible refine Old.setCell' ?_ (by simp) _ | with_reducible refine Old.alloc' ?_ _ | with_reducible refine Old.trans' ?_ hb2 | with_reducible refine Old.trans' ?_ hb1 | with_reducible exact Old.refl' _)
theorem RDo_any (A : Option Addr) (n cap : Nat) (vs : List Ver) (hn : n ≤ 100000) (hl : n = vs.length) (c s k i m quota : Int) (d : ByteArray) (w : World) (hV : Vers w A vs) (hm : -9223372036854775808 ≤ m) (hm2 : m ≤ 9223372036854775807) :
    Calls Try.prog 32 #[.slice A n cap, .agg #[.int .i64 c, .int .i64 s, .int .i64 k, .int .i64 i, .int .i64 m, .string d], .int .i64 quota] w fun e w' =>
      ∃ v u, e = .returned (.tuple #[v, u]) ∧ VersIs w A vs w' v (doL vs k m quota d) ∧ RepAt w w' u (doRep vs k m quota d) ∧ Old w w' := by
  by_cases h1 : k = 1
  · subst h1; exact RDo_create A n cap vs hn hl c s i m quota d w hV
  · by_cases h2 : k = 2
    · subst h2; exact RDo_update A n cap vs hn hl c s i m quota d w hV
    · by_cases h3 : k = 3
      · subst h3; exact RDo_delete A n cap vs hn hl c s i m quota d w hV
      · exact RDo_reads A n cap vs hn hl c s k i m quota d w hV hm hm2 h1 h2 h3
end Go.Proofs.Ytffahoocbjfdaaa
