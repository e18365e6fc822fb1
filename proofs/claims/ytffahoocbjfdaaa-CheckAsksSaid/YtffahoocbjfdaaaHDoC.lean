/- chart.Do: one kind of request that writes. -/
import Derived.Test.YtffahoocbjfdaaaHDo
namespace Go.Proofs.Ytffahoocbjfdaaa
open Go.RowKit
set_option maxRecDepth 100000 in
set_option maxHeartbeats 4000000 in
theorem Do_create (A : Option Addr) (n cap : Nat) (vs : List Ver) (hn : n ≤ 100000) (hl : n = vs.length) (c s i m quota : Int) (d : ByteArray) (w : World) (hV : Vers w A vs) :
    Calls Try.prog 47 #[.slice A n cap, .agg #[.int .i64 c, .int .i64 s, .int .i64 1, .int .i64 i, .int .i64 m, .string d], .int .i64 quota] w fun e w' =>
      ∃ v u, e = .returned (.tuple #[v, u]) ∧ VersAt w w' v (doR vs 1 m quota d).1 ∧ RepAt w w' u ⟨(doR vs 1 m quota d).2.1, (doR vs 1 m quota d).2.2, ByteArray.empty, []⟩ ∧ Old w w' := by
  obtain ⟨i0, hi0, hz0, hz1, hz2⟩ := info_parts info_ver
  have hC := hide (fun (W : World) (h : Vers W A vs) => Clone_any A n cap vs hn hl W h)
  have hL := hide (fun (W : World) (h : Vers W A vs) => last_any A n cap vs hn hl W h)
  have HL := hide hl
  clear hl
  have hV2 := hide ((hV.alloc (.cells #[.int .i64 c, .int .i64 s, .int .i64 1, .int .i64 i, .int .i64 m, .string d] 24)).alloc (.cells #[.int .i64 0, .int .i64 0, .string ByteArray.empty, .slice none 0 0] 43))
  obtain ⟨x, hx⟩ : ∃ x, x = lastV vs := ⟨_, rfl⟩
  obtain ⟨g, d1⟩ := x
  rw [← hx] at hL
  have HX := hide hx
  clear hx
  by_cases h0 : n = 0
  · have hvs : vs = [] := List.eq_nil_of_length_eq_zero (by have := HL.out; omega)
    have h0l : n ≤ 0 := by omega
    clear h0
    by_cases hm0 : m = 0
    · subst hm0
      by_cases hq : quota ≤ (n : Int)
      · go_enter Try.func47, Try.ntmps47
        go_wp2_with (first | (go_at_call 58; refine (hL.out _ hV2.out).mono ?_; rintro e w1 ⟨rfl, hb1⟩; obtain ⟨k1, k2⟩ := bcell hb1; have z1 : w.heap.size + 1 < w1.heap.size := (by have := hb1.size; simp at this; omega); have z0 : w.heap.size < w1.heap.size := (by omega)) | (go_at_call 56; refine (hC.out _ (CellsAt.alloc (CellsAt.old hV2.out hb1) _)).mono ?_; rintro e w2 ⟨A2, c2, rfl, hown2, hb2⟩; obtain ⟨p1, p2⟩ := bcell hb2; have z2 : w.heap.size + 1 < w2.heap.size := (by have := hb2.size; simp at this; omega)))
        have s0 : w2.cell? ⟨w.heap.size + 1, 0, none⟩ = some (.int .i64 0) := by rw [p1 _ _ (by simp; omega)]; simp [go_sem, k1, z1]
        have s1 : w2.cell? ⟨w.heap.size + 1, 1, none⟩ = some (.int .i64 0) := by rw [p1 _ _ (by simp; omega)]; simp [go_sem, k1, z1]
        have s2 : w2.cell? ⟨w.heap.size + 1, 2, none⟩ = some (.string ByteArray.empty) := by rw [p1 _ _ (by simp; omega)]; simp [go_sem, k1, z1, bempty]
        have s3 : w2.cell? ⟨w.heap.size + 1, 3, none⟩ = some (.slice none 0 0) := by rw [p1 _ _ (by simp; omega)]; simp [go_sem, k1, z1]
        have hne : ∀ a, A2 = some a → a.block ≠ w.heap.size + 1 := fun a ha => by have := own_new hown2 a ha; simp at this; omega
        have e : doR vs 1 0 quota d = (vs, 6, (n : Int)) := by (have hn0 : n = 0 := by omega); subst hn0; simp [doR, hvs, hq] <;> omega
        refine bodyPost_ret (v := .tuple #[.slice A2 n c2, .agg #[.int .i64 6, .int .i64 (n : Int), .string ByteArray.empty, .slice none 0 0]]) ?_ rfl ⟨_, _, rfl, ?_, ?_, ?_⟩
        · simp [results, Try.results47, go_sem, s0, s1, s2, s3, bempty]
        · rw [e]
          refine ⟨A2, c2, by rw [HL.out], ?_, fun a ha => by have := own_new hown2 a ha; simp at this; omega, by rw [← HL.out]; exact own_cap hown2⟩
          exact (((((CellsAt.of_own hown2)).set_ (p := ⟨w.heap.size + 1, 0, none⟩) hne _).set_ (p := ⟨w.heap.size + 1, 1, none⟩) hne _).set_ (p := ⟨w.heap.size + 1, 2, none⟩) hne _).set_ (p := ⟨w.heap.size + 1, 3, none⟩) hne _
        · rw [e]; exact RepAt.nil _ _ _ _ _
        · repeat (first | with_reducible refine Old.drew' ?_ | with_reducible refine Old.setCell' ?_ (by simp) _ | with_reducible refine Old.alloc' ?_ _ | with_reducible refine Old.trans' ?_ hb2 | with_reducible refine Old.trans' ?_ hb1 | with_reducible exact Old.refl' _)
      · have e : doR vs 1 0 quota d = (vs ++ [(false, d)], 1, (n : Int) + 1) := by (have hn0 : n = 0 := by omega); subst hn0; simp [doR, hvs, hq] <;> omega
        go_enter Try.func47, Try.ntmps47
        go_wp2_with (first | (go_at_call 58; refine (hL.out _ hV2.out).mono ?_; rintro e w1 ⟨rfl, hb1⟩; obtain ⟨k1, k2⟩ := bcell hb1; have z1 : w.heap.size + 1 < w1.heap.size := (by have := hb1.size; simp at this; omega); have z0 : w.heap.size < w1.heap.size := (by omega)))
        generalize hW : World.alloc (World.alloc w1 _) _ = W0
        have f0 : W0.cell? ⟨w1.heap.size + 1, 0, none⟩ = some (.bool false) := by rw [← hW]; simp [go_sem]
        have f1 : W0.cell? ⟨w1.heap.size + 1, 1, none⟩ = some (.string d) := by rw [← hW]; simp [go_sem]
        have r0 : W0.cell? ⟨w.heap.size + 1, 0, none⟩ = some (.int .i64 0) := by rw [← hW]; simp [go_sem, k1, z1, z0]
        have r1 : W0.cell? ⟨w.heap.size + 1, 1, none⟩ = some (.int .i64 0) := by rw [← hW]; simp [go_sem, k1, z1, z0]
        have r2 : W0.cell? ⟨w.heap.size + 1, 2, none⟩ = some (.string ByteArray.empty) := by rw [← hW]; simp [go_sem, k1, z1, z0, bempty]
        have r3 : W0.cell? ⟨w.heap.size + 1, 3, none⟩ = some (.slice none 0 0) := by rw [← hW]; simp [go_sem, k1, z1, z0]
        have g0 : W0.frozen? ⟨w.heap.size + 1, 0, none⟩ = false := by rw [← hW]; simp [go_sem, k2, z1, z0]
        have g1 : W0.frozen? ⟨w.heap.size + 1, 1, none⟩ = false := by rw [← hW]; simp [go_sem, k2, z1, z0]
        have g2 : W0.frozen? ⟨w.heap.size + 1, 2, none⟩ = false := by rw [← hW]; simp [go_sem, k2, z1, z0]
        have g3 : W0.frozen? ⟨w.heap.size + 1, 3, none⟩ = false := by rw [← hW]; simp [go_sem, k2, z1, z0]
        have hb0 : Old w1 W0 := by rw [← hW]; repeat (first | with_reducible refine Old.drew' ?_ | with_reducible refine Old.setCell' ?_ (by simp) _ | with_reducible refine Old.alloc' ?_ _ | with_reducible exact Old.refl' _)
        have hs0 : W0.heap.size = w1.heap.size + 2 := by rw [← hW]; simp
        have zz : w.heap.size + 1 < W0.heap.size := by omega
        have zy : w1.heap.size + 1 < W0.heap.size := by omega
        have hv0 := hide (CellsAt.old (CellsAt.old hV2.out hb1) hb0)
        have HS := hide hs0
        clear hW hs0
        go_region_held3 (fun w' => w'.cell? ⟨w1.heap.size + 1, 0, none⟩ = some (.bool false) ∧ w'.cell? ⟨w1.heap.size + 1, 1, none⟩ = some (.string d))
          (first | go_keep | exact ⟨(set4_other (by omega)).trans ((j1 _ _ zy).trans f0), (set4_other (by omega)).trans ((j1 _ _ zy).trans f1)⟩)
          (first
            | (go_at_call 56; refine (hC.out _ (CellsAt.old hv0.out (by first | exact (Old.refl' W0).drew' | exact ((Old.refl' W0).alloc' _).drew'))).mono ?_; rintro e w2 ⟨A2, c2, rfl, hown2, hb2⟩; have hb2' : Old W0 w2 := (by first | exact Old.trans' ((Old.refl' W0).drew') hb2 | exact Old.trans' (((Old.refl' W0).alloc' _).drew') hb2); obtain ⟨p1, p2⟩ := bcell hb2')
            | (refine step_append_lies _ (by rfl) (.tmp 93) (.tmp 95) 57 (by rfl) _ 96 i0 _ 2 24 Try.underlying57 hi0 hz0 hz1 hz2 rfl (by omega) (.slice A2 n c2) n (verCells vs) (by rfl) (hown2.alloc _) ⟨w2.heap.size, 0, none⟩ 1 1 [.bool false, .string d] (by rfl) (by rfl) (World.news_of_block (cs := #[.bool false, .string d]) (t := 96) (fr := (0, 0)) (heap_alloc_new w2 _)) (by simp [Value.oneCell']) (by omega) (by unfold maxLen; omega) (by omega) (by have := hb2'.size; simp; omega) (w2.heap.size + 1) (by simp) ?_; intro gg cc w3 hown3 hgrow3 hat3 hlt3; have hb3 := old_grown (hb2'.alloc' _) hgrow3 (hown2.alloc _) (by simp); obtain ⟨j1, j2⟩ := bcell hb3)
            | (refine step_append_lies _ (by rfl) (.tmp 93) (.tmp 95) 57 (by rfl) _ 96 i0 _ 2 24 Try.underlying57 hi0 hz0 hz1 hz2 rfl (by omega) (.slice A2 n c2) n (verCells vs) (by rfl) hown2 ⟨W0.heap.size, 0, none⟩ 1 1 [.bool false, .string d] (by rfl) (by rfl) (World.news_of_block (cs := #[.bool false, .string d]) (t := 96) (fr := (0, 0)) (Bk.old (Bk.drew (Bk.new W0 _ _)) hb2)) (by simp [Value.oneCell']) (by omega) (by unfold maxLen; omega) (by omega) hb2.size (w2.heap.size) (by simp) ?_; intro gg cc w3 hown3 hgrow3 hat3 hlt3; have hb3 := old_grown hb2' hgrow3 hown2 (by simp); obtain ⟨j1, j2⟩ := bcell hb3))
        all_goals
          go_wp2
          have t0 := (j1 _ 0 zz).trans r0
          have t1 := (j1 _ 1 zz).trans r1
          have t2 := (j1 _ 2 zz).trans r2
          have t3 := (j1 _ 3 zz).trans r3
          have hgg := own_new hown3 _ rfl
          simp at hgg
          have hwr : IntKind.i64.wrap ((n : Int) + 1) = (n : Int) + 1 := IntWalk.i64_in _ (by omega)
          have hne : ∀ a, some (⟨gg, 0, none⟩ : Addr) = some a → a.block ≠ w.heap.size + 1 := fun a ha => by injection ha with ha; subst ha; simp; omega
          refine bodyPost_ret (v := .tuple #[.slice (some ⟨gg, 0, none⟩) (n + 1) cc, .agg #[.int .i64 1, .int .i64 ((n : Int) + 1), .string ByteArray.empty, .slice none 0 0]]) ?_ rfl ⟨_, _, rfl, ?_, ?_, ?_⟩
          · simp [results, Try.results47, go_sem, t0, t1, t2, t3, bempty, hwr]
          · rw [e]
            refine ⟨some ⟨gg, 0, none⟩, cc, by simp [HL.out], ?_, fun a ha => by injection ha with ha; subst ha; simp; omega, by have := own_cap hown3; simp [← HL.out]; omega⟩
            have hv3 := CellsAt.of_own hown3
            rw [show verCells vs ++ [Value.bool false, .string d] = verCells (vs ++ [(false, d)]) from by simp [verCells_append, verCells, bempty]] at hv3
            exact (((hv3.set_ (p := ⟨w.heap.size + 1, 0, none⟩) hne _).set_ (p := ⟨w.heap.size + 1, 1, none⟩) hne _).set_ (p := ⟨w.heap.size + 1, 2, none⟩) hne _).set_ (p := ⟨w.heap.size + 1, 3, none⟩) hne _
          · rw [e]; exact RepAt.nil _ _ _ _ _
          · repeat (first | with_reducible refine Old.drew' ?_ | with_reducible refine Old.setCell' ?_ (by simp) _ | with_reducible refine Old.alloc' ?_ _ | with_reducible refine Old.trans' ?_ hb3 | with_reducible refine Old.trans' ?_ hb0 | with_reducible refine Old.trans' ?_ hb1 | with_reducible exact Old.refl' _)
    · have hm0' : (m != 0) = true := by simpa using hm0
      have hmn' : (m != (n : Int)) = true := by simp; omega
      go_enter Try.func47, Try.ntmps47
      go_wp2_with (first | (go_at_call 58; refine (hL.out _ hV2.out).mono ?_; rintro e w1 ⟨rfl, hb1⟩; obtain ⟨k1, k2⟩ := bcell hb1; have z1 : w.heap.size + 1 < w1.heap.size := (by have := hb1.size; simp at this; omega); have z0 : w.heap.size < w1.heap.size := (by omega)) | (go_at_call 56; refine (hC.out _ (CellsAt.alloc (CellsAt.old hV2.out hb1) _)).mono ?_; rintro e w2 ⟨A2, c2, rfl, hown2, hb2⟩; obtain ⟨p1, p2⟩ := bcell hb2; have z2 : w.heap.size + 1 < w2.heap.size := (by have := hb2.size; simp at this; omega)))
      have s0 : w2.cell? ⟨w.heap.size + 1, 0, none⟩ = some (.int .i64 0) := by rw [p1 _ _ (by simp; omega)]; simp [go_sem, k1, z1]
      have s1 : w2.cell? ⟨w.heap.size + 1, 1, none⟩ = some (.int .i64 0) := by rw [p1 _ _ (by simp; omega)]; simp [go_sem, k1, z1]
      have s2 : w2.cell? ⟨w.heap.size + 1, 2, none⟩ = some (.string ByteArray.empty) := by rw [p1 _ _ (by simp; omega)]; simp [go_sem, k1, z1, bempty]
      have s3 : w2.cell? ⟨w.heap.size + 1, 3, none⟩ = some (.slice none 0 0) := by rw [p1 _ _ (by simp; omega)]; simp [go_sem, k1, z1]
      have hne : ∀ a, A2 = some a → a.block ≠ w.heap.size + 1 := fun a ha => by have := own_new hown2 a ha; simp at this; omega
      have e : doR vs 1 m quota d = (vs, 5, (n : Int)) := by (have hn0 : n = 0 := by omega); subst hn0; simp [doR, hvs, hm0]
      refine bodyPost_ret (v := .tuple #[.slice A2 n c2, .agg #[.int .i64 5, .int .i64 (n : Int), .string ByteArray.empty, .slice none 0 0]]) ?_ rfl ⟨_, _, rfl, ?_, ?_, ?_⟩
      · simp [results, Try.results47, go_sem, s0, s1, s2, s3, bempty]
      · rw [e]
        refine ⟨A2, c2, by rw [HL.out], ?_, fun a ha => by have := own_new hown2 a ha; simp at this; omega, by rw [← HL.out]; exact own_cap hown2⟩
        exact (((((CellsAt.of_own hown2)).set_ (p := ⟨w.heap.size + 1, 0, none⟩) hne _).set_ (p := ⟨w.heap.size + 1, 1, none⟩) hne _).set_ (p := ⟨w.heap.size + 1, 2, none⟩) hne _).set_ (p := ⟨w.heap.size + 1, 3, none⟩) hne _
      · rw [e]; exact RepAt.nil _ _ _ _ _
      · repeat (first | with_reducible refine Old.drew' ?_ | with_reducible refine Old.setCell' ?_ (by simp) _ | with_reducible refine Old.alloc' ?_ _ | with_reducible refine Old.trans' ?_ hb2 | with_reducible refine Old.trans' ?_ hb1 | with_reducible exact Old.refl' _)
  · have h0p : 0 < n := by omega
    have hvs : vs ≠ [] := by rintro rfl; exact h0 HL.out
    cases g
    · go_enter Try.func47, Try.ntmps47
      go_wp2_with (first | (go_at_call 58; refine (hL.out _ hV2.out).mono ?_; rintro e w1 ⟨rfl, hb1⟩; obtain ⟨k1, k2⟩ := bcell hb1; have z1 : w.heap.size + 1 < w1.heap.size := (by have := hb1.size; simp at this; omega); have z0 : w.heap.size < w1.heap.size := (by omega)) | (go_at_call 56; refine (hC.out _ (CellsAt.alloc (CellsAt.old hV2.out hb1) _)).mono ?_; rintro e w2 ⟨A2, c2, rfl, hown2, hb2⟩; obtain ⟨p1, p2⟩ := bcell hb2; have z2 : w.heap.size + 1 < w2.heap.size := (by have := hb2.size; simp at this; omega)))
      have s0 : w2.cell? ⟨w.heap.size + 1, 0, none⟩ = some (.int .i64 0) := by rw [p1 _ _ (by simp; omega)]; simp [go_sem, k1, z1]
      have s1 : w2.cell? ⟨w.heap.size + 1, 1, none⟩ = some (.int .i64 0) := by rw [p1 _ _ (by simp; omega)]; simp [go_sem, k1, z1]
      have s2 : w2.cell? ⟨w.heap.size + 1, 2, none⟩ = some (.string ByteArray.empty) := by rw [p1 _ _ (by simp; omega)]; simp [go_sem, k1, z1, bempty]
      have s3 : w2.cell? ⟨w.heap.size + 1, 3, none⟩ = some (.slice none 0 0) := by rw [p1 _ _ (by simp; omega)]; simp [go_sem, k1, z1]
      have hne : ∀ a, A2 = some a → a.block ≠ w.heap.size + 1 := fun a ha => by have := own_new hown2 a ha; simp at this; omega
      have e : doR vs 1 m quota d = (vs, 4, (n : Int)) := by simp [doR, ← HL.out, ← HX.out, hvs]
      refine bodyPost_ret (v := .tuple #[.slice A2 n c2, .agg #[.int .i64 4, .int .i64 (n : Int), .string ByteArray.empty, .slice none 0 0]]) ?_ rfl ⟨_, _, rfl, ?_, ?_, ?_⟩
      · simp [results, Try.results47, go_sem, s0, s1, s2, s3, bempty]
      · rw [e]
        refine ⟨A2, c2, by rw [HL.out], ?_, fun a ha => by have := own_new hown2 a ha; simp at this; omega, by rw [← HL.out]; exact own_cap hown2⟩
        exact (((((CellsAt.of_own hown2)).set_ (p := ⟨w.heap.size + 1, 0, none⟩) hne _).set_ (p := ⟨w.heap.size + 1, 1, none⟩) hne _).set_ (p := ⟨w.heap.size + 1, 2, none⟩) hne _).set_ (p := ⟨w.heap.size + 1, 3, none⟩) hne _
      · rw [e]; exact RepAt.nil _ _ _ _ _
      · repeat (first | with_reducible refine Old.drew' ?_ | with_reducible refine Old.setCell' ?_ (by simp) _ | with_reducible refine Old.alloc' ?_ _ | with_reducible refine Old.trans' ?_ hb2 | with_reducible refine Old.trans' ?_ hb1 | with_reducible exact Old.refl' _)
    · by_cases hm0 : m = 0
      · subst hm0
        by_cases hq : quota ≤ (n : Int)
        · go_enter Try.func47, Try.ntmps47
          go_wp2_with (first | (go_at_call 58; refine (hL.out _ hV2.out).mono ?_; rintro e w1 ⟨rfl, hb1⟩; obtain ⟨k1, k2⟩ := bcell hb1; have z1 : w.heap.size + 1 < w1.heap.size := (by have := hb1.size; simp at this; omega); have z0 : w.heap.size < w1.heap.size := (by omega)) | (go_at_call 56; refine (hC.out _ (CellsAt.alloc (CellsAt.old hV2.out hb1) _)).mono ?_; rintro e w2 ⟨A2, c2, rfl, hown2, hb2⟩; obtain ⟨p1, p2⟩ := bcell hb2; have z2 : w.heap.size + 1 < w2.heap.size := (by have := hb2.size; simp at this; omega)))
          have s0 : w2.cell? ⟨w.heap.size + 1, 0, none⟩ = some (.int .i64 0) := by rw [p1 _ _ (by simp; omega)]; simp [go_sem, k1, z1]
          have s1 : w2.cell? ⟨w.heap.size + 1, 1, none⟩ = some (.int .i64 0) := by rw [p1 _ _ (by simp; omega)]; simp [go_sem, k1, z1]
          have s2 : w2.cell? ⟨w.heap.size + 1, 2, none⟩ = some (.string ByteArray.empty) := by rw [p1 _ _ (by simp; omega)]; simp [go_sem, k1, z1, bempty]
          have s3 : w2.cell? ⟨w.heap.size + 1, 3, none⟩ = some (.slice none 0 0) := by rw [p1 _ _ (by simp; omega)]; simp [go_sem, k1, z1]
          have hne : ∀ a, A2 = some a → a.block ≠ w.heap.size + 1 := fun a ha => by have := own_new hown2 a ha; simp at this; omega
          have e : doR vs 1 0 quota d = (vs, 6, (n : Int)) := by simp [doR, ← HL.out, ← HX.out, hvs, hq]
          refine bodyPost_ret (v := .tuple #[.slice A2 n c2, .agg #[.int .i64 6, .int .i64 (n : Int), .string ByteArray.empty, .slice none 0 0]]) ?_ rfl ⟨_, _, rfl, ?_, ?_, ?_⟩
          · simp [results, Try.results47, go_sem, s0, s1, s2, s3, bempty]
          · rw [e]
            refine ⟨A2, c2, by rw [HL.out], ?_, fun a ha => by have := own_new hown2 a ha; simp at this; omega, by rw [← HL.out]; exact own_cap hown2⟩
            exact (((((CellsAt.of_own hown2)).set_ (p := ⟨w.heap.size + 1, 0, none⟩) hne _).set_ (p := ⟨w.heap.size + 1, 1, none⟩) hne _).set_ (p := ⟨w.heap.size + 1, 2, none⟩) hne _).set_ (p := ⟨w.heap.size + 1, 3, none⟩) hne _
          · rw [e]; exact RepAt.nil _ _ _ _ _
          · repeat (first | with_reducible refine Old.drew' ?_ | with_reducible refine Old.setCell' ?_ (by simp) _ | with_reducible refine Old.alloc' ?_ _ | with_reducible refine Old.trans' ?_ hb2 | with_reducible refine Old.trans' ?_ hb1 | with_reducible exact Old.refl' _)
        · have e : doR vs 1 0 quota d = (vs ++ [(false, d)], 1, (n : Int) + 1) := by simp [doR, ← HL.out, ← HX.out, hvs, hq]
          go_enter Try.func47, Try.ntmps47
          go_wp2_with (first | (go_at_call 58; refine (hL.out _ hV2.out).mono ?_; rintro e w1 ⟨rfl, hb1⟩; obtain ⟨k1, k2⟩ := bcell hb1; have z1 : w.heap.size + 1 < w1.heap.size := (by have := hb1.size; simp at this; omega); have z0 : w.heap.size < w1.heap.size := (by omega)))
          generalize hW : World.alloc (World.alloc w1 _) _ = W0
          have f0 : W0.cell? ⟨w1.heap.size + 1, 0, none⟩ = some (.bool false) := by rw [← hW]; simp [go_sem]
          have f1 : W0.cell? ⟨w1.heap.size + 1, 1, none⟩ = some (.string d) := by rw [← hW]; simp [go_sem]
          have r0 : W0.cell? ⟨w.heap.size + 1, 0, none⟩ = some (.int .i64 0) := by rw [← hW]; simp [go_sem, k1, z1, z0]
          have r1 : W0.cell? ⟨w.heap.size + 1, 1, none⟩ = some (.int .i64 0) := by rw [← hW]; simp [go_sem, k1, z1, z0]
          have r2 : W0.cell? ⟨w.heap.size + 1, 2, none⟩ = some (.string ByteArray.empty) := by rw [← hW]; simp [go_sem, k1, z1, z0, bempty]
          have r3 : W0.cell? ⟨w.heap.size + 1, 3, none⟩ = some (.slice none 0 0) := by rw [← hW]; simp [go_sem, k1, z1, z0]
          have g0 : W0.frozen? ⟨w.heap.size + 1, 0, none⟩ = false := by rw [← hW]; simp [go_sem, k2, z1, z0]
          have g1 : W0.frozen? ⟨w.heap.size + 1, 1, none⟩ = false := by rw [← hW]; simp [go_sem, k2, z1, z0]
          have g2 : W0.frozen? ⟨w.heap.size + 1, 2, none⟩ = false := by rw [← hW]; simp [go_sem, k2, z1, z0]
          have g3 : W0.frozen? ⟨w.heap.size + 1, 3, none⟩ = false := by rw [← hW]; simp [go_sem, k2, z1, z0]
          have hb0 : Old w1 W0 := by rw [← hW]; repeat (first | with_reducible refine Old.drew' ?_ | with_reducible refine Old.setCell' ?_ (by simp) _ | with_reducible refine Old.alloc' ?_ _ | with_reducible exact Old.refl' _)
          have hs0 : W0.heap.size = w1.heap.size + 2 := by rw [← hW]; simp
          have zz : w.heap.size + 1 < W0.heap.size := by omega
          have zy : w1.heap.size + 1 < W0.heap.size := by omega
          have hv0 := hide (CellsAt.old (CellsAt.old hV2.out hb1) hb0)
          have HS := hide hs0
          clear hW hs0
          go_region_held3 (fun w' => w'.cell? ⟨w1.heap.size + 1, 0, none⟩ = some (.bool false) ∧ w'.cell? ⟨w1.heap.size + 1, 1, none⟩ = some (.string d))
            (first | go_keep | exact ⟨(set4_other (by omega)).trans ((j1 _ _ zy).trans f0), (set4_other (by omega)).trans ((j1 _ _ zy).trans f1)⟩)
            (first
              | (go_at_call 56; refine (hC.out _ (CellsAt.old hv0.out (by first | exact (Old.refl' W0).drew' | exact ((Old.refl' W0).alloc' _).drew'))).mono ?_; rintro e w2 ⟨A2, c2, rfl, hown2, hb2⟩; have hb2' : Old W0 w2 := (by first | exact Old.trans' ((Old.refl' W0).drew') hb2 | exact Old.trans' (((Old.refl' W0).alloc' _).drew') hb2); obtain ⟨p1, p2⟩ := bcell hb2')
              | (refine step_append_lies _ (by rfl) (.tmp 93) (.tmp 95) 57 (by rfl) _ 96 i0 _ 2 24 Try.underlying57 hi0 hz0 hz1 hz2 rfl (by omega) (.slice A2 n c2) n (verCells vs) (by rfl) (hown2.alloc _) ⟨w2.heap.size, 0, none⟩ 1 1 [.bool false, .string d] (by rfl) (by rfl) (World.news_of_block (cs := #[.bool false, .string d]) (t := 96) (fr := (0, 0)) (heap_alloc_new w2 _)) (by simp [Value.oneCell']) (by omega) (by unfold maxLen; omega) (by omega) (by have := hb2'.size; simp; omega) (w2.heap.size + 1) (by simp) ?_; intro gg cc w3 hown3 hgrow3 hat3 hlt3; have hb3 := old_grown (hb2'.alloc' _) hgrow3 (hown2.alloc _) (by simp); obtain ⟨j1, j2⟩ := bcell hb3)
              | (refine step_append_lies _ (by rfl) (.tmp 93) (.tmp 95) 57 (by rfl) _ 96 i0 _ 2 24 Try.underlying57 hi0 hz0 hz1 hz2 rfl (by omega) (.slice A2 n c2) n (verCells vs) (by rfl) hown2 ⟨W0.heap.size, 0, none⟩ 1 1 [.bool false, .string d] (by rfl) (by rfl) (World.news_of_block (cs := #[.bool false, .string d]) (t := 96) (fr := (0, 0)) (Bk.old (Bk.drew (Bk.new W0 _ _)) hb2)) (by simp [Value.oneCell']) (by omega) (by unfold maxLen; omega) (by omega) hb2.size (w2.heap.size) (by simp) ?_; intro gg cc w3 hown3 hgrow3 hat3 hlt3; have hb3 := old_grown hb2' hgrow3 hown2 (by simp); obtain ⟨j1, j2⟩ := bcell hb3))
          all_goals
            go_wp2
            have t0 := (j1 _ 0 zz).trans r0
            have t1 := (j1 _ 1 zz).trans r1
            have t2 := (j1 _ 2 zz).trans r2
            have t3 := (j1 _ 3 zz).trans r3
            have hgg := own_new hown3 _ rfl
            simp at hgg
            have hwr : IntKind.i64.wrap ((n : Int) + 1) = (n : Int) + 1 := IntWalk.i64_in _ (by omega)
            have hne : ∀ a, some (⟨gg, 0, none⟩ : Addr) = some a → a.block ≠ w.heap.size + 1 := fun a ha => by injection ha with ha; subst ha; simp; omega
            refine bodyPost_ret (v := .tuple #[.slice (some ⟨gg, 0, none⟩) (n + 1) cc, .agg #[.int .i64 1, .int .i64 ((n : Int) + 1), .string ByteArray.empty, .slice none 0 0]]) ?_ rfl ⟨_, _, rfl, ?_, ?_, ?_⟩
            · simp [results, Try.results47, go_sem, t0, t1, t2, t3, bempty, hwr]
            · rw [e]
              refine ⟨some ⟨gg, 0, none⟩, cc, by simp [HL.out], ?_, fun a ha => by injection ha with ha; subst ha; simp; omega, by have := own_cap hown3; simp [← HL.out]; omega⟩
              have hv3 := CellsAt.of_own hown3
              rw [show verCells vs ++ [Value.bool false, .string d] = verCells (vs ++ [(false, d)]) from by simp [verCells_append, verCells, bempty]] at hv3
              exact (((hv3.set_ (p := ⟨w.heap.size + 1, 0, none⟩) hne _).set_ (p := ⟨w.heap.size + 1, 1, none⟩) hne _).set_ (p := ⟨w.heap.size + 1, 2, none⟩) hne _).set_ (p := ⟨w.heap.size + 1, 3, none⟩) hne _
            · rw [e]; exact RepAt.nil _ _ _ _ _
            · repeat (first | with_reducible refine Old.drew' ?_ | with_reducible refine Old.setCell' ?_ (by simp) _ | with_reducible refine Old.alloc' ?_ _ | with_reducible refine Old.trans' ?_ hb3 | with_reducible refine Old.trans' ?_ hb0 | with_reducible refine Old.trans' ?_ hb1 | with_reducible exact Old.refl' _)
      · have hm0' : (m != 0) = true := by simpa using hm0
        by_cases hmn : m = (n : Int)
        · subst hmn
          by_cases hq : quota ≤ (n : Int)
          · go_enter Try.func47, Try.ntmps47
            go_wp2_with (first | (go_at_call 58; refine (hL.out _ hV2.out).mono ?_; rintro e w1 ⟨rfl, hb1⟩; obtain ⟨k1, k2⟩ := bcell hb1; have z1 : w.heap.size + 1 < w1.heap.size := (by have := hb1.size; simp at this; omega); have z0 : w.heap.size < w1.heap.size := (by omega)) | (go_at_call 56; refine (hC.out _ (CellsAt.alloc (CellsAt.old hV2.out hb1) _)).mono ?_; rintro e w2 ⟨A2, c2, rfl, hown2, hb2⟩; obtain ⟨p1, p2⟩ := bcell hb2; have z2 : w.heap.size + 1 < w2.heap.size := (by have := hb2.size; simp at this; omega)))
            have s0 : w2.cell? ⟨w.heap.size + 1, 0, none⟩ = some (.int .i64 0) := by rw [p1 _ _ (by simp; omega)]; simp [go_sem, k1, z1]
            have s1 : w2.cell? ⟨w.heap.size + 1, 1, none⟩ = some (.int .i64 0) := by rw [p1 _ _ (by simp; omega)]; simp [go_sem, k1, z1]
            have s2 : w2.cell? ⟨w.heap.size + 1, 2, none⟩ = some (.string ByteArray.empty) := by rw [p1 _ _ (by simp; omega)]; simp [go_sem, k1, z1, bempty]
            have s3 : w2.cell? ⟨w.heap.size + 1, 3, none⟩ = some (.slice none 0 0) := by rw [p1 _ _ (by simp; omega)]; simp [go_sem, k1, z1]
            have hne : ∀ a, A2 = some a → a.block ≠ w.heap.size + 1 := fun a ha => by have := own_new hown2 a ha; simp at this; omega
            have e : doR vs 1 (n : Int) quota d = (vs, 6, (n : Int)) := by simp [doR, ← HL.out, ← HX.out, hvs, hq]
            refine bodyPost_ret (v := .tuple #[.slice A2 n c2, .agg #[.int .i64 6, .int .i64 (n : Int), .string ByteArray.empty, .slice none 0 0]]) ?_ rfl ⟨_, _, rfl, ?_, ?_, ?_⟩
            · simp [results, Try.results47, go_sem, s0, s1, s2, s3, bempty]
            · rw [e]
              refine ⟨A2, c2, by rw [HL.out], ?_, fun a ha => by have := own_new hown2 a ha; simp at this; omega, by rw [← HL.out]; exact own_cap hown2⟩
              exact (((((CellsAt.of_own hown2)).set_ (p := ⟨w.heap.size + 1, 0, none⟩) hne _).set_ (p := ⟨w.heap.size + 1, 1, none⟩) hne _).set_ (p := ⟨w.heap.size + 1, 2, none⟩) hne _).set_ (p := ⟨w.heap.size + 1, 3, none⟩) hne _
            · rw [e]; exact RepAt.nil _ _ _ _ _
            · repeat (first | with_reducible refine Old.drew' ?_ | with_reducible refine Old.setCell' ?_ (by simp) _ | with_reducible refine Old.alloc' ?_ _ | with_reducible refine Old.trans' ?_ hb2 | with_reducible refine Old.trans' ?_ hb1 | with_reducible exact Old.refl' _)
          · have e : doR vs 1 (n : Int) quota d = (vs ++ [(false, d)], 1, (n : Int) + 1) := by simp [doR, ← HL.out, ← HX.out, hvs, hq]
            go_enter Try.func47, Try.ntmps47
            go_wp2_with (first | (go_at_call 58; refine (hL.out _ hV2.out).mono ?_; rintro e w1 ⟨rfl, hb1⟩; obtain ⟨k1, k2⟩ := bcell hb1; have z1 : w.heap.size + 1 < w1.heap.size := (by have := hb1.size; simp at this; omega); have z0 : w.heap.size < w1.heap.size := (by omega)))
            generalize hW : World.alloc (World.alloc w1 _) _ = W0
            have f0 : W0.cell? ⟨w1.heap.size + 1, 0, none⟩ = some (.bool false) := by rw [← hW]; simp [go_sem]
            have f1 : W0.cell? ⟨w1.heap.size + 1, 1, none⟩ = some (.string d) := by rw [← hW]; simp [go_sem]
            have r0 : W0.cell? ⟨w.heap.size + 1, 0, none⟩ = some (.int .i64 0) := by rw [← hW]; simp [go_sem, k1, z1, z0]
            have r1 : W0.cell? ⟨w.heap.size + 1, 1, none⟩ = some (.int .i64 0) := by rw [← hW]; simp [go_sem, k1, z1, z0]
            have r2 : W0.cell? ⟨w.heap.size + 1, 2, none⟩ = some (.string ByteArray.empty) := by rw [← hW]; simp [go_sem, k1, z1, z0, bempty]
            have r3 : W0.cell? ⟨w.heap.size + 1, 3, none⟩ = some (.slice none 0 0) := by rw [← hW]; simp [go_sem, k1, z1, z0]
            have g0 : W0.frozen? ⟨w.heap.size + 1, 0, none⟩ = false := by rw [← hW]; simp [go_sem, k2, z1, z0]
            have g1 : W0.frozen? ⟨w.heap.size + 1, 1, none⟩ = false := by rw [← hW]; simp [go_sem, k2, z1, z0]
            have g2 : W0.frozen? ⟨w.heap.size + 1, 2, none⟩ = false := by rw [← hW]; simp [go_sem, k2, z1, z0]
            have g3 : W0.frozen? ⟨w.heap.size + 1, 3, none⟩ = false := by rw [← hW]; simp [go_sem, k2, z1, z0]
            have hb0 : Old w1 W0 := by rw [← hW]; repeat (first | with_reducible refine Old.drew' ?_ | with_reducible refine Old.setCell' ?_ (by simp) _ | with_reducible refine Old.alloc' ?_ _ | with_reducible exact Old.refl' _)
            have hs0 : W0.heap.size = w1.heap.size + 2 := by rw [← hW]; simp
            have zz : w.heap.size + 1 < W0.heap.size := by omega
            have zy : w1.heap.size + 1 < W0.heap.size := by omega
            have hv0 := hide (CellsAt.old (CellsAt.old hV2.out hb1) hb0)
            have HS := hide hs0
            clear hW hs0
            go_region_held3 (fun w' => w'.cell? ⟨w1.heap.size + 1, 0, none⟩ = some (.bool false) ∧ w'.cell? ⟨w1.heap.size + 1, 1, none⟩ = some (.string d))
              (first | go_keep | exact ⟨(set4_other (by omega)).trans ((j1 _ _ zy).trans f0), (set4_other (by omega)).trans ((j1 _ _ zy).trans f1)⟩)
              (first
                | (go_at_call 56; refine (hC.out _ (CellsAt.old hv0.out (by first | exact (Old.refl' W0).drew' | exact ((Old.refl' W0).alloc' _).drew'))).mono ?_; rintro e w2 ⟨A2, c2, rfl, hown2, hb2⟩; have hb2' : Old W0 w2 := (by first | exact Old.trans' ((Old.refl' W0).drew') hb2 | exact Old.trans' (((Old.refl' W0).alloc' _).drew') hb2); obtain ⟨p1, p2⟩ := bcell hb2')
                | (refine step_append_lies _ (by rfl) (.tmp 93) (.tmp 95) 57 (by rfl) _ 96 i0 _ 2 24 Try.underlying57 hi0 hz0 hz1 hz2 rfl (by omega) (.slice A2 n c2) n (verCells vs) (by rfl) (hown2.alloc _) ⟨w2.heap.size, 0, none⟩ 1 1 [.bool false, .string d] (by rfl) (by rfl) (World.news_of_block (cs := #[.bool false, .string d]) (t := 96) (fr := (0, 0)) (heap_alloc_new w2 _)) (by simp [Value.oneCell']) (by omega) (by unfold maxLen; omega) (by omega) (by have := hb2'.size; simp; omega) (w2.heap.size + 1) (by simp) ?_; intro gg cc w3 hown3 hgrow3 hat3 hlt3; have hb3 := old_grown (hb2'.alloc' _) hgrow3 (hown2.alloc _) (by simp); obtain ⟨j1, j2⟩ := bcell hb3)
                | (refine step_append_lies _ (by rfl) (.tmp 93) (.tmp 95) 57 (by rfl) _ 96 i0 _ 2 24 Try.underlying57 hi0 hz0 hz1 hz2 rfl (by omega) (.slice A2 n c2) n (verCells vs) (by rfl) hown2 ⟨W0.heap.size, 0, none⟩ 1 1 [.bool false, .string d] (by rfl) (by rfl) (World.news_of_block (cs := #[.bool false, .string d]) (t := 96) (fr := (0, 0)) (Bk.old (Bk.drew (Bk.new W0 _ _)) hb2)) (by simp [Value.oneCell']) (by omega) (by unfold maxLen; omega) (by omega) hb2.size (w2.heap.size) (by simp) ?_; intro gg cc w3 hown3 hgrow3 hat3 hlt3; have hb3 := old_grown hb2' hgrow3 hown2 (by simp); obtain ⟨j1, j2⟩ := bcell hb3))
            all_goals
              go_wp2
              have t0 := (j1 _ 0 zz).trans r0
              have t1 := (j1 _ 1 zz).trans r1
              have t2 := (j1 _ 2 zz).trans r2
              have t3 := (j1 _ 3 zz).trans r3
              have hgg := own_new hown3 _ rfl
              simp at hgg
              have hwr : IntKind.i64.wrap ((n : Int) + 1) = (n : Int) + 1 := IntWalk.i64_in _ (by omega)
              have hne : ∀ a, some (⟨gg, 0, none⟩ : Addr) = some a → a.block ≠ w.heap.size + 1 := fun a ha => by injection ha with ha; subst ha; simp; omega
              refine bodyPost_ret (v := .tuple #[.slice (some ⟨gg, 0, none⟩) (n + 1) cc, .agg #[.int .i64 1, .int .i64 ((n : Int) + 1), .string ByteArray.empty, .slice none 0 0]]) ?_ rfl ⟨_, _, rfl, ?_, ?_, ?_⟩
              · simp [results, Try.results47, go_sem, t0, t1, t2, t3, bempty, hwr]
              · rw [e]
                refine ⟨some ⟨gg, 0, none⟩, cc, by simp [HL.out], ?_, fun a ha => by injection ha with ha; subst ha; simp; omega, by have := own_cap hown3; simp [← HL.out]; omega⟩
                have hv3 := CellsAt.of_own hown3
                rw [show verCells vs ++ [Value.bool false, .string d] = verCells (vs ++ [(false, d)]) from by simp [verCells_append, verCells, bempty]] at hv3
                exact (((hv3.set_ (p := ⟨w.heap.size + 1, 0, none⟩) hne _).set_ (p := ⟨w.heap.size + 1, 1, none⟩) hne _).set_ (p := ⟨w.heap.size + 1, 2, none⟩) hne _).set_ (p := ⟨w.heap.size + 1, 3, none⟩) hne _
              · rw [e]; exact RepAt.nil _ _ _ _ _
              · repeat (first | with_reducible refine Old.drew' ?_ | with_reducible refine Old.setCell' ?_ (by simp) _ | with_reducible refine Old.alloc' ?_ _ | with_reducible refine Old.trans' ?_ hb3 | with_reducible refine Old.trans' ?_ hb0 | with_reducible refine Old.trans' ?_ hb1 | with_reducible exact Old.refl' _)
        · have hmn' : (m != (n : Int)) = true := by simpa using hmn
          go_enter Try.func47, Try.ntmps47
          go_wp2_with (first | (go_at_call 58; refine (hL.out _ hV2.out).mono ?_; rintro e w1 ⟨rfl, hb1⟩; obtain ⟨k1, k2⟩ := bcell hb1; have z1 : w.heap.size + 1 < w1.heap.size := (by have := hb1.size; simp at this; omega); have z0 : w.heap.size < w1.heap.size := (by omega)) | (go_at_call 56; refine (hC.out _ (CellsAt.alloc (CellsAt.old hV2.out hb1) _)).mono ?_; rintro e w2 ⟨A2, c2, rfl, hown2, hb2⟩; obtain ⟨p1, p2⟩ := bcell hb2; have z2 : w.heap.size + 1 < w2.heap.size := (by have := hb2.size; simp at this; omega)))
          have s0 : w2.cell? ⟨w.heap.size + 1, 0, none⟩ = some (.int .i64 0) := by rw [p1 _ _ (by simp; omega)]; simp [go_sem, k1, z1]
          have s1 : w2.cell? ⟨w.heap.size + 1, 1, none⟩ = some (.int .i64 0) := by rw [p1 _ _ (by simp; omega)]; simp [go_sem, k1, z1]
          have s2 : w2.cell? ⟨w.heap.size + 1, 2, none⟩ = some (.string ByteArray.empty) := by rw [p1 _ _ (by simp; omega)]; simp [go_sem, k1, z1, bempty]
          have s3 : w2.cell? ⟨w.heap.size + 1, 3, none⟩ = some (.slice none 0 0) := by rw [p1 _ _ (by simp; omega)]; simp [go_sem, k1, z1]
          have hne : ∀ a, A2 = some a → a.block ≠ w.heap.size + 1 := fun a ha => by have := own_new hown2 a ha; simp at this; omega
          have e : doR vs 1 m quota d = (vs, 5, (n : Int)) := by simp [doR, ← HL.out, ← HX.out, hvs, hm0, hmn]
          refine bodyPost_ret (v := .tuple #[.slice A2 n c2, .agg #[.int .i64 5, .int .i64 (n : Int), .string ByteArray.empty, .slice none 0 0]]) ?_ rfl ⟨_, _, rfl, ?_, ?_, ?_⟩
          · simp [results, Try.results47, go_sem, s0, s1, s2, s3, bempty]
          · rw [e]
            refine ⟨A2, c2, by rw [HL.out], ?_, fun a ha => by have := own_new hown2 a ha; simp at this; omega, by rw [← HL.out]; exact own_cap hown2⟩
            exact (((((CellsAt.of_own hown2)).set_ (p := ⟨w.heap.size + 1, 0, none⟩) hne _).set_ (p := ⟨w.heap.size + 1, 1, none⟩) hne _).set_ (p := ⟨w.heap.size + 1, 2, none⟩) hne _).set_ (p := ⟨w.heap.size + 1, 3, none⟩) hne _
          · rw [e]; exact RepAt.nil _ _ _ _ _
          · repeat (first | with_reducible refine Old.drew' ?_ | with_reducible refine Old.setCell' ?_ (by simp) _ | with_reducible refine Old.alloc' ?_ _ | with_reducible refine Old.trans' ?_ hb2 | with_reducible refine Old.trans' ?_ hb1 | with_reducible exact Old.refl' _)
end Go.Proofs.Ytffahoocbjfdaaa
