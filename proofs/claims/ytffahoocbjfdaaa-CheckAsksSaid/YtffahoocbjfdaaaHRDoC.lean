/- The document's Do: RDo_create. -/
import Derived.Test.YtffahoocbjfdaaaHRDo
namespace Go.Proofs.Ytffahoocbjfdaaa
open Go.RowKit
set_option maxRecDepth 100000 in
set_option maxHeartbeats 4000000 in
theorem RDo_create (A : Option Addr) (n cap : Nat) (vs : List Ver) (hn : n ≤ 100000) (hl : n = vs.length) (c s i m quota : Int) (d : ByteArray) (w : World) (hV : Vers w A vs) :
    Calls Try.prog 32 #[.slice A n cap, .agg #[.int .i64 c, .int .i64 s, .int .i64 1, .int .i64 i, .int .i64 m, .string d], .int .i64 quota] w fun e w' =>
      ∃ v u, e = .returned (.tuple #[v, u]) ∧ VersIs w A vs w' v (doL vs 1 m quota d) ∧ RepAt w w' u (doRep vs 1 m quota d) ∧ Old w w' := by
  have HL := hide hl
  clear hl
  obtain ⟨i0, hi0, hz0, hz1, hz2⟩ := info_parts info_ver
  have hV2 := hide ((hV.alloc (.cells #[.int .i64 c, .int .i64 s, .int .i64 1, .int .i64 i, .int .i64 m, .string d] 24)).alloc (.cells #[.int .i64 0, .int .i64 0, .string { data := #[] }, .slice none 0 0] 43))
  by_cases h0 : n = 0
  · subst h0
    have hvs : vs = [] := List.eq_nil_of_length_eq_zero HL.out.symm
    by_cases hm : m = 0
    · subst hm
      by_cases hq : quota ≤ 0
      · have hq' : decide (quota ≤ 0) = true := by simpa using hq
        go_enter Try.func32, Try.ntmps32
        go_wp2_with (first | (go_at_call 18; refine (Writes_yes _ _ _ _ _ _ _ rfl).mono ?_; rintro e w1 ⟨rfl, hb1⟩; obtain ⟨k1, k2⟩ := bcell hb1; have z1 : w.heap.size + 1 < w1.heap.size := (by have := hb1.size; simp at this; omega); have z0 : w.heap.size < w1.heap.size := (by omega)))
        refine bodyPost_ret (v := .tuple #[.slice A 0 cap, .agg #[.int .i64 6, .int .i64 0, .string ByteArray.empty, .slice none 0 0]]) ?_ rfl ⟨_, _, rfl, ?_, ?_, ?_⟩
        · simp [results, Try.results32, go_sem, k1, bempty]
        · have e : doL vs 1 0 quota d = vs := by simp [doL, doR, hvs, hq]
          rw [e]; exact ⟨A, cap, by rw [← HL.out], by rw [hvs]; exact CellsAt.nil _ _, .inl ⟨rfl, rfl⟩⟩
        · have e : doRep vs 1 0 quota d = ⟨6, 0, ByteArray.empty, []⟩ := by simp [doRep, doR, hvs, hq]
          rw [e]; exact RepAt.nil _ _ _ _ _
        · repeat (first | with_reducible refine Old.drew' ?_ | with_reducible refine Old.setCell' ?_ (by simp) _ | with_reducible refine Old.alloc' ?_ _ | with_reducible refine Old.trans' ?_ hb1 | with_reducible exact Old.refl' _)
      · have hq' : decide (quota ≤ 0) = false := by simpa using hq
        have E1 := hide (show doL vs 1 0 quota d = vs ++ [(false, d)] from by simp [doL, doR, hvs, hq])
        have E2 := hide (show doRep vs 1 0 quota d = ⟨1, 1, ByteArray.empty, []⟩ from by simp [doRep, doR, hvs, hq])
        go_enter Try.func32, Try.ntmps32
        go_wp2_with (first | (go_at_call 18; refine (Writes_yes _ _ _ _ _ _ _ rfl).mono ?_; rintro e w1 ⟨rfl, hb1⟩; obtain ⟨k1, k2⟩ := bcell hb1; have z1 : w.heap.size + 1 < w1.heap.size := (by have := hb1.size; simp at this; omega); have z0 : w.heap.size < w1.heap.size := (by omega)))
        generalize hW : World.alloc w1 _ = W0
        have f0 : W0.cell? ⟨w1.heap.size, 0, none⟩ = some (.bool false) := by rw [← hW]; simp [go_sem]
        have f1 : W0.cell? ⟨w1.heap.size, 1, none⟩ = some (.string d) := by rw [← hW]; simp [go_sem]
        have b0 : Bk W0 (w.heap.size + 1) 43 #[.int .i64 0, .int .i64 0, .string { data := #[] }, .slice none 0 0] := by
          rw [← hW]
          have := Bk.new (w.alloc (.cells #[.int .i64 c, .int .i64 s, .int .i64 1, .int .i64 i, .int .i64 0, .string d] 24)) 43 #[.int .i64 0, .int .i64 0, .string { data := #[] }, .slice none 0 0]
          simp only [World.size_alloc] at this
          exact (this.old hb1).alloc _
        have hb0 : Old w1 W0 := by rw [← hW]; exact (Old.refl' w1).alloc' _
        have hs0 : W0.heap.size = w1.heap.size + 1 := by rw [← hW]; simp
        have zz : w.heap.size + 1 < W0.heap.size := by omega
        have zy : w1.heap.size < W0.heap.size := by omega
        have hv0 := hide (CellsAt.old (CellsAt.old hV2.out hb1) hb0)
        have HS := hide hs0
        have r0 := b0.cell 0
        have r1 := b0.cell 1
        have r2 := b0.cell 2
        have r3 := b0.cell 3
        have l0 := b0.frozen 0
        have l1 := b0.frozen 1
        have l2 := b0.frozen 2
        have l3 := b0.frozen 3
        simp at r0 r1 r2 r3
        clear hW hs0
        go_region_held3 (fun w' => w'.cell? ⟨w1.heap.size, 0, none⟩ = some (.bool false) ∧ w'.cell? ⟨w1.heap.size, 1, none⟩ = some (.string d))
          (first | go_keep | exact ⟨(set4_other (by omega)).trans ((i1 _ _ zy).trans f0), (set4_other (by omega)).trans ((i1 _ _ zy).trans f1)⟩)
          (first
            | (refine step_app _ (by rfl) (.tmp 94) (.tmp 95) 57 (by rfl) W0.heap.size 96 i0 (.agg #[.bool false, .string ByteArray.empty]) 2 24 Try.underlying57 hi0 hz0 hz1 hz2 rfl (by omega) (.slice (some ⟨W0.heap.size, 0, none⟩) 0 0) 0 [] (by rfl) (by exact (World.ownsRow_made W0 #[] 0 (Nat.le_refl _) (by decide) rfl)) A 0 cap (verCells vs) (by rfl) (by rw [verCells_length, HL.out]) (by exact CellsAt.alloc hv0.out _) (verCells_one vs) (by unfold maxLen; omega) (by omega) (by first | (simp; done) | (simp; omega)) 0 (Nat.zero_add _) (verCells vs) (List.nil_append _) ?_; intro A1 c1 w2 h2; have hb2 : Old W0 w2 := h2.old (by first | exact ((Old.refl' W0).alloc' _).drew' | exact (((Old.refl' W0).alloc' _).alloc' _).drew' | exact ((((Old.refl' W0).alloc' _).alloc' _).drew').drew') (by intro k hk; simp [Value.ownBlock] at hk; omega); obtain ⟨j1, j2⟩ := bcell hb2)
            | (refine step_app _ (by rfl) (.tmp 94) (.tmp 95) 57 (by rfl) W0.heap.size 96 i0 (.agg #[.bool false, .string ByteArray.empty]) 2 24 Try.underlying57 hi0 hz0 hz1 hz2 rfl (by omega) (.slice (some ⟨W0.heap.size, 0, none⟩) 0 0) 0 [] (by rfl) (by exact (World.ownsRow.alloc (World.ownsRow_made W0 #[] 0 (Nat.le_refl _) (by decide) rfl) _)) A 0 cap (verCells vs) (by rfl) (by rw [verCells_length, HL.out]) (by exact CellsAt.alloc (CellsAt.alloc hv0.out _) _) (verCells_one vs) (by unfold maxLen; omega) (by omega) (by first | (simp; done) | (simp; omega)) 0 (Nat.zero_add _) (verCells vs) (List.nil_append _) ?_; intro A1 c1 w2 h2; have hb2 : Old W0 w2 := h2.old (by first | exact ((Old.refl' W0).alloc' _).drew' | exact (((Old.refl' W0).alloc' _).alloc' _).drew' | exact ((((Old.refl' W0).alloc' _).alloc' _).drew').drew') (by intro k hk; simp [Value.ownBlock] at hk; omega); obtain ⟨j1, j2⟩ := bcell hb2)
            | (refine step_app _ (by rfl) (.tmp 94) (.tmp 95) 57 (by rfl) W0.heap.size 96 i0 (.agg #[.bool false, .string ByteArray.empty]) 2 24 Try.underlying57 hi0 hz0 hz1 hz2 rfl (by omega) (.slice (some ⟨W0.heap.size + 1, 0, none⟩) 0 0) 0 [] (by rfl) (by exact (own_made1 W0 _)) A 0 cap (verCells vs) (by rfl) (by rw [verCells_length, HL.out]) (by exact CellsAt.alloc (CellsAt.alloc hv0.out _) _) (verCells_one vs) (by unfold maxLen; omega) (by omega) (by first | (simp; done) | (simp; omega)) 0 (Nat.zero_add _) (verCells vs) (List.nil_append _) ?_; intro A1 c1 w2 h2; have hb2 : Old W0 w2 := h2.old (by first | exact ((Old.refl' W0).alloc' _).drew' | exact (((Old.refl' W0).alloc' _).alloc' _).drew' | exact ((((Old.refl' W0).alloc' _).alloc' _).drew').drew') (by intro k hk; simp [Value.ownBlock] at hk; omega); obtain ⟨j1, j2⟩ := bcell hb2)
            | (refine step_app _ (by rfl) (.tmp 96) (.tmp 98) 57 (by rfl) W0.heap.size 96 i0 (.agg #[.bool false, .string ByteArray.empty]) 2 24 Try.underlying57 hi0 hz0 hz1 hz2 rfl (by omega) (.slice A1 0 c1) 0 (verCells vs) (by rfl) (by exact (World.ownsRow.alloc h2.own _)) (some ⟨w2.heap.size, 0, none⟩) 1 1 [.bool false, .string d] (by rfl) (by rfl) (by exact cells_bk (Bk.new w2 96 #[.bool false, .string d])) (by simp [Value.oneCell']) (by unfold maxLen; omega) (by omega) (by have := hb2.size; simp; omega) 1 rfl _ rfl ?_; intro A2 c2 w3 h3; have hb3 : Old W0 w3 := h3.old (by first | exact hb2 | exact hb2.drew' | exact (hb2.alloc' _) | exact (hb2.alloc' _).drew' | exact (hb2.alloc' _).drew'.drew') (fun k hk => (h2.own.lt k hk).1); obtain ⟨i1, i2⟩ := bcell hb3)
            | (refine step_app _ (by rfl) (.tmp 96) (.tmp 98) 57 (by rfl) W0.heap.size 96 i0 (.agg #[.bool false, .string ByteArray.empty]) 2 24 Try.underlying57 hi0 hz0 hz1 hz2 rfl (by omega) (.slice A1 0 c1) 0 (verCells vs) (by rfl) (by exact h2.own) (some ⟨W0.heap.size + 1, 0, none⟩) 1 1 [.bool false, .string d] (by rfl) (by rfl) (by exact cells_bk (h2.bk (bk_new1 W0 _ _ _) (by simp [Value.ownBlock]))) (by simp [Value.oneCell']) (by unfold maxLen; omega) (by omega) (by have := hb2.size; simp; omega) 1 rfl _ rfl ?_; intro A2 c2 w3 h3; have hb3 : Old W0 w3 := h3.old (by first | exact hb2 | exact hb2.drew' | exact (hb2.alloc' _) | exact (hb2.alloc' _).drew' | exact (hb2.alloc' _).drew'.drew') (fun k hk => (h2.own.lt k hk).1); obtain ⟨i1, i2⟩ := bcell hb3)
            | (refine step_app _ (by rfl) (.tmp 96) (.tmp 98) 57 (by rfl) W0.heap.size 96 i0 (.agg #[.bool false, .string ByteArray.empty]) 2 24 Try.underlying57 hi0 hz0 hz1 hz2 rfl (by omega) (.slice A1 0 c1) 0 (verCells vs) (by rfl) (by exact h2.own) (some ⟨W0.heap.size, 0, none⟩) 1 1 [.bool false, .string d] (by rfl) (by rfl) (by exact cells_bk (h2.bk (Bk.alloc (Bk.new W0 96 #[.bool false, .string d]) _) (by simp [Value.ownBlock]))) (by simp [Value.oneCell']) (by unfold maxLen; omega) (by omega) (by have := hb2.size; simp; omega) 1 rfl _ rfl ?_; intro A2 c2 w3 h3; have hb3 : Old W0 w3 := h3.old (by first | exact hb2 | exact hb2.drew' | exact (hb2.alloc' _) | exact (hb2.alloc' _).drew' | exact (hb2.alloc' _).drew'.drew') (fun k hk => (h2.own.lt k hk).1); obtain ⟨i1, i2⟩ := bcell hb3))
        all_goals
          go_wp2
          have bb := b0.old hb3
          have t0 := bb.cell 0
          have t1 := bb.cell 1
          have t2 := bb.cell 2
          have t3 := bb.cell 3
          simp at t0 t1 t2 t3
          have hwr : IntKind.i64.wrap 1 = 1 := IntWalk.i64_in _ (by omega)
          have hne3 : ∀ a, A2 = some a → a.block ≠ w.heap.size + 1 := fun a ha => by have := own_new h3.own a ha; omega
          refine bodyPost_ret (v := .tuple #[.slice A2 1 c2, .agg #[.int .i64 1, .int .i64 1, .string ByteArray.empty, .slice none 0 0]]) ?_ rfl ⟨_, _, rfl, ?_, ?_, ?_⟩
          · simp [results, Try.results32, go_sem, t0, t1, t2, t3, bempty, hwr]
          · rw [E1.out]
            refine ⟨A2, c2, by rw [hvs]; rfl, ?_, .inr fun a ha => by have := own_new h3.own a ha; omega⟩
            have hv3 := CellsAt.of_own h3.own
            rw [show verCells vs ++ [Value.bool false, .string d] = verCells (vs ++ [(false, d)]) from by simp [verCells]] at hv3
            exact (((hv3.set_ (p := ⟨w.heap.size + 1, 0, none⟩) hne3 _).set_ (p := ⟨w.heap.size + 1, 1, none⟩) hne3 _).set_ (p := ⟨w.heap.size + 1, 2, none⟩) hne3 _).set_ (p := ⟨w.heap.size + 1, 3, none⟩) hne3 _
          · rw [E2.out]; exact RepAt.nil _ _ _ _ _
          · repeat (first | with_reducible refine Old.drew' ?_ | with_reducible refine Old.setCell' ?_ (by simp) _ | with_reducible refine Old.alloc' ?_ _ | with_reducible refine Old.trans' ?_ hb3 | with_reducible refine Old.trans' ?_ hb0 | with_reducible refine Old.trans' ?_ hb1 | with_reducible exact Old.refl' _)
    · have hm0 : (m != 0) = true := by simpa using hm
      go_enter Try.func32, Try.ntmps32
      go_wp2_with (first | (go_at_call 18; refine (Writes_yes _ _ _ _ _ _ _ rfl).mono ?_; rintro e w1 ⟨rfl, hb1⟩; obtain ⟨k1, k2⟩ := bcell hb1; have z1 : w.heap.size + 1 < w1.heap.size := (by have := hb1.size; simp at this; omega); have z0 : w.heap.size < w1.heap.size := (by omega)))
      refine bodyPost_ret (v := .tuple #[.slice A 0 cap, .agg #[.int .i64 5, .int .i64 0, .string ByteArray.empty, .slice none 0 0]]) ?_ rfl ⟨_, _, rfl, ?_, ?_, ?_⟩
      · simp [results, Try.results32, go_sem, k1, bempty]
      · have e : doL vs 1 m quota d = vs := by simp [doL, doR, hvs, hm]
        rw [e]; exact ⟨A, cap, by rw [← HL.out], by rw [hvs]; exact CellsAt.nil _ _, .inl ⟨rfl, rfl⟩⟩
      · have e : doRep vs 1 m quota d = ⟨5, 0, ByteArray.empty, []⟩ := by simp [doRep, doR, hvs, hm]
        rw [e]; exact RepAt.nil _ _ _ _ _
      · repeat (first | with_reducible refine Old.drew' ?_ | with_reducible refine Old.setCell' ?_ (by simp) _ | with_reducible refine Old.alloc' ?_ _ | with_reducible refine Old.trans' ?_ hb1 | with_reducible exact Old.refl' _)
  · have h0' : decide (0 < (n : Int)) = true := by simp; omega
    have h0'' : ((n : Int) == 0) = false := by simpa using h0
    have hvs : vs ≠ [] := by rintro rfl; exact h0 HL.out
    have hne : ∀ a, A = some a → a.block ≠ w.heap.size + 1 := fun a ha => by
      subst ha
      obtain ⟨b, o, e, hb, _⟩ := hV.at_ (k := 0) (by have := HL.out; omega)
      cases e; simp; omega
    obtain ⟨b, o, rfl, hb, g1, -⟩ := hV.at_ (k := n - 1) (by have := HL.out; omega)
    obtain ⟨g, hg⟩ : ∃ g, g = (lastV vs).1 := ⟨_, rfl⟩
    have hlv : vs[n - 1]?.getD default = lastV vs := by rw [lastV, ← HL.out]
    rw [hlv, ← hg] at g1
    clear hlv
    have HG := hide hg
    clear hg
    cases g
    · go_enter Try.func32, Try.ntmps32
      go_wp2_with (first | (go_at_call 18; refine (Writes_yes _ _ _ _ _ _ _ rfl).mono ?_; rintro e w1 ⟨rfl, hb1⟩; obtain ⟨k1, k2⟩ := bcell hb1; have z1 : w.heap.size + 1 < w1.heap.size := (by have := hb1.size; simp at this; omega); have z0 : w.heap.size < w1.heap.size := (by omega)))
      refine bodyPost_ret (v := .tuple #[.slice (some ⟨b, o, none⟩) n cap, .agg #[.int .i64 4, .int .i64 n, .string ByteArray.empty, .slice none 0 0]]) ?_ rfl ⟨_, _, rfl, ?_, ?_, ?_⟩
      · simp [results, Try.results32, go_sem, k1, bempty]
      · have e : doL vs 1 m quota d = vs := by simp [doL, doR, hvs, ← HG.out, ← HL.out]
        rw [e]; exact ⟨some ⟨b, o, none⟩, cap, by rw [← HL.out], CellsAt.set_ (CellsAt.set_ (CellsAt.set_ (CellsAt.set_ (CellsAt.old hV2.out hb1) hne _) hne _) hne _) hne _, .inl ⟨rfl, rfl⟩⟩
      · have e : doRep vs 1 m quota d = ⟨4, n, ByteArray.empty, []⟩ := by simp [doRep, doR, hvs, ← HG.out, ← HL.out]
        rw [e]; exact RepAt.nil _ _ _ _ _
      · repeat (first | with_reducible refine Old.drew' ?_ | with_reducible refine Old.setCell' ?_ (by simp) _ | with_reducible refine Old.alloc' ?_ _ | with_reducible refine Old.trans' ?_ hb1 | with_reducible exact Old.refl' _)
    · by_cases hm : m = 0
      · subst hm
        by_cases hq : quota ≤ (n : Int)
        · have hq' : decide (quota ≤ (n : Int)) = true := by simpa using hq
          go_enter Try.func32, Try.ntmps32
          go_wp2_with (first | (go_at_call 18; refine (Writes_yes _ _ _ _ _ _ _ rfl).mono ?_; rintro e w1 ⟨rfl, hb1⟩; obtain ⟨k1, k2⟩ := bcell hb1; have z1 : w.heap.size + 1 < w1.heap.size := (by have := hb1.size; simp at this; omega); have z0 : w.heap.size < w1.heap.size := (by omega)))
          refine bodyPost_ret (v := .tuple #[.slice (some ⟨b, o, none⟩) n cap, .agg #[.int .i64 6, .int .i64 n, .string ByteArray.empty, .slice none 0 0]]) ?_ rfl ⟨_, _, rfl, ?_, ?_, ?_⟩
          · simp [results, Try.results32, go_sem, k1, bempty]
          · have e : doL vs 1 0 quota d = vs := by simp [doL, doR, hvs, ← HG.out, ← HL.out, hq]
            rw [e]; exact ⟨some ⟨b, o, none⟩, cap, by rw [← HL.out], CellsAt.set_ (CellsAt.set_ (CellsAt.set_ (CellsAt.set_ (CellsAt.old hV2.out hb1) hne _) hne _) hne _) hne _, .inl ⟨rfl, rfl⟩⟩
          · have e : doRep vs 1 0 quota d = ⟨6, n, ByteArray.empty, []⟩ := by simp [doRep, doR, hvs, ← HG.out, ← HL.out, hq]
            rw [e]; exact RepAt.nil _ _ _ _ _
          · repeat (first | with_reducible refine Old.drew' ?_ | with_reducible refine Old.setCell' ?_ (by simp) _ | with_reducible refine Old.alloc' ?_ _ | with_reducible refine Old.trans' ?_ hb1 | with_reducible exact Old.refl' _)
        · have hq' : decide (quota ≤ (n : Int)) = false := by simpa using hq
          have E1 := hide (show doL vs 1 0 quota d = vs ++ [(false, d)] from by simp [doL, doR, hvs, ← HG.out, ← HL.out, hq])
          have E2 := hide (show doRep vs 1 0 quota d = ⟨1, ((n : Int) + 1), ByteArray.empty, []⟩ from by simp [doRep, doR, hvs, ← HG.out, ← HL.out, hq])
          go_enter Try.func32, Try.ntmps32
          go_wp2_with (first | (go_at_call 18; refine (Writes_yes _ _ _ _ _ _ _ rfl).mono ?_; rintro e w1 ⟨rfl, hb1⟩; obtain ⟨k1, k2⟩ := bcell hb1; have z1 : w.heap.size + 1 < w1.heap.size := (by have := hb1.size; simp at this; omega); have z0 : w.heap.size < w1.heap.size := (by omega)))
          generalize hW : World.alloc w1 _ = W0
          have f0 : W0.cell? ⟨w1.heap.size, 0, none⟩ = some (.bool false) := by rw [← hW]; simp [go_sem]
          have f1 : W0.cell? ⟨w1.heap.size, 1, none⟩ = some (.string d) := by rw [← hW]; simp [go_sem]
          have b0 : Bk W0 (w.heap.size + 1) 43 #[.int .i64 0, .int .i64 0, .string { data := #[] }, .slice none 0 0] := by
            rw [← hW]
            have := Bk.new (w.alloc (.cells #[.int .i64 c, .int .i64 s, .int .i64 1, .int .i64 i, .int .i64 0, .string d] 24)) 43 #[.int .i64 0, .int .i64 0, .string { data := #[] }, .slice none 0 0]
            simp only [World.size_alloc] at this
            exact (this.old hb1).alloc _
          have hb0 : Old w1 W0 := by rw [← hW]; exact (Old.refl' w1).alloc' _
          have hs0 : W0.heap.size = w1.heap.size + 1 := by rw [← hW]; simp
          have zz : w.heap.size + 1 < W0.heap.size := by omega
          have zy : w1.heap.size < W0.heap.size := by omega
          have hv0 := hide (CellsAt.old (CellsAt.old hV2.out hb1) hb0)
          have HS := hide hs0
          have r0 := b0.cell 0
          have r1 := b0.cell 1
          have r2 := b0.cell 2
          have r3 := b0.cell 3
          have l0 := b0.frozen 0
          have l1 := b0.frozen 1
          have l2 := b0.frozen 2
          have l3 := b0.frozen 3
          simp at r0 r1 r2 r3
          clear hW hs0
          go_region_held3 (fun w' => w'.cell? ⟨w1.heap.size, 0, none⟩ = some (.bool false) ∧ w'.cell? ⟨w1.heap.size, 1, none⟩ = some (.string d))
            (first | go_keep | exact ⟨(set4_other (by omega)).trans ((i1 _ _ zy).trans f0), (set4_other (by omega)).trans ((i1 _ _ zy).trans f1)⟩)
            (first
              | (refine step_app _ (by rfl) (.tmp 94) (.tmp 95) 57 (by rfl) W0.heap.size 96 i0 (.agg #[.bool false, .string ByteArray.empty]) 2 24 Try.underlying57 hi0 hz0 hz1 hz2 rfl (by omega) (.slice (some ⟨W0.heap.size, 0, none⟩) 0 0) 0 [] (by rfl) (by exact (World.ownsRow_made W0 #[] 0 (Nat.le_refl _) (by decide) rfl)) (some ⟨b, o, none⟩) n cap (verCells vs) (by rfl) (by rw [verCells_length, HL.out]) (by exact CellsAt.alloc hv0.out _) (verCells_one vs) (by unfold maxLen; omega) (by omega) (by first | (simp; done) | (simp; omega)) n (Nat.zero_add _) (verCells vs) (List.nil_append _) ?_; intro A1 c1 w2 h2; have hb2 : Old W0 w2 := h2.old (by first | exact ((Old.refl' W0).alloc' _).drew' | exact (((Old.refl' W0).alloc' _).alloc' _).drew' | exact ((((Old.refl' W0).alloc' _).alloc' _).drew').drew') (by intro k hk; simp [Value.ownBlock] at hk; omega); obtain ⟨j1, j2⟩ := bcell hb2)
              | (refine step_app _ (by rfl) (.tmp 94) (.tmp 95) 57 (by rfl) W0.heap.size 96 i0 (.agg #[.bool false, .string ByteArray.empty]) 2 24 Try.underlying57 hi0 hz0 hz1 hz2 rfl (by omega) (.slice (some ⟨W0.heap.size, 0, none⟩) 0 0) 0 [] (by rfl) (by exact (World.ownsRow.alloc (World.ownsRow_made W0 #[] 0 (Nat.le_refl _) (by decide) rfl) _)) (some ⟨b, o, none⟩) n cap (verCells vs) (by rfl) (by rw [verCells_length, HL.out]) (by exact CellsAt.alloc (CellsAt.alloc hv0.out _) _) (verCells_one vs) (by unfold maxLen; omega) (by omega) (by first | (simp; done) | (simp; omega)) n (Nat.zero_add _) (verCells vs) (List.nil_append _) ?_; intro A1 c1 w2 h2; have hb2 : Old W0 w2 := h2.old (by first | exact ((Old.refl' W0).alloc' _).drew' | exact (((Old.refl' W0).alloc' _).alloc' _).drew' | exact ((((Old.refl' W0).alloc' _).alloc' _).drew').drew') (by intro k hk; simp [Value.ownBlock] at hk; omega); obtain ⟨j1, j2⟩ := bcell hb2)
              | (refine step_app _ (by rfl) (.tmp 94) (.tmp 95) 57 (by rfl) W0.heap.size 96 i0 (.agg #[.bool false, .string ByteArray.empty]) 2 24 Try.underlying57 hi0 hz0 hz1 hz2 rfl (by omega) (.slice (some ⟨W0.heap.size + 1, 0, none⟩) 0 0) 0 [] (by rfl) (by exact (own_made1 W0 _)) (some ⟨b, o, none⟩) n cap (verCells vs) (by rfl) (by rw [verCells_length, HL.out]) (by exact CellsAt.alloc (CellsAt.alloc hv0.out _) _) (verCells_one vs) (by unfold maxLen; omega) (by omega) (by first | (simp; done) | (simp; omega)) n (Nat.zero_add _) (verCells vs) (List.nil_append _) ?_; intro A1 c1 w2 h2; have hb2 : Old W0 w2 := h2.old (by first | exact ((Old.refl' W0).alloc' _).drew' | exact (((Old.refl' W0).alloc' _).alloc' _).drew' | exact ((((Old.refl' W0).alloc' _).alloc' _).drew').drew') (by intro k hk; simp [Value.ownBlock] at hk; omega); obtain ⟨j1, j2⟩ := bcell hb2)
              | (refine step_app _ (by rfl) (.tmp 96) (.tmp 98) 57 (by rfl) W0.heap.size 96 i0 (.agg #[.bool false, .string ByteArray.empty]) 2 24 Try.underlying57 hi0 hz0 hz1 hz2 rfl (by omega) (.slice A1 n c1) n (verCells vs) (by rfl) (by exact (World.ownsRow.alloc h2.own _)) (some ⟨w2.heap.size, 0, none⟩) 1 1 [.bool false, .string d] (by rfl) (by rfl) (by exact cells_bk (Bk.new w2 96 #[.bool false, .string d])) (by simp [Value.oneCell']) (by unfold maxLen; omega) (by omega) (by have := hb2.size; simp; omega) (n + 1) rfl _ rfl ?_; intro A2 c2 w3 h3; have hb3 : Old W0 w3 := h3.old (by first | exact hb2 | exact hb2.drew' | exact (hb2.alloc' _) | exact (hb2.alloc' _).drew' | exact (hb2.alloc' _).drew'.drew') (fun k hk => (h2.own.lt k hk).1); obtain ⟨i1, i2⟩ := bcell hb3)
              | (refine step_app _ (by rfl) (.tmp 96) (.tmp 98) 57 (by rfl) W0.heap.size 96 i0 (.agg #[.bool false, .string ByteArray.empty]) 2 24 Try.underlying57 hi0 hz0 hz1 hz2 rfl (by omega) (.slice A1 n c1) n (verCells vs) (by rfl) (by exact h2.own) (some ⟨W0.heap.size + 1, 0, none⟩) 1 1 [.bool false, .string d] (by rfl) (by rfl) (by exact cells_bk (h2.bk (bk_new1 W0 _ _ _) (by simp [Value.ownBlock]))) (by simp [Value.oneCell']) (by unfold maxLen; omega) (by omega) (by have := hb2.size; simp; omega) (n + 1) rfl _ rfl ?_; intro A2 c2 w3 h3; have hb3 : Old W0 w3 := h3.old (by first | exact hb2 | exact hb2.drew' | exact (hb2.alloc' _) | exact (hb2.alloc' _).drew' | exact (hb2.alloc' _).drew'.drew') (fun k hk => (h2.own.lt k hk).1); obtain ⟨i1, i2⟩ := bcell hb3)
              | (refine step_app _ (by rfl) (.tmp 96) (.tmp 98) 57 (by rfl) W0.heap.size 96 i0 (.agg #[.bool false, .string ByteArray.empty]) 2 24 Try.underlying57 hi0 hz0 hz1 hz2 rfl (by omega) (.slice A1 n c1) n (verCells vs) (by rfl) (by exact h2.own) (some ⟨W0.heap.size, 0, none⟩) 1 1 [.bool false, .string d] (by rfl) (by rfl) (by exact cells_bk (h2.bk (Bk.alloc (Bk.new W0 96 #[.bool false, .string d]) _) (by simp [Value.ownBlock]))) (by simp [Value.oneCell']) (by unfold maxLen; omega) (by omega) (by have := hb2.size; simp; omega) (n + 1) rfl _ rfl ?_; intro A2 c2 w3 h3; have hb3 : Old W0 w3 := h3.old (by first | exact hb2 | exact hb2.drew' | exact (hb2.alloc' _) | exact (hb2.alloc' _).drew' | exact (hb2.alloc' _).drew'.drew') (fun k hk => (h2.own.lt k hk).1); obtain ⟨i1, i2⟩ := bcell hb3))
          all_goals
            go_wp2
            have bb := b0.old hb3
            have t0 := bb.cell 0
            have t1 := bb.cell 1
            have t2 := bb.cell 2
            have t3 := bb.cell 3
            simp at t0 t1 t2 t3
            have hwr : IntKind.i64.wrap ((n : Int) + 1) = ((n : Int) + 1) := IntWalk.i64_in _ (by omega)
            have hne3 : ∀ a, A2 = some a → a.block ≠ w.heap.size + 1 := fun a ha => by have := own_new h3.own a ha; omega
            refine bodyPost_ret (v := .tuple #[.slice A2 (n + 1) c2, .agg #[.int .i64 1, .int .i64 ((n : Int) + 1), .string ByteArray.empty, .slice none 0 0]]) ?_ rfl ⟨_, _, rfl, ?_, ?_, ?_⟩
            · simp [results, Try.results32, go_sem, t0, t1, t2, t3, bempty, hwr]
            · rw [E1.out]
              refine ⟨A2, c2, by simp [HL.out], ?_, .inr fun a ha => by have := own_new h3.own a ha; omega⟩
              have hv3 := CellsAt.of_own h3.own
              rw [show verCells vs ++ [Value.bool false, .string d] = verCells (vs ++ [(false, d)]) from by simp [verCells]] at hv3
              exact (((hv3.set_ (p := ⟨w.heap.size + 1, 0, none⟩) hne3 _).set_ (p := ⟨w.heap.size + 1, 1, none⟩) hne3 _).set_ (p := ⟨w.heap.size + 1, 2, none⟩) hne3 _).set_ (p := ⟨w.heap.size + 1, 3, none⟩) hne3 _
            · rw [E2.out]; exact RepAt.nil _ _ _ _ _
            · repeat (first | with_reducible refine Old.drew' ?_ | with_reducible refine Old.setCell' ?_ (by simp) _ | with_reducible refine Old.alloc' ?_ _ | with_reducible refine Old.trans' ?_ hb3 | with_reducible refine Old.trans' ?_ hb0 | with_reducible refine Old.trans' ?_ hb1 | with_reducible exact Old.refl' _)
      · have hm0 : (m != 0) = true := by simpa using hm
        by_cases hmn : m = (n : Int)
        · have hmn' : (m != (n : Int)) = false := by simpa using hmn
          have HMN := hide hmn
          clear hmn hm
          by_cases hq : quota ≤ (n : Int)
          · have hq' : decide (quota ≤ (n : Int)) = true := by simpa using hq
            go_enter Try.func32, Try.ntmps32
            go_wp2_with (first | (go_at_call 18; refine (Writes_yes _ _ _ _ _ _ _ rfl).mono ?_; rintro e w1 ⟨rfl, hb1⟩; obtain ⟨k1, k2⟩ := bcell hb1; have z1 : w.heap.size + 1 < w1.heap.size := (by have := hb1.size; simp at this; omega); have z0 : w.heap.size < w1.heap.size := (by omega)))
            refine bodyPost_ret (v := .tuple #[.slice (some ⟨b, o, none⟩) n cap, .agg #[.int .i64 6, .int .i64 n, .string ByteArray.empty, .slice none 0 0]]) ?_ rfl ⟨_, _, rfl, ?_, ?_, ?_⟩
            · simp [results, Try.results32, go_sem, k1, bempty]
            · have e : doL vs 1 m quota d = vs := by simp [doL, doR, hvs, ← HG.out, HMN.out, ← HL.out, hq]
              rw [e]; exact ⟨some ⟨b, o, none⟩, cap, by rw [← HL.out], CellsAt.set_ (CellsAt.set_ (CellsAt.set_ (CellsAt.set_ (CellsAt.old hV2.out hb1) hne _) hne _) hne _) hne _, .inl ⟨rfl, rfl⟩⟩
            · have e : doRep vs 1 m quota d = ⟨6, n, ByteArray.empty, []⟩ := by simp [doRep, doR, hvs, ← HG.out, HMN.out, ← HL.out, hq]
              rw [e]; exact RepAt.nil _ _ _ _ _
            · repeat (first | with_reducible refine Old.drew' ?_ | with_reducible refine Old.setCell' ?_ (by simp) _ | with_reducible refine Old.alloc' ?_ _ | with_reducible refine Old.trans' ?_ hb1 | with_reducible exact Old.refl' _)
          · have hq' : decide (quota ≤ (n : Int)) = false := by simpa using hq
            have E1 := hide (show doL vs 1 m quota d = vs ++ [(false, d)] from by simp [doL, doR, hvs, ← HG.out, HMN.out, ← HL.out, hq])
            have E2 := hide (show doRep vs 1 m quota d = ⟨1, ((n : Int) + 1), ByteArray.empty, []⟩ from by simp [doRep, doR, hvs, ← HG.out, HMN.out, ← HL.out, hq])
            go_enter Try.func32, Try.ntmps32
            go_wp2_with (first | (go_at_call 18; refine (Writes_yes _ _ _ _ _ _ _ rfl).mono ?_; rintro e w1 ⟨rfl, hb1⟩; obtain ⟨k1, k2⟩ := bcell hb1; have z1 : w.heap.size + 1 < w1.heap.size := (by have := hb1.size; simp at this; omega); have z0 : w.heap.size < w1.heap.size := (by omega)))
            generalize hW : World.alloc w1 _ = W0
            have f0 : W0.cell? ⟨w1.heap.size, 0, none⟩ = some (.bool false) := by rw [← hW]; simp [go_sem]
            have f1 : W0.cell? ⟨w1.heap.size, 1, none⟩ = some (.string d) := by rw [← hW]; simp [go_sem]
            have b0 : Bk W0 (w.heap.size + 1) 43 #[.int .i64 0, .int .i64 0, .string { data := #[] }, .slice none 0 0] := by
              rw [← hW]
              have := Bk.new (w.alloc (.cells #[.int .i64 c, .int .i64 s, .int .i64 1, .int .i64 i, .int .i64 m, .string d] 24)) 43 #[.int .i64 0, .int .i64 0, .string { data := #[] }, .slice none 0 0]
              simp only [World.size_alloc] at this
              exact (this.old hb1).alloc _
            have hb0 : Old w1 W0 := by rw [← hW]; exact (Old.refl' w1).alloc' _
            have hs0 : W0.heap.size = w1.heap.size + 1 := by rw [← hW]; simp
            have zz : w.heap.size + 1 < W0.heap.size := by omega
            have zy : w1.heap.size < W0.heap.size := by omega
            have hv0 := hide (CellsAt.old (CellsAt.old hV2.out hb1) hb0)
            have HS := hide hs0
            have r0 := b0.cell 0
            have r1 := b0.cell 1
            have r2 := b0.cell 2
            have r3 := b0.cell 3
            have l0 := b0.frozen 0
            have l1 := b0.frozen 1
            have l2 := b0.frozen 2
            have l3 := b0.frozen 3
            simp at r0 r1 r2 r3
            clear hW hs0
            go_region_held3 (fun w' => w'.cell? ⟨w1.heap.size, 0, none⟩ = some (.bool false) ∧ w'.cell? ⟨w1.heap.size, 1, none⟩ = some (.string d))
              (first | go_keep | exact ⟨(set4_other (by omega)).trans ((i1 _ _ zy).trans f0), (set4_other (by omega)).trans ((i1 _ _ zy).trans f1)⟩)
              (first
                | (refine step_app _ (by rfl) (.tmp 94) (.tmp 95) 57 (by rfl) W0.heap.size 96 i0 (.agg #[.bool false, .string ByteArray.empty]) 2 24 Try.underlying57 hi0 hz0 hz1 hz2 rfl (by omega) (.slice (some ⟨W0.heap.size, 0, none⟩) 0 0) 0 [] (by rfl) (by exact (World.ownsRow_made W0 #[] 0 (Nat.le_refl _) (by decide) rfl)) (some ⟨b, o, none⟩) n cap (verCells vs) (by rfl) (by rw [verCells_length, HL.out]) (by exact CellsAt.alloc hv0.out _) (verCells_one vs) (by unfold maxLen; omega) (by omega) (by first | (simp; done) | (simp; omega)) n (Nat.zero_add _) (verCells vs) (List.nil_append _) ?_; intro A1 c1 w2 h2; have hb2 : Old W0 w2 := h2.old (by first | exact ((Old.refl' W0).alloc' _).drew' | exact (((Old.refl' W0).alloc' _).alloc' _).drew' | exact ((((Old.refl' W0).alloc' _).alloc' _).drew').drew') (by intro k hk; simp [Value.ownBlock] at hk; omega); obtain ⟨j1, j2⟩ := bcell hb2)
                | (refine step_app _ (by rfl) (.tmp 94) (.tmp 95) 57 (by rfl) W0.heap.size 96 i0 (.agg #[.bool false, .string ByteArray.empty]) 2 24 Try.underlying57 hi0 hz0 hz1 hz2 rfl (by omega) (.slice (some ⟨W0.heap.size, 0, none⟩) 0 0) 0 [] (by rfl) (by exact (World.ownsRow.alloc (World.ownsRow_made W0 #[] 0 (Nat.le_refl _) (by decide) rfl) _)) (some ⟨b, o, none⟩) n cap (verCells vs) (by rfl) (by rw [verCells_length, HL.out]) (by exact CellsAt.alloc (CellsAt.alloc hv0.out _) _) (verCells_one vs) (by unfold maxLen; omega) (by omega) (by first | (simp; done) | (simp; omega)) n (Nat.zero_add _) (verCells vs) (List.nil_append _) ?_; intro A1 c1 w2 h2; have hb2 : Old W0 w2 := h2.old (by first | exact ((Old.refl' W0).alloc' _).drew' | exact (((Old.refl' W0).alloc' _).alloc' _).drew' | exact ((((Old.refl' W0).alloc' _).alloc' _).drew').drew') (by intro k hk; simp [Value.ownBlock] at hk; omega); obtain ⟨j1, j2⟩ := bcell hb2)
                | (refine step_app _ (by rfl) (.tmp 94) (.tmp 95) 57 (by rfl) W0.heap.size 96 i0 (.agg #[.bool false, .string ByteArray.empty]) 2 24 Try.underlying57 hi0 hz0 hz1 hz2 rfl (by omega) (.slice (some ⟨W0.heap.size + 1, 0, none⟩) 0 0) 0 [] (by rfl) (by exact (own_made1 W0 _)) (some ⟨b, o, none⟩) n cap (verCells vs) (by rfl) (by rw [verCells_length, HL.out]) (by exact CellsAt.alloc (CellsAt.alloc hv0.out _) _) (verCells_one vs) (by unfold maxLen; omega) (by omega) (by first | (simp; done) | (simp; omega)) n (Nat.zero_add _) (verCells vs) (List.nil_append _) ?_; intro A1 c1 w2 h2; have hb2 : Old W0 w2 := h2.old (by first | exact ((Old.refl' W0).alloc' _).drew' | exact (((Old.refl' W0).alloc' _).alloc' _).drew' | exact ((((Old.refl' W0).alloc' _).alloc' _).drew').drew') (by intro k hk; simp [Value.ownBlock] at hk; omega); obtain ⟨j1, j2⟩ := bcell hb2)
                | (refine step_app _ (by rfl) (.tmp 96) (.tmp 98) 57 (by rfl) W0.heap.size 96 i0 (.agg #[.bool false, .string ByteArray.empty]) 2 24 Try.underlying57 hi0 hz0 hz1 hz2 rfl (by omega) (.slice A1 n c1) n (verCells vs) (by rfl) (by exact (World.ownsRow.alloc h2.own _)) (some ⟨w2.heap.size, 0, none⟩) 1 1 [.bool false, .string d] (by rfl) (by rfl) (by exact cells_bk (Bk.new w2 96 #[.bool false, .string d])) (by simp [Value.oneCell']) (by unfold maxLen; omega) (by omega) (by have := hb2.size; simp; omega) (n + 1) rfl _ rfl ?_; intro A2 c2 w3 h3; have hb3 : Old W0 w3 := h3.old (by first | exact hb2 | exact hb2.drew' | exact (hb2.alloc' _) | exact (hb2.alloc' _).drew' | exact (hb2.alloc' _).drew'.drew') (fun k hk => (h2.own.lt k hk).1); obtain ⟨i1, i2⟩ := bcell hb3)
                | (refine step_app _ (by rfl) (.tmp 96) (.tmp 98) 57 (by rfl) W0.heap.size 96 i0 (.agg #[.bool false, .string ByteArray.empty]) 2 24 Try.underlying57 hi0 hz0 hz1 hz2 rfl (by omega) (.slice A1 n c1) n (verCells vs) (by rfl) (by exact h2.own) (some ⟨W0.heap.size + 1, 0, none⟩) 1 1 [.bool false, .string d] (by rfl) (by rfl) (by exact cells_bk (h2.bk (bk_new1 W0 _ _ _) (by simp [Value.ownBlock]))) (by simp [Value.oneCell']) (by unfold maxLen; omega) (by omega) (by have := hb2.size; simp; omega) (n + 1) rfl _ rfl ?_; intro A2 c2 w3 h3; have hb3 : Old W0 w3 := h3.old (by first | exact hb2 | exact hb2.drew' | exact (hb2.alloc' _) | exact (hb2.alloc' _).drew' | exact (hb2.alloc' _).drew'.drew') (fun k hk => (h2.own.lt k hk).1); obtain ⟨i1, i2⟩ := bcell hb3)
                | (refine step_app _ (by rfl) (.tmp 96) (.tmp 98) 57 (by rfl) W0.heap.size 96 i0 (.agg #[.bool false, .string ByteArray.empty]) 2 24 Try.underlying57 hi0 hz0 hz1 hz2 rfl (by omega) (.slice A1 n c1) n (verCells vs) (by rfl) (by exact h2.own) (some ⟨W0.heap.size, 0, none⟩) 1 1 [.bool false, .string d] (by rfl) (by rfl) (by exact cells_bk (h2.bk (Bk.alloc (Bk.new W0 96 #[.bool false, .string d]) _) (by simp [Value.ownBlock]))) (by simp [Value.oneCell']) (by unfold maxLen; omega) (by omega) (by have := hb2.size; simp; omega) (n + 1) rfl _ rfl ?_; intro A2 c2 w3 h3; have hb3 : Old W0 w3 := h3.old (by first | exact hb2 | exact hb2.drew' | exact (hb2.alloc' _) | exact (hb2.alloc' _).drew' | exact (hb2.alloc' _).drew'.drew') (fun k hk => (h2.own.lt k hk).1); obtain ⟨i1, i2⟩ := bcell hb3))
            all_goals
              go_wp2
              have bb := b0.old hb3
              have t0 := bb.cell 0
              have t1 := bb.cell 1
              have t2 := bb.cell 2
              have t3 := bb.cell 3
              simp at t0 t1 t2 t3
              have hwr : IntKind.i64.wrap ((n : Int) + 1) = ((n : Int) + 1) := IntWalk.i64_in _ (by omega)
              have hne3 : ∀ a, A2 = some a → a.block ≠ w.heap.size + 1 := fun a ha => by have := own_new h3.own a ha; omega
              refine bodyPost_ret (v := .tuple #[.slice A2 (n + 1) c2, .agg #[.int .i64 1, .int .i64 ((n : Int) + 1), .string ByteArray.empty, .slice none 0 0]]) ?_ rfl ⟨_, _, rfl, ?_, ?_, ?_⟩
              · simp [results, Try.results32, go_sem, t0, t1, t2, t3, bempty, hwr]
              · rw [E1.out]
                refine ⟨A2, c2, by simp [HL.out], ?_, .inr fun a ha => by have := own_new h3.own a ha; omega⟩
                have hv3 := CellsAt.of_own h3.own
                rw [show verCells vs ++ [Value.bool false, .string d] = verCells (vs ++ [(false, d)]) from by simp [verCells]] at hv3
                exact (((hv3.set_ (p := ⟨w.heap.size + 1, 0, none⟩) hne3 _).set_ (p := ⟨w.heap.size + 1, 1, none⟩) hne3 _).set_ (p := ⟨w.heap.size + 1, 2, none⟩) hne3 _).set_ (p := ⟨w.heap.size + 1, 3, none⟩) hne3 _
              · rw [E2.out]; exact RepAt.nil _ _ _ _ _
              · repeat (first | with_reducible refine Old.drew' ?_ | with_reducible refine Old.setCell' ?_ (by simp) _ | with_reducible refine Old.alloc' ?_ _ | with_reducible refine Old.trans' ?_ hb3 | with_reducible refine Old.trans' ?_ hb0 | with_reducible refine Old.trans' ?_ hb1 | with_reducible exact Old.refl' _)
        · have hmn' : (m != (n : Int)) = true := by simpa using hmn
          go_enter Try.func32, Try.ntmps32
          go_wp2_with (first | (go_at_call 18; refine (Writes_yes _ _ _ _ _ _ _ rfl).mono ?_; rintro e w1 ⟨rfl, hb1⟩; obtain ⟨k1, k2⟩ := bcell hb1; have z1 : w.heap.size + 1 < w1.heap.size := (by have := hb1.size; simp at this; omega); have z0 : w.heap.size < w1.heap.size := (by omega)))
          refine bodyPost_ret (v := .tuple #[.slice (some ⟨b, o, none⟩) n cap, .agg #[.int .i64 5, .int .i64 n, .string ByteArray.empty, .slice none 0 0]]) ?_ rfl ⟨_, _, rfl, ?_, ?_, ?_⟩
          · simp [results, Try.results32, go_sem, k1, bempty]
          · have e : doL vs 1 m quota d = vs := by simp [doL, doR, hvs, ← HG.out, ← HL.out, hm, hmn]
            rw [e]; exact ⟨some ⟨b, o, none⟩, cap, by rw [← HL.out], CellsAt.set_ (CellsAt.set_ (CellsAt.set_ (CellsAt.set_ (CellsAt.old hV2.out hb1) hne _) hne _) hne _) hne _, .inl ⟨rfl, rfl⟩⟩
          · have e : doRep vs 1 m quota d = ⟨5, n, ByteArray.empty, []⟩ := by simp [doRep, doR, hvs, ← HG.out, ← HL.out, hm, hmn]
            rw [e]; exact RepAt.nil _ _ _ _ _
          · repeat (first | with_reducible refine Old.drew' ?_ | with_reducible refine Old.setCell' ?_ (by simp) _ | with_reducible refine Old.alloc' ?_ _ | with_reducible refine Old.trans' ?_ hb1 | with_reducible exact Old.refl' _)
end Go.Proofs.Ytffahoocbjfdaaa
