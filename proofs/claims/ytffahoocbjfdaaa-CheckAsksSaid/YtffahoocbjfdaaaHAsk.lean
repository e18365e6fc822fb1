/- slices.Clone of versions; chart.Ask. -/
import Derived.Test.YtffahoocbjfdaaaHHist
namespace Go.Proofs.Ytffahoocbjfdaaa
open Go.RowKit
theorem info_ver : (Try.prog.info? 96).map (fun i => (i.zero, i.size, i.bytes)) = some (some (.agg #[.bool false, .string ByteArray.empty]), 2, 24) := by kernel_rfl
theorem history_any (A : Option Addr) (n cap : Nat) (vs : List Ver) (hn : n ≤ 100000) (hl : n = vs.length) (w : World) (hV : Vers w A vs) :
    Calls Try.prog 63 #[.slice A n cap] w fun e W' =>
      ∃ A' c', e = .returned (.slice A' n c') ∧ W'.ownsRow w.heap.size 3 1 (.slice A' n c') n ((histL vs).map (Value.int .i64)) ∧ Old w W' :=
  callsIn_wide.1 (history_in A n cap vs hn hl w hV)
theorem own_new {w : World} {base : Nat} {e : TypeId} {size n c : Nat} {A : Option Addr} {xs : List Value} (h : w.ownsRow base e size (.slice A n c) n xs) : ∀ a, A = some a → base ≤ a.block := by
  rintro a rfl
  exact (h.lt a.block rfl).1
set_option maxHeartbeats 1000000 in
set_option maxRecDepth 20000 in
theorem Clone_any (A : Option Addr) (n cap : Nat) (vs : List Ver) (hn : n ≤ 100000) (hl : n = vs.length) (w : World) (hV : Vers w A vs) :
    Calls Try.prog 56 #[.slice A n cap] w fun e w' =>
      ∃ A' c', e = .returned (.slice A' n c') ∧ w'.ownsRow w.heap.size 96 2 (.slice A' n c') n (verCells vs) ∧ Old w w' := by
  have HL := hide hl
  clear hl
  obtain ⟨i0, hi0, hz0, hz1, hz2⟩ := info_parts info_ver
  cases A with
  | none =>
    have h0 : n = 0 := by
      rcases Nat.eq_zero_or_pos n with h | h
      · exact h
      · obtain ⟨b, o, e, _⟩ := hV.at_ (k := 0) (by have := HL.out; omega)
        cases e
    subst h0
    have hvs : vs = [] := List.eq_nil_of_length_eq_zero HL.out.symm
    subst hvs
    have heq := Lib.run_eql_slice_nil (P := Try.prog) w 57 96 none 0 cap 0 0 Try.underlying57
    go_enter Try.func56, Try.ntmps56
    go_wp2
    go_ret
    exact ⟨_, _, rfl, World.ownsRow_nil _ _ _ _, Old.refl' w⟩
  | some ad =>
    have heq := Lib.run_eql_slice_nil (P := Try.prog) w 57 96 (some ad) n cap 0 0 Try.underlying57
    go_enter Try.func56, Try.ntmps56
    go_wp2_with (at_builtin; refine wpList_append_own _ rfl (.tmp 5) (.tmp 6) 57 rfl w.heap.size 96 i0 (.agg #[.bool false, .string ByteArray.empty]) 2 24 Try.underlying57 hi0 hz0 hz1 hz2 rfl (by decide) (.slice (some ⟨w.heap.size, 0, none⟩) 0 0) 0 [] rfl (World.ownsRow_made w #[] 0 (Nat.le_refl _) (by decide) rfl) ad n cap (verCells vs) rfl (by rw [verCells_length, HL.out]) (CellsAt.news (CellsAt.alloc hV _)) (verCells_one vs) (by unfold maxLen; omega) (by omega) (by simp) ?_; intro v' w1 hown hgrow _)
    go_ret
    have hb1 : Old w w1 := ((Old.refl' w).alloc' (.cells #[] 96)).grown hgrow (by simp) (fun k e => by simp [Value.ownBlock] at e; omega)
    rw [Nat.zero_add, List.nil_append] at hown
    obtain ⟨A', c', rfl⟩ : ∃ A' c', v' = .slice A' n c' := by
      rcases hown.2 with ⟨rfl, rfl⟩ | ⟨g, cap, cur, rfl, _⟩
      · exact ⟨_, _, rfl⟩
      · exact ⟨_, _, rfl⟩
    exact ⟨A', c', rfl, hown, hb1⟩
def askR (vs : List Ver) (k m : Int) : Rep :=
  if k = 4 then
    if vs.length = 0 then ⟨2, 0, ByteArray.empty, []⟩
    else if (lastV vs).1 then ⟨3, vs.length, ByteArray.empty, []⟩ else ⟨1, vs.length, (lastV vs).2, []⟩
  else if k = 5 then
    if m < 1 ∨ (vs.length : Int) < m then ⟨2, 0, ByteArray.empty, []⟩
    else if (vs[m.toNat - 1]?.getD default).1 then ⟨3, m, ByteArray.empty, []⟩ else ⟨1, m, (vs[m.toNat - 1]?.getD default).2, []⟩
  else if k = 6 then
    if vs.length = 0 then ⟨2, 0, ByteArray.empty, []⟩ else ⟨1, vs.length, ByteArray.empty, histL vs⟩
  else ⟨0, 0, ByteArray.empty, []⟩
theorem askR_version (vs : List Ver) (j : Nat) (h : j < vs.length) {g : Bool} {d : ByteArray} (e : (g, d) = vs[j]?.getD default) :
    askR vs 5 ((j : Int) + 1) = if g then ⟨3, (j : Int) + 1, ByteArray.empty, []⟩ else ⟨1, (j : Int) + 1, d, []⟩ := by
  unfold askR
  rw [if_neg (by decide), if_pos rfl, if_neg (by omega), show ((j : Int) + 1).toNat - 1 = j from by omega, ← e]
def RepAt (w0 w : World) (v : Value) (r : Rep) : Prop :=
  ∃ A c, v = .agg #[.int .i64 r.code, .int .i64 r.ver, .string r.data, .slice A r.vs.length c] ∧ IntsAt w A r.vs ∧ ∀ a, A = some a → w0.heap.size ≤ a.block
theorem RepAt.nil (w0 w : World) (c v : Int) (d : ByteArray) : RepAt w0 w (.agg #[.int .i64 c, .int .i64 v, .string d, .slice none 0 0]) ⟨c, v, d, []⟩ :=
  ⟨none, 0, rfl, CellsAt.nil _ _, fun _ h => by cases h⟩
set_option maxRecDepth 100000 in
set_option maxHeartbeats 2000000 in
theorem Ask_read (A : Option Addr) (n cap : Nat) (vs : List Ver) (hn : n ≤ 100000) (hl : n = vs.length) (c s i m : Int) (d : ByteArray) (w : World) (hV : Vers w A vs) :
    Calls Try.prog 57 #[.slice A n cap, .agg #[.int .i64 c, .int .i64 s, .int .i64 4, .int .i64 i, .int .i64 m, .string d]] w fun e w' =>
      ∃ v, e = .returned v ∧ RepAt w w' v (askR vs 4 m) ∧ Old w w' := by
  have hL := hide (fun (W : World) (h : Vers W A vs) => last_any A n cap vs hn hl W h)
  have HL := hide hl
  clear hl
  have hV2 := hide ((hV.alloc (.cells #[.int .i64 c, .int .i64 s, .int .i64 4, .int .i64 i, .int .i64 m, .string d] 24)).alloc (.cells #[.int .i64 0, .int .i64 0, .string ByteArray.empty, .slice none 0 0] 43))
  obtain ⟨x, hx⟩ : ∃ x, x = lastV vs := ⟨_, rfl⟩
  obtain ⟨g, d1⟩ := x
  rw [← hx] at hL
  have HX := hide hx
  clear hx
  by_cases h0 : n = 0
  · subst h0
    go_enter Try.func57, Try.ntmps57
    go_wp2_with (first | (go_at_call 58; refine (hL.out _ hV2.out).mono ?_; rintro e w1 ⟨rfl, hb1⟩; obtain ⟨k1, k2⟩ := bcell hb1; have z1 : w.heap.size + 1 < w1.heap.size := (by have := hb1.size; simp at this; omega); have z0 : w.heap.size < w1.heap.size := (by omega)))
    refine bodyPost_ret (v := .agg #[.int .i64 2, .int .i64 0, .string ByteArray.empty, .slice none 0 0]) ?_ rfl ⟨_, rfl, ?_, ?_⟩
    · simp [results, Try.results57, go_sem, k1, z1, bempty]
    · have e : askR vs 4 m = ⟨2, 0, ByteArray.empty, []⟩ := by simp [askR, ← HL.out]
      rw [e]; exact RepAt.nil _ _ _ _ _
    · repeat (first | with_reducible refine Old.drew' ?_ | with_reducible refine Old.setCell' ?_ (by simp) _ | with_reducible refine Old.alloc' ?_ _ | with_reducible refine Old.trans' ?_ hb1 | with_reducible exact Old.refl' _)
  · have h0' : ((n : Int) == 0) = false := by simpa using h0
    have h0'' : vs ≠ [] := by rintro rfl; exact h0 HL.out
    cases g
    · go_enter Try.func57, Try.ntmps57
      go_wp2_with (first | (go_at_call 58; refine (hL.out _ hV2.out).mono ?_; rintro e w1 ⟨rfl, hb1⟩; obtain ⟨k1, k2⟩ := bcell hb1; have z1 : w.heap.size + 1 < w1.heap.size := (by have := hb1.size; simp at this; omega); have z0 : w.heap.size < w1.heap.size := (by omega)))
      refine bodyPost_ret (v := .agg #[.int .i64 1, .int .i64 n, .string d1, .slice none 0 0]) ?_ rfl ⟨_, rfl, ?_, ?_⟩
      · simp [results, Try.results57, go_sem, k1, z1]
      · have e : askR vs 4 m = ⟨1, n, d1, []⟩ := by simp [askR, ← HL.out, ← HX.out, h0]
        rw [e]; exact RepAt.nil _ _ _ _ _
      · repeat (first | with_reducible refine Old.drew' ?_ | with_reducible refine Old.setCell' ?_ (by simp) _ | with_reducible refine Old.alloc' ?_ _ | with_reducible refine Old.trans' ?_ hb1 | with_reducible exact Old.refl' _)
    · go_enter Try.func57, Try.ntmps57
      go_wp2_with (first | (go_at_call 58; refine (hL.out _ hV2.out).mono ?_; rintro e w1 ⟨rfl, hb1⟩; obtain ⟨k1, k2⟩ := bcell hb1; have z1 : w.heap.size + 1 < w1.heap.size := (by have := hb1.size; simp at this; omega); have z0 : w.heap.size < w1.heap.size := (by omega)))
      refine bodyPost_ret (v := .agg #[.int .i64 3, .int .i64 n, .string ByteArray.empty, .slice none 0 0]) ?_ rfl ⟨_, rfl, ?_, ?_⟩
      · simp [results, Try.results57, go_sem, k1, z1, bempty]
      · have e : askR vs 4 m = ⟨3, n, ByteArray.empty, []⟩ := by simp [askR, ← HL.out, ← HX.out, h0]
        rw [e]; exact RepAt.nil _ _ _ _ _
      · repeat (first | with_reducible refine Old.drew' ?_ | with_reducible refine Old.setCell' ?_ (by simp) _ | with_reducible refine Old.alloc' ?_ _ | with_reducible refine Old.trans' ?_ hb1 | with_reducible exact Old.refl' _)
set_option maxRecDepth 100000 in
set_option maxHeartbeats 2000000 in
theorem Ask_version (A : Option Addr) (n cap : Nat) (vs : List Ver) (hn : n ≤ 100000) (hl : n = vs.length) (c s i m : Int) (d : ByteArray) (w : World) (hV : Vers w A vs) (hm : -9223372036854775808 ≤ m) (hm2 : m ≤ 9223372036854775807) :
    Calls Try.prog 57 #[.slice A n cap, .agg #[.int .i64 c, .int .i64 s, .int .i64 5, .int .i64 i, .int .i64 m, .string d]] w fun e w' =>
      ∃ v, e = .returned v ∧ RepAt w w' v (askR vs 5 m) ∧ Old w w' := by
  have hL := hide (fun (W : World) (h : Vers W A vs) => last_any A n cap vs hn hl W h)
  have HL := hide hl
  clear hl
  have hV2 := hide ((hV.alloc (.cells #[.int .i64 c, .int .i64 s, .int .i64 5, .int .i64 i, .int .i64 m, .string d] 24)).alloc (.cells #[.int .i64 0, .int .i64 0, .string ByteArray.empty, .slice none 0 0] 43))
  obtain ⟨x, hx⟩ : ∃ x, x = lastV vs := ⟨_, rfl⟩
  obtain ⟨g, d1⟩ := x
  rw [← hx] at hL
  clear hx
  by_cases h1 : m < 1
  · go_enter Try.func57, Try.ntmps57
    go_wp2_with (first | (go_at_call 58; refine (hL.out _ hV2.out).mono ?_; rintro e w1 ⟨rfl, hb1⟩; obtain ⟨k1, k2⟩ := bcell hb1; have z1 : w.heap.size + 1 < w1.heap.size := (by have := hb1.size; simp at this; omega); have z0 : w.heap.size < w1.heap.size := (by omega)))
    refine bodyPost_ret (v := .agg #[.int .i64 2, .int .i64 0, .string ByteArray.empty, .slice none 0 0]) ?_ rfl ⟨_, rfl, ?_, ?_⟩
    · simp [results, Try.results57, go_sem, k1, z1, bempty]
    · have e : askR vs 5 m = ⟨2, 0, ByteArray.empty, []⟩ := by simp [askR]; omega
      rw [e]; exact RepAt.nil _ _ _ _ _
    · repeat (first | with_reducible refine Old.drew' ?_ | with_reducible refine Old.setCell' ?_ (by simp) _ | with_reducible refine Old.alloc' ?_ _ | with_reducible refine Old.trans' ?_ hb1 | with_reducible exact Old.refl' _)
  · have h1' : decide (m < 1) = false := by simpa using h1
    by_cases h2 : (n : Int) < m
    · have h2' : decide ((n : Int) < m) = true := by simpa using h2
      go_enter Try.func57, Try.ntmps57
      go_wp2_with (first | (go_at_call 58; refine (hL.out _ hV2.out).mono ?_; rintro e w1 ⟨rfl, hb1⟩; obtain ⟨k1, k2⟩ := bcell hb1; have z1 : w.heap.size + 1 < w1.heap.size := (by have := hb1.size; simp at this; omega); have z0 : w.heap.size < w1.heap.size := (by omega)))
      refine bodyPost_ret (v := .agg #[.int .i64 2, .int .i64 0, .string ByteArray.empty, .slice none 0 0]) ?_ rfl ⟨_, rfl, ?_, ?_⟩
      · simp [results, Try.results57, go_sem, k1, z1, bempty]
      · have e : askR vs 5 m = ⟨2, 0, ByteArray.empty, []⟩ := by have := HL.out; simp [askR]; omega
        rw [e]; exact RepAt.nil _ _ _ _ _
      · repeat (first | with_reducible refine Old.drew' ?_ | with_reducible refine Old.setCell' ?_ (by simp) _ | with_reducible refine Old.alloc' ?_ _ | with_reducible refine Old.trans' ?_ hb1 | with_reducible exact Old.refl' _)
    · have h2' : decide ((n : Int) < m) = false := by simpa using h2
      obtain ⟨j, hj⟩ : ∃ j : Nat, m = (j : Int) + 1 := ⟨(m - 1).toNat, by omega⟩
      subst hj
      have hjn : j < n := by omega
      clear hm hm2 h1 h1' h2 h2'
      have h1' : decide ((j : Int) + 1 < 1) = false := by simp; omega
      have h2' : decide ((n : Int) < (j : Int) + 1) = false := by simp; omega
      obtain ⟨b, o, rfl, hb, g1, g2⟩ := hV.at_ (k := j) (by have := HL.out; omega)
      obtain ⟨y, hy⟩ : ∃ y, y = vs[j]?.getD default := ⟨_, rfl⟩
      obtain ⟨yg, yd⟩ := y
      rw [← hy] at g1 g2
      have HY := hide hy
      clear hy
      cases yg
      · go_enter Try.func57, Try.ntmps57
        go_wp2_with (first | (go_at_call 58; refine (hL.out _ hV2.out).mono ?_; rintro e w1 ⟨rfl, hb1⟩; obtain ⟨k1, k2⟩ := bcell hb1; have z1 : w.heap.size + 1 < w1.heap.size := (by have := hb1.size; simp at this; omega); have z0 : w.heap.size < w1.heap.size := (by omega); have z2 : b < w1.heap.size := (by omega); have q1 := (k1 b (o + j * 2) (by simp; omega)).trans ((((Old.refl' w).alloc' _).alloc' _).cell (p := ⟨b, o + j * 2, none⟩) hb |>.trans g1); have q2 := (k1 b (o + j * 2 + 1) (by simp; omega)).trans ((((Old.refl' w).alloc' _).alloc' _).cell (p := ⟨b, o + j * 2 + 1, none⟩) hb |>.trans g2)))
        go_region
        go_wp2
        refine bodyPost_ret (v := .agg #[.int .i64 1, .int .i64 ((j : Int) + 1), .string yd, .slice none 0 0]) ?_ rfl ⟨_, rfl, ?_, ?_⟩
        · simp [results, Try.results57, go_sem, k1, z1]
        · have e : askR vs 5 ((j : Int) + 1) = ⟨1, ((j : Int) + 1), yd, []⟩ := by rw [askR_version vs j (by have := HL.out; omega) HY.out]; rfl
          rw [e]; exact RepAt.nil _ _ _ _ _
        · repeat (first | with_reducible refine Old.drew' ?_ | with_reducible refine Old.setCell' ?_ (by simp) _ | with_reducible refine Old.alloc' ?_ _ | with_reducible refine Old.trans' ?_ hb1 | with_reducible exact Old.refl' _)
      · go_enter Try.func57, Try.ntmps57
        go_wp2_with (first | (go_at_call 58; refine (hL.out _ hV2.out).mono ?_; rintro e w1 ⟨rfl, hb1⟩; obtain ⟨k1, k2⟩ := bcell hb1; have z1 : w.heap.size + 1 < w1.heap.size := (by have := hb1.size; simp at this; omega); have z0 : w.heap.size < w1.heap.size := (by omega); have z2 : b < w1.heap.size := (by omega); have q1 := (k1 b (o + j * 2) (by simp; omega)).trans ((((Old.refl' w).alloc' _).alloc' _).cell (p := ⟨b, o + j * 2, none⟩) hb |>.trans g1); have q2 := (k1 b (o + j * 2 + 1) (by simp; omega)).trans ((((Old.refl' w).alloc' _).alloc' _).cell (p := ⟨b, o + j * 2 + 1, none⟩) hb |>.trans g2)))
        go_region
        go_wp2
        refine bodyPost_ret (v := .agg #[.int .i64 3, .int .i64 ((j : Int) + 1), .string ByteArray.empty, .slice none 0 0]) ?_ rfl ⟨_, rfl, ?_, ?_⟩
        · simp [results, Try.results57, go_sem, k1, z1, bempty]
        · have e : askR vs 5 ((j : Int) + 1) = ⟨3, ((j : Int) + 1), ByteArray.empty, []⟩ := by rw [askR_version vs j (by have := HL.out; omega) HY.out]; rfl
          rw [e]; exact RepAt.nil _ _ _ _ _
        · repeat (first | with_reducible refine Old.drew' ?_ | with_reducible refine Old.setCell' ?_ (by simp) _ | with_reducible refine Old.alloc' ?_ _ | with_reducible refine Old.trans' ?_ hb1 | with_reducible exact Old.refl' _)
set_option maxRecDepth 100000 in
set_option maxHeartbeats 2000000 in
theorem Ask_history (A : Option Addr) (n cap : Nat) (vs : List Ver) (hn : n ≤ 100000) (hl : n = vs.length) (c s i m : Int) (d : ByteArray) (w : World) (hV : Vers w A vs) :
    Calls Try.prog 57 #[.slice A n cap, .agg #[.int .i64 c, .int .i64 s, .int .i64 6, .int .i64 i, .int .i64 m, .string d]] w fun e w' =>
      ∃ v, e = .returned v ∧ RepAt w w' v (askR vs 6 m) ∧ Old w w' := by
  have hL := hide (fun (W : World) (h : Vers W A vs) => last_any A n cap vs hn hl W h)
  have HL := hide hl
  clear hl
  have hV2 := hide ((hV.alloc (.cells #[.int .i64 c, .int .i64 s, .int .i64 6, .int .i64 i, .int .i64 m, .string d] 24)).alloc (.cells #[.int .i64 0, .int .i64 0, .string ByteArray.empty, .slice none 0 0] 43))
  obtain ⟨x, hx⟩ : ∃ x, x = lastV vs := ⟨_, rfl⟩
  obtain ⟨g, d1⟩ := x
  rw [← hx] at hL
  clear hx
  by_cases h0 : n = 0
  · subst h0
    go_enter Try.func57, Try.ntmps57
    go_wp2_with (first | (go_at_call 58; refine (hL.out _ hV2.out).mono ?_; rintro e w1 ⟨rfl, hb1⟩; obtain ⟨k1, k2⟩ := bcell hb1; have z1 : w.heap.size + 1 < w1.heap.size := (by have := hb1.size; simp at this; omega); have z0 : w.heap.size < w1.heap.size := (by omega)))
    refine bodyPost_ret (v := .agg #[.int .i64 2, .int .i64 0, .string ByteArray.empty, .slice none 0 0]) ?_ rfl ⟨_, rfl, ?_, ?_⟩
    · simp [results, Try.results57, go_sem, k1, z1, bempty]
    · have e : askR vs 6 m = ⟨2, 0, ByteArray.empty, []⟩ := by simp [askR, ← HL.out]
      rw [e]; exact RepAt.nil _ _ _ _ _
    · repeat (first | with_reducible refine Old.drew' ?_ | with_reducible refine Old.setCell' ?_ (by simp) _ | with_reducible refine Old.alloc' ?_ _ | with_reducible refine Old.trans' ?_ hb1 | with_reducible exact Old.refl' _)
  · have h0' : ((n : Int) == 0) = false := by simpa using h0
    have hH := hide (fun (W : World) (h : Vers W A vs) => history_any A n cap vs hn HL.out W h)
    go_enter Try.func57, Try.ntmps57
    go_wp2_with (first | (go_at_call 58; refine (hL.out _ hV2.out).mono ?_; rintro e w1 ⟨rfl, hb1⟩; obtain ⟨k1, k2⟩ := bcell hb1; have z1 : w.heap.size + 1 < w1.heap.size := (by have := hb1.size; simp at this; omega); have z0 : w.heap.size < w1.heap.size := (by omega)) | (go_at_call 63; refine (hH.out _ (CellsAt.alloc (CellsAt.old hV2.out hb1) _)).mono ?_; rintro e w2 ⟨A', c', rfl, hown, hb2⟩; obtain ⟨j1, j2⟩ := bcell hb2; have z3 : w1.heap.size < w2.heap.size := (by have := hb2.size; simp at this; omega); have z4 : w.heap.size + 1 < w2.heap.size := (by omega)))
    refine bodyPost_ret (v := .agg #[.int .i64 1, .int .i64 n, .string ByteArray.empty, .slice A' n c']) ?_ rfl ⟨_, rfl, ?_, ?_⟩
    · have q0 : w2.cell? ⟨w.heap.size + 1, 0, none⟩ = some (.int .i64 0) := by rw [j1 _ _ (by simp; omega)]; simp [go_sem, k1, z1]
      have q1 : w2.cell? ⟨w.heap.size + 1, 1, none⟩ = some (.int .i64 0) := by rw [j1 _ _ (by simp; omega)]; simp [go_sem, k1, z1]
      have q2 : w2.cell? ⟨w.heap.size + 1, 2, none⟩ = some (.string ByteArray.empty) := by rw [j1 _ _ (by simp; omega)]; simp [go_sem, k1, z1]
      have q3 : w2.cell? ⟨w.heap.size + 1, 3, none⟩ = some (.slice none 0 0) := by rw [j1 _ _ (by simp; omega)]; simp [go_sem, k1, z1]
      simp [results, Try.results57, go_sem, q0, q1, q2, q3, bempty]
    · have e : askR vs 6 m = ⟨1, n, ByteArray.empty, histL vs⟩ := by simp [askR, ← HL.out, h0]
      rw [e]
      have hln : (histL vs).length = n := by rw [histL_length, HL.out]
      refine ⟨A', c', by rw [hln], ?_, ?_⟩
      · have hne : ∀ a, A' = some a → a.block ≠ w.heap.size + 1 := fun a ha => by
          have := own_new hown a ha
          simp at this
          omega
        exact ((((CellsAt.of_own hown).set_ (p := ⟨w.heap.size + 1, 0, none⟩) hne _).set_ (p := ⟨w.heap.size + 1, 1, none⟩) hne _).set_ (p := ⟨w.heap.size + 1, 2, none⟩) hne _).set_ (p := ⟨w.heap.size + 1, 3, none⟩) hne _
      · intro a ha
        have := own_new hown a ha
        simp at this
        omega
    · repeat (first | with_reducible refine Old.drew' ?_ | with_reducible refine Old.setCell' ?_ (by simp) _ | with_reducible refine Old.alloc' ?_ _ | with_reducible refine Old.trans' ?_ hb2 | with_reducible refine Old.trans' ?_ hb1 | with_reducible exact Old.refl' _)
set_option maxRecDepth 100000 in
set_option maxHeartbeats 2000000 in
theorem Ask_none (A : Option Addr) (n cap : Nat) (vs : List Ver) (hn : n ≤ 100000) (hl : n = vs.length) (c s k i m : Int) (d : ByteArray) (w : World) (hV : Vers w A vs) (k4 : k ≠ 4) (k5 : k ≠ 5) (k6 : k ≠ 6) :
    Calls Try.prog 57 #[.slice A n cap, .agg #[.int .i64 c, .int .i64 s, .int .i64 k, .int .i64 i, .int .i64 m, .string d]] w fun e w' =>
      ∃ v, e = .returned v ∧ RepAt w w' v (askR vs k m) ∧ Old w w' := by
  have hL := hide (fun (W : World) (h : Vers W A vs) => last_any A n cap vs hn hl W h)
  have HL := hide hl
  clear hl
  have hV2 := hide ((hV.alloc (.cells #[.int .i64 c, .int .i64 s, .int .i64 k, .int .i64 i, .int .i64 m, .string d] 24)).alloc (.cells #[.int .i64 0, .int .i64 0, .string ByteArray.empty, .slice none 0 0] 43))
  obtain ⟨x, hx⟩ : ∃ x, x = lastV vs := ⟨_, rfl⟩
  obtain ⟨g, d1⟩ := x
  rw [← hx] at hL
  clear hx
  have k4' : (k == 4) = false := by simpa using k4
  have k5' : (k == 5) = false := by simpa using k5
  have k6' : (k == 6) = false := by simpa using k6
  go_enter Try.func57, Try.ntmps57
  go_wp2_with (first | (go_at_call 58; refine (hL.out _ hV2.out).mono ?_; rintro e w1 ⟨rfl, hb1⟩; obtain ⟨k1, k2⟩ := bcell hb1; have z1 : w.heap.size + 1 < w1.heap.size := (by have := hb1.size; simp at this; omega); have z0 : w.heap.size < w1.heap.size := (by omega)))
  refine bodyPost_ret (v := .agg #[.int .i64 0, .int .i64 0, .string ByteArray.empty, .slice none 0 0]) ?_ rfl ⟨_, rfl, ?_, ?_⟩
  · simp [results, Try.results57, go_sem, k1, z1, bempty]
  · have e : askR vs k m = ⟨0, 0, ByteArray.empty, []⟩ := by simp [askR, k4, k5, k6]
    rw [e]; exact RepAt.nil _ _ _ _ _
  · repeat (first | with_reducible refine Old.drew' ?_ | with_reducible refine Old.setCell' ?_ (by simp) _ | with_reducible refine Old.alloc' ?_ _ | with_reducible refine Old.trans' ?_ hb1 | with_reducible exact Old.refl' _)
theorem Ask_any (A : Option Addr) (n cap : Nat) (vs : List Ver) (hn : n ≤ 100000) (hl : n = vs.length) (c s k i m : Int) (d : ByteArray) (w : World) (hV : Vers w A vs) (hm : -9223372036854775808 ≤ m) (hm2 : m ≤ 9223372036854775807) :
    Calls Try.prog 57 #[.slice A n cap, .agg #[.int .i64 c, .int .i64 s, .int .i64 k, .int .i64 i, .int .i64 m, .string d]] w fun e w' =>
      ∃ v, e = .returned v ∧ RepAt w w' v (askR vs k m) ∧ Old w w' := by
  by_cases k4 : k = 4
  · subst k4; exact Ask_read A n cap vs hn hl c s i m d w hV
  · by_cases k5 : k = 5
    · subst k5; exact Ask_version A n cap vs hn hl c s i m d w hV hm hm2
    · by_cases k6 : k = 6
      · subst k6; exact Ask_history A n cap vs hn hl c s i m d w hV
      · exact Ask_none A n cap vs hn hl c s k i m d w hV k4 k5 k6
end Go.Proofs.Ytffahoocbjfdaaa
