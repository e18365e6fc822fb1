/- past.Past.Answer. -/
import Derived.Test.YtffahoocbjfdaaaHPaK
namespace Go.Proofs.Ytffahoocbjfdaaa
open Go.RowKit
set_option maxRecDepth 100000 in
set_option maxHeartbeats 1000000 in
theorem PAns_arg (p : Nat) (c sq at_ : Int) (r : Rep) (A : Option Addr) (vn ca : Nat) (h : at_ < 0 ∨ 1073741824 < at_) (w : World) :
    Calls Try.prog 37 #[.pointer (some ⟨p, 0, none⟩), .int .i64 c, .int .i64 sq, .agg #[.int .i64 r.code, .int .i64 r.ver, .string r.data, .slice A vn ca], .int .i64 at_] w fun e w' => e = .returned (.int .i64 1) ∧ Old w w' := by
  by_cases h1 : at_ < 0
  · clear h
    go_enter Try.func37, Try.ntmps37
    go_wp2
    go_ret
    exact ⟨rfl, (Old.refl' w).alloc' _⟩
  · have h2 : 1073741824 < at_ := by omega
    clear h
    go_enter Try.func37, Try.ntmps37
    go_wp2
    go_ret
    exact ⟨rfl, (Old.refl' w).alloc' _⟩
set_option maxRecDepth 100000 in
set_option maxHeartbeats 1000000 in
theorem PAns_out (p : Nat) (c sq at_ : Int) (r : Rep) (A : Option Addr) (vn ca : Nat) (h1 : ¬ at_ < 0) (h2 : ¬ 1073741824 < at_) (h : ¬ (0 ≤ c ∧ c < 4)) (w : World) :
    Calls Try.prog 37 #[.pointer (some ⟨p, 0, none⟩), .int .i64 c, .int .i64 sq, .agg #[.int .i64 r.code, .int .i64 r.ver, .string r.data, .slice A vn ca], .int .i64 at_] w fun e w' => e = .returned (.int .i64 4) ∧ Old w w' := by
  by_cases h3 : c < 0
  · clear h
    go_enter Try.func37, Try.ntmps37
    go_wp2
    go_ret
    exact ⟨rfl, (Old.refl' w).alloc' _⟩
  · have h4 : 4 ≤ c := by omega
    clear h
    go_enter Try.func37, Try.ntmps37
    go_wp2
    go_ret
    exact ⟨rfl, (Old.refl' w).alloc' _⟩
set_option maxRecDepth 100000 in
set_option maxHeartbeats 1000000 in
theorem PAns_none (p : Nat) (F : Nat → Prop) (st : PV) (c : Nat) (hc : c < 4) (sq at_ : Int) (h1 : ¬ at_ < 0) (h2 : ¬ 1073741824 < at_) (r : Rep) (A : Option Addr) (vn ca : Nat) (hw : st.wait c = none) (w : World) (h : PaAt w p F st) :
    Calls Try.prog 37 #[.pointer (some ⟨p, 0, none⟩), .int .i64 c, .int .i64 sq, .agg #[.int .i64 r.code, .int .i64 r.ver, .string r.data, .slice A vn ca], .int .i64 at_] w fun e w' => e = .returned (.int .i64 4) ∧ Old w w' := by
  obtain ⟨⟨cs, V, xs, hB, hC, hV⟩, gF, hlt, hwn⟩ := h
  have hgl := hB.bk.lt
  have h5 := hC.wc c hc
  rw [hw] at h5
  have hc4 : (c : Int) < 4 := by omega
  have hc0 : ¬ ((c : Int) < 0) := by omega
  have hc5 : ¬ (4 ≤ (c : Int)) := by omega
  have HO := hide ((Old.refl' w).alloc' (.cells #[.int .i64 r.code, .int .i64 r.ver, .string r.data, .slice A vn ca] 43))
  have t0 := (HO.out.cell (p := ⟨p, 5 + c, none⟩) hgl).trans ((hB.bk.cell _).trans h5)
  clear hw h5 hB hC hV hlt hwn gF hc
  go_enter Try.func37, Try.ntmps37
  go_wp2
  go_ret
  exact ⟨rfl, HO.out⟩
set_option maxRecDepth 100000 in
set_option maxHeartbeats 1000000 in
theorem PAns_other (p : Nat) (F : Nat → Prop) (st : PV) (c : Nat) (hc : c < 4) (sq at_ : Int) (h1 : ¬ at_ < 0) (h2 : ¬ 1073741824 < at_) (r : Rep) (A : Option Addr) (vn ca : Nat) (q : ReqV) (hw : st.wait c = some q) (hs : q.seq ≠ sq) (w : World) (h : PaAt w p F st) :
    Calls Try.prog 37 #[.pointer (some ⟨p, 0, none⟩), .int .i64 c, .int .i64 sq, .agg #[.int .i64 r.code, .int .i64 r.ver, .string r.data, .slice A vn ca], .int .i64 at_] w fun e w' => e = .returned (.int .i64 4) ∧ Old w w' := by
  obtain ⟨⟨cs, V, xs, hB, hC, hV⟩, gF, hlt, hwn⟩ := h
  have hgl := hB.bk.lt
  have h5 := hC.wc c hc
  rw [hw] at h5
  have hc4 : (c : Int) < 4 := by omega
  have hc0 : ¬ ((c : Int) < 0) := by omega
  have hc5 : ¬ (4 ≤ (c : Int)) := by omega
  have HO := hide ((Old.refl' w).alloc' (.cells #[.int .i64 r.code, .int .i64 r.ver, .string r.data, .slice A vn ca] 43))
  obtain ⟨bw, h5, hq, -⟩ := h5
  have t0 := (HO.out.cell (p := ⟨p, 5 + c, none⟩) hgl).trans ((hB.bk.cell _).trans h5)
  obtain ⟨⟨x0, x1, x2, x3, x4, x5⟩, lx⟩ := bk6 (hq.old HO.out)
  have e1 : (q.seq == sq) = false := by simpa using hs
  clear hw h5 hB hC hV hlt hwn gF hc hs hq
  go_enter Try.func37, Try.ntmps37
  go_wp2
  go_ret
  exact ⟨rfl, HO.out⟩
theorem PaC.answered {w w' : World} {cs : Array Value} {V V2 : Value} {F G : Nat → Prop} {st : PV} {c : Nat} (h : PaC w cs V F st) (hc : c < 4) (hF : ∀ v q, Waits w F v q → Waits w' G v q) :
    PaC w' ((cs.setIfInBounds 0 V2).setIfInBounds (5 + c) (.pointer none)) V2 G (st.answered c) := by
  refine ⟨?_, fun c' hc' => ?_, fun c' hc' => ?_⟩
  · rw [get_ne (by omega)]; exact get_eq h.c0 _
  · rw [get_ne (by omega), get_ne (by omega)]; exact h.lc c' hc'
  · show Waits w' G _ (if (c' : Int) = (c : Int) then none else st.wait c')
    by_cases e : c = c'
    · subst e
      rw [if_pos rfl]
      have h0 := h.wc c hc
      obtain ⟨v, hv⟩ : ∃ v, cs[5 + c]? = some v := by
        cases hw : st.wait c with
        | none => rw [hw] at h0; exact ⟨_, h0⟩
        | some q => rw [hw] at h0; obtain ⟨b, h1, -, -⟩ := h0; exact ⟨_, h1⟩
      exact get_eq (v := v) (by rw [get_ne (by omega)]; exact hv) _
    · rw [get_ne (by omega), get_ne (by omega), if_neg (by omega)]
      exact hF _ _ (h.wc c' hc')
set_option maxRecDepth 100000 in
set_option maxHeartbeats 4000000 in
theorem PAns_done (p : Nat) (F : Nat → Prop) (st : PV) (n : Nat) (hn : st.n = n) (hfew : n ≤ 50000) (c : Nat) (hc : c < 4) (sq at_ : Int) (h1 : ¬ at_ < 0) (h2 : ¬ 1073741824 < at_) (r : Rep) (A : Option Addr) (vn ca : Nat) (hvn : r.vs.length = vn) (hv : vn ≤ 50000) (q : ReqV) (hw : st.wait c = some q) (hs : q.seq = sq) (w : World) (h : PaAt w p F st) (hI : IntsAt w A r.vs) :
    Calls Try.prog 37 #[.pointer (some ⟨p, 0, none⟩), .int .i64 c, .int .i64 sq, .agg #[.int .i64 r.code, .int .i64 r.ver, .string r.data, .slice A vn ca], .int .i64 at_] w fun e w' => e = .returned (.int .i64 0) ∧ (∃ F', PaAt w' p F' (st.answered c) ∧ ∀ b, F' b → F b ∨ w.heap.size ≤ b) ∧ Fr F w w' ∧ ∃ AV cV, LastIs w' p n [.int .i64 c, .int .i64 sq, .bool true, .int .i64 q.client, .int .i64 q.seq, .int .i64 q.kind, .int .i64 q.id, .int .i64 q.mat, .string q.data, .int .i64 r.code, .int .i64 r.ver, .string r.data, .slice AV vn cV, .int .i64 at_] ∧ IntsAt w' AV r.vs := by
  obtain ⟨j0, hj0, hj00, hj01, hj02⟩ := info_parts info_Act
  obtain ⟨⟨cs, V, xs, hB, hC, hV⟩, gF, hlt, hwn⟩ := h
  have h5 := hC.wc c hc
  rw [hw] at h5
  obtain ⟨bw, h5, hq, hbF⟩ := h5
  rw [hn] at hB
  obtain ⟨V, cv, rfl, -, -⟩ := own_form hB.row
  have hxl : xs.length = n * 14 := hB.row.1
  have hgl := hB.bk.lt
  have hc4 : (c : Int) < 4 := by omega
  have hc0 : ¬ ((c : Int) < 0) := by omega
  have hc5 : ¬ (4 ≤ (c : Int)) := by omega
  have HO := hide ((Old.refl' w).alloc' (.cells #[.int .i64 r.code, .int .i64 r.ver, .string r.data, .slice A vn ca] 43))
  have t0 := (HO.out.cell (p := ⟨p, 5 + c, none⟩) hgl).trans ((hB.bk.cell _).trans h5)
  obtain ⟨⟨x0, x1, x2, x3, x4, x5⟩, lx⟩ := bk6 (hq.old HO.out)
  obtain ⟨⟨y0, y1, y2, y3⟩, -, ly⟩ := bk4 (Bk.new w 43 #[.int .i64 r.code, .int .i64 r.ver, .string r.data, .slice A vn ca])
  have cC := hide (Clone_ints A vn ca r.vs (by omega) hvn.symm (w.alloc (.cells #[.int .i64 r.code, .int .i64 r.ver, .string r.data, .slice A vn ca] 43)) (CellsAt.alloc hI _))
  have HK8 := hide (Bk.new w 43 #[.int .i64 r.code, .int .i64 r.ver, .string r.data, .slice A vn ca])
  have e1 : (q.seq == sq) = true := by simpa using hs
  have hbp : bw ≠ p := fun e => by rw [e] at hq; exact Bk.ne_ hq hB.bk (by decide) rfl
  have hbv : (Value.slice V n cv).ownBlock ≠ some bw := own_ne_bk hB.row hq (by decide)
  have hbl := hq.lt
  have HB := hide hB
  have HC := hide hC
  have HV := hide hV
  have HWN := hide hwn
  have HLT := hide hlt
  have HGF := hide gF
  have HXL := hide hxl
  have HQ := hide hq
  have H5 := hide h5
  have HVN := hide hvn
  clear hw hB hC hV hlt hwn gF hxl hq h5 hs hI hvn
  go_enter Try.func37, Try.ntmps37
  go_wp2_with fail
  refine cC.out.mono ?_
  rintro e w2 ⟨AV, cV, rfl, hrow, b2⟩
  have hIV : IntsAt w2 AV r.vs := CellsAt.of_own hrow
  have hnew : ∀ a, AV = some a → w.heap.size + 1 ≤ a.block := fun a ha => by
    subst ha
    have := (own_blk hrow (k := a.block) rfl).1
    simpa using this
  have k8 := HK8.out.old b2
  obtain ⟨⟨z0, z1, z2, z3⟩, ⟨g0, g1, g2, g3⟩, lz⟩ := bk4 k8
  clear x0 x1 x2 x3 x4 x5 lx y0 y1 y2 y3 ly t0 hrow
  go_wp2_with fail
  have hO2 := HO.out.trans' b2
  have hO3 : Old w (w2.setCell ⟨w.heap.size, 3, none⟩ (.slice AV vn cV)) := Old.setCell' (p := ⟨w.heap.size, 3, none⟩) hO2 (Nat.le_refl _) _
  have k9 : Bk (w2.setCell ⟨w.heap.size, 3, none⟩ (.slice AV vn cV)) w.heap.size 43 #[.int .i64 r.code, .int .i64 r.ver, .string r.data, .slice AV vn cV] := by
    have := k8.set_ 3 (.slice AV vn cV)
    simpa using this
  have hI3 : IntsAt (w2.setCell ⟨w.heap.size, 3, none⟩ (.slice AV vn cV)) AV r.vs := CellsAt.set_ hIV (fun a ha => by have := hnew a ha; show a.block ≠ w.heap.size; omega) _
  have hB5 := HB.out.old hO3
  have hQ5 := HQ.out.old hO3
  clear z0 z1 z2 z3 g0 g1 g2 g3 lz k8 hIV hO2
  obtain ⟨WD, hWDe⟩ : ∃ U, (w2.setCell ⟨w.heap.size, 3, none⟩ (.slice AV vn cV)).drew = U := ⟨_, rfl⟩
  have hO5 : Old w WD := hWDe ▸ hO3.drew'
  have k9 : Bk WD w.heap.size 43 #[.int .i64 r.code, .int .i64 r.ver, .string r.data, .slice AV vn cV] := hWDe ▸ k9.drew
  have hI5 : IntsAt WD AV r.vs := hWDe ▸ CellsAt.drew hI3
  have hB7 : PaB WD p cs (.slice V n cv) n xs := HB.out.old hO5
  have hQ7 := HQ.out.old hO5
  obtain ⟨b8, hb8⟩ : ∃ b, w.heap.size = b := ⟨_, rfl⟩
  rw [hb8] at k9
  simp only [hb8] at hWDe ⊢
  have HB8 := hide hb8
  have hp8 : p ≠ b8 := by omega
  have bkX := hB7.bk
  have ownX := hB7.row
  have hNE := hB7.ne
  have hX1 : cs[0]? = some (.slice V n cv) := HC.out.c0
  have CS := hide (fun (U : World) (h : Old WD U) => (⟨((bkX.old h).cell 0).trans hX1, ((bkX.old h).cell _).trans H5.out, (bk6 (hQ7.old h)).1, (bk4 (k9.old h)).1⟩ : U.cell? ⟨p, 0, none⟩ = some (.slice V n cv) ∧ U.cell? ⟨p, 5 + c, none⟩ = some (.pointer (some ⟨bw, 0, none⟩)) ∧ _ ∧ _))
  obtain ⟨Fin, hFin⟩ : ∃ F : World → Prop, F = fun U => ∃ A3 c3, PaB U p (cs.setIfInBounds 0 (.slice A3 (n + 1) c3)) (.slice A3 (n + 1) c3) (n + 1) (xs ++ [.int .i64 c, .int .i64 sq, .bool true, .int .i64 q.client, .int .i64 q.seq, .int .i64 q.kind, .int .i64 q.id, .int .i64 q.mat, .string q.data, .int .i64 r.code, .int .i64 r.ver, .string r.data, .slice AV vn cV, .int .i64 at_]) ∧
    Fr (fun b => b = p ∨ (Value.slice V n cv).ownBlock = some b) WD U ∧ (∀ b, (Value.slice A3 (n + 1) c3).ownBlock = some b → (Value.slice V n cv).ownBlock = some b ∨ WD.heap.size ≤ b) := ⟨_, rfl⟩
  have hAPP := fun (A3 : Option Addr) (c3 : Nat) (W3 : World) (h3 : Apps (WD.alloc (.cells #[.int .i64 c, .int .i64 sq, .bool true, .int .i64 q.client, .int .i64 q.seq, .int .i64 q.kind, .int .i64 q.id, .int .i64 q.mat, .string q.data, .int .i64 r.code, .int .i64 r.ver, .string r.data, .slice AV vn cV, .int .i64 at_] 45)) 0 45 14 (.slice V n cv) (n + 1) (xs ++ [.int .i64 c, .int .i64 sq, .bool true, .int .i64 q.client, .int .i64 q.seq, .int .i64 q.kind, .int .i64 q.id, .int .i64 q.mat, .string q.data, .int .i64 r.code, .int .i64 r.ver, .string r.data, .slice AV vn cV, .int .i64 at_]) (.slice A3 (n + 1) c3) W3) => (by
    obtain ⟨a1, a2, a3⟩ := hB7.app ((Old.refl' WD).alloc' _) h3
    rw [hFin]
    exact ⟨A3, c3, a1, a2, a3⟩ : Fin (W3.setCell ⟨p, 0, none⟩ (.slice A3 (n + 1) c3)))
  have HK9 := hide k9
  have HI5 := hide hI5
  have HO5 := hide hO5
  clear hB5 hQ5 hB7 hQ7 hO3 hI3 k9 hI5 hO5 HO cC b2 hb8
  refine region_steps (R := pick [eqv (.pointer (some ⟨p, 0, none⟩)), eqv (.pointer (some ⟨p, 0, none⟩)), eqv (.pointer (some ⟨p, 0, none⟩)), eqv (.pointer (some ⟨p, 0, none⟩)), eqv (.slice V n cv), eqv (.int .i64 c), eqv (.int .i64 sq), eqv (.pointer (some ⟨p, 0, none⟩)), eqv (.int .i64 c), eqv (.pointer (some ⟨p, 0, none⟩)), eqv (.pointer (some ⟨p, 5, none⟩)), eqv (.pointer (some ⟨p, 5 + c, none⟩)), eqv (.pointer (some ⟨bw, 0, none⟩)), eqv (.pointer (some ⟨bw, 0, none⟩)), eqv (.agg #[.int .i64 q.client, .int .i64 q.seq, .int .i64 q.kind, .int .i64 q.id, .int .i64 q.mat, .string q.data]), eqv (.agg #[.int .i64 r.code, .int .i64 r.ver, .string r.data, .slice AV vn cV]), eqv (.int .i64 at_), eqv (.agg #[.int .i64 c, .int .i64 sq, .bool true, .int .i64 q.client, .int .i64 q.seq, .int .i64 q.kind, .int .i64 q.id, .int .i64 q.mat, .string q.data, .int .i64 r.code, .int .i64 r.ver, .string r.data, .slice AV vn cV, .int .i64 at_]), eqv (.slice (some ⟨WD.heap.size, 0, none⟩) 1 1), fun v w' => ∃ A2 c2, v = .slice A2 (n + 1) c2, eqv (.pointer (some ⟨p, 0, none⟩)), eqv (.pointer (some ⟨p, 0, none⟩)), eqv (undef)]) (S := fun σ w' => (σ 22 ≠ none → Fin w') ∧ (σ 22 = none → σ 19 ≠ none → ∃ A2 c2, σ 19 = some (.slice A2 (n + 1) c2) ∧ Apps (WD.alloc (.cells #[.int .i64 c, .int .i64 sq, .bool true, .int .i64 q.client, .int .i64 q.seq, .int .i64 q.kind, .int .i64 q.id, .int .i64 q.mat, .string q.data, .int .i64 r.code, .int .i64 r.ver, .string r.data, .slice AV vn cV, .int .i64 at_] 45)) 0 45 14 (.slice V n cv) (n + 1) (xs ++ [.int .i64 c, .int .i64 sq, .bool true, .int .i64 q.client, .int .i64 q.seq, .int .i64 q.kind, .int .i64 q.id, .int .i64 q.mat, .string q.data, .int .i64 r.code, .int .i64 r.ver, .string r.data, .slice AV vn cV, .int .i64 at_]) (.slice A2 (n + 1) c2) w') ∧ (σ 22 = none → σ 19 = none → σ 18 ≠ none → w' = (WD.alloc (.cells #[.int .i64 c, .int .i64 sq, .bool true, .int .i64 q.client, .int .i64 q.seq, .int .i64 q.kind, .int .i64 q.id, .int .i64 q.mat, .string q.data, .int .i64 r.code, .int .i64 r.ver, .string r.data, .slice AV vn cV, .int .i64 at_] 45))) ∧ (σ 22 = none → σ 19 = none → σ 18 = none → w' = WD)) (T := (fun _ _ => True)) (by kernel_rfl) (by kernel_rfl) (by kernel_rfl) (Stab.pick (Stab.eqv (Stab.eqv (Stab.eqv (Stab.eqv (Stab.eqv (Stab.eqv (Stab.eqv (Stab.eqv (Stab.eqv (Stab.eqv (Stab.eqv (Stab.eqv (Stab.eqv (Stab.eqv (Stab.eqv (Stab.eqv (Stab.eqv (Stab.eqv (Stab.eqv (Stab.cons (fun _ _ _ _ h => h) (Stab.eqv (Stab.eqv (Stab.eqv (Stab.nil))))))))))))))))))))))))) (⟨fun h => absurd rfl h, fun _ h => absurd rfl h, fun _ _ h => absurd rfl h, fun _ _ _ => hWDe⟩) ?steps ?ends
  case steps =>
    refine StepsOk.cons (stepOk_pure [] [(0, .pointer (some ⟨p, 0, none⟩))] rfl rfl (by kernel_rfl) (by kernel_rfl) rfl (fun _ => trivial) (fun σ v w h => by simpa [upd] using h) (fun d E w' hk hda hS hc hf => by rintro  e0; exact ⟨_, by go_simp, rfl⟩)) ?_
    refine StepsOk.cons (stepOk_pure [] [(0, .pointer (some ⟨p, 0, none⟩))] rfl rfl (by kernel_rfl) (by kernel_rfl) rfl (fun _ => trivial) (fun σ v w h => by simpa [upd] using h) (fun d E w' hk hda hS hc hf => by rintro  e0; exact ⟨_, by go_simp, rfl⟩)) ?_
    refine StepsOk.cons (stepOk_pure [(1, 54)] [] rfl rfl (by kernel_rfl) (by kernel_rfl) rfl (fun _ => trivial) (fun σ v w h => by simpa [upd] using h) (fun d E w' hk hda hS hc hf => by rintro _ q1 rfl e54 ; exact ⟨_, by go_simp, rfl⟩)) ?_
    refine StepsOk.cons (stepOk_pure [(2, 55)] [] rfl rfl (by kernel_rfl) (by kernel_rfl) rfl (fun _ => trivial) (fun σ v w h => by simpa [upd] using h) (fun d E w' hk hda hS hc hf => by rintro _ q2 rfl e55 ; exact ⟨_, by go_simp, rfl⟩)) ?_
    refine StepsOk.cons (stepOk_pure [(3, 56)] [] rfl rfl (by kernel_rfl) (by kernel_rfl) rfl (fun _ => trivial) (fun σ v w h => by simpa [upd] using h) (fun d E w' hk hda hS hc hf => by rintro _ q3 rfl e56 ; obtain ⟨t0, t1, ⟨s0, s1, s2, s3, s4, s5⟩, ⟨y0, y1, y2, y3⟩⟩ := CS.out w' ((Classical.em (d 18 = none)).elim (fun h13 => by rw [hS.2.2.2 (hk 22 (by kernel_rfl)) (hk 19 (by kernel_rfl)) h13]; exact Old.refl' _) (fun h13 => by rw [hS.2.2.1 (hk 22 (by kernel_rfl)) (hk 19 (by kernel_rfl)) h13]; exact (Old.refl' _).alloc' _)); exact ⟨_, by go_simp, rfl⟩)) ?_
    refine StepsOk.cons (stepOk_pure [] [(1, .int .i64 c)] rfl rfl (by kernel_rfl) (by kernel_rfl) rfl (fun _ => trivial) (fun σ v w h => by simpa [upd] using h) (fun d E w' hk hda hS hc hf => by rintro  e1; exact ⟨_, by go_simp, rfl⟩)) ?_
    refine StepsOk.cons (stepOk_pure [] [(2, .int .i64 sq)] rfl rfl (by kernel_rfl) (by kernel_rfl) rfl (fun _ => trivial) (fun σ v w h => by simpa [upd] using h) (fun d E w' hk hda hS hc hf => by rintro  e2; exact ⟨_, by go_simp, rfl⟩)) ?_
    refine StepsOk.cons (stepOk_pure [] [(0, .pointer (some ⟨p, 0, none⟩))] rfl rfl (by kernel_rfl) (by kernel_rfl) rfl (fun _ => trivial) (fun σ v w h => by simpa [upd] using h) (fun d E w' hk hda hS hc hf => by rintro  e0; exact ⟨_, by go_simp, rfl⟩)) ?_
    refine StepsOk.cons (stepOk_pure [] [(1, .int .i64 c)] rfl rfl (by kernel_rfl) (by kernel_rfl) rfl (fun _ => trivial) (fun σ v w h => by simpa [upd] using h) (fun d E w' hk hda hS hc hf => by rintro  e1; exact ⟨_, by go_simp, rfl⟩)) ?_
    refine StepsOk.cons (stepOk_pure [(7, 60)] [] rfl rfl (by kernel_rfl) (by kernel_rfl) rfl (fun _ => trivial) (fun σ v w h => by simpa [upd] using h) (fun d E w' hk hda hS hc hf => by rintro _ q7 rfl e60 ; exact ⟨_, by go_simp, rfl⟩)) ?_
    refine StepsOk.cons (stepOk_pure [(9, 62)] [] rfl rfl (by kernel_rfl) (by kernel_rfl) rfl (fun _ => trivial) (fun σ v w h => by simpa [upd] using h) (fun d E w' hk hda hS hc hf => by rintro _ q9 rfl e62 ; exact ⟨_, by go_simp, rfl⟩)) ?_
    refine StepsOk.cons (stepOk_pure [(10, 63), (8, 61)] [] rfl rfl (by kernel_rfl) (by kernel_rfl) rfl (fun _ => trivial) (fun σ v w h => by simpa [upd] using h) (fun d E w' hk hda hS hc hf => by rintro _ q10 rfl e63 _ q8 rfl e61 ; obtain ⟨t0, t1, ⟨s0, s1, s2, s3, s4, s5⟩, ⟨y0, y1, y2, y3⟩⟩ := CS.out w' ((Classical.em (d 18 = none)).elim (fun h13 => by rw [hS.2.2.2 (hk 22 (by kernel_rfl)) (hk 19 (by kernel_rfl)) h13]; exact Old.refl' _) (fun h13 => by rw [hS.2.2.1 (hk 22 (by kernel_rfl)) (hk 19 (by kernel_rfl)) h13]; exact (Old.refl' _).alloc' _)); exact ⟨_, by go_simp, rfl⟩)) ?_
    refine StepsOk.cons (stepOk_pure [(11, 64)] [] rfl rfl (by kernel_rfl) (by kernel_rfl) rfl (fun _ => trivial) (fun σ v w h => by simpa [upd] using h) (fun d E w' hk hda hS hc hf => by rintro _ q11 rfl e64 ; obtain ⟨t0, t1, ⟨s0, s1, s2, s3, s4, s5⟩, ⟨y0, y1, y2, y3⟩⟩ := CS.out w' ((Classical.em (d 18 = none)).elim (fun h13 => by rw [hS.2.2.2 (hk 22 (by kernel_rfl)) (hk 19 (by kernel_rfl)) h13]; exact Old.refl' _) (fun h13 => by rw [hS.2.2.1 (hk 22 (by kernel_rfl)) (hk 19 (by kernel_rfl)) h13]; exact (Old.refl' _).alloc' _)); exact ⟨_, by go_simp, rfl⟩)) ?_
    refine StepsOk.cons (stepOk_pure [(12, 65)] [] rfl rfl (by kernel_rfl) (by kernel_rfl) rfl (fun _ => trivial) (fun σ v w h => by simpa [upd] using h) (fun d E w' hk hda hS hc hf => by rintro _ q12 rfl e65 ; exact ⟨_, by go_simp, rfl⟩)) ?_
    refine StepsOk.cons (stepOk_pure [(13, 66)] [] rfl rfl (by kernel_rfl) (by kernel_rfl) rfl (fun _ => trivial) (fun σ v w h => by simpa [upd] using h) (fun d E w' hk hda hS hc hf => by rintro _ q13 rfl e66 ; obtain ⟨t0, t1, ⟨s0, s1, s2, s3, s4, s5⟩, ⟨y0, y1, y2, y3⟩⟩ := CS.out w' ((Classical.em (d 18 = none)).elim (fun h13 => by rw [hS.2.2.2 (hk 22 (by kernel_rfl)) (hk 19 (by kernel_rfl)) h13]; exact Old.refl' _) (fun h13 => by rw [hS.2.2.1 (hk 22 (by kernel_rfl)) (hk 19 (by kernel_rfl)) h13]; exact (Old.refl' _).alloc' _)); exact ⟨_, by go_simp, rfl⟩)) ?_
    refine StepsOk.cons (stepOk_pure [] [(8, .pointer (some ⟨b8, 0, none⟩))] rfl rfl (by kernel_rfl) (by kernel_rfl) rfl (fun _ => trivial) (fun σ v w h => by simpa [upd] using h) (fun d E w' hk hda hS hc hf => by rintro  e8; obtain ⟨t0, t1, ⟨s0, s1, s2, s3, s4, s5⟩, ⟨y0, y1, y2, y3⟩⟩ := CS.out w' ((Classical.em (d 18 = none)).elim (fun h13 => by rw [hS.2.2.2 (hk 22 (by kernel_rfl)) (hk 19 (by kernel_rfl)) h13]; exact Old.refl' _) (fun h13 => by rw [hS.2.2.1 (hk 22 (by kernel_rfl)) (hk 19 (by kernel_rfl)) h13]; exact (Old.refl' _).alloc' _)); exact ⟨_, by go_simp, rfl⟩)) ?_
    refine StepsOk.cons (stepOk_pure [] [(4, .int .i64 at_)] rfl rfl (by kernel_rfl) (by kernel_rfl) rfl (fun _ => trivial) (fun σ v w h => by simpa [upd] using h) (fun d E w' hk hda hS hc hf => by rintro  e4; exact ⟨_, by go_simp, rfl⟩)) ?_
    refine StepsOk.cons (stepOk_pure [(5, 58), (6, 59), (14, 67), (15, 68), (16, 69)] [] rfl rfl (by kernel_rfl) (by kernel_rfl) rfl (fun _ => trivial) (fun σ v w h => by simpa [upd] using h) (fun d E w' hk hda hS hc hf => by rintro _ q5 rfl e58 _ q6 rfl e59 _ q14 rfl e67 _ q15 rfl e68 _ q16 rfl e69 ; exact ⟨_, by go_simp, rfl⟩)) ?_
    refine StepsOk.cons (stepOk_mk [(17, 70)] [] rfl rfl (by kernel_rfl) (by kernel_rfl) rfl ?_) ?_
    · rintro d a w' hk hda hS _ q17 rfl e70 
      first | refine Given.nil (Known.nil ?_) | refine Known.nil ?_
      obtain rfl := (hS.2.2.2 (hk 22 (by kernel_rfl)) (hk 19 (by kernel_rfl)) (hk 18 (by kernel_rfl))).symm
      refine wp_runv (w' := (WD.alloc (.cells #[.int .i64 c, .int .i64 sq, .bool true, .int .i64 q.client, .int .i64 q.seq, .int .i64 q.kind, .int .i64 q.id, .int .i64 q.mat, .string q.data, .int .i64 r.code, .int .i64 r.ver, .string r.data, .slice AV vn cV, .int .i64 at_] 45))) (.slice (some ⟨WD.heap.size, 0, none⟩) 1 1) (by revert e70; generalize a.eval = E; intro e70; go_simp) ⟨_, rfl, rfl, trivial, ?_⟩
      exact ⟨fun h => absurd (hk 22 (by kernel_rfl)) (by simpa [upd] using h), fun _ h => absurd (hk 19 (by kernel_rfl)) (by simpa [upd] using h), fun _ _ _ => rfl, fun _ _ h => by simp [upd] at h⟩
    refine StepsOk.cons (stepOk_mk [(4, 57), (18, 71)] [] rfl rfl (by kernel_rfl) (by kernel_rfl) rfl ?_) ?_
    · rintro d a w' hk hda hS _ q4 rfl e57 _ q18 rfl e71 
      first | refine Given.nil (Known.nil ?_) | refine Known.nil ?_
      obtain rfl := hS.2.2.1 (hk 22 (by kernel_rfl)) (hk 19 (by kernel_rfl)) (by rw [q18]; simp)
      refine wp_app _ (.tmp 57) (.tmp 71) 28 rfl 0 45 j0 (.agg #[.int .i64 0, .int .i64 0, .bool false, .int .i64 0, .int .i64 0, .int .i64 0, .int .i64 0, .int .i64 0, .string { data := #[] }, .int .i64 0, .int .i64 0, .string { data := #[] }, .slice none 0 0, .int .i64 0]) 14 144 Try.underlying28 hj0 hj00 hj01 hj02 rfl (by decide) (.slice V n cv) n (xs) e57 (ownX.alloc _) (some ⟨WD.heap.size, 0, none⟩) 1 1 [.int .i64 c, .int .i64 sq, .bool true, .int .i64 q.client, .int .i64 q.seq, .int .i64 q.kind, .int .i64 q.id, .int .i64 q.mat, .string q.data, .int .i64 r.code, .int .i64 r.ver, .string r.data, .slice AV vn cV, .int .i64 at_] e71 rfl (cells_bk (Bk.new WD 45 #[.int .i64 c, .int .i64 sq, .bool true, .int .i64 q.client, .int .i64 q.seq, .int .i64 q.kind, .int .i64 q.id, .int .i64 q.mat, .string q.data, .int .i64 r.code, .int .i64 r.ver, .string r.data, .slice AV vn cV, .int .i64 at_])) (by simp [Value.oneCell']) (by unfold maxLen; omega) (by omega) (Nat.zero_le _) (n + 1) rfl _ rfl ?_
      intro A2 c2 W2 h2
      exact ⟨_, rfl, ⟨A2, c2, rfl⟩, trivial, fun h => absurd (hk 22 (by kernel_rfl)) (by simpa [upd] using h), fun _ _ => ⟨A2, c2, by simp [upd], h2⟩, fun _ h => by simp [upd] at h, fun _ h => by simp [upd] at h⟩
    refine StepsOk.cons (stepOk_pure [(0, 53)] [] rfl rfl (by kernel_rfl) (by kernel_rfl) rfl (fun _ => trivial) (fun σ v w h => by simpa [upd] using h) (fun d E w' hk hda hS hc hf => by rintro _ q0 rfl e53 ; exact ⟨_, by go_simp, rfl⟩)) ?_
    refine StepsOk.cons (stepOk_pure [(20, 73)] [] rfl rfl (by kernel_rfl) (by kernel_rfl) rfl (fun _ => trivial) (fun σ v w h => by simpa [upd] using h) (fun d E w' hk hda hS hc hf => by rintro _ q20 rfl e73 ; exact ⟨_, by go_simp, rfl⟩)) ?_
    refine StepsOk.cons (stepOk_store [(21, 74), (19, 72)] [] rfl rfl (by kernel_rfl) (by kernel_rfl) rfl (fun d E w' hk hda hS hc hf => by rintro _ q21 rfl e74 _ q19 ⟨A2, c2, rfl⟩ e72 ; obtain ⟨A3, c3, e14, h2⟩ := hS.2.1 (hk 22 (by kernel_rfl)) (by rw [q19]; simp); rw [q19] at e14; injection e14 with e14; injection e14 with e14a _ e14b; subst e14a e14b; have hG2 := h2.bk (bkX.alloc _) hNE; have y0 := (hG2.cell 0).trans hX1; have y1 := hG2.frozen 0; exact ⟨w'.setCell ⟨p, 0, none⟩ (.slice A2 (n + 1) c2), by go_simp, rfl, trivial, ⟨fun _ => hAPP _ _ _ h2, fun h => by simp [upd] at h, fun h => by simp [upd] at h, fun h => by simp [upd] at h⟩⟩)) ?_
    exact StepsOk.nil
  case ends =>
    intro σ9 w9 hS9 hA9
    refine Ends.eqv (some 53) (.pointer (some ⟨p, 0, none⟩)) rfl (fun _ h => h) ?_
    refine Ends.eqv (some 54) (.pointer (some ⟨p, 0, none⟩)) rfl (fun _ h => h) ?_
    refine Ends.eqv (some 55) (.pointer (some ⟨p, 0, none⟩)) rfl (fun _ h => h) ?_
    refine Ends.eqv (some 56) (.pointer (some ⟨p, 0, none⟩)) rfl (fun _ h => h) ?_
    refine Ends.eqv (some 57) (.slice V n cv) rfl (fun _ h => h) ?_
    refine Ends.eqv (some 58) (.int .i64 c) rfl (fun _ h => h) ?_
    refine Ends.eqv (some 59) (.int .i64 sq) rfl (fun _ h => h) ?_
    refine Ends.eqv (some 60) (.pointer (some ⟨p, 0, none⟩)) rfl (fun _ h => h) ?_
    refine Ends.eqv (some 61) (.int .i64 c) rfl (fun _ h => h) ?_
    refine Ends.eqv (some 62) (.pointer (some ⟨p, 0, none⟩)) rfl (fun _ h => h) ?_
    refine Ends.eqv (some 63) (.pointer (some ⟨p, 5, none⟩)) rfl (fun _ h => h) ?_
    refine Ends.eqv (some 64) (.pointer (some ⟨p, 5 + c, none⟩)) rfl (fun _ h => h) ?_
    refine Ends.eqv (some 65) (.pointer (some ⟨bw, 0, none⟩)) rfl (fun _ h => h) ?_
    refine Ends.eqv (some 66) (.pointer (some ⟨bw, 0, none⟩)) rfl (fun _ h => h) ?_
    refine Ends.eqv (some 67) (.agg #[.int .i64 q.client, .int .i64 q.seq, .int .i64 q.kind, .int .i64 q.id, .int .i64 q.mat, .string q.data]) rfl (fun _ h => h) ?_
    refine Ends.eqv (some 68) (.agg #[.int .i64 r.code, .int .i64 r.ver, .string r.data, .slice AV vn cV]) rfl (fun _ h => h) ?_
    refine Ends.eqv (some 69) (.int .i64 at_) rfl (fun _ h => h) ?_
    refine Ends.eqv (some 70) (.agg #[.int .i64 c, .int .i64 sq, .bool true, .int .i64 q.client, .int .i64 q.seq, .int .i64 q.kind, .int .i64 q.id, .int .i64 q.mat, .string q.data, .int .i64 r.code, .int .i64 r.ver, .string r.data, .slice AV vn cV, .int .i64 at_]) rfl (fun _ h => h) ?_
    refine Ends.eqv (some 71) (.slice (some ⟨WD.heap.size, 0, none⟩) 1 1) rfl (fun _ h => h) ?_
    refine Ends.ex (some 72) rfl ?_
    rintro _ p19 ⟨A2, c2, rfl⟩
    refine Ends.eqv (some 73) (.pointer (some ⟨p, 0, none⟩)) rfl (fun _ h => h) ?_
    refine Ends.eqv (some 74) (.pointer (some ⟨p, 0, none⟩)) rfl (fun _ h => h) ?_
    refine Ends.eqv none (undef) rfl (fun _ h => h) ?_
    refine Ends.nil ?_
    have hA9' := hA9
    clear hA9
    simp only [put_lit, put_none, List.set_cons_zero, List.set_cons_succ]
    have hfin := hS9.1 (by have := hA9' 22 (by simp); intro e; rw [e] at this; simp at this)
    clear hS9 hA9'
    rw [hFin] at hfin
    obtain ⟨A3, c3, hB8, hF8, hV8⟩ := hfin
    clear CS hAPP bkX ownX hNE hFin hWDe
    have hsz5 := HO5.out.size
    have hlast := hB8.last (get_eq (v := .slice V n cv) HC.out.c0 _) HXL.out rfl
    have hvF : ∀ b, (Value.slice V n cv).ownBlock = some b → b < w.heap.size := fun b hb => HLT.out _ (HV.out b hb)
    have hI8 : IntsAt w9 AV r.vs := CellsAt.fr HI5.out hF8 (fun _ a ha e => by
      have h1 := hnew a ha
      rcases e with e | e
      · omega
      · have := hvF _ e; omega)
    obtain ⟨cu, hcu⟩ : ∃ x, cs.setIfInBounds 0 (Value.slice A3 (n + 1) c3) = x := ⟨_, rfl⟩
    have h5u : cu[5 + c]? = some (.pointer (some ⟨bw, 0, none⟩)) := by rw [← hcu, get_ne (by omega)]; exact H5.out
    rw [hcu] at hB8
    have tp := (hB8.bk.cell (5 + c)).trans h5u
    have tf := hB8.bk.frozen (5 + c)
    have lp := hB8.bk.lt
    have hB9 := hB8.set_ (5 + c) (.pointer none)
    have hf9 : Fr (fun b => b = p) w9 (w9.setCell ⟨p, 5 + c, none⟩ (.pointer none)) := Fr.setCell (S := fun b => b = p) (p := ⟨p, 5 + c, none⟩) (Fr.refl (fun b => b = p) w9) (.inr rfl) _
    have hpp : p < w.heap.size := HLT.out p HGF.out
    have hfr : Fr F w (w9.setCell ⟨p, 5 + c, none⟩ (.pointer none)) := ((Fr.of_old (S := F) HO5.out).trans' hF8 (fun b _ hb => by rcases hb with hb | hb; exact hb ▸ HGF.out; exact HV.out b hb)).trans' hf9 (fun b _ hb => by rw [show b = p from hb]; exact HGF.out)
    have HFR := hide hfr
    have HI9 := hide (CellsAt.fr hI8 hf9 (fun _ a ha e => by have h1 := hnew a ha; have h2 : a.block = p := e; omega) : CellsAt _ AV _)
    have HLA := hide (show LastIs (w9.setCell ⟨p, 5 + c, none⟩ (.pointer none)) p n [.int .i64 c, .int .i64 sq, .bool true, .int .i64 q.client, .int .i64 q.seq, .int .i64 q.kind, .int .i64 q.id, .int .i64 q.mat, .string q.data, .int .i64 r.code, .int .i64 r.ver, .string r.data, .slice AV vn cV, .int .i64 at_] from by
      refine hB9.last ?_ HXL.out rfl
      rw [get_ne (by omega), ← hcu]
      exact get_eq HC.out.c0 _)
    have hfin := hide (show ∃ F', PaAt (w9.setCell ⟨p, 5 + c, none⟩ (.pointer none)) p F' (st.answered c) ∧ ∀ b, F' b → F b ∨ w.heap.size ≤ b from by
      refine ⟨fun b => F b ∨ (Value.slice A3 (n + 1) c3).ownBlock = some b, ⟨⟨_, _, _, by rw [show (st.answered c).n = n + 1 by rw [← hn]; rfl]; exact hB9, ?_, fun b hb => .inr hb⟩, .inl HGF.out, fun b hb => ?_, fun x hx => ?_⟩, fun b hb => ?_⟩
      · rw [← hcu]
        refine PaC.answered HC.out hc (fun v r' hv => ?_)
        cases r' with
        | none => exact hv
        | some r' =>
          obtain ⟨bx, e1, e2, e3⟩ := hv
          have hxp : bx ≠ p := fun e => by rw [e] at e2; exact Bk.ne_ e2 HB.out.bk (by decide) rfl
          have hxv : (Value.slice V n cv).ownBlock ≠ some bx := own_ne_bk HB.out.row e2 (by decide)
          exact ⟨bx, e1, ((e2.old HO5.out).fr hF8 (fun e => by rcases e with e | e; exact hxp e; exact hxv e)).fr hf9 hxp, .inl e3⟩
      · rcases hb with hb | hb
        · exact Nat.lt_of_lt_of_le (HLT.out b hb) hfr.size
        · exact own_lt8 hB9.row hb
      · show (if x = (c : Int) then none else st.wait x) = none
        rw [if_neg (by omega)]
        exact HWN.out x hx
      · rcases hb with hb | hb
        · exact .inl hb
        · rcases hV8 b hb with hb | hb
          · exact .inl (HV.out b hb)
          · exact .inr (by omega))
    clear hB8 hF8 hV8 hfr hB9 hf9 hI8 hlast
    go_wp2_with fail
    go_ret
    exact ⟨rfl, hfin.out, HFR.out, AV, cV, HLA.out, HI9.out⟩
theorem PAns_at (p : Nat) (F : Nat → Prop) (st : PV) (n : Nat) (hn : st.n = n) (hfew : n ≤ 50000) (c sq at_ : Int) (r : Rep) (A : Option Addr) (vn ca : Nat) (hvn : r.vs.length = vn) (hv : vn ≤ 50000) (E : Int) (hE : st.ansE c sq at_ = E) (s' : PV) (hs' : st.ans c sq at_ = s') (w : World) (h : PaAt w p F st) (hI : IntsAt w A r.vs) :
    Calls Try.prog 37 #[.pointer (some ⟨p, 0, none⟩), .int .i64 c, .int .i64 sq, .agg #[.int .i64 r.code, .int .i64 r.ver, .string r.data, .slice A vn ca], .int .i64 at_] w fun e w' => e = .returned (.int .i64 E) ∧ (∃ F', PaAt w' p F' s' ∧ ∀ b, F' b → F b ∨ w.heap.size ≤ b) ∧ Fr F w w' ∧
      (E = 0 → ∃ q AV cV, st.wait c = some q ∧ LastIs w' p n [.int .i64 c, .int .i64 sq, .bool true, .int .i64 q.client, .int .i64 q.seq, .int .i64 q.kind, .int .i64 q.id, .int .i64 q.mat, .string q.data, .int .i64 r.code, .int .i64 r.ver, .string r.data, .slice AV vn cV, .int .i64 at_] ∧ IntsAt w' AV r.vs) := by
  subst hE hs'
  have still : ∀ E, st.ansE c sq at_ = E → E ≠ 0 → st.ans c sq at_ = st := fun E h1 h2 => by unfold PV.ans; rw [if_neg (by rw [h1]; exact h2)]
  by_cases h1 : at_ < 0 ∨ 1073741824 < at_
  · have e : st.ansE c sq at_ = 1 := by unfold PV.ansE; rw [if_pos h1]
    rw [still 1 e (by decide), e]
    exact (PAns_arg p c sq at_ r A vn ca h1 w).mono fun e w' ⟨he, hb⟩ => ⟨he, ⟨F, h.old hb, fun b hb => .inl hb⟩, Fr.of_old hb, fun h => absurd h (by decide)⟩
  · have h1a : ¬ at_ < 0 := fun e => h1 (.inl e)
    have h1b : ¬ 1073741824 < at_ := fun e => h1 (.inr e)
    cases hw : st.wait c with
    | none =>
      have e : st.ansE c sq at_ = 4 := by unfold PV.ansE; rw [if_neg h1, hw]
      rw [still 4 e (by decide), e]
      by_cases hc : 0 ≤ c ∧ c < 4
      · obtain ⟨c, rfl⟩ : ∃ n : Nat, c = n := ⟨c.toNat, by omega⟩
        exact (PAns_none p F st c (by omega) sq at_ h1a h1b r A vn ca hw w h).mono fun e w' ⟨he, hb⟩ => ⟨he, ⟨F, h.old hb, fun b hb => .inl hb⟩, Fr.of_old hb, fun h => absurd h (by decide)⟩
      · exact (PAns_out p c sq at_ r A vn ca h1a h1b hc w).mono fun e w' ⟨he, hb⟩ => ⟨he, ⟨F, h.old hb, fun b hb => .inl hb⟩, Fr.of_old hb, fun h => absurd h (by decide)⟩
    | some q =>
      have hc : 0 ≤ c ∧ c < 4 := Classical.byContradiction fun hc => by have := h.wn c hc; rw [hw] at this; cases this
      obtain ⟨c, rfl⟩ : ∃ n : Nat, c = n := ⟨c.toNat, by omega⟩
      by_cases hs : q.seq = sq
      · have e : st.ansE c sq at_ = 0 := by unfold PV.ansE; rw [if_neg h1, hw]; exact if_pos hs
        have e2 : st.ans c sq at_ = st.answered c := by unfold PV.ans; rw [if_pos e]
        rw [e, e2]
        exact (PAns_done p F st n hn hfew c (by omega) sq at_ h1a h1b r A vn ca hvn hv q hw hs w h hI).mono fun e w' ⟨he, h1, h2, AV, cV, h3, h4⟩ => ⟨he, h1, h2, fun _ => ⟨q, AV, cV, rfl, h3, h4⟩⟩
      · have e : st.ansE c sq at_ = 4 := by unfold PV.ansE; rw [if_neg h1, hw]; exact if_neg hs
        rw [still 4 e (by decide), e]
        exact (PAns_other p F st c (by omega) sq at_ h1a h1b r A vn ca q hw hs w h).mono fun e w' ⟨he, hb⟩ => ⟨he, ⟨F, h.old hb, fun b hb => .inl hb⟩, Fr.of_old hb, fun h => absurd h (by decide)⟩
end Go.Proofs.Ytffahoocbjfdaaa
