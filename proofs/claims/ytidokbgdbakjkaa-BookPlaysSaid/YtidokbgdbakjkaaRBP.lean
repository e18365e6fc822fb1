/- The document's table (casebookref4.B): Put, Del. -/
import Derived.Deep.Cut
import Derived.Deep.CutRange
import Derived.Test.YtidokbgdbakjkaaRB
namespace Go.Proofs.Ytidokbgdbakjkaa
open Go.RowKit

/-- a row's slice cut at p: how the second part reads -/
theorem cut_rest {w : World} {base ga n ck p : Nat} {xs : List Value} (h : w.ownsRow base 3 1 (.slice (some ⟨ga, 0, none⟩) n ck) n xs) (hp : p ≤ n) :
    ∃ o, (if ck = p then (some ⟨ga, 0, none⟩ : Option Addr) else some ⟨ga, p, none⟩) = some ⟨ga, o, none⟩ ∧ CellsAt w (some ⟨ga, o, none⟩) (xs.drop p) := by
  by_cases hc : ck = p
  · refine ⟨0, if_pos hc, ?_⟩
    have h1 := h.1
    have h2 := (own_size h).1
    rw [List.drop_of_length_le (by omega)]
    exact CellsAt.nil _ _
  · exact ⟨p, if_neg hc, own_rest h p⟩

theorem own_cases {w : World} {base n ck : Nat} {A : Option Addr} {xs : List Value} (h : w.ownsRow base 3 1 (.slice A n ck) n xs) : (A = none ∧ n = 0 ∧ ck = 0) ∨ ∃ ga, A = some ⟨ga, 0, none⟩ := by
  rcases h.2 with ⟨e, h0⟩ | ⟨g, cap, cur, e, _⟩
  · injection e with e1 e2 e3
    exact .inl ⟨e1, e2, e3⟩
  · injection e with e1 e2 e3
    exact .inr ⟨g, e1⟩

theorem rfin {w W5 W6 : World} {base g n1 : Nat} {K V K' V' : Value} {ks' : List Int} {vs' : List Value} (hgl : g < w.heap.size) (low : base ≤ g) (k0 : w.cell? ⟨g, 0, none⟩ = some K) (v0 : w.cell? ⟨g, 1, none⟩ = some V) (fk : w.frozen? ⟨g, 0, none⟩ = false) (fv : w.frozen? ⟨g, 1, none⟩ = false)
    (O5 : Old w W5) (r5 : W5.ownsRow w.heap.size 3 1 K' n1 (ks'.map (Value.int .i64))) (O6 : Old (W5.setCell ⟨g, 0, none⟩ K') W6) (r6 : W6.ownsRow (W5.setCell ⟨g, 0, none⟩ K').heap.size 3 1 V' n1 vs') (hl : n1 = ks'.length) (rise : ks'.Pairwise (· < ·)) (hone : ∀ u ∈ vs', u.oneCell' = true) :
    TabAt (W6.setCell ⟨g, 1, none⟩ V') base g 0 K' V' ks' vs' ∧ Fr (fun k => k = g) w (W6.setCell ⟨g, 1, none⟩ V') ∧ ∀ k, Foot g K' V' k → k = g ∨ w.heap.size ≤ k := by
  have hs5 := O5.size
  have hsU : (W5.setCell ⟨g, 0, none⟩ K').heap.size = W5.heap.size := by simp [World.setCell]
  have hs6 := O6.size
  have hgU : g < (W5.setCell ⟨g, 0, none⟩ K').heap.size := by omega
  have a0 : W5.cell? ⟨g, 0, none⟩ = some K := (O5.cell (p := ⟨g, 0, none⟩) hgl).trans k0
  have a1 : W5.cell? ⟨g, 1, none⟩ = some V := (O5.cell (p := ⟨g, 1, none⟩) hgl).trans v0
  have b0 : (W5.setCell ⟨g, 0, none⟩ K').cell? ⟨g, 0, none⟩ = some K' := by simp [go_sem, a0]
  have b1 : (W5.setCell ⟨g, 0, none⟩ K').cell? ⟨g, 1, none⟩ = some V := by simp [go_sem, a1]
  have c0 : W6.cell? ⟨g, 0, none⟩ = some K' := (O6.cell (p := ⟨g, 0, none⟩) hgU).trans b0
  have c1 : W6.cell? ⟨g, 1, none⟩ = some V := (O6.cell (p := ⟨g, 1, none⟩) hgU).trans b1
  have f0 : W6.frozen? ⟨g, 0, none⟩ = false := by rw [O6.frozen (p := ⟨g, 0, none⟩) hgU, World.frozen?_setCell, O5.frozen (p := ⟨g, 0, none⟩) hgl, fk]
  have f1 : W6.frozen? ⟨g, 1, none⟩ = false := by rw [O6.frozen (p := ⟨g, 1, none⟩) hgU, World.frozen?_setCell, O5.frozen (p := ⟨g, 1, none⟩) hgl, fv]
  have kg : K'.ownBlock ≠ some g := fun e => by have := (r5.lt _ e).1; omega
  have vg : V'.ownBlock ≠ some g := fun e => by have := (r6.lt _ e).1; omega
  have rk : W6.ownsRow w.heap.size 3 1 K' n1 (ks'.map (Value.int .i64)) := own_old (own_set (p := ⟨g, 0, none⟩) r5 kg K') O6
  have hw : base ≤ w.heap.size := by omega
  subst hl
  refine ⟨⟨by simp [go_sem, c0], by simp [go_sem, c1], by rw [World.frozen?_setCell]; exact f0, by rw [World.frozen?_setCell]; exact f1, own_mono (own_set (p := ⟨g, 1, none⟩) rk kg V') hw, own_mono (own_set (p := ⟨g, 1, none⟩) r6 vg V') (by omega), hone, fun k hk e => ?_, kg, vg, low, ?_, rise⟩, ?_, fun k hk => ?_⟩
  · have h1 := (r5.lt _ hk).2
    have h2 := (r6.lt _ e).1
    omega
  · simp [World.setCell]; omega
  · have h1 : Fr (fun k => k = g) w W6 := (Fr.setCell (S := fun k => k = g) (p := ⟨g, 0, none⟩) (Fr.of_old O5) (.inr rfl) K').trans (Fr.of_old O6)
    exact Fr.setCell (p := ⟨g, 1, none⟩) h1 (.inr rfl) V'
  · rcases hk with rfl | hk | hk
    · exact .inl rfl
    · exact .inr (r5.lt _ hk).1
    · have := (r6.lt _ hk).1
      exact .inr (by omega)

set_option maxRecDepth 100000 in
set_option maxHeartbeats 8000000 in
theorem RPut_new (base g p n ck cv : Nat) (A B : Option Addr) (S : Nat → Prop) (ks us : List Int) (key v : Int) (hp : plc ks key = p) (hN : ks.length = n) (hn : n ≤ 99998) (hm : key ∉ ks) (w : World) (hb : BookAt w base g S ks us) (h : TabAt w base g 0 (.slice A n ck) (.slice B n cv) ks (us.map (Value.int .i64))) :
    Calls Try.prog 17 #[.pointer (some ⟨g, 0, none⟩), .int .i64 key, .int .i64 v] w fun e w' => e = .returned (.tuple #[.int .i64 0, .bool false]) ∧
      ∃ A' c' B' d', TabAt w' base g 0 (.slice A' (n + 1) c') (.slice B' (n + 1) d') (ks.take p ++ ([key] ++ ks.drop p)) ((us.take p ++ ([v] ++ us.drop p)).map (Value.int .i64)) ∧ Fr (fun k => k = g) w w' ∧ ∀ k, Foot g (.slice A' (n + 1) c') (.slice B' (n + 1) d') k → k = g ∨ w.heap.size ≤ k := by
  obtain ⟨i0, hi, hz0, hz1, hz2⟩ := info_parts info_int'
  have cA := hide (Rat base g p S ks us key hp (by omega) w hb)
  have hri := h.rise
  have hpl := plc_place hri key
  have hfo := found_iff hri hpl
  rw [hp, hN, decide_eq_false hm] at hfo
  have hple := hpl.1
  have hrise := put_rise hri hpl (by rw [found_iff hri hpl]; exact decide_eq_false hm)
  rw [hp] at hrise
  rw [hp, hN] at hple
  have hul : us.length = n := by have := h.vo.1; rw [List.length_map] at this; omega
  have k0 := h.k0
  have v0 := h.v0
  have fk := h.fk
  have fv := h.fv
  have hvg := h.vg
  have hgl := h.lt
  have hlow := h.low
  have hko := h.ko
  have hvo := h.vo
  rw [hN] at hko hvo
  have hK : IntsAt w A ks := CellsAt.of_own hko
  have hx : (p < n → ∃ b0 o0 x, A = some ⟨b0, o0, none⟩ ∧ w.cell? ⟨b0, o0 + p, none⟩ = some (.int .i64 x) ∧ (x == key) = false) := fun hlt => by
    obtain ⟨b0, o0, e, hb0, g0⟩ := hK.at_ (k := p) (by omega)
    refine ⟨b0, o0, _, e, g0, ?_⟩
    rw [beq_eq_false_iff_ne]
    intro e2
    simp [hlt, e2] at hfo
  have HRISE := hide hrise
  have HN := hide hN
  have HUL := hide hul
  clear hrise hN hul hfo hpl hri hK hp hb h hm
  go_enter Try.func17, Try.ntmps17
  go_upto_region 2 with (go_at_call 30; refine cA.out.mono ?_; rintro e w1 ⟨rfl, rfl⟩)
  go_cut [30] from 10 (fun b w' => b = .bool false ∧ w' = w)
  case first =>
    by_cases hpn : p < n
    · obtain ⟨b0, o0, x, rfl, g0, hne⟩ := hx hpn
      go_wp2_with fail
      go_meet
      case rel => exact ⟨rfl, rfl⟩
    · go_wp2_with fail
      go_meet
      case rel => exact ⟨rfl, rfl⟩
  case rest =>
    obtain ⟨rfl, rfl⟩ := hcut
    obtain ⟨w1, rfl⟩ : ∃ w1 : World, w1 = wc := ⟨_, rfl⟩
    clear hx cA
    go_wp2_with fail
    go_cut [] from 10 (fun w' => ∃ W5 A3 c3, w' = W5.setCell ⟨g, 0, none⟩ (.slice A3 (n + 1) c3) ∧ Old w1 W5 ∧ W5.ownsRow w1.heap.size 3 1 (.slice A3 (n + 1) c3) (n + 1) ((ks.map (Value.int .i64)).take p ++ ([.int .i64 key] ++ (ks.map (Value.int .i64)).drop p)))
    case first =>
      clear hvo v0 fv HRISE HUL hvg
      obtain ⟨W, rfl⟩ : ∃ W : World, W = w1 := ⟨_, rfl⟩
      have hone : ∀ u ∈ ks.map (Value.int .i64), u.oneCell' = true := by simp [Value.oneCell']
      have hxl : (ks.map (Value.int .i64)).length = n := by rw [List.length_map]; exact HN.out
      generalize ks.map (Value.int .i64) = xs at *
      have hown := hko
      have hS0 := k0
      have hF0 := fk
      clear hko k0 fk HN
      rcases own_cases hown with ⟨rfl, rfl, rfl⟩ | ⟨ga, rfl⟩
      · obtain rfl : p = 0 := by omega
        have hrest : CellsAt W none (xs.drop 0) := CellsAt.of_own hown
        have hrow : CellsAt W none xs := CellsAt.of_own hown
        have SS : ∀ U, Old W U → U.cell? ⟨g, 0, none⟩ = some (.slice none 0 0) := fun U hU => (hU.cell (p := ⟨g, 0, none⟩) hgl).trans hS0
        have SF : ∀ U, Old W U → U.frozen? ⟨g, 0, none⟩ = false := fun U hU => (hU.frozen (p := ⟨g, 0, none⟩) hgl).trans hF0
        refine wp_region_Z (S := fun w' => w'.cell? ⟨g, 0, none⟩ = some (.slice none 0 0)) (Z := [21].contains) (by kernel_rfl) ?_
        refine wpAnyZ_pure 0 (.pointer (some ⟨g, 0, none⟩)) rfl (by kernel_rfl) (by kernel_rfl) (by kernel_rfl) (fun _ _ _ h => h) (Or.inl ⟨by rfl, fun w _ => by go_simp⟩) ?_
        refine wpAnyZ_pure 2 (.pointer (some ⟨g, 0, none⟩)) rfl (by kernel_rfl) (by kernel_rfl) (by kernel_rfl) (fun _ _ _ h => h) (Or.inl ⟨by rfl, fun w _ => by go_simp⟩) ?_
        refine wpAnyZ_pure 3 (.pointer (some ⟨g, 0, none⟩)) rfl (by kernel_rfl) (by kernel_rfl) (by kernel_rfl) (fun _ _ _ h => h) (Or.inl ⟨by rfl, fun w _ => by go_simp⟩) ?_
        refine wpAnyZ_pure 4 (.pointer (some ⟨g, 0, none⟩)) rfl (by kernel_rfl) (by kernel_rfl) (by kernel_rfl) (fun _ _ _ h => h) (Or.inl ⟨by rfl, fun w _ => by go_simp⟩) ?_
        refine wpAnyZ_take 5 (.slice none 0 0) rfl (by kernel_rfl) (by kernel_rfl) (by kernel_rfl) (by kernel_rfl) (fun _ _ _ h => h) (Or.inl ⟨by rfl, fun w' hS => by go_simp⟩) (by exact hS0) ?_
        refine wpAnyZ_pure 6 (.int .i64 0) rfl (by kernel_rfl) (by kernel_rfl) (by kernel_rfl) (fun _ _ _ h => h) (Or.inl ⟨by rfl, fun w _ => by go_simp⟩) ?_
        refine wpAnyZ_pure 7 (.slice none 0 0) rfl (by kernel_rfl) (by kernel_rfl) (by kernel_rfl) (fun _ _ _ h => h) (Or.inl ⟨by rfl, fun w _ => by go_simp⟩) ?_
        refine wpAnyZ_pure 9 (.int .i64 key) rfl (by kernel_rfl) (by kernel_rfl) (by kernel_rfl) (fun _ _ _ h => h) (Or.inl ⟨by rfl, fun w _ => by go_simp⟩) ?_
        refine wpAnyZ_pure 12 (.pointer (some ⟨g, 0, none⟩)) rfl (by kernel_rfl) (by kernel_rfl) (by kernel_rfl) (fun _ _ _ h => h) (Or.inl ⟨by rfl, fun w _ => by go_simp⟩) ?_
        refine wpAnyZ_pure 13 (.pointer (some ⟨g, 0, none⟩)) rfl (by kernel_rfl) (by kernel_rfl) (by kernel_rfl) (fun _ _ _ h => h) (Or.inl ⟨by rfl, fun w _ => by go_simp⟩) ?_
        refine wpAnyZ_pure 14 (.pointer (some ⟨g, 0, none⟩)) rfl (by kernel_rfl) (by kernel_rfl) (by kernel_rfl) (fun _ _ _ h => h) (Or.inl ⟨by rfl, fun w _ => by go_simp⟩) ?_
        refine wpAnyZ_take 15 (.slice none 0 0) rfl (by kernel_rfl) (by kernel_rfl) (by kernel_rfl) (by kernel_rfl) (fun _ _ _ h => h) (Or.inl ⟨by rfl, fun w' hS => by go_simp⟩) (by exact hS0) ?_
        refine wpAnyZ_pure 16 (.int .i64 0) rfl (by kernel_rfl) (by kernel_rfl) (by kernel_rfl) (fun _ _ _ h => h) (Or.inl ⟨by rfl, fun w _ => by go_simp⟩) ?_
        refine wpAnyZ_pure 17 (.slice none (0 - 0) (0 - 0)) rfl (by kernel_rfl) (by kernel_rfl) (by kernel_rfl) (fun _ _ _ h => h) (Or.inl ⟨by rfl, fun w _ => by go_simp⟩) ?_
        refine wpAnyZ_all (rs := [1, 10]) (by kernel_rfl) (by simp) ?_
        intro j hj
        simp only [List.mem_cons, List.not_mem_nil, or_false] at hj
        rcases hj with rfl | rfl
        · refine wpOp_run (w' := W.drew.alloc (.cells #[] 3)) (.slice (some ⟨W.drew.heap.size, 0, none⟩) 0 0) rfl rfl (by go_simp) ⟨.inr fun _ => SS _ (((Old.refl' W).drew').alloc' (.cells #[] 3)), ?_⟩
          refine wpAnyZ_all (rs := [8, 10]) (by kernel_rfl) (by simp) ?_
          intro j hj
          simp only [List.mem_cons, List.not_mem_nil, or_false] at hj
          rcases hj with rfl | rfl
          · have hbz : W.heap.size ≤ (W.drew.alloc (.cells #[] 3)).heap.size := (((Old.refl' W).drew').alloc' (.cells #[] 3)).size
            refine wpOp_mk rfl rfl (wp_app _ (.tmp 47) (.tmp 53) 22 rfl W.heap.size 3 i0 (.int .i64 0) 1 8 Try.underlying22 hi hz0 hz1 hz2 rfl (by decide) (.slice (some ⟨W.heap.size, 0, none⟩) 0 0) 0 [] (by simp [Act.eval, Act.put]) (World.ownsRow_made W.drew #[] 0 (Nat.le_refl _) (by decide) rfl) none 0 0 (xs.take 0) (by simp [Act.eval, Act.put]) (by rw [List.length_take]; omega) ((hrow.take 0).old (((Old.refl' W).drew').alloc' (.cells #[] 3))) (fun u hu => hone u (List.mem_of_mem_take hu)) (by unfold maxLen; omega) (by omega) hbz 0 (Nat.zero_add _) _ (List.nil_append _) ?_)
            intro A1 c1 W2 h2
            have hO2 : Old W W2 := h2.old (((Old.refl' W).drew').alloc' (.cells #[] 3)) (fun j hj => by simp [Value.ownBlock] at hj; omega)
            have hbz : W.heap.size ≤ W2.heap.size := hO2.size
            refine ⟨.inr fun _ => SS _ hO2, ?_⟩
            refine wpAnyZ_all (rs := [10]) (by kernel_rfl) (by simp) ?_
            intro j hj
            simp only [List.mem_cons, List.not_mem_nil, or_false] at hj
            subst hj
            refine wpOp_run (w' := W2.alloc (.cells #[.int .i64 key] 3)) (.slice (some ⟨W2.heap.size, 0, none⟩) 1 1) rfl rfl (by go_simp) ⟨.inr fun _ => SS _ (hO2.alloc' (.cells #[.int .i64 key] 3)), ?_⟩
            have hbz : W.heap.size ≤ (W2.alloc (.cells #[.int .i64 key] 3)).heap.size := (hO2.alloc' (.cells #[.int .i64 key] 3)).size
            refine wpAnyZ_all (rs := [11]) (by kernel_rfl) (by simp) ?_
            intro j hj
            simp only [List.mem_cons, List.not_mem_nil, or_false] at hj
            subst hj
            refine wpOp_mk rfl rfl (wp_app _ (.tmp 54) (.tmp 56) 22 rfl W.heap.size 3 i0 (.int .i64 0) 1 8 Try.underlying22 hi hz0 hz1 hz2 rfl (by decide) (.slice A1 0 c1) 0 (xs.take 0) (by simp [Act.eval, Act.put]) (h2.own.alloc (.cells #[.int .i64 key] 3)) (some ⟨W2.heap.size, 0, none⟩) 1 1 [.int .i64 key] (by simp [Act.eval, Act.put]) rfl (cells_bk (Bk.new W2 3 #[.int .i64 key])) (by simp [Value.oneCell']) (by unfold maxLen; omega) (by omega) hbz (0 + 1) rfl _ rfl ?_)
            intro A2 c2 W4 h4
            have hO4 : Old W W4 := h4.old (hO2.alloc' (.cells #[.int .i64 key] 3)) (fun j hj => ((h2.own.alloc (.cells #[.int .i64 key] 3)).lt j hj).1)
            have hbz : W.heap.size ≤ W4.heap.size := hO4.size
            refine ⟨.inr fun _ => SS _ hO4, ?_⟩
            refine wpAnyZ_all (rs := [18]) (by kernel_rfl) (by simp) ?_
            intro j hj
            simp only [List.mem_cons, List.not_mem_nil, or_false] at hj
            subst hj
            refine wpOp_mk rfl rfl (wp_app _ (.tmp 57) (.tmp 63) 22 rfl W.heap.size 3 i0 (.int .i64 0) 1 8 Try.underlying22 hi hz0 hz1 hz2 rfl (by decide) (.slice A2 (0 + 1) c2) (0 + 1) (xs.take 0 ++ [.int .i64 key]) (by simp [Act.eval, Act.put]) h4.own none (0 - 0) (0 - 0) (xs.drop 0) (by simp [Act.eval, Act.put]) (by rw [List.length_drop]; omega) (hrest.old hO4) (fun u hu => hone u (List.mem_of_mem_drop hu)) (by unfold maxLen; omega) (by omega) hbz (0 + 1) (by omega) _ (List.append_assoc _ _ _) ?_)
            intro A3 c3 W5 h5
            have hO5 : Old W W5 := h5.old hO4 (fun j hj => (h4.own.lt j hj).1)
            have d5 := SS _ hO5
            have e5 := SF _ hO5
            have HOWN := hide h5.own
            refine ⟨.inr fun _ => SS _ hO5, ?_⟩
            refine wpAnyZ_pure 19 (.pointer (some ⟨g, 0, none⟩)) rfl (by kernel_rfl) (by kernel_rfl) (by kernel_rfl) (fun _ _ _ h => h) (Or.inl ⟨by rfl, fun w _ => by go_simp⟩) ?_
            refine wpAnyZ_pure 20 (.pointer (some ⟨g, 0, none⟩)) rfl (by kernel_rfl) (by kernel_rfl) (by kernel_rfl) (fun _ _ _ h => h) (Or.inl ⟨by rfl, fun w _ => by go_simp⟩) ?_
            refine wpAnyZ_all (rs := [21]) (by kernel_rfl) (by simp) ?_
            intro j hj
            simp only [List.mem_cons, List.not_mem_nil, or_false] at hj
            subst hj
            refine wpOp_mk rfl rfl ?_
            go_simp
            refine wpAnyZ_done (by kernel_rfl) ?_ _
            go_wp2_with fail
            go_meet
            case rel => exact ⟨W5, A3, c3, rfl, hO5, HOWN.out⟩
          · refine wpOp_run (w' := (W.drew.alloc (.cells #[] 3)).alloc (.cells #[.int .i64 key] 3)) (.slice (some ⟨(W.drew.alloc (.cells #[] 3)).heap.size, 0, none⟩) 1 1) rfl rfl (by go_simp) ⟨.inr fun _ => SS _ ((((Old.refl' W).drew').alloc' (.cells #[] 3)).alloc' (.cells #[.int .i64 key] 3)), ?_⟩
            refine wpAnyZ_all (rs := [8]) (by kernel_rfl) (by simp) ?_
            intro j hj
            simp only [List.mem_cons, List.not_mem_nil, or_false] at hj
            subst hj
            have hbz : W.heap.size ≤ ((W.drew.alloc (.cells #[] 3)).alloc (.cells #[.int .i64 key] 3)).heap.size := ((((Old.refl' W).drew').alloc' (.cells #[] 3)).alloc' (.cells #[.int .i64 key] 3)).size
            refine wpOp_mk rfl rfl (wp_app _ (.tmp 47) (.tmp 53) 22 rfl W.heap.size 3 i0 (.int .i64 0) 1 8 Try.underlying22 hi hz0 hz1 hz2 rfl (by decide) (.slice (some ⟨W.heap.size, 0, none⟩) 0 0) 0 [] (by simp [Act.eval, Act.put]) ((World.ownsRow_made W.drew #[] 0 (Nat.le_refl _) (by decide) rfl).alloc (.cells #[.int .i64 key] 3)) none 0 0 (xs.take 0) (by simp [Act.eval, Act.put]) (by rw [List.length_take]; omega) ((hrow.take 0).old ((((Old.refl' W).drew').alloc' (.cells #[] 3)).alloc' (.cells #[.int .i64 key] 3))) (fun u hu => hone u (List.mem_of_mem_take hu)) (by unfold maxLen; omega) (by omega) hbz 0 (Nat.zero_add _) _ (List.nil_append _) ?_)
            intro A1 c1 W2 h2
            have hO2 : Old W W2 := h2.old ((((Old.refl' W).drew').alloc' (.cells #[] 3)).alloc' (.cells #[.int .i64 key] 3)) (fun j hj => by simp [Value.ownBlock] at hj; omega)
            have hbz : W.heap.size ≤ W2.heap.size := hO2.size
            refine ⟨.inr fun _ => SS _ hO2, ?_⟩
            refine wpAnyZ_all (rs := [11]) (by kernel_rfl) (by simp) ?_
            intro j hj
            simp only [List.mem_cons, List.not_mem_nil, or_false] at hj
            subst hj
            refine wpOp_mk rfl rfl (wp_app _ (.tmp 54) (.tmp 56) 22 rfl W.heap.size 3 i0 (.int .i64 0) 1 8 Try.underlying22 hi hz0 hz1 hz2 rfl (by decide) (.slice A1 0 c1) 0 (xs.take 0) (by simp [Act.eval, Act.put]) h2.own (some ⟨(W.heap.size + 1), 0, none⟩) 1 1 [.int .i64 key] (by simp [Act.eval, Act.put]) rfl (h2.cells (A := some ⟨W.heap.size + 1, 0, none⟩) (cells_bk (bk_new1 W.drew (.cells #[] 3) 3 #[.int .i64 key])) (fun a ha => by cases ha; simp [Value.ownBlock])) (by simp [Value.oneCell']) (by unfold maxLen; omega) (by omega) hbz (0 + 1) rfl _ rfl ?_)
            intro A2 c2 W4 h4
            have hO4 : Old W W4 := h4.old hO2 (fun j hj => (h2.own.lt j hj).1)
            have hbz : W.heap.size ≤ W4.heap.size := hO4.size
            refine ⟨.inr fun _ => SS _ hO4, ?_⟩
            refine wpAnyZ_all (rs := [18]) (by kernel_rfl) (by simp) ?_
            intro j hj
            simp only [List.mem_cons, List.not_mem_nil, or_false] at hj
            subst hj
            refine wpOp_mk rfl rfl (wp_app _ (.tmp 57) (.tmp 63) 22 rfl W.heap.size 3 i0 (.int .i64 0) 1 8 Try.underlying22 hi hz0 hz1 hz2 rfl (by decide) (.slice A2 (0 + 1) c2) (0 + 1) (xs.take 0 ++ [.int .i64 key]) (by simp [Act.eval, Act.put]) h4.own none (0 - 0) (0 - 0) (xs.drop 0) (by simp [Act.eval, Act.put]) (by rw [List.length_drop]; omega) (hrest.old hO4) (fun u hu => hone u (List.mem_of_mem_drop hu)) (by unfold maxLen; omega) (by omega) hbz (0 + 1) (by omega) _ (List.append_assoc _ _ _) ?_)
            intro A3 c3 W5 h5
            have hO5 : Old W W5 := h5.old hO4 (fun j hj => (h4.own.lt j hj).1)
            have d5 := SS _ hO5
            have e5 := SF _ hO5
            have HOWN := hide h5.own
            refine ⟨.inr fun _ => SS _ hO5, ?_⟩
            refine wpAnyZ_pure 19 (.pointer (some ⟨g, 0, none⟩)) rfl (by kernel_rfl) (by kernel_rfl) (by kernel_rfl) (fun _ _ _ h => h) (Or.inl ⟨by rfl, fun w _ => by go_simp⟩) ?_
            refine wpAnyZ_pure 20 (.pointer (some ⟨g, 0, none⟩)) rfl (by kernel_rfl) (by kernel_rfl) (by kernel_rfl) (fun _ _ _ h => h) (Or.inl ⟨by rfl, fun w _ => by go_simp⟩) ?_
            refine wpAnyZ_all (rs := [21]) (by kernel_rfl) (by simp) ?_
            intro j hj
            simp only [List.mem_cons, List.not_mem_nil, or_false] at hj
            subst hj
            refine wpOp_mk rfl rfl ?_
            go_simp
            refine wpAnyZ_done (by kernel_rfl) ?_ _
            go_wp2_with fail
            go_meet
            case rel => exact ⟨W5, A3, c3, rfl, hO5, HOWN.out⟩
        · refine wpOp_run (w' := W.drew.alloc (.cells #[.int .i64 key] 3)) (.slice (some ⟨W.drew.heap.size, 0, none⟩) 1 1) rfl rfl (by go_simp) ⟨.inr fun _ => SS _ (((Old.refl' W).drew').alloc' (.cells #[.int .i64 key] 3)), ?_⟩
          refine wpAnyZ_all (rs := [1]) (by kernel_rfl) (by simp) ?_
          intro j hj
          simp only [List.mem_cons, List.not_mem_nil, or_false] at hj
          subst hj
          refine wpOp_run (w' := (W.drew.alloc (.cells #[.int .i64 key] 3)).alloc (.cells #[] 3)) (.slice (some ⟨(W.drew.alloc (.cells #[.int .i64 key] 3)).heap.size, 0, none⟩) 0 0) rfl rfl (by go_simp) ⟨.inr fun _ => SS _ ((((Old.refl' W).drew').alloc' (.cells #[.int .i64 key] 3)).alloc' (.cells #[] 3)), ?_⟩
          refine wpAnyZ_all (rs := [8]) (by kernel_rfl) (by simp) ?_
          intro j hj
          simp only [List.mem_cons, List.not_mem_nil, or_false] at hj
          subst hj
          have hbz : W.heap.size ≤ ((W.drew.alloc (.cells #[.int .i64 key] 3)).alloc (.cells #[] 3)).heap.size := ((((Old.refl' W).drew').alloc' (.cells #[.int .i64 key] 3)).alloc' (.cells #[] 3)).size
          refine wpOp_mk rfl rfl (wp_app _ (.tmp 47) (.tmp 53) 22 rfl W.heap.size 3 i0 (.int .i64 0) 1 8 Try.underlying22 hi hz0 hz1 hz2 rfl (by decide) (.slice (some ⟨W.heap.size + 1, 0, none⟩) 0 0) 0 [] (by simp [Act.eval, Act.put]) (by have := World.ownsRow_made (W.drew.alloc (.cells #[.int .i64 key] 3)) (e := 3) (size := 1) (base := W.heap.size) #[] 0 (by simp) (by decide) rfl; rwa [World.size_alloc] at this) none 0 0 (xs.take 0) (by simp [Act.eval, Act.put]) (by rw [List.length_take]; omega) ((hrow.take 0).old ((((Old.refl' W).drew').alloc' (.cells #[.int .i64 key] 3)).alloc' (.cells #[] 3))) (fun u hu => hone u (List.mem_of_mem_take hu)) (by unfold maxLen; omega) (by omega) hbz 0 (Nat.zero_add _) _ (List.nil_append _) ?_)
          intro A1 c1 W2 h2
          have hO2 : Old W W2 := h2.old ((((Old.refl' W).drew').alloc' (.cells #[.int .i64 key] 3)).alloc' (.cells #[] 3)) (fun j hj => by simp [Value.ownBlock] at hj; omega)
          have hbz : W.heap.size ≤ W2.heap.size := hO2.size
          refine ⟨.inr fun _ => SS _ hO2, ?_⟩
          refine wpAnyZ_all (rs := [11]) (by kernel_rfl) (by simp) ?_
          intro j hj
          simp only [List.mem_cons, List.not_mem_nil, or_false] at hj
          subst hj
          refine wpOp_mk rfl rfl (wp_app _ (.tmp 54) (.tmp 56) 22 rfl W.heap.size 3 i0 (.int .i64 0) 1 8 Try.underlying22 hi hz0 hz1 hz2 rfl (by decide) (.slice A1 0 c1) 0 (xs.take 0) (by simp [Act.eval, Act.put]) h2.own (some ⟨W.heap.size, 0, none⟩) 1 1 [.int .i64 key] (by simp [Act.eval, Act.put]) rfl (h2.cells (A := some ⟨W.heap.size, 0, none⟩) ((cells_bk (Bk.new W.drew 3 #[.int .i64 key])).alloc (.cells #[] 3)) (fun a ha => by cases ha; simp [Value.ownBlock])) (by simp [Value.oneCell']) (by unfold maxLen; omega) (by omega) hbz (0 + 1) rfl _ rfl ?_)
          intro A2 c2 W4 h4
          have hO4 : Old W W4 := h4.old hO2 (fun j hj => (h2.own.lt j hj).1)
          have hbz : W.heap.size ≤ W4.heap.size := hO4.size
          refine ⟨.inr fun _ => SS _ hO4, ?_⟩
          refine wpAnyZ_all (rs := [18]) (by kernel_rfl) (by simp) ?_
          intro j hj
          simp only [List.mem_cons, List.not_mem_nil, or_false] at hj
          subst hj
          refine wpOp_mk rfl rfl (wp_app _ (.tmp 57) (.tmp 63) 22 rfl W.heap.size 3 i0 (.int .i64 0) 1 8 Try.underlying22 hi hz0 hz1 hz2 rfl (by decide) (.slice A2 (0 + 1) c2) (0 + 1) (xs.take 0 ++ [.int .i64 key]) (by simp [Act.eval, Act.put]) h4.own none (0 - 0) (0 - 0) (xs.drop 0) (by simp [Act.eval, Act.put]) (by rw [List.length_drop]; omega) (hrest.old hO4) (fun u hu => hone u (List.mem_of_mem_drop hu)) (by unfold maxLen; omega) (by omega) hbz (0 + 1) (by omega) _ (List.append_assoc _ _ _) ?_)
          intro A3 c3 W5 h5
          have hO5 : Old W W5 := h5.old hO4 (fun j hj => (h4.own.lt j hj).1)
          have d5 := SS _ hO5
          have e5 := SF _ hO5
          have HOWN := hide h5.own
          refine ⟨.inr fun _ => SS _ hO5, ?_⟩
          refine wpAnyZ_pure 19 (.pointer (some ⟨g, 0, none⟩)) rfl (by kernel_rfl) (by kernel_rfl) (by kernel_rfl) (fun _ _ _ h => h) (Or.inl ⟨by rfl, fun w _ => by go_simp⟩) ?_
          refine wpAnyZ_pure 20 (.pointer (some ⟨g, 0, none⟩)) rfl (by kernel_rfl) (by kernel_rfl) (by kernel_rfl) (fun _ _ _ h => h) (Or.inl ⟨by rfl, fun w _ => by go_simp⟩) ?_
          refine wpAnyZ_all (rs := [21]) (by kernel_rfl) (by simp) ?_
          intro j hj
          simp only [List.mem_cons, List.not_mem_nil, or_false] at hj
          subst hj
          refine wpOp_mk rfl rfl ?_
          go_simp
          refine wpAnyZ_done (by kernel_rfl) ?_ _
          go_wp2_with fail
          go_meet
          case rel => exact ⟨W5, A3, c3, rfl, hO5, HOWN.out⟩
      · obtain ⟨o, hAD, hrest⟩ := cut_rest hown (p := p) hple
        have hrow : CellsAt W (some ⟨ga, 0, none⟩) xs := CellsAt.of_own hown
        have hck := (own_size hown).1
        have hcm := (own_size hown).2
        unfold maxLen at hcm
        have hck' : ¬ ck < p := by omega
        have i1 : (0 : Int) ≤ (p : Int) := by omega
        have i2 : (p : Int) ≤ (n : Int) := by omega
        have i3 : (p : Int) ≤ (ck : Int) := by omega
        have SS : ∀ U, Old W U → U.cell? ⟨g, 0, none⟩ = some (.slice (some ⟨ga, 0, none⟩) n ck) := fun U hU => (hU.cell (p := ⟨g, 0, none⟩) hgl).trans hS0
        have SF : ∀ U, Old W U → U.frozen? ⟨g, 0, none⟩ = false := fun U hU => (hU.frozen (p := ⟨g, 0, none⟩) hgl).trans hF0
        refine wp_region_Z (S := fun w' => w'.cell? ⟨g, 0, none⟩ = some (.slice (some ⟨ga, 0, none⟩) n ck)) (Z := [21].contains) (by kernel_rfl) ?_
        refine wpAnyZ_pure 0 (.pointer (some ⟨g, 0, none⟩)) rfl (by kernel_rfl) (by kernel_rfl) (by kernel_rfl) (fun _ _ _ h => h) (Or.inl ⟨by rfl, fun w _ => by go_simp⟩) ?_
        refine wpAnyZ_pure 2 (.pointer (some ⟨g, 0, none⟩)) rfl (by kernel_rfl) (by kernel_rfl) (by kernel_rfl) (fun _ _ _ h => h) (Or.inl ⟨by rfl, fun w _ => by go_simp⟩) ?_
        refine wpAnyZ_pure 3 (.pointer (some ⟨g, 0, none⟩)) rfl (by kernel_rfl) (by kernel_rfl) (by kernel_rfl) (fun _ _ _ h => h) (Or.inl ⟨by rfl, fun w _ => by go_simp⟩) ?_
        refine wpAnyZ_pure 4 (.pointer (some ⟨g, 0, none⟩)) rfl (by kernel_rfl) (by kernel_rfl) (by kernel_rfl) (fun _ _ _ h => h) (Or.inl ⟨by rfl, fun w _ => by go_simp⟩) ?_
        refine wpAnyZ_take 5 (.slice (some ⟨ga, 0, none⟩) n ck) rfl (by kernel_rfl) (by kernel_rfl) (by kernel_rfl) (by kernel_rfl) (fun _ _ _ h => h) (Or.inl ⟨by rfl, fun w' hS => by go_simp⟩) (by exact hS0) ?_
        refine wpAnyZ_pure 6 (.int .i64 p) rfl (by kernel_rfl) (by kernel_rfl) (by kernel_rfl) (fun _ _ _ h => h) (Or.inl ⟨by rfl, fun w _ => by go_simp⟩) ?_
        refine wpAnyZ_pure 7 (.slice (some ⟨ga, 0, none⟩) p ck) rfl (by kernel_rfl) (by kernel_rfl) (by kernel_rfl) (fun _ _ _ h => h) (Or.inl ⟨by rfl, fun w _ => by go_simp⟩) ?_
        refine wpAnyZ_pure 9 (.int .i64 key) rfl (by kernel_rfl) (by kernel_rfl) (by kernel_rfl) (fun _ _ _ h => h) (Or.inl ⟨by rfl, fun w _ => by go_simp⟩) ?_
        refine wpAnyZ_pure 12 (.pointer (some ⟨g, 0, none⟩)) rfl (by kernel_rfl) (by kernel_rfl) (by kernel_rfl) (fun _ _ _ h => h) (Or.inl ⟨by rfl, fun w _ => by go_simp⟩) ?_
        refine wpAnyZ_pure 13 (.pointer (some ⟨g, 0, none⟩)) rfl (by kernel_rfl) (by kernel_rfl) (by kernel_rfl) (fun _ _ _ h => h) (Or.inl ⟨by rfl, fun w _ => by go_simp⟩) ?_
        refine wpAnyZ_pure 14 (.pointer (some ⟨g, 0, none⟩)) rfl (by kernel_rfl) (by kernel_rfl) (by kernel_rfl) (fun _ _ _ h => h) (Or.inl ⟨by rfl, fun w _ => by go_simp⟩) ?_
        refine wpAnyZ_take 15 (.slice (some ⟨ga, 0, none⟩) n ck) rfl (by kernel_rfl) (by kernel_rfl) (by kernel_rfl) (by kernel_rfl) (fun _ _ _ h => h) (Or.inl ⟨by rfl, fun w' hS => by go_simp⟩) (by exact hS0) ?_
        refine wpAnyZ_pure 16 (.int .i64 p) rfl (by kernel_rfl) (by kernel_rfl) (by kernel_rfl) (fun _ _ _ h => h) (Or.inl ⟨by rfl, fun w _ => by go_simp⟩) ?_
        refine wpAnyZ_pure 17 (.slice (some ⟨ga, o, none⟩) (n - p) (ck - p)) rfl (by kernel_rfl) (by kernel_rfl) (by kernel_rfl) (fun _ _ _ h => h) (Or.inl ⟨by rfl, fun w _ => by go_simp⟩) ?_
        refine wpAnyZ_all (rs := [1, 10]) (by kernel_rfl) (by simp) ?_
        intro j hj
        simp only [List.mem_cons, List.not_mem_nil, or_false] at hj
        rcases hj with rfl | rfl
        · refine wpOp_run (w' := W.drew.alloc (.cells #[] 3)) (.slice (some ⟨W.drew.heap.size, 0, none⟩) 0 0) rfl rfl (by go_simp) ⟨.inr fun _ => SS _ (((Old.refl' W).drew').alloc' (.cells #[] 3)), ?_⟩
          refine wpAnyZ_all (rs := [8, 10]) (by kernel_rfl) (by simp) ?_
          intro j hj
          simp only [List.mem_cons, List.not_mem_nil, or_false] at hj
          rcases hj with rfl | rfl
          · have hbz : W.heap.size ≤ (W.drew.alloc (.cells #[] 3)).heap.size := (((Old.refl' W).drew').alloc' (.cells #[] 3)).size
            refine wpOp_mk rfl rfl (wp_app _ (.tmp 47) (.tmp 53) 22 rfl W.heap.size 3 i0 (.int .i64 0) 1 8 Try.underlying22 hi hz0 hz1 hz2 rfl (by decide) (.slice (some ⟨W.heap.size, 0, none⟩) 0 0) 0 [] (by simp [Act.eval, Act.put]) (World.ownsRow_made W.drew #[] 0 (Nat.le_refl _) (by decide) rfl) (some ⟨ga, 0, none⟩) p ck (xs.take p) (by simp [Act.eval, Act.put]) (by rw [List.length_take]; omega) ((hrow.take p).old (((Old.refl' W).drew').alloc' (.cells #[] 3))) (fun u hu => hone u (List.mem_of_mem_take hu)) (by unfold maxLen; omega) (by omega) hbz p (Nat.zero_add _) _ (List.nil_append _) ?_)
            intro A1 c1 W2 h2
            have hO2 : Old W W2 := h2.old (((Old.refl' W).drew').alloc' (.cells #[] 3)) (fun j hj => by simp [Value.ownBlock] at hj; omega)
            have hbz : W.heap.size ≤ W2.heap.size := hO2.size
            refine ⟨.inr fun _ => SS _ hO2, ?_⟩
            refine wpAnyZ_all (rs := [10]) (by kernel_rfl) (by simp) ?_
            intro j hj
            simp only [List.mem_cons, List.not_mem_nil, or_false] at hj
            subst hj
            refine wpOp_run (w' := W2.alloc (.cells #[.int .i64 key] 3)) (.slice (some ⟨W2.heap.size, 0, none⟩) 1 1) rfl rfl (by go_simp) ⟨.inr fun _ => SS _ (hO2.alloc' (.cells #[.int .i64 key] 3)), ?_⟩
            have hbz : W.heap.size ≤ (W2.alloc (.cells #[.int .i64 key] 3)).heap.size := (hO2.alloc' (.cells #[.int .i64 key] 3)).size
            refine wpAnyZ_all (rs := [11]) (by kernel_rfl) (by simp) ?_
            intro j hj
            simp only [List.mem_cons, List.not_mem_nil, or_false] at hj
            subst hj
            refine wpOp_mk rfl rfl (wp_app _ (.tmp 54) (.tmp 56) 22 rfl W.heap.size 3 i0 (.int .i64 0) 1 8 Try.underlying22 hi hz0 hz1 hz2 rfl (by decide) (.slice A1 p c1) p (xs.take p) (by simp [Act.eval, Act.put]) (h2.own.alloc (.cells #[.int .i64 key] 3)) (some ⟨W2.heap.size, 0, none⟩) 1 1 [.int .i64 key] (by simp [Act.eval, Act.put]) rfl (cells_bk (Bk.new W2 3 #[.int .i64 key])) (by simp [Value.oneCell']) (by unfold maxLen; omega) (by omega) hbz (p + 1) rfl _ rfl ?_)
            intro A2 c2 W4 h4
            have hO4 : Old W W4 := h4.old (hO2.alloc' (.cells #[.int .i64 key] 3)) (fun j hj => ((h2.own.alloc (.cells #[.int .i64 key] 3)).lt j hj).1)
            have hbz : W.heap.size ≤ W4.heap.size := hO4.size
            refine ⟨.inr fun _ => SS _ hO4, ?_⟩
            refine wpAnyZ_all (rs := [18]) (by kernel_rfl) (by simp) ?_
            intro j hj
            simp only [List.mem_cons, List.not_mem_nil, or_false] at hj
            subst hj
            refine wpOp_mk rfl rfl (wp_app _ (.tmp 57) (.tmp 63) 22 rfl W.heap.size 3 i0 (.int .i64 0) 1 8 Try.underlying22 hi hz0 hz1 hz2 rfl (by decide) (.slice A2 (p + 1) c2) (p + 1) (xs.take p ++ [.int .i64 key]) (by simp [Act.eval, Act.put]) h4.own (some ⟨ga, o, none⟩) (n - p) (ck - p) (xs.drop p) (by simp [Act.eval, Act.put]) (by rw [List.length_drop]; omega) (hrest.old hO4) (fun u hu => hone u (List.mem_of_mem_drop hu)) (by unfold maxLen; omega) (by omega) hbz (n + 1) (by omega) _ (List.append_assoc _ _ _) ?_)
            intro A3 c3 W5 h5
            have hO5 : Old W W5 := h5.old hO4 (fun j hj => (h4.own.lt j hj).1)
            have d5 := SS _ hO5
            have e5 := SF _ hO5
            have HOWN := hide h5.own
            refine ⟨.inr fun _ => SS _ hO5, ?_⟩
            refine wpAnyZ_pure 19 (.pointer (some ⟨g, 0, none⟩)) rfl (by kernel_rfl) (by kernel_rfl) (by kernel_rfl) (fun _ _ _ h => h) (Or.inl ⟨by rfl, fun w _ => by go_simp⟩) ?_
            refine wpAnyZ_pure 20 (.pointer (some ⟨g, 0, none⟩)) rfl (by kernel_rfl) (by kernel_rfl) (by kernel_rfl) (fun _ _ _ h => h) (Or.inl ⟨by rfl, fun w _ => by go_simp⟩) ?_
            refine wpAnyZ_all (rs := [21]) (by kernel_rfl) (by simp) ?_
            intro j hj
            simp only [List.mem_cons, List.not_mem_nil, or_false] at hj
            subst hj
            refine wpOp_mk rfl rfl ?_
            go_simp
            refine wpAnyZ_done (by kernel_rfl) ?_ _
            go_wp2_with fail
            go_meet
            case rel => exact ⟨W5, A3, c3, rfl, hO5, HOWN.out⟩
          · refine wpOp_run (w' := (W.drew.alloc (.cells #[] 3)).alloc (.cells #[.int .i64 key] 3)) (.slice (some ⟨(W.drew.alloc (.cells #[] 3)).heap.size, 0, none⟩) 1 1) rfl rfl (by go_simp) ⟨.inr fun _ => SS _ ((((Old.refl' W).drew').alloc' (.cells #[] 3)).alloc' (.cells #[.int .i64 key] 3)), ?_⟩
            refine wpAnyZ_all (rs := [8]) (by kernel_rfl) (by simp) ?_
            intro j hj
            simp only [List.mem_cons, List.not_mem_nil, or_false] at hj
            subst hj
            have hbz : W.heap.size ≤ ((W.drew.alloc (.cells #[] 3)).alloc (.cells #[.int .i64 key] 3)).heap.size := ((((Old.refl' W).drew').alloc' (.cells #[] 3)).alloc' (.cells #[.int .i64 key] 3)).size
            refine wpOp_mk rfl rfl (wp_app _ (.tmp 47) (.tmp 53) 22 rfl W.heap.size 3 i0 (.int .i64 0) 1 8 Try.underlying22 hi hz0 hz1 hz2 rfl (by decide) (.slice (some ⟨W.heap.size, 0, none⟩) 0 0) 0 [] (by simp [Act.eval, Act.put]) ((World.ownsRow_made W.drew #[] 0 (Nat.le_refl _) (by decide) rfl).alloc (.cells #[.int .i64 key] 3)) (some ⟨ga, 0, none⟩) p ck (xs.take p) (by simp [Act.eval, Act.put]) (by rw [List.length_take]; omega) ((hrow.take p).old ((((Old.refl' W).drew').alloc' (.cells #[] 3)).alloc' (.cells #[.int .i64 key] 3))) (fun u hu => hone u (List.mem_of_mem_take hu)) (by unfold maxLen; omega) (by omega) hbz p (Nat.zero_add _) _ (List.nil_append _) ?_)
            intro A1 c1 W2 h2
            have hO2 : Old W W2 := h2.old ((((Old.refl' W).drew').alloc' (.cells #[] 3)).alloc' (.cells #[.int .i64 key] 3)) (fun j hj => by simp [Value.ownBlock] at hj; omega)
            have hbz : W.heap.size ≤ W2.heap.size := hO2.size
            refine ⟨.inr fun _ => SS _ hO2, ?_⟩
            refine wpAnyZ_all (rs := [11]) (by kernel_rfl) (by simp) ?_
            intro j hj
            simp only [List.mem_cons, List.not_mem_nil, or_false] at hj
            subst hj
            refine wpOp_mk rfl rfl (wp_app _ (.tmp 54) (.tmp 56) 22 rfl W.heap.size 3 i0 (.int .i64 0) 1 8 Try.underlying22 hi hz0 hz1 hz2 rfl (by decide) (.slice A1 p c1) p (xs.take p) (by simp [Act.eval, Act.put]) h2.own (some ⟨(W.heap.size + 1), 0, none⟩) 1 1 [.int .i64 key] (by simp [Act.eval, Act.put]) rfl (h2.cells (A := some ⟨W.heap.size + 1, 0, none⟩) (cells_bk (bk_new1 W.drew (.cells #[] 3) 3 #[.int .i64 key])) (fun a ha => by cases ha; simp [Value.ownBlock])) (by simp [Value.oneCell']) (by unfold maxLen; omega) (by omega) hbz (p + 1) rfl _ rfl ?_)
            intro A2 c2 W4 h4
            have hO4 : Old W W4 := h4.old hO2 (fun j hj => (h2.own.lt j hj).1)
            have hbz : W.heap.size ≤ W4.heap.size := hO4.size
            refine ⟨.inr fun _ => SS _ hO4, ?_⟩
            refine wpAnyZ_all (rs := [18]) (by kernel_rfl) (by simp) ?_
            intro j hj
            simp only [List.mem_cons, List.not_mem_nil, or_false] at hj
            subst hj
            refine wpOp_mk rfl rfl (wp_app _ (.tmp 57) (.tmp 63) 22 rfl W.heap.size 3 i0 (.int .i64 0) 1 8 Try.underlying22 hi hz0 hz1 hz2 rfl (by decide) (.slice A2 (p + 1) c2) (p + 1) (xs.take p ++ [.int .i64 key]) (by simp [Act.eval, Act.put]) h4.own (some ⟨ga, o, none⟩) (n - p) (ck - p) (xs.drop p) (by simp [Act.eval, Act.put]) (by rw [List.length_drop]; omega) (hrest.old hO4) (fun u hu => hone u (List.mem_of_mem_drop hu)) (by unfold maxLen; omega) (by omega) hbz (n + 1) (by omega) _ (List.append_assoc _ _ _) ?_)
            intro A3 c3 W5 h5
            have hO5 : Old W W5 := h5.old hO4 (fun j hj => (h4.own.lt j hj).1)
            have d5 := SS _ hO5
            have e5 := SF _ hO5
            have HOWN := hide h5.own
            refine ⟨.inr fun _ => SS _ hO5, ?_⟩
            refine wpAnyZ_pure 19 (.pointer (some ⟨g, 0, none⟩)) rfl (by kernel_rfl) (by kernel_rfl) (by kernel_rfl) (fun _ _ _ h => h) (Or.inl ⟨by rfl, fun w _ => by go_simp⟩) ?_
            refine wpAnyZ_pure 20 (.pointer (some ⟨g, 0, none⟩)) rfl (by kernel_rfl) (by kernel_rfl) (by kernel_rfl) (fun _ _ _ h => h) (Or.inl ⟨by rfl, fun w _ => by go_simp⟩) ?_
            refine wpAnyZ_all (rs := [21]) (by kernel_rfl) (by simp) ?_
            intro j hj
            simp only [List.mem_cons, List.not_mem_nil, or_false] at hj
            subst hj
            refine wpOp_mk rfl rfl ?_
            go_simp
            refine wpAnyZ_done (by kernel_rfl) ?_ _
            go_wp2_with fail
            go_meet
            case rel => exact ⟨W5, A3, c3, rfl, hO5, HOWN.out⟩
        · refine wpOp_run (w' := W.drew.alloc (.cells #[.int .i64 key] 3)) (.slice (some ⟨W.drew.heap.size, 0, none⟩) 1 1) rfl rfl (by go_simp) ⟨.inr fun _ => SS _ (((Old.refl' W).drew').alloc' (.cells #[.int .i64 key] 3)), ?_⟩
          refine wpAnyZ_all (rs := [1]) (by kernel_rfl) (by simp) ?_
          intro j hj
          simp only [List.mem_cons, List.not_mem_nil, or_false] at hj
          subst hj
          refine wpOp_run (w' := (W.drew.alloc (.cells #[.int .i64 key] 3)).alloc (.cells #[] 3)) (.slice (some ⟨(W.drew.alloc (.cells #[.int .i64 key] 3)).heap.size, 0, none⟩) 0 0) rfl rfl (by go_simp) ⟨.inr fun _ => SS _ ((((Old.refl' W).drew').alloc' (.cells #[.int .i64 key] 3)).alloc' (.cells #[] 3)), ?_⟩
          refine wpAnyZ_all (rs := [8]) (by kernel_rfl) (by simp) ?_
          intro j hj
          simp only [List.mem_cons, List.not_mem_nil, or_false] at hj
          subst hj
          have hbz : W.heap.size ≤ ((W.drew.alloc (.cells #[.int .i64 key] 3)).alloc (.cells #[] 3)).heap.size := ((((Old.refl' W).drew').alloc' (.cells #[.int .i64 key] 3)).alloc' (.cells #[] 3)).size
          refine wpOp_mk rfl rfl (wp_app _ (.tmp 47) (.tmp 53) 22 rfl W.heap.size 3 i0 (.int .i64 0) 1 8 Try.underlying22 hi hz0 hz1 hz2 rfl (by decide) (.slice (some ⟨W.heap.size + 1, 0, none⟩) 0 0) 0 [] (by simp [Act.eval, Act.put]) (by have := World.ownsRow_made (W.drew.alloc (.cells #[.int .i64 key] 3)) (e := 3) (size := 1) (base := W.heap.size) #[] 0 (by simp) (by decide) rfl; rwa [World.size_alloc] at this) (some ⟨ga, 0, none⟩) p ck (xs.take p) (by simp [Act.eval, Act.put]) (by rw [List.length_take]; omega) ((hrow.take p).old ((((Old.refl' W).drew').alloc' (.cells #[.int .i64 key] 3)).alloc' (.cells #[] 3))) (fun u hu => hone u (List.mem_of_mem_take hu)) (by unfold maxLen; omega) (by omega) hbz p (Nat.zero_add _) _ (List.nil_append _) ?_)
          intro A1 c1 W2 h2
          have hO2 : Old W W2 := h2.old ((((Old.refl' W).drew').alloc' (.cells #[.int .i64 key] 3)).alloc' (.cells #[] 3)) (fun j hj => by simp [Value.ownBlock] at hj; omega)
          have hbz : W.heap.size ≤ W2.heap.size := hO2.size
          refine ⟨.inr fun _ => SS _ hO2, ?_⟩
          refine wpAnyZ_all (rs := [11]) (by kernel_rfl) (by simp) ?_
          intro j hj
          simp only [List.mem_cons, List.not_mem_nil, or_false] at hj
          subst hj
          refine wpOp_mk rfl rfl (wp_app _ (.tmp 54) (.tmp 56) 22 rfl W.heap.size 3 i0 (.int .i64 0) 1 8 Try.underlying22 hi hz0 hz1 hz2 rfl (by decide) (.slice A1 p c1) p (xs.take p) (by simp [Act.eval, Act.put]) h2.own (some ⟨W.heap.size, 0, none⟩) 1 1 [.int .i64 key] (by simp [Act.eval, Act.put]) rfl (h2.cells (A := some ⟨W.heap.size, 0, none⟩) ((cells_bk (Bk.new W.drew 3 #[.int .i64 key])).alloc (.cells #[] 3)) (fun a ha => by cases ha; simp [Value.ownBlock])) (by simp [Value.oneCell']) (by unfold maxLen; omega) (by omega) hbz (p + 1) rfl _ rfl ?_)
          intro A2 c2 W4 h4
          have hO4 : Old W W4 := h4.old hO2 (fun j hj => (h2.own.lt j hj).1)
          have hbz : W.heap.size ≤ W4.heap.size := hO4.size
          refine ⟨.inr fun _ => SS _ hO4, ?_⟩
          refine wpAnyZ_all (rs := [18]) (by kernel_rfl) (by simp) ?_
          intro j hj
          simp only [List.mem_cons, List.not_mem_nil, or_false] at hj
          subst hj
          refine wpOp_mk rfl rfl (wp_app _ (.tmp 57) (.tmp 63) 22 rfl W.heap.size 3 i0 (.int .i64 0) 1 8 Try.underlying22 hi hz0 hz1 hz2 rfl (by decide) (.slice A2 (p + 1) c2) (p + 1) (xs.take p ++ [.int .i64 key]) (by simp [Act.eval, Act.put]) h4.own (some ⟨ga, o, none⟩) (n - p) (ck - p) (xs.drop p) (by simp [Act.eval, Act.put]) (by rw [List.length_drop]; omega) (hrest.old hO4) (fun u hu => hone u (List.mem_of_mem_drop hu)) (by unfold maxLen; omega) (by omega) hbz (n + 1) (by omega) _ (List.append_assoc _ _ _) ?_)
          intro A3 c3 W5 h5
          have hO5 : Old W W5 := h5.old hO4 (fun j hj => (h4.own.lt j hj).1)
          have d5 := SS _ hO5
          have e5 := SF _ hO5
          have HOWN := hide h5.own
          refine ⟨.inr fun _ => SS _ hO5, ?_⟩
          refine wpAnyZ_pure 19 (.pointer (some ⟨g, 0, none⟩)) rfl (by kernel_rfl) (by kernel_rfl) (by kernel_rfl) (fun _ _ _ h => h) (Or.inl ⟨by rfl, fun w _ => by go_simp⟩) ?_
          refine wpAnyZ_pure 20 (.pointer (some ⟨g, 0, none⟩)) rfl (by kernel_rfl) (by kernel_rfl) (by kernel_rfl) (fun _ _ _ h => h) (Or.inl ⟨by rfl, fun w _ => by go_simp⟩) ?_
          refine wpAnyZ_all (rs := [21]) (by kernel_rfl) (by simp) ?_
          intro j hj
          simp only [List.mem_cons, List.not_mem_nil, or_false] at hj
          subst hj
          refine wpOp_mk rfl rfl ?_
          go_simp
          refine wpAnyZ_done (by kernel_rfl) ?_ _
          go_wp2_with fail
          go_meet
          case rel => exact ⟨W5, A3, c3, rfl, hO5, HOWN.out⟩
    case rest =>
      obtain ⟨W5, A3, c3, rfl, hO5, hown5⟩ := hcut
      have hsU : (W5.setCell ⟨g, 0, none⟩ (.slice A3 (n + 1) c3)).heap.size = W5.heap.size := by simp [World.setCell]
      have hgU : g < (W5.setCell ⟨g, 0, none⟩ (.slice A3 (n + 1) c3)).heap.size := by have := hO5.size; omega
      have a1 : (W5.setCell ⟨g, 0, none⟩ (.slice A3 (n + 1) c3)).cell? ⟨g, 1, none⟩ = some (.slice B n cv) := by simp [go_sem, (hO5.cell (p := ⟨g, 1, none⟩) hgl).trans v0]
      have a2 : (W5.setCell ⟨g, 0, none⟩ (.slice A3 (n + 1) c3)).frozen? ⟨g, 1, none⟩ = false := by rw [World.frozen?_setCell, hO5.frozen (p := ⟨g, 1, none⟩) hgl, fv]
      have a3 := own_set (p := ⟨g, 0, none⟩) (own_old hvo hO5) hvg (.slice A3 (n + 1) c3)
      have FIN := hide (fun (W6 : World) (B3 : Option Addr) (d3 : Nat) (hO6 : Old (W5.setCell ⟨g, 0, none⟩ (.slice A3 (n + 1) c3)) W6) (hown6 : W6.ownsRow (W5.setCell ⟨g, 0, none⟩ (.slice A3 (n + 1) c3)).heap.size 3 1 (.slice B3 (n + 1) d3) (n + 1) ((us.map (Value.int .i64)).take p ++ ([.int .i64 v] ++ (us.map (Value.int .i64)).drop p))) =>
        rfin (ks' := ks.take p ++ ([key] ++ ks.drop p)) hgl hlow k0 v0 fk fv hO5 (by simpa only [List.map_append, List.map_take, List.map_drop, List.map_cons, List.map_nil] using hown5) hO6 hown6 (by simp only [List.length_append, List.length_take, List.length_drop, List.length_cons, List.length_nil, HN.out]; omega) HRISE.out
          (by intro u hu; simp only [List.mem_append, List.mem_cons, List.not_mem_nil, or_false] at hu; rcases hu with hu | rfl | hu; · have := List.mem_of_mem_take hu; simp only [List.mem_map] at this; obtain ⟨_, _, rfl⟩ := this; rfl
              · rfl
              · have := List.mem_of_mem_drop hu; simp only [List.mem_map] at this; obtain ⟨_, _, rfl⟩ := this; rfl))
      go_wp2_with fail
      obtain ⟨U, hU⟩ : ∃ U, W5.setCell ⟨g, 0, none⟩ (.slice A3 (n + 1) c3) = U := ⟨_, rfl⟩
      rw [hU] at hgU a1 a2 a3 FIN ⊢
      clear hU hown5 hO5 hko k0 v0 fk fv hvo hgl hsU hvg HRISE
      go_cut [] from 10 (fun w' => ∃ W5 A3 c3, w' = W5.setCell ⟨g, 1, none⟩ (.slice A3 (n + 1) c3) ∧ Old U W5 ∧ W5.ownsRow U.heap.size 3 1 (.slice A3 (n + 1) c3) (n + 1) ((us.map (Value.int .i64)).take p ++ ([.int .i64 v] ++ (us.map (Value.int .i64)).drop p)))
      case first =>
        clear FIN HN
        obtain ⟨W, rfl⟩ : ∃ W : World, W = U := ⟨_, rfl⟩
        have hone : ∀ u ∈ us.map (Value.int .i64), u.oneCell' = true := by simp [Value.oneCell']
        have hxl : (us.map (Value.int .i64)).length = n := by rw [List.length_map]; exact HUL.out
        have hgl := hgU
        have hown := a3
        have hS0 := a1
        have hF0 := a2
        clear hgU a1 a2 a3 HUL
        generalize us.map (Value.int .i64) = xs at *
        rcases own_cases hown with ⟨rfl, rfl, rfl⟩ | ⟨ga, rfl⟩
        · obtain rfl : p = 0 := by omega
          have hrest : CellsAt W none (xs.drop 0) := CellsAt.of_own hown
          have hrow : CellsAt W none xs := CellsAt.of_own hown
          have SS : ∀ U, Old W U → U.cell? ⟨g, 1, none⟩ = some (.slice none 0 0) := fun U hU => (hU.cell (p := ⟨g, 1, none⟩) hgl).trans hS0
          have SF : ∀ U, Old W U → U.frozen? ⟨g, 1, none⟩ = false := fun U hU => (hU.frozen (p := ⟨g, 1, none⟩) hgl).trans hF0
          refine wp_region_Z (S := fun w' => w'.cell? ⟨g, 1, none⟩ = some (.slice none 0 0)) (Z := [21].contains) (by kernel_rfl) ?_
          refine wpAnyZ_pure 0 (.pointer (some ⟨g, 0, none⟩)) rfl (by kernel_rfl) (by kernel_rfl) (by kernel_rfl) (fun _ _ _ h => h) (Or.inl ⟨by rfl, fun w _ => by go_simp⟩) ?_
          refine wpAnyZ_pure 2 (.pointer (some ⟨g, 0, none⟩)) rfl (by kernel_rfl) (by kernel_rfl) (by kernel_rfl) (fun _ _ _ h => h) (Or.inl ⟨by rfl, fun w _ => by go_simp⟩) ?_
          refine wpAnyZ_pure 3 (.pointer (some ⟨g, 0, none⟩)) rfl (by kernel_rfl) (by kernel_rfl) (by kernel_rfl) (fun _ _ _ h => h) (Or.inl ⟨by rfl, fun w _ => by go_simp⟩) ?_
          refine wpAnyZ_pure 4 (.pointer (some ⟨g, 1, none⟩)) rfl (by kernel_rfl) (by kernel_rfl) (by kernel_rfl) (fun _ _ _ h => h) (Or.inl ⟨by rfl, fun w _ => by go_simp⟩) ?_
          refine wpAnyZ_take 5 (.slice none 0 0) rfl (by kernel_rfl) (by kernel_rfl) (by kernel_rfl) (by kernel_rfl) (fun _ _ _ h => h) (Or.inl ⟨by rfl, fun w' hS => by go_simp⟩) (by exact hS0) ?_
          refine wpAnyZ_pure 6 (.int .i64 0) rfl (by kernel_rfl) (by kernel_rfl) (by kernel_rfl) (fun _ _ _ h => h) (Or.inl ⟨by rfl, fun w _ => by go_simp⟩) ?_
          refine wpAnyZ_pure 7 (.slice none 0 0) rfl (by kernel_rfl) (by kernel_rfl) (by kernel_rfl) (fun _ _ _ h => h) (Or.inl ⟨by rfl, fun w _ => by go_simp⟩) ?_
          refine wpAnyZ_pure 9 (.int .i64 v) rfl (by kernel_rfl) (by kernel_rfl) (by kernel_rfl) (fun _ _ _ h => h) (Or.inl ⟨by rfl, fun w _ => by go_simp⟩) ?_
          refine wpAnyZ_pure 12 (.pointer (some ⟨g, 0, none⟩)) rfl (by kernel_rfl) (by kernel_rfl) (by kernel_rfl) (fun _ _ _ h => h) (Or.inl ⟨by rfl, fun w _ => by go_simp⟩) ?_
          refine wpAnyZ_pure 13 (.pointer (some ⟨g, 0, none⟩)) rfl (by kernel_rfl) (by kernel_rfl) (by kernel_rfl) (fun _ _ _ h => h) (Or.inl ⟨by rfl, fun w _ => by go_simp⟩) ?_
          refine wpAnyZ_pure 14 (.pointer (some ⟨g, 1, none⟩)) rfl (by kernel_rfl) (by kernel_rfl) (by kernel_rfl) (fun _ _ _ h => h) (Or.inl ⟨by rfl, fun w _ => by go_simp⟩) ?_
          refine wpAnyZ_take 15 (.slice none 0 0) rfl (by kernel_rfl) (by kernel_rfl) (by kernel_rfl) (by kernel_rfl) (fun _ _ _ h => h) (Or.inl ⟨by rfl, fun w' hS => by go_simp⟩) (by exact hS0) ?_
          refine wpAnyZ_pure 16 (.int .i64 0) rfl (by kernel_rfl) (by kernel_rfl) (by kernel_rfl) (fun _ _ _ h => h) (Or.inl ⟨by rfl, fun w _ => by go_simp⟩) ?_
          refine wpAnyZ_pure 17 (.slice none (0 - 0) (0 - 0)) rfl (by kernel_rfl) (by kernel_rfl) (by kernel_rfl) (fun _ _ _ h => h) (Or.inl ⟨by rfl, fun w _ => by go_simp⟩) ?_
          refine wpAnyZ_all (rs := [1, 10]) (by kernel_rfl) (by simp) ?_
          intro j hj
          simp only [List.mem_cons, List.not_mem_nil, or_false] at hj
          rcases hj with rfl | rfl
          · refine wpOp_run (w' := W.drew.alloc (.cells #[] 3)) (.slice (some ⟨W.drew.heap.size, 0, none⟩) 0 0) rfl rfl (by go_simp) ⟨.inr fun _ => SS _ (((Old.refl' W).drew').alloc' (.cells #[] 3)), ?_⟩
            refine wpAnyZ_all (rs := [8, 10]) (by kernel_rfl) (by simp) ?_
            intro j hj
            simp only [List.mem_cons, List.not_mem_nil, or_false] at hj
            rcases hj with rfl | rfl
            · have hbz : W.heap.size ≤ (W.drew.alloc (.cells #[] 3)).heap.size := (((Old.refl' W).drew').alloc' (.cells #[] 3)).size
              refine wpOp_mk rfl rfl (wp_app _ (.tmp 68) (.tmp 74) 22 rfl W.heap.size 3 i0 (.int .i64 0) 1 8 Try.underlying22 hi hz0 hz1 hz2 rfl (by decide) (.slice (some ⟨W.heap.size, 0, none⟩) 0 0) 0 [] (by simp [Act.eval, Act.put]) (World.ownsRow_made W.drew #[] 0 (Nat.le_refl _) (by decide) rfl) none 0 0 (xs.take 0) (by simp [Act.eval, Act.put]) (by rw [List.length_take]; omega) ((hrow.take 0).old (((Old.refl' W).drew').alloc' (.cells #[] 3))) (fun u hu => hone u (List.mem_of_mem_take hu)) (by unfold maxLen; omega) (by omega) hbz 0 (Nat.zero_add _) _ (List.nil_append _) ?_)
              intro A1 c1 W2 h2
              have hO2 : Old W W2 := h2.old (((Old.refl' W).drew').alloc' (.cells #[] 3)) (fun j hj => by simp [Value.ownBlock] at hj; omega)
              have hbz : W.heap.size ≤ W2.heap.size := hO2.size
              refine ⟨.inr fun _ => SS _ hO2, ?_⟩
              refine wpAnyZ_all (rs := [10]) (by kernel_rfl) (by simp) ?_
              intro j hj
              simp only [List.mem_cons, List.not_mem_nil, or_false] at hj
              subst hj
              refine wpOp_run (w' := W2.alloc (.cells #[.int .i64 v] 3)) (.slice (some ⟨W2.heap.size, 0, none⟩) 1 1) rfl rfl (by go_simp) ⟨.inr fun _ => SS _ (hO2.alloc' (.cells #[.int .i64 v] 3)), ?_⟩
              have hbz : W.heap.size ≤ (W2.alloc (.cells #[.int .i64 v] 3)).heap.size := (hO2.alloc' (.cells #[.int .i64 v] 3)).size
              refine wpAnyZ_all (rs := [11]) (by kernel_rfl) (by simp) ?_
              intro j hj
              simp only [List.mem_cons, List.not_mem_nil, or_false] at hj
              subst hj
              refine wpOp_mk rfl rfl (wp_app _ (.tmp 75) (.tmp 77) 22 rfl W.heap.size 3 i0 (.int .i64 0) 1 8 Try.underlying22 hi hz0 hz1 hz2 rfl (by decide) (.slice A1 0 c1) 0 (xs.take 0) (by simp [Act.eval, Act.put]) (h2.own.alloc (.cells #[.int .i64 v] 3)) (some ⟨W2.heap.size, 0, none⟩) 1 1 [.int .i64 v] (by simp [Act.eval, Act.put]) rfl (cells_bk (Bk.new W2 3 #[.int .i64 v])) (by simp [Value.oneCell']) (by unfold maxLen; omega) (by omega) hbz (0 + 1) rfl _ rfl ?_)
              intro A2 c2 W4 h4
              have hO4 : Old W W4 := h4.old (hO2.alloc' (.cells #[.int .i64 v] 3)) (fun j hj => ((h2.own.alloc (.cells #[.int .i64 v] 3)).lt j hj).1)
              have hbz : W.heap.size ≤ W4.heap.size := hO4.size
              refine ⟨.inr fun _ => SS _ hO4, ?_⟩
              refine wpAnyZ_all (rs := [18]) (by kernel_rfl) (by simp) ?_
              intro j hj
              simp only [List.mem_cons, List.not_mem_nil, or_false] at hj
              subst hj
              refine wpOp_mk rfl rfl (wp_app _ (.tmp 78) (.tmp 84) 22 rfl W.heap.size 3 i0 (.int .i64 0) 1 8 Try.underlying22 hi hz0 hz1 hz2 rfl (by decide) (.slice A2 (0 + 1) c2) (0 + 1) (xs.take 0 ++ [.int .i64 v]) (by simp [Act.eval, Act.put]) h4.own none (0 - 0) (0 - 0) (xs.drop 0) (by simp [Act.eval, Act.put]) (by rw [List.length_drop]; omega) (hrest.old hO4) (fun u hu => hone u (List.mem_of_mem_drop hu)) (by unfold maxLen; omega) (by omega) hbz (0 + 1) (by omega) _ (List.append_assoc _ _ _) ?_)
              intro A3 c3 W5 h5
              have hO5 : Old W W5 := h5.old hO4 (fun j hj => (h4.own.lt j hj).1)
              have d5 := SS _ hO5
              have e5 := SF _ hO5
              have HOWN := hide h5.own
              refine ⟨.inr fun _ => SS _ hO5, ?_⟩
              refine wpAnyZ_pure 19 (.pointer (some ⟨g, 0, none⟩)) rfl (by kernel_rfl) (by kernel_rfl) (by kernel_rfl) (fun _ _ _ h => h) (Or.inl ⟨by rfl, fun w _ => by go_simp⟩) ?_
              refine wpAnyZ_pure 20 (.pointer (some ⟨g, 1, none⟩)) rfl (by kernel_rfl) (by kernel_rfl) (by kernel_rfl) (fun _ _ _ h => h) (Or.inl ⟨by rfl, fun w _ => by go_simp⟩) ?_
              refine wpAnyZ_all (rs := [21]) (by kernel_rfl) (by simp) ?_
              intro j hj
              simp only [List.mem_cons, List.not_mem_nil, or_false] at hj
              subst hj
              refine wpOp_mk rfl rfl ?_
              go_simp
              refine wpAnyZ_done (by kernel_rfl) ?_ _
              go_wp2_with fail
              go_meet
              case rel => exact ⟨W5, A3, c3, rfl, hO5, HOWN.out⟩
            · refine wpOp_run (w' := (W.drew.alloc (.cells #[] 3)).alloc (.cells #[.int .i64 v] 3)) (.slice (some ⟨(W.drew.alloc (.cells #[] 3)).heap.size, 0, none⟩) 1 1) rfl rfl (by go_simp) ⟨.inr fun _ => SS _ ((((Old.refl' W).drew').alloc' (.cells #[] 3)).alloc' (.cells #[.int .i64 v] 3)), ?_⟩
              refine wpAnyZ_all (rs := [8]) (by kernel_rfl) (by simp) ?_
              intro j hj
              simp only [List.mem_cons, List.not_mem_nil, or_false] at hj
              subst hj
              have hbz : W.heap.size ≤ ((W.drew.alloc (.cells #[] 3)).alloc (.cells #[.int .i64 v] 3)).heap.size := ((((Old.refl' W).drew').alloc' (.cells #[] 3)).alloc' (.cells #[.int .i64 v] 3)).size
              refine wpOp_mk rfl rfl (wp_app _ (.tmp 68) (.tmp 74) 22 rfl W.heap.size 3 i0 (.int .i64 0) 1 8 Try.underlying22 hi hz0 hz1 hz2 rfl (by decide) (.slice (some ⟨W.heap.size, 0, none⟩) 0 0) 0 [] (by simp [Act.eval, Act.put]) ((World.ownsRow_made W.drew #[] 0 (Nat.le_refl _) (by decide) rfl).alloc (.cells #[.int .i64 v] 3)) none 0 0 (xs.take 0) (by simp [Act.eval, Act.put]) (by rw [List.length_take]; omega) ((hrow.take 0).old ((((Old.refl' W).drew').alloc' (.cells #[] 3)).alloc' (.cells #[.int .i64 v] 3))) (fun u hu => hone u (List.mem_of_mem_take hu)) (by unfold maxLen; omega) (by omega) hbz 0 (Nat.zero_add _) _ (List.nil_append _) ?_)
              intro A1 c1 W2 h2
              have hO2 : Old W W2 := h2.old ((((Old.refl' W).drew').alloc' (.cells #[] 3)).alloc' (.cells #[.int .i64 v] 3)) (fun j hj => by simp [Value.ownBlock] at hj; omega)
              have hbz : W.heap.size ≤ W2.heap.size := hO2.size
              refine ⟨.inr fun _ => SS _ hO2, ?_⟩
              refine wpAnyZ_all (rs := [11]) (by kernel_rfl) (by simp) ?_
              intro j hj
              simp only [List.mem_cons, List.not_mem_nil, or_false] at hj
              subst hj
              refine wpOp_mk rfl rfl (wp_app _ (.tmp 75) (.tmp 77) 22 rfl W.heap.size 3 i0 (.int .i64 0) 1 8 Try.underlying22 hi hz0 hz1 hz2 rfl (by decide) (.slice A1 0 c1) 0 (xs.take 0) (by simp [Act.eval, Act.put]) h2.own (some ⟨(W.heap.size + 1), 0, none⟩) 1 1 [.int .i64 v] (by simp [Act.eval, Act.put]) rfl (h2.cells (A := some ⟨W.heap.size + 1, 0, none⟩) (cells_bk (bk_new1 W.drew (.cells #[] 3) 3 #[.int .i64 v])) (fun a ha => by cases ha; simp [Value.ownBlock])) (by simp [Value.oneCell']) (by unfold maxLen; omega) (by omega) hbz (0 + 1) rfl _ rfl ?_)
              intro A2 c2 W4 h4
              have hO4 : Old W W4 := h4.old hO2 (fun j hj => (h2.own.lt j hj).1)
              have hbz : W.heap.size ≤ W4.heap.size := hO4.size
              refine ⟨.inr fun _ => SS _ hO4, ?_⟩
              refine wpAnyZ_all (rs := [18]) (by kernel_rfl) (by simp) ?_
              intro j hj
              simp only [List.mem_cons, List.not_mem_nil, or_false] at hj
              subst hj
              refine wpOp_mk rfl rfl (wp_app _ (.tmp 78) (.tmp 84) 22 rfl W.heap.size 3 i0 (.int .i64 0) 1 8 Try.underlying22 hi hz0 hz1 hz2 rfl (by decide) (.slice A2 (0 + 1) c2) (0 + 1) (xs.take 0 ++ [.int .i64 v]) (by simp [Act.eval, Act.put]) h4.own none (0 - 0) (0 - 0) (xs.drop 0) (by simp [Act.eval, Act.put]) (by rw [List.length_drop]; omega) (hrest.old hO4) (fun u hu => hone u (List.mem_of_mem_drop hu)) (by unfold maxLen; omega) (by omega) hbz (0 + 1) (by omega) _ (List.append_assoc _ _ _) ?_)
              intro A3 c3 W5 h5
              have hO5 : Old W W5 := h5.old hO4 (fun j hj => (h4.own.lt j hj).1)
              have d5 := SS _ hO5
              have e5 := SF _ hO5
              have HOWN := hide h5.own
              refine ⟨.inr fun _ => SS _ hO5, ?_⟩
              refine wpAnyZ_pure 19 (.pointer (some ⟨g, 0, none⟩)) rfl (by kernel_rfl) (by kernel_rfl) (by kernel_rfl) (fun _ _ _ h => h) (Or.inl ⟨by rfl, fun w _ => by go_simp⟩) ?_
              refine wpAnyZ_pure 20 (.pointer (some ⟨g, 1, none⟩)) rfl (by kernel_rfl) (by kernel_rfl) (by kernel_rfl) (fun _ _ _ h => h) (Or.inl ⟨by rfl, fun w _ => by go_simp⟩) ?_
              refine wpAnyZ_all (rs := [21]) (by kernel_rfl) (by simp) ?_
              intro j hj
              simp only [List.mem_cons, List.not_mem_nil, or_false] at hj
              subst hj
              refine wpOp_mk rfl rfl ?_
              go_simp
              refine wpAnyZ_done (by kernel_rfl) ?_ _
              go_wp2_with fail
              go_meet
              case rel => exact ⟨W5, A3, c3, rfl, hO5, HOWN.out⟩
          · refine wpOp_run (w' := W.drew.alloc (.cells #[.int .i64 v] 3)) (.slice (some ⟨W.drew.heap.size, 0, none⟩) 1 1) rfl rfl (by go_simp) ⟨.inr fun _ => SS _ (((Old.refl' W).drew').alloc' (.cells #[.int .i64 v] 3)), ?_⟩
            refine wpAnyZ_all (rs := [1]) (by kernel_rfl) (by simp) ?_
            intro j hj
            simp only [List.mem_cons, List.not_mem_nil, or_false] at hj
            subst hj
            refine wpOp_run (w' := (W.drew.alloc (.cells #[.int .i64 v] 3)).alloc (.cells #[] 3)) (.slice (some ⟨(W.drew.alloc (.cells #[.int .i64 v] 3)).heap.size, 0, none⟩) 0 0) rfl rfl (by go_simp) ⟨.inr fun _ => SS _ ((((Old.refl' W).drew').alloc' (.cells #[.int .i64 v] 3)).alloc' (.cells #[] 3)), ?_⟩
            refine wpAnyZ_all (rs := [8]) (by kernel_rfl) (by simp) ?_
            intro j hj
            simp only [List.mem_cons, List.not_mem_nil, or_false] at hj
            subst hj
            have hbz : W.heap.size ≤ ((W.drew.alloc (.cells #[.int .i64 v] 3)).alloc (.cells #[] 3)).heap.size := ((((Old.refl' W).drew').alloc' (.cells #[.int .i64 v] 3)).alloc' (.cells #[] 3)).size
            refine wpOp_mk rfl rfl (wp_app _ (.tmp 68) (.tmp 74) 22 rfl W.heap.size 3 i0 (.int .i64 0) 1 8 Try.underlying22 hi hz0 hz1 hz2 rfl (by decide) (.slice (some ⟨W.heap.size + 1, 0, none⟩) 0 0) 0 [] (by simp [Act.eval, Act.put]) (by have := World.ownsRow_made (W.drew.alloc (.cells #[.int .i64 v] 3)) (e := 3) (size := 1) (base := W.heap.size) #[] 0 (by simp) (by decide) rfl; rwa [World.size_alloc] at this) none 0 0 (xs.take 0) (by simp [Act.eval, Act.put]) (by rw [List.length_take]; omega) ((hrow.take 0).old ((((Old.refl' W).drew').alloc' (.cells #[.int .i64 v] 3)).alloc' (.cells #[] 3))) (fun u hu => hone u (List.mem_of_mem_take hu)) (by unfold maxLen; omega) (by omega) hbz 0 (Nat.zero_add _) _ (List.nil_append _) ?_)
            intro A1 c1 W2 h2
            have hO2 : Old W W2 := h2.old ((((Old.refl' W).drew').alloc' (.cells #[.int .i64 v] 3)).alloc' (.cells #[] 3)) (fun j hj => by simp [Value.ownBlock] at hj; omega)
            have hbz : W.heap.size ≤ W2.heap.size := hO2.size
            refine ⟨.inr fun _ => SS _ hO2, ?_⟩
            refine wpAnyZ_all (rs := [11]) (by kernel_rfl) (by simp) ?_
            intro j hj
            simp only [List.mem_cons, List.not_mem_nil, or_false] at hj
            subst hj
            refine wpOp_mk rfl rfl (wp_app _ (.tmp 75) (.tmp 77) 22 rfl W.heap.size 3 i0 (.int .i64 0) 1 8 Try.underlying22 hi hz0 hz1 hz2 rfl (by decide) (.slice A1 0 c1) 0 (xs.take 0) (by simp [Act.eval, Act.put]) h2.own (some ⟨W.heap.size, 0, none⟩) 1 1 [.int .i64 v] (by simp [Act.eval, Act.put]) rfl (h2.cells (A := some ⟨W.heap.size, 0, none⟩) ((cells_bk (Bk.new W.drew 3 #[.int .i64 v])).alloc (.cells #[] 3)) (fun a ha => by cases ha; simp [Value.ownBlock])) (by simp [Value.oneCell']) (by unfold maxLen; omega) (by omega) hbz (0 + 1) rfl _ rfl ?_)
            intro A2 c2 W4 h4
            have hO4 : Old W W4 := h4.old hO2 (fun j hj => (h2.own.lt j hj).1)
            have hbz : W.heap.size ≤ W4.heap.size := hO4.size
            refine ⟨.inr fun _ => SS _ hO4, ?_⟩
            refine wpAnyZ_all (rs := [18]) (by kernel_rfl) (by simp) ?_
            intro j hj
            simp only [List.mem_cons, List.not_mem_nil, or_false] at hj
            subst hj
            refine wpOp_mk rfl rfl (wp_app _ (.tmp 78) (.tmp 84) 22 rfl W.heap.size 3 i0 (.int .i64 0) 1 8 Try.underlying22 hi hz0 hz1 hz2 rfl (by decide) (.slice A2 (0 + 1) c2) (0 + 1) (xs.take 0 ++ [.int .i64 v]) (by simp [Act.eval, Act.put]) h4.own none (0 - 0) (0 - 0) (xs.drop 0) (by simp [Act.eval, Act.put]) (by rw [List.length_drop]; omega) (hrest.old hO4) (fun u hu => hone u (List.mem_of_mem_drop hu)) (by unfold maxLen; omega) (by omega) hbz (0 + 1) (by omega) _ (List.append_assoc _ _ _) ?_)
            intro A3 c3 W5 h5
            have hO5 : Old W W5 := h5.old hO4 (fun j hj => (h4.own.lt j hj).1)
            have d5 := SS _ hO5
            have e5 := SF _ hO5
            have HOWN := hide h5.own
            refine ⟨.inr fun _ => SS _ hO5, ?_⟩
            refine wpAnyZ_pure 19 (.pointer (some ⟨g, 0, none⟩)) rfl (by kernel_rfl) (by kernel_rfl) (by kernel_rfl) (fun _ _ _ h => h) (Or.inl ⟨by rfl, fun w _ => by go_simp⟩) ?_
            refine wpAnyZ_pure 20 (.pointer (some ⟨g, 1, none⟩)) rfl (by kernel_rfl) (by kernel_rfl) (by kernel_rfl) (fun _ _ _ h => h) (Or.inl ⟨by rfl, fun w _ => by go_simp⟩) ?_
            refine wpAnyZ_all (rs := [21]) (by kernel_rfl) (by simp) ?_
            intro j hj
            simp only [List.mem_cons, List.not_mem_nil, or_false] at hj
            subst hj
            refine wpOp_mk rfl rfl ?_
            go_simp
            refine wpAnyZ_done (by kernel_rfl) ?_ _
            go_wp2_with fail
            go_meet
            case rel => exact ⟨W5, A3, c3, rfl, hO5, HOWN.out⟩
        · obtain ⟨o, hAD, hrest⟩ := cut_rest hown (p := p) hple
          have hrow : CellsAt W (some ⟨ga, 0, none⟩) xs := CellsAt.of_own hown
          have hck := (own_size hown).1
          have hcm := (own_size hown).2
          unfold maxLen at hcm
          have hck' : ¬ cv < p := by omega
          have i1 : (0 : Int) ≤ (p : Int) := by omega
          have i2 : (p : Int) ≤ (n : Int) := by omega
          have i3 : (p : Int) ≤ (cv : Int) := by omega
          have SS : ∀ U, Old W U → U.cell? ⟨g, 1, none⟩ = some (.slice (some ⟨ga, 0, none⟩) n cv) := fun U hU => (hU.cell (p := ⟨g, 1, none⟩) hgl).trans hS0
          have SF : ∀ U, Old W U → U.frozen? ⟨g, 1, none⟩ = false := fun U hU => (hU.frozen (p := ⟨g, 1, none⟩) hgl).trans hF0
          refine wp_region_Z (S := fun w' => w'.cell? ⟨g, 1, none⟩ = some (.slice (some ⟨ga, 0, none⟩) n cv)) (Z := [21].contains) (by kernel_rfl) ?_
          refine wpAnyZ_pure 0 (.pointer (some ⟨g, 0, none⟩)) rfl (by kernel_rfl) (by kernel_rfl) (by kernel_rfl) (fun _ _ _ h => h) (Or.inl ⟨by rfl, fun w _ => by go_simp⟩) ?_
          refine wpAnyZ_pure 2 (.pointer (some ⟨g, 0, none⟩)) rfl (by kernel_rfl) (by kernel_rfl) (by kernel_rfl) (fun _ _ _ h => h) (Or.inl ⟨by rfl, fun w _ => by go_simp⟩) ?_
          refine wpAnyZ_pure 3 (.pointer (some ⟨g, 0, none⟩)) rfl (by kernel_rfl) (by kernel_rfl) (by kernel_rfl) (fun _ _ _ h => h) (Or.inl ⟨by rfl, fun w _ => by go_simp⟩) ?_
          refine wpAnyZ_pure 4 (.pointer (some ⟨g, 1, none⟩)) rfl (by kernel_rfl) (by kernel_rfl) (by kernel_rfl) (fun _ _ _ h => h) (Or.inl ⟨by rfl, fun w _ => by go_simp⟩) ?_
          refine wpAnyZ_take 5 (.slice (some ⟨ga, 0, none⟩) n cv) rfl (by kernel_rfl) (by kernel_rfl) (by kernel_rfl) (by kernel_rfl) (fun _ _ _ h => h) (Or.inl ⟨by rfl, fun w' hS => by go_simp⟩) (by exact hS0) ?_
          refine wpAnyZ_pure 6 (.int .i64 p) rfl (by kernel_rfl) (by kernel_rfl) (by kernel_rfl) (fun _ _ _ h => h) (Or.inl ⟨by rfl, fun w _ => by go_simp⟩) ?_
          refine wpAnyZ_pure 7 (.slice (some ⟨ga, 0, none⟩) p cv) rfl (by kernel_rfl) (by kernel_rfl) (by kernel_rfl) (fun _ _ _ h => h) (Or.inl ⟨by rfl, fun w _ => by go_simp⟩) ?_
          refine wpAnyZ_pure 9 (.int .i64 v) rfl (by kernel_rfl) (by kernel_rfl) (by kernel_rfl) (fun _ _ _ h => h) (Or.inl ⟨by rfl, fun w _ => by go_simp⟩) ?_
          refine wpAnyZ_pure 12 (.pointer (some ⟨g, 0, none⟩)) rfl (by kernel_rfl) (by kernel_rfl) (by kernel_rfl) (fun _ _ _ h => h) (Or.inl ⟨by rfl, fun w _ => by go_simp⟩) ?_
          refine wpAnyZ_pure 13 (.pointer (some ⟨g, 0, none⟩)) rfl (by kernel_rfl) (by kernel_rfl) (by kernel_rfl) (fun _ _ _ h => h) (Or.inl ⟨by rfl, fun w _ => by go_simp⟩) ?_
          refine wpAnyZ_pure 14 (.pointer (some ⟨g, 1, none⟩)) rfl (by kernel_rfl) (by kernel_rfl) (by kernel_rfl) (fun _ _ _ h => h) (Or.inl ⟨by rfl, fun w _ => by go_simp⟩) ?_
          refine wpAnyZ_take 15 (.slice (some ⟨ga, 0, none⟩) n cv) rfl (by kernel_rfl) (by kernel_rfl) (by kernel_rfl) (by kernel_rfl) (fun _ _ _ h => h) (Or.inl ⟨by rfl, fun w' hS => by go_simp⟩) (by exact hS0) ?_
          refine wpAnyZ_pure 16 (.int .i64 p) rfl (by kernel_rfl) (by kernel_rfl) (by kernel_rfl) (fun _ _ _ h => h) (Or.inl ⟨by rfl, fun w _ => by go_simp⟩) ?_
          refine wpAnyZ_pure 17 (.slice (some ⟨ga, o, none⟩) (n - p) (cv - p)) rfl (by kernel_rfl) (by kernel_rfl) (by kernel_rfl) (fun _ _ _ h => h) (Or.inl ⟨by rfl, fun w _ => by go_simp⟩) ?_
          refine wpAnyZ_all (rs := [1, 10]) (by kernel_rfl) (by simp) ?_
          intro j hj
          simp only [List.mem_cons, List.not_mem_nil, or_false] at hj
          rcases hj with rfl | rfl
          · refine wpOp_run (w' := W.drew.alloc (.cells #[] 3)) (.slice (some ⟨W.drew.heap.size, 0, none⟩) 0 0) rfl rfl (by go_simp) ⟨.inr fun _ => SS _ (((Old.refl' W).drew').alloc' (.cells #[] 3)), ?_⟩
            refine wpAnyZ_all (rs := [8, 10]) (by kernel_rfl) (by simp) ?_
            intro j hj
            simp only [List.mem_cons, List.not_mem_nil, or_false] at hj
            rcases hj with rfl | rfl
            · have hbz : W.heap.size ≤ (W.drew.alloc (.cells #[] 3)).heap.size := (((Old.refl' W).drew').alloc' (.cells #[] 3)).size
              refine wpOp_mk rfl rfl (wp_app _ (.tmp 68) (.tmp 74) 22 rfl W.heap.size 3 i0 (.int .i64 0) 1 8 Try.underlying22 hi hz0 hz1 hz2 rfl (by decide) (.slice (some ⟨W.heap.size, 0, none⟩) 0 0) 0 [] (by simp [Act.eval, Act.put]) (World.ownsRow_made W.drew #[] 0 (Nat.le_refl _) (by decide) rfl) (some ⟨ga, 0, none⟩) p cv (xs.take p) (by simp [Act.eval, Act.put]) (by rw [List.length_take]; omega) ((hrow.take p).old (((Old.refl' W).drew').alloc' (.cells #[] 3))) (fun u hu => hone u (List.mem_of_mem_take hu)) (by unfold maxLen; omega) (by omega) hbz p (Nat.zero_add _) _ (List.nil_append _) ?_)
              intro A1 c1 W2 h2
              have hO2 : Old W W2 := h2.old (((Old.refl' W).drew').alloc' (.cells #[] 3)) (fun j hj => by simp [Value.ownBlock] at hj; omega)
              have hbz : W.heap.size ≤ W2.heap.size := hO2.size
              refine ⟨.inr fun _ => SS _ hO2, ?_⟩
              refine wpAnyZ_all (rs := [10]) (by kernel_rfl) (by simp) ?_
              intro j hj
              simp only [List.mem_cons, List.not_mem_nil, or_false] at hj
              subst hj
              refine wpOp_run (w' := W2.alloc (.cells #[.int .i64 v] 3)) (.slice (some ⟨W2.heap.size, 0, none⟩) 1 1) rfl rfl (by go_simp) ⟨.inr fun _ => SS _ (hO2.alloc' (.cells #[.int .i64 v] 3)), ?_⟩
              have hbz : W.heap.size ≤ (W2.alloc (.cells #[.int .i64 v] 3)).heap.size := (hO2.alloc' (.cells #[.int .i64 v] 3)).size
              refine wpAnyZ_all (rs := [11]) (by kernel_rfl) (by simp) ?_
              intro j hj
              simp only [List.mem_cons, List.not_mem_nil, or_false] at hj
              subst hj
              refine wpOp_mk rfl rfl (wp_app _ (.tmp 75) (.tmp 77) 22 rfl W.heap.size 3 i0 (.int .i64 0) 1 8 Try.underlying22 hi hz0 hz1 hz2 rfl (by decide) (.slice A1 p c1) p (xs.take p) (by simp [Act.eval, Act.put]) (h2.own.alloc (.cells #[.int .i64 v] 3)) (some ⟨W2.heap.size, 0, none⟩) 1 1 [.int .i64 v] (by simp [Act.eval, Act.put]) rfl (cells_bk (Bk.new W2 3 #[.int .i64 v])) (by simp [Value.oneCell']) (by unfold maxLen; omega) (by omega) hbz (p + 1) rfl _ rfl ?_)
              intro A2 c2 W4 h4
              have hO4 : Old W W4 := h4.old (hO2.alloc' (.cells #[.int .i64 v] 3)) (fun j hj => ((h2.own.alloc (.cells #[.int .i64 v] 3)).lt j hj).1)
              have hbz : W.heap.size ≤ W4.heap.size := hO4.size
              refine ⟨.inr fun _ => SS _ hO4, ?_⟩
              refine wpAnyZ_all (rs := [18]) (by kernel_rfl) (by simp) ?_
              intro j hj
              simp only [List.mem_cons, List.not_mem_nil, or_false] at hj
              subst hj
              refine wpOp_mk rfl rfl (wp_app _ (.tmp 78) (.tmp 84) 22 rfl W.heap.size 3 i0 (.int .i64 0) 1 8 Try.underlying22 hi hz0 hz1 hz2 rfl (by decide) (.slice A2 (p + 1) c2) (p + 1) (xs.take p ++ [.int .i64 v]) (by simp [Act.eval, Act.put]) h4.own (some ⟨ga, o, none⟩) (n - p) (cv - p) (xs.drop p) (by simp [Act.eval, Act.put]) (by rw [List.length_drop]; omega) (hrest.old hO4) (fun u hu => hone u (List.mem_of_mem_drop hu)) (by unfold maxLen; omega) (by omega) hbz (n + 1) (by omega) _ (List.append_assoc _ _ _) ?_)
              intro A3 c3 W5 h5
              have hO5 : Old W W5 := h5.old hO4 (fun j hj => (h4.own.lt j hj).1)
              have d5 := SS _ hO5
              have e5 := SF _ hO5
              have HOWN := hide h5.own
              refine ⟨.inr fun _ => SS _ hO5, ?_⟩
              refine wpAnyZ_pure 19 (.pointer (some ⟨g, 0, none⟩)) rfl (by kernel_rfl) (by kernel_rfl) (by kernel_rfl) (fun _ _ _ h => h) (Or.inl ⟨by rfl, fun w _ => by go_simp⟩) ?_
              refine wpAnyZ_pure 20 (.pointer (some ⟨g, 1, none⟩)) rfl (by kernel_rfl) (by kernel_rfl) (by kernel_rfl) (fun _ _ _ h => h) (Or.inl ⟨by rfl, fun w _ => by go_simp⟩) ?_
              refine wpAnyZ_all (rs := [21]) (by kernel_rfl) (by simp) ?_
              intro j hj
              simp only [List.mem_cons, List.not_mem_nil, or_false] at hj
              subst hj
              refine wpOp_mk rfl rfl ?_
              go_simp
              refine wpAnyZ_done (by kernel_rfl) ?_ _
              go_wp2_with fail
              go_meet
              case rel => exact ⟨W5, A3, c3, rfl, hO5, HOWN.out⟩
            · refine wpOp_run (w' := (W.drew.alloc (.cells #[] 3)).alloc (.cells #[.int .i64 v] 3)) (.slice (some ⟨(W.drew.alloc (.cells #[] 3)).heap.size, 0, none⟩) 1 1) rfl rfl (by go_simp) ⟨.inr fun _ => SS _ ((((Old.refl' W).drew').alloc' (.cells #[] 3)).alloc' (.cells #[.int .i64 v] 3)), ?_⟩
              refine wpAnyZ_all (rs := [8]) (by kernel_rfl) (by simp) ?_
              intro j hj
              simp only [List.mem_cons, List.not_mem_nil, or_false] at hj
              subst hj
              have hbz : W.heap.size ≤ ((W.drew.alloc (.cells #[] 3)).alloc (.cells #[.int .i64 v] 3)).heap.size := ((((Old.refl' W).drew').alloc' (.cells #[] 3)).alloc' (.cells #[.int .i64 v] 3)).size
              refine wpOp_mk rfl rfl (wp_app _ (.tmp 68) (.tmp 74) 22 rfl W.heap.size 3 i0 (.int .i64 0) 1 8 Try.underlying22 hi hz0 hz1 hz2 rfl (by decide) (.slice (some ⟨W.heap.size, 0, none⟩) 0 0) 0 [] (by simp [Act.eval, Act.put]) ((World.ownsRow_made W.drew #[] 0 (Nat.le_refl _) (by decide) rfl).alloc (.cells #[.int .i64 v] 3)) (some ⟨ga, 0, none⟩) p cv (xs.take p) (by simp [Act.eval, Act.put]) (by rw [List.length_take]; omega) ((hrow.take p).old ((((Old.refl' W).drew').alloc' (.cells #[] 3)).alloc' (.cells #[.int .i64 v] 3))) (fun u hu => hone u (List.mem_of_mem_take hu)) (by unfold maxLen; omega) (by omega) hbz p (Nat.zero_add _) _ (List.nil_append _) ?_)
              intro A1 c1 W2 h2
              have hO2 : Old W W2 := h2.old ((((Old.refl' W).drew').alloc' (.cells #[] 3)).alloc' (.cells #[.int .i64 v] 3)) (fun j hj => by simp [Value.ownBlock] at hj; omega)
              have hbz : W.heap.size ≤ W2.heap.size := hO2.size
              refine ⟨.inr fun _ => SS _ hO2, ?_⟩
              refine wpAnyZ_all (rs := [11]) (by kernel_rfl) (by simp) ?_
              intro j hj
              simp only [List.mem_cons, List.not_mem_nil, or_false] at hj
              subst hj
              refine wpOp_mk rfl rfl (wp_app _ (.tmp 75) (.tmp 77) 22 rfl W.heap.size 3 i0 (.int .i64 0) 1 8 Try.underlying22 hi hz0 hz1 hz2 rfl (by decide) (.slice A1 p c1) p (xs.take p) (by simp [Act.eval, Act.put]) h2.own (some ⟨(W.heap.size + 1), 0, none⟩) 1 1 [.int .i64 v] (by simp [Act.eval, Act.put]) rfl (h2.cells (A := some ⟨W.heap.size + 1, 0, none⟩) (cells_bk (bk_new1 W.drew (.cells #[] 3) 3 #[.int .i64 v])) (fun a ha => by cases ha; simp [Value.ownBlock])) (by simp [Value.oneCell']) (by unfold maxLen; omega) (by omega) hbz (p + 1) rfl _ rfl ?_)
              intro A2 c2 W4 h4
              have hO4 : Old W W4 := h4.old hO2 (fun j hj => (h2.own.lt j hj).1)
              have hbz : W.heap.size ≤ W4.heap.size := hO4.size
              refine ⟨.inr fun _ => SS _ hO4, ?_⟩
              refine wpAnyZ_all (rs := [18]) (by kernel_rfl) (by simp) ?_
              intro j hj
              simp only [List.mem_cons, List.not_mem_nil, or_false] at hj
              subst hj
              refine wpOp_mk rfl rfl (wp_app _ (.tmp 78) (.tmp 84) 22 rfl W.heap.size 3 i0 (.int .i64 0) 1 8 Try.underlying22 hi hz0 hz1 hz2 rfl (by decide) (.slice A2 (p + 1) c2) (p + 1) (xs.take p ++ [.int .i64 v]) (by simp [Act.eval, Act.put]) h4.own (some ⟨ga, o, none⟩) (n - p) (cv - p) (xs.drop p) (by simp [Act.eval, Act.put]) (by rw [List.length_drop]; omega) (hrest.old hO4) (fun u hu => hone u (List.mem_of_mem_drop hu)) (by unfold maxLen; omega) (by omega) hbz (n + 1) (by omega) _ (List.append_assoc _ _ _) ?_)
              intro A3 c3 W5 h5
              have hO5 : Old W W5 := h5.old hO4 (fun j hj => (h4.own.lt j hj).1)
              have d5 := SS _ hO5
              have e5 := SF _ hO5
              have HOWN := hide h5.own
              refine ⟨.inr fun _ => SS _ hO5, ?_⟩
              refine wpAnyZ_pure 19 (.pointer (some ⟨g, 0, none⟩)) rfl (by kernel_rfl) (by kernel_rfl) (by kernel_rfl) (fun _ _ _ h => h) (Or.inl ⟨by rfl, fun w _ => by go_simp⟩) ?_
              refine wpAnyZ_pure 20 (.pointer (some ⟨g, 1, none⟩)) rfl (by kernel_rfl) (by kernel_rfl) (by kernel_rfl) (fun _ _ _ h => h) (Or.inl ⟨by rfl, fun w _ => by go_simp⟩) ?_
              refine wpAnyZ_all (rs := [21]) (by kernel_rfl) (by simp) ?_
              intro j hj
              simp only [List.mem_cons, List.not_mem_nil, or_false] at hj
              subst hj
              refine wpOp_mk rfl rfl ?_
              go_simp
              refine wpAnyZ_done (by kernel_rfl) ?_ _
              go_wp2_with fail
              go_meet
              case rel => exact ⟨W5, A3, c3, rfl, hO5, HOWN.out⟩
          · refine wpOp_run (w' := W.drew.alloc (.cells #[.int .i64 v] 3)) (.slice (some ⟨W.drew.heap.size, 0, none⟩) 1 1) rfl rfl (by go_simp) ⟨.inr fun _ => SS _ (((Old.refl' W).drew').alloc' (.cells #[.int .i64 v] 3)), ?_⟩
            refine wpAnyZ_all (rs := [1]) (by kernel_rfl) (by simp) ?_
            intro j hj
            simp only [List.mem_cons, List.not_mem_nil, or_false] at hj
            subst hj
            refine wpOp_run (w' := (W.drew.alloc (.cells #[.int .i64 v] 3)).alloc (.cells #[] 3)) (.slice (some ⟨(W.drew.alloc (.cells #[.int .i64 v] 3)).heap.size, 0, none⟩) 0 0) rfl rfl (by go_simp) ⟨.inr fun _ => SS _ ((((Old.refl' W).drew').alloc' (.cells #[.int .i64 v] 3)).alloc' (.cells #[] 3)), ?_⟩
            refine wpAnyZ_all (rs := [8]) (by kernel_rfl) (by simp) ?_
            intro j hj
            simp only [List.mem_cons, List.not_mem_nil, or_false] at hj
            subst hj
            have hbz : W.heap.size ≤ ((W.drew.alloc (.cells #[.int .i64 v] 3)).alloc (.cells #[] 3)).heap.size := ((((Old.refl' W).drew').alloc' (.cells #[.int .i64 v] 3)).alloc' (.cells #[] 3)).size
            refine wpOp_mk rfl rfl (wp_app _ (.tmp 68) (.tmp 74) 22 rfl W.heap.size 3 i0 (.int .i64 0) 1 8 Try.underlying22 hi hz0 hz1 hz2 rfl (by decide) (.slice (some ⟨W.heap.size + 1, 0, none⟩) 0 0) 0 [] (by simp [Act.eval, Act.put]) (by have := World.ownsRow_made (W.drew.alloc (.cells #[.int .i64 v] 3)) (e := 3) (size := 1) (base := W.heap.size) #[] 0 (by simp) (by decide) rfl; rwa [World.size_alloc] at this) (some ⟨ga, 0, none⟩) p cv (xs.take p) (by simp [Act.eval, Act.put]) (by rw [List.length_take]; omega) ((hrow.take p).old ((((Old.refl' W).drew').alloc' (.cells #[.int .i64 v] 3)).alloc' (.cells #[] 3))) (fun u hu => hone u (List.mem_of_mem_take hu)) (by unfold maxLen; omega) (by omega) hbz p (Nat.zero_add _) _ (List.nil_append _) ?_)
            intro A1 c1 W2 h2
            have hO2 : Old W W2 := h2.old ((((Old.refl' W).drew').alloc' (.cells #[.int .i64 v] 3)).alloc' (.cells #[] 3)) (fun j hj => by simp [Value.ownBlock] at hj; omega)
            have hbz : W.heap.size ≤ W2.heap.size := hO2.size
            refine ⟨.inr fun _ => SS _ hO2, ?_⟩
            refine wpAnyZ_all (rs := [11]) (by kernel_rfl) (by simp) ?_
            intro j hj
            simp only [List.mem_cons, List.not_mem_nil, or_false] at hj
            subst hj
            refine wpOp_mk rfl rfl (wp_app _ (.tmp 75) (.tmp 77) 22 rfl W.heap.size 3 i0 (.int .i64 0) 1 8 Try.underlying22 hi hz0 hz1 hz2 rfl (by decide) (.slice A1 p c1) p (xs.take p) (by simp [Act.eval, Act.put]) h2.own (some ⟨W.heap.size, 0, none⟩) 1 1 [.int .i64 v] (by simp [Act.eval, Act.put]) rfl (h2.cells (A := some ⟨W.heap.size, 0, none⟩) ((cells_bk (Bk.new W.drew 3 #[.int .i64 v])).alloc (.cells #[] 3)) (fun a ha => by cases ha; simp [Value.ownBlock])) (by simp [Value.oneCell']) (by unfold maxLen; omega) (by omega) hbz (p + 1) rfl _ rfl ?_)
            intro A2 c2 W4 h4
            have hO4 : Old W W4 := h4.old hO2 (fun j hj => (h2.own.lt j hj).1)
            have hbz : W.heap.size ≤ W4.heap.size := hO4.size
            refine ⟨.inr fun _ => SS _ hO4, ?_⟩
            refine wpAnyZ_all (rs := [18]) (by kernel_rfl) (by simp) ?_
            intro j hj
            simp only [List.mem_cons, List.not_mem_nil, or_false] at hj
            subst hj
            refine wpOp_mk rfl rfl (wp_app _ (.tmp 78) (.tmp 84) 22 rfl W.heap.size 3 i0 (.int .i64 0) 1 8 Try.underlying22 hi hz0 hz1 hz2 rfl (by decide) (.slice A2 (p + 1) c2) (p + 1) (xs.take p ++ [.int .i64 v]) (by simp [Act.eval, Act.put]) h4.own (some ⟨ga, o, none⟩) (n - p) (cv - p) (xs.drop p) (by simp [Act.eval, Act.put]) (by rw [List.length_drop]; omega) (hrest.old hO4) (fun u hu => hone u (List.mem_of_mem_drop hu)) (by unfold maxLen; omega) (by omega) hbz (n + 1) (by omega) _ (List.append_assoc _ _ _) ?_)
            intro A3 c3 W5 h5
            have hO5 : Old W W5 := h5.old hO4 (fun j hj => (h4.own.lt j hj).1)
            have d5 := SS _ hO5
            have e5 := SF _ hO5
            have HOWN := hide h5.own
            refine ⟨.inr fun _ => SS _ hO5, ?_⟩
            refine wpAnyZ_pure 19 (.pointer (some ⟨g, 0, none⟩)) rfl (by kernel_rfl) (by kernel_rfl) (by kernel_rfl) (fun _ _ _ h => h) (Or.inl ⟨by rfl, fun w _ => by go_simp⟩) ?_
            refine wpAnyZ_pure 20 (.pointer (some ⟨g, 1, none⟩)) rfl (by kernel_rfl) (by kernel_rfl) (by kernel_rfl) (fun _ _ _ h => h) (Or.inl ⟨by rfl, fun w _ => by go_simp⟩) ?_
            refine wpAnyZ_all (rs := [21]) (by kernel_rfl) (by simp) ?_
            intro j hj
            simp only [List.mem_cons, List.not_mem_nil, or_false] at hj
            subst hj
            refine wpOp_mk rfl rfl ?_
            go_simp
            refine wpAnyZ_done (by kernel_rfl) ?_ _
            go_wp2_with fail
            go_meet
            case rel => exact ⟨W5, A3, c3, rfl, hO5, HOWN.out⟩
      case rest =>
        obtain ⟨W6, B3, d3, rfl, hO6, hown6⟩ := hcut
        have HF := hide (FIN.out W6 B3 d3 hO6 hown6)
        clear FIN
        go_wp2_with fail
        go_ret2
        exact ⟨rfl, A3, c3, B3, d3, by simpa only [List.map_append, List.map_take, List.map_drop, List.map_cons, List.map_nil, List.cons_append, List.nil_append] using HF.out⟩
end Go.Proofs.Ytidokbgdbakjkaa
