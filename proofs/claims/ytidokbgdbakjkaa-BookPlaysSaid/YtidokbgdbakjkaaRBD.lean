/- The document's table (casebookref4.B): Put of a present key, Del. -/
import Derived.Test.YtidokbgdbakjkaaRBP
namespace Go.Proofs.Ytidokbgdbakjkaa
open Go.RowKit

set_option maxRecDepth 100000 in
set_option maxHeartbeats 2000000 in
theorem RPut_old (base g p n ck cv : Nat) (A B : Option Addr) (S : Nat → Prop) (ks us : List Int) (key v : Int) (hp : plc ks key = p) (hl : n = ks.length) (hn : n ≤ 99998) (hm : key ∈ ks) (w : World) (hb : BookAt w base g S ks us) (h : TabAt w base g 0 (.slice A n ck) (.slice B n cv) ks (us.map (Value.int .i64))) :
    Calls Try.prog 17 #[.pointer (some ⟨g, 0, none⟩), .int .i64 key, .int .i64 v] w fun e w' => e = .returned (.tuple #[.int .i64 (us[p]?.getD 0), .bool true]) ∧
      TabAt w' base g 0 (.slice A n ck) (.slice B n cv) ks ((us.set p v).map (Value.int .i64)) ∧ Fr (Foot g (.slice A n ck) (.slice B n cv)) w w' := by
  have cA := hide (Rat base g p S ks us key hp (by omega) w hb)
  have hri := h.rise
  obtain ⟨hi, hk⟩ := plc_lt hri hm
  rw [hp] at hi hk
  have hul : us.length = n := by have := h.vo.1; rw [List.length_map] at this; omega
  have ho := h.ko
  have hv := h.vo
  rw [← hl] at ho hv hi
  have hK : IntsAt w A ks := CellsAt.of_own ho
  obtain ⟨b0, o0, rfl, hb0, g0⟩ := hK.at_ (k := p) (by omega)
  rw [hk] at g0
  cases B with
  | none =>
    have h1 := hv.2
    simp at h1
    omega
  | some a =>
  obtain ⟨b, q, f⟩ := a
  obtain ⟨rfl, rfl⟩ : q = 0 ∧ f = none := by
    obtain ⟨A2, c2, e2, _, hz⟩ := own_form hv
    cases e2
    have h3 := (hz _ rfl).2.2
    cases h3
    exact ⟨rfl, rfl⟩
  have hci := own_cells hv p _ (getMap (by rw [hul]; exact hi))
  have hfi := own_frozen hv p
  have hF := set_fin (i := p) (.int .i64 v) hl (by simp [Value.oneCell']) h
  rw [← List.map_set] at hF
  have FIN := hide hF
  have k0 := h.k0
  have v0 := h.v0
  have hi1 : (p : Int) < n := by omega
  have hi0 : (0 : Int) ≤ p := by omega
  obtain ⟨y, hy⟩ : ∃ y, us[p]?.getD 0 = y := ⟨_, rfl⟩
  rw [hy] at hci ⊢
  clear hp hl hk hF hri hm hy hb h ho hv hK
  go_enter Try.func17, Try.ntmps17
  go_wp2_with (go_at_call 30; refine cA.out.mono ?_; rintro e w1 ⟨rfl, rfl⟩)
  go_ret2
  exact ⟨rfl, FIN.out⟩

theorem RPut (base g : Nat) (S : Nat → Prop) (ks us : List Int) (key v : Int) (hn : ks.length ≤ 99998) (w : World) (h : BookAt w base g S ks us) :
    Calls Try.prog 17 #[.pointer (some ⟨g, 0, none⟩), .int .i64 key, .int .i64 v] w fun e w' => e = .returned (.tuple #[.int .i64 (getV ks us key), .bool (decide (key ∈ ks))]) ∧
      (∃ S', BookAt w' base g S' (putK ks key) (putV ks us key v) ∧ ∀ k, S' k → S k ∨ w.heap.size ≤ k) ∧ Fr S w w' := by
  have hri := h.rise
  have hself := h.self
  obtain ⟨A, ck, B, cv, ht, hS⟩ := id h
  by_cases hm : key ∈ ks
  · refine (RPut_old base g _ ks.length ck cv A B S ks us key v rfl rfl hn hm w h ht).mono ?_
    rintro e w' ⟨rfl, h1, h2⟩
    refine ⟨by simp [getV, hm], ⟨_, ⟨A, ck, B, cv, ?_, rfl⟩, ?_⟩, by rw [hS]; exact h2⟩
    · simp only [putK, putV, hm, if_true]
      exact h1
    · intro k hk
      simp only [putK, hm, if_true] at hk
      rw [hS]
      exact .inl hk
  · refine (RPut_new base g _ ks.length ck cv A B S ks us key v rfl rfl hn hm w h ht).mono ?_
    rintro e w' ⟨rfl, A', c', B', d', h1, h2, h3⟩
    have hlen : (putK ks key).length = ks.length + 1 := by rw [len_putK hri, if_neg hm]
    refine ⟨by simp [getV, hm], ⟨_, ⟨A', c', B', d', ?_, rfl⟩, ?_⟩, h2.mono fun k _ e => by rw [e]; exact hself⟩
    · rw [hlen]
      simp only [putK, putV, hm, if_false]
      exact h1
    · rw [hlen]
      intro k hk
      rcases h3 k hk with e | e
      · rw [e]; exact .inl hself
      · exact .inr e

set_option maxRecDepth 100000 in
set_option maxHeartbeats 1000000 in
theorem RDel_no (base g p n ck cv : Nat) (A B : Option Addr) (S : Nat → Prop) (ks us : List Int) (key : Int) (hp : plc ks key = p) (hN : ks.length = n) (hn : n ≤ 99999) (hm : key ∉ ks) (w : World) (hb : BookAt w base g S ks us) (h : TabAt w base g 0 (.slice A n ck) (.slice B n cv) ks (us.map (Value.int .i64))) :
    Calls Try.prog 18 #[.pointer (some ⟨g, 0, none⟩), .int .i64 key] w fun e w' => e = .returned (.bool false) ∧ w = w' := by
  have cA := hide (Rat base g p S ks us key hp (by omega) w hb)
  have hri := h.rise
  have hpl := plc_place hri key
  have hfo := found_iff hri hpl
  rw [hp, hN, decide_eq_false hm] at hfo
  have hple := hpl.1
  rw [hp, hN] at hple
  have k0 := h.k0
  have hko := h.ko
  rw [hN] at hko
  have hK : IntsAt w A ks := CellsAt.of_own hko
  by_cases hpn : p < n
  · obtain ⟨b0, o0, rfl, hb0, g0⟩ := hK.at_ (k := p) (by omega)
    obtain ⟨x, hX⟩ : ∃ x, ks[p]?.getD 0 = x := ⟨_, rfl⟩
    rw [hX] at g0 hfo
    have hne : (x == key) = false := by
      rw [beq_eq_false_iff_ne]
      intro e2
      simp [hpn, e2] at hfo
    have hne' : (x != key) = true := by simpa using hne
    clear hX hfo hp hpl hri hm hN hb h hko hK
    go_enter Try.func18, Try.ntmps18
    go_wp2_with (go_at_call 30; refine cA.out.mono ?_; rintro e w1 ⟨rfl, rfl⟩)
    go_ret
    exact ⟨rfl, rfl⟩
  · clear hfo hp hpl hri hm hN hb h hko hK
    go_enter Try.func18, Try.ntmps18
    go_wp2_with (go_at_call 30; refine cA.out.mono ?_; rintro e w1 ⟨rfl, rfl⟩)
    go_ret
    exact ⟨rfl, rfl⟩

set_option maxRecDepth 100000 in
set_option maxHeartbeats 8000000 in
theorem RDel_yes (base g p n ck cv ga gb : Nat) (S : Nat → Prop) (ks us : List Int) (key : Int) (hp : plc ks key = p) (hN : ks.length = n) (hn : n ≤ 99999) (hm : key ∈ ks) (w : World) (hb : BookAt w base g S ks us) (h : TabAt w base g 0 (.slice (some ⟨ga, 0, none⟩) n ck) (.slice (some ⟨gb, 0, none⟩) n cv) ks (us.map (Value.int .i64))) :
    Calls Try.prog 18 #[.pointer (some ⟨g, 0, none⟩), .int .i64 key] w fun e w' => e = .returned (.bool true) ∧
      ∃ A' c' B' d', TabAt w' base g 0 (.slice A' (n - 1) c') (.slice B' (n - 1) d') (ks.take p ++ ks.drop (p + 1)) ((us.take p ++ us.drop (p + 1)).map (Value.int .i64)) ∧ Fr (fun k => k = g) w w' ∧ ∀ k, Foot g (.slice A' (n - 1) c') (.slice B' (n - 1) d') k → k = g ∨ w.heap.size ≤ k := by
  obtain ⟨i0, hi, hz0, hz1, hz2⟩ := info_parts info_int'
  have cA := hide (Rat base g p S ks us key hp (by omega) w hb)
  have hri := h.rise
  obtain ⟨hpn, hk⟩ := plc_lt hri hm
  have hrise : (ks.take p ++ ks.drop (p + 1)).Pairwise (· < ·) := by
    have := rise_delR hri key
    rwa [delR, if_pos hm, hp] at this
  rw [hp] at hpn hk
  rw [hN] at hpn
  have hul : us.length = n := by have := h.vo.1; rw [List.length_map] at this; omega
  have k0 := h.k0
  have v0 := h.v0
  have fk := h.fk
  have fv := h.fv
  have hvg := h.vg
  have hgl := h.lt
  have hlow := h.low
  have hko := h.ko
  have hvo := h.vo
  rw [hN] at hko hvo
  have g0 := own_cells hko p (.int .i64 key) (by rw [getMap (by omega), hk])
  have hne : (key != key) = false := by simp
  have HRISE := hide hrise
  have HN := hide hN
  have HUL := hide hul
  clear hrise hN hul hri hp hb h hm hk
  go_enter Try.func18, Try.ntmps18
  go_wp2_with (go_at_call 30; refine cA.out.mono ?_; rintro e w1 ⟨rfl, rfl⟩)
  clear cA g0
  go_cut [] from 6 (fun w' => ∃ W5 A3 c3, w' = W5.setCell ⟨g, 0, none⟩ (.slice A3 (n - 1) c3) ∧ Old w W5 ∧ W5.ownsRow w.heap.size 3 1 (.slice A3 (n - 1) c3) (n - 1) ((ks.map (Value.int .i64)).take p ++ (ks.map (Value.int .i64)).drop (p + 1)))
  case first =>
    clear hvo v0 fv HRISE HUL hvg
    obtain ⟨W, rfl⟩ : ∃ W : World, W = w := ⟨_, rfl⟩
    have hone : ∀ u ∈ ks.map (Value.int .i64), u.oneCell' = true := by simp [Value.oneCell']
    have hxl : (ks.map (Value.int .i64)).length = n := by rw [List.length_map]; exact HN.out
    generalize ks.map (Value.int .i64) = xs at *
    have hown := hko
    have hS0 := k0
    have hF0 := fk
    clear hko k0 fk HN
    obtain ⟨o, hAD, hrest⟩ := cut_rest hown (p := p + 1) (by omega)
    have hrow : CellsAt W (some ⟨ga, 0, none⟩) xs := CellsAt.of_own hown
    have hck := (own_size hown).1
    have hcm := (own_size hown).2
    unfold maxLen at hcm
    have hck' : ¬ ck < p := by omega
    have i1 : (0 : Int) ≤ (p : Int) + 1 := by omega
    have i2 : (p : Int) + 1 ≤ (n : Int) := by omega
    have i3 : (0 : Int) ≤ (p : Int) := by omega
    have hz : IntKind.i64.wrap ((p : Int) + 1) = (p : Int) + 1 := IntWalk.i64_in _ (by omega)
    have SS : ∀ U, Old W U → U.cell? ⟨g, 0, none⟩ = some (.slice (some ⟨ga, 0, none⟩) n ck) := fun U hU => (hU.cell (p := ⟨g, 0, none⟩) hgl).trans hS0
    have SF : ∀ U, Old W U → U.frozen? ⟨g, 0, none⟩ = false := fun U hU => (hU.frozen (p := ⟨g, 0, none⟩) hgl).trans hF0
    refine wp_region_Z (S := fun w' => w'.cell? ⟨g, 0, none⟩ = some (.slice (some ⟨ga, 0, none⟩) n ck)) (Z := [19].contains) (by kernel_rfl) ?_
    refine wpAnyZ_pure 0 (.pointer (some ⟨g, 0, none⟩)) rfl (by kernel_rfl) (by kernel_rfl) (by kernel_rfl) (fun _ _ _ h => h) (Or.inl ⟨by rfl, fun w _ => by go_simp⟩) ?_
    refine wpAnyZ_pure 2 (.pointer (some ⟨g, 0, none⟩)) rfl (by kernel_rfl) (by kernel_rfl) (by kernel_rfl) (fun _ _ _ h => h) (Or.inl ⟨by rfl, fun w _ => by go_simp⟩) ?_
    refine wpAnyZ_pure 3 (.pointer (some ⟨g, 0, none⟩)) rfl (by kernel_rfl) (by kernel_rfl) (by kernel_rfl) (fun _ _ _ h => h) (Or.inl ⟨by rfl, fun w _ => by go_simp⟩) ?_
    refine wpAnyZ_pure 4 (.pointer (some ⟨g, 0, none⟩)) rfl (by kernel_rfl) (by kernel_rfl) (by kernel_rfl) (fun _ _ _ h => h) (Or.inl ⟨by rfl, fun w _ => by go_simp⟩) ?_
    refine wpAnyZ_take 5 (.slice (some ⟨ga, 0, none⟩) n ck) rfl (by kernel_rfl) (by kernel_rfl) (by kernel_rfl) (by kernel_rfl) (fun _ _ _ h => h) (Or.inl ⟨by rfl, fun w' hS => by go_simp⟩) (by exact hS0) ?_
    refine wpAnyZ_pure 6 (.int .i64 p) rfl (by kernel_rfl) (by kernel_rfl) (by kernel_rfl) (fun _ _ _ h => h) (Or.inl ⟨by rfl, fun w _ => by go_simp⟩) ?_
    refine wpAnyZ_pure 7 (.slice (some ⟨ga, 0, none⟩) p ck) rfl (by kernel_rfl) (by kernel_rfl) (by kernel_rfl) (fun _ _ _ h => h) (Or.inl ⟨by rfl, fun w _ => by go_simp⟩) ?_
    refine wpAnyZ_pure 9 (.pointer (some ⟨g, 0, none⟩)) rfl (by kernel_rfl) (by kernel_rfl) (by kernel_rfl) (fun _ _ _ h => h) (Or.inl ⟨by rfl, fun w _ => by go_simp⟩) ?_
    refine wpAnyZ_pure 10 (.pointer (some ⟨g, 0, none⟩)) rfl (by kernel_rfl) (by kernel_rfl) (by kernel_rfl) (fun _ _ _ h => h) (Or.inl ⟨by rfl, fun w _ => by go_simp⟩) ?_
    refine wpAnyZ_pure 11 (.pointer (some ⟨g, 0, none⟩)) rfl (by kernel_rfl) (by kernel_rfl) (by kernel_rfl) (fun _ _ _ h => h) (Or.inl ⟨by rfl, fun w _ => by go_simp⟩) ?_
    refine wpAnyZ_take 12 (.slice (some ⟨ga, 0, none⟩) n ck) rfl (by kernel_rfl) (by kernel_rfl) (by kernel_rfl) (by kernel_rfl) (fun _ _ _ h => h) (Or.inl ⟨by rfl, fun w' hS => by go_simp⟩) (by exact hS0) ?_
    refine wpAnyZ_pure 13 (.int .i64 p) rfl (by kernel_rfl) (by kernel_rfl) (by kernel_rfl) (fun _ _ _ h => h) (Or.inl ⟨by rfl, fun w _ => by go_simp⟩) ?_
    refine wpAnyZ_pure 14 (.int .i64 ((p : Int) + 1)) rfl (by kernel_rfl) (by kernel_rfl) (by kernel_rfl) (fun _ _ _ h => h) (Or.inl ⟨by rfl, fun w _ => by go_simp⟩) ?_
    refine wpAnyZ_pure 15 (.slice (some ⟨ga, o, none⟩) (n - (p + 1)) (ck - (p + 1))) rfl (by kernel_rfl) (by kernel_rfl) (by kernel_rfl) (fun _ _ _ h => h) (Or.inl ⟨by rfl, fun w _ => by go_simp⟩) ?_
    refine wpAnyZ_all (rs := [1]) (by kernel_rfl) (by simp) ?_
    intro j hj
    simp only [List.mem_cons, List.not_mem_nil, or_false] at hj
    subst hj
    refine wpOp_run (w' := W.drew.alloc (.cells #[] 3)) (.slice (some ⟨W.drew.heap.size, 0, none⟩) 0 0) rfl rfl (by go_simp) ⟨.inr fun _ => SS _ (((Old.refl' W).drew').alloc' (.cells #[] 3)), ?_⟩
    refine wpAnyZ_all (rs := [8]) (by kernel_rfl) (by simp) ?_
    intro j hj
    simp only [List.mem_cons, List.not_mem_nil, or_false] at hj
    subst hj
    have hbz : W.heap.size ≤ (W.drew.alloc (.cells #[] 3)).heap.size := (((Old.refl' W).drew').alloc' (.cells #[] 3)).size
    refine wpOp_mk rfl rfl (wp_app _ (.tmp 28) (.tmp 34) 22 rfl W.heap.size 3 i0 (.int .i64 0) 1 8 Try.underlying22 hi hz0 hz1 hz2 rfl (by decide) (.slice (some ⟨W.heap.size, 0, none⟩) 0 0) 0 [] (by simp [Act.eval, Act.put]) (World.ownsRow_made W.drew #[] 0 (Nat.le_refl _) (by decide) rfl) (some ⟨ga, 0, none⟩) p ck (xs.take p) (by simp [Act.eval, Act.put]) (by rw [List.length_take]; omega) ((hrow.take p).old (((Old.refl' W).drew').alloc' (.cells #[] 3))) (fun u hu => hone u (List.mem_of_mem_take hu)) (by unfold maxLen; omega) (by omega) hbz p (Nat.zero_add _) _ (List.nil_append _) ?_)
    intro A1 c1 W2 h2
    have hO2 : Old W W2 := h2.old (((Old.refl' W).drew').alloc' (.cells #[] 3)) (fun j hj => by simp [Value.ownBlock] at hj; omega)
    have hbz : W.heap.size ≤ W2.heap.size := hO2.size
    refine ⟨.inr fun _ => SS _ hO2, ?_⟩
    refine wpAnyZ_all (rs := [16]) (by kernel_rfl) (by simp) ?_
    intro j hj
    simp only [List.mem_cons, List.not_mem_nil, or_false] at hj
    subst hj
    refine wpOp_mk rfl rfl (wp_app _ (.tmp 35) (.tmp 42) 22 rfl W.heap.size 3 i0 (.int .i64 0) 1 8 Try.underlying22 hi hz0 hz1 hz2 rfl (by decide) (.slice A1 p c1) p (xs.take p) (by simp [Act.eval, Act.put]) h2.own (some ⟨ga, o, none⟩) (n - (p + 1)) (ck - (p + 1)) (xs.drop (p + 1)) (by simp [Act.eval, Act.put]) (by rw [List.length_drop]; omega) (hrest.old hO2) (fun u hu => hone u (List.mem_of_mem_drop hu)) (by unfold maxLen; omega) (by omega) hbz (n - 1) (by omega) _ rfl ?_)
    intro A3 c3 W5 h5
    have hO5 : Old W W5 := h5.old hO2 (fun j hj => (h2.own.lt j hj).1)
    have d5 := SS _ hO5
    have e5 := SF _ hO5
    have HOWN := hide h5.own
    refine ⟨.inr fun _ => SS _ hO5, ?_⟩
    refine wpAnyZ_pure 17 (.pointer (some ⟨g, 0, none⟩)) rfl (by kernel_rfl) (by kernel_rfl) (by kernel_rfl) (fun _ _ _ h => h) (Or.inl ⟨by rfl, fun w _ => by go_simp⟩) ?_
    refine wpAnyZ_pure 18 (.pointer (some ⟨g, 0, none⟩)) rfl (by kernel_rfl) (by kernel_rfl) (by kernel_rfl) (fun _ _ _ h => h) (Or.inl ⟨by rfl, fun w _ => by go_simp⟩) ?_
    refine wpAnyZ_all (rs := [19]) (by kernel_rfl) (by simp) ?_
    intro j hj
    simp only [List.mem_cons, List.not_mem_nil, or_false] at hj
    subst hj
    refine wpOp_mk rfl rfl ?_
    go_simp
    refine wpAnyZ_done (by kernel_rfl) ?_ _
    go_wp2_with fail
    go_meet
    case rel => exact ⟨W5, A3, c3, rfl, hO5, HOWN.out⟩
  case rest =>
    obtain ⟨W5, A3, c3, rfl, hO5, hown5⟩ := hcut
    have hsU : (W5.setCell ⟨g, 0, none⟩ (.slice A3 (n - 1) c3)).heap.size = W5.heap.size := by simp [World.setCell]
    have hgU : g < (W5.setCell ⟨g, 0, none⟩ (.slice A3 (n - 1) c3)).heap.size := by have := hO5.size; omega
    have a1 : (W5.setCell ⟨g, 0, none⟩ (.slice A3 (n - 1) c3)).cell? ⟨g, 1, none⟩ = some (.slice (some ⟨gb, 0, none⟩) n cv) := by simp [go_sem, (hO5.cell (p := ⟨g, 1, none⟩) hgl).trans v0]
    have a2 : (W5.setCell ⟨g, 0, none⟩ (.slice A3 (n - 1) c3)).frozen? ⟨g, 1, none⟩ = false := by rw [World.frozen?_setCell, hO5.frozen (p := ⟨g, 1, none⟩) hgl, fv]
    have a3 := own_set (p := ⟨g, 0, none⟩) (own_old hvo hO5) hvg (.slice A3 (n - 1) c3)
    have FIN := hide (fun (W6 : World) (B3 : Option Addr) (d3 : Nat) (hO6 : Old (W5.setCell ⟨g, 0, none⟩ (.slice A3 (n - 1) c3)) W6) (hown6 : W6.ownsRow (W5.setCell ⟨g, 0, none⟩ (.slice A3 (n - 1) c3)).heap.size 3 1 (.slice B3 (n - 1) d3) (n - 1) ((us.map (Value.int .i64)).take p ++ (us.map (Value.int .i64)).drop (p + 1))) =>
      rfin (ks' := ks.take p ++ ks.drop (p + 1)) hgl hlow k0 v0 fk fv hO5 (by simpa only [List.map_append, List.map_take, List.map_drop, List.map_cons, List.map_nil] using hown5) hO6 hown6 (by simp only [List.length_append, List.length_take, List.length_drop, HN.out]; omega) HRISE.out
        (by intro u hu; simp only [List.mem_append] at hu; rcases hu with hu | hu
            · have := List.mem_of_mem_take hu; simp only [List.mem_map] at this; obtain ⟨_, _, rfl⟩ := this; rfl
            · have := List.mem_of_mem_drop hu; simp only [List.mem_map] at this; obtain ⟨_, _, rfl⟩ := this; rfl))
    go_wp2_with fail
    obtain ⟨U, hU⟩ : ∃ U, W5.setCell ⟨g, 0, none⟩ (.slice A3 (n - 1) c3) = U := ⟨_, rfl⟩
    rw [hU] at hgU a1 a2 a3 FIN ⊢
    clear hU hown5 hO5 hko k0 v0 fk fv hvo hgl hsU hvg HRISE
    go_cut [] from 6 (fun w' => ∃ W5 A3 c3, w' = W5.setCell ⟨g, 1, none⟩ (.slice A3 (n - 1) c3) ∧ Old U W5 ∧ W5.ownsRow U.heap.size 3 1 (.slice A3 (n - 1) c3) (n - 1) ((us.map (Value.int .i64)).take p ++ (us.map (Value.int .i64)).drop (p + 1)))
    case first =>
      clear FIN HN
      obtain ⟨W, rfl⟩ : ∃ W : World, W = U := ⟨_, rfl⟩
      obtain ⟨ga, rfl⟩ : ∃ ga : Nat, ga = gb := ⟨_, rfl⟩
      obtain ⟨ck, rfl⟩ : ∃ ck : Nat, ck = cv := ⟨_, rfl⟩
      have hone : ∀ u ∈ us.map (Value.int .i64), u.oneCell' = true := by simp [Value.oneCell']
      have hxl : (us.map (Value.int .i64)).length = n := by rw [List.length_map]; exact HUL.out
      have hgl := hgU
      have hown := a3
      have hS0 := a1
      have hF0 := a2
      clear hgU a1 a2 a3 HUL
      generalize us.map (Value.int .i64) = xs at *
      obtain ⟨o, hAD, hrest⟩ := cut_rest hown (p := p + 1) (by omega)
      have hrow : CellsAt W (some ⟨ga, 0, none⟩) xs := CellsAt.of_own hown
      have hck := (own_size hown).1
      have hcm := (own_size hown).2
      unfold maxLen at hcm
      have hck' : ¬ ck < p := by omega
      have i1 : (0 : Int) ≤ (p : Int) + 1 := by omega
      have i2 : (p : Int) + 1 ≤ (n : Int) := by omega
      have i3 : (0 : Int) ≤ (p : Int) := by omega
      have hz : IntKind.i64.wrap ((p : Int) + 1) = (p : Int) + 1 := IntWalk.i64_in _ (by omega)
      have SS : ∀ U, Old W U → U.cell? ⟨g, 1, none⟩ = some (.slice (some ⟨ga, 0, none⟩) n ck) := fun U hU => (hU.cell (p := ⟨g, 1, none⟩) hgl).trans hS0
      have SF : ∀ U, Old W U → U.frozen? ⟨g, 1, none⟩ = false := fun U hU => (hU.frozen (p := ⟨g, 1, none⟩) hgl).trans hF0
      refine wp_region_Z (S := fun w' => w'.cell? ⟨g, 1, none⟩ = some (.slice (some ⟨ga, 0, none⟩) n ck)) (Z := [19].contains) (by kernel_rfl) ?_
      refine wpAnyZ_pure 0 (.pointer (some ⟨g, 0, none⟩)) rfl (by kernel_rfl) (by kernel_rfl) (by kernel_rfl) (fun _ _ _ h => h) (Or.inl ⟨by rfl, fun w _ => by go_simp⟩) ?_
      refine wpAnyZ_pure 2 (.pointer (some ⟨g, 0, none⟩)) rfl (by kernel_rfl) (by kernel_rfl) (by kernel_rfl) (fun _ _ _ h => h) (Or.inl ⟨by rfl, fun w _ => by go_simp⟩) ?_
      refine wpAnyZ_pure 3 (.pointer (some ⟨g, 0, none⟩)) rfl (by kernel_rfl) (by kernel_rfl) (by kernel_rfl) (fun _ _ _ h => h) (Or.inl ⟨by rfl, fun w _ => by go_simp⟩) ?_
      refine wpAnyZ_pure 4 (.pointer (some ⟨g, 1, none⟩)) rfl (by kernel_rfl) (by kernel_rfl) (by kernel_rfl) (fun _ _ _ h => h) (Or.inl ⟨by rfl, fun w _ => by go_simp⟩) ?_
      refine wpAnyZ_take 5 (.slice (some ⟨ga, 0, none⟩) n ck) rfl (by kernel_rfl) (by kernel_rfl) (by kernel_rfl) (by kernel_rfl) (fun _ _ _ h => h) (Or.inl ⟨by rfl, fun w' hS => by go_simp⟩) (by exact hS0) ?_
      refine wpAnyZ_pure 6 (.int .i64 p) rfl (by kernel_rfl) (by kernel_rfl) (by kernel_rfl) (fun _ _ _ h => h) (Or.inl ⟨by rfl, fun w _ => by go_simp⟩) ?_
      refine wpAnyZ_pure 7 (.slice (some ⟨ga, 0, none⟩) p ck) rfl (by kernel_rfl) (by kernel_rfl) (by kernel_rfl) (fun _ _ _ h => h) (Or.inl ⟨by rfl, fun w _ => by go_simp⟩) ?_
      refine wpAnyZ_pure 9 (.pointer (some ⟨g, 0, none⟩)) rfl (by kernel_rfl) (by kernel_rfl) (by kernel_rfl) (fun _ _ _ h => h) (Or.inl ⟨by rfl, fun w _ => by go_simp⟩) ?_
      refine wpAnyZ_pure 10 (.pointer (some ⟨g, 0, none⟩)) rfl (by kernel_rfl) (by kernel_rfl) (by kernel_rfl) (fun _ _ _ h => h) (Or.inl ⟨by rfl, fun w _ => by go_simp⟩) ?_
      refine wpAnyZ_pure 11 (.pointer (some ⟨g, 1, none⟩)) rfl (by kernel_rfl) (by kernel_rfl) (by kernel_rfl) (fun _ _ _ h => h) (Or.inl ⟨by rfl, fun w _ => by go_simp⟩) ?_
      refine wpAnyZ_take 12 (.slice (some ⟨ga, 0, none⟩) n ck) rfl (by kernel_rfl) (by kernel_rfl) (by kernel_rfl) (by kernel_rfl) (fun _ _ _ h => h) (Or.inl ⟨by rfl, fun w' hS => by go_simp⟩) (by exact hS0) ?_
      refine wpAnyZ_pure 13 (.int .i64 p) rfl (by kernel_rfl) (by kernel_rfl) (by kernel_rfl) (fun _ _ _ h => h) (Or.inl ⟨by rfl, fun w _ => by go_simp⟩) ?_
      refine wpAnyZ_pure 14 (.int .i64 ((p : Int) + 1)) rfl (by kernel_rfl) (by kernel_rfl) (by kernel_rfl) (fun _ _ _ h => h) (Or.inl ⟨by rfl, fun w _ => by go_simp⟩) ?_
      refine wpAnyZ_pure 15 (.slice (some ⟨ga, o, none⟩) (n - (p + 1)) (ck - (p + 1))) rfl (by kernel_rfl) (by kernel_rfl) (by kernel_rfl) (fun _ _ _ h => h) (Or.inl ⟨by rfl, fun w _ => by go_simp⟩) ?_
      refine wpAnyZ_all (rs := [1]) (by kernel_rfl) (by simp) ?_
      intro j hj
      simp only [List.mem_cons, List.not_mem_nil, or_false] at hj
      subst hj
      refine wpOp_run (w' := W.drew.alloc (.cells #[] 3)) (.slice (some ⟨W.drew.heap.size, 0, none⟩) 0 0) rfl rfl (by go_simp) ⟨.inr fun _ => SS _ (((Old.refl' W).drew').alloc' (.cells #[] 3)), ?_⟩
      refine wpAnyZ_all (rs := [8]) (by kernel_rfl) (by simp) ?_
      intro j hj
      simp only [List.mem_cons, List.not_mem_nil, or_false] at hj
      subst hj
      have hbz : W.heap.size ≤ (W.drew.alloc (.cells #[] 3)).heap.size := (((Old.refl' W).drew').alloc' (.cells #[] 3)).size
      refine wpOp_mk rfl rfl (wp_app _ (.tmp 47) (.tmp 53) 22 rfl W.heap.size 3 i0 (.int .i64 0) 1 8 Try.underlying22 hi hz0 hz1 hz2 rfl (by decide) (.slice (some ⟨W.heap.size, 0, none⟩) 0 0) 0 [] (by simp [Act.eval, Act.put]) (World.ownsRow_made W.drew #[] 0 (Nat.le_refl _) (by decide) rfl) (some ⟨ga, 0, none⟩) p ck (xs.take p) (by simp [Act.eval, Act.put]) (by rw [List.length_take]; omega) ((hrow.take p).old (((Old.refl' W).drew').alloc' (.cells #[] 3))) (fun u hu => hone u (List.mem_of_mem_take hu)) (by unfold maxLen; omega) (by omega) hbz p (Nat.zero_add _) _ (List.nil_append _) ?_)
      intro A1 c1 W2 h2
      have hO2 : Old W W2 := h2.old (((Old.refl' W).drew').alloc' (.cells #[] 3)) (fun j hj => by simp [Value.ownBlock] at hj; omega)
      have hbz : W.heap.size ≤ W2.heap.size := hO2.size
      refine ⟨.inr fun _ => SS _ hO2, ?_⟩
      refine wpAnyZ_all (rs := [16]) (by kernel_rfl) (by simp) ?_
      intro j hj
      simp only [List.mem_cons, List.not_mem_nil, or_false] at hj
      subst hj
      refine wpOp_mk rfl rfl (wp_app _ (.tmp 54) (.tmp 61) 22 rfl W.heap.size 3 i0 (.int .i64 0) 1 8 Try.underlying22 hi hz0 hz1 hz2 rfl (by decide) (.slice A1 p c1) p (xs.take p) (by simp [Act.eval, Act.put]) h2.own (some ⟨ga, o, none⟩) (n - (p + 1)) (ck - (p + 1)) (xs.drop (p + 1)) (by simp [Act.eval, Act.put]) (by rw [List.length_drop]; omega) (hrest.old hO2) (fun u hu => hone u (List.mem_of_mem_drop hu)) (by unfold maxLen; omega) (by omega) hbz (n - 1) (by omega) _ rfl ?_)
      intro A3 c3 W5 h5
      have hO5 : Old W W5 := h5.old hO2 (fun j hj => (h2.own.lt j hj).1)
      have d5 := SS _ hO5
      have e5 := SF _ hO5
      have HOWN := hide h5.own
      refine ⟨.inr fun _ => SS _ hO5, ?_⟩
      refine wpAnyZ_pure 17 (.pointer (some ⟨g, 0, none⟩)) rfl (by kernel_rfl) (by kernel_rfl) (by kernel_rfl) (fun _ _ _ h => h) (Or.inl ⟨by rfl, fun w _ => by go_simp⟩) ?_
      refine wpAnyZ_pure 18 (.pointer (some ⟨g, 1, none⟩)) rfl (by kernel_rfl) (by kernel_rfl) (by kernel_rfl) (fun _ _ _ h => h) (Or.inl ⟨by rfl, fun w _ => by go_simp⟩) ?_
      refine wpAnyZ_all (rs := [19]) (by kernel_rfl) (by simp) ?_
      intro j hj
      simp only [List.mem_cons, List.not_mem_nil, or_false] at hj
      subst hj
      refine wpOp_mk rfl rfl ?_
      go_simp
      refine wpAnyZ_done (by kernel_rfl) ?_ _
      go_wp2_with fail
      go_meet
      case rel => exact ⟨W5, A3, c3, rfl, hO5, HOWN.out⟩
    case rest =>
      obtain ⟨W6, B3, d3, rfl, hO6, hown6⟩ := hcut
      have HF := hide (FIN.out W6 B3 d3 hO6 hown6)
      clear FIN
      go_wp2_with fail
      go_ret
      exact ⟨rfl, A3, c3, B3, d3, by simpa only [List.map_append, List.map_take, List.map_drop] using HF.out⟩

theorem RDel (base g : Nat) (S : Nat → Prop) (ks us : List Int) (key : Int) (hn : ks.length ≤ 99999) (w : World) (h : BookAt w base g S ks us) :
    Calls Try.prog 18 #[.pointer (some ⟨g, 0, none⟩), .int .i64 key] w fun e w' => e = .returned (.bool (decide (key ∈ ks))) ∧
      (∃ S', BookAt w' base g S' (delR ks ks key) (delR ks us key) ∧ ∀ k, S' k → S k ∨ w.heap.size ≤ k) ∧ Fr S w w' := by
  have hself := h.self
  have hri := h.rise
  obtain ⟨A, ck, B, cv, ht, hS⟩ := id h
  by_cases hm : key ∈ ks
  · obtain ⟨h1, h2⟩ := plc_lt hri hm
    obtain ⟨ga, ca, ea, _, _⟩ := ht.ko.form (by omega)
    injection ea with ea1 _ ea3
    subst ea1 ea3
    obtain ⟨gb, cb, eb, _, _⟩ := ht.vo.form (by omega)
    injection eb with eb1 _ eb3
    subst eb1 eb3
    refine (RDel_yes base g _ ks.length ck cv ga gb S ks us key rfl rfl hn hm w h ht).mono ?_
    rintro e w' ⟨rfl, A', c', B', d', h1', h2', h3'⟩
    have hlen : (delR ks ks key).length = ks.length - 1 := by
      simp only [delR, hm, if_true, List.length_append, List.length_take, List.length_drop]
      omega
    refine ⟨by simp [hm], ⟨_, ⟨A', c', B', d', ?_, rfl⟩, ?_⟩, h2'.mono fun k _ e => by rw [e]; exact hself⟩
    · rw [hlen]
      simp only [delR, hm, if_true]
      exact h1'
    · rw [hlen]
      intro k hk
      rcases h3' k hk with e | e
      · rw [e]; exact .inl hself
      · exact .inr e
  · refine (RDel_no base g _ ks.length ck cv A B S ks us key rfl rfl hn hm w h ht).mono ?_
    rintro e w' ⟨rfl, rfl⟩
    simp only [delR, hm, if_false, decide_false]
    exact ⟨trivial, ⟨_, h, fun k hk => .inl hk⟩, Fr.refl _ _⟩
end Go.Proofs.Ytidokbgdbakjkaa
