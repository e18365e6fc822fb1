/- book.Table.Put of a new key. -/
import Derived.Test.YtffahoocbjfdaaaHVTab
namespace Go.Proofs.Ytffahoocbjfdaaa
open Go.RowKit
set_option maxRecDepth 100000 in
set_option maxHeartbeats 4000000 in
theorem VPut_new (base g o i n ck cv : Nat) (A B : Option Addr) (ks : List Int) (vs : List Value) (key : Int) (A3 : Option Addr) (n3 c3 : Nat) (hl : n = ks.length) (hn : n ≤ 99999) (hp : PlaceOf ks key i) (hf : (decide (i < n) && decide (ks[i]?.getD 0 = key)) = false) (w : World) (h : VTabAt w base g o (.slice A n ck) (.slice B n cv) ks vs) :
    Calls Try.prog 48 #[.pointer (some ⟨g, o, none⟩), .int .i64 key, .slice A3 n3 c3] w fun e w' => ∃ A' c' B' d', e = .returned (.tuple #[.slice none 0 0, .bool false]) ∧ VTabAt w' base g o (.slice A' (n + 1) c') (.slice B' (n + 1) d') (ks.take i ++ ([key] ++ ks.drop i)) (vs.take i ++ ([.slice A3 n3 c3] ++ vs.drop i)) ∧ Fr (Foot g (.slice A n ck) (.slice B n cv)) w w' ∧ Keeps g o w w' ∧ ∀ k, Foot g (.slice A' (n + 1) c') (.slice B' (n + 1) d') k → Foot g (.slice A n ck) (.slice B n cv) k ∨ w.heap.size ≤ k := by
  have cB := hide (fun (W : World) (hW : IntsAt W A ks) => Bin_any A n ck i ks key false hl (by omega) hp hf W hW)
  have hin : i ≤ n := by rw [hl]; exact hp.1
  have ho := h.ko
  have hv := h.vo
  rw [← hl] at ho hv
  have hvl : vs.length = n := by have := hv.1; omega
  have hkl : (ks.take i ++ ([key] ++ ks.drop i)).length = n + 1 := by simp only [List.length_append, List.length_take, List.length_drop, List.length_cons, List.length_nil]; omega
  have FIN := hide (fun (U W2 : World) (A1 B1 : Option Addr) (c1 d1 : Nat) (hF : Fr (fun k => (Value.slice A n ck).ownBlock = some k ∨ (Value.slice B n cv).ownBlock = some k) w W2) (h1s : w.heap.size ≤ U.heap.size) (hf12 : Fr (fun k => (Value.slice B n cv).ownBlock = some k) U W2)
      (ho1 : U.ownsRow base 3 1 (.slice A1 (n + 1) c1) (n + 1) ((ks.map (Value.int .i64)).take i ++ ([.int .i64 key] ++ (ks.map (Value.int .i64)).drop i))) (ho2 : W2.ownsRow base 57 1 (.slice B1 (n + 1) d1) (n + 1) (vs.take i ++ ([.slice A3 n3 c3] ++ vs.drop i)))
      (hn1 : ∀ k, (Value.slice A1 (n + 1) c1).ownBlock = some k → (Value.slice A n ck).ownBlock = some k ∨ w.heap.size ≤ k) (hn2 : ∀ k, (Value.slice B1 (n + 1) d1).ownBlock = some k → (Value.slice B n cv).ownBlock = some k ∨ U.heap.size ≤ k) =>
    Vput_fin (W1 := U) (K' := .slice A1 (n + 1) c1) (V' := .slice B1 (n + 1) d1) (ks' := ks.take i ++ ([key] ++ ks.drop i)) (vs' := vs.take i ++ ([.slice A3 n3 c3] ++ vs.drop i)) h (by simp only [List.length_append, List.length_take, List.length_drop, List.length_cons, List.length_nil]; omega) hF h1s hf12
      (by rw [hkl]; simpa only [List.map_append, List.map_take, List.map_drop, List.map_cons, List.map_nil] using ho1) (by rw [hkl]; exact ho2) hn1 hn2
      (fun u hu => by
        rcases List.mem_append.1 hu with hu | hu
        · exact h.one u (List.mem_of_mem_take hu)
        rcases List.mem_append.1 hu with hu | hu
        · cases List.mem_singleton.1 hu; simp [Value.oneCell']
        · exact h.one u (List.mem_of_mem_drop hu)) (put_rise h.rise hp (by rw [← hl]; exact hf)))
  have HL := hide hl
  clear hp hf hl
  have k0 := h.k0
  have v0 := h.v0
  have hgl := h.lt
  have hbs : base ≤ w.heap.size := Nat.le_trans h.low (Nat.le_of_lt h.lt)
  have kk : ∀ U, Fr (fun k => (Value.slice A n ck).ownBlock = some k ∨ (Value.slice B n cv).ownBlock = some k) w U → U.cell? ⟨g, o, none⟩ = some (.slice A n ck) ∧ U.cell? ⟨g, o + 1, none⟩ = some (.slice B n cv) := fun U hU =>
    ⟨(hU.cell (p := ⟨g, o, none⟩) hgl (fun e => e.elim h.kg h.vg)).trans k0, (hU.cell (p := ⟨g, o + 1, none⟩) hgl (fun e => e.elim h.kg h.vg)).trans v0⟩
  have kf : ∀ U, Fr (fun k => (Value.slice A n ck).ownBlock = some k ∨ (Value.slice B n cv).ownBlock = some k) w U → U.frozen? ⟨g, o, none⟩ = false ∧ U.frozen? ⟨g, o + 1, none⟩ = false := fun U hU =>
    ⟨(hU.frozen (p := ⟨g, o, none⟩) hgl (fun e => e.elim h.kg h.vg)).trans h.fk, (hU.frozen (p := ⟨g, o + 1, none⟩) hgl (fun e => e.elim h.kg h.vg)).trans h.fv⟩
  have cK := hide (fun (W : World) (b1 : Nat) (hO : Old w W) (hb : Bk W b1 3 #[.int .i64 key]) (hb1 : w.heap.size ≤ b1) => InsertII base n ck i b1 A (ks.map (Value.int .i64)) (.int .i64 key) W (own_old ho hO) hin hn (by simp [Value.oneCell']) rfl hb (fun e => by have := (ho.lt _ e).2; omega) (Nat.le_trans hbs hO.size))
  have cV := hide (fun (U : World) (b2 : Nat) (hU : Fr (fun k => (Value.slice A n ck).ownBlock = some k) w U) (hb : Bk U b2 57 #[.slice A3 n3 c3]) (hb2 : w.heap.size ≤ b2) => InsertVV base n cv i b2 B vs (.slice A3 n3 c3) U (own_fr hv hU (fun k hk e => h.ne k e hk)) hin hn h.one rfl hb (fun e => by have := (hv.lt _ e).2; omega) (Nat.le_trans hbs hU.size))
  go_enter Try.func48, Try.ntmps48
  go_wp2_with (go_at_call 55; refine (cB.out _ (CellsAt.of_own ho)).mono ?_; rintro e w1 ⟨rfl, rfl⟩)
  refine wp_region_Z (S := fun w' => w'.cell? ⟨g, o, none⟩ = some (.slice A n ck) ∧ w'.cell? ⟨g, o + 1, none⟩ = some (.slice B n cv)) (Z := [20, 23].contains) (by kernel_rfl) ?_
  refine wpAnyZ_pure 0 (.pointer (some ⟨g, o, none⟩)) rfl (by kernel_rfl) (by kernel_rfl) (by kernel_rfl) (fun _ _ _ h => h) (Or.inl ⟨by rfl, fun w _ => by go_simp⟩) ?_
  refine wpAnyZ_pure 1 (.pointer (some ⟨g, o, none⟩)) rfl (by kernel_rfl) (by kernel_rfl) (by kernel_rfl) (fun _ _ _ h => h) (Or.inl ⟨by rfl, fun w _ => by go_simp⟩) ?_
  refine wpAnyZ_pure 2 (.pointer (some ⟨g, o, none⟩)) rfl (by kernel_rfl) (by kernel_rfl) (by kernel_rfl) (fun _ _ _ h => h) (Or.inl ⟨by rfl, fun w _ => by go_simp⟩) ?_
  refine wpAnyZ_pure 3 (.pointer (some ⟨g, o, none⟩)) rfl (by kernel_rfl) (by kernel_rfl) (by kernel_rfl) (fun _ _ _ h => h) (Or.inl ⟨by rfl, fun w _ => by go_simp⟩) ?_
  refine wpAnyZ_pure 4 (.pointer (some ⟨g, o, none⟩)) rfl (by kernel_rfl) (by kernel_rfl) (by kernel_rfl) (fun _ _ _ h => h) (Or.inl ⟨by rfl, fun w _ => by go_simp⟩) ?_
  refine wpAnyZ_take 5 (.slice A n ck) rfl (by kernel_rfl) (by kernel_rfl) (by kernel_rfl) (by kernel_rfl) (fun _ _ _ h => h) (Or.inl ⟨by rfl, fun w' hS => by obtain ⟨s0, s1⟩ := hS; go_simp⟩) (by exact ⟨k0, v0⟩) ?_
  refine wpAnyZ_pure 6 (.int .i64 i) rfl (by kernel_rfl) (by kernel_rfl) (by kernel_rfl) (fun _ _ _ h => h) (Or.inl ⟨by rfl, fun w _ => by go_simp⟩) ?_
  refine wpAnyZ_pure 7 (.int .i64 key) rfl (by kernel_rfl) (by kernel_rfl) (by kernel_rfl) (fun _ _ _ h => h) (Or.inl ⟨by rfl, fun w _ => by go_simp⟩) ?_
  refine wpAnyZ_pure 10 (.pointer (some ⟨g, o, none⟩)) rfl (by kernel_rfl) (by kernel_rfl) (by kernel_rfl) (fun _ _ _ h => h) (Or.inl ⟨by rfl, fun w _ => by go_simp⟩) ?_
  refine wpAnyZ_pure 11 (.pointer (some ⟨g, o, none⟩)) rfl (by kernel_rfl) (by kernel_rfl) (by kernel_rfl) (fun _ _ _ h => h) (Or.inl ⟨by rfl, fun w _ => by go_simp⟩) ?_
  refine wpAnyZ_pure 12 (.pointer (some ⟨g, o + 1, none⟩)) rfl (by kernel_rfl) (by kernel_rfl) (by kernel_rfl) (fun _ _ _ h => h) (Or.inl ⟨by rfl, fun w _ => by go_simp⟩) ?_
  refine wpAnyZ_take 13 (.slice B n cv) rfl (by kernel_rfl) (by kernel_rfl) (by kernel_rfl) (by kernel_rfl) (fun _ _ _ h => h) (Or.inl ⟨by rfl, fun w' hS => by obtain ⟨s0, s1⟩ := hS; go_simp⟩) (by exact ⟨k0, v0⟩) ?_
  refine wpAnyZ_pure 14 (.int .i64 i) rfl (by kernel_rfl) (by kernel_rfl) (by kernel_rfl) (fun _ _ _ h => h) (Or.inl ⟨by rfl, fun w _ => by go_simp⟩) ?_
  refine wpAnyZ_pure 15 (.slice A3 n3 c3) rfl (by kernel_rfl) (by kernel_rfl) (by kernel_rfl) (fun _ _ _ h => h) (Or.inl ⟨by rfl, fun w _ => by go_simp⟩) ?_
  refine wpAnyZ_all (rs := [8, 16]) (by kernel_rfl) (by simp) ?_
  intro j hj
  simp only [List.mem_cons, List.not_mem_nil, or_false] at hj
  rcases hj with rfl | rfl
  · refine wpOp_run (w' := w.drew.alloc (.cells #[.int .i64 key] 3)) (.slice (some ⟨w.drew.heap.size, 0, none⟩) 1 1) rfl rfl (by go_simp) ⟨.inr fun _ => kk _ (Fr.of_old ((Old.refl' w).drew'.alloc' (.cells #[.int .i64 key] 3))), ?_⟩
    refine wpAnyZ_all (rs := [9, 16]) (by kernel_rfl) (by simp) ?_
    intro j hj
    simp only [List.mem_cons, List.not_mem_nil, or_false] at hj
    rcases hj with rfl | rfl
    · refine wpOp_call rfl rfl 59 _ Try.func59 (by kernel_rfl) (by kernel_rfl) [.tmp 42, .tmp 43, .tmp 45] #[34, 3, 34] rfl [.slice A n ck, .int .i64 i, .slice (some ⟨w.heap.size, 0, none⟩) 1 1] (by simp [Act.eval, Act.put]) (cK.out _ w.heap.size ((Old.refl' w).drew'.alloc' (.cells #[.int .i64 key] 3)) (Bk.new w.drew 3 #[.int .i64 key]) (Nat.le_refl _)) ?_
      rintro e W1 ⟨A1, c1, rfl, hown1, hf1, hnew1⟩
      refine ⟨_, rfl, .inr fun _ => kk _ ?fr1, ?_⟩
      case fr1 => exact (Fr.of_old ((Old.refl' w).drew'.alloc' (.cells #[.int .i64 key] 3))).trans (hf1.mono fun _ _ h => .inl h)
      refine wpAnyZ_all (rs := [16]) (by kernel_rfl) (by simp) ?_
      intro j hj
      simp only [List.mem_cons, List.not_mem_nil, or_false] at hj
      subst hj
      refine wpOp_run (w' := W1.alloc (.cells #[.slice A3 n3 c3] 57)) (.slice (some ⟨W1.heap.size, 0, none⟩) 1 1) rfl rfl (by go_simp) ⟨.inr fun _ => kk _ ((Fr.trans (Fr.of_old ((Old.refl' w).drew'.alloc' (.cells #[.int .i64 key] 3))) (hf1.mono fun _ _ h => .inl h)).alloc _), ?_⟩
      refine wpAnyZ_all (rs := [17]) (by kernel_rfl) (by simp) ?_
      intro j hj
      simp only [List.mem_cons, List.not_mem_nil, or_false] at hj
      subst hj
      refine wpOp_call rfl rfl 60 _ Try.func60 (by kernel_rfl) (by kernel_rfl) [.tmp 50, .tmp 51, .tmp 53] #[97, 3, 97] rfl [.slice B n cv, .int .i64 i, .slice (some ⟨W1.heap.size, 0, none⟩) 1 1] (by simp [Act.eval, Act.put]) (cV.out _ W1.heap.size ((Fr.trans (Fr.of_old ((Old.refl' w).drew'.alloc' (.cells #[.int .i64 key] 3))) hf1).alloc _) (Bk.new W1 57 #[.slice A3 n3 c3]) (by have := hf1.size; simp at this; omega)) ?_
      rintro e W2 ⟨B1, d1, rfl, hown2, hf2, hnew2⟩
      have hF : Fr (fun k => (Value.slice A n ck).ownBlock = some k ∨ (Value.slice B n cv).ownBlock = some k) w W2 := (((Fr.trans (Fr.of_old ((Old.refl' w).drew'.alloc' (.cells #[.int .i64 key] 3))) hf1).alloc _).mono fun _ _ h => .inl h).trans (hf2.mono fun _ _ h => .inr h)
      refine ⟨_, rfl, .inr fun _ => kk _ hF, ?_⟩
      obtain ⟨x0, x1⟩ := kk _ hF
      obtain ⟨y0, y1⟩ := kf _ hF
      refine wpAnyZ_pure 18 (.pointer (some ⟨g, o, none⟩)) rfl (by kernel_rfl) (by kernel_rfl) (by kernel_rfl) (fun _ _ _ h => h) (Or.inl ⟨by rfl, fun w _ => by go_simp⟩) ?_
      refine wpAnyZ_pure 19 (.pointer (some ⟨g, o, none⟩)) rfl (by kernel_rfl) (by kernel_rfl) (by kernel_rfl) (fun _ _ _ h => h) (Or.inl ⟨by rfl, fun w _ => by go_simp⟩) ?_
      refine wpAnyZ_all (rs := [20]) (by kernel_rfl) (by simp) ?_
      intro j hj
      simp only [List.mem_cons, List.not_mem_nil, or_false] at hj
      subst hj
      refine wpOp_mk rfl rfl ?_
      go_simp
      refine wpAnyZ_pure 21 (.pointer (some ⟨g, o, none⟩)) rfl (by kernel_rfl) (by kernel_rfl) (by kernel_rfl) (fun _ _ _ h => h) (Or.inl ⟨by rfl, fun w _ => by go_simp⟩) ?_
      refine wpAnyZ_pure 22 (.pointer (some ⟨g, o + 1, none⟩)) rfl (by kernel_rfl) (by kernel_rfl) (by kernel_rfl) (fun _ _ _ h => h) (Or.inl ⟨by rfl, fun w _ => by go_simp⟩) ?_
      refine wpAnyZ_all (rs := [23]) (by kernel_rfl) (by simp) ?_
      intro j hj
      simp only [List.mem_cons, List.not_mem_nil, or_false] at hj
      subst hj
      refine wpOp_mk rfl rfl ?_
      go_simp
      refine wpAnyZ_done (by kernel_rfl) ?_ _
      go_wp2
      go_ret2
      exact ⟨A1, c1, B1, d1, rfl, FIN.out _ W2 A1 B1 c1 d1 hF ((Fr.trans (Fr.of_old ((Old.refl' w).drew'.alloc' (.cells #[.int .i64 key] 3))) hf1).alloc _).size hf2 (own_old hown1 ((Old.refl' W1).alloc' _)) hown2 (fun k hk => (hnew1 k hk).imp_right fun q => by simp at q; omega) hnew2⟩
    · refine wpOp_run (w' := (w.drew.alloc (.cells #[.int .i64 key] 3)).alloc (.cells #[.slice A3 n3 c3] 57)) (.slice (some ⟨(w.drew.alloc (.cells #[.int .i64 key] 3)).heap.size, 0, none⟩) 1 1) rfl rfl (by go_simp) ⟨.inr fun _ => kk _ (Fr.of_old (((Old.refl' w).drew'.alloc' (.cells #[.int .i64 key] 3)).alloc' (.cells #[.slice A3 n3 c3] 57))), ?_⟩
      refine wpAnyZ_all (rs := [9]) (by kernel_rfl) (by simp) ?_
      intro j hj
      simp only [List.mem_cons, List.not_mem_nil, or_false] at hj
      subst hj
      refine wpOp_call rfl rfl 59 _ Try.func59 (by kernel_rfl) (by kernel_rfl) [.tmp 42, .tmp 43, .tmp 45] #[34, 3, 34] rfl [.slice A n ck, .int .i64 i, .slice (some ⟨w.heap.size, 0, none⟩) 1 1] (by simp [Act.eval, Act.put]) (cK.out _ w.heap.size (((Old.refl' w).drew'.alloc' (.cells #[.int .i64 key] 3)).alloc' (.cells #[.slice A3 n3 c3] 57)) ((Bk.new w.drew 3 #[.int .i64 key]).alloc _) (Nat.le_refl _)) ?_
      rintro e W1 ⟨A1, c1, rfl, hown1, hf1, hnew1⟩
      refine ⟨_, rfl, .inr fun _ => kk _ ?fr1, ?_⟩
      case fr1 => exact (Fr.of_old (((Old.refl' w).drew'.alloc' (.cells #[.int .i64 key] 3)).alloc' (.cells #[.slice A3 n3 c3] 57))).trans (hf1.mono fun _ _ h => .inl h)
      refine wpAnyZ_all (rs := [17]) (by kernel_rfl) (by simp) ?_
      intro j hj
      simp only [List.mem_cons, List.not_mem_nil, or_false] at hj
      subst hj
      refine wpOp_call rfl rfl 60 _ Try.func60 (by kernel_rfl) (by kernel_rfl) [.tmp 50, .tmp 51, .tmp 53] #[97, 3, 97] rfl [.slice B n cv, .int .i64 i, .slice (some ⟨(w.heap.size + 1), 0, none⟩) 1 1] (by simp [Act.eval, Act.put]) (cV.out _ (w.heap.size + 1) (Fr.trans (Fr.of_old (((Old.refl' w).drew'.alloc' (.cells #[.int .i64 key] 3)).alloc' (.cells #[.slice A3 n3 c3] 57))) hf1) ((bk_new1 w.drew (.cells #[.int .i64 key] 3) 57 #[.slice A3 n3 c3]).fr hf1 (fun e => absurd (show w.heap.size + 1 < w.heap.size from (ho.lt _ e).2) (by omega))) (by omega)) ?_
      rintro e W2 ⟨B1, d1, rfl, hown2, hf2, hnew2⟩
      have hF : Fr (fun k => (Value.slice A n ck).ownBlock = some k ∨ (Value.slice B n cv).ownBlock = some k) w W2 := ((Fr.trans (Fr.of_old (((Old.refl' w).drew'.alloc' (.cells #[.int .i64 key] 3)).alloc' (.cells #[.slice A3 n3 c3] 57))) hf1).mono fun _ _ h => .inl h).trans (hf2.mono fun _ _ h => .inr h)
      refine ⟨_, rfl, .inr fun _ => kk _ hF, ?_⟩
      obtain ⟨x0, x1⟩ := kk _ hF
      obtain ⟨y0, y1⟩ := kf _ hF
      refine wpAnyZ_pure 18 (.pointer (some ⟨g, o, none⟩)) rfl (by kernel_rfl) (by kernel_rfl) (by kernel_rfl) (fun _ _ _ h => h) (Or.inl ⟨by rfl, fun w _ => by go_simp⟩) ?_
      refine wpAnyZ_pure 19 (.pointer (some ⟨g, o, none⟩)) rfl (by kernel_rfl) (by kernel_rfl) (by kernel_rfl) (fun _ _ _ h => h) (Or.inl ⟨by rfl, fun w _ => by go_simp⟩) ?_
      refine wpAnyZ_all (rs := [20]) (by kernel_rfl) (by simp) ?_
      intro j hj
      simp only [List.mem_cons, List.not_mem_nil, or_false] at hj
      subst hj
      refine wpOp_mk rfl rfl ?_
      go_simp
      refine wpAnyZ_pure 21 (.pointer (some ⟨g, o, none⟩)) rfl (by kernel_rfl) (by kernel_rfl) (by kernel_rfl) (fun _ _ _ h => h) (Or.inl ⟨by rfl, fun w _ => by go_simp⟩) ?_
      refine wpAnyZ_pure 22 (.pointer (some ⟨g, o + 1, none⟩)) rfl (by kernel_rfl) (by kernel_rfl) (by kernel_rfl) (fun _ _ _ h => h) (Or.inl ⟨by rfl, fun w _ => by go_simp⟩) ?_
      refine wpAnyZ_all (rs := [23]) (by kernel_rfl) (by simp) ?_
      intro j hj
      simp only [List.mem_cons, List.not_mem_nil, or_false] at hj
      subst hj
      refine wpOp_mk rfl rfl ?_
      go_simp
      refine wpAnyZ_done (by kernel_rfl) ?_ _
      go_wp2
      go_ret2
      exact ⟨A1, c1, B1, d1, rfl, FIN.out W1 W2 A1 B1 c1 d1 hF (Fr.trans (Fr.of_old (((Old.refl' w).drew'.alloc' (.cells #[.int .i64 key] 3)).alloc' (.cells #[.slice A3 n3 c3] 57))) hf1).size hf2 hown1 hown2 (fun k hk => (hnew1 k hk).imp_right fun q => by simp at q; omega) hnew2⟩
  · refine wpOp_run (w' := w.drew.alloc (.cells #[.slice A3 n3 c3] 57)) (.slice (some ⟨w.drew.heap.size, 0, none⟩) 1 1) rfl rfl (by go_simp) ⟨.inr fun _ => kk _ (Fr.of_old ((Old.refl' w).drew'.alloc' (.cells #[.slice A3 n3 c3] 57))), ?_⟩
    refine wpAnyZ_all (rs := [8]) (by kernel_rfl) (by simp) ?_
    intro j hj
    simp only [List.mem_cons, List.not_mem_nil, or_false] at hj
    subst hj
    refine wpOp_run (w' := (w.drew.alloc (.cells #[.slice A3 n3 c3] 57)).alloc (.cells #[.int .i64 key] 3)) (.slice (some ⟨(w.drew.alloc (.cells #[.slice A3 n3 c3] 57)).heap.size, 0, none⟩) 1 1) rfl rfl (by go_simp) ⟨.inr fun _ => kk _ (Fr.of_old (((Old.refl' w).drew'.alloc' (.cells #[.slice A3 n3 c3] 57)).alloc' (.cells #[.int .i64 key] 3))), ?_⟩
    refine wpAnyZ_all (rs := [9]) (by kernel_rfl) (by simp) ?_
    intro j hj
    simp only [List.mem_cons, List.not_mem_nil, or_false] at hj
    subst hj
    refine wpOp_call rfl rfl 59 _ Try.func59 (by kernel_rfl) (by kernel_rfl) [.tmp 42, .tmp 43, .tmp 45] #[34, 3, 34] rfl [.slice A n ck, .int .i64 i, .slice (some ⟨(w.heap.size + 1), 0, none⟩) 1 1] (by simp [Act.eval, Act.put]) (cK.out _ (w.heap.size + 1) (((Old.refl' w).drew'.alloc' (.cells #[.slice A3 n3 c3] 57)).alloc' (.cells #[.int .i64 key] 3)) (bk_new1 w.drew (.cells #[.slice A3 n3 c3] 57) 3 #[.int .i64 key]) (by omega)) ?_
    rintro e W1 ⟨A1, c1, rfl, hown1, hf1, hnew1⟩
    refine ⟨_, rfl, .inr fun _ => kk _ ?fr1, ?_⟩
    case fr1 => exact (Fr.of_old (((Old.refl' w).drew'.alloc' (.cells #[.slice A3 n3 c3] 57)).alloc' (.cells #[.int .i64 key] 3))).trans (hf1.mono fun _ _ h => .inl h)
    refine wpAnyZ_all (rs := [17]) (by kernel_rfl) (by simp) ?_
    intro j hj
    simp only [List.mem_cons, List.not_mem_nil, or_false] at hj
    subst hj
    refine wpOp_call rfl rfl 60 _ Try.func60 (by kernel_rfl) (by kernel_rfl) [.tmp 50, .tmp 51, .tmp 53] #[97, 3, 97] rfl [.slice B n cv, .int .i64 i, .slice (some ⟨w.heap.size, 0, none⟩) 1 1] (by simp [Act.eval, Act.put]) (cV.out _ w.heap.size (Fr.trans (Fr.of_old (((Old.refl' w).drew'.alloc' (.cells #[.slice A3 n3 c3] 57)).alloc' (.cells #[.int .i64 key] 3))) hf1) (((Bk.new w.drew 57 #[.slice A3 n3 c3]).alloc (.cells #[.int .i64 key] 3)).fr hf1 (fun e => absurd (show w.heap.size < w.heap.size from (ho.lt _ e).2) (by omega))) (Nat.le_refl _)) ?_
    rintro e W2 ⟨B1, d1, rfl, hown2, hf2, hnew2⟩
    have hF : Fr (fun k => (Value.slice A n ck).ownBlock = some k ∨ (Value.slice B n cv).ownBlock = some k) w W2 := ((Fr.trans (Fr.of_old (((Old.refl' w).drew'.alloc' (.cells #[.slice A3 n3 c3] 57)).alloc' (.cells #[.int .i64 key] 3))) hf1).mono fun _ _ h => .inl h).trans (hf2.mono fun _ _ h => .inr h)
    refine ⟨_, rfl, .inr fun _ => kk _ hF, ?_⟩
    obtain ⟨x0, x1⟩ := kk _ hF
    obtain ⟨y0, y1⟩ := kf _ hF
    refine wpAnyZ_pure 18 (.pointer (some ⟨g, o, none⟩)) rfl (by kernel_rfl) (by kernel_rfl) (by kernel_rfl) (fun _ _ _ h => h) (Or.inl ⟨by rfl, fun w _ => by go_simp⟩) ?_
    refine wpAnyZ_pure 19 (.pointer (some ⟨g, o, none⟩)) rfl (by kernel_rfl) (by kernel_rfl) (by kernel_rfl) (fun _ _ _ h => h) (Or.inl ⟨by rfl, fun w _ => by go_simp⟩) ?_
    refine wpAnyZ_all (rs := [20]) (by kernel_rfl) (by simp) ?_
    intro j hj
    simp only [List.mem_cons, List.not_mem_nil, or_false] at hj
    subst hj
    refine wpOp_mk rfl rfl ?_
    go_simp
    refine wpAnyZ_pure 21 (.pointer (some ⟨g, o, none⟩)) rfl (by kernel_rfl) (by kernel_rfl) (by kernel_rfl) (fun _ _ _ h => h) (Or.inl ⟨by rfl, fun w _ => by go_simp⟩) ?_
    refine wpAnyZ_pure 22 (.pointer (some ⟨g, o + 1, none⟩)) rfl (by kernel_rfl) (by kernel_rfl) (by kernel_rfl) (fun _ _ _ h => h) (Or.inl ⟨by rfl, fun w _ => by go_simp⟩) ?_
    refine wpAnyZ_all (rs := [23]) (by kernel_rfl) (by simp) ?_
    intro j hj
    simp only [List.mem_cons, List.not_mem_nil, or_false] at hj
    subst hj
    refine wpOp_mk rfl rfl ?_
    go_simp
    refine wpAnyZ_done (by kernel_rfl) ?_ _
    go_wp2
    go_ret2
    exact ⟨A1, c1, B1, d1, rfl, FIN.out W1 W2 A1 B1 c1 d1 hF (Fr.trans (Fr.of_old (((Old.refl' w).drew'.alloc' (.cells #[.slice A3 n3 c3] 57)).alloc' (.cells #[.int .i64 key] 3))) hf1).size hf2 hown1 hown2 (fun k hk => (hnew1 k hk).imp_right fun q => by simp at q; omega) hnew2⟩
end Go.Proofs.Ytffahoocbjfdaaa
