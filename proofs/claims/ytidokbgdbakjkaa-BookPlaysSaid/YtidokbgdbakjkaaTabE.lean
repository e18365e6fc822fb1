/- book.Table.Del of a key that is there. -/
import Derived.Test.YtidokbgdbakjkaaTab
import Derived.Test.YtidokbgdbakjkaaInsIId
namespace Go.Proofs.Ytidokbgdbakjkaa
open Go.RowKit

set_option maxRecDepth 100000 in
set_option maxHeartbeats 4000000 in
theorem Del_yes (base g o i n ck cv ga gb : Nat) (ks : List Int) (vs : List Value) (key : Int) (hl : n = ks.length) (hn : n ≤ 99999) (hp : PlaceOf ks key i) (hi : i < n) (hk : ks[i]?.getD 0 = key) (w : World) (h : TabAt w base g o (.slice (some ⟨ga, 0, none⟩) n ck) (.slice (some ⟨gb, 0, none⟩) n cv) ks vs) :
    Calls Try.prog 26 #[.pointer (some ⟨g, o, none⟩), .int .i64 key] w fun e w' => e = .returned (.bool true) ∧ TabAt w' base g o (.slice (some ⟨ga, 0, none⟩) (n - 1) ck) (.slice (some ⟨gb, 0, none⟩) (n - 1) cv) (ks.take i ++ ks.drop (i + 1)) (vs.take i ++ vs.drop (i + 1)) ∧ Fr (Foot g (Value.slice (some ⟨ga, 0, none⟩) n ck) (Value.slice (some ⟨gb, 0, none⟩) n cv)) w w' ∧ ∀ k, Foot g (.slice (some ⟨ga, 0, none⟩) (n - 1) ck) (.slice (some ⟨gb, 0, none⟩) (n - 1) cv) k → Foot g (Value.slice (some ⟨ga, 0, none⟩) n ck) (Value.slice (some ⟨gb, 0, none⟩) n cv) k ∨ w.heap.size ≤ k := by
  have ho := h.ko
  have hv := h.vo
  rw [← hl] at ho hv
  have cB := hide (Bin_any (some ⟨ga, 0, none⟩) n ck i ks key true hl (by omega) hp (by simp [hi, hk]) w (CellsAt.of_own ho))
  have hab : ga ≠ gb := fun e => h.ne ga rfl (by rw [e]; rfl)
  have hvl : vs.length = n := by have := hv.1; omega
  have hkl : (ks.take i ++ ks.drop (i + 1)).length = n - 1 := by simp only [List.length_append, List.length_take, List.length_drop]; omega
  have cK := hide (fun (W : World) (hW : W.ownsRow base 3 1 (Value.slice (some ⟨ga, 0, none⟩) n ck) n (ks.map (Value.int .i64))) => DeleteII base ga n ck i (ks.map (Value.int .i64)) W hW hi (by omega) (by simp [Value.oneCell']))
  have cV := hide (fun (W : World) (hW : W.ownsRow base 3 1 (Value.slice (some ⟨gb, 0, none⟩) n cv) n vs) => DeleteII base gb n cv i vs W hW hi (by omega) h.one)
  have FIN := hide (fun (U W2 : World) (hF : Fr (fun k => (Value.slice (some ⟨ga, 0, none⟩) n ck).ownBlock = some k ∨ (Value.slice (some ⟨gb, 0, none⟩) n cv).ownBlock = some k) w W2) (h1s : w.heap.size ≤ U.heap.size) (hf12 : Fr (fun k => (Value.slice (some ⟨gb, 0, none⟩) n cv).ownBlock = some k) U W2)
      (ho1 : U.ownsRow base 3 1 (.slice (some ⟨ga, 0, none⟩) (n - 1) ck) (n - 1) ((ks.map (Value.int .i64)).take i ++ (ks.map (Value.int .i64)).drop (i + 1))) (ho2 : W2.ownsRow base 3 1 (.slice (some ⟨gb, 0, none⟩) (n - 1) cv) (n - 1) (vs.take i ++ vs.drop (i + 1))) =>
    put_fin (W1 := U) (K' := .slice (some ⟨ga, 0, none⟩) (n - 1) ck) (V' := .slice (some ⟨gb, 0, none⟩) (n - 1) cv) (ks' := ks.take i ++ ks.drop (i + 1)) (vs' := vs.take i ++ vs.drop (i + 1)) h (by simp only [List.length_append, List.length_take, List.length_drop]; omega) hF h1s hf12
      (by rw [hkl]; simpa only [List.map_append, List.map_take, List.map_drop] using ho1) (by rw [hkl]; exact ho2) (fun k hk => .inl hk) (fun k hk => .inl hk)
      (fun u hu => by
        rcases List.mem_append.1 hu with hu | hu
        · exact h.one u (List.mem_of_mem_take hu)
        · exact h.one u (List.mem_of_mem_drop hu)) (h.rise.sublist (by
          have := (List.Sublist.refl (ks.take i)).append (List.drop_sublist 1 (ks.drop i))
          rw [List.drop_drop, List.take_append_drop] at this
          exact this)))
  have hz : IntKind.i64.wrap ((i : Int) + 1) = (i : Int) + 1 := IntWalk.i64_in _ (by omega)
  clear hp hl hk
  have k0 := h.k0
  have v0 := h.v0
  have hgl := h.lt
  have kk : ∀ U, Fr (fun k => (Value.slice (some ⟨ga, 0, none⟩) n ck).ownBlock = some k ∨ (Value.slice (some ⟨gb, 0, none⟩) n cv).ownBlock = some k) w U → U.cell? ⟨g, o, none⟩ = some (Value.slice (some ⟨ga, 0, none⟩) n ck) ∧ U.cell? ⟨g, o + 1, none⟩ = some (Value.slice (some ⟨gb, 0, none⟩) n cv) := fun U hU =>
    ⟨(hU.cell (p := ⟨g, o, none⟩) hgl (fun e => e.elim h.kg h.vg)).trans k0, (hU.cell (p := ⟨g, o + 1, none⟩) hgl (fun e => e.elim h.kg h.vg)).trans v0⟩
  have kf : ∀ U, Fr (fun k => (Value.slice (some ⟨ga, 0, none⟩) n ck).ownBlock = some k ∨ (Value.slice (some ⟨gb, 0, none⟩) n cv).ownBlock = some k) w U → U.frozen? ⟨g, o, none⟩ = false ∧ U.frozen? ⟨g, o + 1, none⟩ = false := fun U hU =>
    ⟨(hU.frozen (p := ⟨g, o, none⟩) hgl (fun e => e.elim h.kg h.vg)).trans h.fk, (hU.frozen (p := ⟨g, o + 1, none⟩) hgl (fun e => e.elim h.kg h.vg)).trans h.fv⟩
  go_enter Try.func26, Try.ntmps26
  go_wp2_with (go_at_call 32; refine cB.out.mono ?_; rintro e w1 ⟨rfl, rfl⟩)
  refine wp_region_Z (S := fun w' => w'.cell? ⟨g, o, none⟩ = some (Value.slice (some ⟨ga, 0, none⟩) n ck) ∧ w'.cell? ⟨g, o + 1, none⟩ = some (Value.slice (some ⟨gb, 0, none⟩) n cv)) (Z := [20, 23].contains) (by kernel_rfl) ?_
  refine wpAnyZ_pure 0 (.pointer (some ⟨g, o, none⟩)) rfl (by kernel_rfl) (by kernel_rfl) (by kernel_rfl) (fun _ _ _ h => h) (Or.inl ⟨by rfl, fun w _ => by go_simp⟩) ?_
  refine wpAnyZ_pure 1 (.pointer (some ⟨g, o, none⟩)) rfl (by kernel_rfl) (by kernel_rfl) (by kernel_rfl) (fun _ _ _ h => h) (Or.inl ⟨by rfl, fun w _ => by go_simp⟩) ?_
  refine wpAnyZ_pure 2 (.pointer (some ⟨g, o, none⟩)) rfl (by kernel_rfl) (by kernel_rfl) (by kernel_rfl) (fun _ _ _ h => h) (Or.inl ⟨by rfl, fun w _ => by go_simp⟩) ?_
  refine wpAnyZ_pure 3 (.pointer (some ⟨g, o, none⟩)) rfl (by kernel_rfl) (by kernel_rfl) (by kernel_rfl) (fun _ _ _ h => h) (Or.inl ⟨by rfl, fun w _ => by go_simp⟩) ?_
  refine wpAnyZ_pure 4 (.pointer (some ⟨g, o, none⟩)) rfl (by kernel_rfl) (by kernel_rfl) (by kernel_rfl) (fun _ _ _ h => h) (Or.inl ⟨by rfl, fun w _ => by go_simp⟩) ?_
  refine wpAnyZ_take 5 (.slice (some ⟨ga, 0, none⟩) n ck) rfl (by kernel_rfl) (by kernel_rfl) (by kernel_rfl) (by kernel_rfl) (fun _ _ _ h => h) (Or.inl ⟨by rfl, fun w' hS => by obtain ⟨s0, s1⟩ := hS; go_simp⟩) (by exact ⟨k0, v0⟩) ?_
  refine wpAnyZ_pure 6 (.int .i64 i) rfl (by kernel_rfl) (by kernel_rfl) (by kernel_rfl) (fun _ _ _ h => h) (Or.inl ⟨by rfl, fun w _ => by go_simp⟩) ?_
  refine wpAnyZ_pure 7 (.int .i64 i) rfl (by kernel_rfl) (by kernel_rfl) (by kernel_rfl) (fun _ _ _ h => h) (Or.inl ⟨by rfl, fun w _ => by go_simp⟩) ?_
  refine wpAnyZ_pure 8 (.int .i64 ((i : Int) + 1)) rfl (by kernel_rfl) (by kernel_rfl) (by kernel_rfl) (fun _ _ _ h => h) (Or.inl ⟨by rfl, fun w _ => by go_simp⟩) ?_
  refine wpAnyZ_pure 10 (.pointer (some ⟨g, o, none⟩)) rfl (by kernel_rfl) (by kernel_rfl) (by kernel_rfl) (fun _ _ _ h => h) (Or.inl ⟨by rfl, fun w _ => by go_simp⟩) ?_
  refine wpAnyZ_pure 11 (.pointer (some ⟨g, o, none⟩)) rfl (by kernel_rfl) (by kernel_rfl) (by kernel_rfl) (fun _ _ _ h => h) (Or.inl ⟨by rfl, fun w _ => by go_simp⟩) ?_
  refine wpAnyZ_pure 12 (.pointer (some ⟨g, o + 1, none⟩)) rfl (by kernel_rfl) (by kernel_rfl) (by kernel_rfl) (fun _ _ _ h => h) (Or.inl ⟨by rfl, fun w _ => by go_simp⟩) ?_
  refine wpAnyZ_take 13 (.slice (some ⟨gb, 0, none⟩) n cv) rfl (by kernel_rfl) (by kernel_rfl) (by kernel_rfl) (by kernel_rfl) (fun _ _ _ h => h) (Or.inl ⟨by rfl, fun w' hS => by obtain ⟨s0, s1⟩ := hS; go_simp⟩) (by exact ⟨k0, v0⟩) ?_
  refine wpAnyZ_pure 14 (.int .i64 i) rfl (by kernel_rfl) (by kernel_rfl) (by kernel_rfl) (fun _ _ _ h => h) (Or.inl ⟨by rfl, fun w _ => by go_simp⟩) ?_
  refine wpAnyZ_pure 15 (.int .i64 i) rfl (by kernel_rfl) (by kernel_rfl) (by kernel_rfl) (fun _ _ _ h => h) (Or.inl ⟨by rfl, fun w _ => by go_simp⟩) ?_
  refine wpAnyZ_pure 16 (.int .i64 ((i : Int) + 1)) rfl (by kernel_rfl) (by kernel_rfl) (by kernel_rfl) (fun _ _ _ h => h) (Or.inl ⟨by rfl, fun w _ => by go_simp⟩) ?_
  refine wpAnyZ_all (rs := [9]) (by kernel_rfl) (by simp) ?_
  intro j hj
  simp only [List.mem_cons, List.not_mem_nil, or_false] at hj
  subst hj
  refine wpOp_call rfl rfl 34 _ Try.func34 (by kernel_rfl) (by kernel_rfl) [.tmp 22, .tmp 23, .tmp 25] #[22, 3, 3] rfl [.slice (some ⟨ga, 0, none⟩) n ck, .int .i64 i, .int .i64 ((i : Int) + 1)] (by simp [Act.eval, Act.put]) (cK.out w.drew (own_old ho ((Old.refl' w).drew'))) ?_
  rintro e W1 ⟨rfl, hown1, hf1'⟩
  have hf1 : Fr (fun k => k = ga) w W1 := Fr.trans (Fr.of_old ((Old.refl' w).drew')) hf1'
  refine ⟨_, rfl, .inr fun _ => kk _ (hf1.mono fun _ _ h => .inl (by rw [h]; rfl)), ?_⟩
  refine wpAnyZ_all (rs := [17]) (by kernel_rfl) (by simp) ?_
  intro j hj
  simp only [List.mem_cons, List.not_mem_nil, or_false] at hj
  subst hj
  refine wpOp_call rfl rfl 34 _ Try.func34 (by kernel_rfl) (by kernel_rfl) [.tmp 30, .tmp 31, .tmp 33] #[22, 3, 3] rfl [.slice (some ⟨gb, 0, none⟩) n cv, .int .i64 i, .int .i64 ((i : Int) + 1)] (by simp [Act.eval, Act.put]) (cV.out W1 (own_fr hv hf1 (fun k hk e => hab (by cases hk; exact e.symm)))) ?_
  rintro e W2 ⟨rfl, hown2, hf2⟩
  have hF : Fr (fun k => (Value.slice (some ⟨ga, 0, none⟩) n ck).ownBlock = some k ∨ (Value.slice (some ⟨gb, 0, none⟩) n cv).ownBlock = some k) w W2 := (hf1.mono fun _ _ h => .inl (by rw [h]; rfl)).trans (hf2.mono fun _ _ h => .inr (by rw [h]; rfl))
  refine ⟨_, rfl, .inr fun _ => kk _ hF, ?_⟩
  obtain ⟨x0, x1⟩ := kk _ hF
  obtain ⟨y0, y1⟩ := kf _ hF
  refine wpAnyZ_pure 18 (.pointer (some ⟨g, o, none⟩)) rfl (by kernel_rfl) (by kernel_rfl) (by kernel_rfl) (fun _ _ _ h => h) (Or.inl ⟨by rfl, fun w _ => by go_simp⟩) ?_
  refine wpAnyZ_pure 19 (.pointer (some ⟨g, o, none⟩)) rfl (by kernel_rfl) (by kernel_rfl) (by kernel_rfl) (fun _ _ _ h => h) (Or.inl ⟨by rfl, fun w _ => by go_simp⟩) ?_
  refine wpAnyZ_all (rs := [20]) (by kernel_rfl) (by simp) ?_
  intro j hj
  simp only [List.mem_cons, List.not_mem_nil, or_false] at hj
  subst hj
  refine wpOp_mk rfl rfl ?_
  go_simp
  refine wpAnyZ_pure 21 (.pointer (some ⟨g, o, none⟩)) rfl (by kernel_rfl) (by kernel_rfl) (by kernel_rfl) (fun _ _ _ h => h) (Or.inl ⟨by rfl, fun w _ => by go_simp⟩) ?_
  refine wpAnyZ_pure 22 (.pointer (some ⟨g, o + 1, none⟩)) rfl (by kernel_rfl) (by kernel_rfl) (by kernel_rfl) (fun _ _ _ h => h) (Or.inl ⟨by rfl, fun w _ => by go_simp⟩) ?_
  refine wpAnyZ_all (rs := [23]) (by kernel_rfl) (by simp) ?_
  intro j hj
  simp only [List.mem_cons, List.not_mem_nil, or_false] at hj
  subst hj
  refine wpOp_mk rfl rfl ?_
  go_simp
  refine wpAnyZ_done (by kernel_rfl) ?_ _
  go_wp2
  go_ret
  exact ⟨rfl, FIN.out W1 W2 hF hf1.size (hf2.mono fun _ _ h => by rw [h]; rfl) hown1 hown2⟩
end Go.Proofs.Ytidokbgdbakjkaa
