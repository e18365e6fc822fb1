/- casebookref4.L: the document's row of messages. -/
import Derived.OrdersHeld
import Derived.Test.YtjjcdpcnokckiaaBagT
import Derived.Test.YtjjcdpcnokckiaaHeldZ
namespace Go.Proofs.Ytjjcdpcnokckiaa
open Go.RowKit

/-- a message as the document has it -/
def Msg.rcells (m : Msg) : List Value := [.int .i64 m.frm, .int .i64 m.to_, .string (strOfNums m.bs)]
/-- the document's own types -/
def RefT (t : TypeId) : Prop := t = 41 ∨ t = 45

/-- a row of the document's at g -/
structure LAt (w : World) (base g : Nat) (ms : List Msg) : Prop where
  row : ∃ A c, Bk w g 41 #[.slice A ms.length c] ∧ w.ownsRow base 45 3 (.slice A ms.length c) ms.length (ms.flatMap Msg.rcells)
  low : base ≤ g

theorem LAt.lt {w : World} {base g : Nat} {ms : List Msg} (h : LAt w base g ms) : g < w.heap.size := by
  obtain ⟨_, _, hb, _⟩ := h.row
  exact hb.lt
theorem LAt.frT {T : TypeId → Prop} {w w' : World} {base b g : Nat} {ms : List Msg} (h : LAt w base g ms) (hf : FrT T b w w') (h1 : ¬ T 41) (h2 : ¬ T 45) : LAt w' base g ms := by
  obtain ⟨A, c, hb, ho⟩ := h.row
  exact ⟨⟨A, c, hb.frT hf h1, own_frT ho hf h2⟩, h.low⟩
theorem LAt.old {w w' : World} {base g : Nat} {ms : List Msg} (h : LAt w base g ms) (hf : Old w w') : LAt w' base g ms :=
  LAt.frT (T := fun _ => False) (b := 0) h (FrT.of_old hf) id id
theorem rcells_length (ms : List Msg) : (ms.flatMap Msg.rcells).length = ms.length * 3 := by
  induction ms with
  | nil => rfl
  | cons m ms ih => simp [Msg.rcells] at ih ⊢; omega
theorem rcells_one (ms : List Msg) : ∀ u ∈ ms.flatMap Msg.rcells, u.oneCell' = true := by
  intro u hu
  simp only [List.mem_flatMap] at hu
  obtain ⟨m, _, h⟩ := hu
  simp [Msg.rcells] at h
  rcases h with rfl | rfl | rfl <;> rfl
theorem rcells_cons (m : Msg) (ms : List Msg) : (m :: ms).flatMap Msg.rcells = .int .i64 m.frm :: .int .i64 m.to_ :: .string (strOfNums m.bs) :: ms.flatMap Msg.rcells := rfl
theorem rcells_take (ms : List Msg) : ∀ k, (ms.flatMap Msg.rcells).take (k * 3) = (ms.take k).flatMap Msg.rcells := by
  induction ms with
  | nil => intro k; simp
  | cons m ms ih =>
    intro k
    cases k with
    | zero => simp
    | succ k =>
      rw [rcells_cons, show (k + 1) * 3 = k * 3 + 1 + 1 + 1 from by omega]
      simp [ih k, Msg.rcells]
theorem rcells_drop (ms : List Msg) : ∀ k, (ms.flatMap Msg.rcells).drop (k * 3) = (ms.drop k).flatMap Msg.rcells := by
  induction ms with
  | nil => intro k; simp
  | cons m ms ih =>
    intro k
    cases k with
    | zero => simp
    | succ k =>
      rw [rcells_cons, show (k + 1) * 3 = k * 3 + 1 + 1 + 1 from by omega]
      simp [ih k]
theorem rcells_get (ms : List Msg) : ∀ k m, ms[k]? = some m → (ms.flatMap Msg.rcells)[k * 3]? = some (.int .i64 m.frm) ∧ (ms.flatMap Msg.rcells)[k * 3 + 1]? = some (.int .i64 m.to_) ∧ (ms.flatMap Msg.rcells)[k * 3 + 2]? = some (.string (strOfNums m.bs)) := by
  induction ms with
  | nil => intro k m h; simp at h
  | cons x ms ih =>
    intro k m h
    cases k with
    | zero => simp at h; subst h; simp [Msg.rcells]
    | succ k =>
      have := ih k m (by simpa using h)
      rw [rcells_cons, show (k + 1) * 3 = k * 3 + 1 + 1 + 1 from by omega]
      simpa using this
theorem LAt.at_ {w : World} {base g : Nat} {ms : List Msg} (h : LAt w base g ms) {k : Nat} {m : Msg} (hk : ms[k]? = some m) :
    ∃ ga c, Bk w g 41 #[.slice (some ⟨ga, 0, none⟩) ms.length c] ∧ w.ownsRow base 45 3 (.slice (some ⟨ga, 0, none⟩) ms.length c) ms.length (ms.flatMap Msg.rcells) ∧
      w.cell? ⟨ga, k * 3, none⟩ = some (.int .i64 m.frm) ∧ w.cell? ⟨ga, k * 3 + 1, none⟩ = some (.int .i64 m.to_) ∧ w.cell? ⟨ga, k * 3 + 2, none⟩ = some (.string (strOfNums m.bs)) := by
  obtain ⟨A, c, hb, ho⟩ := h.row
  have hlt : k < ms.length := (List.getElem?_eq_some_iff.1 hk).1
  obtain ⟨ga, cap, e, _, _⟩ := ho.form (by omega)
  injection e with e1 _ e3
  subst e1 e3
  obtain ⟨g1, g2, g3⟩ := rcells_get ms k m hk
  exact ⟨ga, c, hb, ho, own_cells ho _ _ g1, own_cells ho _ _ g2, own_cells ho _ _ g3⟩

theorem info_M : (Try.prog.info? 45).map (fun i => (i.zero, i.size, i.bytes)) = some (some (.agg #[.int .i64 0, .int .i64 0, .string { data := #[] }]), 3, 32) := by kernel_rfl

set_option maxHeartbeats 1000000 in
theorem RTake_no (base g : Nat) (k : Int) (ms : List Msg) (hk : k < 0 ∨ (ms.length : Int) ≤ k) (hn : ms.length ≤ 100000) (w : World) (h : LAt w base g ms) :
    Calls Try.prog 15 #[.pointer (some ⟨g, 0, none⟩), .int .i64 k] w fun e w' =>
      e = .returned (.tuple #[.agg #[.int .i64 0, .int .i64 0, .string { data := #[] }], .bool false]) ∧ Old w w' := by
  obtain ⟨A, c, hb, -⟩ := h.row
  have c0 := hb.cell 0
  simp at c0
  have hg := hb.lt
  by_cases h0 : 0 ≤ k
  · have h1 : decide (k < 0) = false := by simp; omega
    have h2 : decide ((ms.length : Int) ≤ k) = true := by simp; omega
    go_enter Try.func15, Try.ntmps15
    go_wp2
    refine bodyPost_ret (v := .tuple #[.agg #[.int .i64 0, .int .i64 0, .string { data := #[] }], .bool false]) ?_ rfl ⟨rfl, ?_⟩
    · simp [results, Try.results15, go_sem]
    · exact (Old.refl' w).alloc' _
  · have h1 : decide (k < 0) = true := by simp; omega
    go_enter Try.func15, Try.ntmps15
    go_wp2
    refine bodyPost_ret (v := .tuple #[.agg #[.int .i64 0, .int .i64 0, .string { data := #[] }], .bool false]) ?_ rfl ⟨rfl, ?_⟩
    · simp [results, Try.results15, go_sem]
    · exact (Old.refl' w).alloc' _

set_option maxRecDepth 100000 in
set_option maxHeartbeats 2000000 in
theorem RTake_yes (base g k : Nat) (ms : List Msg) (m : Msg) (hk : ms[k]? = some m) (hn : ms.length ≤ 99999) (w : World) (h : LAt w base g ms) :
    Calls Try.prog 15 #[.pointer (some ⟨g, 0, none⟩), .int .i64 k] w fun e w' =>
      e = .returned (.tuple #[.agg #[.int .i64 m.frm, .int .i64 m.to_, .string (strOfNums m.bs)], .bool true]) ∧ LAt w' base g (ms.eraseIdx k) ∧ FrT RefT base w w' := by
  obtain ⟨i0, hi, hz0, hz1, hz2⟩ := info_parts info_M
  have hlt : k < ms.length := (List.getElem?_eq_some_iff.1 hk).1
  obtain ⟨ga, c, hb, ho, g0, g1, g2⟩ := h.at_ hk
  obtain ⟨n, hN⟩ : ∃ n, n = ms.length := ⟨_, rfl⟩
  rw [← hN] at hb ho hn hlt
  have HN := hide hN
  clear hN
  obtain ⟨frm, to_, A, mc, bs⟩ := m
  simp only at g0 g1 g2 ⊢
  obtain ⟨S, hS⟩ : ∃ S, strOfNums bs = S := ⟨_, rfl⟩
  rw [hS] at g2 ⊢
  have hgl := own_lt ho
  have hg := h.lt
  have c0 := hb.cell 0
  simp at c0
  obtain ⟨hnc, hcm⟩ := own_size ho
  unfold maxLen at hcm
  have hk0 : ¬ ((k : Int) < 0) := by omega
  have hk1 : decide ((n : Int) ≤ k) = false := by simp; omega
  go_enter Try.func15, Try.ntmps15
  go_wp2
  obtain ⟨W0, hW0⟩ : ∃ W0, (w.alloc (.cells #[.int .i64 0, .int .i64 0, .string { data := #[] }] 45)).alloc (.cells #[.int .i64 frm, .int .i64 to_, .string S] 45) = W0 := ⟨_, rfl⟩
  have r0 := (Bk.new w 45 #[.int .i64 0, .int .i64 0, .string { data := #[] }]).alloc (.cells #[.int .i64 frm, .int .i64 to_, .string S] 45)
  have x0 := bk_new1 w (.cells #[.int .i64 0, .int .i64 0, .string { data := #[] }] 45) 45 #[.int .i64 frm, .int .i64 to_, .string S]
  have o0 : Old w ((w.alloc (.cells #[.int .i64 0, .int .i64 0, .string { data := #[] }] 45)).alloc (.cells #[.int .i64 frm, .int .i64 to_, .string S] 45)) := ((Old.refl' w).alloc' _).alloc' _
  have hsz : ((w.alloc (.cells #[.int .i64 0, .int .i64 0, .string { data := #[] }] 45)).alloc (.cells #[.int .i64 frm, .int .i64 to_, .string S] 45)).heap.size = w.heap.size + 2 := by simp
  rw [hW0] at r0 x0 o0 hsz ⊢
  clear hW0
  have hb0 := hb.old o0
  have ho0 := own_old ho o0
  have hxl : (ms.flatMap Msg.rcells).length = n * 3 := by rw [rcells_length, HN.out]
  have SS : ∀ U, Old W0 U → U.cell? ⟨g, 0, none⟩ = some (.slice (some ⟨ga, 0, none⟩) n c) := fun U hU => ((hb0.old hU).cell 0).trans rfl
  have hz : IntKind.i64.wrap ((k : Int) + 1) = (k : Int) + 1 := IntWalk.i64_in _ (by omega)
  have hS0 : W0.cell? ⟨g, 0, none⟩ = some (.slice (some ⟨ga, 0, none⟩) n c) := SS _ (Old.refl' _)
  have HF := hide (show ∀ (W3 : World) (A2 : Option Addr) (c2 : Nat), Old W0 W3 → W3.ownsRow W0.heap.size 45 3 (.slice A2 (n - 1) c2) (n - 1) ((ms.flatMap Msg.rcells).take (k * 3) ++ (ms.flatMap Msg.rcells).drop ((k + 1) * 3)) →
      LAt ((((W3.setCell ⟨g, 0, none⟩ (.slice A2 (n - 1) c2)).setCell ⟨w.heap.size, 0, none⟩ (.int .i64 frm)).setCell ⟨w.heap.size, 1, none⟩ (.int .i64 to_)).setCell ⟨w.heap.size, 2, none⟩ (.string S)) base g (ms.eraseIdx k) ∧
        FrT RefT base w ((((W3.setCell ⟨g, 0, none⟩ (.slice A2 (n - 1) c2)).setCell ⟨w.heap.size, 0, none⟩ (.int .i64 frm)).setCell ⟨w.heap.size, 1, none⟩ (.int .i64 to_)).setCell ⟨w.heap.size, 2, none⟩ (.string S)) from by
    intro W3 A2 c2 hO hown
    have hbs : base ≤ w.heap.size := Nat.le_trans h.low (Nat.le_of_lt h.lt)
    have hb3 := hb0.old hO
    have hr3 := r0.old hO
    have hne : g ≠ w.heap.size := by omega
    have hr4 := hr3.far (p := ⟨g, 0, none⟩) (fun e => hne e.symm) (.slice A2 (n - 1) c2)
    refine ⟨⟨⟨A2, c2, ?_, ?_⟩, h.low⟩, ?_⟩
    · rw [List.length_eraseIdx, if_pos (by rw [← HN.out]; exact hlt), ← HN.out]
      exact (((hb3.set_ 0 _).far (p := ⟨w.heap.size, 0, none⟩) hne _).far (p := ⟨w.heap.size, 1, none⟩) hne _).far (p := ⟨w.heap.size, 2, none⟩) hne _
    · rw [List.length_eraseIdx, if_pos (by rw [← HN.out]; exact hlt), ← HN.out, List.eraseIdx_eq_take_drop_succ, List.flatMap_append, ← rcells_take, ← rcells_drop]
      have n0 : (Value.slice A2 (n - 1) c2).ownBlock ≠ some g := fun e => by have := (hown.lt _ e).1; omega
      have n1 : (Value.slice A2 (n - 1) c2).ownBlock ≠ some w.heap.size := fun e => by have := (hown.lt _ e).1; omega
      exact own_mono (own_set (own_set (own_set (own_set hown n0 _) n1 _) n1 _) n1 _) (by omega)
    · exact ((((FrT.of_old (o0.trans' hO)).set_ hb3 h.low (.inl rfl) 0 _).set_ hr4 hbs (.inr rfl) 0 _).set_ (hr4.set_ 0 _) hbs (.inr rfl) 1 _).set_ ((hr4.set_ 0 _).set_ 1 _) hbs (.inr rfl) 2 _)
  have hck : ¬ c < k := by omega
  have i1 : (0 : Int) ≤ (k : Int) + 1 := by omega
  have i2 : (k : Int) + 1 ≤ (n : Int) := by omega
  obtain ⟨o, hAD, hrest⟩ : ∃ o, (if c = k + 1 then (some ⟨ga, 0, none⟩ : Option Addr) else some ⟨ga, (k + 1) * 3, none⟩) = some ⟨ga, o, none⟩ ∧ CellsAt W0 (some ⟨ga, o, none⟩) ((ms.flatMap Msg.rcells).drop ((k + 1) * 3)) := by
    by_cases hc : c = k + 1
    · refine ⟨0, if_pos hc, ?_⟩
      rw [List.drop_of_length_le (by rw [hxl]; omega)]
      exact CellsAt.nil _ _
    · exact ⟨(k + 1) * 3, if_neg hc, own_rest ho0 ((k + 1) * 3)⟩
  refine wp_region_Z (S := fun w' => w'.cell? ⟨g, 0, none⟩ = some (.slice (some ⟨ga, 0, none⟩) n c)) (Z := [19].contains) (by kernel_rfl) ?_
  refine wpAnyZ_pure 0 (.pointer (some ⟨g, 0, none⟩)) rfl (by kernel_rfl) (by kernel_rfl) (by kernel_rfl) (fun _ _ _ h => h) (Or.inl ⟨by rfl, fun w _ => by go_simp⟩) ?_
  refine wpAnyZ_pure 2 (.pointer (some ⟨g, 0, none⟩)) rfl (by kernel_rfl) (by kernel_rfl) (by kernel_rfl) (fun _ _ _ h => h) (Or.inl ⟨by rfl, fun w _ => by go_simp⟩) ?_
  refine wpAnyZ_pure 3 (.pointer (some ⟨g, 0, none⟩)) rfl (by kernel_rfl) (by kernel_rfl) (by kernel_rfl) (fun _ _ _ h => h) (Or.inl ⟨by rfl, fun w _ => by go_simp⟩) ?_
  refine wpAnyZ_pure 4 (.pointer (some ⟨g, 0, none⟩)) rfl (by kernel_rfl) (by kernel_rfl) (by kernel_rfl) (fun _ _ _ h => h) (Or.inl ⟨by rfl, fun w _ => by go_simp⟩) ?_
  refine wpAnyZ_take 5 (.slice (some ⟨ga, 0, none⟩) n c) rfl (by kernel_rfl) (by kernel_rfl) (by kernel_rfl) (by kernel_rfl) (fun _ _ _ h => h) (Or.inl ⟨by rfl, fun w' hS => by go_simp⟩) (by exact hS0) ?_
  refine wpAnyZ_pure 6 (.int .i64 k) rfl (by kernel_rfl) (by kernel_rfl) (by kernel_rfl) (fun _ _ _ h => h) (Or.inl ⟨by rfl, fun w _ => by go_simp⟩) ?_
  refine wpAnyZ_pure 7 (.slice (some ⟨ga, 0, none⟩) k c) rfl (by kernel_rfl) (by kernel_rfl) (by kernel_rfl) (fun _ _ _ h => h) (Or.inl ⟨by rfl, fun w _ => by go_simp⟩) ?_
  refine wpAnyZ_pure 9 (.pointer (some ⟨g, 0, none⟩)) rfl (by kernel_rfl) (by kernel_rfl) (by kernel_rfl) (fun _ _ _ h => h) (Or.inl ⟨by rfl, fun w _ => by go_simp⟩) ?_
  refine wpAnyZ_pure 10 (.pointer (some ⟨g, 0, none⟩)) rfl (by kernel_rfl) (by kernel_rfl) (by kernel_rfl) (fun _ _ _ h => h) (Or.inl ⟨by rfl, fun w _ => by go_simp⟩) ?_
  refine wpAnyZ_pure 11 (.pointer (some ⟨g, 0, none⟩)) rfl (by kernel_rfl) (by kernel_rfl) (by kernel_rfl) (fun _ _ _ h => h) (Or.inl ⟨by rfl, fun w _ => by go_simp⟩) ?_
  refine wpAnyZ_take 12 (.slice (some ⟨ga, 0, none⟩) n c) rfl (by kernel_rfl) (by kernel_rfl) (by kernel_rfl) (by kernel_rfl) (fun _ _ _ h => h) (Or.inl ⟨by rfl, fun w' hS => by go_simp⟩) (by exact hS0) ?_
  refine wpAnyZ_pure 13 (.int .i64 k) rfl (by kernel_rfl) (by kernel_rfl) (by kernel_rfl) (fun _ _ _ h => h) (Or.inl ⟨by rfl, fun w _ => by go_simp⟩) ?_
  refine wpAnyZ_pure 14 (.int .i64 ((k : Int) + 1)) rfl (by kernel_rfl) (by kernel_rfl) (by kernel_rfl) (fun _ _ _ h => h) (Or.inl ⟨by rfl, fun w _ => by go_simp⟩) ?_
  refine wpAnyZ_pure 15 (.slice (some ⟨ga, o, none⟩) (n - (k + 1)) (c - (k + 1))) rfl (by kernel_rfl) (by kernel_rfl) (by kernel_rfl) (fun _ _ _ h => h) (Or.inl ⟨by rfl, fun w _ => by go_simp⟩) ?_
  refine wpAnyZ_all (rs := [1]) (by kernel_rfl) (by simp) ?_
  intro j hj
  simp only [List.mem_cons, List.not_mem_nil, or_false] at hj
  subst hj
  refine wpOp_run (w' := W0.drew.alloc (.cells #[] 45)) (.slice (some ⟨W0.drew.heap.size, 0, none⟩) 0 0) rfl rfl (by go_simp) ⟨.inr fun _ => ?s1, ?_⟩
  case s1 => exact SS _ (Old.alloc' ((Old.refl' W0).drew') _)
  refine wpAnyZ_all (rs := [8]) (by kernel_rfl) (by simp) ?_
  intro j hj
  simp only [List.mem_cons, List.not_mem_nil, or_false] at hj
  subst hj
  refine wpOp_mk rfl rfl (wp_app _ (.tmp 27) (.tmp 33) 39 rfl W0.heap.size 45 i0 (.agg #[.int .i64 0, .int .i64 0, .string { data := #[] }]) 3 32 Try.underlying39 hi hz0 hz1 hz2 rfl (by decide) (.slice (some ⟨W0.heap.size, 0, none⟩) 0 0) 0 [] (by simp [Act.eval, Act.put]) (World.ownsRow_made W0.drew #[] 0 (Nat.le_refl _) (by decide) rfl) (some ⟨ga, 0, none⟩) k c ((ms.flatMap Msg.rcells).take (k * 3)) (by simp [Act.eval, Act.put]) (by rw [List.length_take, hxl]; omega) (((CellsAt.of_own ho0).take (k * 3)).old (Old.alloc' ((Old.refl' W0).drew') _)) (fun u hu => rcells_one ms u (List.mem_of_mem_take hu)) (by unfold maxLen; omega) (by omega) (by simp) k (Nat.zero_add _) _ (List.nil_append _) ?_)
  intro A1 c1 W2 h2
  have hO2 : Old W0 W2 := h2.old (Old.alloc' ((Old.refl' W0).drew') _) (fun j hj => by simp [Value.ownBlock] at hj; omega)
  refine ⟨.inr fun _ => SS _ hO2, ?_⟩
  refine wpAnyZ_all (rs := [16]) (by kernel_rfl) (by simp) ?_
  intro j hj
  simp only [List.mem_cons, List.not_mem_nil, or_false] at hj
  subst hj
  refine wpOp_mk rfl rfl (wp_app _ (.tmp 34) (.tmp 41) 39 rfl W0.heap.size 45 i0 (.agg #[.int .i64 0, .int .i64 0, .string { data := #[] }]) 3 32 Try.underlying39 hi hz0 hz1 hz2 rfl (by decide) (.slice A1 k c1) k ((ms.flatMap Msg.rcells).take (k * 3)) (by simp [Act.eval, Act.put]) h2.own (some ⟨ga, o, none⟩) (n - (k + 1)) (c - (k + 1)) ((ms.flatMap Msg.rcells).drop ((k + 1) * 3)) (by simp [Act.eval, Act.put]) (by rw [List.length_drop, hxl]; omega) (hrest.old hO2) (fun u hu => rcells_one ms u (List.mem_of_mem_drop hu)) (by unfold maxLen; omega) (by omega) hO2.size (n - 1) (by omega) _ rfl ?_)
  intro A2 c2 W3 h3
  have hO3 : Old W0 W3 := h3.old hO2 (fun j hj => (h2.own.lt j hj).1)
  have b3 := hb0.old hO3
  have d0 := b3.cell 0
  have e0 := b3.frozen 0
  have X := x0.old hO3
  have R := r0.old hO3
  have x1 := X.cell 0
  have x2 := X.cell 1
  have x3 := X.cell 2
  have q1 := R.cell 0
  have q2 := R.cell 1
  have q3 := R.cell 2
  have z1 := R.frozen 0
  have z2 := R.frozen 1
  have z3 := R.frozen 2
  simp at d0 x1 x2 x3 q1 q2 q3
  have n1 : ¬ g = w.heap.size := by omega
  have n2 : ¬ w.heap.size = g := by omega
  have n3 : ¬ g = w.heap.size + 1 := by omega
  have n4 : ¬ w.heap.size + 1 = g := by omega
  have HG := hide (HF.out W3 A2 c2 hO3 h3.own)
  refine ⟨.inr fun _ => SS _ hO3, ?_⟩
  refine wpAnyZ_pure 17 (.pointer (some ⟨g, 0, none⟩)) rfl (by kernel_rfl) (by kernel_rfl) (by kernel_rfl) (fun _ _ _ h => h) (Or.inl ⟨by rfl, fun w _ => by go_simp⟩) ?_
  refine wpAnyZ_pure 18 (.pointer (some ⟨g, 0, none⟩)) rfl (by kernel_rfl) (by kernel_rfl) (by kernel_rfl) (fun _ _ _ h => h) (Or.inl ⟨by rfl, fun w _ => by go_simp⟩) ?_
  refine wpAnyZ_all (rs := [19]) (by kernel_rfl) (by simp) ?_
  intro j hj
  simp only [List.mem_cons, List.not_mem_nil, or_false] at hj
  subst hj
  refine wpOp_mk rfl rfl ?_
  go_simp
  refine wpAnyZ_done (by kernel_rfl) ?_ _
  go_wp2
  refine bodyPost_ret (v := .tuple #[.agg #[.int .i64 frm, .int .i64 to_, .string S], .bool true]) ?_ rfl ⟨rfl, HG.out⟩
  simp [results, Try.results15, go_sem, q1, q2, q3]
end Go.Proofs.Ytjjcdpcnokckiaa
