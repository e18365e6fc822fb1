/- store.Store: Versions, Ask. -/
import Derived.Test.YtcbnibldlbnkbaaSt
import Derived.Test.YtcbnibldlbnkbaaReg
namespace Go.Proofs.Ytcbnibldlbnkbaa
open Go.RowKit

set_option maxHeartbeats 400000 in
theorem iWrites_at (c s k i m : Int) (d : ByteArray) (b : Bool) (hb : Writes k = b) (w : World) :
    Calls Try.prog 30 #[.agg #[.int .i64 c, .int .i64 s, .int .i64 k, .int .i64 i, .int .i64 m, .string d]] w fun e w' => e = .returned (.bool b) ∧ Old w w' := by
  subst hb
  go_enter Try.func30, Try.ntmps30
  go_wp2
  all_goals go_ret
  all_goals refine ⟨by simp_all [Writes], (Below.refl _ _).alloc (Nat.le_refl _) _⟩
theorem iMay_at (c s k i m : Int) (d : ByteArray) (b : Bool) (hb : mayQ c s k i m d = b) (w : World) :
    Calls Try.prog 29 #[.agg #[.int .i64 c, .int .i64 s, .int .i64 k, .int .i64 i, .int .i64 m, .string d]] w fun e w' => e = .returned (.bool b) ∧ Old w w' := by
  subst hb
  exact May_any c s k i m d w

/-- what a key gives, wherever the table is asked while it stands -/
theorem VGet {w : World} {g o : Nat} {F : Nat → Prop} {f : Int → List Ver} (h : VTab w g o F f) (k : Int) (hk : k ∉ ksOf f → f k = []) (n : Nat) (hn : (f k).length = n) :
    ∃ A c fl, Vers w A (f k) ∧ (f k ≠ [] → ∀ a, A = some a → F a.block) ∧ ∀ W, Old w W → Calls Try.prog 31 #[.pointer (some ⟨g, o, none⟩), .int .i64 k] W fun e w' => e = .returned (.tuple #[.slice A n c, .bool fl]) ∧ W = w' := by
  subst hn
  obtain ⟨A, ck, B, cv, vs, ht, hF, hrows⟩ := h.ex
  have hr := ksOf_rise f
  have hp := plc_place hr k
  have hlen := ksOf_length f
  have old : ∀ W, Old w W → VTabAt W 0 g o (.slice A (ksOf f).length ck) (.slice B (ksOf f).length cv) (ksOf f) vs := fun W hW => ht.fr (S := fun _ => False) (Fr.of_old hW) (fun _ _ h => h)
  by_cases hm : k ∈ ksOf f
  · obtain ⟨hlt, hat⟩ := plc_lt hr hm
    have hvl : vs.length = (ksOf f).length := by have := ht.vo.1; omega
    have hat' : (ksOf f)[plc (ksOf f) k]? = some k := by
      rw [List.getElem?_eq_getElem hlt] at hat ⊢
      simpa using hat
    have hv : vs[plc (ksOf f) k]? = some (vs[plc (ksOf f) k]'(by omega)) := List.getElem?_eq_getElem (by omega)
    obtain ⟨A1, c1, e1, hV, hc, hoff⟩ := hrows _ k _ hat' hv
    rw [e1] at hv
    exact ⟨A1, c1, true, hV, fun hne a ha => (hoff hne a ha).1, fun W hW => VTGet_yes 0 g o _ _ ck cv A B (ksOf f) vs k _ rfl (by omega) hp hlt hat hv W (old W hW)⟩
  · have hz := hk hm
    rw [hz]
    exact ⟨none, 0, false, CellsAt.nil _ _, fun h => absurd rfl h, fun W hW => VTGet_no 0 g o _ _ ck cv A B (ksOf f) vs k rfl (by omega) hp (by rw [found_iff hr hp, decide_eq_false hm]) W (old W hW)⟩
theorem StAt.get {w : World} {g : Nat} {F : Nat → Prop} {s : StV} (h : StAt w g F s) (k : Int) (n : Nat) (hn : (s.f k).length = n) :
    ∃ A c fl, Vers w A (s.f k) ∧ (s.f k ≠ [] → ∀ a, A = some a → F a.block) ∧ ∀ W, Old w W → Calls Try.prog 31 #[.pointer (some ⟨g, 2, none⟩), .int .i64 k] W fun e w' => e = .returned (.tuple #[.slice A n c, .bool fl]) ∧ W = w' := by
  refine VGet h.tab k (fun hm => ?_) n hn
  rw [ksOf_mem] at hm
  by_cases hr : 0 ≤ k ∧ k ≤ 31
  · exact Classical.byContradiction fun hne => hm ⟨hr, hne⟩
  · exact h.off k hr

set_option maxHeartbeats 400000 in
theorem Versions_st (g : Nat) (k : Int) (F : Nat → Prop) (s : StV) (n : Nat) (hl : (s.f k).length = n) (hn : n ≤ 100000) (w : World) (h : StAt w g F s) :
    Calls Try.prog 17 #[.pointer (some ⟨g, 0, none⟩), .int .i64 k] w fun e w' => ∃ A c, e = .returned (.slice A n c) ∧ w'.ownsRow w.heap.size 56 2 (.slice A n c) n (verCells (s.f k)) ∧ Old w w' := by
  obtain ⟨A, c, fl, hV, -, hg⟩ := h.get k n hl
  have cG := hide (hg w (Old.refl' w))
  have cC := hide (Clone_any A n c (s.f k) hn hl.symm w hV)
  clear hg hl h
  go_enter Try.func17, Try.ntmps17
  go_wp2_with (first
    | (go_at_call 31; refine cG.out.mono ?_; rintro e w1 ⟨rfl, rfl⟩)
    | (go_at_call 37; refine cC.out.mono ?_; rintro e w1 ⟨A1, c1, rfl, ho, hb⟩))
  go_ret
  exact ⟨A1, c1, rfl, ho, hb⟩

theorem Ask_at2 (R : Rep) (A : Option Addr) (n cap : Nat) (vs : List Ver) (hn : n ≤ 100000) (hl : n = vs.length) (c s k i m : Int) (d : ByteArray) (w : World) (hV : Vers w A vs) (hm : -9223372036854775808 ≤ m) (hm2 : m ≤ 9223372036854775807)
    (hR : askR vs k m = R) (nR : Nat) (h2 : R.vs.length = nR) :
    Calls Try.prog 48 #[.slice A n cap, .agg #[.int .i64 c, .int .i64 s, .int .i64 k, .int .i64 i, .int .i64 m, .string d]] w fun e w' =>
      ∃ A2 c2, e = .returned (.agg #[.int .i64 R.code, .int .i64 R.ver, .string R.data, .slice A2 nR c2]) ∧ IntsAt w' A2 R.vs ∧ (∀ a, A2 = some a → w.heap.size ≤ a.block) ∧ Old w w' := by
  subst hR h2
  refine (Ask_any A n cap vs hn hl c s k i m d w hV hm hm2).mono ?_
  rintro e w' ⟨u, rfl, ⟨A2, c2, rfl, hi, hn2⟩, hb⟩
  exact ⟨A2, c2, rfl, hi, hn2, hb⟩
theorem bk6 {w : World} {g : Nat} {t : TypeId} {a b c d e f : Value} (h : Bk w g t #[a, b, c, d, e, f]) : (w.cell? ⟨g, 0, none⟩ = some a ∧ w.cell? ⟨g, 1, none⟩ = some b ∧ w.cell? ⟨g, 2, none⟩ = some c ∧ w.cell? ⟨g, 3, none⟩ = some d ∧ w.cell? ⟨g, 4, none⟩ = some e ∧ w.cell? ⟨g, 5, none⟩ = some f) ∧ g < w.heap.size :=
  ⟨⟨h.cell 0, h.cell 1, h.cell 2, h.cell 3, h.cell 4, h.cell 5⟩, h.lt⟩
/-- behind the boxes of a request and a reply, in a world that has grown -/
theorem boxed {w W : World} {c s k i m : Int} {d : ByteArray} (h : Old ((w.alloc (.cells #[.int .i64 c, .int .i64 s, .int .i64 k, .int .i64 i, .int .i64 m, .string d] 36)).alloc (.cells #[.int .i64 0, .int .i64 0, .string ByteArray.empty, .slice none 0 0] 32)) W) :
    (W.cell? ⟨w.heap.size, 0, none⟩ = some (.int .i64 c) ∧ W.cell? ⟨w.heap.size, 1, none⟩ = some (.int .i64 s) ∧ W.cell? ⟨w.heap.size, 2, none⟩ = some (.int .i64 k) ∧ W.cell? ⟨w.heap.size, 3, none⟩ = some (.int .i64 i) ∧ W.cell? ⟨w.heap.size, 4, none⟩ = some (.int .i64 m) ∧ W.cell? ⟨w.heap.size, 5, none⟩ = some (.string d)) ∧
    (W.cell? ⟨w.heap.size + 1, 0, none⟩ = some (.int .i64 0) ∧ W.cell? ⟨w.heap.size + 1, 1, none⟩ = some (.int .i64 0) ∧ W.cell? ⟨w.heap.size + 1, 2, none⟩ = some (.string ByteArray.empty) ∧ W.cell? ⟨w.heap.size + 1, 3, none⟩ = some (.slice none 0 0)) ∧
    (W.frozen? ⟨w.heap.size + 1, 0, none⟩ = false ∧ W.frozen? ⟨w.heap.size + 1, 1, none⟩ = false ∧ W.frozen? ⟨w.heap.size + 1, 2, none⟩ = false ∧ W.frozen? ⟨w.heap.size + 1, 3, none⟩ = false) ∧ w.heap.size + 1 < W.heap.size ∧ Old w W := by
  obtain ⟨hq, hl⟩ := bk6 (((Bk.new w 36 #[.int .i64 c, .int .i64 s, .int .i64 k, .int .i64 i, .int .i64 m, .string d]).alloc (.cells #[.int .i64 0, .int .i64 0, .string ByteArray.empty, .slice none 0 0] 32)).old h)
  obtain ⟨hr, hf, hl2⟩ := bk4 ((bk_new1 w (.cells #[.int .i64 c, .int .i64 s, .int .i64 k, .int .i64 i, .int .i64 m, .string d] 36) 32 #[.int .i64 0, .int .i64 0, .string ByteArray.empty, .slice none 0 0]).old h)
  exact ⟨hq, hr, hf, hl2, (((Old.refl' w).alloc' _).alloc' _).trans' h⟩

set_option maxRecDepth 100000 in
set_option maxHeartbeats 1000000 in
theorem Ask_no (p : Option Addr) (q : Q) (hq : askOk q = false) (w : World) :
    Calls Try.prog 26 #[.pointer p, q.v] w fun e w' => e = .returned (.tuple #[.agg #[.int .i64 0, .int .i64 0, .string ByteArray.empty, .slice none 0 0], .int .i64 1]) ∧ Old w w' := by
  obtain ⟨c, s, k, i, m, d⟩ := q
  simp only [Q.v]
  cases p with
  | none =>
    clear hq
    go_enter Try.func26, Try.ntmps26
    go_wp2
    refine bodyPost_ret (v := .tuple #[.agg #[.int .i64 0, .int .i64 0, .string ByteArray.empty, .slice none 0 0], .int .i64 1]) ?_ rfl ⟨rfl, ?_⟩
    · simp [results, Try.results26, go_sem]
      rfl
    · exact ((Old.refl' w).alloc' _).alloc' _
  | some a =>
    obtain ⟨b1, h1⟩ : ∃ b, mayQ c s k i m d = b := ⟨_, rfl⟩
    have cM := hide (fun (W : World) => iMay_at c s k i m d b1 h1 W)
    have hX := hide (fun (W : World) (h : Old ((w.alloc (.cells #[.int .i64 c, .int .i64 s, .int .i64 k, .int .i64 i, .int .i64 m, .string d] 36)).alloc (.cells #[.int .i64 0, .int .i64 0, .string ByteArray.empty, .slice none 0 0] 32)) W) => boxed h)
    cases b1 with
    | false =>
      clear hq h1
      go_enter Try.func26, Try.ntmps26
      go_wp2_with (go_at_call 29; refine (cM.out _).mono ?_; rintro e w1 ⟨rfl, hb1⟩; obtain ⟨⟨x0, x1, x2, x3, x4, x5⟩, ⟨y0, y1, y2, y3⟩, ⟨f0, f1, f2, f3⟩, l1, o1⟩ := hX.out _ hb1)
      refine bodyPost_ret (v := .tuple #[.agg #[.int .i64 0, .int .i64 0, .string ByteArray.empty, .slice none 0 0], .int .i64 1]) ?_ rfl ⟨rfl, ?_⟩
      · simp [results, Try.results26, go_sem, *]
        try rfl
      · repeat (first | with_reducible exact o1 | with_reducible refine Old.setCell' ?_ (by simp) _)
    | true =>
      have hw : Writes k = true := by simpa [askOk, Q.may, h1] using hq
      have cW := hide (fun (W : World) => iWrites_at c s k i m d true hw W)
      clear hq h1 hw
      go_enter Try.func26, Try.ntmps26
      go_wp2_with (first
        | (go_at_call 29; refine (cM.out _).mono ?_; rintro e w1 ⟨rfl, hb1⟩; obtain ⟨⟨x0, x1, x2, x3, x4, x5⟩, -, -, l1, o1⟩ := hX.out _ hb1)
        | (go_at_call 30; refine (cW.out _).mono ?_; rintro e w2 ⟨rfl, hb2⟩; obtain ⟨-, ⟨y0, y1, y2, y3⟩, ⟨f0, f1, f2, f3⟩, l2, o2⟩ := hX.out _ (hb1.trans' hb2)))
      refine bodyPost_ret (v := .tuple #[.agg #[.int .i64 0, .int .i64 0, .string ByteArray.empty, .slice none 0 0], .int .i64 1]) ?_ rfl ⟨rfl, ?_⟩
      · simp [results, Try.results26, go_sem, *]
        try rfl
      · repeat (first | with_reducible exact o2 | with_reducible refine Old.setCell' ?_ (by simp) _)

set_option maxRecDepth 100000 in
set_option maxHeartbeats 1000000 in
theorem Ask_nil (q : Q) (w : World) :
    Calls Try.prog 26 #[.pointer none, q.v] w fun e w' => e = .returned (.tuple #[.agg #[.int .i64 0, .int .i64 0, .string ByteArray.empty, .slice none 0 0], .int .i64 1]) ∧ Old w w' := by
  obtain ⟨c, s, k, i, m, d⟩ := q
  simp only [Q.v]
  go_enter Try.func26, Try.ntmps26
  go_wp2
  refine bodyPost_ret (v := .tuple #[.agg #[.int .i64 0, .int .i64 0, .string ByteArray.empty, .slice none 0 0], .int .i64 1]) ?_ rfl ⟨rfl, ?_⟩
  · simp [results, Try.results26, go_sem]
    rfl
  · exact ((Old.refl' w).alloc' _).alloc' _

set_option maxRecDepth 100000 in
set_option maxHeartbeats 1000000 in
theorem Ask_yes (g : Nat) (F : Nat → Prop) (st : StV) (q : Q) (hq : askOk q = true) (R : Rep) (hR : st.ask q = R) (nR : Nat) (hnR : R.vs.length = nR) (hfew : (st.f q.id).length ≤ 100000) (w : World) (h : StAt w g F st) :
    Calls Try.prog 26 #[.pointer (some ⟨g, 0, none⟩), q.v] w fun e w' => ∃ A c, e = .returned (.tuple #[.agg #[.int .i64 R.code, .int .i64 R.ver, .string R.data, .slice A nR c], .int .i64 0]) ∧ IntsAt w' A R.vs ∧ Old w w' := by
  obtain ⟨c, s, k, i, m, d⟩ := q
  simp only [Q.v]
  unfold StV.ask at hR
  rw [if_pos hq] at hR
  simp only [askOk, Q.may, Bool.and_eq_true, Bool.not_eq_true'] at hq
  obtain ⟨h1, h2⟩ := hq
  have hm : -9223372036854775808 ≤ m ∧ m ≤ 9223372036854775807 := by
    simp only [mayQ, Bool.and_eq_true, decide_eq_true_eq] at h1
    omega
  simp only at hR hfew
  obtain ⟨n, hn⟩ : ∃ n, (st.f i).length = n := ⟨_, rfl⟩
  obtain ⟨A, cc, fl, hV, -, hg⟩ := h.get i n hn
  have cM := hide (fun (W : World) => iMay_at c s k i m d true h1 W)
  have cW := hide (fun (W : World) => iWrites_at c s k i m d false h2 W)
  have cA := hide (fun (W : World) (hW : Old w W) => Ask_at2 R A n cc (st.f i) (by omega) hn.symm c s k i m d W (CellsAt.old hV hW) hm.1 hm.2 hR nR hnR)
  have hX := hide (fun (W : World) (h : Old ((w.alloc (.cells #[.int .i64 c, .int .i64 s, .int .i64 k, .int .i64 i, .int .i64 m, .string d] 36)).alloc (.cells #[.int .i64 0, .int .i64 0, .string ByteArray.empty, .slice none 0 0] 32)) W) => boxed h)
  have cG := hide hg
  have hgl := h.lt g h.gF
  clear h1 h2 hm hR hn hnR hfew hV hg h
  go_enter Try.func26, Try.ntmps26
  go_wp2_with (first
    | (go_at_call 29; refine (cM.out _).mono ?_; rintro e w1 ⟨rfl, hb1⟩; obtain ⟨⟨x0, x1, x2, x3, x4, x5⟩, -, -, l1, o1⟩ := hX.out _ hb1)
    | (go_at_call 30; refine (cW.out _).mono ?_; rintro e w2 ⟨rfl, hb2⟩; clear x0 x1 x2 x3 x4 x5 l1 o1; obtain ⟨⟨x0, x1, x2, x3, x4, x5⟩, ⟨y0, y1, y2, y3⟩, ⟨f0, f1, f2, f3⟩, l1, o1⟩ := hX.out _ (hb1.trans' hb2); have hbb := hb1.trans' hb2; clear hb1 hb2))
  refine region_steps (R := pick [eqv (.pointer (some ⟨g, 0, none⟩)), eqv (.pointer (some ⟨g, 0, none⟩)), eqv (.pointer (some ⟨g, 2, none⟩)), eqv (.pointer (some ⟨w.heap.size, 3, none⟩)), eqv (.int .i64 i), eqv (.tuple #[.slice A n cc, .bool fl]), eqv (.tuple #[.slice A n cc, .bool fl]), eqv (.slice A n cc), eqv (.bool fl), eqv (.slice A n cc), eqv (.bool fl)]) (S := fun _ w' => Old ((w.alloc (.cells #[.int .i64 c, .int .i64 s, .int .i64 k, .int .i64 i, .int .i64 m, .string d] 36)).alloc (.cells #[.int .i64 0, .int .i64 0, .string ByteArray.empty, .slice none 0 0] 32)) w') (T := Old) (by kernel_rfl) (by kernel_rfl) (by kernel_rfl) (Stab.pick (Stab.eqv (Stab.eqv (Stab.eqv (Stab.eqv (Stab.eqv (Stab.eqv (Stab.eqv (Stab.eqv (Stab.eqv (Stab.eqv (Stab.eqv (Stab.nil))))))))))))) (hbb.drew') ?steps ?ends
  case steps =>
    refine StepsOk.cons (stepOk_pure [] [(0, .pointer (some ⟨g, 0, none⟩))] rfl rfl (by kernel_rfl) (by kernel_rfl) rfl Old.refl' (fun _ _ _ h => h) (fun d E w' hk hda hS hc hf => by rintro  e0; exact ⟨_, by go_simp, rfl⟩)) ?_
    refine StepsOk.cons (stepOk_pure [(0, 21)] [] rfl rfl (by kernel_rfl) (by kernel_rfl) rfl Old.refl' (fun _ _ _ h => h) (fun d E w' hk hda hS hc hf => by rintro _ q0 rfl e21 ; exact ⟨_, by go_simp, rfl⟩)) ?_
    refine StepsOk.cons (stepOk_pure [(1, 22)] [] rfl rfl (by kernel_rfl) (by kernel_rfl) rfl Old.refl' (fun _ _ _ h => h) (fun d E w' hk hda hS hc hf => by rintro _ q1 rfl e22 ; exact ⟨_, by go_simp, rfl⟩)) ?_
    refine StepsOk.cons (stepOk_pure [] [(3, .pointer (some ⟨w.heap.size, 0, none⟩))] rfl rfl (by kernel_rfl) (by kernel_rfl) rfl Old.refl' (fun _ _ _ h => h) (fun d E w' hk hda hS hc hf => by rintro  e3; exact ⟨_, by go_simp, rfl⟩)) ?_
    refine StepsOk.cons (stepOk_pure [(3, 24)] [] rfl rfl (by kernel_rfl) (by kernel_rfl) rfl Old.refl' (fun _ _ _ h => h) (fun d E w' hk hda hS hc hf => by rintro _ q3 rfl e24 ; obtain ⟨⟨-, -, -, s3, -, -⟩, -, -, -, ho⟩ := hX.out _ hS; exact ⟨_, by go_simp, rfl⟩)) ?_
    refine StepsOk.cons (stepOk_mk [(2, 23), (4, 25)] [] rfl rfl (by kernel_rfl) (by kernel_rfl) rfl ?_) ?_
    · rintro d a w' hk hda hS _ q2 rfl e23 _ q4 rfl e25 
      first | refine Given.nil (Known.nil ?_) | refine Known.nil ?_
      refine wp_call 31 _ Try.func31 (by kernel_rfl) (by kernel_rfl) _ _ (by rfl) [.pointer (some ⟨g, 2, none⟩), .int .i64 i] (by simp only [List.map_cons, List.map_nil, *]; try rfl) (cG.out _ (hX.out _ hS).2.2.2.2) ?_
      rintro e w1 ⟨rfl, rfl⟩
      exact ⟨_, rfl, _, rfl, rfl, Old.refl' _, hS⟩
    refine StepsOk.cons (stepOk_pure [(5, 26)] [] rfl rfl (by kernel_rfl) (by kernel_rfl) rfl Old.refl' (fun _ _ _ h => h) (fun d E w' hk hda hS hc hf => by rintro _ q5 rfl e26 ; exact ⟨_, by go_simp, rfl⟩)) ?_
    refine StepsOk.cons (stepOk_pure [(6, 20)] [] rfl rfl (by kernel_rfl) (by kernel_rfl) rfl Old.refl' (fun _ _ _ h => h) (fun d E w' hk hda hS hc hf => by rintro _ q6 rfl e20 ; exact ⟨_, by go_simp, rfl⟩)) ?_
    refine StepsOk.cons (stepOk_pure [(6, 20)] [] rfl rfl (by kernel_rfl) (by kernel_rfl) rfl Old.refl' (fun _ _ _ h => h) (fun d E w' hk hda hS hc hf => by rintro _ q6 rfl e20 ; exact ⟨_, by go_simp, rfl⟩)) ?_
    refine StepsOk.cons (stepOk_pure [(7, 27)] [] rfl rfl (by kernel_rfl) (by kernel_rfl) rfl Old.refl' (fun _ _ _ h => h) (fun d E w' hk hda hS hc hf => by rintro _ q7 rfl e27 ; exact ⟨_, by go_simp, rfl⟩)) ?_
    refine StepsOk.cons (stepOk_pure [(8, 28)] [] rfl rfl (by kernel_rfl) (by kernel_rfl) rfl Old.refl' (fun _ _ _ h => h) (fun d E w' hk hda hS hc hf => by rintro _ q8 rfl e28 ; exact ⟨_, by go_simp, rfl⟩)) ?_
    exact StepsOk.nil
  case ends =>
    intro σ9 w9 hS9 hA9
    refine Ends.eqv (some 21) (.pointer (some ⟨g, 0, none⟩)) rfl (fun _ h => h) ?_
    refine Ends.eqv (some 22) (.pointer (some ⟨g, 0, none⟩)) rfl (fun _ h => h) ?_
    refine Ends.eqv (some 23) (.pointer (some ⟨g, 2, none⟩)) rfl (fun _ h => h) ?_
    refine Ends.eqv (some 24) (.pointer (some ⟨w.heap.size, 3, none⟩)) rfl (fun _ h => h) ?_
    refine Ends.eqv (some 25) (.int .i64 i) rfl (fun _ h => h) ?_
    refine Ends.eqv (some 26) (.tuple #[.slice A n cc, .bool fl]) rfl (fun _ h => h) ?_
    refine Ends.eqv (some 20) (.tuple #[.slice A n cc, .bool fl]) rfl (fun _ h => h) ?_
    refine Ends.eqv (some 27) (.slice A n cc) rfl (fun _ h => h) ?_
    refine Ends.eqv (some 28) (.bool fl) rfl (fun _ h => h) ?_
    refine Ends.eqv (some 6) (.slice A n cc) rfl (fun _ h => h) ?_
    refine Ends.eqv (some 7) (.bool fl) rfl (fun _ h => h) ?_
    refine Ends.nil ?_
    clear hA9
    simp only [put_lit, put_none, List.set_cons_zero, List.set_cons_succ]
    clear x0 x1 x2 x3 x4 x5 y0 y1 y2 y3 f0 f1 f2 f3 l1 o1 hbb
    obtain ⟨⟨x0, x1, x2, x3, x4, x5⟩, ⟨y0, y1, y2, y3⟩, ⟨f0, f1, f2, f3⟩, l1, o1⟩ := hX.out _ hS9
    go_wp2_with fail
    refine (cA.out _ o1).mono ?_
    rintro e w3 ⟨A2, c2, rfl, hi, hnew, hb3⟩
    have hne : ∀ a, A2 = some a → a.block ≠ w.heap.size + 1 := fun a ha => by have := hnew a ha; omega
    have hbb := hS9.trans' hb3
    clear x0 x1 x2 x3 x4 x5 y0 y1 y2 y3 f0 f1 f2 f3 l1 o1 hS9 hb3
    obtain ⟨-, ⟨y0, y1, y2, y3⟩, ⟨f0, f1, f2, f3⟩, l1, o1⟩ := hX.out _ hbb
    go_wp2_with fail
    refine bodyPost_ret (v := .tuple #[.agg #[.int .i64 R.code, .int .i64 R.ver, .string R.data, .slice A2 nR c2], .int .i64 0]) ?_ rfl ⟨A2, c2, rfl, ?_, ?_⟩
    · simp [results, Try.results26, go_sem, *]
    · have hi' : CellsAt w3 A2 (R.vs.map (Value.int .i64)) := hi
      show CellsAt _ _ _
      repeat (first | with_reducible exact hi' | with_reducible refine CellsAt.set_ ?_ hne _)
    · repeat (first | with_reducible exact o1 | with_reducible refine Old.setCell' ?_ (by simp) _)
end Go.Proofs.Ytcbnibldlbnkbaa
