/- casebookref18.L: Put, Take. -/
import Derived.Deep.CutBlock
import Derived.Test.YtmhnlpilbbfgnaaHXlA
import Derived.Test.YtmhnlpilbbfgnaaHLnU
import Derived.Test.YtmhnlpilbbfgnaaHLi
import Derived.Test.YtmhnlpilbbfgnaaHSd
namespace Go.Proofs.Ytmhnlpilbbfgnaa
open Go.RowKit

theorem own_mk0 {base : Nat} {e : TypeId} {size : Nat} (W : World) (h : base ≤ W.heap.size) : (W.alloc (.cells #[] e)).ownsRow base e size (.slice (some ⟨W.heap.size, 0, none⟩) 0 0) 0 [] :=
  World.ownsRow_made (base := base) (e := e) (size := size) W #[] 0 h (by decide) (by simp)
theorem wpOp_appD {P : Program} {ops : Array Oper} {Q : Exit → Act → World → Prop} {i : Nat} {o : Oper} {K : Act → World → Prop} {a : Act} {w : World} (d : Option Tmp) (hio : ops[i]? = some o) (hd : o.dst = d) (hg : o.guard = none) (s x : Operand) (t : TypeId)
    (ho : o.op = .call { callee := .builtin .append, args := #[s, x], argTypes := #[t, t] })
    (base : Nat) (e : TypeId) (j : TypeInfo) (z : Value) (size bytes : Nat) (ht : P.underlying t = some (.slice e)) (hi : P.info? e = some j) (hz : j.zero = some z)
    (hsize : j.size = size) (hby : j.bytes = bytes) (hzs : z.cells.size = size) (hsz : 0 < size)
    (v : Value) (n : Nat) (xs : List Value) (hs : a.eval s = v) (hown : w.ownsRow base e size v n xs)
    (A : Option Addr) (m c : Nat) (news : List Value) (hx : a.eval x = .slice A m c) (hl : news.length = m * size) (hA : CellsAt w A news) (h1 : ∀ u ∈ news, u.oneCell' = true)
    (h63 : n + m ≤ maxLen) (hbytes : (n + m) * bytes ≤ 140737488355328) (hbase : base ≤ w.heap.size) (N : Nat) (hN : n + m = N) (ys : List Value) (hy : xs ++ news = ys)
    (h : ∀ A' c' w', Apps w base e size v N ys (.slice A' N c') w' → K (a.put d (.slice A' N c')) w') : wpOp P ops Q i K a w := by
  subst hd
  exact wpOp_mk hio hg (wp_app w s x t ho base e j z size bytes ht hi hz hsize hby hzs hsz v n xs hs hown A m c news hx hl hA h1 h63 hbytes hbase N hN ys hy h)
theorem box1 {w W : World} {c s k i m : Int} {d : ByteArray} (h : Old (w.alloc (.cells #[.int .i64 c, .int .i64 s, .int .i64 k, .int .i64 i, .int .i64 m, .string d] 23)) W) :
    (W.cell? ⟨w.heap.size, 0, none⟩ = some (.int .i64 c) ∧ W.cell? ⟨w.heap.size, 1, none⟩ = some (.int .i64 s) ∧ W.cell? ⟨w.heap.size, 2, none⟩ = some (.int .i64 k) ∧ W.cell? ⟨w.heap.size, 3, none⟩ = some (.int .i64 i) ∧ W.cell? ⟨w.heap.size, 4, none⟩ = some (.int .i64 m) ∧ W.cell? ⟨w.heap.size, 5, none⟩ = some (.string d)) ∧ w.heap.size < W.heap.size ∧ Old w W := by
  obtain ⟨hq, hl⟩ := bk6 ((Bk.new w 23 #[.int .i64 c, .int .i64 s, .int .i64 k, .int .i64 i, .int .i64 m, .string d]).old h)
  exact ⟨hq, hl, ((Old.refl' w).alloc' _).trans' h⟩
theorem cells_one {qs : List ReqV} : ∀ u ∈ qs.flatMap ReqV.cells, u.oneCell' = true := by
  intro u hu
  obtain ⟨q, -, hq⟩ := List.mem_flatMap.1 hu
  simp only [ReqV.cells, List.mem_cons, List.not_mem_nil, or_false] at hq
  rcases hq with rfl | rfl | rfl | rfl | rfl | rfl <;> rfl
/-- a request more -/
theorem XlAt.push {w W9 w3 : World} {x : Nat} {F : Nat → Prop} {l : LnV} {A2 : Option Addr} {c2 : Nat} {c s k i m : Int} {d : ByteArray} (h : XlAt w x F l) (n : Nat) (hn : l.qs.length = n) (ho : Old w W9) (ho3 : Old W9 w3)
    (own : w3.ownsRow W9.heap.size 23 6 (.slice A2 (n + 1) c2) (n + 1) (l.qs.flatMap ReqV.cells ++ [.int .i64 c, .int .i64 s, .int .i64 k, .int .i64 i, .int .i64 m, .string d])) :
    (∃ F', XlAt (w3.setCell ⟨x, 1, none⟩ (.slice A2 (n + 1) c2)) x F' ⟨l.quota, l.qs ++ [⟨c, s, k, i, m, d⟩], l.k⟩ ∧ ∀ b, F' b → F b ∨ w.heap.size ≤ b) ∧ Fr F w (w3.setCell ⟨x, 1, none⟩ (.slice A2 (n + 1) c2)) := by
  subst hn
  have hxl := h.lt x h.gF
  have h3 := h.old (ho.trans' ho3)
  obtain ⟨A, c', hb, hr, hA⟩ := h3.ex
  have hblk : ∀ a, A2 = some a → W9.heap.size ≤ a.block ∧ a.block < w3.heap.size := fun a ha => by
    subst ha
    obtain ⟨h1, cs, h2⟩ := own_blk own (k := a.block) rfl
    exact ⟨h1, h2.lt⟩
  have hs := ho.size
  refine ⟨⟨fun k => F k ∨ ∃ a, A2 = some a ∧ a.block = k, ⟨⟨A2, c2, ?_, ?_, fun _ a ha => ⟨.inr ⟨a, ha, rfl⟩, by have := (hblk a ha).1; omega⟩⟩, .inl h.gF, fun k hk => ?_⟩, fun b hb => ?_⟩, ?_⟩
  · have := hb.set_ 1 (.slice A2 (l.qs.length + 1) c2)
    simpa using this
  · show CellsAt _ _ ((l.qs ++ [(⟨c, s, k, i, m, d⟩ : ReqV)]).flatMap ReqV.cells)
    rw [List.flatMap_append]
    exact CellsAt.set_ (CellsAt.of_own own) (fun a ha => by have := (hblk a ha).1; show a.block ≠ x; omega) _
  · rcases hk with hk | ⟨a, ha, rfl⟩
    · have := h3.lt k hk; simpa using this
    · have := (hblk a ha).2; simpa using this
  · rcases hb with hb | ⟨a, ha, rfl⟩
    · exact .inl hb
    · exact .inr (Nat.le_trans hs (hblk a ha).1)
  · exact Fr.setCell (Fr.of_old (ho.trans' ho3)) (.inr h.gF) _

set_option maxRecDepth 100000 in
set_option maxHeartbeats 1000000 in
theorem XPut_arg (x : Nat) (q : ReqV) (hq : (q.q.may && Writes q.kind) = false) (w : World) :
    Calls Try.prog 57 #[.pointer (some ⟨x, 0, none⟩), .agg #[.int .i64 q.client, .int .i64 q.seq, .int .i64 q.kind, .int .i64 q.id, .int .i64 q.mat, .string q.data]] w fun e w' => e = .returned (.tuple #[.int .i64 0, .int .i64 1]) ∧ Old w w' := by
  obtain ⟨c, s, k, i, m, d⟩ := q
  simp only [ReqV.q] at hq
  obtain ⟨b1, h1⟩ : ∃ b, mayQ c s k i m d = b := ⟨_, rfl⟩
  have cM := hide (fun (W : World) => rMay_at c s k i m d b1 h1 W)
  have hX := hide (fun (W : World) (h : Old (w.alloc (.cells #[.int .i64 c, .int .i64 s, .int .i64 k, .int .i64 i, .int .i64 m, .string d] 23)) W) => box1 h)
  cases b1 with
  | false =>
    clear hq h1
    go_enter Try.func57, Try.ntmps57
    go_wp2_with (go_at_call 25; refine (cM.out _).mono ?_; rintro e w1 ⟨rfl, hb1⟩; obtain ⟨⟨x0, x1, x2, x3, x4, x5⟩, l1, o1⟩ := hX.out _ hb1)
    refine bodyPost_ret (v := .tuple #[.int .i64 0, .int .i64 1]) ?_ rfl ⟨rfl, o1⟩
    simp [results, Try.results57, go_sem]
  | true =>
    have hw : Writes k = false := by simpa [Q.may, h1] using hq
    have cW := hide (fun (W : World) => rWrites_at c s k i m d false hw W)
    clear hq h1 hw
    go_enter Try.func57, Try.ntmps57
    go_wp2_with (first
      | (go_at_call 25; refine (cM.out _).mono ?_; rintro e w1 ⟨rfl, hb1⟩; obtain ⟨⟨x0, x1, x2, x3, x4, x5⟩, l1, o1⟩ := hX.out _ hb1)
      | (go_at_call 26; refine (cW.out _).mono ?_; rintro e w2 ⟨rfl, hb2⟩; clear x0 x1 x2 x3 x4 x5 l1 o1; obtain ⟨⟨x0, x1, x2, x3, x4, x5⟩, l1, o1⟩ := hX.out _ (hb1.trans' hb2); have hbb := hb1.trans' hb2; clear hb1 hb2))
    refine bodyPost_ret (v := .tuple #[.int .i64 0, .int .i64 1]) ?_ rfl ⟨rfl, o1⟩
    simp [results, Try.results57, go_sem]
set_option maxRecDepth 100000 in
set_option maxHeartbeats 2000000 in
theorem XPut_order (x : Nat) (F : Nat → Prop) (l : LnV) (hfew : l.qs.length ≤ 50000) (q : ReqV) (hq : (q.q.may && Writes q.kind) = true) (hs : ¬ lastSeq l.qs q.client < q.seq) (w : World) (h : XlAt w x F l) :
    Calls Try.prog 57 #[.pointer (some ⟨x, 0, none⟩), .agg #[.int .i64 q.client, .int .i64 q.seq, .int .i64 q.kind, .int .i64 q.id, .int .i64 q.mat, .string q.data]] w fun e w' => e = .returned (.tuple #[.int .i64 0, .int .i64 9]) ∧ Old w w' := by
  obtain ⟨c, s, k, i, m, d⟩ := q
  simp only [ReqV.q, Q.may, Bool.and_eq_true] at hq hs ⊢
  obtain ⟨h1, h2⟩ := hq
  obtain ⟨sq, hsq⟩ : ∃ v, lastSeq l.qs c = v := ⟨_, rfl⟩
  rw [hsq] at hs
  have hle : s ≤ sq := by omega
  have cM := hide (fun (W : World) => rMay_at c s k i m d true h1 W)
  have cW := hide (fun (W : World) => rWrites_at c s k i m d true h2 W)
  have cS := hide (fun (W : World) (hW : Old w W) => by have := XSeq_any x F l hfew c W (h.old hW); rw [hsq] at this; exact this)
  have hX := hide (fun (W : World) (h : Old (w.alloc (.cells #[.int .i64 c, .int .i64 s, .int .i64 k, .int .i64 i, .int .i64 m, .string d] 23)) W) => box1 h)
  clear h1 h2 hs hsq h hfew
  go_enter Try.func57, Try.ntmps57
  go_wp2_with (first
    | (go_at_call 25; refine (cM.out _).mono ?_; rintro e w1 ⟨rfl, hb1⟩; obtain ⟨⟨x0, x1, x2, x3, x4, x5⟩, l1, o1⟩ := hX.out _ hb1)
    | (go_at_call 26; refine (cW.out _).mono ?_; rintro e w2 ⟨rfl, hb2⟩; clear x0 x1 x2 x3 x4 x5 l1 o1; obtain ⟨⟨x0, x1, x2, x3, x4, x5⟩, l1, o1⟩ := hX.out _ (hb1.trans' hb2); have hbb := hb1.trans' hb2; clear hb1 hb2))
  refine region_steps (R := pick [eqv (.pointer (some ⟨w.heap.size, 1, none⟩)), eqv (.int .i64 s), eqv (.pointer (some ⟨x, 0, none⟩)), eqv (.pointer (some ⟨w.heap.size, 0, none⟩)), eqv (.int .i64 c), eqv (.int .i64 sq), eqv (.bool true)]) (S := fun _ w' => Old (w.alloc (.cells #[.int .i64 c, .int .i64 s, .int .i64 k, .int .i64 i, .int .i64 m, .string d] 23)) w') (T := Old) (by kernel_rfl) (by kernel_rfl) (by kernel_rfl) (Stab.pick (Stab.eqv (Stab.eqv (Stab.eqv (Stab.eqv (Stab.eqv (Stab.eqv (Stab.eqv (Stab.nil))))))))) (hbb.drew') ?steps ?ends
  case steps =>
    refine StepsOk.cons (stepOk_pure [] [(3, .pointer (some ⟨w.heap.size, 0, none⟩))] rfl rfl (by kernel_rfl) (by kernel_rfl) rfl Old.refl' (fun _ _ _ h => h) (fun d E w' hk hda hS hc hf => by rintro  e3; exact ⟨_, by go_simp, rfl⟩)) ?_
    refine StepsOk.cons (stepOk_pure [(0, 14)] [] rfl rfl (by kernel_rfl) (by kernel_rfl) rfl Old.refl' (fun _ _ _ h => h) (fun d E w' hk hda hS hc hf => by rintro _ q0 rfl e14 ; obtain ⟨⟨s0, s1, s2, s3, s4, s5⟩, -, -⟩ := hX.out _ hS; exact ⟨_, by go_simp, rfl⟩)) ?_
    refine StepsOk.cons (stepOk_pure [] [(0, .pointer (some ⟨x, 0, none⟩))] rfl rfl (by kernel_rfl) (by kernel_rfl) rfl Old.refl' (fun _ _ _ h => h) (fun d E w' hk hda hS hc hf => by rintro  e0; exact ⟨_, by go_simp, rfl⟩)) ?_
    refine StepsOk.cons (stepOk_pure [] [(3, .pointer (some ⟨w.heap.size, 0, none⟩))] rfl rfl (by kernel_rfl) (by kernel_rfl) rfl Old.refl' (fun _ _ _ h => h) (fun d E w' hk hda hS hc hf => by rintro  e3; exact ⟨_, by go_simp, rfl⟩)) ?_
    refine StepsOk.cons (stepOk_pure [(3, 17)] [] rfl rfl (by kernel_rfl) (by kernel_rfl) rfl Old.refl' (fun _ _ _ h => h) (fun d E w' hk hda hS hc hf => by rintro _ q3 rfl e17 ; obtain ⟨⟨s0, s1, s2, s3, s4, s5⟩, -, -⟩ := hX.out _ hS; exact ⟨_, by go_simp, rfl⟩)) ?_
    refine StepsOk.cons (stepOk_mk [(2, 16), (4, 18)] [] rfl rfl (by kernel_rfl) (by kernel_rfl) rfl ?_) ?_
    · rintro d a w' hk hda hS _ q2 rfl e16 _ q4 rfl e18 
      first | refine Given.nil (Known.nil ?_) | refine Known.nil ?_
      refine wp_call 61 _ Try.func61 (by kernel_rfl) (by kernel_rfl) _ _ (by rfl) [.pointer (some ⟨x, 0, none⟩), .int .i64 c] (by simp only [List.map_cons, List.map_nil, *]; try rfl) (cS.out _ (hX.out _ hS).2.2) ?_
      rintro e w1 ⟨rfl, rfl⟩
      exact ⟨_, rfl, _, rfl, rfl, Old.refl' _, hS⟩
    refine StepsOk.cons (stepOk_pure [(1, 15), (5, 19)] [] rfl rfl (by kernel_rfl) (by kernel_rfl) rfl Old.refl' (fun _ _ _ h => h) (fun d E w' hk hda hS hc hf => by rintro _ q1 rfl e15 _ q5 rfl e19 ; exact ⟨_, by go_simp, rfl⟩)) ?_
    exact StepsOk.nil
  case ends =>
    intro σ9 w9 hS9 hA9
    refine Ends.eqv (some 14) (.pointer (some ⟨w.heap.size, 1, none⟩)) rfl (fun _ h => h) ?_
    refine Ends.eqv (some 15) (.int .i64 s) rfl (fun _ h => h) ?_
    refine Ends.eqv (some 16) (.pointer (some ⟨x, 0, none⟩)) rfl (fun _ h => h) ?_
    refine Ends.eqv (some 17) (.pointer (some ⟨w.heap.size, 0, none⟩)) rfl (fun _ h => h) ?_
    refine Ends.eqv (some 18) (.int .i64 c) rfl (fun _ h => h) ?_
    refine Ends.eqv (some 19) (.int .i64 sq) rfl (fun _ h => h) ?_
    refine Ends.eqv (some 20) (.bool true) rfl (fun _ h => h) ?_
    refine Ends.nil ?_
    clear hA9
    simp only [put_lit, put_none, List.set_cons_zero, List.set_cons_succ]
    clear x0 x1 x2 x3 x4 x5 l1 o1 hbb
    obtain ⟨⟨x0, x1, x2, x3, x4, x5⟩, l1, o1⟩ := hX.out _ hS9
    go_wp2_with fail
    refine bodyPost_ret (v := .tuple #[.int .i64 0, .int .i64 9]) ?_ rfl ⟨rfl, o1⟩
    simp [results, Try.results57, go_sem]
set_option maxRecDepth 100000 in
set_option maxHeartbeats 4000000 in
theorem XPut_done (x : Nat) (F : Nat → Prop) (l : LnV) (n : Nat) (hn : l.qs.length = n) (hfew : n ≤ 50000) (q : ReqV) (hq : (q.q.may && Writes q.kind) = true) (hs : lastSeq l.qs q.client < q.seq) (w : World) (h : XlAt w x F l) :
    Calls Try.prog 57 #[.pointer (some ⟨x, 0, none⟩), .agg #[.int .i64 q.client, .int .i64 q.seq, .int .i64 q.kind, .int .i64 q.id, .int .i64 q.mat, .string q.data]] w fun e w' => e = .returned (.tuple #[.int .i64 ((n : Int) + 1), .int .i64 0]) ∧
      (∃ F', XlAt w' x F' ⟨l.quota, l.qs ++ [q], l.k⟩ ∧ ∀ b, F' b → F b ∨ w.heap.size ≤ b) ∧ Fr F w w' := by
  obtain ⟨i0, hi, hz0, hz1, hz2⟩ := info_parts info_ReqH
  obtain ⟨c, s, k, i, m, d⟩ := q
  simp only [ReqV.q, Q.may, Bool.and_eq_true] at hq hs ⊢
  obtain ⟨h1, h2⟩ := hq
  obtain ⟨sq, hsq⟩ : ∃ v, lastSeq l.qs c = v := ⟨_, rfl⟩
  rw [hsq] at hs
  have hle : ¬ s ≤ sq := by omega
  have cM := hide (fun (W : World) => rMay_at c s k i m d true h1 W)
  have cW := hide (fun (W : World) => rWrites_at c s k i m d true h2 W)
  have cS := hide (fun (W : World) (hW : Old w W) => by have := XSeq_any x F l (by omega) c W (h.old hW); rw [hsq] at this; exact this)
  have hX := hide (fun (W : World) (h : Old (w.alloc (.cells #[.int .i64 c, .int .i64 s, .int .i64 k, .int .i64 i, .int .i64 m, .string d] 23)) W) => box1 h)
  have hxl := h.lt x h.gF
  have HH := hide h
  have HN := hide hn
  have hlen : (l.qs.flatMap ReqV.cells).length = n * 6 := by rw [reqCells_length5, hn]
  obtain ⟨A, ca, hsee⟩ := h.see hn
  have c1 := hsee.c1
  have f1 := hsee.f1
  have hrow0 := hsee.row
  have h1' : (n : Int) ≤ 50000 := by omega
  clear h1 h2 hs hsq h hsee hn
  go_enter Try.func57, Try.ntmps57
  go_wp2_with (first
    | (go_at_call 25; refine (cM.out _).mono ?_; rintro e w1 ⟨rfl, hb1⟩; obtain ⟨⟨x0, x1, x2, x3, x4, x5⟩, l1, o1⟩ := hX.out _ hb1)
    | (go_at_call 26; refine (cW.out _).mono ?_; rintro e w2 ⟨rfl, hb2⟩; clear x0 x1 x2 x3 x4 x5 l1 o1; obtain ⟨⟨x0, x1, x2, x3, x4, x5⟩, l1, o1⟩ := hX.out _ (hb1.trans' hb2); have hbb := hb1.trans' hb2; clear hb1 hb2))
  refine region_steps (R := pick [eqv (.pointer (some ⟨w.heap.size, 1, none⟩)), eqv (.int .i64 s), eqv (.pointer (some ⟨x, 0, none⟩)), eqv (.pointer (some ⟨w.heap.size, 0, none⟩)), eqv (.int .i64 c), eqv (.int .i64 sq), eqv (.bool false)]) (S := fun _ w' => Old (w.alloc (.cells #[.int .i64 c, .int .i64 s, .int .i64 k, .int .i64 i, .int .i64 m, .string d] 23)) w') (T := Old) (by kernel_rfl) (by kernel_rfl) (by kernel_rfl) (Stab.pick (Stab.eqv (Stab.eqv (Stab.eqv (Stab.eqv (Stab.eqv (Stab.eqv (Stab.eqv (Stab.nil))))))))) (hbb.drew') ?steps ?ends
  case steps =>
    refine StepsOk.cons (stepOk_pure [] [(3, .pointer (some ⟨w.heap.size, 0, none⟩))] rfl rfl (by kernel_rfl) (by kernel_rfl) rfl Old.refl' (fun _ _ _ h => h) (fun d E w' hk hda hS hc hf => by rintro  e3; exact ⟨_, by go_simp, rfl⟩)) ?_
    refine StepsOk.cons (stepOk_pure [(0, 14)] [] rfl rfl (by kernel_rfl) (by kernel_rfl) rfl Old.refl' (fun _ _ _ h => h) (fun d E w' hk hda hS hc hf => by rintro _ q0 rfl e14 ; obtain ⟨⟨s0, s1, s2, s3, s4, s5⟩, -, -⟩ := hX.out _ hS; exact ⟨_, by go_simp, rfl⟩)) ?_
    refine StepsOk.cons (stepOk_pure [] [(0, .pointer (some ⟨x, 0, none⟩))] rfl rfl (by kernel_rfl) (by kernel_rfl) rfl Old.refl' (fun _ _ _ h => h) (fun d E w' hk hda hS hc hf => by rintro  e0; exact ⟨_, by go_simp, rfl⟩)) ?_
    refine StepsOk.cons (stepOk_pure [] [(3, .pointer (some ⟨w.heap.size, 0, none⟩))] rfl rfl (by kernel_rfl) (by kernel_rfl) rfl Old.refl' (fun _ _ _ h => h) (fun d E w' hk hda hS hc hf => by rintro  e3; exact ⟨_, by go_simp, rfl⟩)) ?_
    refine StepsOk.cons (stepOk_pure [(3, 17)] [] rfl rfl (by kernel_rfl) (by kernel_rfl) rfl Old.refl' (fun _ _ _ h => h) (fun d E w' hk hda hS hc hf => by rintro _ q3 rfl e17 ; obtain ⟨⟨s0, s1, s2, s3, s4, s5⟩, -, -⟩ := hX.out _ hS; exact ⟨_, by go_simp, rfl⟩)) ?_
    refine StepsOk.cons (stepOk_mk [(2, 16), (4, 18)] [] rfl rfl (by kernel_rfl) (by kernel_rfl) rfl ?_) ?_
    · rintro d a w' hk hda hS _ q2 rfl e16 _ q4 rfl e18 
      first | refine Given.nil (Known.nil ?_) | refine Known.nil ?_
      refine wp_call 61 _ Try.func61 (by kernel_rfl) (by kernel_rfl) _ _ (by rfl) [.pointer (some ⟨x, 0, none⟩), .int .i64 c] (by simp only [List.map_cons, List.map_nil, *]; try rfl) (cS.out _ (hX.out _ hS).2.2) ?_
      rintro e w1 ⟨rfl, rfl⟩
      exact ⟨_, rfl, _, rfl, rfl, Old.refl' _, hS⟩
    refine StepsOk.cons (stepOk_pure [(1, 15), (5, 19)] [] rfl rfl (by kernel_rfl) (by kernel_rfl) rfl Old.refl' (fun _ _ _ h => h) (fun d E w' hk hda hS hc hf => by rintro _ q1 rfl e15 _ q5 rfl e19 ; exact ⟨_, by go_simp, rfl⟩)) ?_
    exact StepsOk.nil
  case ends =>
    intro σ9 w9 hS9 hA9
    refine Ends.eqv (some 14) (.pointer (some ⟨w.heap.size, 1, none⟩)) rfl (fun _ h => h) ?_
    refine Ends.eqv (some 15) (.int .i64 s) rfl (fun _ h => h) ?_
    refine Ends.eqv (some 16) (.pointer (some ⟨x, 0, none⟩)) rfl (fun _ h => h) ?_
    refine Ends.eqv (some 17) (.pointer (some ⟨w.heap.size, 0, none⟩)) rfl (fun _ h => h) ?_
    refine Ends.eqv (some 18) (.int .i64 c) rfl (fun _ h => h) ?_
    refine Ends.eqv (some 19) (.int .i64 sq) rfl (fun _ h => h) ?_
    refine Ends.eqv (some 20) (.bool false) rfl (fun _ h => h) ?_
    refine Ends.nil ?_
    clear hA9
    simp only [put_lit, put_none, List.set_cons_zero, List.set_cons_succ]
    clear x0 x1 x2 x3 x4 x5 l1 o1 hbb
    obtain ⟨⟨x0, x1, x2, x3, x4, x5⟩, l1, o1⟩ := hX.out _ hS9
    clear x0 x1 x2 x3 x4 x5 l1
    go_wp2_with fail
    obtain ⟨WB, hWB⟩ : ∃ W : World, W = w9 := ⟨_, rfl⟩
    rw [← hWB] at o1 hS9
    simp only [← hWB]
    clear hWB
    have hrow := CellsAt.old hrow0 o1
    have hY := hide (fun (W : World) (hW : Old WB W) => (⟨(hX.out W (hS9.trans' hW)).1, ((o1.trans' hW).cell (p := ⟨x, 1, none⟩) hxl).trans c1⟩ : _ ∧ W.cell? ⟨x, 1, none⟩ = some (.slice A n ca)))
    have hF := hide (fun (W : World) (hW : Old WB W) => (⟨((o1.trans' hW).cell (p := ⟨x, 1, none⟩) hxl).trans c1, ((o1.trans' hW).frozen (p := ⟨x, 1, none⟩) hxl).trans f1⟩ : W.cell? ⟨x, 1, none⟩ = some (.slice A n ca) ∧ W.frozen? ⟨x, 1, none⟩ = false))
    have HO := hide o1
    clear hS9 c1 f1 hrow0 cS cM cW o1
    refine wp_region_Z (S := fun w' => Old WB w') (Z := ([12] : List Nat).contains) (by kernel_rfl) ?_
    refine wpAnyZ_pureD 0 (some 21) (.pointer (some ⟨x, 0, none⟩)) rfl rfl (by kernel_rfl) (by kernel_rfl) (by kernel_rfl) (fun _ _ _ h => h) (Or.inl ⟨by kernel_rfl, fun w _ => by generalize hE : Act.eval _ = E; have e0 : E (.tmp 0) = .pointer (some ⟨x, 0, none⟩) := (by rw [← hE]; kernel_rfl); clear hE; go_simp⟩) ?_
    refine wpAnyZ_pureD 2 (some 23) (.pointer (some ⟨x, 0, none⟩)) rfl rfl (by kernel_rfl) (by kernel_rfl) (by kernel_rfl) (fun _ _ _ h => h) (Or.inl ⟨by kernel_rfl, fun w _ => by generalize hE : Act.eval _ = E; have e0 : E (.tmp 0) = .pointer (some ⟨x, 0, none⟩) := (by rw [← hE]; kernel_rfl); clear hE; go_simp⟩) ?_
    refine wpAnyZ_pureD 3 (some 24) (.pointer (some ⟨x, 0, none⟩)) rfl rfl (by kernel_rfl) (by kernel_rfl) (by kernel_rfl) (fun _ _ _ h => h) (Or.inl ⟨by kernel_rfl, fun w _ => by generalize hE : Act.eval _ = E; have e0 : E (.tmp 23) = .pointer (some ⟨x, 0, none⟩) := (by rw [← hE]; kernel_rfl); clear hE; go_simp⟩) ?_
    refine wpAnyZ_pureD 4 (some 25) (.pointer (some ⟨x, 1, none⟩)) rfl rfl (by kernel_rfl) (by kernel_rfl) (by kernel_rfl) (fun _ _ _ h => h) (Or.inl ⟨by kernel_rfl, fun w _ => by generalize hE : Act.eval _ = E; have e0 : E (.tmp 24) = .pointer (some ⟨x, 0, none⟩) := (by rw [← hE]; kernel_rfl); clear hE; go_simp⟩) ?_
    refine wpAnyZ_takeD 5 (some 26) (.slice A n ca) rfl rfl (by kernel_rfl) (by kernel_rfl) (by kernel_rfl) (by kernel_rfl) (fun _ _ _ h => h) (Or.inl ⟨by kernel_rfl, fun w' hS => by obtain ⟨⟨s0, s1, s2, s3, s4, s5⟩, t1⟩ := hY.out _ hS; generalize hE : Act.eval _ = E; have e0 : E (.tmp 25) = .pointer (some ⟨x, 1, none⟩) := (by rw [← hE]; kernel_rfl); clear hE; go_simp⟩) (by exact (Old.refl' WB).drew') ?_
    refine wpAnyZ_takeD 7 (some 28) (.agg #[.int .i64 c, .int .i64 s, .int .i64 k, .int .i64 i, .int .i64 m, .string d]) rfl rfl (by kernel_rfl) (by kernel_rfl) (by kernel_rfl) (by kernel_rfl) (fun _ _ _ h => h) (Or.inl ⟨by kernel_rfl, fun w' hS => by obtain ⟨⟨s0, s1, s2, s3, s4, s5⟩, t1⟩ := hY.out _ hS; generalize hE : Act.eval _ = E; have e0 : E (.tmp 3) = .pointer (some ⟨w.heap.size, 0, none⟩) := (by rw [← hE]; kernel_rfl); clear hE; go_simp⟩) (by exact (Old.refl' WB).drew') ?_
    refine wpAnyZ_all (rs := [1, 8]) (by kernel_rfl) (by simp) ?_
    intro j hj
    simp only [List.mem_cons, List.not_mem_nil, or_false] at hj
    rcases hj with rfl | rfl
    · refine wpOp_runD (w' := WB.drew.alloc (.cells #[] 23)) (some 22) (.slice (some ⟨WB.drew.heap.size, 0, none⟩) 0 0) rfl rfl rfl (by go_simp; try rfl) ⟨.inr fun h => h.alloc' _, ?_⟩
      refine wpAnyZ_all (rs := [6, 8]) (by kernel_rfl) (by simp) ?_
      intro j hj
      simp only [List.mem_cons, List.not_mem_nil, or_false] at hj
      rcases hj with rfl | rfl
      · refine wpOp_appD (some 27) rfl rfl rfl (.tmp 22) (.tmp 26) 38 rfl WB.heap.size 23 i0 (.agg #[.int .i64 0, .int .i64 0, .int .i64 0, .int .i64 0, .int .i64 0, .string { data := #[] }]) 6 56 Try.underlying38 hi hz0 hz1 hz2 rfl (by decide) (.slice (some ⟨WB.drew.heap.size, 0, none⟩) 0 0) (0) ([]) (by kernel_rfl) ((own_mk0 WB.drew (by first | exact Nat.le_refl _ | (simp; done) | (simp; omega)) : (WB.drew.alloc (.cells #[] 23)).ownsRow WB.heap.size 23 6 (.slice (some ⟨WB.drew.heap.size, 0, none⟩) 0 0) 0 [])) (A) (n) (ca) (l.qs.flatMap ReqV.cells) (by kernel_rfl) (hlen) (CellsAt.old hrow ((Old.refl' WB).drew'.alloc' _)) (cells_one) (by unfold maxLen; omega) (by omega) ((((Old.refl' WB).drew'.alloc' _)).size) (n) (Nat.zero_add _) (l.qs.flatMap ReqV.cells) (List.nil_append _) ?_
        intro A1 c1 w2 h2
        have o2 : Old WB w2 := h2.old ((Old.refl' WB).drew'.alloc' _) (fun k hk => by simp [Value.ownBlock] at hk; omega)
        refine ⟨.inr fun _ => o2, ?_⟩
        refine wpAnyZ_one 8 (by kernel_rfl) ?_
        refine wpOp_runD (w' := w2.alloc (.cells #[.int .i64 c, .int .i64 s, .int .i64 k, .int .i64 i, .int .i64 m, .string d] 23)) (some 29) (.slice (some ⟨w2.heap.size, 0, none⟩) 1 1) rfl rfl rfl (by go_simp; try rfl) ⟨.inr fun h => h.alloc' _, ?_⟩
        refine wpAnyZ_one 9 (by kernel_rfl) ?_
        refine wpOp_appD (some 30) rfl rfl rfl (.tmp 27) (.tmp 29) 38 rfl WB.heap.size 23 i0 (.agg #[.int .i64 0, .int .i64 0, .int .i64 0, .int .i64 0, .int .i64 0, .string { data := #[] }]) 6 56 Try.underlying38 hi hz0 hz1 hz2 rfl (by decide) (.slice A1 n c1) (n) (l.qs.flatMap ReqV.cells) (by kernel_rfl) ((h2.own.alloc _)) (some ⟨w2.heap.size, 0, none⟩) (1) (1) ([.int .i64 c, .int .i64 s, .int .i64 k, .int .i64 i, .int .i64 m, .string d]) (by kernel_rfl) (rfl) (cells_bk (Bk.new w2 23 #[.int .i64 c, .int .i64 s, .int .i64 k, .int .i64 i, .int .i64 m, .string d])) (by simp [Value.oneCell']) (by unfold maxLen; omega) (by omega) (((o2.alloc' _)).size) (n + 1) (rfl) (l.qs.flatMap ReqV.cells ++ [.int .i64 c, .int .i64 s, .int .i64 k, .int .i64 i, .int .i64 m, .string d]) (rfl) ?_
        intro A2 c2 w3 h3
        have o3 : Old WB w3 := h3.old (o2.alloc' _) (fun k hk => (h2.own.lt k hk).1)
        refine ⟨.inr fun _ => o3, ?_⟩
        refine wpAnyZ_pureD 10 (some 31) (.pointer (some ⟨x, 0, none⟩)) rfl rfl (by kernel_rfl) (by kernel_rfl) (by kernel_rfl) (fun _ _ _ h => h) (Or.inl ⟨by kernel_rfl, fun w _ => by generalize hE : Act.eval _ = E; have e0 : E (.tmp 21) = .pointer (some ⟨x, 0, none⟩) := (by rw [← hE]; kernel_rfl); clear hE; go_simp⟩) ?_
        refine wpAnyZ_pureD 11 (some 32) (.pointer (some ⟨x, 1, none⟩)) rfl rfl (by kernel_rfl) (by kernel_rfl) (by kernel_rfl) (fun _ _ _ h => h) (Or.inl ⟨by kernel_rfl, fun w _ => by generalize hE : Act.eval _ = E; have e0 : E (.tmp 31) = .pointer (some ⟨x, 0, none⟩) := (by rw [← hE]; kernel_rfl); clear hE; go_simp⟩) ?_
        refine wpAnyZ_one 12 (by kernel_rfl) ?_
        obtain ⟨g1, g2⟩ := hF.out _ o3
        have hfin := hide (HH.out.push n HN.out HO.out o3 h3.own)
        simp only [put_lit, put_none, List.set_cons_zero, List.set_cons_succ]
        refine wpOp_mk rfl rfl ?_
        go_simp
        refine wpAnyZ_end (by kernel_rfl) ?_ _
        try simp only [put_lit, put_none, List.set_cons_zero, List.set_cons_succ]
        clear h2 h3 o2 o3 hX hY hF
        go_wp2_with fail
        refine bodyPost_ret (v := .tuple #[.int .i64 ((n : Int) + 1), .int .i64 0]) ?_ rfl ⟨rfl, hfin.out.1, hfin.out.2⟩
        simp [results, Try.results57, go_sem, *]
      · refine wpOp_runD (w' := (WB.drew.alloc (.cells #[] 23)).alloc (.cells #[.int .i64 c, .int .i64 s, .int .i64 k, .int .i64 i, .int .i64 m, .string d] 23)) (some 29) (.slice (some ⟨(WB.drew.alloc (.cells #[] 23)).heap.size, 0, none⟩) 1 1) rfl rfl rfl (by go_simp; try rfl) ⟨.inr fun h => h.alloc' _, ?_⟩
        refine wpAnyZ_one 6 (by kernel_rfl) ?_
        refine wpOp_appD (some 27) rfl rfl rfl (.tmp 22) (.tmp 26) 38 rfl WB.heap.size 23 i0 (.agg #[.int .i64 0, .int .i64 0, .int .i64 0, .int .i64 0, .int .i64 0, .string { data := #[] }]) 6 56 Try.underlying38 hi hz0 hz1 hz2 rfl (by decide) (.slice (some ⟨WB.drew.heap.size, 0, none⟩) 0 0) (0) ([]) (by kernel_rfl) (((own_mk0 WB.drew (by first | exact Nat.le_refl _ | (simp; done) | (simp; omega)) : (WB.drew.alloc (.cells #[] 23)).ownsRow WB.heap.size 23 6 (.slice (some ⟨WB.drew.heap.size, 0, none⟩) 0 0) 0 [])).alloc _) (A) (n) (ca) (l.qs.flatMap ReqV.cells) (by kernel_rfl) (hlen) (CellsAt.old hrow (((Old.refl' WB).drew'.alloc' _).alloc' _)) (cells_one) (by unfold maxLen; omega) (by omega) (((((Old.refl' WB).drew'.alloc' _).alloc' _)).size) (n) (Nat.zero_add _) (l.qs.flatMap ReqV.cells) (List.nil_append _) ?_
        intro A1 c1 w2 h2
        have o2 : Old WB w2 := h2.old (((Old.refl' WB).drew'.alloc' _).alloc' _) (fun k hk => by simp [Value.ownBlock] at hk; omega)
        refine ⟨.inr fun _ => o2, ?_⟩
        refine wpAnyZ_one 9 (by kernel_rfl) ?_
        refine wpOp_appD (some 30) rfl rfl rfl (.tmp 27) (.tmp 29) 38 rfl WB.heap.size 23 i0 (.agg #[.int .i64 0, .int .i64 0, .int .i64 0, .int .i64 0, .int .i64 0, .string { data := #[] }]) 6 56 Try.underlying38 hi hz0 hz1 hz2 rfl (by decide) (.slice A1 n c1) (n) (l.qs.flatMap ReqV.cells) (by kernel_rfl) (h2.own) (some ⟨(WB.drew.alloc (.cells #[] 23)).heap.size, 0, none⟩) (1) (1) ([.int .i64 c, .int .i64 s, .int .i64 k, .int .i64 i, .int .i64 m, .string d]) (by kernel_rfl) (rfl) (cells_bk (h2.bk (Bk.new (WB.drew.alloc (.cells #[] 23)) 23 #[.int .i64 c, .int .i64 s, .int .i64 k, .int .i64 i, .int .i64 m, .string d]) (by simp [Value.ownBlock]))) (by simp [Value.oneCell']) (by unfold maxLen; omega) (by omega) ((o2).size) (n + 1) (rfl) (l.qs.flatMap ReqV.cells ++ [.int .i64 c, .int .i64 s, .int .i64 k, .int .i64 i, .int .i64 m, .string d]) (rfl) ?_
        intro A2 c2 w3 h3
        have o3 : Old WB w3 := h3.old o2 (fun k hk => (h2.own.lt k hk).1)
        refine ⟨.inr fun _ => o3, ?_⟩
        refine wpAnyZ_pureD 10 (some 31) (.pointer (some ⟨x, 0, none⟩)) rfl rfl (by kernel_rfl) (by kernel_rfl) (by kernel_rfl) (fun _ _ _ h => h) (Or.inl ⟨by kernel_rfl, fun w _ => by generalize hE : Act.eval _ = E; have e0 : E (.tmp 21) = .pointer (some ⟨x, 0, none⟩) := (by rw [← hE]; kernel_rfl); clear hE; go_simp⟩) ?_
        refine wpAnyZ_pureD 11 (some 32) (.pointer (some ⟨x, 1, none⟩)) rfl rfl (by kernel_rfl) (by kernel_rfl) (by kernel_rfl) (fun _ _ _ h => h) (Or.inl ⟨by kernel_rfl, fun w _ => by generalize hE : Act.eval _ = E; have e0 : E (.tmp 31) = .pointer (some ⟨x, 0, none⟩) := (by rw [← hE]; kernel_rfl); clear hE; go_simp⟩) ?_
        refine wpAnyZ_one 12 (by kernel_rfl) ?_
        obtain ⟨g1, g2⟩ := hF.out _ o3
        have hfin := hide (HH.out.push n HN.out HO.out o3 h3.own)
        simp only [put_lit, put_none, List.set_cons_zero, List.set_cons_succ]
        refine wpOp_mk rfl rfl ?_
        go_simp
        refine wpAnyZ_end (by kernel_rfl) ?_ _
        try simp only [put_lit, put_none, List.set_cons_zero, List.set_cons_succ]
        clear h2 h3 o2 o3 hX hY hF
        go_wp2_with fail
        refine bodyPost_ret (v := .tuple #[.int .i64 ((n : Int) + 1), .int .i64 0]) ?_ rfl ⟨rfl, hfin.out.1, hfin.out.2⟩
        simp [results, Try.results57, go_sem, *]
    · refine wpOp_runD (w' := WB.drew.alloc (.cells #[.int .i64 c, .int .i64 s, .int .i64 k, .int .i64 i, .int .i64 m, .string d] 23)) (some 29) (.slice (some ⟨WB.drew.heap.size, 0, none⟩) 1 1) rfl rfl rfl (by go_simp; try rfl) ⟨.inr fun h => h.alloc' _, ?_⟩
      refine wpAnyZ_one 1 (by kernel_rfl) ?_
      refine wpOp_runD (w' := (WB.drew.alloc (.cells #[.int .i64 c, .int .i64 s, .int .i64 k, .int .i64 i, .int .i64 m, .string d] 23)).alloc (.cells #[] 23)) (some 22) (.slice (some ⟨(WB.drew.alloc (.cells #[.int .i64 c, .int .i64 s, .int .i64 k, .int .i64 i, .int .i64 m, .string d] 23)).heap.size, 0, none⟩) 0 0) rfl rfl rfl (by go_simp; try rfl) ⟨.inr fun h => h.alloc' _, ?_⟩
      refine wpAnyZ_one 6 (by kernel_rfl) ?_
      refine wpOp_appD (some 27) rfl rfl rfl (.tmp 22) (.tmp 26) 38 rfl WB.heap.size 23 i0 (.agg #[.int .i64 0, .int .i64 0, .int .i64 0, .int .i64 0, .int .i64 0, .string { data := #[] }]) 6 56 Try.underlying38 hi hz0 hz1 hz2 rfl (by decide) (.slice (some ⟨(WB.drew.alloc (.cells #[.int .i64 c, .int .i64 s, .int .i64 k, .int .i64 i, .int .i64 m, .string d] 23)).heap.size, 0, none⟩) 0 0) (0) ([]) (by kernel_rfl) ((own_mk0 (WB.drew.alloc (.cells #[.int .i64 c, .int .i64 s, .int .i64 k, .int .i64 i, .int .i64 m, .string d] 23)) (by first | exact Nat.le_refl _ | (simp; done) | (simp; omega)) : ((WB.drew.alloc (.cells #[.int .i64 c, .int .i64 s, .int .i64 k, .int .i64 i, .int .i64 m, .string d] 23)).alloc (.cells #[] 23)).ownsRow WB.heap.size 23 6 (.slice (some ⟨(WB.drew.alloc (.cells #[.int .i64 c, .int .i64 s, .int .i64 k, .int .i64 i, .int .i64 m, .string d] 23)).heap.size, 0, none⟩) 0 0) 0 [])) (A) (n) (ca) (l.qs.flatMap ReqV.cells) (by kernel_rfl) (hlen) (CellsAt.old hrow (((Old.refl' WB).drew'.alloc' _).alloc' _)) (cells_one) (by unfold maxLen; omega) (by omega) (((((Old.refl' WB).drew'.alloc' _).alloc' _)).size) (n) (Nat.zero_add _) (l.qs.flatMap ReqV.cells) (List.nil_append _) ?_
      intro A1 c1 w2 h2
      have o2 : Old WB w2 := h2.old (((Old.refl' WB).drew'.alloc' _).alloc' _) (fun k hk => by simp [Value.ownBlock] at hk; omega)
      refine ⟨.inr fun _ => o2, ?_⟩
      refine wpAnyZ_one 9 (by kernel_rfl) ?_
      refine wpOp_appD (some 30) rfl rfl rfl (.tmp 27) (.tmp 29) 38 rfl WB.heap.size 23 i0 (.agg #[.int .i64 0, .int .i64 0, .int .i64 0, .int .i64 0, .int .i64 0, .string { data := #[] }]) 6 56 Try.underlying38 hi hz0 hz1 hz2 rfl (by decide) (.slice A1 n c1) (n) (l.qs.flatMap ReqV.cells) (by kernel_rfl) (h2.own) (some ⟨WB.drew.heap.size, 0, none⟩) (1) (1) ([.int .i64 c, .int .i64 s, .int .i64 k, .int .i64 i, .int .i64 m, .string d]) (by kernel_rfl) (rfl) (cells_bk (h2.bk ((Bk.new WB.drew 23 #[.int .i64 c, .int .i64 s, .int .i64 k, .int .i64 i, .int .i64 m, .string d]).alloc _) (by simp [Value.ownBlock]))) (by simp [Value.oneCell']) (by unfold maxLen; omega) (by omega) ((o2).size) (n + 1) (rfl) (l.qs.flatMap ReqV.cells ++ [.int .i64 c, .int .i64 s, .int .i64 k, .int .i64 i, .int .i64 m, .string d]) (rfl) ?_
      intro A2 c2 w3 h3
      have o3 : Old WB w3 := h3.old o2 (fun k hk => (h2.own.lt k hk).1)
      refine ⟨.inr fun _ => o3, ?_⟩
      refine wpAnyZ_pureD 10 (some 31) (.pointer (some ⟨x, 0, none⟩)) rfl rfl (by kernel_rfl) (by kernel_rfl) (by kernel_rfl) (fun _ _ _ h => h) (Or.inl ⟨by kernel_rfl, fun w _ => by generalize hE : Act.eval _ = E; have e0 : E (.tmp 21) = .pointer (some ⟨x, 0, none⟩) := (by rw [← hE]; kernel_rfl); clear hE; go_simp⟩) ?_
      refine wpAnyZ_pureD 11 (some 32) (.pointer (some ⟨x, 1, none⟩)) rfl rfl (by kernel_rfl) (by kernel_rfl) (by kernel_rfl) (fun _ _ _ h => h) (Or.inl ⟨by kernel_rfl, fun w _ => by generalize hE : Act.eval _ = E; have e0 : E (.tmp 31) = .pointer (some ⟨x, 0, none⟩) := (by rw [← hE]; kernel_rfl); clear hE; go_simp⟩) ?_
      refine wpAnyZ_one 12 (by kernel_rfl) ?_
      obtain ⟨g1, g2⟩ := hF.out _ o3
      have hfin := hide (HH.out.push n HN.out HO.out o3 h3.own)
      simp only [put_lit, put_none, List.set_cons_zero, List.set_cons_succ]
      refine wpOp_mk rfl rfl ?_
      go_simp
      refine wpAnyZ_end (by kernel_rfl) ?_ _
      try simp only [put_lit, put_none, List.set_cons_zero, List.set_cons_succ]
      clear h2 h3 o2 o3 hX hY hF
      go_wp2_with fail
      refine bodyPost_ret (v := .tuple #[.int .i64 ((n : Int) + 1), .int .i64 0]) ?_ rfl ⟨rfl, hfin.out.1, hfin.out.2⟩
      simp [results, Try.results57, go_sem, *]

theorem XPut_at (x : Nat) (F : Nat → Prop) (l : LnV) (n : Nat) (hn : l.qs.length = n) (hn2 : n ≤ 50000) (q : ReqV) (AT E : Int) (l' : LnV) (h1 : (l.at_ q : Int) = AT) (h2 : l.err q = E) (h3 : l.put q = l') (w : World) (h : XlAt w x F l) :
    Calls Try.prog 57 #[.pointer (some ⟨x, 0, none⟩), .agg #[.int .i64 q.client, .int .i64 q.seq, .int .i64 q.kind, .int .i64 q.id, .int .i64 q.mat, .string q.data]] w fun e w' => e = .returned (.tuple #[.int .i64 AT, .int .i64 E]) ∧
      (∃ F', XlAt w' x F' l' ∧ ∀ b, F' b → F b ∨ w.heap.size ≤ b) ∧ Fr F w w' := by
  subst h1 h2 h3
  by_cases hq : (q.q.may && Writes q.kind) = true
  · by_cases hs : lastSeq l.qs q.client < q.seq
    · have hm : l.may q = true := by unfold LnV.may; rw [hq]; simpa using hs
      obtain ⟨e1, e2, e3⟩ := put_yes hm
      rw [e1, e2, e3, hn]
      exact XPut_done x F l n hn hn2 q hq hs w h
    · have hm : l.may q = false := by unfold LnV.may; rw [hq]; simpa using hs
      have e1 : l.put q = l := by unfold LnV.put; rw [hm]; rfl
      have e2 : l.at_ q = 0 := by unfold LnV.at_; rw [hm]; rfl
      have e3 : l.err q = 9 := by unfold LnV.err; rw [hq, if_pos rfl, if_neg hs]
      rw [e1, e2, e3]
      exact (XPut_order x F l (by omega) q hq hs w h).mono fun e w' ⟨he, hb⟩ => ⟨he, ⟨F, h.old hb, fun k hk => .inl hk⟩, Fr.of_old hb⟩
  · have hq' : (q.q.may && Writes q.kind) = false := by simpa using hq
    have hm : l.may q = false := by unfold LnV.may; rw [hq']; rfl
    have e1 : l.put q = l := by unfold LnV.put; rw [hm]; rfl
    have e2 : l.at_ q = 0 := by unfold LnV.at_; rw [hm]; rfl
    have e3 : l.err q = 1 := by unfold LnV.err; rw [hq']; rfl
    rw [e1, e2, e3]
    exact (XPut_arg x q hq' w).mono fun e w' ⟨he, hb⟩ => ⟨he, ⟨F, h.old hb, fun k hk => .inl hk⟩, Fr.of_old hb⟩
set_option maxRecDepth 100000 in
set_option maxHeartbeats 1000000 in
theorem XTake_at (x : Nat) (F : Nat → Prop) (l : LnV) (n : Nat) (hn : l.qs.length = n) (hn2 : n ≤ 50000) (a : Int) (ha : a ≤ 9223372036854775807) (q : ReqV) (E : Int) (l' : LnV) (h2 : l.terr a q = E) (h3 : l.take a q = l') (w : World) (h : XlAt w x F l) :
    Calls Try.prog 58 #[.pointer (some ⟨x, 0, none⟩), .int .i64 a, .agg #[.int .i64 q.client, .int .i64 q.seq, .int .i64 q.kind, .int .i64 q.id, .int .i64 q.mat, .string q.data]] w fun e w' => e = .returned (.int .i64 E) ∧
      (∃ F', XlAt w' x F' l' ∧ ∀ b, F' b → F b ∨ w.heap.size ≤ b) ∧ Fr F w w' := by
  subst h2 h3
  have hxl := h.lt x h.gF
  obtain ⟨A, ca, hsee⟩ := h.see hn
  have c1 := hsee.c1
  clear hsee
  have hbk := Bk.new w 23 #[.int .i64 q.client, .int .i64 q.seq, .int .i64 q.kind, .int .i64 q.id, .int .i64 q.mat, .string q.data]
  have hal := (Old.refl' w).alloc' (.cells #[.int .i64 q.client, .int .i64 q.seq, .int .i64 q.kind, .int .i64 q.id, .int .i64 q.mat, .string q.data] 23)
  by_cases hat : a = (n : Int) + 1
  · have e1 : l.terr a q = l.err q := by unfold LnV.terr; rw [if_pos (by rw [hn]; exact hat)]
    have e2 : l.take a q = l.put q := by unfold LnV.take; rw [if_pos (by rw [hn]; exact hat)]
    rw [e1, e2]
    subst hat
    obtain ⟨AT, hAT⟩ : ∃ x, (l.at_ q : Int) = x := ⟨_, rfl⟩
    obtain ⟨E, hE⟩ : ∃ x, l.err q = x := ⟨_, rfl⟩
    obtain ⟨l', hl'⟩ : ∃ x, l.put q = x := ⟨_, rfl⟩
    rw [hE, hl']
    have cP := hide (XPut_at x F l n hn hn2 q AT E l' hAT hE hl' _ (h.old hal))
    have hfin := hide (fun (W : World) (h1 : ∃ F', XlAt W x F' l' ∧ ∀ b, F' b → F b ∨ (w.alloc (.cells #[.int .i64 q.client, .int .i64 q.seq, .int .i64 q.kind, .int .i64 q.id, .int .i64 q.mat, .string q.data] 23)).heap.size ≤ b) (h2 : Fr F (w.alloc (.cells #[.int .i64 q.client, .int .i64 q.seq, .int .i64 q.kind, .int .i64 q.id, .int .i64 q.mat, .string q.data] 23)) W) =>
      (⟨h1.elim fun F' ⟨a1, a2⟩ => ⟨F', a1, fun b hb => (a2 b hb).imp id (fun h => Nat.le_trans hal.size h)⟩, (Fr.of_old hal).trans h2⟩ : (∃ F', XlAt W x F' l' ∧ ∀ b, F' b → F b ∨ w.heap.size ≤ b) ∧ Fr F w W))
    have q1 : ¬ ((n : Int) + 1 < 1) := by omega
    have q2 : (n : Int) + 1 - 1 = n := by omega
    have q3 : (n : Int) ≤ 50000 := by omega
    obtain ⟨⟨x0, x1, x2, x3, x4, x5⟩, lx⟩ := bk6 hbk
    have c1' := (hal.cell (p := ⟨x, 1, none⟩) hxl).trans c1
    clear e1 e2 hAT hE hl' h hn hal hbk
    go_enter Try.func58, Try.ntmps58
    go_wp2_with (go_at_call 57; refine cP.out.mono ?_; rintro e w1 ⟨rfl, hs, hf⟩)
    go_ret
    exact ⟨rfl, hfin.out _ hs hf⟩
  · have e1 : l.terr a q = 9 := by unfold LnV.terr; rw [if_neg (by rw [hn]; exact hat)]
    have e2 : l.take a q = l := by unfold LnV.take; rw [if_neg (by rw [hn]; exact hat)]
    rw [e1, e2]
    have HF := hide (⟨⟨F, h.old hal, fun k hk => .inl hk⟩, Fr.of_old hal⟩ : (∃ F', XlAt (w.alloc (.cells #[.int .i64 q.client, .int .i64 q.seq, .int .i64 q.kind, .int .i64 q.id, .int .i64 q.mat, .string q.data] 23)) x F' l ∧ ∀ b, F' b → F b ∨ w.heap.size ≤ b) ∧ Fr F w (w.alloc (.cells #[.int .i64 q.client, .int .i64 q.seq, .int .i64 q.kind, .int .i64 q.id, .int .i64 q.mat, .string q.data] 23)))
    have c1' := (hal.cell (p := ⟨x, 1, none⟩) hxl).trans c1
    by_cases h1 : a < 1
    · clear hat h hal hbk e1 e2
      go_enter Try.func58, Try.ntmps58
      go_wp2_with fail
      go_ret
      exact ⟨rfl, HF.out.1, HF.out.2⟩
    · have q4 : ¬ (a - 1 = (n : Int)) := by omega
      have q5 : wrap64 (a - 1) = a - 1 := IntWalk.wrap64_in _ ⟨by omega, by omega⟩
      clear hat h hal hbk e1 e2
      go_enter Try.func58, Try.ntmps58
      go_wp2_with fail
      go_ret
      exact ⟨rfl, HF.out.1, HF.out.2⟩
end Go.Proofs.Ytmhnlpilbbfgnaa
