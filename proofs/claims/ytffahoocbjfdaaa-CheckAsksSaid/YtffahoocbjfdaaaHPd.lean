/- casebookref22.P: what it is in memory; Ask. -/
import Derived.Test.YtffahoocbjfdaaaHPaM
import Derived.Test.YtffahoocbjfdaaaHCMo
import Derived.Test.YtffahoocbjfdaaaHSd
import Derived.Test.YtffahoocbjfdaaaHCPl
namespace Go.Proofs.Ytffahoocbjfdaaa
open Go.RowKit
def rq0 : ReqV := ⟨0, 0, 0, 0, 0, { data := #[] }⟩
def wq (o : Option ReqV) : ReqV := o.getD rq0
structure PdC (cs : Array Value) (V : Value) (s : PV) : Prop where
  c0 : cs[0]? = some V
  lc : ∀ c : Nat, c < 4 → cs[1 + c]? = some (.int .i64 (s.last c))
  wc : ∀ c : Nat, c < 4 → ∀ (j : Nat) u, (wq (s.wait c)).cells[j]? = some u → cs[5 + c * 6 + j]? = some u
structure PdAt (w : World) (p : Nat) (F : Nat → Prop) (s : PV) (l : List ActV) : Prop where
  ex : ∃ cs V, Bk w p 52 cs ∧ w.ownsRow 0 45 14 V l.length (l.flatMap ActV.cells) ∧ PdC cs V s ∧ ∀ b, V.ownBlock = some b → F b
  gF : F p
  lt : ∀ k, F k → k < w.heap.size
  wn : ∀ c, ¬ (0 ≤ c ∧ c < 4) → s.wait c = none
  wp : ∀ c q, s.wait c = some q → 1 ≤ q.seq
  vs : ∀ a ∈ l, IntsAt w a.A a.r.vs ∧ (a.r.vs ≠ [] → ∀ x, a.A = some x → ¬ F x.block)
section
variable {w w' : World} {p : Nat} {cs : Array Value} {V : Value} {F S : Nat → Prop} {s : PV} {l : List ActV}
theorem PdC.six {t : TypeId} (h : PdC cs V s) (hB : Bk w p t cs) {c : Nat} (hc : c < 4) :
    (w.cell? ⟨p, 5 + c * 6, none⟩ = some (.int .i64 (wq (s.wait c)).client) ∧ w.cell? ⟨p, 5 + c * 6 + 1, none⟩ = some (.int .i64 (wq (s.wait c)).seq) ∧ w.cell? ⟨p, 5 + c * 6 + 2, none⟩ = some (.int .i64 (wq (s.wait c)).kind) ∧ w.cell? ⟨p, 5 + c * 6 + 3, none⟩ = some (.int .i64 (wq (s.wait c)).id) ∧ w.cell? ⟨p, 5 + c * 6 + 4, none⟩ = some (.int .i64 (wq (s.wait c)).mat) ∧ w.cell? ⟨p, 5 + c * 6 + 5, none⟩ = some (.string (wq (s.wait c)).data)) ∧
    w.frozen? ⟨p, 5 + c * 6, none⟩ = false ∧ w.frozen? ⟨p, 5 + c * 6 + 1, none⟩ = false ∧ w.frozen? ⟨p, 5 + c * 6 + 2, none⟩ = false ∧ w.frozen? ⟨p, 5 + c * 6 + 3, none⟩ = false ∧ w.frozen? ⟨p, 5 + c * 6 + 4, none⟩ = false ∧ w.frozen? ⟨p, 5 + c * 6 + 5, none⟩ = false :=
  ⟨⟨(hB.cell _).trans (h.wc c hc 0 _ rfl), (hB.cell _).trans (h.wc c hc 1 _ rfl), (hB.cell _).trans (h.wc c hc 2 _ rfl), (hB.cell _).trans (h.wc c hc 3 _ rfl), (hB.cell _).trans (h.wc c hc 4 _ rfl), (hB.cell _).trans (h.wc c hc 5 _ rfl)⟩, hB.frozen _, hB.frozen _, hB.frozen _, hB.frozen _, hB.frozen _, hB.frozen _⟩
theorem PdC.set0 (h : PdC cs V s) (V2 : Value) : PdC (cs.setIfInBounds 0 V2) V2 s :=
  ⟨get_eq h.c0 _, fun c hc => by rw [get_ne (by omega)]; exact h.lc c hc, fun c hc j u hu => by rw [get_ne (by omega)]; exact h.wc c hc j u hu⟩
theorem PdC.setL (h : PdC cs V s) {c : Nat} (hc : c < 4) (x : Int) : PdC (cs.setIfInBounds (1 + c) (.int .i64 x)) V ⟨s.n, fun k => if k = (c : Int) then x else s.last k, s.wait⟩ := by
  refine ⟨by rw [get_ne (by omega)]; exact h.c0, fun d hd => ?_, fun d hd j u hu => ?_⟩
  · by_cases e : c = d
    · subst e; simp only [if_pos]; exact get_eq (h.lc c hc) _
    · have e' : ¬ (d : Int) = (c : Int) := by omega
      simp only [if_neg e']; rw [get_ne (by omega)]; exact h.lc d hd
  · rw [get_ne (by omega)]; exact h.wc d hd j u hu
theorem cells6 {q : ReqV} {j : Nat} {u : Value} (h : q.cells[j]? = some u) : j < 6 := by
  have := (List.getElem?_eq_some_iff.1 h).1
  exact this
theorem six_at {cs : Array Value} {o : Nat} {v : Value} (hs : cs[o + 5]? = some v) (u0 u1 u2 u3 u4 u5 : Value) :
    let W := (((((cs.setIfInBounds o u0).setIfInBounds (o + 1) u1).setIfInBounds (o + 2) u2).setIfInBounds (o + 3) u3).setIfInBounds (o + 4) u4).setIfInBounds (o + 5) u5
    (W[o]? = some u0 ∧ W[o + 1]? = some u1 ∧ W[o + 2]? = some u2 ∧ W[o + 3]? = some u3 ∧ W[o + 4]? = some u4 ∧ W[o + 5]? = some u5) ∧ ∀ j, (j < o ∨ o + 5 < j) → W[j]? = cs[j]? := by
  have hl := (Array.getElem?_eq_some_iff.1 hs).1
  have h0 : o < cs.size := by omega
  have h1 : o + 1 < cs.size := by omega
  have h2 : o + 2 < cs.size := by omega
  have h3 : o + 3 < cs.size := by omega
  have h4 : o + 4 < cs.size := by omega
  intro W
  refine ⟨⟨?_, ?_, ?_, ?_, ?_, ?_⟩, fun j hj => ?_⟩
  · show (((((_ : Array Value).setIfInBounds _ _).setIfInBounds _ _).setIfInBounds _ _).setIfInBounds _ _)[o]? = _
    rw [get_ne (by omega), get_ne (by omega), get_ne (by omega), get_ne (by omega), get_ne (by omega), Array.getElem?_setIfInBounds, if_pos rfl, if_pos h0]
  · show (((((_ : Array Value).setIfInBounds _ _).setIfInBounds _ _).setIfInBounds _ _).setIfInBounds _ _)[o + 1]? = _
    rw [get_ne (by omega), get_ne (by omega), get_ne (by omega), get_ne (by omega), Array.getElem?_setIfInBounds, if_pos rfl, if_pos (by simpa using h1)]
  · show (((((_ : Array Value).setIfInBounds _ _).setIfInBounds _ _).setIfInBounds _ _).setIfInBounds _ _)[o + 2]? = _
    rw [get_ne (by omega), get_ne (by omega), get_ne (by omega), Array.getElem?_setIfInBounds, if_pos rfl, if_pos (by simpa using h2)]
  · show (((((_ : Array Value).setIfInBounds _ _).setIfInBounds _ _).setIfInBounds _ _).setIfInBounds _ _)[o + 3]? = _
    rw [get_ne (by omega), get_ne (by omega), Array.getElem?_setIfInBounds, if_pos rfl, if_pos (by simpa using h3)]
  · show (((((_ : Array Value).setIfInBounds _ _).setIfInBounds _ _).setIfInBounds _ _).setIfInBounds _ _)[o + 4]? = _
    rw [get_ne (by omega), Array.getElem?_setIfInBounds, if_pos rfl, if_pos (by simpa using h4)]
  · show (((((_ : Array Value).setIfInBounds _ _).setIfInBounds _ _).setIfInBounds _ _).setIfInBounds _ _)[o + 5]? = _
    rw [Array.getElem?_setIfInBounds, if_pos rfl, if_pos (by simpa using hl)]
  · show (((((_ : Array Value).setIfInBounds _ _).setIfInBounds _ _).setIfInBounds _ _).setIfInBounds _ _)[j]? = _
    rw [get_ne (by omega), get_ne (by omega), get_ne (by omega), get_ne (by omega), get_ne (by omega), get_ne (by omega)]
theorem PdC.setW (h : PdC cs V s) {c : Nat} (hc : c < 4) (o : Option ReqV) (q : ReqV) (hq : wq o = q) :
    PdC ((((((cs.setIfInBounds (5 + c * 6) (.int .i64 q.client)).setIfInBounds (5 + c * 6 + 1) (.int .i64 q.seq)).setIfInBounds (5 + c * 6 + 2) (.int .i64 q.kind)).setIfInBounds (5 + c * 6 + 3) (.int .i64 q.id)).setIfInBounds (5 + c * 6 + 4) (.int .i64 q.mat)).setIfInBounds (5 + c * 6 + 5) (.string q.data)) V
      ⟨s.n, s.last, fun k => if k = (c : Int) then o else s.wait k⟩ := by
  subst hq
  obtain ⟨⟨a0, a1, a2, a3, a4, a5⟩, a6⟩ := six_at (h.wc c hc 5 _ rfl) (.int .i64 (wq o).client) (.int .i64 (wq o).seq) (.int .i64 (wq o).kind) (.int .i64 (wq o).id) (.int .i64 (wq o).mat) (.string (wq o).data)
  generalize (((((cs.setIfInBounds (5 + c * 6) _).setIfInBounds (5 + c * 6 + 1) _).setIfInBounds (5 + c * 6 + 2) _).setIfInBounds (5 + c * 6 + 3) _).setIfInBounds (5 + c * 6 + 4) _).setIfInBounds (5 + c * 6 + 5) _ = W at *
  refine ⟨(a6 0 (by omega)).trans h.c0, fun d hd => (a6 _ (by omega)).trans (h.lc d hd), fun d hd j u hu => ?_⟩
  have hj := cells6 hu
  by_cases e : c = d
  · subst e
    simp only [if_pos] at hu
    rcases (by omega : j = 0 ∨ j = 1 ∨ j = 2 ∨ j = 3 ∨ j = 4 ∨ j = 5) with rfl | rfl | rfl | rfl | rfl | rfl <;> (injection hu with hu; subst hu; assumption)
  · have e' : ¬ (d : Int) = (c : Int) := by omega
    simp only [if_neg e'] at hu
    exact (a6 _ (by omega)).trans (h.wc d hd j u hu)
theorem PdAt.fr (h : PdAt w p F s l) (hf : Fr S w w') (hS : ∀ k, F k → ¬ S k) (hS2 : ∀ a ∈ l, a.r.vs ≠ [] → ∀ x, a.A = some x → ¬ S x.block) : PdAt w' p F s l := by
  obtain ⟨⟨cs, V, h1, h2, h3, h4⟩, h5, h6, h7, h8, h9⟩ := h
  exact ⟨⟨cs, V, h1.fr hf (hS p h5), own_fr h2 hf (fun b hb => hS b (h4 b hb)), h3, h4⟩, h5, fun k hk => Nat.lt_of_lt_of_le (h6 k hk) hf.size, h7, h8, fun a ha => ⟨CellsAt.fr (h9 a ha).1 hf (fun hne x hx => hS2 a ha (fun e => hne (by rw [e]; rfl)) x hx), (h9 a ha).2⟩⟩
theorem PdAt.old (h : PdAt w p F s l) (hf : Old w w') : PdAt w' p F s l := h.fr (S := fun _ => False) (Fr.of_old hf) (fun _ _ => id) (fun _ _ _ _ _ => id)
theorem PdAt.acts (h : PdAt w p F s l) : ∃ A ca, w.cell? ⟨p, 0, none⟩ = some (.slice A l.length ca) ∧ l.length ≤ ca ∧ ActsAt w A l := by
  obtain ⟨⟨cs, V, h1, h2, h3, h4⟩, h5, h6, h7, h8, h9⟩ := h
  obtain ⟨A, ca, rfl, hc, -⟩ := own_form h2
  exact ⟨A, ca, (h1.cell 0).trans h3.c0, hc, CellsAt.of_own h2, fun a ha => (h9 a ha).1⟩
end
theorem pdWp {st : PV} {x : ReqV} (hwp : ∀ c q, st.wait c = some q → 1 ≤ q.seq) (c : Int) (h : st.wait c = some x) : 0 < (wq (st.wait c)).seq := by
  rw [h]; have := hwp c x h; show 0 < x.seq; omega
def pdCells : Array Value := #[.slice none 0 0, .int .i64 0, .int .i64 0, .int .i64 0, .int .i64 0, .int .i64 0, .int .i64 0, .int .i64 0, .int .i64 0, .int .i64 0, .string { data := #[] }, .int .i64 0, .int .i64 0, .int .i64 0, .int .i64 0, .int .i64 0, .string { data := #[] }, .int .i64 0, .int .i64 0, .int .i64 0, .int .i64 0, .int .i64 0, .string { data := #[] }, .int .i64 0, .int .i64 0, .int .i64 0, .int .i64 0, .int .i64 0, .string { data := #[] }]
theorem Pd_new {w : World} {p : Nat} (h : Bk w p 52 pdCells) : PdAt w p (fun k => k = p) PV.new [] := by
  refine ⟨⟨pdCells, .slice none 0 0, h, World.ownsRow_nil _ _ _ _, ⟨rfl, fun c hc => ?_, fun c hc j u hu => ?_⟩, fun b hb => by cases hb⟩, rfl, fun k hk => hk ▸ h.lt, fun _ _ => rfl, fun c q hq => (by cases hq), fun a ha => (by cases ha)⟩
  · rcases (by omega : c = 0 ∨ c = 1 ∨ c = 2 ∨ c = 3) with rfl | rfl | rfl | rfl <;> rfl
  · have hj := cells6 hu
    rcases (by omega : c = 0 ∨ c = 1 ∨ c = 2 ∨ c = 3) with rfl | rfl | rfl | rfl <;> rcases (by omega : j = 0 ∨ j = 1 ∨ j = 2 ∨ j = 3 ∨ j = 4 ∨ j = 5) with rfl | rfl | rfl | rfl | rfl | rfl <;> (injection hu with hu; subst hu; rfl)
def lastS (st : PV) (c : Nat) (x : Int) : Int → Int := fun k => if k = (c : Int) then x else st.last k
def waitS (st : PV) (c : Nat) (o : Option ReqV) : Int → Option ReqV := fun k => if k = (c : Int) then o else st.wait k
def askAct (q : ReqV) : ActV := ⟨q.client, q.seq, false, q, Rep.zero, none, 0, 0⟩
set_option maxRecDepth 100000 in
set_option maxHeartbeats 1000000 in
theorem DAsk_arg (p : Nat) (q : ReqV) (hq : q.q.may = false) (w : World) :
    Calls Try.prog 19 #[.pointer (some ⟨p, 0, none⟩), .agg #[.int .i64 q.client, .int .i64 q.seq, .int .i64 q.kind, .int .i64 q.id, .int .i64 q.mat, .string q.data]] w fun e w' => e = .returned (.int .i64 1) ∧ Old w w' := by
  obtain ⟨c, s, k, i, m, dt⟩ := q
  simp only [ReqV.q, Q.may] at hq
  have cM := hide (fun (W : World) => rMay_at c s k i m dt false hq W)
  have hX := hide (fun (W : World) (h : Old (w.alloc (.cells #[.int .i64 c, .int .i64 s, .int .i64 k, .int .i64 i, .int .i64 m, .string dt] 24)) W) => bk6 ((Bk.new w 24 #[.int .i64 c, .int .i64 s, .int .i64 k, .int .i64 i, .int .i64 m, .string dt]).old h))
  clear hq
  go_enter Try.func19, Try.ntmps19
  go_wp2_with (go_at_call 31; refine (cM.out _).mono ?_; rintro e w1 ⟨rfl, hbb⟩; obtain ⟨⟨x0, x1, x2, x3, x4, x5⟩, l1⟩ := hX.out _ hbb)
  go_ret
  exact ⟨rfl, ((Old.refl' w).alloc' _).trans' hbb⟩
set_option maxRecDepth 100000 in
set_option maxHeartbeats 2000000 in
theorem DAsk_state (p : Nat) (F : Nat → Prop) (st : PV) (l : List ActV) (q : ReqV) (hq : q.q.may = true) (r : ReqV) (hw : st.wait q.client = some r) (w : World) (h : PdAt w p F st l) :
    Calls Try.prog 19 #[.pointer (some ⟨p, 0, none⟩), .agg #[.int .i64 q.client, .int .i64 q.seq, .int .i64 q.kind, .int .i64 q.id, .int .i64 q.mat, .string q.data]] w fun e w' => e = .returned (.int .i64 4) ∧ Old w w' := by
  obtain ⟨c, s, k, i, m, dt⟩ := q
  simp only [ReqV.q, Q.may] at hq hw
  obtain ⟨⟨c0, c3⟩, -, -, -⟩ := mayQ_b hq
  obtain ⟨c, rfl⟩ : ∃ n : Nat, c = n := ⟨c.toNat, by omega⟩
  have hcn : c < 4 := by omega
  obtain ⟨⟨cs, V, hB, hR, hC, hV⟩, gF, hlt, hwn, hwp, hvs⟩ := h
  have hwS := pdWp hwp c hw
  obtain ⟨sw, hsw⟩ : ∃ x, (wq (st.wait c)).seq = x := ⟨_, rfl⟩
  have h1 := hC.wc c hcn 1 _ rfl
  rw [hsw] at hwS h1
  have hgl := hB.lt
  have hW5 := hide (fun (W : World) (hW : Old (w.alloc (.cells #[.int .i64 c, .int .i64 s, .int .i64 k, .int .i64 i, .int .i64 m, .string dt] 24)) W) => (((((Old.refl' w).alloc' _).trans' hW).cell (p := ⟨p, 5 + c * 6 + 1, none⟩) hgl).trans ((hB.cell _).trans h1) : W.cell? ⟨p, 5 + c * 6 + 1, none⟩ = some (.int .i64 sw)))
  have cM := hide (fun (W : World) => rMay_at c s k i m dt true hq W)
  have hX := hide (fun (W : World) (h : Old (w.alloc (.cells #[.int .i64 c, .int .i64 s, .int .i64 k, .int .i64 i, .int .i64 m, .string dt] 24)) W) => bk6 ((Bk.new w 24 #[.int .i64 c, .int .i64 s, .int .i64 k, .int .i64 i, .int .i64 m, .string dt]).old h))
  have hc4 : (c : Int) < 4 := by omega
  clear hq hw hB hR hC hV hlt hwn hwp hvs h1 hsw
  go_enter Try.func19, Try.ntmps19
  go_wp2_with (go_at_call 31; refine (cM.out _).mono ?_; rintro e w1 ⟨rfl, hbb⟩; obtain ⟨⟨x0, x1, x2, x3, x4, x5⟩, l1⟩ := hX.out _ hbb)
  refine region_steps (R := pick [eqv (.pointer (some ⟨p, 0, none⟩)), eqv (.pointer (some ⟨w.heap.size, 0, none⟩)), eqv (.int .i64 c), eqv (.pointer (some ⟨p, 0, none⟩)), eqv (.pointer (some ⟨p, 5, none⟩)), eqv (.pointer (some ⟨p, 5 + c * 6, none⟩)), eqv (.pointer (some ⟨p, 5 + c * 6 + 1, none⟩)), eqv (.int .i64 sw), eqv (.bool true), eqv (.bool true)]) (S := fun _ w' => Old (w.alloc (.cells #[.int .i64 c, .int .i64 s, .int .i64 k, .int .i64 i, .int .i64 m, .string dt] 24)) w') (T := Old) (by kernel_rfl) (by kernel_rfl) (by kernel_rfl) (Stab.pick (Stab.eqv (Stab.eqv (Stab.eqv (Stab.eqv (Stab.eqv (Stab.eqv (Stab.eqv (Stab.eqv (Stab.eqv (Stab.eqv (Stab.nil)))))))))))) (hbb.drew') ?steps ?ends
  case steps =>
    refine StepsOk.cons (stepOk_pure [] [(0, .pointer (some ⟨p, 0, none⟩))] rfl rfl (by kernel_rfl) (by kernel_rfl) rfl Old.refl' (fun _ _ _ h => h) (fun d E w' hk hda hS hc hf => by rintro  e0; exact ⟨_, by go_simp, rfl⟩)) ?_
    refine StepsOk.cons (stepOk_pure [] [(3, .pointer (some ⟨w.heap.size, 0, none⟩))] rfl rfl (by kernel_rfl) (by kernel_rfl) rfl Old.refl' (fun _ _ _ h => h) (fun d E w' hk hda hS hc hf => by rintro  e3; exact ⟨_, by go_simp, rfl⟩)) ?_
    refine StepsOk.cons (stepOk_pure [(1, 11)] [] rfl rfl (by kernel_rfl) (by kernel_rfl) rfl Old.refl' (fun _ _ _ h => h) (fun d E w' hk hda hS hc hf => by rintro _ q1 rfl e11 ; obtain ⟨⟨s0, s1, s2, s3, s4, s5⟩, l9⟩ := hX.out _ hS; have t0 := hW5.out _ hS; exact ⟨_, by go_simp, rfl⟩)) ?_
    refine StepsOk.cons (stepOk_pure [(0, 10)] [] rfl rfl (by kernel_rfl) (by kernel_rfl) rfl Old.refl' (fun _ _ _ h => h) (fun d E w' hk hda hS hc hf => by rintro _ q0 rfl e10 ; exact ⟨_, by go_simp, rfl⟩)) ?_
    refine StepsOk.cons (stepOk_pure [(3, 13)] [] rfl rfl (by kernel_rfl) (by kernel_rfl) rfl Old.refl' (fun _ _ _ h => h) (fun d E w' hk hda hS hc hf => by rintro _ q3 rfl e13 ; exact ⟨_, by go_simp, rfl⟩)) ?_
    refine StepsOk.cons (stepOk_pure [(4, 14), (2, 12)] [] rfl rfl (by kernel_rfl) (by kernel_rfl) rfl Old.refl' (fun _ _ _ h => h) (fun d E w' hk hda hS hc hf => by rintro _ q4 rfl e14 _ q2 rfl e12 ; obtain ⟨⟨s0, s1, s2, s3, s4, s5⟩, l9⟩ := hX.out _ hS; have t0 := hW5.out _ hS; exact ⟨_, by go_simp, rfl⟩)) ?_
    refine StepsOk.cons (stepOk_pure [(5, 15)] [] rfl rfl (by kernel_rfl) (by kernel_rfl) rfl Old.refl' (fun _ _ _ h => h) (fun d E w' hk hda hS hc hf => by rintro _ q5 rfl e15 ; exact ⟨_, by go_simp, rfl⟩)) ?_
    refine StepsOk.cons (stepOk_pure [(6, 16)] [] rfl rfl (by kernel_rfl) (by kernel_rfl) rfl Old.refl' (fun _ _ _ h => h) (fun d E w' hk hda hS hc hf => by rintro _ q6 rfl e16 ; obtain ⟨⟨s0, s1, s2, s3, s4, s5⟩, l9⟩ := hX.out _ hS; have t0 := hW5.out _ hS; exact ⟨_, by go_simp, rfl⟩)) ?_
    refine StepsOk.cons (stepOk_pure [(7, 17)] [] rfl rfl (by kernel_rfl) (by kernel_rfl) rfl Old.refl' (fun _ _ _ h => h) (fun d E w' hk hda hS hc hf => by rintro _ q7 rfl e17 ; exact ⟨_, by go_simp, rfl⟩)) ?_
    refine StepsOk.cons (stepOk_pure [(8, 18)] [] rfl rfl (by kernel_rfl) (by kernel_rfl) rfl Old.refl' (fun _ _ _ h => h) (fun d E w' hk hda hS hc hf => by rintro _ q8 rfl e18 ; exact ⟨_, by go_simp, rfl⟩)) ?_
    exact StepsOk.nil
  case ends =>
    intro σ9 w9 hS9 hA9
    refine Ends.eqv (some 10) (.pointer (some ⟨p, 0, none⟩)) rfl (fun _ h => h) ?_
    refine Ends.eqv (some 11) (.pointer (some ⟨w.heap.size, 0, none⟩)) rfl (fun _ h => h) ?_
    refine Ends.eqv (some 12) (.int .i64 c) rfl (fun _ h => h) ?_
    refine Ends.eqv (some 13) (.pointer (some ⟨p, 0, none⟩)) rfl (fun _ h => h) ?_
    refine Ends.eqv (some 14) (.pointer (some ⟨p, 5, none⟩)) rfl (fun _ h => h) ?_
    refine Ends.eqv (some 15) (.pointer (some ⟨p, 5 + c * 6, none⟩)) rfl (fun _ h => h) ?_
    refine Ends.eqv (some 16) (.pointer (some ⟨p, 5 + c * 6 + 1, none⟩)) rfl (fun _ h => h) ?_
    refine Ends.eqv (some 17) (.int .i64 sw) rfl (fun _ h => h) ?_
    refine Ends.eqv (some 18) (.bool true) rfl (fun _ h => h) ?_
    refine Ends.eqv (some 9) (.bool true) rfl (fun _ h => h) ?_
    refine Ends.nil ?_
    clear hA9
    simp only [put_lit, put_none, List.set_cons_zero, List.set_cons_succ]
    clear x0 x1 x2 x3 x4 x5 l1 hbb
    have hbb := hS9
    clear hS9
    obtain ⟨⟨x0, x1, x2, x3, x4, x5⟩, l1⟩ := hX.out _ hbb
    go_wp2_with fail
    go_ret
    exact ⟨rfl, ((Old.refl' w).alloc' _).trans' hbb⟩
set_option maxRecDepth 100000 in
set_option maxHeartbeats 2000000 in
theorem DAsk_order (p : Nat) (F : Nat → Prop) (st : PV) (l : List ActV) (q : ReqV) (hq : q.q.may = true) (hw : st.wait q.client = none) (hs : ¬ st.last q.client < q.seq) (w : World) (h : PdAt w p F st l) :
    Calls Try.prog 19 #[.pointer (some ⟨p, 0, none⟩), .agg #[.int .i64 q.client, .int .i64 q.seq, .int .i64 q.kind, .int .i64 q.id, .int .i64 q.mat, .string q.data]] w fun e w' => e = .returned (.int .i64 9) ∧ Old w w' := by
  obtain ⟨c, s, k, i, m, dt⟩ := q
  simp only [ReqV.q, Q.may] at hq hw hs
  obtain ⟨⟨c0, c3⟩, -, -, -⟩ := mayQ_b hq
  obtain ⟨c, rfl⟩ : ∃ n : Nat, c = n := ⟨c.toNat, by omega⟩
  have hcn : c < 4 := by omega
  obtain ⟨⟨cs, V, hB, hR, hC, hV⟩, gF, hlt, hwn, hwp, hvs⟩ := h
  have h1 := hC.wc c hcn 1 _ rfl
  rw [hw] at h1
  obtain ⟨sq, hsq⟩ : ∃ v, st.last c = v := ⟨_, rfl⟩
  have h2 := hC.lc c (by omega)
  rw [hsq] at h2 hs
  have hs' : s ≤ sq := by omega
  have hgl := hB.lt
  have hW5 := hide (fun (W : World) (hW : Old (w.alloc (.cells #[.int .i64 c, .int .i64 s, .int .i64 k, .int .i64 i, .int .i64 m, .string dt] 24)) W) => (((((Old.refl' w).alloc' _).trans' hW).cell (p := ⟨p, 5 + c * 6 + 1, none⟩) hgl).trans ((hB.cell _).trans h1) : W.cell? ⟨p, 5 + c * 6 + 1, none⟩ = some (.int .i64 0)))
  have hL1 := hide (fun (W : World) (hW : Old (w.alloc (.cells #[.int .i64 c, .int .i64 s, .int .i64 k, .int .i64 i, .int .i64 m, .string dt] 24)) W) => (((((Old.refl' w).alloc' _).trans' hW).cell (p := ⟨p, 1 + c, none⟩) hgl).trans ((hB.cell _).trans h2) : W.cell? ⟨p, 1 + c, none⟩ = some (.int .i64 sq)))
  have cM := hide (fun (W : World) => rMay_at c s k i m dt true hq W)
  have hX := hide (fun (W : World) (h : Old (w.alloc (.cells #[.int .i64 c, .int .i64 s, .int .i64 k, .int .i64 i, .int .i64 m, .string dt] 24)) W) => bk6 ((Bk.new w 24 #[.int .i64 c, .int .i64 s, .int .i64 k, .int .i64 i, .int .i64 m, .string dt]).old h))
  have hc4 : (c : Int) < 4 := by omega
  clear hq hw hB hR hC hV hlt hwn hwp hvs h1 h2 hs hsq
  go_enter Try.func19, Try.ntmps19
  go_wp2_with (go_at_call 31; refine (cM.out _).mono ?_; rintro e w1 ⟨rfl, hbb⟩; obtain ⟨⟨x0, x1, x2, x3, x4, x5⟩, l1⟩ := hX.out _ hbb)
  refine region_steps (R := pick [eqv (.pointer (some ⟨p, 0, none⟩)), eqv (.pointer (some ⟨w.heap.size, 0, none⟩)), eqv (.int .i64 c), eqv (.pointer (some ⟨p, 0, none⟩)), eqv (.pointer (some ⟨p, 5, none⟩)), eqv (.pointer (some ⟨p, 5 + c * 6, none⟩)), eqv (.pointer (some ⟨p, 5 + c * 6 + 1, none⟩)), eqv (.int .i64 0), eqv (.bool false), eqv (.bool false)]) (S := fun _ w' => Old (w.alloc (.cells #[.int .i64 c, .int .i64 s, .int .i64 k, .int .i64 i, .int .i64 m, .string dt] 24)) w') (T := Old) (by kernel_rfl) (by kernel_rfl) (by kernel_rfl) (Stab.pick (Stab.eqv (Stab.eqv (Stab.eqv (Stab.eqv (Stab.eqv (Stab.eqv (Stab.eqv (Stab.eqv (Stab.eqv (Stab.eqv (Stab.nil)))))))))))) (hbb.drew') ?steps ?ends
  case steps =>
    refine StepsOk.cons (stepOk_pure [] [(0, .pointer (some ⟨p, 0, none⟩))] rfl rfl (by kernel_rfl) (by kernel_rfl) rfl Old.refl' (fun _ _ _ h => h) (fun d E w' hk hda hS hc hf => by rintro  e0; exact ⟨_, by go_simp, rfl⟩)) ?_
    refine StepsOk.cons (stepOk_pure [] [(3, .pointer (some ⟨w.heap.size, 0, none⟩))] rfl rfl (by kernel_rfl) (by kernel_rfl) rfl Old.refl' (fun _ _ _ h => h) (fun d E w' hk hda hS hc hf => by rintro  e3; exact ⟨_, by go_simp, rfl⟩)) ?_
    refine StepsOk.cons (stepOk_pure [(1, 11)] [] rfl rfl (by kernel_rfl) (by kernel_rfl) rfl Old.refl' (fun _ _ _ h => h) (fun d E w' hk hda hS hc hf => by rintro _ q1 rfl e11 ; obtain ⟨⟨s0, s1, s2, s3, s4, s5⟩, l9⟩ := hX.out _ hS; have t0 := hW5.out _ hS; exact ⟨_, by go_simp, rfl⟩)) ?_
    refine StepsOk.cons (stepOk_pure [(0, 10)] [] rfl rfl (by kernel_rfl) (by kernel_rfl) rfl Old.refl' (fun _ _ _ h => h) (fun d E w' hk hda hS hc hf => by rintro _ q0 rfl e10 ; exact ⟨_, by go_simp, rfl⟩)) ?_
    refine StepsOk.cons (stepOk_pure [(3, 13)] [] rfl rfl (by kernel_rfl) (by kernel_rfl) rfl Old.refl' (fun _ _ _ h => h) (fun d E w' hk hda hS hc hf => by rintro _ q3 rfl e13 ; exact ⟨_, by go_simp, rfl⟩)) ?_
    refine StepsOk.cons (stepOk_pure [(4, 14), (2, 12)] [] rfl rfl (by kernel_rfl) (by kernel_rfl) rfl Old.refl' (fun _ _ _ h => h) (fun d E w' hk hda hS hc hf => by rintro _ q4 rfl e14 _ q2 rfl e12 ; obtain ⟨⟨s0, s1, s2, s3, s4, s5⟩, l9⟩ := hX.out _ hS; have t0 := hW5.out _ hS; exact ⟨_, by go_simp, rfl⟩)) ?_
    refine StepsOk.cons (stepOk_pure [(5, 15)] [] rfl rfl (by kernel_rfl) (by kernel_rfl) rfl Old.refl' (fun _ _ _ h => h) (fun d E w' hk hda hS hc hf => by rintro _ q5 rfl e15 ; exact ⟨_, by go_simp, rfl⟩)) ?_
    refine StepsOk.cons (stepOk_pure [(6, 16)] [] rfl rfl (by kernel_rfl) (by kernel_rfl) rfl Old.refl' (fun _ _ _ h => h) (fun d E w' hk hda hS hc hf => by rintro _ q6 rfl e16 ; obtain ⟨⟨s0, s1, s2, s3, s4, s5⟩, l9⟩ := hX.out _ hS; have t0 := hW5.out _ hS; exact ⟨_, by go_simp, rfl⟩)) ?_
    refine StepsOk.cons (stepOk_pure [(7, 17)] [] rfl rfl (by kernel_rfl) (by kernel_rfl) rfl Old.refl' (fun _ _ _ h => h) (fun d E w' hk hda hS hc hf => by rintro _ q7 rfl e17 ; exact ⟨_, by go_simp, rfl⟩)) ?_
    refine StepsOk.cons (stepOk_pure [(8, 18)] [] rfl rfl (by kernel_rfl) (by kernel_rfl) rfl Old.refl' (fun _ _ _ h => h) (fun d E w' hk hda hS hc hf => by rintro _ q8 rfl e18 ; exact ⟨_, by go_simp, rfl⟩)) ?_
    exact StepsOk.nil
  case ends =>
    intro σ9 w9 hS9 hA9
    refine Ends.eqv (some 10) (.pointer (some ⟨p, 0, none⟩)) rfl (fun _ h => h) ?_
    refine Ends.eqv (some 11) (.pointer (some ⟨w.heap.size, 0, none⟩)) rfl (fun _ h => h) ?_
    refine Ends.eqv (some 12) (.int .i64 c) rfl (fun _ h => h) ?_
    refine Ends.eqv (some 13) (.pointer (some ⟨p, 0, none⟩)) rfl (fun _ h => h) ?_
    refine Ends.eqv (some 14) (.pointer (some ⟨p, 5, none⟩)) rfl (fun _ h => h) ?_
    refine Ends.eqv (some 15) (.pointer (some ⟨p, 5 + c * 6, none⟩)) rfl (fun _ h => h) ?_
    refine Ends.eqv (some 16) (.pointer (some ⟨p, 5 + c * 6 + 1, none⟩)) rfl (fun _ h => h) ?_
    refine Ends.eqv (some 17) (.int .i64 0) rfl (fun _ h => h) ?_
    refine Ends.eqv (some 18) (.bool false) rfl (fun _ h => h) ?_
    refine Ends.eqv (some 9) (.bool false) rfl (fun _ h => h) ?_
    refine Ends.nil ?_
    clear hA9
    simp only [put_lit, put_none, List.set_cons_zero, List.set_cons_succ]
    clear x0 x1 x2 x3 x4 x5 l1 hbb
    have hbb := hS9
    clear hS9
    obtain ⟨⟨x0, x1, x2, x3, x4, x5⟩, l1⟩ := hX.out _ hbb
    go_wp2_with fail
    refine region_steps (R := pick [eqv (.pointer (some ⟨w.heap.size, 1, none⟩)), eqv (.int .i64 s), eqv (.pointer (some ⟨p, 0, none⟩)), eqv (.pointer (some ⟨w.heap.size, 0, none⟩)), eqv (.int .i64 c), eqv (.pointer (some ⟨p, 0, none⟩)), eqv (.pointer (some ⟨p, 1, none⟩)), eqv (.pointer (some ⟨p, 1 + c, none⟩)), eqv (.int .i64 sq), eqv (.bool true), eqv (.bool true)]) (S := fun _ w' => Old (w.alloc (.cells #[.int .i64 c, .int .i64 s, .int .i64 k, .int .i64 i, .int .i64 m, .string dt] 24)) w') (T := Old) (by kernel_rfl) (by kernel_rfl) (by kernel_rfl) (Stab.pick (Stab.eqv (Stab.eqv (Stab.eqv (Stab.eqv (Stab.eqv (Stab.eqv (Stab.eqv (Stab.eqv (Stab.eqv (Stab.eqv (Stab.eqv (Stab.nil))))))))))))) (hbb.drew') ?steps ?ends
    case steps =>
      refine StepsOk.cons (stepOk_pure [] [(3, .pointer (some ⟨w.heap.size, 0, none⟩))] rfl rfl (by kernel_rfl) (by kernel_rfl) rfl Old.refl' (fun _ _ _ h => h) (fun d E w' hk hda hS hc hf => by rintro  e3; exact ⟨_, by go_simp, rfl⟩)) ?_
      refine StepsOk.cons (stepOk_pure [(0, 20)] [] rfl rfl (by kernel_rfl) (by kernel_rfl) rfl Old.refl' (fun _ _ _ h => h) (fun d E w' hk hda hS hc hf => by rintro _ q0 rfl e20 ; obtain ⟨⟨s0, s1, s2, s3, s4, s5⟩, l9⟩ := hX.out _ hS; have t0 := hL1.out _ hS; exact ⟨_, by go_simp, rfl⟩)) ?_
      refine StepsOk.cons (stepOk_pure [] [(0, .pointer (some ⟨p, 0, none⟩))] rfl rfl (by kernel_rfl) (by kernel_rfl) rfl Old.refl' (fun _ _ _ h => h) (fun d E w' hk hda hS hc hf => by rintro  e0; exact ⟨_, by go_simp, rfl⟩)) ?_
      refine StepsOk.cons (stepOk_pure [] [(3, .pointer (some ⟨w.heap.size, 0, none⟩))] rfl rfl (by kernel_rfl) (by kernel_rfl) rfl Old.refl' (fun _ _ _ h => h) (fun d E w' hk hda hS hc hf => by rintro  e3; exact ⟨_, by go_simp, rfl⟩)) ?_
      refine StepsOk.cons (stepOk_pure [(3, 23)] [] rfl rfl (by kernel_rfl) (by kernel_rfl) rfl Old.refl' (fun _ _ _ h => h) (fun d E w' hk hda hS hc hf => by rintro _ q3 rfl e23 ; obtain ⟨⟨s0, s1, s2, s3, s4, s5⟩, l9⟩ := hX.out _ hS; have t0 := hL1.out _ hS; exact ⟨_, by go_simp, rfl⟩)) ?_
      refine StepsOk.cons (stepOk_pure [(2, 22)] [] rfl rfl (by kernel_rfl) (by kernel_rfl) rfl Old.refl' (fun _ _ _ h => h) (fun d E w' hk hda hS hc hf => by rintro _ q2 rfl e22 ; exact ⟨_, by go_simp, rfl⟩)) ?_
      refine StepsOk.cons (stepOk_pure [(5, 25)] [] rfl rfl (by kernel_rfl) (by kernel_rfl) rfl Old.refl' (fun _ _ _ h => h) (fun d E w' hk hda hS hc hf => by rintro _ q5 rfl e25 ; exact ⟨_, by go_simp, rfl⟩)) ?_
      refine StepsOk.cons (stepOk_pure [(6, 26), (4, 24)] [] rfl rfl (by kernel_rfl) (by kernel_rfl) rfl Old.refl' (fun _ _ _ h => h) (fun d E w' hk hda hS hc hf => by rintro _ q6 rfl e26 _ q4 rfl e24 ; obtain ⟨⟨s0, s1, s2, s3, s4, s5⟩, l9⟩ := hX.out _ hS; have t0 := hL1.out _ hS; exact ⟨_, by go_simp, rfl⟩)) ?_
      refine StepsOk.cons (stepOk_pure [(7, 27)] [] rfl rfl (by kernel_rfl) (by kernel_rfl) rfl Old.refl' (fun _ _ _ h => h) (fun d E w' hk hda hS hc hf => by rintro _ q7 rfl e27 ; obtain ⟨⟨s0, s1, s2, s3, s4, s5⟩, l9⟩ := hX.out _ hS; have t0 := hL1.out _ hS; exact ⟨_, by go_simp, rfl⟩)) ?_
      refine StepsOk.cons (stepOk_pure [(1, 21), (8, 28)] [] rfl rfl (by kernel_rfl) (by kernel_rfl) rfl Old.refl' (fun _ _ _ h => h) (fun d E w' hk hda hS hc hf => by rintro _ q1 rfl e21 _ q8 rfl e28 ; exact ⟨_, by go_simp, rfl⟩)) ?_
      refine StepsOk.cons (stepOk_pure [(9, 29)] [] rfl rfl (by kernel_rfl) (by kernel_rfl) rfl Old.refl' (fun _ _ _ h => h) (fun d E w' hk hda hS hc hf => by rintro _ q9 rfl e29 ; exact ⟨_, by go_simp, rfl⟩)) ?_
      exact StepsOk.nil
    case ends =>
      intro σ9 w9 hS9 hA9
      refine Ends.eqv (some 20) (.pointer (some ⟨w.heap.size, 1, none⟩)) rfl (fun _ h => h) ?_
      refine Ends.eqv (some 21) (.int .i64 s) rfl (fun _ h => h) ?_
      refine Ends.eqv (some 22) (.pointer (some ⟨p, 0, none⟩)) rfl (fun _ h => h) ?_
      refine Ends.eqv (some 23) (.pointer (some ⟨w.heap.size, 0, none⟩)) rfl (fun _ h => h) ?_
      refine Ends.eqv (some 24) (.int .i64 c) rfl (fun _ h => h) ?_
      refine Ends.eqv (some 25) (.pointer (some ⟨p, 0, none⟩)) rfl (fun _ h => h) ?_
      refine Ends.eqv (some 26) (.pointer (some ⟨p, 1, none⟩)) rfl (fun _ h => h) ?_
      refine Ends.eqv (some 27) (.pointer (some ⟨p, 1 + c, none⟩)) rfl (fun _ h => h) ?_
      refine Ends.eqv (some 28) (.int .i64 sq) rfl (fun _ h => h) ?_
      refine Ends.eqv (some 29) (.bool true) rfl (fun _ h => h) ?_
      refine Ends.eqv (some 19) (.bool true) rfl (fun _ h => h) ?_
      refine Ends.nil ?_
      clear hA9
      simp only [put_lit, put_none, List.set_cons_zero, List.set_cons_succ]
      clear x0 x1 x2 x3 x4 x5 l1 hbb
      have hbb := hS9
      clear hS9
      obtain ⟨⟨x0, x1, x2, x3, x4, x5⟩, l1⟩ := hX.out _ hbb
      go_wp2_with fail
      go_ret
      exact ⟨rfl, ((Old.refl' w).alloc' _).trans' hbb⟩
set_option maxRecDepth 100000 in
set_option maxHeartbeats 4000000 in
theorem DAsk_done (p : Nat) (F : Nat → Prop) (st : PV) (l : List ActV) (n : Nat) (hn : l.length = n) (hfew : n ≤ 50000) (q : ReqV) (hq : q.q.may = true) (hw : st.wait q.client = none) (hs : st.last q.client < q.seq) (w : World) (h : PdAt w p F st l) :
    Calls Try.prog 19 #[.pointer (some ⟨p, 0, none⟩), .agg #[.int .i64 q.client, .int .i64 q.seq, .int .i64 q.kind, .int .i64 q.id, .int .i64 q.mat, .string q.data]] w fun e w' => e = .returned (.int .i64 0) ∧ (∃ F', PdAt w' p F' (st.asked q) (l ++ [askAct q]) ∧ ∀ b, F' b → F b ∨ w.heap.size ≤ b) ∧ Fr F w w' := by
  obtain ⟨j0, hj0, hj00, hj01, hj02⟩ := info_parts info_Act
  obtain ⟨c, s, k, i, m, dt⟩ := q
  simp only [ReqV.q, Q.may] at hq hw hs ⊢
  have hs1 : 1 ≤ s := by have := (mayQ_b hq).2.1; omega
  obtain ⟨⟨c0, c3⟩, -, -, -⟩ := mayQ_b hq
  obtain ⟨c, rfl⟩ : ∃ n : Nat, c = n := ⟨c.toNat, by omega⟩
  have hcn : c < 4 := by omega
  obtain ⟨⟨cs, V, hB, hR, hC, hV⟩, gF, hlt, hwn, hwp, hvs⟩ := h
  have h1 := hC.wc c hcn 1 _ rfl
  rw [hw] at h1
  obtain ⟨sq, hsq⟩ : ∃ v, st.last c = v := ⟨_, rfl⟩
  have h2 := hC.lc c (by omega)
  rw [hsq] at h2 hs
  have hs' : ¬ s ≤ sq := by omega
  rw [hn] at hR
  obtain ⟨A, ca, rfl, -, -⟩ := own_form hR
  have hgl := hB.lt
  have hW5 := hide (fun (W : World) (hW : Old (w.alloc (.cells #[.int .i64 c, .int .i64 s, .int .i64 k, .int .i64 i, .int .i64 m, .string dt] 24)) W) => (((((Old.refl' w).alloc' _).trans' hW).cell (p := ⟨p, 5 + c * 6 + 1, none⟩) hgl).trans ((hB.cell _).trans h1) : W.cell? ⟨p, 5 + c * 6 + 1, none⟩ = some (.int .i64 0)))
  have hL1 := hide (fun (W : World) (hW : Old (w.alloc (.cells #[.int .i64 c, .int .i64 s, .int .i64 k, .int .i64 i, .int .i64 m, .string dt] 24)) W) => (((((Old.refl' w).alloc' _).trans' hW).cell (p := ⟨p, 1 + c, none⟩) hgl).trans ((hB.cell _).trans h2) : W.cell? ⟨p, 1 + c, none⟩ = some (.int .i64 sq)))
  have cM := hide (fun (W : World) => rMay_at c s k i m dt true hq W)
  have hX := hide (fun (W : World) (h : Old (w.alloc (.cells #[.int .i64 c, .int .i64 s, .int .i64 k, .int .i64 i, .int .i64 m, .string dt] 24)) W) => bk6 ((Bk.new w 24 #[.int .i64 c, .int .i64 s, .int .i64 k, .int .i64 i, .int .i64 m, .string dt]).old h))
  have hBQ := hide (fun (W : World) (h : Old (w.alloc (.cells #[.int .i64 c, .int .i64 s, .int .i64 k, .int .i64 i, .int .i64 m, .string dt] 24)) W) => (Bk.new w 24 #[.int .i64 c, .int .i64 s, .int .i64 k, .int .i64 i, .int .i64 m, .string dt]).old h)
  have hBB := hide (fun (W : World) (h : Old (w.alloc (.cells #[.int .i64 c, .int .i64 s, .int .i64 k, .int .i64 i, .int .i64 m, .string dt] 24)) W) => hB.old (((Old.refl' w).alloc' (.cells #[.int .i64 c, .int .i64 s, .int .i64 k, .int .i64 i, .int .i64 m, .string dt] 24)).trans' h))
  have hRR := hide (fun (W : World) (h : Fr (fun b => b = p) w W) => own_fr hR h (fun b hb e => own_ne_bk hR hB (by decide) (e ▸ hb)))
  have HNE := hide (own_ne_bk hR hB (by decide))
  have HC := hide hC
  have HV := hide hV
  have HWN := hide hwn
  have HWP := hide hwp
  have HVS := hide hvs
  have HLT := hide hlt
  have HGF := hide gF
  have HS1 := hide hs1
  have HN := hide hn
  have hc4 : (c : Int) < 4 := by omega
  clear hq hw hB hR hC hV hlt hwn hwp hvs h1 h2 hs hsq gF hs1 hn
  go_enter Try.func19, Try.ntmps19
  go_wp2_with (go_at_call 31; refine (cM.out _).mono ?_; rintro e w1 ⟨rfl, hbb⟩; obtain ⟨⟨x0, x1, x2, x3, x4, x5⟩, l1⟩ := hX.out _ hbb)
  refine region_steps (R := pick [eqv (.pointer (some ⟨p, 0, none⟩)), eqv (.pointer (some ⟨w.heap.size, 0, none⟩)), eqv (.int .i64 c), eqv (.pointer (some ⟨p, 0, none⟩)), eqv (.pointer (some ⟨p, 5, none⟩)), eqv (.pointer (some ⟨p, 5 + c * 6, none⟩)), eqv (.pointer (some ⟨p, 5 + c * 6 + 1, none⟩)), eqv (.int .i64 0), eqv (.bool false), eqv (.bool false)]) (S := fun _ w' => Old (w.alloc (.cells #[.int .i64 c, .int .i64 s, .int .i64 k, .int .i64 i, .int .i64 m, .string dt] 24)) w') (T := Old) (by kernel_rfl) (by kernel_rfl) (by kernel_rfl) (Stab.pick (Stab.eqv (Stab.eqv (Stab.eqv (Stab.eqv (Stab.eqv (Stab.eqv (Stab.eqv (Stab.eqv (Stab.eqv (Stab.eqv (Stab.nil)))))))))))) (hbb.drew') ?steps ?ends
  case steps =>
    refine StepsOk.cons (stepOk_pure [] [(0, .pointer (some ⟨p, 0, none⟩))] rfl rfl (by kernel_rfl) (by kernel_rfl) rfl Old.refl' (fun _ _ _ h => h) (fun d E w' hk hda hS hc hf => by rintro  e0; exact ⟨_, by go_simp, rfl⟩)) ?_
    refine StepsOk.cons (stepOk_pure [] [(3, .pointer (some ⟨w.heap.size, 0, none⟩))] rfl rfl (by kernel_rfl) (by kernel_rfl) rfl Old.refl' (fun _ _ _ h => h) (fun d E w' hk hda hS hc hf => by rintro  e3; exact ⟨_, by go_simp, rfl⟩)) ?_
    refine StepsOk.cons (stepOk_pure [(1, 11)] [] rfl rfl (by kernel_rfl) (by kernel_rfl) rfl Old.refl' (fun _ _ _ h => h) (fun d E w' hk hda hS hc hf => by rintro _ q1 rfl e11 ; obtain ⟨⟨s0, s1, s2, s3, s4, s5⟩, l9⟩ := hX.out _ hS; have t0 := hW5.out _ hS; exact ⟨_, by go_simp, rfl⟩)) ?_
    refine StepsOk.cons (stepOk_pure [(0, 10)] [] rfl rfl (by kernel_rfl) (by kernel_rfl) rfl Old.refl' (fun _ _ _ h => h) (fun d E w' hk hda hS hc hf => by rintro _ q0 rfl e10 ; exact ⟨_, by go_simp, rfl⟩)) ?_
    refine StepsOk.cons (stepOk_pure [(3, 13)] [] rfl rfl (by kernel_rfl) (by kernel_rfl) rfl Old.refl' (fun _ _ _ h => h) (fun d E w' hk hda hS hc hf => by rintro _ q3 rfl e13 ; exact ⟨_, by go_simp, rfl⟩)) ?_
    refine StepsOk.cons (stepOk_pure [(4, 14), (2, 12)] [] rfl rfl (by kernel_rfl) (by kernel_rfl) rfl Old.refl' (fun _ _ _ h => h) (fun d E w' hk hda hS hc hf => by rintro _ q4 rfl e14 _ q2 rfl e12 ; obtain ⟨⟨s0, s1, s2, s3, s4, s5⟩, l9⟩ := hX.out _ hS; have t0 := hW5.out _ hS; exact ⟨_, by go_simp, rfl⟩)) ?_
    refine StepsOk.cons (stepOk_pure [(5, 15)] [] rfl rfl (by kernel_rfl) (by kernel_rfl) rfl Old.refl' (fun _ _ _ h => h) (fun d E w' hk hda hS hc hf => by rintro _ q5 rfl e15 ; exact ⟨_, by go_simp, rfl⟩)) ?_
    refine StepsOk.cons (stepOk_pure [(6, 16)] [] rfl rfl (by kernel_rfl) (by kernel_rfl) rfl Old.refl' (fun _ _ _ h => h) (fun d E w' hk hda hS hc hf => by rintro _ q6 rfl e16 ; obtain ⟨⟨s0, s1, s2, s3, s4, s5⟩, l9⟩ := hX.out _ hS; have t0 := hW5.out _ hS; exact ⟨_, by go_simp, rfl⟩)) ?_
    refine StepsOk.cons (stepOk_pure [(7, 17)] [] rfl rfl (by kernel_rfl) (by kernel_rfl) rfl Old.refl' (fun _ _ _ h => h) (fun d E w' hk hda hS hc hf => by rintro _ q7 rfl e17 ; exact ⟨_, by go_simp, rfl⟩)) ?_
    refine StepsOk.cons (stepOk_pure [(8, 18)] [] rfl rfl (by kernel_rfl) (by kernel_rfl) rfl Old.refl' (fun _ _ _ h => h) (fun d E w' hk hda hS hc hf => by rintro _ q8 rfl e18 ; exact ⟨_, by go_simp, rfl⟩)) ?_
    exact StepsOk.nil
  case ends =>
    intro σ9 w9 hS9 hA9
    refine Ends.eqv (some 10) (.pointer (some ⟨p, 0, none⟩)) rfl (fun _ h => h) ?_
    refine Ends.eqv (some 11) (.pointer (some ⟨w.heap.size, 0, none⟩)) rfl (fun _ h => h) ?_
    refine Ends.eqv (some 12) (.int .i64 c) rfl (fun _ h => h) ?_
    refine Ends.eqv (some 13) (.pointer (some ⟨p, 0, none⟩)) rfl (fun _ h => h) ?_
    refine Ends.eqv (some 14) (.pointer (some ⟨p, 5, none⟩)) rfl (fun _ h => h) ?_
    refine Ends.eqv (some 15) (.pointer (some ⟨p, 5 + c * 6, none⟩)) rfl (fun _ h => h) ?_
    refine Ends.eqv (some 16) (.pointer (some ⟨p, 5 + c * 6 + 1, none⟩)) rfl (fun _ h => h) ?_
    refine Ends.eqv (some 17) (.int .i64 0) rfl (fun _ h => h) ?_
    refine Ends.eqv (some 18) (.bool false) rfl (fun _ h => h) ?_
    refine Ends.eqv (some 9) (.bool false) rfl (fun _ h => h) ?_
    refine Ends.nil ?_
    clear hA9
    simp only [put_lit, put_none, List.set_cons_zero, List.set_cons_succ]
    clear x0 x1 x2 x3 x4 x5 l1 hbb
    have hbb := hS9
    clear hS9
    obtain ⟨⟨x0, x1, x2, x3, x4, x5⟩, l1⟩ := hX.out _ hbb
    go_wp2_with fail
    refine region_steps (R := pick [eqv (.pointer (some ⟨w.heap.size, 1, none⟩)), eqv (.int .i64 s), eqv (.pointer (some ⟨p, 0, none⟩)), eqv (.pointer (some ⟨w.heap.size, 0, none⟩)), eqv (.int .i64 c), eqv (.pointer (some ⟨p, 0, none⟩)), eqv (.pointer (some ⟨p, 1, none⟩)), eqv (.pointer (some ⟨p, 1 + c, none⟩)), eqv (.int .i64 sq), eqv (.bool false), eqv (.bool false)]) (S := fun _ w' => Old (w.alloc (.cells #[.int .i64 c, .int .i64 s, .int .i64 k, .int .i64 i, .int .i64 m, .string dt] 24)) w') (T := Old) (by kernel_rfl) (by kernel_rfl) (by kernel_rfl) (Stab.pick (Stab.eqv (Stab.eqv (Stab.eqv (Stab.eqv (Stab.eqv (Stab.eqv (Stab.eqv (Stab.eqv (Stab.eqv (Stab.eqv (Stab.eqv (Stab.nil))))))))))))) (hbb.drew') ?steps ?ends
    case steps =>
      refine StepsOk.cons (stepOk_pure [] [(3, .pointer (some ⟨w.heap.size, 0, none⟩))] rfl rfl (by kernel_rfl) (by kernel_rfl) rfl Old.refl' (fun _ _ _ h => h) (fun d E w' hk hda hS hc hf => by rintro  e3; exact ⟨_, by go_simp, rfl⟩)) ?_
      refine StepsOk.cons (stepOk_pure [(0, 20)] [] rfl rfl (by kernel_rfl) (by kernel_rfl) rfl Old.refl' (fun _ _ _ h => h) (fun d E w' hk hda hS hc hf => by rintro _ q0 rfl e20 ; obtain ⟨⟨s0, s1, s2, s3, s4, s5⟩, l9⟩ := hX.out _ hS; have t0 := hL1.out _ hS; exact ⟨_, by go_simp, rfl⟩)) ?_
      refine StepsOk.cons (stepOk_pure [] [(0, .pointer (some ⟨p, 0, none⟩))] rfl rfl (by kernel_rfl) (by kernel_rfl) rfl Old.refl' (fun _ _ _ h => h) (fun d E w' hk hda hS hc hf => by rintro  e0; exact ⟨_, by go_simp, rfl⟩)) ?_
      refine StepsOk.cons (stepOk_pure [] [(3, .pointer (some ⟨w.heap.size, 0, none⟩))] rfl rfl (by kernel_rfl) (by kernel_rfl) rfl Old.refl' (fun _ _ _ h => h) (fun d E w' hk hda hS hc hf => by rintro  e3; exact ⟨_, by go_simp, rfl⟩)) ?_
      refine StepsOk.cons (stepOk_pure [(3, 23)] [] rfl rfl (by kernel_rfl) (by kernel_rfl) rfl Old.refl' (fun _ _ _ h => h) (fun d E w' hk hda hS hc hf => by rintro _ q3 rfl e23 ; obtain ⟨⟨s0, s1, s2, s3, s4, s5⟩, l9⟩ := hX.out _ hS; have t0 := hL1.out _ hS; exact ⟨_, by go_simp, rfl⟩)) ?_
      refine StepsOk.cons (stepOk_pure [(2, 22)] [] rfl rfl (by kernel_rfl) (by kernel_rfl) rfl Old.refl' (fun _ _ _ h => h) (fun d E w' hk hda hS hc hf => by rintro _ q2 rfl e22 ; exact ⟨_, by go_simp, rfl⟩)) ?_
      refine StepsOk.cons (stepOk_pure [(5, 25)] [] rfl rfl (by kernel_rfl) (by kernel_rfl) rfl Old.refl' (fun _ _ _ h => h) (fun d E w' hk hda hS hc hf => by rintro _ q5 rfl e25 ; exact ⟨_, by go_simp, rfl⟩)) ?_
      refine StepsOk.cons (stepOk_pure [(6, 26), (4, 24)] [] rfl rfl (by kernel_rfl) (by kernel_rfl) rfl Old.refl' (fun _ _ _ h => h) (fun d E w' hk hda hS hc hf => by rintro _ q6 rfl e26 _ q4 rfl e24 ; obtain ⟨⟨s0, s1, s2, s3, s4, s5⟩, l9⟩ := hX.out _ hS; have t0 := hL1.out _ hS; exact ⟨_, by go_simp, rfl⟩)) ?_
      refine StepsOk.cons (stepOk_pure [(7, 27)] [] rfl rfl (by kernel_rfl) (by kernel_rfl) rfl Old.refl' (fun _ _ _ h => h) (fun d E w' hk hda hS hc hf => by rintro _ q7 rfl e27 ; obtain ⟨⟨s0, s1, s2, s3, s4, s5⟩, l9⟩ := hX.out _ hS; have t0 := hL1.out _ hS; exact ⟨_, by go_simp, rfl⟩)) ?_
      refine StepsOk.cons (stepOk_pure [(1, 21), (8, 28)] [] rfl rfl (by kernel_rfl) (by kernel_rfl) rfl Old.refl' (fun _ _ _ h => h) (fun d E w' hk hda hS hc hf => by rintro _ q1 rfl e21 _ q8 rfl e28 ; exact ⟨_, by go_simp, rfl⟩)) ?_
      refine StepsOk.cons (stepOk_pure [(9, 29)] [] rfl rfl (by kernel_rfl) (by kernel_rfl) rfl Old.refl' (fun _ _ _ h => h) (fun d E w' hk hda hS hc hf => by rintro _ q9 rfl e29 ; exact ⟨_, by go_simp, rfl⟩)) ?_
      exact StepsOk.nil
    case ends =>
      intro σ9 w9 hS9 hA9
      refine Ends.eqv (some 20) (.pointer (some ⟨w.heap.size, 1, none⟩)) rfl (fun _ h => h) ?_
      refine Ends.eqv (some 21) (.int .i64 s) rfl (fun _ h => h) ?_
      refine Ends.eqv (some 22) (.pointer (some ⟨p, 0, none⟩)) rfl (fun _ h => h) ?_
      refine Ends.eqv (some 23) (.pointer (some ⟨w.heap.size, 0, none⟩)) rfl (fun _ h => h) ?_
      refine Ends.eqv (some 24) (.int .i64 c) rfl (fun _ h => h) ?_
      refine Ends.eqv (some 25) (.pointer (some ⟨p, 0, none⟩)) rfl (fun _ h => h) ?_
      refine Ends.eqv (some 26) (.pointer (some ⟨p, 1, none⟩)) rfl (fun _ h => h) ?_
      refine Ends.eqv (some 27) (.pointer (some ⟨p, 1 + c, none⟩)) rfl (fun _ h => h) ?_
      refine Ends.eqv (some 28) (.int .i64 sq) rfl (fun _ h => h) ?_
      refine Ends.eqv (some 29) (.bool false) rfl (fun _ h => h) ?_
      refine Ends.eqv (some 19) (.bool false) rfl (fun _ h => h) ?_
      refine Ends.nil ?_
      clear hA9
      simp only [put_lit, put_none, List.set_cons_zero, List.set_cons_succ]
      clear x0 x1 x2 x3 x4 x5 l1 hbb
      have hbb := hS9
      clear hS9
      obtain ⟨⟨x0, x1, x2, x3, x4, x5⟩, l1⟩ := hX.out _ hbb
      go_wp2_with fail
      clear x0 x1 x2 x3 x4 x5 l1
      have hB5 := hBB.out _ hbb
      have hQ5 := hBQ.out _ hbb
      have hO5 := hide (((Old.refl' w).alloc' (.cells #[.int .i64 c, .int .i64 s, .int .i64 k, .int .i64 i, .int .i64 m, .string dt] 24)).trans' hbb)
      obtain ⟨W5, hW5e⟩ : ∃ U, w9 = U := ⟨_, rfl⟩
      rw [hW5e] at hB5 hQ5 hO5
      simp only [hW5e]
      clear hW5e hbb
      obtain ⟨b3, hb3⟩ : ∃ b, w.heap.size = b := ⟨_, rfl⟩
      have HB3 := hide hb3
      have hqg : p ≠ b3 := by omega
      rw [hb3] at hQ5
      simp only [hb3]
      clear hb3
      have hST1 : ∀ (d : Nat → Option Value) (cs' : Array Value), d 12 = none → PdC cs' (.slice A n ca) ⟨st.n, sel (d 12) st.last (lastS st c s), sel (d 16) st.wait (waitS st c (some ⟨c, s, k, i, m, dt⟩))⟩ → PdC (cs'.setIfInBounds (1 + c) (.int .i64 s)) (.slice A n ca) ⟨st.n, sel (upd d 12 undef 12) st.last (lastS st c s), sel (upd d 12 undef 16) st.wait (waitS st c (some ⟨c, s, k, i, m, dt⟩))⟩ := fun d cs' h1 h2 => by
        have e1 : upd d 12 undef 12 = some undef := by simp [upd]
        have e2 : upd d 12 undef 16 = d 16 := by simp [upd]
        rw [h1] at h2
        rw [e1, e2]
        exact h2.setL hcn s
      have hST2 : ∀ (d : Nat → Option Value) (cs' : Array Value), d 16 = none → PdC cs' (.slice A n ca) ⟨st.n, sel (d 12) st.last (lastS st c s), sel (d 16) st.wait (waitS st c (some ⟨c, s, k, i, m, dt⟩))⟩ → PdC ((((((cs'.setIfInBounds (5 + c * 6) (.int .i64 c)).setIfInBounds (5 + c * 6 + 1) (.int .i64 s)).setIfInBounds (5 + c * 6 + 2) (.int .i64 k)).setIfInBounds (5 + c * 6 + 3) (.int .i64 i)).setIfInBounds (5 + c * 6 + 4) (.int .i64 m)).setIfInBounds (5 + c * 6 + 5) (.string dt)) (.slice A n ca) ⟨st.n, sel (upd d 16 undef 12) st.last (lastS st c s), sel (upd d 16 undef 16) st.wait (waitS st c (some ⟨c, s, k, i, m, dt⟩))⟩ := fun d cs' h1 h2 => by
        have e1 : upd d 16 undef 16 = some undef := by simp [upd]
        have e2 : upd d 16 undef 12 = d 12 := by simp [upd]
        rw [h1] at h2
        rw [e1, e2]
        exact h2.setW hcn (some ⟨c, s, k, i, m, dt⟩) ⟨c, s, k, i, m, dt⟩ rfl
      have hFr6 : ∀ {w' : World}, Fr (fun b => b = p) W5 w' → Fr (fun b => b = p) W5 ((((((w'.setCell ⟨p, 5 + c * 6, none⟩ (.int .i64 c)).setCell ⟨p, 5 + c * 6 + 1, none⟩ (.int .i64 s)).setCell ⟨p, 5 + c * 6 + 2, none⟩ (.int .i64 k)).setCell ⟨p, 5 + c * 6 + 3, none⟩ (.int .i64 i)).setCell ⟨p, 5 + c * 6 + 4, none⟩ (.int .i64 m)).setCell ⟨p, 5 + c * 6 + 5, none⟩ (.string dt)) := fun {w'} h => by
        have stp : ∀ {W : World} (j : Nat) (u : Value), Fr (fun k => k = p) W5 W → Fr (fun k => k = p) W5 (W.setCell ⟨p, j, none⟩ u) := fun j u h => Fr.setCell (p := ⟨p, j, none⟩) h (.inr rfl) u
        exact stp _ _ (stp _ _ (stp _ _ (stp _ _ (stp _ _ (stp _ _ h)))))
      refine region_steps (R := pick [eqv (.pointer (some ⟨p, 0, none⟩)), eqv (.pointer (some ⟨b3, 0, none⟩)), eqv (.int .i64 c), eqv (.pointer (some ⟨p, 0, none⟩)), eqv (.pointer (some ⟨b3, 0, none⟩)), eqv (.int .i64 c), eqv (.pointer (some ⟨b3, 1, none⟩)), eqv (.int .i64 s), eqv (.agg #[.int .i64 c, .int .i64 s, .int .i64 k, .int .i64 i, .int .i64 m, .string dt]), eqv (.pointer (some ⟨p, 0, none⟩)), eqv (.pointer (some ⟨p, 1, none⟩)), eqv (.pointer (some ⟨p, 1 + c, none⟩)), eqv (undef), eqv (.pointer (some ⟨p, 0, none⟩)), eqv (.pointer (some ⟨p, 5, none⟩)), eqv (.pointer (some ⟨p, 5 + c * 6, none⟩)), eqv (undef)]) (S := fun σ w' => (∃ cs', Bk w' p 52 cs' ∧ PdC cs' (.slice A n ca) ⟨st.n, sel (σ 12) st.last (lastS st c s), sel (σ 16) st.wait (waitS st c (some ⟨c, s, k, i, m, dt⟩))⟩) ∧ Bk w' b3 24 #[.int .i64 c, .int .i64 s, .int .i64 k, .int .i64 i, .int .i64 m, .string dt] ∧ Fr (fun b => b = p) W5 w') (T := (fun _ _ => True)) (by kernel_rfl) (by kernel_rfl) (by kernel_rfl) (Stab.pick (Stab.eqv (Stab.eqv (Stab.eqv (Stab.eqv (Stab.eqv (Stab.eqv (Stab.eqv (Stab.eqv (Stab.eqv (Stab.eqv (Stab.eqv (Stab.eqv (Stab.eqv (Stab.eqv (Stab.eqv (Stab.eqv (Stab.eqv (Stab.nil))))))))))))))))))) (⟨⟨cs, hB5.drew, HC.out⟩, hQ5.drew, (Fr.refl _ _).drew⟩) ?steps ?ends
      case steps =>
        refine StepsOk.cons (stepOk_pure [] [(0, .pointer (some ⟨p, 0, none⟩))] rfl rfl (by kernel_rfl) (by kernel_rfl) rfl (fun _ => trivial) (fun σ v w h => by simpa [upd] using h) (fun d E w' hk hda hS hc hf => by rintro  e0; exact ⟨_, by go_simp, rfl⟩)) ?_
        refine StepsOk.cons (stepOk_pure [] [(3, .pointer (some ⟨b3, 0, none⟩))] rfl rfl (by kernel_rfl) (by kernel_rfl) rfl (fun _ => trivial) (fun σ v w h => by simpa [upd] using h) (fun d E w' hk hda hS hc hf => by rintro  e3; exact ⟨_, by go_simp, rfl⟩)) ?_
        refine StepsOk.cons (stepOk_pure [(1, 31)] [] rfl rfl (by kernel_rfl) (by kernel_rfl) rfl (fun _ => trivial) (fun σ v w h => by simpa [upd] using h) (fun d E w' hk hda hS hc hf => by rintro _ q1 rfl e31 ; obtain ⟨⟨cs', hB6, hC6⟩, hQ6, hF6⟩ := hS; obtain ⟨⟨s0, s1, s2, s3, s4, s5⟩, l9⟩ := bk6 hQ6; exact ⟨_, by go_simp, rfl⟩)) ?_
        refine StepsOk.cons (stepOk_pure [] [(0, .pointer (some ⟨p, 0, none⟩))] rfl rfl (by kernel_rfl) (by kernel_rfl) rfl (fun _ => trivial) (fun σ v w h => by simpa [upd] using h) (fun d E w' hk hda hS hc hf => by rintro  e0; exact ⟨_, by go_simp, rfl⟩)) ?_
        refine StepsOk.cons (stepOk_pure [] [(3, .pointer (some ⟨b3, 0, none⟩))] rfl rfl (by kernel_rfl) (by kernel_rfl) rfl (fun _ => trivial) (fun σ v w h => by simpa [upd] using h) (fun d E w' hk hda hS hc hf => by rintro  e3; exact ⟨_, by go_simp, rfl⟩)) ?_
        refine StepsOk.cons (stepOk_pure [(4, 34)] [] rfl rfl (by kernel_rfl) (by kernel_rfl) rfl (fun _ => trivial) (fun σ v w h => by simpa [upd] using h) (fun d E w' hk hda hS hc hf => by rintro _ q4 rfl e34 ; obtain ⟨⟨cs', hB6, hC6⟩, hQ6, hF6⟩ := hS; obtain ⟨⟨s0, s1, s2, s3, s4, s5⟩, l9⟩ := bk6 hQ6; exact ⟨_, by go_simp, rfl⟩)) ?_
        refine StepsOk.cons (stepOk_pure [] [(3, .pointer (some ⟨b3, 0, none⟩))] rfl rfl (by kernel_rfl) (by kernel_rfl) rfl (fun _ => trivial) (fun σ v w h => by simpa [upd] using h) (fun d E w' hk hda hS hc hf => by rintro  e3; exact ⟨_, by go_simp, rfl⟩)) ?_
        refine StepsOk.cons (stepOk_pure [(6, 36)] [] rfl rfl (by kernel_rfl) (by kernel_rfl) rfl (fun _ => trivial) (fun σ v w h => by simpa [upd] using h) (fun d E w' hk hda hS hc hf => by rintro _ q6 rfl e36 ; obtain ⟨⟨cs', hB6, hC6⟩, hQ6, hF6⟩ := hS; obtain ⟨⟨s0, s1, s2, s3, s4, s5⟩, l9⟩ := bk6 hQ6; exact ⟨_, by go_simp, rfl⟩)) ?_
        refine StepsOk.cons (stepOk_pure [] [(3, .pointer (some ⟨b3, 0, none⟩))] rfl rfl (by kernel_rfl) (by kernel_rfl) rfl (fun _ => trivial) (fun σ v w h => by simpa [upd] using h) (fun d E w' hk hda hS hc hf => by rintro  e3; obtain ⟨⟨cs', hB6, hC6⟩, hQ6, hF6⟩ := hS; obtain ⟨⟨s0, s1, s2, s3, s4, s5⟩, l9⟩ := bk6 hQ6; exact ⟨_, by go_simp, rfl⟩)) ?_
        refine StepsOk.cons (stepOk_pure [(0, 30)] [] rfl rfl (by kernel_rfl) (by kernel_rfl) rfl (fun _ => trivial) (fun σ v w h => by simpa [upd] using h) (fun d E w' hk hda hS hc hf => by rintro _ q0 rfl e30 ; exact ⟨_, by go_simp, rfl⟩)) ?_
        refine StepsOk.cons (stepOk_pure [(9, 39)] [] rfl rfl (by kernel_rfl) (by kernel_rfl) rfl (fun _ => trivial) (fun σ v w h => by simpa [upd] using h) (fun d E w' hk hda hS hc hf => by rintro _ q9 rfl e39 ; exact ⟨_, by go_simp, rfl⟩)) ?_
        refine StepsOk.cons (stepOk_pure [(10, 40), (2, 32)] [] rfl rfl (by kernel_rfl) (by kernel_rfl) rfl (fun _ => trivial) (fun σ v w h => by simpa [upd] using h) (fun d E w' hk hda hS hc hf => by rintro _ q10 rfl e40 _ q2 rfl e32 ; obtain ⟨⟨cs', hB6, hC6⟩, hQ6, hF6⟩ := hS; obtain ⟨⟨s0, s1, s2, s3, s4, s5⟩, l9⟩ := bk6 hQ6; exact ⟨_, by go_simp, rfl⟩)) ?_
        refine StepsOk.cons (stepOk_store [(11, 41), (7, 37)] [] rfl rfl (by kernel_rfl) (by kernel_rfl) rfl (fun d E w' hk hda hS hc hf => by rintro _ q11 rfl e41 _ q7 rfl e37 ; obtain ⟨⟨cs', hB6, hC6⟩, hQ6, hF6⟩ := hS; obtain ⟨⟨s0, s1, s2, s3, s4, s5⟩, l9⟩ := bk6 hQ6; have y0 := (hB6.cell (1 + c)).trans (hC6.lc c hcn); have y1 := hB6.frozen (1 + c); exact ⟨w'.setCell ⟨p, 1 + c, none⟩ (.int .i64 s), by go_simp, rfl, trivial, ⟨⟨_, hB6.set_ (1 + c) _, hST1 d cs' (hk 12 (by kernel_rfl)) hC6⟩, hQ6.far (p := ⟨p, 1 + c, none⟩) (Ne.symm hqg) _, hF6.setCell (p := ⟨p, 1 + c, none⟩) (.inr rfl) _⟩⟩)) ?_
        refine StepsOk.cons (stepOk_pure [(3, 33)] [] rfl rfl (by kernel_rfl) (by kernel_rfl) rfl (fun _ => trivial) (fun σ v w h => by simpa [upd] using h) (fun d E w' hk hda hS hc hf => by rintro _ q3 rfl e33 ; exact ⟨_, by go_simp, rfl⟩)) ?_
        refine StepsOk.cons (stepOk_pure [(13, 42)] [] rfl rfl (by kernel_rfl) (by kernel_rfl) rfl (fun _ => trivial) (fun σ v w h => by simpa [upd] using h) (fun d E w' hk hda hS hc hf => by rintro _ q13 rfl e42 ; exact ⟨_, by go_simp, rfl⟩)) ?_
        refine StepsOk.cons (stepOk_pure [(14, 43), (5, 35)] [] rfl rfl (by kernel_rfl) (by kernel_rfl) rfl (fun _ => trivial) (fun σ v w h => by simpa [upd] using h) (fun d E w' hk hda hS hc hf => by rintro _ q14 rfl e43 _ q5 rfl e35 ; obtain ⟨⟨cs', hB6, hC6⟩, hQ6, hF6⟩ := hS; obtain ⟨⟨s0, s1, s2, s3, s4, s5⟩, l9⟩ := bk6 hQ6; exact ⟨_, by go_simp, rfl⟩)) ?_
        refine StepsOk.cons (stepOk_store [(15, 44), (8, 38)] [] rfl rfl (by kernel_rfl) (by kernel_rfl) rfl (fun d E w' hk hda hS hc hf => by rintro _ q15 rfl e44 _ q8 rfl e38 ; obtain ⟨⟨cs', hB6, hC6⟩, hQ6, hF6⟩ := hS; obtain ⟨⟨s0, s1, s2, s3, s4, s5⟩, l9⟩ := bk6 hQ6; obtain ⟨⟨y0, y1, y2, y3, y4, y5⟩, f0, f1, f2, f3, f4, f5⟩ := hC6.six hB6 hcn; exact ⟨(((((w'.setCell ⟨p, 5 + c * 6, none⟩ (.int .i64 c)).setCell ⟨p, 5 + c * 6 + 1, none⟩ (.int .i64 s)).setCell ⟨p, 5 + c * 6 + 2, none⟩ (.int .i64 k)).setCell ⟨p, 5 + c * 6 + 3, none⟩ (.int .i64 i)).setCell ⟨p, 5 + c * 6 + 4, none⟩ (.int .i64 m)).setCell ⟨p, 5 + c * 6 + 5, none⟩ (.string dt), by go_simp, rfl, trivial, ⟨⟨_, ((((((hB6.set_ (5 + c * 6) _).set_ (5 + c * 6 + 1) _).set_ (5 + c * 6 + 2) _).set_ (5 + c * 6 + 3) _).set_ (5 + c * 6 + 4) _).set_ (5 + c * 6 + 5) _), hST2 d cs' (hk 16 (by kernel_rfl)) hC6⟩, (((((hQ6.far (p := ⟨p, 5 + c * 6, none⟩) (Ne.symm hqg) _).far (p := ⟨p, 5 + c * 6 + 1, none⟩) (Ne.symm hqg) _).far (p := ⟨p, 5 + c * 6 + 2, none⟩) (Ne.symm hqg) _).far (p := ⟨p, 5 + c * 6 + 3, none⟩) (Ne.symm hqg) _).far (p := ⟨p, 5 + c * 6 + 4, none⟩) (Ne.symm hqg) _).far (p := ⟨p, 5 + c * 6 + 5, none⟩) (Ne.symm hqg) _, hFr6 hF6⟩⟩)) ?_
        exact StepsOk.nil
      case ends =>
        intro σ9 w9 hS9 hA9
        refine Ends.eqv (some 30) (.pointer (some ⟨p, 0, none⟩)) rfl (fun _ h => h) ?_
        refine Ends.eqv (some 31) (.pointer (some ⟨b3, 0, none⟩)) rfl (fun _ h => h) ?_
        refine Ends.eqv (some 32) (.int .i64 c) rfl (fun _ h => h) ?_
        refine Ends.eqv (some 33) (.pointer (some ⟨p, 0, none⟩)) rfl (fun _ h => h) ?_
        refine Ends.eqv (some 34) (.pointer (some ⟨b3, 0, none⟩)) rfl (fun _ h => h) ?_
        refine Ends.eqv (some 35) (.int .i64 c) rfl (fun _ h => h) ?_
        refine Ends.eqv (some 36) (.pointer (some ⟨b3, 1, none⟩)) rfl (fun _ h => h) ?_
        refine Ends.eqv (some 37) (.int .i64 s) rfl (fun _ h => h) ?_
        refine Ends.eqv (some 38) (.agg #[.int .i64 c, .int .i64 s, .int .i64 k, .int .i64 i, .int .i64 m, .string dt]) rfl (fun _ h => h) ?_
        refine Ends.eqv (some 39) (.pointer (some ⟨p, 0, none⟩)) rfl (fun _ h => h) ?_
        refine Ends.eqv (some 40) (.pointer (some ⟨p, 1, none⟩)) rfl (fun _ h => h) ?_
        refine Ends.eqv (some 41) (.pointer (some ⟨p, 1 + c, none⟩)) rfl (fun _ h => h) ?_
        refine Ends.eqv none (undef) rfl (fun _ h => h) ?_
        refine Ends.eqv (some 42) (.pointer (some ⟨p, 0, none⟩)) rfl (fun _ h => h) ?_
        refine Ends.eqv (some 43) (.pointer (some ⟨p, 5, none⟩)) rfl (fun _ h => h) ?_
        refine Ends.eqv (some 44) (.pointer (some ⟨p, 5 + c * 6, none⟩)) rfl (fun _ h => h) ?_
        refine Ends.eqv none (undef) rfl (fun _ h => h) ?_
        refine Ends.nil ?_
        have hA9' := hA9
        clear hA9
        simp only [put_lit, put_none, List.set_cons_zero, List.set_cons_succ]
        obtain ⟨⟨cs7, hB9, hC9⟩, hQ9, hF9⟩ := hS9
        obtain ⟨u1, hu1⟩ := Option.isSome_iff_exists.1 (hA9' 12 (by simp))
        obtain ⟨u2, hu2⟩ := Option.isSome_iff_exists.1 (hA9' 16 (by simp))
        rw [hu1, hu2] at hC9
        clear hu1 hu2 hA9'
        clear hST1 hST2 hFr6 hB5 hQ5
        go_wp2_with fail
        have hB7 := hB9.drew
        have hQ7 := hQ9.drew
        have hF7 := hide (hF9.drew)
        obtain ⟨WD, hWDe⟩ : ∃ U, w9.drew = U := ⟨_, rfl⟩
        rw [hWDe] at hB7 hQ7 hF7
        have HC9 := hide hC9
        have bkX := hB7
        have hO7 := hide ((Fr.of_old (S := fun b => b = p) hO5.out).trans hF7.out)
        have ownX := hRR.out _ hO7.out
        have hNE := HNE.out
        have hX1 : cs7[0]? = some (.slice A n ca) := hC9.c0
        clear hC9
        have CS := hide (fun (U : World) (h : Old WD U) => (⟨(bk6 (hQ7.old h)).1, ((bkX.old h).cell 0).trans hX1⟩ : (U.cell? ⟨b3, 0, none⟩ = some (.int .i64 c) ∧ U.cell? ⟨b3, 1, none⟩ = some (.int .i64 s) ∧ U.cell? ⟨b3, 2, none⟩ = some (.int .i64 k) ∧ U.cell? ⟨b3, 3, none⟩ = some (.int .i64 i) ∧ U.cell? ⟨b3, 4, none⟩ = some (.int .i64 m) ∧ U.cell? ⟨b3, 5, none⟩ = some (.string dt)) ∧ U.cell? ⟨p, 0, none⟩ = some (.slice A n ca)))
        obtain ⟨Fin, hFin⟩ : ∃ F : World → Prop, F = fun U => ∃ A2 c2, Bk U p 52 (cs7.setIfInBounds 0 (.slice A2 (n + 1) c2)) ∧ U.ownsRow 0 45 14 (.slice A2 (n + 1) c2) (n + 1) (l.flatMap ActV.cells ++ [.int .i64 c, .int .i64 s, .bool false, .int .i64 c, .int .i64 s, .int .i64 k, .int .i64 i, .int .i64 m, .string dt, .int .i64 0, .int .i64 0, .string { data := #[] }, .slice none 0 0, .int .i64 0]) ∧
          Fr (fun b => b = p ∨ (Value.slice A n ca).ownBlock = some b) WD U ∧ (∀ b, (Value.slice A2 (n + 1) c2).ownBlock = some b → (Value.slice A n ca).ownBlock = some b ∨ WD.heap.size ≤ b) := ⟨_, rfl⟩
        have hAPP := fun (A2 : Option Addr) (c2 : Nat) (W2 : World) (h2 : Apps (WD.alloc (.cells #[.int .i64 c, .int .i64 s, .bool false, .int .i64 c, .int .i64 s, .int .i64 k, .int .i64 i, .int .i64 m, .string dt, .int .i64 0, .int .i64 0, .string { data := #[] }, .slice none 0 0, .int .i64 0] 45)) 0 45 14 (.slice A n ca) (n + 1) (l.flatMap ActV.cells ++ [.int .i64 c, .int .i64 s, .bool false, .int .i64 c, .int .i64 s, .int .i64 k, .int .i64 i, .int .i64 m, .string dt, .int .i64 0, .int .i64 0, .string { data := #[] }, .slice none 0 0, .int .i64 0]) (.slice A2 (n + 1) c2) W2) => (by
          obtain ⟨a1, a2, a3, a4⟩ := bk_app (off := 0) bkX ownX hNE ((Old.refl' WD).alloc' _) h2
          rw [hFin]
          exact ⟨A2, c2, a1, a2, a3, a4⟩ : Fin (W2.setCell ⟨p, 0, none⟩ (.slice A2 (n + 1) c2)))
        clear hB7 hQ7 hB9 hQ9 hF9
        refine region_steps (R := pick [eqv (.pointer (some ⟨p, 0, none⟩)), eqv (.pointer (some ⟨p, 0, none⟩)), eqv (.pointer (some ⟨p, 0, none⟩)), eqv (.pointer (some ⟨p, 0, none⟩)), eqv (.slice A n ca), eqv (.pointer (some ⟨b3, 0, none⟩)), eqv (.int .i64 c), eqv (.pointer (some ⟨b3, 1, none⟩)), eqv (.int .i64 s), eqv (.agg #[.int .i64 c, .int .i64 s, .int .i64 k, .int .i64 i, .int .i64 m, .string dt]), eqv (.agg #[.int .i64 c, .int .i64 s, .bool false, .int .i64 c, .int .i64 s, .int .i64 k, .int .i64 i, .int .i64 m, .string dt, .int .i64 0, .int .i64 0, .string { data := #[] }, .slice none 0 0, .int .i64 0]), eqv (.slice (some ⟨WD.heap.size, 0, none⟩) 1 1), fun v w' => ∃ A2 c2, v = .slice A2 (n + 1) c2, eqv (.pointer (some ⟨p, 0, none⟩)), eqv (.pointer (some ⟨p, 0, none⟩)), eqv (undef)]) (S := fun σ w' => (σ 15 ≠ none → Fin w') ∧ (σ 15 = none → σ 12 ≠ none → ∃ A2 c2, σ 12 = some (.slice A2 (n + 1) c2) ∧ Apps (WD.alloc (.cells #[.int .i64 c, .int .i64 s, .bool false, .int .i64 c, .int .i64 s, .int .i64 k, .int .i64 i, .int .i64 m, .string dt, .int .i64 0, .int .i64 0, .string { data := #[] }, .slice none 0 0, .int .i64 0] 45)) 0 45 14 (.slice A n ca) (n + 1) ((l.flatMap ActV.cells) ++ [.int .i64 c, .int .i64 s, .bool false, .int .i64 c, .int .i64 s, .int .i64 k, .int .i64 i, .int .i64 m, .string dt, .int .i64 0, .int .i64 0, .string { data := #[] }, .slice none 0 0, .int .i64 0]) (.slice A2 (n + 1) c2) w') ∧ (σ 15 = none → σ 12 = none → σ 11 ≠ none → w' = (WD.alloc (.cells #[.int .i64 c, .int .i64 s, .bool false, .int .i64 c, .int .i64 s, .int .i64 k, .int .i64 i, .int .i64 m, .string dt, .int .i64 0, .int .i64 0, .string { data := #[] }, .slice none 0 0, .int .i64 0] 45))) ∧ (σ 15 = none → σ 12 = none → σ 11 = none → w' = WD)) (T := (fun _ _ => True)) (by kernel_rfl) (by kernel_rfl) (by kernel_rfl) (Stab.pick (Stab.eqv (Stab.eqv (Stab.eqv (Stab.eqv (Stab.eqv (Stab.eqv (Stab.eqv (Stab.eqv (Stab.eqv (Stab.eqv (Stab.eqv (Stab.eqv (Stab.cons (fun _ _ _ _ h => h) (Stab.eqv (Stab.eqv (Stab.eqv (Stab.nil)))))))))))))))))) (⟨fun h => absurd rfl h, fun _ h => absurd rfl h, fun _ _ h => absurd rfl h, fun _ _ _ => hWDe⟩) ?steps ?ends
        case steps =>
          refine StepsOk.cons (stepOk_pure [] [(0, .pointer (some ⟨p, 0, none⟩))] rfl rfl (by kernel_rfl) (by kernel_rfl) rfl (fun _ => trivial) (fun σ v w h => by simpa [upd] using h) (fun d E w' hk hda hS hc hf => by rintro  e0; exact ⟨_, by go_simp, rfl⟩)) ?_
          refine StepsOk.cons (stepOk_pure [] [(0, .pointer (some ⟨p, 0, none⟩))] rfl rfl (by kernel_rfl) (by kernel_rfl) rfl (fun _ => trivial) (fun σ v w h => by simpa [upd] using h) (fun d E w' hk hda hS hc hf => by rintro  e0; exact ⟨_, by go_simp, rfl⟩)) ?_
          refine StepsOk.cons (stepOk_pure [(1, 46)] [] rfl rfl (by kernel_rfl) (by kernel_rfl) rfl (fun _ => trivial) (fun σ v w h => by simpa [upd] using h) (fun d E w' hk hda hS hc hf => by rintro _ q1 rfl e46 ; exact ⟨_, by go_simp, rfl⟩)) ?_
          refine StepsOk.cons (stepOk_pure [(2, 47)] [] rfl rfl (by kernel_rfl) (by kernel_rfl) rfl (fun _ => trivial) (fun σ v w h => by simpa [upd] using h) (fun d E w' hk hda hS hc hf => by rintro _ q2 rfl e47 ; exact ⟨_, by go_simp, rfl⟩)) ?_
          refine StepsOk.cons (stepOk_pure [(3, 48)] [] rfl rfl (by kernel_rfl) (by kernel_rfl) rfl (fun _ => trivial) (fun σ v w h => by simpa [upd] using h) (fun d E w' hk hda hS hc hf => by rintro _ q3 rfl e48 ; obtain ⟨⟨s0, s1, s2, s3, s4, s5⟩, t1⟩ := CS.out w' ((Classical.em (d 11 = none)).elim (fun h13 => by rw [hS.2.2.2 (hk 15 (by kernel_rfl)) (hk 12 (by kernel_rfl)) h13]; exact Old.refl' _) (fun h13 => by rw [hS.2.2.1 (hk 15 (by kernel_rfl)) (hk 12 (by kernel_rfl)) h13]; exact (Old.refl' _).alloc' _)); exact ⟨_, by go_simp, rfl⟩)) ?_
          refine StepsOk.cons (stepOk_pure [] [(3, .pointer (some ⟨b3, 0, none⟩))] rfl rfl (by kernel_rfl) (by kernel_rfl) rfl (fun _ => trivial) (fun σ v w h => by simpa [upd] using h) (fun d E w' hk hda hS hc hf => by rintro  e3; exact ⟨_, by go_simp, rfl⟩)) ?_
          refine StepsOk.cons (stepOk_pure [(5, 50)] [] rfl rfl (by kernel_rfl) (by kernel_rfl) rfl (fun _ => trivial) (fun σ v w h => by simpa [upd] using h) (fun d E w' hk hda hS hc hf => by rintro _ q5 rfl e50 ; obtain ⟨⟨s0, s1, s2, s3, s4, s5⟩, t1⟩ := CS.out w' ((Classical.em (d 11 = none)).elim (fun h13 => by rw [hS.2.2.2 (hk 15 (by kernel_rfl)) (hk 12 (by kernel_rfl)) h13]; exact Old.refl' _) (fun h13 => by rw [hS.2.2.1 (hk 15 (by kernel_rfl)) (hk 12 (by kernel_rfl)) h13]; exact (Old.refl' _).alloc' _)); exact ⟨_, by go_simp, rfl⟩)) ?_
          refine StepsOk.cons (stepOk_pure [] [(3, .pointer (some ⟨b3, 0, none⟩))] rfl rfl (by kernel_rfl) (by kernel_rfl) rfl (fun _ => trivial) (fun σ v w h => by simpa [upd] using h) (fun d E w' hk hda hS hc hf => by rintro  e3; exact ⟨_, by go_simp, rfl⟩)) ?_
          refine StepsOk.cons (stepOk_pure [(7, 52)] [] rfl rfl (by kernel_rfl) (by kernel_rfl) rfl (fun _ => trivial) (fun σ v w h => by simpa [upd] using h) (fun d E w' hk hda hS hc hf => by rintro _ q7 rfl e52 ; obtain ⟨⟨s0, s1, s2, s3, s4, s5⟩, t1⟩ := CS.out w' ((Classical.em (d 11 = none)).elim (fun h13 => by rw [hS.2.2.2 (hk 15 (by kernel_rfl)) (hk 12 (by kernel_rfl)) h13]; exact Old.refl' _) (fun h13 => by rw [hS.2.2.1 (hk 15 (by kernel_rfl)) (hk 12 (by kernel_rfl)) h13]; exact (Old.refl' _).alloc' _)); exact ⟨_, by go_simp, rfl⟩)) ?_
          refine StepsOk.cons (stepOk_pure [] [(3, .pointer (some ⟨b3, 0, none⟩))] rfl rfl (by kernel_rfl) (by kernel_rfl) rfl (fun _ => trivial) (fun σ v w h => by simpa [upd] using h) (fun d E w' hk hda hS hc hf => by rintro  e3; obtain ⟨⟨s0, s1, s2, s3, s4, s5⟩, t1⟩ := CS.out w' ((Classical.em (d 11 = none)).elim (fun h13 => by rw [hS.2.2.2 (hk 15 (by kernel_rfl)) (hk 12 (by kernel_rfl)) h13]; exact Old.refl' _) (fun h13 => by rw [hS.2.2.1 (hk 15 (by kernel_rfl)) (hk 12 (by kernel_rfl)) h13]; exact (Old.refl' _).alloc' _)); exact ⟨_, by go_simp, rfl⟩)) ?_
          refine StepsOk.cons (stepOk_pure [(6, 51), (8, 53), (9, 54)] [] rfl rfl (by kernel_rfl) (by kernel_rfl) rfl (fun _ => trivial) (fun σ v w h => by simpa [upd] using h) (fun d E w' hk hda hS hc hf => by rintro _ q6 rfl e51 _ q8 rfl e53 _ q9 rfl e54 ; exact ⟨_, by go_simp, rfl⟩)) ?_
          refine StepsOk.cons (stepOk_mk [(10, 55)] [] rfl rfl (by kernel_rfl) (by kernel_rfl) rfl ?_) ?_
          · rintro d a w' hk hda hS _ q10 rfl e55 
            first | refine Given.nil (Known.nil ?_) | refine Known.nil ?_
            obtain rfl := (hS.2.2.2 (hk 15 (by kernel_rfl)) (hk 12 (by kernel_rfl)) (hk 11 (by kernel_rfl))).symm
            refine wp_runv (w' := (WD.alloc (.cells #[.int .i64 c, .int .i64 s, .bool false, .int .i64 c, .int .i64 s, .int .i64 k, .int .i64 i, .int .i64 m, .string dt, .int .i64 0, .int .i64 0, .string { data := #[] }, .slice none 0 0, .int .i64 0] 45))) (.slice (some ⟨WD.heap.size, 0, none⟩) 1 1) (by revert e55; generalize a.eval = E; intro e55; go_simp) ⟨_, rfl, rfl, trivial, ?_⟩
            exact ⟨fun h => absurd (hk 15 (by kernel_rfl)) (by simpa [upd] using h), fun _ h => absurd (hk 12 (by kernel_rfl)) (by simpa [upd] using h), fun _ _ _ => rfl, fun _ _ h => by simp [upd] at h⟩
          refine StepsOk.cons (stepOk_mk [(4, 49), (11, 56)] [] rfl rfl (by kernel_rfl) (by kernel_rfl) rfl ?_) ?_
          · rintro d a w' hk hda hS _ q4 rfl e49 _ q11 rfl e56 
            first | refine Given.nil (Known.nil ?_) | refine Known.nil ?_
            obtain rfl := hS.2.2.1 (hk 15 (by kernel_rfl)) (hk 12 (by kernel_rfl)) (by rw [q11]; simp)
            refine wp_app _ (.tmp 49) (.tmp 56) 28 rfl 0 45 j0 (.agg #[.int .i64 0, .int .i64 0, .bool false, .int .i64 0, .int .i64 0, .int .i64 0, .int .i64 0, .int .i64 0, .string { data := #[] }, .int .i64 0, .int .i64 0, .string { data := #[] }, .slice none 0 0, .int .i64 0]) 14 144 Try.underlying28 hj0 hj00 hj01 hj02 rfl (by decide) (.slice A n ca) n ((l.flatMap ActV.cells)) e49 (ownX.alloc _) (some ⟨WD.heap.size, 0, none⟩) 1 1 [.int .i64 c, .int .i64 s, .bool false, .int .i64 c, .int .i64 s, .int .i64 k, .int .i64 i, .int .i64 m, .string dt, .int .i64 0, .int .i64 0, .string { data := #[] }, .slice none 0 0, .int .i64 0] e56 rfl (cells_bk (Bk.new WD 45 #[.int .i64 c, .int .i64 s, .bool false, .int .i64 c, .int .i64 s, .int .i64 k, .int .i64 i, .int .i64 m, .string dt, .int .i64 0, .int .i64 0, .string { data := #[] }, .slice none 0 0, .int .i64 0])) (by simp [Value.oneCell']) (by unfold maxLen; omega) (by omega) (Nat.zero_le _) (n + 1) rfl _ rfl ?_
            intro A2 c2 W2 h2
            exact ⟨_, rfl, ⟨A2, c2, rfl⟩, trivial, fun h => absurd (hk 15 (by kernel_rfl)) (by simpa [upd] using h), fun _ _ => ⟨A2, c2, by simp [upd], h2⟩, fun _ h => by simp [upd] at h, fun _ h => by simp [upd] at h⟩
          refine StepsOk.cons (stepOk_pure [(0, 45)] [] rfl rfl (by kernel_rfl) (by kernel_rfl) rfl (fun _ => trivial) (fun σ v w h => by simpa [upd] using h) (fun d E w' hk hda hS hc hf => by rintro _ q0 rfl e45 ; exact ⟨_, by go_simp, rfl⟩)) ?_
          refine StepsOk.cons (stepOk_pure [(13, 58)] [] rfl rfl (by kernel_rfl) (by kernel_rfl) rfl (fun _ => trivial) (fun σ v w h => by simpa [upd] using h) (fun d E w' hk hda hS hc hf => by rintro _ q13 rfl e58 ; exact ⟨_, by go_simp, rfl⟩)) ?_
          refine StepsOk.cons (stepOk_store [(14, 59), (12, 57)] [] rfl rfl (by kernel_rfl) (by kernel_rfl) rfl (fun d E w' hk hda hS hc hf => by rintro _ q14 rfl e59 _ q12 ⟨A2, c2, rfl⟩ e57 ; obtain ⟨A3, c3, e14, h2⟩ := hS.2.1 (hk 15 (by kernel_rfl)) (by rw [q12]; simp); rw [q12] at e14; injection e14 with e14; injection e14 with e14a _ e14b; subst e14a e14b; have hG2 := h2.bk (bkX.alloc _) hNE; have y0 := (hG2.cell 0).trans hX1; have y1 := hG2.frozen 0; exact ⟨w'.setCell ⟨p, 0, none⟩ (.slice A2 (n + 1) c2), by go_simp, rfl, trivial, ⟨fun _ => hAPP _ _ _ h2, fun h => by simp [upd] at h, fun h => by simp [upd] at h, fun h => by simp [upd] at h⟩⟩)) ?_
          exact StepsOk.nil
        case ends =>
          intro σ9 w9 hS9 hA9
          refine Ends.eqv (some 45) (.pointer (some ⟨p, 0, none⟩)) rfl (fun _ h => h) ?_
          refine Ends.eqv (some 46) (.pointer (some ⟨p, 0, none⟩)) rfl (fun _ h => h) ?_
          refine Ends.eqv (some 47) (.pointer (some ⟨p, 0, none⟩)) rfl (fun _ h => h) ?_
          refine Ends.eqv (some 48) (.pointer (some ⟨p, 0, none⟩)) rfl (fun _ h => h) ?_
          refine Ends.eqv (some 49) (.slice A n ca) rfl (fun _ h => h) ?_
          refine Ends.eqv (some 50) (.pointer (some ⟨b3, 0, none⟩)) rfl (fun _ h => h) ?_
          refine Ends.eqv (some 51) (.int .i64 c) rfl (fun _ h => h) ?_
          refine Ends.eqv (some 52) (.pointer (some ⟨b3, 1, none⟩)) rfl (fun _ h => h) ?_
          refine Ends.eqv (some 53) (.int .i64 s) rfl (fun _ h => h) ?_
          refine Ends.eqv (some 54) (.agg #[.int .i64 c, .int .i64 s, .int .i64 k, .int .i64 i, .int .i64 m, .string dt]) rfl (fun _ h => h) ?_
          refine Ends.eqv (some 55) (.agg #[.int .i64 c, .int .i64 s, .bool false, .int .i64 c, .int .i64 s, .int .i64 k, .int .i64 i, .int .i64 m, .string dt, .int .i64 0, .int .i64 0, .string { data := #[] }, .slice none 0 0, .int .i64 0]) rfl (fun _ h => h) ?_
          refine Ends.eqv (some 56) (.slice (some ⟨WD.heap.size, 0, none⟩) 1 1) rfl (fun _ h => h) ?_
          refine Ends.ex (some 57) rfl ?_
          rintro _ p12 ⟨A2, c2, rfl⟩
          refine Ends.eqv (some 58) (.pointer (some ⟨p, 0, none⟩)) rfl (fun _ h => h) ?_
          refine Ends.eqv (some 59) (.pointer (some ⟨p, 0, none⟩)) rfl (fun _ h => h) ?_
          refine Ends.eqv none (undef) rfl (fun _ h => h) ?_
          refine Ends.nil ?_
          have hA9' := hA9
          clear hA9
          simp only [put_lit, put_none, List.set_cons_zero, List.set_cons_succ]
          have hfin := hS9.1 (by have := hA9' 15 (by simp); intro e; rw [e] at this; simp at this)
          clear hS9 hA9'
          rw [hFin] at hfin
          obtain ⟨A2, c2, hB8, hR8, hF8, hV8⟩ := hfin
          clear CS hAPP bkX ownX hNE hFin hWDe hX1
          have hfr : Fr F w w9 := (hO7.out.mono (fun b _ hb => by rw [show b = p from hb]; exact HGF.out)).trans' hF8 (fun b _ hb => by rcases hb with hb | hb; exact hb ▸ HGF.out; exact HV.out b hb)
          have hFR := hide hfr
          have hs7 := hO7.out.size
          have hfin := hide (show ∃ F', PdAt w9 p F' (st.asked ⟨c, s, k, i, m, dt⟩) (l ++ [askAct ⟨c, s, k, i, m, dt⟩]) ∧ ∀ b, F' b → F b ∨ w.heap.size ≤ b from by
            refine ⟨fun b => (F b ∨ (w.heap.size ≤ b ∧ (Value.slice A2 (n + 1) c2).ownBlock = some b)), ⟨⟨_, _, hB8, by rw [List.length_append, HN.out, List.flatMap_append]; exact hR8, ⟨(HC9.out.set0 (.slice A2 (n + 1) c2)).c0, (HC9.out.set0 (.slice A2 (n + 1) c2)).lc, (HC9.out.set0 (.slice A2 (n + 1) c2)).wc⟩, fun b hb => ?_⟩, .inl HGF.out, fun b hb => ?_, fun x hx => ?_, fun x r hr => ?_, fun a ha => ?_⟩, fun b hb => ?_⟩
            · rcases hV8 b hb with hb' | hb'
              · exact .inl (HV.out b hb')
              · exact .inr ⟨by omega, hb⟩
            · rcases hb with hb | ⟨-, hb⟩
              · exact Nat.lt_of_lt_of_le (HLT.out b hb) hfr.size
              · exact own_lt8 hR8 hb
            · show (if x = (c : Int) then some _ else st.wait x) = none
              rw [if_neg (by omega)]
              exact HWN.out x hx
            · have hr' : (if x = (c : Int) then some (⟨c, s, k, i, m, dt⟩ : ReqV) else st.wait x) = some r := hr
              split at hr'
              · injection hr' with hr'; subst hr'; exact HS1.out
              · exact HWP.out x r hr'
            · rcases List.mem_append.1 ha with ha | ha
              · have hv := HVS.out a ha
                refine ⟨CellsAt.fr hv.1 hfr (fun hne x hx => hv.2 (fun e => hne (by rw [e]; rfl)) x hx), fun hne x hx hb => ?_⟩
                rcases hb with hb | ⟨hb, -⟩
                · exact hv.2 hne x hx hb
                · have : x.block < w.heap.size := by
                    obtain ⟨b', o', e1, e2, -⟩ := hv.1 (by simpa using hne)
                    rw [e1] at hx; injection hx with hx; rw [← hx]; exact e2
                  omega
              · rw [List.mem_singleton.1 ha]
                exact ⟨CellsAt.nil _ _, fun hne => absurd rfl hne⟩
            · rcases hb with hb | ⟨hb, -⟩
              · exact .inl hb
              · exact .inr hb)
          clear hB8 hR8 hF8 hV8 hfr
          go_wp2_with fail
          go_ret
          exact ⟨rfl, hfin.out, hFR.out⟩
theorem DAsk_at (p : Nat) (F : Nat → Prop) (st : PV) (l : List ActV) (n : Nat) (hn : l.length = n) (hfew : n ≤ 50000) (q : ReqV) (E : Int) (hE : st.askE q = E) (s' : PV) (hs' : st.ask q = s') (w : World) (h : PdAt w p F st l) :
    Calls Try.prog 19 #[.pointer (some ⟨p, 0, none⟩), .agg #[.int .i64 q.client, .int .i64 q.seq, .int .i64 q.kind, .int .i64 q.id, .int .i64 q.mat, .string q.data]] w fun e w' => e = .returned (.int .i64 E) ∧ (∃ F', PdAt w' p F' s' (if E = 0 then l ++ [askAct q] else l) ∧ ∀ b, F' b → F b ∨ w.heap.size ≤ b) ∧ Fr F w w' := by
  subst hE hs'
  by_cases hq : q.q.may = true
  · cases hw : st.wait q.client with
    | some r =>
      have e : st.askE q = 4 := by unfold PV.askE; rw [if_pos hq, hw]; rfl
      have e2 : st.ask q = st := by unfold PV.ask; rw [e]; rfl
      rw [e, e2]
      exact (DAsk_state p F st l q hq r hw w h).mono fun e w' ⟨he, hb⟩ => ⟨he, ⟨F, h.old hb, fun b hb => .inl hb⟩, Fr.of_old hb⟩
    | none =>
      by_cases hs : st.last q.client < q.seq
      · have e : st.askE q = 0 := by unfold PV.askE; rw [if_pos hq, hw, if_neg (by simp), if_pos hs]
        have e2 : st.ask q = st.asked q := by unfold PV.ask; rw [if_pos e]
        rw [e, e2]
        exact (DAsk_done p F st l n hn hfew q hq hw hs w h).mono fun e w' ⟨he, h1, h2⟩ => ⟨he, h1, h2⟩
      · have e : st.askE q = 9 := by unfold PV.askE; rw [if_pos hq, hw, if_neg (by simp), if_neg hs]
        have e2 : st.ask q = st := by unfold PV.ask; rw [e]; rfl
        rw [e, e2]
        exact (DAsk_order p F st l q hq hw hs w h).mono fun e w' ⟨he, hb⟩ => ⟨he, ⟨F, h.old hb, fun b hb => .inl hb⟩, Fr.of_old hb⟩
  · have e : st.askE q = 1 := by unfold PV.askE; rw [if_neg hq]
    have e2 : st.ask q = st := by unfold PV.ask; rw [e]; rfl
    rw [e, e2]
    exact (DAsk_arg p q (by simpa using hq) w).mono fun e w' ⟨he, hb⟩ => ⟨he, ⟨F, h.old hb, fun b hb => .inl hb⟩, Fr.of_old hb⟩
end Go.Proofs.Ytffahoocbjfdaaa

/- casebookref22.P.Answer. -/
namespace Go.Proofs.Ytffahoocbjfdaaa
open Go.RowKit
theorem own_mk0 {base : Nat} {e : TypeId} {size : Nat} (W : World) (h : base ≤ W.heap.size) : (W.alloc (.cells #[] e)).ownsRow base e size (.slice (some ⟨W.heap.size, 0, none⟩) 0 0) 0 [] :=
  World.ownsRow_lit W #[] 0 h (by unfold maxLen; omega) (by simp)
set_option maxRecDepth 100000 in
set_option maxHeartbeats 1000000 in
theorem DAns_arg (p : Nat) (c sq at_ : Int) (r : Rep) (A : Option Addr) (vn ca : Nat) (h : at_ < 0 ∨ 1073741824 < at_) (w : World) :
    Calls Try.prog 20 #[.pointer (some ⟨p, 0, none⟩), .int .i64 c, .int .i64 sq, .agg #[.int .i64 r.code, .int .i64 r.ver, .string r.data, .slice A vn ca], .int .i64 at_] w fun e w' => e = .returned (.int .i64 1) ∧ Old w w' := by
  by_cases h1 : at_ < 0
  · clear h
    go_enter Try.func20, Try.ntmps20
    go_wp2
    go_ret
    exact ⟨rfl, (Old.refl' w).alloc' _⟩
  · have h2 : 1073741824 < at_ := by omega
    clear h
    go_enter Try.func20, Try.ntmps20
    go_wp2
    go_ret
    exact ⟨rfl, (Old.refl' w).alloc' _⟩
set_option maxRecDepth 100000 in
set_option maxHeartbeats 1000000 in
theorem DAns_out (p : Nat) (c sq at_ : Int) (r : Rep) (A : Option Addr) (vn ca : Nat) (h1 : ¬ at_ < 0) (h2 : ¬ 1073741824 < at_) (h : ¬ (0 ≤ c ∧ c < 4)) (w : World) :
    Calls Try.prog 20 #[.pointer (some ⟨p, 0, none⟩), .int .i64 c, .int .i64 sq, .agg #[.int .i64 r.code, .int .i64 r.ver, .string r.data, .slice A vn ca], .int .i64 at_] w fun e w' => e = .returned (.int .i64 4) ∧ Old w w' := by
  by_cases h3 : c < 0
  · clear h
    go_enter Try.func20, Try.ntmps20
    go_wp2
    go_ret
    exact ⟨rfl, (Old.refl' w).alloc' _⟩
  · have h4 : 4 ≤ c := by omega
    clear h
    go_enter Try.func20, Try.ntmps20
    go_wp2
    go_ret
    exact ⟨rfl, (Old.refl' w).alloc' _⟩
set_option maxRecDepth 100000 in
set_option maxHeartbeats 1000000 in
theorem DAns_none (p : Nat) (F : Nat → Prop) (st : PV) (l : List ActV) (c : Nat) (hc : c < 4) (sq at_ : Int) (h1 : ¬ at_ < 0) (h2 : ¬ 1073741824 < at_) (r : Rep) (A : Option Addr) (vn ca : Nat) (hw : st.wait c = none) (w : World) (h : PdAt w p F st l) :
    Calls Try.prog 20 #[.pointer (some ⟨p, 0, none⟩), .int .i64 c, .int .i64 sq, .agg #[.int .i64 r.code, .int .i64 r.ver, .string r.data, .slice A vn ca], .int .i64 at_] w fun e w' => e = .returned (.int .i64 4) ∧ Old w w' := by
  obtain ⟨⟨cs, V, hB, hR, hC, hV⟩, gF, hlt, hwn, hwp, hvs⟩ := h
  have h5 := hC.wc c hc 1 _ rfl
  obtain ⟨sw, hsw⟩ : ∃ x, (wq (st.wait c)).seq = x := ⟨_, rfl⟩
  rw [hsw] at h5
  have hc4 : (c : Int) < 4 := by omega
  have hc0 : ¬ ((c : Int) < 0) := by omega
  have hc5 : ¬ (4 ≤ (c : Int)) := by omega
  have HO := hide ((Old.refl' w).alloc' (.cells #[.int .i64 r.code, .int .i64 r.ver, .string r.data, .slice A vn ca] 43))
  have t0 := (HO.out.cell (p := ⟨p, 5 + c * 6 + 1, none⟩) hB.lt).trans ((hB.cell _).trans h5)
  obtain rfl : (0 : Int) = sw := by rw [← hsw, hw]; rfl
  clear hw h5 hB hR hC hV hlt hwn hwp hvs gF hc hsw
  go_enter Try.func20, Try.ntmps20
  go_wp2
  go_ret
  exact ⟨rfl, HO.out⟩
set_option maxRecDepth 100000 in
set_option maxHeartbeats 1000000 in
theorem DAns_other (p : Nat) (F : Nat → Prop) (st : PV) (l : List ActV) (c : Nat) (hc : c < 4) (sq at_ : Int) (h1 : ¬ at_ < 0) (h2 : ¬ 1073741824 < at_) (r : Rep) (A : Option Addr) (vn ca : Nat) (q : ReqV) (hw : st.wait c = some q) (hs : q.seq ≠ sq) (w : World) (h : PdAt w p F st l) :
    Calls Try.prog 20 #[.pointer (some ⟨p, 0, none⟩), .int .i64 c, .int .i64 sq, .agg #[.int .i64 r.code, .int .i64 r.ver, .string r.data, .slice A vn ca], .int .i64 at_] w fun e w' => e = .returned (.int .i64 4) ∧ Old w w' := by
  obtain ⟨⟨cs, V, hB, hR, hC, hV⟩, gF, hlt, hwn, hwp, hvs⟩ := h
  have h5 := hC.wc c hc 1 _ rfl
  obtain ⟨sw, hsw⟩ : ∃ x, (wq (st.wait c)).seq = x := ⟨_, rfl⟩
  rw [hsw] at h5
  have hc4 : (c : Int) < 4 := by omega
  have hc0 : ¬ ((c : Int) < 0) := by omega
  have hc5 : ¬ (4 ≤ (c : Int)) := by omega
  have HO := hide ((Old.refl' w).alloc' (.cells #[.int .i64 r.code, .int .i64 r.ver, .string r.data, .slice A vn ca] 43))
  have t0 := (HO.out.cell (p := ⟨p, 5 + c * 6 + 1, none⟩) hB.lt).trans ((hB.cell _).trans h5)
  have e0 : (sw == 0) = false := by have := pdWp hwp c hw; rw [hsw] at this; simp; omega
  have e1 : (sw == sq) = false := by rw [← hsw, hw]; simpa [wq] using hs
  clear hw h5 hB hR hC hV hlt hwn hwp hvs gF hc hsw hs
  go_enter Try.func20, Try.ntmps20
  go_wp2
  go_ret
  exact ⟨rfl, HO.out⟩
set_option maxRecDepth 100000 in
set_option maxHeartbeats 4000000 in
theorem DAns_done (p : Nat) (F : Nat → Prop) (st : PV) (l : List ActV) (n : Nat) (hn : l.length = n) (hfew : n ≤ 50000) (c : Nat) (hc : c < 4) (sq at_ : Int) (h1 : ¬ at_ < 0) (h2 : ¬ 1073741824 < at_) (r : Rep) (A : Option Addr) (vn ca : Nat) (hvn : r.vs.length = vn) (hv : vn ≤ 50000) (q : ReqV) (hw : st.wait c = some q) (hs : q.seq = sq) (w : World) (h : PdAt w p F st l) (hI : IntsAt w A r.vs) :
    Calls Try.prog 20 #[.pointer (some ⟨p, 0, none⟩), .int .i64 c, .int .i64 sq, .agg #[.int .i64 r.code, .int .i64 r.ver, .string r.data, .slice A vn ca], .int .i64 at_] w fun e w' => e = .returned (.int .i64 0) ∧ (∃ F' AV cV, (PdAt w' p F' (st.answered c) (l ++ [⟨c, sq, true, q, r, AV, cV, at_⟩]) ∧ ∀ b, F' b → F b ∨ w.heap.size ≤ b) ∧ ∀ x, AV = some x → w.heap.size ≤ x.block) ∧ Fr F w w' := by
  obtain ⟨j0, hj0, hj00, hj01, hj02⟩ := info_parts info_Act
  obtain ⟨i0, hi0, hz0, hz1, hz2⟩ := info_parts info_intP
  obtain ⟨⟨cs, V, hB, hR, hC, hV⟩, gF, hlt, hwn, hwp, hvs⟩ := h
  rw [hn] at hR
  obtain ⟨V, cv, rfl, -, -⟩ := own_form hR
  have hsq : q.seq ≠ 0 := by have := hwp c q hw; omega
  have hgl := hB.lt
  have hc4 : (c : Int) < 4 := by omega
  have hc0 : ¬ ((c : Int) < 0) := by omega
  have hc5 : ¬ (4 ≤ (c : Int)) := by omega
  have HO := hide ((Old.refl' w).alloc' (.cells #[.int .i64 r.code, .int .i64 r.ver, .string r.data, .slice A vn ca] 43))
  obtain ⟨⟨x0, x1, x2, x3, x4, x5⟩, -⟩ := hC.six hB hc
  rw [hw] at x0 x1 x2 x3 x4 x5
  simp only [wq, Option.getD_some] at x0 x1 x2 x3 x4 x5
  have hX6 := hide (⟨x0, x1, x2, x3, x4, x5⟩ : _ ∧ _ ∧ _ ∧ _ ∧ _ ∧ _)
  have t0 := (HO.out.cell (p := ⟨p, 5 + c * 6 + 1, none⟩) hgl).trans x1
  clear x0 x1 x2 x3 x4 x5
  obtain ⟨⟨y0, y1, y2, y3⟩, ⟨g0, g1, g2, g3⟩, ly⟩ := bk4 (Bk.new w 43 #[.int .i64 r.code, .int .i64 r.ver, .string r.data, .slice A vn ca])
  have e0 : (q.seq == 0) = false := by simpa using hsq
  have e1 : (q.seq == sq) = true := by simpa using hs
  have HK8 := hide (Bk.new w 43 #[.int .i64 r.code, .int .i64 r.ver, .string r.data, .slice A vn ca])
  have HB := hide hB
  have HR := hide hR
  have HC := hide hC
  have HV := hide hV
  have HWN := hide hwn
  have HWP := hide hwp
  have HVS := hide hvs
  have HLT := hide hlt
  have HGF := hide gF
  have HN := hide hn
  have HVN := hide hvn
  have HI := hide hI
  have HCN := hide hc
  clear hw hB hR hC hV hlt hwn hwp hvs gF hn hs hI hsq hvn
  go_enter Try.func20, Try.ntmps20
  have y3' := (((Old.refl' _).alloc' (.cells #[] 3)).cell (p := ⟨w.heap.size, 3, none⟩) ly).trans y3
  go_wp2_with (at_builtin; refine wpList_app _ rfl (.tmp 46) (.tmp 48) 34 rfl (w.heap.size + 1) 3 i0 (.int .i64 0) 1 8 Try.underlying34 hi0 hz0 hz1 hz2 rfl (by decide) (.slice (some ⟨w.heap.size + 1, 0, none⟩) 0 0) 0 [] rfl (by have := own_mk0 (base := w.heap.size + 1) (e := 3) (size := 1) (w.alloc (.cells #[.int .i64 r.code, .int .i64 r.ver, .string r.data, .slice A vn ca] 43)) (by simp); simpa using this) A vn ca (r.vs.map (.int .i64)) rfl (by simp [HVN.out]) (CellsAt.alloc (CellsAt.alloc HI.out _) _) (by simp [Value.oneCell']) (by unfold maxLen; omega) (by omega) (by simp) vn (Nat.zero_add _) _ (List.nil_append _) ?_; intro AV cV w2 hq2; obtain ⟨⟨y0, y1, y2, y3⟩, ⟨g0, g1, g2, g3⟩, ly⟩ := bk4 (hq2.bk (HK8.out.alloc _) (by intro e; simp [Value.ownBlock] at e)))
  have hIV : IntsAt w2 AV r.vs := CellsAt.of_own hq2.own
  have b2 : Old (w.alloc (.cells #[.int .i64 r.code, .int .i64 r.ver, .string r.data, .slice A vn ca] 43)) w2 := hq2.old ((Old.refl' _).alloc' _) (fun k hk => by simp [Value.ownBlock] at hk; simp; omega)
  obtain ⟨_, _, ee, -, hnw⟩ := own_form hq2.own
  injection ee with ee1 ee2 ee3
  subst ee1
  have hnew : ∀ a, AV = some a → w.heap.size + 1 ≤ a.block := fun a ha => (hnw a ha).1
  have hnew2 : ∀ a, AV = some a → a.block < w2.heap.size := fun a ha => (hnw a ha).2.1
  clear ee2 ee3 hnw
  have k8 := HK8.out.old b2
  have hO2 := HO.out.trans' b2
  have hO3 : Old w (w2.setCell ⟨w.heap.size, 3, none⟩ (.slice AV vn cV)) := Old.setCell' (p := ⟨w.heap.size, 3, none⟩) hO2 (Nat.le_refl _) _
  have k9 : Bk (w2.setCell ⟨w.heap.size, 3, none⟩ (.slice AV vn cV)) w.heap.size 43 #[.int .i64 r.code, .int .i64 r.ver, .string r.data, .slice AV vn cV] := by
    have := k8.set_ 3 (.slice AV vn cV)
    simpa using this
  have hI3 : IntsAt (w2.setCell ⟨w.heap.size, 3, none⟩ (.slice AV vn cV)) AV r.vs := CellsAt.set_ hIV (fun a ha => by have := hnew a ha; show a.block ≠ w.heap.size; omega) _
  have hB5 := HB.out.old hO3
  clear y0 y1 y2 y3 g0 g1 g2 g3 ly k8 hIV hO2 t0 y3'
  obtain ⟨WD, hWDe⟩ : ∃ U, (w2.setCell ⟨w.heap.size, 3, none⟩ (.slice AV vn cV)).drew = U := ⟨_, rfl⟩
  have hO5 : Old w WD := hWDe ▸ hO3.drew'
  have hnew2 : ∀ a, AV = some a → a.block < WD.heap.size := fun a ha => by have := hnew2 a ha; rw [← hWDe]; simpa [World.setCell, World.drew] using this
  have k9 : Bk WD w.heap.size 43 #[.int .i64 r.code, .int .i64 r.ver, .string r.data, .slice AV vn cV] := hWDe ▸ k9.drew
  have hI5 : IntsAt WD AV r.vs := hWDe ▸ CellsAt.drew hI3
  have bkX : Bk WD p 52 cs := HB.out.old hO5
  have ownX := own_old HR.out hO5
  obtain ⟨b8, hb8⟩ : ∃ b, w.heap.size = b := ⟨_, rfl⟩
  rw [hb8] at k9
  simp only [hb8] at hWDe ⊢
  have HB8 := hide hb8
  have hp8 : p ≠ b8 := by omega
  have hNE : (Value.slice V n cv).ownBlock ≠ some p := own_ne_bk HR.out HB.out (by decide)
  have hX1 : cs[0]? = some (.slice V n cv) := HC.out.c0
  have CS := hide (fun (U : World) (h : Old WD U) => (⟨((bkX.old h).cell 0).trans hX1, by
      obtain ⟨a0, a1, a2, a3, a4, a5⟩ := hX6.out
      have hh := hO5.trans' h
      exact ⟨(hh.cell (p := ⟨p, 5 + c * 6, none⟩) hgl).trans a0, (hh.cell (p := ⟨p, 5 + c * 6 + 1, none⟩) hgl).trans a1, (hh.cell (p := ⟨p, 5 + c * 6 + 2, none⟩) hgl).trans a2, (hh.cell (p := ⟨p, 5 + c * 6 + 3, none⟩) hgl).trans a3, (hh.cell (p := ⟨p, 5 + c * 6 + 4, none⟩) hgl).trans a4, (hh.cell (p := ⟨p, 5 + c * 6 + 5, none⟩) hgl).trans a5⟩, (bk4 (k9.old h)).1⟩ : U.cell? ⟨p, 0, none⟩ = some (.slice V n cv) ∧ (U.cell? ⟨p, 5 + c * 6, none⟩ = some (.int .i64 q.client) ∧ U.cell? ⟨p, 5 + c * 6 + 1, none⟩ = some (.int .i64 q.seq) ∧ U.cell? ⟨p, 5 + c * 6 + 2, none⟩ = some (.int .i64 q.kind) ∧ U.cell? ⟨p, 5 + c * 6 + 3, none⟩ = some (.int .i64 q.id) ∧ U.cell? ⟨p, 5 + c * 6 + 4, none⟩ = some (.int .i64 q.mat) ∧ U.cell? ⟨p, 5 + c * 6 + 5, none⟩ = some (.string q.data)) ∧ _))
  obtain ⟨Fin, hFin⟩ : ∃ F : World → Prop, F = fun U => ∃ A3 c3, Bk U p 52 (cs.setIfInBounds 0 (.slice A3 (n + 1) c3)) ∧ U.ownsRow 0 45 14 (.slice A3 (n + 1) c3) (n + 1) (l.flatMap ActV.cells ++ [.int .i64 c, .int .i64 sq, .bool true, .int .i64 q.client, .int .i64 q.seq, .int .i64 q.kind, .int .i64 q.id, .int .i64 q.mat, .string q.data, .int .i64 r.code, .int .i64 r.ver, .string r.data, .slice AV vn cV, .int .i64 at_]) ∧
    Fr (fun b => b = p ∨ (Value.slice V n cv).ownBlock = some b) WD U ∧ (∀ b, (Value.slice A3 (n + 1) c3).ownBlock = some b → (Value.slice V n cv).ownBlock = some b ∨ WD.heap.size ≤ b) := ⟨_, rfl⟩
  have hAPP := fun (A3 : Option Addr) (c3 : Nat) (W3 : World) (h3 : Apps (WD.alloc (.cells #[.int .i64 c, .int .i64 sq, .bool true, .int .i64 q.client, .int .i64 q.seq, .int .i64 q.kind, .int .i64 q.id, .int .i64 q.mat, .string q.data, .int .i64 r.code, .int .i64 r.ver, .string r.data, .slice AV vn cV, .int .i64 at_] 45)) 0 45 14 (.slice V n cv) (n + 1) (l.flatMap ActV.cells ++ [.int .i64 c, .int .i64 sq, .bool true, .int .i64 q.client, .int .i64 q.seq, .int .i64 q.kind, .int .i64 q.id, .int .i64 q.mat, .string q.data, .int .i64 r.code, .int .i64 r.ver, .string r.data, .slice AV vn cV, .int .i64 at_]) (.slice A3 (n + 1) c3) W3) => (by
    obtain ⟨a1, a2, a3, a4⟩ := bk_app (off := 0) bkX ownX hNE ((Old.refl' WD).alloc' _) h3
    rw [hFin]
    exact ⟨A3, c3, a1, a2, a3, a4⟩ : Fin (W3.setCell ⟨p, 0, none⟩ (.slice A3 (n + 1) c3)))
  have HI5 := hide hI5
  have HO5 := hide hO5
  have HNE := hide hNE
  clear hB5 hO3 hI3 k9 hI5 hO5 HO b2 hb8 hq2
  refine region_steps (R := pick [eqv (.pointer (some ⟨p, 0, none⟩)), eqv (.pointer (some ⟨p, 0, none⟩)), eqv (.pointer (some ⟨p, 0, none⟩)), eqv (.pointer (some ⟨p, 0, none⟩)), eqv (.slice V n cv), eqv (.int .i64 c), eqv (.int .i64 sq), eqv (.pointer (some ⟨p, 0, none⟩)), eqv (.int .i64 c), eqv (.pointer (some ⟨p, 0, none⟩)), eqv (.pointer (some ⟨p, 5, none⟩)), eqv (.pointer (some ⟨p, 5 + c * 6, none⟩)), eqv (.agg #[.int .i64 q.client, .int .i64 q.seq, .int .i64 q.kind, .int .i64 q.id, .int .i64 q.mat, .string q.data]), eqv (.agg #[.int .i64 r.code, .int .i64 r.ver, .string r.data, .slice AV vn cV]), eqv (.int .i64 at_), eqv (.agg #[.int .i64 c, .int .i64 sq, .bool true, .int .i64 q.client, .int .i64 q.seq, .int .i64 q.kind, .int .i64 q.id, .int .i64 q.mat, .string q.data, .int .i64 r.code, .int .i64 r.ver, .string r.data, .slice AV vn cV, .int .i64 at_]), eqv (.slice (some ⟨WD.heap.size, 0, none⟩) 1 1), fun v w' => ∃ A2 c2, v = .slice A2 (n + 1) c2, eqv (.pointer (some ⟨p, 0, none⟩)), eqv (.pointer (some ⟨p, 0, none⟩)), eqv (undef)]) (S := fun σ w' => (σ 20 ≠ none → Fin w') ∧ (σ 20 = none → σ 17 ≠ none → ∃ A2 c2, σ 17 = some (.slice A2 (n + 1) c2) ∧ Apps (WD.alloc (.cells #[.int .i64 c, .int .i64 sq, .bool true, .int .i64 q.client, .int .i64 q.seq, .int .i64 q.kind, .int .i64 q.id, .int .i64 q.mat, .string q.data, .int .i64 r.code, .int .i64 r.ver, .string r.data, .slice AV vn cV, .int .i64 at_] 45)) 0 45 14 (.slice V n cv) (n + 1) ((l.flatMap ActV.cells) ++ [.int .i64 c, .int .i64 sq, .bool true, .int .i64 q.client, .int .i64 q.seq, .int .i64 q.kind, .int .i64 q.id, .int .i64 q.mat, .string q.data, .int .i64 r.code, .int .i64 r.ver, .string r.data, .slice AV vn cV, .int .i64 at_]) (.slice A2 (n + 1) c2) w') ∧ (σ 20 = none → σ 17 = none → σ 16 ≠ none → w' = (WD.alloc (.cells #[.int .i64 c, .int .i64 sq, .bool true, .int .i64 q.client, .int .i64 q.seq, .int .i64 q.kind, .int .i64 q.id, .int .i64 q.mat, .string q.data, .int .i64 r.code, .int .i64 r.ver, .string r.data, .slice AV vn cV, .int .i64 at_] 45))) ∧ (σ 20 = none → σ 17 = none → σ 16 = none → w' = WD)) (T := (fun _ _ => True)) (by kernel_rfl) (by kernel_rfl) (by kernel_rfl) (Stab.pick (Stab.eqv (Stab.eqv (Stab.eqv (Stab.eqv (Stab.eqv (Stab.eqv (Stab.eqv (Stab.eqv (Stab.eqv (Stab.eqv (Stab.eqv (Stab.eqv (Stab.eqv (Stab.eqv (Stab.eqv (Stab.eqv (Stab.eqv (Stab.cons (fun _ _ _ _ h => h) (Stab.eqv (Stab.eqv (Stab.eqv (Stab.nil))))))))))))))))))))))) (⟨fun h => absurd rfl h, fun _ h => absurd rfl h, fun _ _ h => absurd rfl h, fun _ _ _ => hWDe⟩) ?steps ?ends
  case steps =>
    refine StepsOk.cons (stepOk_pure [] [(0, .pointer (some ⟨p, 0, none⟩))] rfl rfl (by kernel_rfl) (by kernel_rfl) rfl (fun _ => trivial) (fun σ v w h => by simpa [upd] using h) (fun d E w' hk hda hS hc hf => by rintro  e0; exact ⟨_, by go_simp, rfl⟩)) ?_
    refine StepsOk.cons (stepOk_pure [] [(0, .pointer (some ⟨p, 0, none⟩))] rfl rfl (by kernel_rfl) (by kernel_rfl) rfl (fun _ => trivial) (fun σ v w h => by simpa [upd] using h) (fun d E w' hk hda hS hc hf => by rintro  e0; exact ⟨_, by go_simp, rfl⟩)) ?_
    refine StepsOk.cons (stepOk_pure [(1, 52)] [] rfl rfl (by kernel_rfl) (by kernel_rfl) rfl (fun _ => trivial) (fun σ v w h => by simpa [upd] using h) (fun d E w' hk hda hS hc hf => by rintro _ q1 rfl e52 ; exact ⟨_, by go_simp, rfl⟩)) ?_
    refine StepsOk.cons (stepOk_pure [(2, 53)] [] rfl rfl (by kernel_rfl) (by kernel_rfl) rfl (fun _ => trivial) (fun σ v w h => by simpa [upd] using h) (fun d E w' hk hda hS hc hf => by rintro _ q2 rfl e53 ; exact ⟨_, by go_simp, rfl⟩)) ?_
    refine StepsOk.cons (stepOk_pure [(3, 54)] [] rfl rfl (by kernel_rfl) (by kernel_rfl) rfl (fun _ => trivial) (fun σ v w h => by simpa [upd] using h) (fun d E w' hk hda hS hc hf => by rintro _ q3 rfl e54 ; obtain ⟨s0, ⟨s1, s2, s3, s4, s5, s6⟩, s7, s8, s9, sa⟩ := CS.out w' ((Classical.em (d 16 = none)).elim (fun h13 => by rw [hS.2.2.2 (hk 20 (by kernel_rfl)) (hk 17 (by kernel_rfl)) h13]; exact Old.refl' _) (fun h13 => by rw [hS.2.2.1 (hk 20 (by kernel_rfl)) (hk 17 (by kernel_rfl)) h13]; exact (Old.refl' _).alloc' _)); exact ⟨_, by go_simp, rfl⟩)) ?_
    refine StepsOk.cons (stepOk_pure [] [(1, .int .i64 c)] rfl rfl (by kernel_rfl) (by kernel_rfl) rfl (fun _ => trivial) (fun σ v w h => by simpa [upd] using h) (fun d E w' hk hda hS hc hf => by rintro  e1; exact ⟨_, by go_simp, rfl⟩)) ?_
    refine StepsOk.cons (stepOk_pure [] [(2, .int .i64 sq)] rfl rfl (by kernel_rfl) (by kernel_rfl) rfl (fun _ => trivial) (fun σ v w h => by simpa [upd] using h) (fun d E w' hk hda hS hc hf => by rintro  e2; exact ⟨_, by go_simp, rfl⟩)) ?_
    refine StepsOk.cons (stepOk_pure [] [(0, .pointer (some ⟨p, 0, none⟩))] rfl rfl (by kernel_rfl) (by kernel_rfl) rfl (fun _ => trivial) (fun σ v w h => by simpa [upd] using h) (fun d E w' hk hda hS hc hf => by rintro  e0; exact ⟨_, by go_simp, rfl⟩)) ?_
    refine StepsOk.cons (stepOk_pure [] [(1, .int .i64 c)] rfl rfl (by kernel_rfl) (by kernel_rfl) rfl (fun _ => trivial) (fun σ v w h => by simpa [upd] using h) (fun d E w' hk hda hS hc hf => by rintro  e1; exact ⟨_, by go_simp, rfl⟩)) ?_
    refine StepsOk.cons (stepOk_pure [(7, 58)] [] rfl rfl (by kernel_rfl) (by kernel_rfl) rfl (fun _ => trivial) (fun σ v w h => by simpa [upd] using h) (fun d E w' hk hda hS hc hf => by rintro _ q7 rfl e58 ; exact ⟨_, by go_simp, rfl⟩)) ?_
    refine StepsOk.cons (stepOk_pure [(9, 60)] [] rfl rfl (by kernel_rfl) (by kernel_rfl) rfl (fun _ => trivial) (fun σ v w h => by simpa [upd] using h) (fun d E w' hk hda hS hc hf => by rintro _ q9 rfl e60 ; exact ⟨_, by go_simp, rfl⟩)) ?_
    refine StepsOk.cons (stepOk_pure [(10, 61), (8, 59)] [] rfl rfl (by kernel_rfl) (by kernel_rfl) rfl (fun _ => trivial) (fun σ v w h => by simpa [upd] using h) (fun d E w' hk hda hS hc hf => by rintro _ q10 rfl e61 _ q8 rfl e59 ; obtain ⟨s0, ⟨s1, s2, s3, s4, s5, s6⟩, s7, s8, s9, sa⟩ := CS.out w' ((Classical.em (d 16 = none)).elim (fun h13 => by rw [hS.2.2.2 (hk 20 (by kernel_rfl)) (hk 17 (by kernel_rfl)) h13]; exact Old.refl' _) (fun h13 => by rw [hS.2.2.1 (hk 20 (by kernel_rfl)) (hk 17 (by kernel_rfl)) h13]; exact (Old.refl' _).alloc' _)); exact ⟨_, by go_simp, rfl⟩)) ?_
    refine StepsOk.cons (stepOk_pure [(11, 62)] [] rfl rfl (by kernel_rfl) (by kernel_rfl) rfl (fun _ => trivial) (fun σ v w h => by simpa [upd] using h) (fun d E w' hk hda hS hc hf => by rintro _ q11 rfl e62 ; obtain ⟨s0, ⟨s1, s2, s3, s4, s5, s6⟩, s7, s8, s9, sa⟩ := CS.out w' ((Classical.em (d 16 = none)).elim (fun h13 => by rw [hS.2.2.2 (hk 20 (by kernel_rfl)) (hk 17 (by kernel_rfl)) h13]; exact Old.refl' _) (fun h13 => by rw [hS.2.2.1 (hk 20 (by kernel_rfl)) (hk 17 (by kernel_rfl)) h13]; exact (Old.refl' _).alloc' _)); exact ⟨_, by go_simp, rfl⟩)) ?_
    refine StepsOk.cons (stepOk_pure [] [(8, .pointer (some ⟨b8, 0, none⟩))] rfl rfl (by kernel_rfl) (by kernel_rfl) rfl (fun _ => trivial) (fun σ v w h => by simpa [upd] using h) (fun d E w' hk hda hS hc hf => by rintro  e8; obtain ⟨s0, ⟨s1, s2, s3, s4, s5, s6⟩, s7, s8, s9, sa⟩ := CS.out w' ((Classical.em (d 16 = none)).elim (fun h13 => by rw [hS.2.2.2 (hk 20 (by kernel_rfl)) (hk 17 (by kernel_rfl)) h13]; exact Old.refl' _) (fun h13 => by rw [hS.2.2.1 (hk 20 (by kernel_rfl)) (hk 17 (by kernel_rfl)) h13]; exact (Old.refl' _).alloc' _)); exact ⟨_, by go_simp, rfl⟩)) ?_
    refine StepsOk.cons (stepOk_pure [] [(4, .int .i64 at_)] rfl rfl (by kernel_rfl) (by kernel_rfl) rfl (fun _ => trivial) (fun σ v w h => by simpa [upd] using h) (fun d E w' hk hda hS hc hf => by rintro  e4; exact ⟨_, by go_simp, rfl⟩)) ?_
    refine StepsOk.cons (stepOk_pure [(5, 56), (6, 57), (12, 63), (13, 64), (14, 65)] [] rfl rfl (by kernel_rfl) (by kernel_rfl) rfl (fun _ => trivial) (fun σ v w h => by simpa [upd] using h) (fun d E w' hk hda hS hc hf => by rintro _ q5 rfl e56 _ q6 rfl e57 _ q12 rfl e63 _ q13 rfl e64 _ q14 rfl e65 ; exact ⟨_, by go_simp, rfl⟩)) ?_
    refine StepsOk.cons (stepOk_mk [(15, 66)] [] rfl rfl (by kernel_rfl) (by kernel_rfl) rfl ?_) ?_
    · rintro d a w' hk hda hS _ q15 rfl e66 
      first | refine Given.nil (Known.nil ?_) | refine Known.nil ?_
      obtain rfl := (hS.2.2.2 (hk 20 (by kernel_rfl)) (hk 17 (by kernel_rfl)) (hk 16 (by kernel_rfl))).symm
      refine wp_runv (w' := (WD.alloc (.cells #[.int .i64 c, .int .i64 sq, .bool true, .int .i64 q.client, .int .i64 q.seq, .int .i64 q.kind, .int .i64 q.id, .int .i64 q.mat, .string q.data, .int .i64 r.code, .int .i64 r.ver, .string r.data, .slice AV vn cV, .int .i64 at_] 45))) (.slice (some ⟨WD.heap.size, 0, none⟩) 1 1) (by revert e66; generalize a.eval = E; intro e66; go_simp) ⟨_, rfl, rfl, trivial, ?_⟩
      exact ⟨fun h => absurd (hk 20 (by kernel_rfl)) (by simpa [upd] using h), fun _ h => absurd (hk 17 (by kernel_rfl)) (by simpa [upd] using h), fun _ _ _ => rfl, fun _ _ h => by simp [upd] at h⟩
    refine StepsOk.cons (stepOk_mk [(4, 55), (16, 67)] [] rfl rfl (by kernel_rfl) (by kernel_rfl) rfl ?_) ?_
    · rintro d a w' hk hda hS _ q4 rfl e55 _ q16 rfl e67 
      first | refine Given.nil (Known.nil ?_) | refine Known.nil ?_
      obtain rfl := hS.2.2.1 (hk 20 (by kernel_rfl)) (hk 17 (by kernel_rfl)) (by rw [q16]; simp)
      refine wp_app _ (.tmp 55) (.tmp 67) 28 rfl 0 45 j0 (.agg #[.int .i64 0, .int .i64 0, .bool false, .int .i64 0, .int .i64 0, .int .i64 0, .int .i64 0, .int .i64 0, .string { data := #[] }, .int .i64 0, .int .i64 0, .string { data := #[] }, .slice none 0 0, .int .i64 0]) 14 144 Try.underlying28 hj0 hj00 hj01 hj02 rfl (by decide) (.slice V n cv) n ((l.flatMap ActV.cells)) e55 (ownX.alloc _) (some ⟨WD.heap.size, 0, none⟩) 1 1 [.int .i64 c, .int .i64 sq, .bool true, .int .i64 q.client, .int .i64 q.seq, .int .i64 q.kind, .int .i64 q.id, .int .i64 q.mat, .string q.data, .int .i64 r.code, .int .i64 r.ver, .string r.data, .slice AV vn cV, .int .i64 at_] e67 rfl (cells_bk (Bk.new WD 45 #[.int .i64 c, .int .i64 sq, .bool true, .int .i64 q.client, .int .i64 q.seq, .int .i64 q.kind, .int .i64 q.id, .int .i64 q.mat, .string q.data, .int .i64 r.code, .int .i64 r.ver, .string r.data, .slice AV vn cV, .int .i64 at_])) (by simp [Value.oneCell']) (by unfold maxLen; omega) (by omega) (Nat.zero_le _) (n + 1) rfl _ rfl ?_
      intro A2 c2 W2 h2
      exact ⟨_, rfl, ⟨A2, c2, rfl⟩, trivial, fun h => absurd (hk 20 (by kernel_rfl)) (by simpa [upd] using h), fun _ _ => ⟨A2, c2, by simp [upd], h2⟩, fun _ h => by simp [upd] at h, fun _ h => by simp [upd] at h⟩
    refine StepsOk.cons (stepOk_pure [(0, 51)] [] rfl rfl (by kernel_rfl) (by kernel_rfl) rfl (fun _ => trivial) (fun σ v w h => by simpa [upd] using h) (fun d E w' hk hda hS hc hf => by rintro _ q0 rfl e51 ; exact ⟨_, by go_simp, rfl⟩)) ?_
    refine StepsOk.cons (stepOk_pure [(18, 69)] [] rfl rfl (by kernel_rfl) (by kernel_rfl) rfl (fun _ => trivial) (fun σ v w h => by simpa [upd] using h) (fun d E w' hk hda hS hc hf => by rintro _ q18 rfl e69 ; exact ⟨_, by go_simp, rfl⟩)) ?_
    refine StepsOk.cons (stepOk_store [(19, 70), (17, 68)] [] rfl rfl (by kernel_rfl) (by kernel_rfl) rfl (fun d E w' hk hda hS hc hf => by rintro _ q19 rfl e70 _ q17 ⟨A2, c2, rfl⟩ e68 ; obtain ⟨A3, c3, e14, h2⟩ := hS.2.1 (hk 20 (by kernel_rfl)) (by rw [q17]; simp); rw [q17] at e14; injection e14 with e14; injection e14 with e14a _ e14b; subst e14a e14b; have hG2 := h2.bk (bkX.alloc _) hNE; have y0 := (hG2.cell 0).trans hX1; have y1 := hG2.frozen 0; exact ⟨w'.setCell ⟨p, 0, none⟩ (.slice A2 (n + 1) c2), by go_simp, rfl, trivial, ⟨fun _ => hAPP _ _ _ h2, fun h => by simp [upd] at h, fun h => by simp [upd] at h, fun h => by simp [upd] at h⟩⟩)) ?_
    exact StepsOk.nil
  case ends =>
    intro σ9 w9 hS9 hA9
    refine Ends.eqv (some 51) (.pointer (some ⟨p, 0, none⟩)) rfl (fun _ h => h) ?_
    refine Ends.eqv (some 52) (.pointer (some ⟨p, 0, none⟩)) rfl (fun _ h => h) ?_
    refine Ends.eqv (some 53) (.pointer (some ⟨p, 0, none⟩)) rfl (fun _ h => h) ?_
    refine Ends.eqv (some 54) (.pointer (some ⟨p, 0, none⟩)) rfl (fun _ h => h) ?_
    refine Ends.eqv (some 55) (.slice V n cv) rfl (fun _ h => h) ?_
    refine Ends.eqv (some 56) (.int .i64 c) rfl (fun _ h => h) ?_
    refine Ends.eqv (some 57) (.int .i64 sq) rfl (fun _ h => h) ?_
    refine Ends.eqv (some 58) (.pointer (some ⟨p, 0, none⟩)) rfl (fun _ h => h) ?_
    refine Ends.eqv (some 59) (.int .i64 c) rfl (fun _ h => h) ?_
    refine Ends.eqv (some 60) (.pointer (some ⟨p, 0, none⟩)) rfl (fun _ h => h) ?_
    refine Ends.eqv (some 61) (.pointer (some ⟨p, 5, none⟩)) rfl (fun _ h => h) ?_
    refine Ends.eqv (some 62) (.pointer (some ⟨p, 5 + c * 6, none⟩)) rfl (fun _ h => h) ?_
    refine Ends.eqv (some 63) (.agg #[.int .i64 q.client, .int .i64 q.seq, .int .i64 q.kind, .int .i64 q.id, .int .i64 q.mat, .string q.data]) rfl (fun _ h => h) ?_
    refine Ends.eqv (some 64) (.agg #[.int .i64 r.code, .int .i64 r.ver, .string r.data, .slice AV vn cV]) rfl (fun _ h => h) ?_
    refine Ends.eqv (some 65) (.int .i64 at_) rfl (fun _ h => h) ?_
    refine Ends.eqv (some 66) (.agg #[.int .i64 c, .int .i64 sq, .bool true, .int .i64 q.client, .int .i64 q.seq, .int .i64 q.kind, .int .i64 q.id, .int .i64 q.mat, .string q.data, .int .i64 r.code, .int .i64 r.ver, .string r.data, .slice AV vn cV, .int .i64 at_]) rfl (fun _ h => h) ?_
    refine Ends.eqv (some 67) (.slice (some ⟨WD.heap.size, 0, none⟩) 1 1) rfl (fun _ h => h) ?_
    refine Ends.ex (some 68) rfl ?_
    rintro _ p17 ⟨A2, c2, rfl⟩
    refine Ends.eqv (some 69) (.pointer (some ⟨p, 0, none⟩)) rfl (fun _ h => h) ?_
    refine Ends.eqv (some 70) (.pointer (some ⟨p, 0, none⟩)) rfl (fun _ h => h) ?_
    refine Ends.eqv none (undef) rfl (fun _ h => h) ?_
    refine Ends.nil ?_
    have hA9' := hA9
    clear hA9
    simp only [put_lit, put_none, List.set_cons_zero, List.set_cons_succ]
    have hfin := hS9.1 (by have := hA9' 20 (by simp); intro e; rw [e] at this; simp at this)
    clear hS9 hA9'
    rw [hFin] at hfin
    obtain ⟨A3, c3, hB8, hR8, hF8, hV8⟩ := hfin
    clear CS hAPP bkX ownX hNE hFin hWDe hX1
    have hsz5 := HO5.out.size
    have hvF : ∀ b, (Value.slice V n cv).ownBlock = some b → b < w.heap.size := fun b hb => HLT.out _ (HV.out b hb)
    have hI8 : IntsAt w9 AV r.vs := CellsAt.fr HI5.out hF8 (fun _ a ha e => by
      have h1 := hnew a ha
      rcases e with e | e
      · omega
      · have := hvF _ e; omega)
    have hC8 := HC.out.set0 (.slice A3 (n + 1) c3)
    obtain ⟨⟨y0, y1, y2, y3, y4, y5⟩, f0, f1, f2, f3, f4, f5⟩ := hC8.six hB8 HCN.out
    have lp := hB8.lt
    have hpp : p < w.heap.size := HLT.out p HGF.out
    have hf9 : Fr (fun b => b = p) w9 ((((((w9.setCell ⟨p, 5 + c * 6, none⟩ (.int .i64 0)).setCell ⟨p, 5 + c * 6 + 1, none⟩ (.int .i64 0)).setCell ⟨p, 5 + c * 6 + 2, none⟩ (.int .i64 0)).setCell ⟨p, 5 + c * 6 + 3, none⟩ (.int .i64 0)).setCell ⟨p, 5 + c * 6 + 4, none⟩ (.int .i64 0)).setCell ⟨p, 5 + c * 6 + 5, none⟩ (.string { data := #[] })) := by
      have stp : ∀ {W : World} (j : Nat) (u : Value), Fr (fun k => k = p) w9 W → Fr (fun k => k = p) w9 (W.setCell ⟨p, j, none⟩ u) := fun j u h => Fr.setCell (p := ⟨p, j, none⟩) h (.inr rfl) u
      exact stp _ _ (stp _ _ (stp _ _ (stp _ _ (stp _ _ (stp _ _ (Fr.refl _ _))))))
    have hfr : Fr F w ((((((w9.setCell ⟨p, 5 + c * 6, none⟩ (.int .i64 0)).setCell ⟨p, 5 + c * 6 + 1, none⟩ (.int .i64 0)).setCell ⟨p, 5 + c * 6 + 2, none⟩ (.int .i64 0)).setCell ⟨p, 5 + c * 6 + 3, none⟩ (.int .i64 0)).setCell ⟨p, 5 + c * 6 + 4, none⟩ (.int .i64 0)).setCell ⟨p, 5 + c * 6 + 5, none⟩ (.string { data := #[] })) := ((Fr.of_old (S := F) HO5.out).trans' hF8 (fun b _ hb => by rcases hb with hb | hb; exact hb ▸ HGF.out; exact HV.out b hb)).trans' hf9 (fun b _ hb => by rw [show b = p from hb]; exact HGF.out)
    have hI9 : IntsAt ((((((w9.setCell ⟨p, 5 + c * 6, none⟩ (.int .i64 0)).setCell ⟨p, 5 + c * 6 + 1, none⟩ (.int .i64 0)).setCell ⟨p, 5 + c * 6 + 2, none⟩ (.int .i64 0)).setCell ⟨p, 5 + c * 6 + 3, none⟩ (.int .i64 0)).setCell ⟨p, 5 + c * 6 + 4, none⟩ (.int .i64 0)).setCell ⟨p, 5 + c * 6 + 5, none⟩ (.string { data := #[] })) AV r.vs := CellsAt.fr hI8 hf9 (fun _ a ha e => by have h1 := hnew a ha; have h2 : a.block = p := e; omega)
    have hR9 : ((((((w9.setCell ⟨p, 5 + c * 6, none⟩ (.int .i64 0)).setCell ⟨p, 5 + c * 6 + 1, none⟩ (.int .i64 0)).setCell ⟨p, 5 + c * 6 + 2, none⟩ (.int .i64 0)).setCell ⟨p, 5 + c * 6 + 3, none⟩ (.int .i64 0)).setCell ⟨p, 5 + c * 6 + 4, none⟩ (.int .i64 0)).setCell ⟨p, 5 + c * 6 + 5, none⟩ (.string { data := #[] })).ownsRow 0 45 14 (.slice A3 (n + 1) c3) (n + 1) (l.flatMap ActV.cells ++ [.int .i64 c, .int .i64 sq, .bool true, .int .i64 q.client, .int .i64 q.seq, .int .i64 q.kind, .int .i64 q.id, .int .i64 q.mat, .string q.data, .int .i64 r.code, .int .i64 r.ver, .string r.data, .slice AV vn cV, .int .i64 at_]) := own_fr hR8 hf9 (fun b hb e => own_ne_bk hR8 hB8 (by decide) (by rw [← show b = p from e]; exact hb))
    have HFR := hide hfr
    have hfin := hide (show ∃ F' AV cV, (PdAt ((((((w9.setCell ⟨p, 5 + c * 6, none⟩ (.int .i64 0)).setCell ⟨p, 5 + c * 6 + 1, none⟩ (.int .i64 0)).setCell ⟨p, 5 + c * 6 + 2, none⟩ (.int .i64 0)).setCell ⟨p, 5 + c * 6 + 3, none⟩ (.int .i64 0)).setCell ⟨p, 5 + c * 6 + 4, none⟩ (.int .i64 0)).setCell ⟨p, 5 + c * 6 + 5, none⟩ (.string { data := #[] })) p F' (st.answered c) (l ++ [⟨c, sq, true, q, r, AV, cV, at_⟩]) ∧ ∀ b, F' b → F b ∨ w.heap.size ≤ b) ∧ ∀ x, AV = some x → w.heap.size ≤ x.block from by
      refine ⟨fun b => F b ∨ (w.heap.size ≤ b ∧ (Value.slice A3 (n + 1) c3).ownBlock = some b ∧ ∀ a, AV = some a → a.block ≠ b), AV, cV, ⟨⟨⟨_, _, ((((((hB8.set_ (5 + c * 6) _).set_ (5 + c * 6 + 1) _).set_ (5 + c * 6 + 2) _).set_ (5 + c * 6 + 3) _).set_ (5 + c * 6 + 4) _).set_ (5 + c * 6 + 5) _), ?_, ⟨(hC8.setW HCN.out none rq0 rfl).c0, (hC8.setW HCN.out none rq0 rfl).lc, (hC8.setW HCN.out none rq0 rfl).wc⟩, fun b hb => ?_⟩, .inl HGF.out, fun b hb => ?_, fun x hx => ?_, fun x r' hr => ?_, fun a ha => ?_⟩, fun b hb => ?_⟩, fun x hx => by have := hnew x hx; omega⟩
      · rw [List.length_append, HN.out, List.flatMap_append]
        have := HVN.out
        subst this
        exact hR9
      · rcases hV8 b hb with hb' | hb'
        · exact .inl (HV.out b hb')
        · refine .inr ⟨by omega, hb, fun a ha e => ?_⟩
          have h1 := hnew2 a ha
          omega
      · rcases hb with hb | ⟨-, hb, -⟩
        · exact Nat.lt_of_lt_of_le (HLT.out b hb) hfr.size
        · exact own_lt8 hR9 hb
      · show (if x = (c : Int) then none else st.wait x) = none
        rw [if_neg (by omega)]
        exact HWN.out x hx
      · have hr' : (if x = (c : Int) then none else st.wait x) = some r' := hr
        split at hr'
        · cases hr'
        · exact HWP.out x r' hr'
      · rcases List.mem_append.1 ha with ha | ha
        · have hv := HVS.out a ha
          refine ⟨CellsAt.fr hv.1 hfr (fun hne x hx => hv.2 (fun e => hne (by rw [e]; rfl)) x hx), fun hne x hx hb => ?_⟩
          rcases hb with hb | ⟨hb, -⟩
          · exact hv.2 hne x hx hb
          · have : x.block < w.heap.size := by
              obtain ⟨b', o', e1, e2, -⟩ := hv.1 (by simpa using hne)
              rw [e1] at hx; injection hx with hx; rw [← hx]; exact e2
            omega
        · rw [List.mem_singleton.1 ha]
          refine ⟨hI9, fun hne x hx hb => ?_⟩
          have h1 := hnew x hx
          rcases hb with hb | ⟨-, -, hb⟩
          · have := HLT.out _ hb; omega
          · exact hb x hx rfl
      · rcases hb with hb | ⟨hb, -⟩
        · exact .inl hb
        · exact .inr hb)
    clear hB8 hR8 hF8 hV8 hfr hf9 hI8 hI9 hR9 hC8
    go_wp2_with fail
    go_ret
    exact ⟨rfl, hfin.out, HFR.out⟩
theorem DAns_at (p : Nat) (F : Nat → Prop) (st : PV) (l : List ActV) (n : Nat) (hn : l.length = n) (hfew : n ≤ 50000) (c sq at_ : Int) (r : Rep) (A : Option Addr) (vn ca : Nat) (hvn : r.vs.length = vn) (hv : vn ≤ 50000) (E : Int) (hE : st.ansE c sq at_ = E) (s' : PV) (hs' : st.ans c sq at_ = s') (w : World) (h : PdAt w p F st l) (hI : IntsAt w A r.vs) :
    Calls Try.prog 20 #[.pointer (some ⟨p, 0, none⟩), .int .i64 c, .int .i64 sq, .agg #[.int .i64 r.code, .int .i64 r.ver, .string r.data, .slice A vn ca], .int .i64 at_] w fun e w' => e = .returned (.int .i64 E) ∧ (∃ F' l', PdAt w' p F' s' l' ∧ (∀ b, F' b → F b ∨ w.heap.size ≤ b) ∧ (E ≠ 0 → l' = l) ∧ (E = 0 → ∃ q AV cV, st.wait c = some q ∧ l' = l ++ [⟨c, sq, true, q, r, AV, cV, at_⟩] ∧ ∀ x, AV = some x → w.heap.size ≤ x.block)) ∧ Fr F w w' := by
  subst hE hs'
  have still : ∀ E, st.ansE c sq at_ = E → E ≠ 0 → st.ans c sq at_ = st := fun E h1 h2 => by unfold PV.ans; rw [if_neg (by rw [h1]; exact h2)]
  have stay : ∀ E (w' : World), st.ansE c sq at_ = E → E ≠ 0 → Old w w' → (∃ F' l', PdAt w' p F' (st.ans c sq at_) l' ∧ (∀ b, F' b → F b ∨ w.heap.size ≤ b) ∧ (E ≠ 0 → l' = l) ∧ (E = 0 → ∃ q AV cV, st.wait c = some q ∧ l' = l ++ [⟨c, sq, true, q, r, AV, cV, at_⟩] ∧ ∀ x, AV = some x → w.heap.size ≤ x.block)) := fun E w' h1 h2 hb => by
    rw [still E h1 h2]
    exact ⟨F, l, h.old hb, fun b hb => .inl hb, fun _ => rfl, fun h => absurd h h2⟩
  by_cases h1 : at_ < 0 ∨ 1073741824 < at_
  · have e : st.ansE c sq at_ = 1 := by unfold PV.ansE; rw [if_pos h1]
    rw [e]
    exact (DAns_arg p c sq at_ r A vn ca h1 w).mono fun e' w' ⟨he, hb⟩ => ⟨he, stay 1 w' e (by decide) hb, Fr.of_old hb⟩
  · have h1a : ¬ at_ < 0 := fun e => h1 (.inl e)
    have h1b : ¬ 1073741824 < at_ := fun e => h1 (.inr e)
    cases hw : st.wait c with
    | none =>
      have e : st.ansE c sq at_ = 4 := by unfold PV.ansE; rw [if_neg h1, hw]
      rw [e]
      rw [hw] at stay
      by_cases hc : 0 ≤ c ∧ c < 4
      · obtain ⟨c, rfl⟩ : ∃ n : Nat, c = n := ⟨c.toNat, by omega⟩
        exact (DAns_none p F st l c (by omega) sq at_ h1a h1b r A vn ca hw w h).mono fun e' w' ⟨he, hb⟩ => ⟨he, stay 4 w' e (by decide) hb, Fr.of_old hb⟩
      · exact (DAns_out p c sq at_ r A vn ca h1a h1b hc w).mono fun e' w' ⟨he, hb⟩ => ⟨he, stay 4 w' e (by decide) hb, Fr.of_old hb⟩
    | some q =>
      rw [hw] at stay
      have hc : 0 ≤ c ∧ c < 4 := Classical.byContradiction fun hc => by have := h.wn c hc; rw [hw] at this; cases this
      obtain ⟨c, rfl⟩ : ∃ n : Nat, c = n := ⟨c.toNat, by omega⟩
      by_cases hs : q.seq = sq
      · have e : st.ansE c sq at_ = 0 := by unfold PV.ansE; rw [if_neg h1, hw]; exact if_pos hs
        have e2 : st.ans c sq at_ = st.answered c := by unfold PV.ans; rw [if_pos e]
        rw [e, e2]
        exact (DAns_done p F st l n hn hfew c (by omega) sq at_ h1a h1b r A vn ca hvn hv q hw hs w h hI).mono fun e w' ⟨he, ⟨F', AV, cV, ⟨h3, h4⟩, h5⟩, h2⟩ => ⟨he, ⟨F', _, h3, h4, fun h => absurd rfl h, fun _ => ⟨q, AV, cV, rfl, rfl, h5⟩⟩, h2⟩
      · have e : st.ansE c sq at_ = 4 := by unfold PV.ansE; rw [if_neg h1, hw]; exact if_neg hs
        rw [e]
        exact (DAns_other p F st l c (by omega) sq at_ h1a h1b r A vn ca q hw hs w h).mono fun e' w' ⟨he, hb⟩ => ⟨he, stay 4 w' e (by decide) hb, Fr.of_old hb⟩
end Go.Proofs.Ytffahoocbjfdaaa
