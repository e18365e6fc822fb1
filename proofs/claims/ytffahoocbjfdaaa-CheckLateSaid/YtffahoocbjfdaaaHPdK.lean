/- casebookref22.P: what it is in memory; Ask. -/
import Derived.Test.YtffahoocbjfdaaaHPaM
import Derived.Test.YtffahoocbjfdaaaHCMo
import Derived.Test.YtffahoocbjfdaaaHSd
namespace Go.Proofs.Ytffahoocbjfdaaa
open Go.RowKit

def rq0 : ReqV := ⟨0, 0, 0, 0, 0, { data := #[] }⟩
def wq (o : Option ReqV) : ReqV := o.getD rq0
structure PdC (cs : Array Value) (V : Value) (s : PV) : Prop where
  c0 : cs[0]? = some V
  lc : ∀ c : Nat, c < 4 → cs[1 + c]? = some (.int .i64 (s.last c))
  wc : ∀ c : Nat, c < 4 → ∀ (j : Nat) u, (wq (s.wait c)).cells[j]? = some u → cs[5 + c * 6 + j]? = some u
structure PdAt (w : World) (p : Nat) (F : Nat → Prop) (s : PV) (l : List ActV) : Prop where
  ex : ∃ cs V, Bk w p 52 cs ∧ w.ownsRow 0 45 14 V l.length (l.flatMap ActV.cells) ∧ PdC cs V s ∧ ∀ b, V.ownBlock = some b → F b
  gF : F p
  lt : ∀ k, F k → k < w.heap.size
  wn : ∀ c, ¬ (0 ≤ c ∧ c < 4) → s.wait c = none
  wp : ∀ c q, s.wait c = some q → 1 ≤ q.seq
  vs : ∀ a ∈ l, IntsAt w a.A a.r.vs ∧ (a.r.vs ≠ [] → ∀ x, a.A = some x → ¬ F x.block)
section
variable {w w' : World} {p : Nat} {cs : Array Value} {V : Value} {F S : Nat → Prop} {s : PV} {l : List ActV}
theorem PdC.six {t : TypeId} (h : PdC cs V s) (hB : Bk w p t cs) {c : Nat} (hc : c < 4) :
    (w.cell? ⟨p, 5 + c * 6, none⟩ = some (.int .i64 (wq (s.wait c)).client) ∧ w.cell? ⟨p, 5 + c * 6 + 1, none⟩ = some (.int .i64 (wq (s.wait c)).seq) ∧ w.cell? ⟨p, 5 + c * 6 + 2, none⟩ = some (.int .i64 (wq (s.wait c)).kind) ∧ w.cell? ⟨p, 5 + c * 6 + 3, none⟩ = some (.int .i64 (wq (s.wait c)).id) ∧ w.cell? ⟨p, 5 + c * 6 + 4, none⟩ = some (.int .i64 (wq (s.wait c)).mat) ∧ w.cell? ⟨p, 5 + c * 6 + 5, none⟩ = some (.string (wq (s.wait c)).data)) ∧
    w.frozen? ⟨p, 5 + c * 6, none⟩ = false ∧ w.frozen? ⟨p, 5 + c * 6 + 1, none⟩ = false ∧ w.frozen? ⟨p, 5 + c * 6 + 2, none⟩ = false ∧ w.frozen? ⟨p, 5 + c * 6 + 3, none⟩ = false ∧ w.frozen? ⟨p, 5 + c * 6 + 4, none⟩ = false ∧ w.frozen? ⟨p, 5 + c * 6 + 5, none⟩ = false :=
  ⟨⟨(hB.cell _).trans (h.wc c hc 0 _ rfl), (hB.cell _).trans (h.wc c hc 1 _ rfl), (hB.cell _).trans (h.wc c hc 2 _ rfl), (hB.cell _).trans (h.wc c hc 3 _ rfl), (hB.cell _).trans (h.wc c hc 4 _ rfl), (hB.cell _).trans (h.wc c hc 5 _ rfl)⟩, hB.frozen _, hB.frozen _, hB.frozen _, hB.frozen _, hB.frozen _, hB.frozen _⟩
theorem PdC.set0 (h : PdC cs V s) (V2 : Value) : PdC (cs.setIfInBounds 0 V2) V2 s :=
  ⟨get_eq h.c0 _, fun c hc => by rw [get_ne (by omega)]; exact h.lc c hc, fun c hc j u hu => by rw [get_ne (by omega)]; exact h.wc c hc j u hu⟩
theorem PdC.setL (h : PdC cs V s) {c : Nat} (hc : c < 4) (x : Int) : PdC (cs.setIfInBounds (1 + c) (.int .i64 x)) V ⟨s.n, fun k => if k = (c : Int) then x else s.last k, s.wait⟩ := by
  refine ⟨by rw [get_ne (by omega)]; exact h.c0, fun d hd => ?_, fun d hd j u hu => ?_⟩
  · by_cases e : c = d
    · subst e; simp only [if_pos]; exact get_eq (h.lc c hc) _
    · have e' : ¬ (d : Int) = (c : Int) := by omega
      simp only [if_neg e']; rw [get_ne (by omega)]; exact h.lc d hd
  · rw [get_ne (by omega)]; exact h.wc d hd j u hu
theorem cells6 {q : ReqV} {j : Nat} {u : Value} (h : q.cells[j]? = some u) : j < 6 := by
  have := (List.getElem?_eq_some_iff.1 h).1
  exact this
theorem six_at {cs : Array Value} {o : Nat} {v : Value} (hs : cs[o + 5]? = some v) (u0 u1 u2 u3 u4 u5 : Value) :
    let W := (((((cs.setIfInBounds o u0).setIfInBounds (o + 1) u1).setIfInBounds (o + 2) u2).setIfInBounds (o + 3) u3).setIfInBounds (o + 4) u4).setIfInBounds (o + 5) u5
    (W[o]? = some u0 ∧ W[o + 1]? = some u1 ∧ W[o + 2]? = some u2 ∧ W[o + 3]? = some u3 ∧ W[o + 4]? = some u4 ∧ W[o + 5]? = some u5) ∧ ∀ j, (j < o ∨ o + 5 < j) → W[j]? = cs[j]? := by
  have hl := (Array.getElem?_eq_some_iff.1 hs).1
  have h0 : o < cs.size := by omega
  have h1 : o + 1 < cs.size := by omega
  have h2 : o + 2 < cs.size := by omega
  have h3 : o + 3 < cs.size := by omega
  have h4 : o + 4 < cs.size := by omega
  intro W
  refine ⟨⟨?_, ?_, ?_, ?_, ?_, ?_⟩, fun j hj => ?_⟩
  · show (((((_ : Array Value).setIfInBounds _ _).setIfInBounds _ _).setIfInBounds _ _).setIfInBounds _ _)[o]? = _
    rw [get_ne (by omega), get_ne (by omega), get_ne (by omega), get_ne (by omega), get_ne (by omega), Array.getElem?_setIfInBounds, if_pos rfl, if_pos h0]
  · show (((((_ : Array Value).setIfInBounds _ _).setIfInBounds _ _).setIfInBounds _ _).setIfInBounds _ _)[o + 1]? = _
    rw [get_ne (by omega), get_ne (by omega), get_ne (by omega), get_ne (by omega), Array.getElem?_setIfInBounds, if_pos rfl, if_pos (by simpa using h1)]
  · show (((((_ : Array Value).setIfInBounds _ _).setIfInBounds _ _).setIfInBounds _ _).setIfInBounds _ _)[o + 2]? = _
    rw [get_ne (by omega), get_ne (by omega), get_ne (by omega), Array.getElem?_setIfInBounds, if_pos rfl, if_pos (by simpa using h2)]
  · show (((((_ : Array Value).setIfInBounds _ _).setIfInBounds _ _).setIfInBounds _ _).setIfInBounds _ _)[o + 3]? = _
    rw [get_ne (by omega), get_ne (by omega), Array.getElem?_setIfInBounds, if_pos rfl, if_pos (by simpa using h3)]
  · show (((((_ : Array Value).setIfInBounds _ _).setIfInBounds _ _).setIfInBounds _ _).setIfInBounds _ _)[o + 4]? = _
    rw [get_ne (by omega), Array.getElem?_setIfInBounds, if_pos rfl, if_pos (by simpa using h4)]
  · show (((((_ : Array Value).setIfInBounds _ _).setIfInBounds _ _).setIfInBounds _ _).setIfInBounds _ _)[o + 5]? = _
    rw [Array.getElem?_setIfInBounds, if_pos rfl, if_pos (by simpa using hl)]
  · show (((((_ : Array Value).setIfInBounds _ _).setIfInBounds _ _).setIfInBounds _ _).setIfInBounds _ _)[j]? = _
    rw [get_ne (by omega), get_ne (by omega), get_ne (by omega), get_ne (by omega), get_ne (by omega), get_ne (by omega)]
theorem PdC.setW (h : PdC cs V s) {c : Nat} (hc : c < 4) (o : Option ReqV) (q : ReqV) (hq : wq o = q) :
    PdC ((((((cs.setIfInBounds (5 + c * 6) (.int .i64 q.client)).setIfInBounds (5 + c * 6 + 1) (.int .i64 q.seq)).setIfInBounds (5 + c * 6 + 2) (.int .i64 q.kind)).setIfInBounds (5 + c * 6 + 3) (.int .i64 q.id)).setIfInBounds (5 + c * 6 + 4) (.int .i64 q.mat)).setIfInBounds (5 + c * 6 + 5) (.string q.data)) V
      ⟨s.n, s.last, fun k => if k = (c : Int) then o else s.wait k⟩ := by
  subst hq
  obtain ⟨⟨a0, a1, a2, a3, a4, a5⟩, a6⟩ := six_at (h.wc c hc 5 _ rfl) (.int .i64 (wq o).client) (.int .i64 (wq o).seq) (.int .i64 (wq o).kind) (.int .i64 (wq o).id) (.int .i64 (wq o).mat) (.string (wq o).data)
  generalize (((((cs.setIfInBounds (5 + c * 6) _).setIfInBounds (5 + c * 6 + 1) _).setIfInBounds (5 + c * 6 + 2) _).setIfInBounds (5 + c * 6 + 3) _).setIfInBounds (5 + c * 6 + 4) _).setIfInBounds (5 + c * 6 + 5) _ = W at *
  refine ⟨(a6 0 (by omega)).trans h.c0, fun d hd => (a6 _ (by omega)).trans (h.lc d hd), fun d hd j u hu => ?_⟩
  have hj := cells6 hu
  by_cases e : c = d
  · subst e
    simp only [if_pos] at hu
    rcases (by omega : j = 0 ∨ j = 1 ∨ j = 2 ∨ j = 3 ∨ j = 4 ∨ j = 5) with rfl | rfl | rfl | rfl | rfl | rfl <;> (injection hu with hu; subst hu; assumption)
  · have e' : ¬ (d : Int) = (c : Int) := by omega
    simp only [if_neg e'] at hu
    exact (a6 _ (by omega)).trans (h.wc d hd j u hu)
theorem PdAt.fr (h : PdAt w p F s l) (hf : Fr S w w') (hS : ∀ k, F k → ¬ S k) (hS2 : ∀ a ∈ l, a.r.vs ≠ [] → ∀ x, a.A = some x → ¬ S x.block) : PdAt w' p F s l := by
  obtain ⟨⟨cs, V, h1, h2, h3, h4⟩, h5, h6, h7, h8, h9⟩ := h
  exact ⟨⟨cs, V, h1.fr hf (hS p h5), own_fr h2 hf (fun b hb => hS b (h4 b hb)), h3, h4⟩, h5, fun k hk => Nat.lt_of_lt_of_le (h6 k hk) hf.size, h7, h8, fun a ha => ⟨CellsAt.fr (h9 a ha).1 hf (fun hne x hx => hS2 a ha (fun e => hne (by rw [e]; rfl)) x hx), (h9 a ha).2⟩⟩
theorem PdAt.old (h : PdAt w p F s l) (hf : Old w w') : PdAt w' p F s l := h.fr (S := fun _ => False) (Fr.of_old hf) (fun _ _ => id) (fun _ _ _ _ _ => id)
theorem PdAt.acts (h : PdAt w p F s l) : ∃ A ca, w.cell? ⟨p, 0, none⟩ = some (.slice A l.length ca) ∧ l.length ≤ ca ∧ ActsAt w A l := by
  obtain ⟨⟨cs, V, h1, h2, h3, h4⟩, h5, h6, h7, h8, h9⟩ := h
  obtain ⟨A, ca, rfl, hc, -⟩ := own_form h2
  exact ⟨A, ca, (h1.cell 0).trans h3.c0, hc, CellsAt.of_own h2, fun a ha => (h9 a ha).1⟩
end
theorem pdWp {st : PV} {x : ReqV} (hwp : ∀ c q, st.wait c = some q → 1 ≤ q.seq) (c : Int) (h : st.wait c = some x) : 0 < (wq (st.wait c)).seq := by
  rw [h]; have := hwp c x h; show 0 < x.seq; omega
def pdCells : Array Value := #[.slice none 0 0, .int .i64 0, .int .i64 0, .int .i64 0, .int .i64 0, .int .i64 0, .int .i64 0, .int .i64 0, .int .i64 0, .int .i64 0, .string { data := #[] }, .int .i64 0, .int .i64 0, .int .i64 0, .int .i64 0, .int .i64 0, .string { data := #[] }, .int .i64 0, .int .i64 0, .int .i64 0, .int .i64 0, .int .i64 0, .string { data := #[] }, .int .i64 0, .int .i64 0, .int .i64 0, .int .i64 0, .int .i64 0, .string { data := #[] }]
theorem Pd_new {w : World} {p : Nat} (h : Bk w p 52 pdCells) : PdAt w p (fun k => k = p) PV.new [] := by
  refine ⟨⟨pdCells, .slice none 0 0, h, World.ownsRow_nil _ _ _ _, ⟨rfl, fun c hc => ?_, fun c hc j u hu => ?_⟩, fun b hb => by cases hb⟩, rfl, fun k hk => hk ▸ h.lt, fun _ _ => rfl, fun c q hq => (by cases hq), fun a ha => (by cases ha)⟩
  · rcases (by omega : c = 0 ∨ c = 1 ∨ c = 2 ∨ c = 3) with rfl | rfl | rfl | rfl <;> rfl
  · have hj := cells6 hu
    rcases (by omega : c = 0 ∨ c = 1 ∨ c = 2 ∨ c = 3) with rfl | rfl | rfl | rfl <;> rcases (by omega : j = 0 ∨ j = 1 ∨ j = 2 ∨ j = 3 ∨ j = 4 ∨ j = 5) with rfl | rfl | rfl | rfl | rfl | rfl <;> (injection hu with hu; subst hu; rfl)
def lastS (st : PV) (c : Nat) (x : Int) : Int → Int := fun k => if k = (c : Int) then x else st.last k
def waitS (st : PV) (c : Nat) (o : Option ReqV) : Int → Option ReqV := fun k => if k = (c : Int) then o else st.wait k
/-- the acts that Ask and Answer write down -/
def askAct (q : ReqV) : ActV := ⟨q.client, q.seq, false, q, Rep.zero, none, 0, 0⟩

set_option maxRecDepth 100000 in
set_option maxHeartbeats 1000000 in
theorem DAsk_arg (p : Nat) (q : ReqV) (hq : q.q.may = false) (w : World) :
    Calls Try.prog 19 #[.pointer (some ⟨p, 0, none⟩), .agg #[.int .i64 q.client, .int .i64 q.seq, .int .i64 q.kind, .int .i64 q.id, .int .i64 q.mat, .string q.data]] w fun e w' => e = .returned (.int .i64 1) ∧ Old w w' := by
  obtain ⟨c, s, k, i, m, dt⟩ := q
  simp only [ReqV.q, Q.may] at hq
  have cM := hide (fun (W : World) => rMay_at c s k i m dt false hq W)
  have hX := hide (fun (W : World) (h : Old (w.alloc (.cells #[.int .i64 c, .int .i64 s, .int .i64 k, .int .i64 i, .int .i64 m, .string dt] 24)) W) => bk6 ((Bk.new w 24 #[.int .i64 c, .int .i64 s, .int .i64 k, .int .i64 i, .int .i64 m, .string dt]).old h))
  clear hq
  go_enter Try.func19, Try.ntmps19
  go_wp2_with (go_at_call 31; refine (cM.out _).mono ?_; rintro e w1 ⟨rfl, hbb⟩; obtain ⟨⟨x0, x1, x2, x3, x4, x5⟩, l1⟩ := hX.out _ hbb)
  go_ret
  exact ⟨rfl, ((Old.refl' w).alloc' _).trans' hbb⟩
set_option maxRecDepth 100000 in
set_option maxHeartbeats 2000000 in
theorem DAsk_state (p : Nat) (F : Nat → Prop) (st : PV) (l : List ActV) (q : ReqV) (hq : q.q.may = true) (r : ReqV) (hw : st.wait q.client = some r) (w : World) (h : PdAt w p F st l) :
    Calls Try.prog 19 #[.pointer (some ⟨p, 0, none⟩), .agg #[.int .i64 q.client, .int .i64 q.seq, .int .i64 q.kind, .int .i64 q.id, .int .i64 q.mat, .string q.data]] w fun e w' => e = .returned (.int .i64 4) ∧ Old w w' := by
  obtain ⟨c, s, k, i, m, dt⟩ := q
  simp only [ReqV.q, Q.may] at hq hw
  obtain ⟨⟨c0, c3⟩, -, -, -⟩ := mayQ_b hq
  obtain ⟨c, rfl⟩ : ∃ n : Nat, c = n := ⟨c.toNat, by omega⟩
  have hcn : c < 4 := by omega
  obtain ⟨⟨cs, V, hB, hR, hC, hV⟩, gF, hlt, hwn, hwp, hvs⟩ := h
  have hwS := pdWp hwp c hw
  obtain ⟨sw, hsw⟩ : ∃ x, (wq (st.wait c)).seq = x := ⟨_, rfl⟩
  have h1 := hC.wc c hcn 1 _ rfl
  rw [hsw] at hwS h1
  have hgl := hB.lt
  have hW5 := hide (fun (W : World) (hW : Old (w.alloc (.cells #[.int .i64 c, .int .i64 s, .int .i64 k, .int .i64 i, .int .i64 m, .string dt] 24)) W) => (((((Old.refl' w).alloc' _).trans' hW).cell (p := ⟨p, 5 + c * 6 + 1, none⟩) hgl).trans ((hB.cell _).trans h1) : W.cell? ⟨p, 5 + c * 6 + 1, none⟩ = some (.int .i64 sw)))
  have cM := hide (fun (W : World) => rMay_at c s k i m dt true hq W)
  have hX := hide (fun (W : World) (h : Old (w.alloc (.cells #[.int .i64 c, .int .i64 s, .int .i64 k, .int .i64 i, .int .i64 m, .string dt] 24)) W) => bk6 ((Bk.new w 24 #[.int .i64 c, .int .i64 s, .int .i64 k, .int .i64 i, .int .i64 m, .string dt]).old h))
  have hc4 : (c : Int) < 4 := by omega
  clear hq hw hB hR hC hV hlt hwn hwp hvs h1 hsw
  go_enter Try.func19, Try.ntmps19
  go_wp2_with (go_at_call 31; refine (cM.out _).mono ?_; rintro e w1 ⟨rfl, hbb⟩; obtain ⟨⟨x0, x1, x2, x3, x4, x5⟩, l1⟩ := hX.out _ hbb)
  refine region_steps (R := pick [eqv (.pointer (some ⟨p, 0, none⟩)), eqv (.pointer (some ⟨w.heap.size, 0, none⟩)), eqv (.int .i64 c), eqv (.pointer (some ⟨p, 0, none⟩)), eqv (.pointer (some ⟨p, 5, none⟩)), eqv (.pointer (some ⟨p, 5 + c * 6, none⟩)), eqv (.pointer (some ⟨p, 5 + c * 6 + 1, none⟩)), eqv (.int .i64 sw), eqv (.bool true), eqv (.bool true)]) (S := fun _ w' => Old (w.alloc (.cells #[.int .i64 c, .int .i64 s, .int .i64 k, .int .i64 i, .int .i64 m, .string dt] 24)) w') (T := Old) (by kernel_rfl) (by kernel_rfl) (by kernel_rfl) (Stab.pick (Stab.eqv (Stab.eqv (Stab.eqv (Stab.eqv (Stab.eqv (Stab.eqv (Stab.eqv (Stab.eqv (Stab.eqv (Stab.eqv (Stab.nil)))))))))))) (hbb.drew') ?steps ?ends
  case steps =>
    refine StepsOk.cons (stepOk_pure [] [(0, .pointer (some ⟨p, 0, none⟩))] rfl rfl (by kernel_rfl) (by kernel_rfl) rfl Old.refl' (fun _ _ _ h => h) (fun d E w' hk hda hS hc hf => by rintro  e0; exact ⟨_, by go_simp, rfl⟩)) ?_
    refine StepsOk.cons (stepOk_pure [] [(3, .pointer (some ⟨w.heap.size, 0, none⟩))] rfl rfl (by kernel_rfl) (by kernel_rfl) rfl Old.refl' (fun _ _ _ h => h) (fun d E w' hk hda hS hc hf => by rintro  e3; exact ⟨_, by go_simp, rfl⟩)) ?_
    refine StepsOk.cons (stepOk_pure [(1, 11)] [] rfl rfl (by kernel_rfl) (by kernel_rfl) rfl Old.refl' (fun _ _ _ h => h) (fun d E w' hk hda hS hc hf => by rintro _ q1 rfl e11 ; obtain ⟨⟨s0, s1, s2, s3, s4, s5⟩, l9⟩ := hX.out _ hS; have t0 := hW5.out _ hS; exact ⟨_, by go_simp, rfl⟩)) ?_
    refine StepsOk.cons (stepOk_pure [(0, 10)] [] rfl rfl (by kernel_rfl) (by kernel_rfl) rfl Old.refl' (fun _ _ _ h => h) (fun d E w' hk hda hS hc hf => by rintro _ q0 rfl e10 ; exact ⟨_, by go_simp, rfl⟩)) ?_
    refine StepsOk.cons (stepOk_pure [(3, 13)] [] rfl rfl (by kernel_rfl) (by kernel_rfl) rfl Old.refl' (fun _ _ _ h => h) (fun d E w' hk hda hS hc hf => by rintro _ q3 rfl e13 ; exact ⟨_, by go_simp, rfl⟩)) ?_
    refine StepsOk.cons (stepOk_pure [(4, 14), (2, 12)] [] rfl rfl (by kernel_rfl) (by kernel_rfl) rfl Old.refl' (fun _ _ _ h => h) (fun d E w' hk hda hS hc hf => by rintro _ q4 rfl e14 _ q2 rfl e12 ; obtain ⟨⟨s0, s1, s2, s3, s4, s5⟩, l9⟩ := hX.out _ hS; have t0 := hW5.out _ hS; exact ⟨_, by go_simp, rfl⟩)) ?_
    refine StepsOk.cons (stepOk_pure [(5, 15)] [] rfl rfl (by kernel_rfl) (by kernel_rfl) rfl Old.refl' (fun _ _ _ h => h) (fun d E w' hk hda hS hc hf => by rintro _ q5 rfl e15 ; exact ⟨_, by go_simp, rfl⟩)) ?_
    refine StepsOk.cons (stepOk_pure [(6, 16)] [] rfl rfl (by kernel_rfl) (by kernel_rfl) rfl Old.refl' (fun _ _ _ h => h) (fun d E w' hk hda hS hc hf => by rintro _ q6 rfl e16 ; obtain ⟨⟨s0, s1, s2, s3, s4, s5⟩, l9⟩ := hX.out _ hS; have t0 := hW5.out _ hS; exact ⟨_, by go_simp, rfl⟩)) ?_
    refine StepsOk.cons (stepOk_pure [(7, 17)] [] rfl rfl (by kernel_rfl) (by kernel_rfl) rfl Old.refl' (fun _ _ _ h => h) (fun d E w' hk hda hS hc hf => by rintro _ q7 rfl e17 ; exact ⟨_, by go_simp, rfl⟩)) ?_
    refine StepsOk.cons (stepOk_pure [(8, 18)] [] rfl rfl (by kernel_rfl) (by kernel_rfl) rfl Old.refl' (fun _ _ _ h => h) (fun d E w' hk hda hS hc hf => by rintro _ q8 rfl e18 ; exact ⟨_, by go_simp, rfl⟩)) ?_
    exact StepsOk.nil
  case ends =>
    intro σ9 w9 hS9 hA9
    refine Ends.eqv (some 10) (.pointer (some ⟨p, 0, none⟩)) rfl (fun _ h => h) ?_
    refine Ends.eqv (some 11) (.pointer (some ⟨w.heap.size, 0, none⟩)) rfl (fun _ h => h) ?_
    refine Ends.eqv (some 12) (.int .i64 c) rfl (fun _ h => h) ?_
    refine Ends.eqv (some 13) (.pointer (some ⟨p, 0, none⟩)) rfl (fun _ h => h) ?_
    refine Ends.eqv (some 14) (.pointer (some ⟨p, 5, none⟩)) rfl (fun _ h => h) ?_
    refine Ends.eqv (some 15) (.pointer (some ⟨p, 5 + c * 6, none⟩)) rfl (fun _ h => h) ?_
    refine Ends.eqv (some 16) (.pointer (some ⟨p, 5 + c * 6 + 1, none⟩)) rfl (fun _ h => h) ?_
    refine Ends.eqv (some 17) (.int .i64 sw) rfl (fun _ h => h) ?_
    refine Ends.eqv (some 18) (.bool true) rfl (fun _ h => h) ?_
    refine Ends.eqv (some 9) (.bool true) rfl (fun _ h => h) ?_
    refine Ends.nil ?_
    clear hA9
    simp only [put_lit, put_none, List.set_cons_zero, List.set_cons_succ]
    clear x0 x1 x2 x3 x4 x5 l1 hbb
    have hbb := hS9
    clear hS9
    obtain ⟨⟨x0, x1, x2, x3, x4, x5⟩, l1⟩ := hX.out _ hbb
    go_wp2_with fail
    go_ret
    exact ⟨rfl, ((Old.refl' w).alloc' _).trans' hbb⟩
set_option maxRecDepth 100000 in
set_option maxHeartbeats 2000000 in
theorem DAsk_order (p : Nat) (F : Nat → Prop) (st : PV) (l : List ActV) (q : ReqV) (hq : q.q.may = true) (hw : st.wait q.client = none) (hs : ¬ st.last q.client < q.seq) (w : World) (h : PdAt w p F st l) :
    Calls Try.prog 19 #[.pointer (some ⟨p, 0, none⟩), .agg #[.int .i64 q.client, .int .i64 q.seq, .int .i64 q.kind, .int .i64 q.id, .int .i64 q.mat, .string q.data]] w fun e w' => e = .returned (.int .i64 9) ∧ Old w w' := by
  obtain ⟨c, s, k, i, m, dt⟩ := q
  simp only [ReqV.q, Q.may] at hq hw hs
  obtain ⟨⟨c0, c3⟩, -, -, -⟩ := mayQ_b hq
  obtain ⟨c, rfl⟩ : ∃ n : Nat, c = n := ⟨c.toNat, by omega⟩
  have hcn : c < 4 := by omega
  obtain ⟨⟨cs, V, hB, hR, hC, hV⟩, gF, hlt, hwn, hwp, hvs⟩ := h
  have h1 := hC.wc c hcn 1 _ rfl
  rw [hw] at h1
  obtain ⟨sq, hsq⟩ : ∃ v, st.last c = v := ⟨_, rfl⟩
  have h2 := hC.lc c (by omega)
  rw [hsq] at h2 hs
  have hs' : s ≤ sq := by omega
  have hgl := hB.lt
  have hW5 := hide (fun (W : World) (hW : Old (w.alloc (.cells #[.int .i64 c, .int .i64 s, .int .i64 k, .int .i64 i, .int .i64 m, .string dt] 24)) W) => (((((Old.refl' w).alloc' _).trans' hW).cell (p := ⟨p, 5 + c * 6 + 1, none⟩) hgl).trans ((hB.cell _).trans h1) : W.cell? ⟨p, 5 + c * 6 + 1, none⟩ = some (.int .i64 0)))
  have hL1 := hide (fun (W : World) (hW : Old (w.alloc (.cells #[.int .i64 c, .int .i64 s, .int .i64 k, .int .i64 i, .int .i64 m, .string dt] 24)) W) => (((((Old.refl' w).alloc' _).trans' hW).cell (p := ⟨p, 1 + c, none⟩) hgl).trans ((hB.cell _).trans h2) : W.cell? ⟨p, 1 + c, none⟩ = some (.int .i64 sq)))
  have cM := hide (fun (W : World) => rMay_at c s k i m dt true hq W)
  have hX := hide (fun (W : World) (h : Old (w.alloc (.cells #[.int .i64 c, .int .i64 s, .int .i64 k, .int .i64 i, .int .i64 m, .string dt] 24)) W) => bk6 ((Bk.new w 24 #[.int .i64 c, .int .i64 s, .int .i64 k, .int .i64 i, .int .i64 m, .string dt]).old h))
  have hc4 : (c : Int) < 4 := by omega
  clear hq hw hB hR hC hV hlt hwn hwp hvs h1 h2 hs hsq
  go_enter Try.func19, Try.ntmps19
  go_wp2_with (go_at_call 31; refine (cM.out _).mono ?_; rintro e w1 ⟨rfl, hbb⟩; obtain ⟨⟨x0, x1, x2, x3, x4, x5⟩, l1⟩ := hX.out _ hbb)
  refine region_steps (R := pick [eqv (.pointer (some ⟨p, 0, none⟩)), eqv (.pointer (some ⟨w.heap.size, 0, none⟩)), eqv (.int .i64 c), eqv (.pointer (some ⟨p, 0, none⟩)), eqv (.pointer (some ⟨p, 5, none⟩)), eqv (.pointer (some ⟨p, 5 + c * 6, none⟩)), eqv (.pointer (some ⟨p, 5 + c * 6 + 1, none⟩)), eqv (.int .i64 0), eqv (.bool false), eqv (.bool false)]) (S := fun _ w' => Old (w.alloc (.cells #[.int .i64 c, .int .i64 s, .int .i64 k, .int .i64 i, .int .i64 m, .string dt] 24)) w') (T := Old) (by kernel_rfl) (by kernel_rfl) (by kernel_rfl) (Stab.pick (Stab.eqv (Stab.eqv (Stab.eqv (Stab.eqv (Stab.eqv (Stab.eqv (Stab.eqv (Stab.eqv (Stab.eqv (Stab.eqv (Stab.nil)))))))))))) (hbb.drew') ?steps ?ends
  case steps =>
    refine StepsOk.cons (stepOk_pure [] [(0, .pointer (some ⟨p, 0, none⟩))] rfl rfl (by kernel_rfl) (by kernel_rfl) rfl Old.refl' (fun _ _ _ h => h) (fun d E w' hk hda hS hc hf => by rintro  e0; exact ⟨_, by go_simp, rfl⟩)) ?_
    refine StepsOk.cons (stepOk_pure [] [(3, .pointer (some ⟨w.heap.size, 0, none⟩))] rfl rfl (by kernel_rfl) (by kernel_rfl) rfl Old.refl' (fun _ _ _ h => h) (fun d E w' hk hda hS hc hf => by rintro  e3; exact ⟨_, by go_simp, rfl⟩)) ?_
    refine StepsOk.cons (stepOk_pure [(1, 11)] [] rfl rfl (by kernel_rfl) (by kernel_rfl) rfl Old.refl' (fun _ _ _ h => h) (fun d E w' hk hda hS hc hf => by rintro _ q1 rfl e11 ; obtain ⟨⟨s0, s1, s2, s3, s4, s5⟩, l9⟩ := hX.out _ hS; have t0 := hW5.out _ hS; exact ⟨_, by go_simp, rfl⟩)) ?_
    refine StepsOk.cons (stepOk_pure [(0, 10)] [] rfl rfl (by kernel_rfl) (by kernel_rfl) rfl Old.refl' (fun _ _ _ h => h) (fun d E w' hk hda hS hc hf => by rintro _ q0 rfl e10 ; exact ⟨_, by go_simp, rfl⟩)) ?_
    refine StepsOk.cons (stepOk_pure [(3, 13)] [] rfl rfl (by kernel_rfl) (by kernel_rfl) rfl Old.refl' (fun _ _ _ h => h) (fun d E w' hk hda hS hc hf => by rintro _ q3 rfl e13 ; exact ⟨_, by go_simp, rfl⟩)) ?_
    refine StepsOk.cons (stepOk_pure [(4, 14), (2, 12)] [] rfl rfl (by kernel_rfl) (by kernel_rfl) rfl Old.refl' (fun _ _ _ h => h) (fun d E w' hk hda hS hc hf => by rintro _ q4 rfl e14 _ q2 rfl e12 ; obtain ⟨⟨s0, s1, s2, s3, s4, s5⟩, l9⟩ := hX.out _ hS; have t0 := hW5.out _ hS; exact ⟨_, by go_simp, rfl⟩)) ?_
    refine StepsOk.cons (stepOk_pure [(5, 15)] [] rfl rfl (by kernel_rfl) (by kernel_rfl) rfl Old.refl' (fun _ _ _ h => h) (fun d E w' hk hda hS hc hf => by rintro _ q5 rfl e15 ; exact ⟨_, by go_simp, rfl⟩)) ?_
    refine StepsOk.cons (stepOk_pure [(6, 16)] [] rfl rfl (by kernel_rfl) (by kernel_rfl) rfl Old.refl' (fun _ _ _ h => h) (fun d E w' hk hda hS hc hf => by rintro _ q6 rfl e16 ; obtain ⟨⟨s0, s1, s2, s3, s4, s5⟩, l9⟩ := hX.out _ hS; have t0 := hW5.out _ hS; exact ⟨_, by go_simp, rfl⟩)) ?_
    refine StepsOk.cons (stepOk_pure [(7, 17)] [] rfl rfl (by kernel_rfl) (by kernel_rfl) rfl Old.refl' (fun _ _ _ h => h) (fun d E w' hk hda hS hc hf => by rintro _ q7 rfl e17 ; exact ⟨_, by go_simp, rfl⟩)) ?_
    refine StepsOk.cons (stepOk_pure [(8, 18)] [] rfl rfl (by kernel_rfl) (by kernel_rfl) rfl Old.refl' (fun _ _ _ h => h) (fun d E w' hk hda hS hc hf => by rintro _ q8 rfl e18 ; exact ⟨_, by go_simp, rfl⟩)) ?_
    exact StepsOk.nil
  case ends =>
    intro σ9 w9 hS9 hA9
    refine Ends.eqv (some 10) (.pointer (some ⟨p, 0, none⟩)) rfl (fun _ h => h) ?_
    refine Ends.eqv (some 11) (.pointer (some ⟨w.heap.size, 0, none⟩)) rfl (fun _ h => h) ?_
    refine Ends.eqv (some 12) (.int .i64 c) rfl (fun _ h => h) ?_
    refine Ends.eqv (some 13) (.pointer (some ⟨p, 0, none⟩)) rfl (fun _ h => h) ?_
    refine Ends.eqv (some 14) (.pointer (some ⟨p, 5, none⟩)) rfl (fun _ h => h) ?_
    refine Ends.eqv (some 15) (.pointer (some ⟨p, 5 + c * 6, none⟩)) rfl (fun _ h => h) ?_
    refine Ends.eqv (some 16) (.pointer (some ⟨p, 5 + c * 6 + 1, none⟩)) rfl (fun _ h => h) ?_
    refine Ends.eqv (some 17) (.int .i64 0) rfl (fun _ h => h) ?_
    refine Ends.eqv (some 18) (.bool false) rfl (fun _ h => h) ?_
    refine Ends.eqv (some 9) (.bool false) rfl (fun _ h => h) ?_
    refine Ends.nil ?_
    clear hA9
    simp only [put_lit, put_none, List.set_cons_zero, List.set_cons_succ]
    clear x0 x1 x2 x3 x4 x5 l1 hbb
    have hbb := hS9
    clear hS9
    obtain ⟨⟨x0, x1, x2, x3, x4, x5⟩, l1⟩ := hX.out _ hbb
    go_wp2_with fail
    refine region_steps (R := pick [eqv (.pointer (some ⟨w.heap.size, 1, none⟩)), eqv (.int .i64 s), eqv (.pointer (some ⟨p, 0, none⟩)), eqv (.pointer (some ⟨w.heap.size, 0, none⟩)), eqv (.int .i64 c), eqv (.pointer (some ⟨p, 0, none⟩)), eqv (.pointer (some ⟨p, 1, none⟩)), eqv (.pointer (some ⟨p, 1 + c, none⟩)), eqv (.int .i64 sq), eqv (.bool true), eqv (.bool true)]) (S := fun _ w' => Old (w.alloc (.cells #[.int .i64 c, .int .i64 s, .int .i64 k, .int .i64 i, .int .i64 m, .string dt] 24)) w') (T := Old) (by kernel_rfl) (by kernel_rfl) (by kernel_rfl) (Stab.pick (Stab.eqv (Stab.eqv (Stab.eqv (Stab.eqv (Stab.eqv (Stab.eqv (Stab.eqv (Stab.eqv (Stab.eqv (Stab.eqv (Stab.eqv (Stab.nil))))))))))))) (hbb.drew') ?steps ?ends
    case steps =>
      refine StepsOk.cons (stepOk_pure [] [(3, .pointer (some ⟨w.heap.size, 0, none⟩))] rfl rfl (by kernel_rfl) (by kernel_rfl) rfl Old.refl' (fun _ _ _ h => h) (fun d E w' hk hda hS hc hf => by rintro  e3; exact ⟨_, by go_simp, rfl⟩)) ?_
      refine StepsOk.cons (stepOk_pure [(0, 20)] [] rfl rfl (by kernel_rfl) (by kernel_rfl) rfl Old.refl' (fun _ _ _ h => h) (fun d E w' hk hda hS hc hf => by rintro _ q0 rfl e20 ; obtain ⟨⟨s0, s1, s2, s3, s4, s5⟩, l9⟩ := hX.out _ hS; have t0 := hL1.out _ hS; exact ⟨_, by go_simp, rfl⟩)) ?_
      refine StepsOk.cons (stepOk_pure [] [(0, .pointer (some ⟨p, 0, none⟩))] rfl rfl (by kernel_rfl) (by kernel_rfl) rfl Old.refl' (fun _ _ _ h => h) (fun d E w' hk hda hS hc hf => by rintro  e0; exact ⟨_, by go_simp, rfl⟩)) ?_
      refine StepsOk.cons (stepOk_pure [] [(3, .pointer (some ⟨w.heap.size, 0, none⟩))] rfl rfl (by kernel_rfl) (by kernel_rfl) rfl Old.refl' (fun _ _ _ h => h) (fun d E w' hk hda hS hc hf => by rintro  e3; exact ⟨_, by go_simp, rfl⟩)) ?_
      refine StepsOk.cons (stepOk_pure [(3, 23)] [] rfl rfl (by kernel_rfl) (by kernel_rfl) rfl Old.refl' (fun _ _ _ h => h) (fun d E w' hk hda hS hc hf => by rintro _ q3 rfl e23 ; obtain ⟨⟨s0, s1, s2, s3, s4, s5⟩, l9⟩ := hX.out _ hS; have t0 := hL1.out _ hS; exact ⟨_, by go_simp, rfl⟩)) ?_
      refine StepsOk.cons (stepOk_pure [(2, 22)] [] rfl rfl (by kernel_rfl) (by kernel_rfl) rfl Old.refl' (fun _ _ _ h => h) (fun d E w' hk hda hS hc hf => by rintro _ q2 rfl e22 ; exact ⟨_, by go_simp, rfl⟩)) ?_
      refine StepsOk.cons (stepOk_pure [(5, 25)] [] rfl rfl (by kernel_rfl) (by kernel_rfl) rfl Old.refl' (fun _ _ _ h => h) (fun d E w' hk hda hS hc hf => by rintro _ q5 rfl e25 ; exact ⟨_, by go_simp, rfl⟩)) ?_
      refine StepsOk.cons (stepOk_pure [(6, 26), (4, 24)] [] rfl rfl (by kernel_rfl) (by kernel_rfl) rfl Old.refl' (fun _ _ _ h => h) (fun d E w' hk hda hS hc hf => by rintro _ q6 rfl e26 _ q4 rfl e24 ; obtain ⟨⟨s0, s1, s2, s3, s4, s5⟩, l9⟩ := hX.out _ hS; have t0 := hL1.out _ hS; exact ⟨_, by go_simp, rfl⟩)) ?_
      refine StepsOk.cons (stepOk_pure [(7, 27)] [] rfl rfl (by kernel_rfl) (by kernel_rfl) rfl Old.refl' (fun _ _ _ h => h) (fun d E w' hk hda hS hc hf => by rintro _ q7 rfl e27 ; obtain ⟨⟨s0, s1, s2, s3, s4, s5⟩, l9⟩ := hX.out _ hS; have t0 := hL1.out _ hS; exact ⟨_, by go_simp, rfl⟩)) ?_
      refine StepsOk.cons (stepOk_pure [(1, 21), (8, 28)] [] rfl rfl (by kernel_rfl) (by kernel_rfl) rfl Old.refl' (fun _ _ _ h => h) (fun d E w' hk hda hS hc hf => by rintro _ q1 rfl e21 _ q8 rfl e28 ; exact ⟨_, by go_simp, rfl⟩)) ?_
      refine StepsOk.cons (stepOk_pure [(9, 29)] [] rfl rfl (by kernel_rfl) (by kernel_rfl) rfl Old.refl' (fun _ _ _ h => h) (fun d E w' hk hda hS hc hf => by rintro _ q9 rfl e29 ; exact ⟨_, by go_simp, rfl⟩)) ?_
      exact StepsOk.nil
    case ends =>
      intro σ9 w9 hS9 hA9
      refine Ends.eqv (some 20) (.pointer (some ⟨w.heap.size, 1, none⟩)) rfl (fun _ h => h) ?_
      refine Ends.eqv (some 21) (.int .i64 s) rfl (fun _ h => h) ?_
      refine Ends.eqv (some 22) (.pointer (some ⟨p, 0, none⟩)) rfl (fun _ h => h) ?_
      refine Ends.eqv (some 23) (.pointer (some ⟨w.heap.size, 0, none⟩)) rfl (fun _ h => h) ?_
      refine Ends.eqv (some 24) (.int .i64 c) rfl (fun _ h => h) ?_
      refine Ends.eqv (some 25) (.pointer (some ⟨p, 0, none⟩)) rfl (fun _ h => h) ?_
      refine Ends.eqv (some 26) (.pointer (some ⟨p, 1, none⟩)) rfl (fun _ h => h) ?_
      refine Ends.eqv (some 27) (.pointer (some ⟨p, 1 + c, none⟩)) rfl (fun _ h => h) ?_
      refine Ends.eqv (some 28) (.int .i64 sq) rfl (fun _ h => h) ?_
      refine Ends.eqv (some 29) (.bool true) rfl (fun _ h => h) ?_
      refine Ends.eqv (some 19) (.bool true) rfl (fun _ h => h) ?_
      refine Ends.nil ?_
      clear hA9
      simp only [put_lit, put_none, List.set_cons_zero, List.set_cons_succ]
      clear x0 x1 x2 x3 x4 x5 l1 hbb
      have hbb := hS9
      clear hS9
      obtain ⟨⟨x0, x1, x2, x3, x4, x5⟩, l1⟩ := hX.out _ hbb
      go_wp2_with fail
      go_ret
      exact ⟨rfl, ((Old.refl' w).alloc' _).trans' hbb⟩
set_option maxRecDepth 100000 in
set_option maxHeartbeats 4000000 in
theorem DAsk_done (p : Nat) (F : Nat → Prop) (st : PV) (l : List ActV) (n : Nat) (hn : l.length = n) (hfew : n ≤ 50000) (q : ReqV) (hq : q.q.may = true) (hw : st.wait q.client = none) (hs : st.last q.client < q.seq) (w : World) (h : PdAt w p F st l) :
    Calls Try.prog 19 #[.pointer (some ⟨p, 0, none⟩), .agg #[.int .i64 q.client, .int .i64 q.seq, .int .i64 q.kind, .int .i64 q.id, .int .i64 q.mat, .string q.data]] w fun e w' => e = .returned (.int .i64 0) ∧ (∃ F', PdAt w' p F' (st.asked q) (l ++ [askAct q]) ∧ ∀ b, F' b → F b ∨ w.heap.size ≤ b) ∧ Fr F w w' := by
  obtain ⟨j0, hj0, hj00, hj01, hj02⟩ := info_parts info_Act
  obtain ⟨c, s, k, i, m, dt⟩ := q
  simp only [ReqV.q, Q.may] at hq hw hs ⊢
  have hs1 : 1 ≤ s := by have := (mayQ_b hq).2.1; omega
  obtain ⟨⟨c0, c3⟩, -, -, -⟩ := mayQ_b hq
  obtain ⟨c, rfl⟩ : ∃ n : Nat, c = n := ⟨c.toNat, by omega⟩
  have hcn : c < 4 := by omega
  obtain ⟨⟨cs, V, hB, hR, hC, hV⟩, gF, hlt, hwn, hwp, hvs⟩ := h
  have h1 := hC.wc c hcn 1 _ rfl
  rw [hw] at h1
  obtain ⟨sq, hsq⟩ : ∃ v, st.last c = v := ⟨_, rfl⟩
  have h2 := hC.lc c (by omega)
  rw [hsq] at h2 hs
  have hs' : ¬ s ≤ sq := by omega
  rw [hn] at hR
  obtain ⟨A, ca, rfl, -, -⟩ := own_form hR
  have hgl := hB.lt
  have hW5 := hide (fun (W : World) (hW : Old (w.alloc (.cells #[.int .i64 c, .int .i64 s, .int .i64 k, .int .i64 i, .int .i64 m, .string dt] 24)) W) => (((((Old.refl' w).alloc' _).trans' hW).cell (p := ⟨p, 5 + c * 6 + 1, none⟩) hgl).trans ((hB.cell _).trans h1) : W.cell? ⟨p, 5 + c * 6 + 1, none⟩ = some (.int .i64 0)))
  have hL1 := hide (fun (W : World) (hW : Old (w.alloc (.cells #[.int .i64 c, .int .i64 s, .int .i64 k, .int .i64 i, .int .i64 m, .string dt] 24)) W) => (((((Old.refl' w).alloc' _).trans' hW).cell (p := ⟨p, 1 + c, none⟩) hgl).trans ((hB.cell _).trans h2) : W.cell? ⟨p, 1 + c, none⟩ = some (.int .i64 sq)))
  have cM := hide (fun (W : World) => rMay_at c s k i m dt true hq W)
  have hX := hide (fun (W : World) (h : Old (w.alloc (.cells #[.int .i64 c, .int .i64 s, .int .i64 k, .int .i64 i, .int .i64 m, .string dt] 24)) W) => bk6 ((Bk.new w 24 #[.int .i64 c, .int .i64 s, .int .i64 k, .int .i64 i, .int .i64 m, .string dt]).old h))
  have hBQ := hide (fun (W : World) (h : Old (w.alloc (.cells #[.int .i64 c, .int .i64 s, .int .i64 k, .int .i64 i, .int .i64 m, .string dt] 24)) W) => (Bk.new w 24 #[.int .i64 c, .int .i64 s, .int .i64 k, .int .i64 i, .int .i64 m, .string dt]).old h)
  have hBB := hide (fun (W : World) (h : Old (w.alloc (.cells #[.int .i64 c, .int .i64 s, .int .i64 k, .int .i64 i, .int .i64 m, .string dt] 24)) W) => hB.old (((Old.refl' w).alloc' (.cells #[.int .i64 c, .int .i64 s, .int .i64 k, .int .i64 i, .int .i64 m, .string dt] 24)).trans' h))
  have hRR := hide (fun (W : World) (h : Fr (fun b => b = p) w W) => own_fr hR h (fun b hb e => own_ne_bk hR hB (by decide) (e ▸ hb)))
  have HNE := hide (own_ne_bk hR hB (by decide))
  have HC := hide hC
  have HV := hide hV
  have HWN := hide hwn
  have HWP := hide hwp
  have HVS := hide hvs
  have HLT := hide hlt
  have HGF := hide gF
  have HS1 := hide hs1
  have HN := hide hn
  have hc4 : (c : Int) < 4 := by omega
  clear hq hw hB hR hC hV hlt hwn hwp hvs h1 h2 hs hsq gF hs1 hn
  go_enter Try.func19, Try.ntmps19
  go_wp2_with (go_at_call 31; refine (cM.out _).mono ?_; rintro e w1 ⟨rfl, hbb⟩; obtain ⟨⟨x0, x1, x2, x3, x4, x5⟩, l1⟩ := hX.out _ hbb)
  refine region_steps (R := pick [eqv (.pointer (some ⟨p, 0, none⟩)), eqv (.pointer (some ⟨w.heap.size, 0, none⟩)), eqv (.int .i64 c), eqv (.pointer (some ⟨p, 0, none⟩)), eqv (.pointer (some ⟨p, 5, none⟩)), eqv (.pointer (some ⟨p, 5 + c * 6, none⟩)), eqv (.pointer (some ⟨p, 5 + c * 6 + 1, none⟩)), eqv (.int .i64 0), eqv (.bool false), eqv (.bool false)]) (S := fun _ w' => Old (w.alloc (.cells #[.int .i64 c, .int .i64 s, .int .i64 k, .int .i64 i, .int .i64 m, .string dt] 24)) w') (T := Old) (by kernel_rfl) (by kernel_rfl) (by kernel_rfl) (Stab.pick (Stab.eqv (Stab.eqv (Stab.eqv (Stab.eqv (Stab.eqv (Stab.eqv (Stab.eqv (Stab.eqv (Stab.eqv (Stab.eqv (Stab.nil)))))))))))) (hbb.drew') ?steps ?ends
  case steps =>
    refine StepsOk.cons (stepOk_pure [] [(0, .pointer (some ⟨p, 0, none⟩))] rfl rfl (by kernel_rfl) (by kernel_rfl) rfl Old.refl' (fun _ _ _ h => h) (fun d E w' hk hda hS hc hf => by rintro  e0; exact ⟨_, by go_simp, rfl⟩)) ?_
    refine StepsOk.cons (stepOk_pure [] [(3, .pointer (some ⟨w.heap.size, 0, none⟩))] rfl rfl (by kernel_rfl) (by kernel_rfl) rfl Old.refl' (fun _ _ _ h => h) (fun d E w' hk hda hS hc hf => by rintro  e3; exact ⟨_, by go_simp, rfl⟩)) ?_
    refine StepsOk.cons (stepOk_pure [(1, 11)] [] rfl rfl (by kernel_rfl) (by kernel_rfl) rfl Old.refl' (fun _ _ _ h => h) (fun d E w' hk hda hS hc hf => by rintro _ q1 rfl e11 ; obtain ⟨⟨s0, s1, s2, s3, s4, s5⟩, l9⟩ := hX.out _ hS; have t0 := hW5.out _ hS; exact ⟨_, by go_simp, rfl⟩)) ?_
    refine StepsOk.cons (stepOk_pure [(0, 10)] [] rfl rfl (by kernel_rfl) (by kernel_rfl) rfl Old.refl' (fun _ _ _ h => h) (fun d E w' hk hda hS hc hf => by rintro _ q0 rfl e10 ; exact ⟨_, by go_simp, rfl⟩)) ?_
    refine StepsOk.cons (stepOk_pure [(3, 13)] [] rfl rfl (by kernel_rfl) (by kernel_rfl) rfl Old.refl' (fun _ _ _ h => h) (fun d E w' hk hda hS hc hf => by rintro _ q3 rfl e13 ; exact ⟨_, by go_simp, rfl⟩)) ?_
    refine StepsOk.cons (stepOk_pure [(4, 14), (2, 12)] [] rfl rfl (by kernel_rfl) (by kernel_rfl) rfl Old.refl' (fun _ _ _ h => h) (fun d E w' hk hda hS hc hf => by rintro _ q4 rfl e14 _ q2 rfl e12 ; obtain ⟨⟨s0, s1, s2, s3, s4, s5⟩, l9⟩ := hX.out _ hS; have t0 := hW5.out _ hS; exact ⟨_, by go_simp, rfl⟩)) ?_
    refine StepsOk.cons (stepOk_pure [(5, 15)] [] rfl rfl (by kernel_rfl) (by kernel_rfl) rfl Old.refl' (fun _ _ _ h => h) (fun d E w' hk hda hS hc hf => by rintro _ q5 rfl e15 ; exact ⟨_, by go_simp, rfl⟩)) ?_
    refine StepsOk.cons (stepOk_pure [(6, 16)] [] rfl rfl (by kernel_rfl) (by kernel_rfl) rfl Old.refl' (fun _ _ _ h => h) (fun d E w' hk hda hS hc hf => by rintro _ q6 rfl e16 ; obtain ⟨⟨s0, s1, s2, s3, s4, s5⟩, l9⟩ := hX.out _ hS; have t0 := hW5.out _ hS; exact ⟨_, by go_simp, rfl⟩)) ?_
    refine StepsOk.cons (stepOk_pure [(7, 17)] [] rfl rfl (by kernel_rfl) (by kernel_rfl) rfl Old.refl' (fun _ _ _ h => h) (fun d E w' hk hda hS hc hf => by rintro _ q7 rfl e17 ; exact ⟨_, by go_simp, rfl⟩)) ?_
    refine StepsOk.cons (stepOk_pure [(8, 18)] [] rfl rfl (by kernel_rfl) (by kernel_rfl) rfl Old.refl' (fun _ _ _ h => h) (fun d E w' hk hda hS hc hf => by rintro _ q8 rfl e18 ; exact ⟨_, by go_simp, rfl⟩)) ?_
    exact StepsOk.nil
  case ends =>
    intro σ9 w9 hS9 hA9
    refine Ends.eqv (some 10) (.pointer (some ⟨p, 0, none⟩)) rfl (fun _ h => h) ?_
    refine Ends.eqv (some 11) (.pointer (some ⟨w.heap.size, 0, none⟩)) rfl (fun _ h => h) ?_
    refine Ends.eqv (some 12) (.int .i64 c) rfl (fun _ h => h) ?_
    refine Ends.eqv (some 13) (.pointer (some ⟨p, 0, none⟩)) rfl (fun _ h => h) ?_
    refine Ends.eqv (some 14) (.pointer (some ⟨p, 5, none⟩)) rfl (fun _ h => h) ?_
    refine Ends.eqv (some 15) (.pointer (some ⟨p, 5 + c * 6, none⟩)) rfl (fun _ h => h) ?_
    refine Ends.eqv (some 16) (.pointer (some ⟨p, 5 + c * 6 + 1, none⟩)) rfl (fun _ h => h) ?_
    refine Ends.eqv (some 17) (.int .i64 0) rfl (fun _ h => h) ?_
    refine Ends.eqv (some 18) (.bool false) rfl (fun _ h => h) ?_
    refine Ends.eqv (some 9) (.bool false) rfl (fun _ h => h) ?_
    refine Ends.nil ?_
    clear hA9
    simp only [put_lit, put_none, List.set_cons_zero, List.set_cons_succ]
    clear x0 x1 x2 x3 x4 x5 l1 hbb
    have hbb := hS9
    clear hS9
    obtain ⟨⟨x0, x1, x2, x3, x4, x5⟩, l1⟩ := hX.out _ hbb
    go_wp2_with fail
    refine region_steps (R := pick [eqv (.pointer (some ⟨w.heap.size, 1, none⟩)), eqv (.int .i64 s), eqv (.pointer (some ⟨p, 0, none⟩)), eqv (.pointer (some ⟨w.heap.size, 0, none⟩)), eqv (.int .i64 c), eqv (.pointer (some ⟨p, 0, none⟩)), eqv (.pointer (some ⟨p, 1, none⟩)), eqv (.pointer (some ⟨p, 1 + c, none⟩)), eqv (.int .i64 sq), eqv (.bool false), eqv (.bool false)]) (S := fun _ w' => Old (w.alloc (.cells #[.int .i64 c, .int .i64 s, .int .i64 k, .int .i64 i, .int .i64 m, .string dt] 24)) w') (T := Old) (by kernel_rfl) (by kernel_rfl) (by kernel_rfl) (Stab.pick (Stab.eqv (Stab.eqv (Stab.eqv (Stab.eqv (Stab.eqv (Stab.eqv (Stab.eqv (Stab.eqv (Stab.eqv (Stab.eqv (Stab.eqv (Stab.nil))))))))))))) (hbb.drew') ?steps ?ends
    case steps =>
      refine StepsOk.cons (stepOk_pure [] [(3, .pointer (some ⟨w.heap.size, 0, none⟩))] rfl rfl (by kernel_rfl) (by kernel_rfl) rfl Old.refl' (fun _ _ _ h => h) (fun d E w' hk hda hS hc hf => by rintro  e3; exact ⟨_, by go_simp, rfl⟩)) ?_
      refine StepsOk.cons (stepOk_pure [(0, 20)] [] rfl rfl (by kernel_rfl) (by kernel_rfl) rfl Old.refl' (fun _ _ _ h => h) (fun d E w' hk hda hS hc hf => by rintro _ q0 rfl e20 ; obtain ⟨⟨s0, s1, s2, s3, s4, s5⟩, l9⟩ := hX.out _ hS; have t0 := hL1.out _ hS; exact ⟨_, by go_simp, rfl⟩)) ?_
      refine StepsOk.cons (stepOk_pure [] [(0, .pointer (some ⟨p, 0, none⟩))] rfl rfl (by kernel_rfl) (by kernel_rfl) rfl Old.refl' (fun _ _ _ h => h) (fun d E w' hk hda hS hc hf => by rintro  e0; exact ⟨_, by go_simp, rfl⟩)) ?_
      refine StepsOk.cons (stepOk_pure [] [(3, .pointer (some ⟨w.heap.size, 0, none⟩))] rfl rfl (by kernel_rfl) (by kernel_rfl) rfl Old.refl' (fun _ _ _ h => h) (fun d E w' hk hda hS hc hf => by rintro  e3; exact ⟨_, by go_simp, rfl⟩)) ?_
      refine StepsOk.cons (stepOk_pure [(3, 23)] [] rfl rfl (by kernel_rfl) (by kernel_rfl) rfl Old.refl' (fun _ _ _ h => h) (fun d E w' hk hda hS hc hf => by rintro _ q3 rfl e23 ; obtain ⟨⟨s0, s1, s2, s3, s4, s5⟩, l9⟩ := hX.out _ hS; have t0 := hL1.out _ hS; exact ⟨_, by go_simp, rfl⟩)) ?_
      refine StepsOk.cons (stepOk_pure [(2, 22)] [] rfl rfl (by kernel_rfl) (by kernel_rfl) rfl Old.refl' (fun _ _ _ h => h) (fun d E w' hk hda hS hc hf => by rintro _ q2 rfl e22 ; exact ⟨_, by go_simp, rfl⟩)) ?_
      refine StepsOk.cons (stepOk_pure [(5, 25)] [] rfl rfl (by kernel_rfl) (by kernel_rfl) rfl Old.refl' (fun _ _ _ h => h) (fun d E w' hk hda hS hc hf => by rintro _ q5 rfl e25 ; exact ⟨_, by go_simp, rfl⟩)) ?_
      refine StepsOk.cons (stepOk_pure [(6, 26), (4, 24)] [] rfl rfl (by kernel_rfl) (by kernel_rfl) rfl Old.refl' (fun _ _ _ h => h) (fun d E w' hk hda hS hc hf => by rintro _ q6 rfl e26 _ q4 rfl e24 ; obtain ⟨⟨s0, s1, s2, s3, s4, s5⟩, l9⟩ := hX.out _ hS; have t0 := hL1.out _ hS; exact ⟨_, by go_simp, rfl⟩)) ?_
      refine StepsOk.cons (stepOk_pure [(7, 27)] [] rfl rfl (by kernel_rfl) (by kernel_rfl) rfl Old.refl' (fun _ _ _ h => h) (fun d E w' hk hda hS hc hf => by rintro _ q7 rfl e27 ; obtain ⟨⟨s0, s1, s2, s3, s4, s5⟩, l9⟩ := hX.out _ hS; have t0 := hL1.out _ hS; exact ⟨_, by go_simp, rfl⟩)) ?_
      refine StepsOk.cons (stepOk_pure [(1, 21), (8, 28)] [] rfl rfl (by kernel_rfl) (by kernel_rfl) rfl Old.refl' (fun _ _ _ h => h) (fun d E w' hk hda hS hc hf => by rintro _ q1 rfl e21 _ q8 rfl e28 ; exact ⟨_, by go_simp, rfl⟩)) ?_
      refine StepsOk.cons (stepOk_pure [(9, 29)] [] rfl rfl (by kernel_rfl) (by kernel_rfl) rfl Old.refl' (fun _ _ _ h => h) (fun d E w' hk hda hS hc hf => by rintro _ q9 rfl e29 ; exact ⟨_, by go_simp, rfl⟩)) ?_
      exact StepsOk.nil
    case ends =>
      intro σ9 w9 hS9 hA9
      refine Ends.eqv (some 20) (.pointer (some ⟨w.heap.size, 1, none⟩)) rfl (fun _ h => h) ?_
      refine Ends.eqv (some 21) (.int .i64 s) rfl (fun _ h => h) ?_
      refine Ends.eqv (some 22) (.pointer (some ⟨p, 0, none⟩)) rfl (fun _ h => h) ?_
      refine Ends.eqv (some 23) (.pointer (some ⟨w.heap.size, 0, none⟩)) rfl (fun _ h => h) ?_
      refine Ends.eqv (some 24) (.int .i64 c) rfl (fun _ h => h) ?_
      refine Ends.eqv (some 25) (.pointer (some ⟨p, 0, none⟩)) rfl (fun _ h => h) ?_
      refine Ends.eqv (some 26) (.pointer (some ⟨p, 1, none⟩)) rfl (fun _ h => h) ?_
      refine Ends.eqv (some 27) (.pointer (some ⟨p, 1 + c, none⟩)) rfl (fun _ h => h) ?_
      refine Ends.eqv (some 28) (.int .i64 sq) rfl (fun _ h => h) ?_
      refine Ends.eqv (some 29) (.bool false) rfl (fun _ h => h) ?_
      refine Ends.eqv (some 19) (.bool false) rfl (fun _ h => h) ?_
      refine Ends.nil ?_
      clear hA9
      simp only [put_lit, put_none, List.set_cons_zero, List.set_cons_succ]
      clear x0 x1 x2 x3 x4 x5 l1 hbb
      have hbb := hS9
      clear hS9
      obtain ⟨⟨x0, x1, x2, x3, x4, x5⟩, l1⟩ := hX.out _ hbb
      go_wp2_with fail
      clear x0 x1 x2 x3 x4 x5 l1
      have hB5 := hBB.out _ hbb
      have hQ5 := hBQ.out _ hbb
      have hO5 := hide (((Old.refl' w).alloc' (.cells #[.int .i64 c, .int .i64 s, .int .i64 k, .int .i64 i, .int .i64 m, .string dt] 24)).trans' hbb)
      obtain ⟨W5, hW5e⟩ : ∃ U, w9 = U := ⟨_, rfl⟩
      rw [hW5e] at hB5 hQ5 hO5
      simp only [hW5e]
      clear hW5e hbb
      obtain ⟨b3, hb3⟩ : ∃ b, w.heap.size = b := ⟨_, rfl⟩
      have HB3 := hide hb3
      have hqg : p ≠ b3 := by omega
      rw [hb3] at hQ5
      simp only [hb3]
      clear hb3
      have hST1 : ∀ (d : Nat → Option Value) (cs' : Array Value), d 12 = none → PdC cs' (.slice A n ca) ⟨st.n, sel (d 12) st.last (lastS st c s), sel (d 16) st.wait (waitS st c (some ⟨c, s, k, i, m, dt⟩))⟩ → PdC (cs'.setIfInBounds (1 + c) (.int .i64 s)) (.slice A n ca) ⟨st.n, sel (upd d 12 undef 12) st.last (lastS st c s), sel (upd d 12 undef 16) st.wait (waitS st c (some ⟨c, s, k, i, m, dt⟩))⟩ := fun d cs' h1 h2 => by
        have e1 : upd d 12 undef 12 = some undef := by simp [upd]
        have e2 : upd d 12 undef 16 = d 16 := by simp [upd]
        rw [h1] at h2
        rw [e1, e2]
        exact h2.setL hcn s
      have hST2 : ∀ (d : Nat → Option Value) (cs' : Array Value), d 16 = none → PdC cs' (.slice A n ca) ⟨st.n, sel (d 12) st.last (lastS st c s), sel (d 16) st.wait (waitS st c (some ⟨c, s, k, i, m, dt⟩))⟩ → PdC ((((((cs'.setIfInBounds (5 + c * 6) (.int .i64 c)).setIfInBounds (5 + c * 6 + 1) (.int .i64 s)).setIfInBounds (5 + c * 6 + 2) (.int .i64 k)).setIfInBounds (5 + c * 6 + 3) (.int .i64 i)).setIfInBounds (5 + c * 6 + 4) (.int .i64 m)).setIfInBounds (5 + c * 6 + 5) (.string dt)) (.slice A n ca) ⟨st.n, sel (upd d 16 undef 12) st.last (lastS st c s), sel (upd d 16 undef 16) st.wait (waitS st c (some ⟨c, s, k, i, m, dt⟩))⟩ := fun d cs' h1 h2 => by
        have e1 : upd d 16 undef 16 = some undef := by simp [upd]
        have e2 : upd d 16 undef 12 = d 12 := by simp [upd]
        rw [h1] at h2
        rw [e1, e2]
        exact h2.setW hcn (some ⟨c, s, k, i, m, dt⟩) ⟨c, s, k, i, m, dt⟩ rfl
      have hFr6 : ∀ {w' : World}, Fr (fun b => b = p) W5 w' → Fr (fun b => b = p) W5 ((((((w'.setCell ⟨p, 5 + c * 6, none⟩ (.int .i64 c)).setCell ⟨p, 5 + c * 6 + 1, none⟩ (.int .i64 s)).setCell ⟨p, 5 + c * 6 + 2, none⟩ (.int .i64 k)).setCell ⟨p, 5 + c * 6 + 3, none⟩ (.int .i64 i)).setCell ⟨p, 5 + c * 6 + 4, none⟩ (.int .i64 m)).setCell ⟨p, 5 + c * 6 + 5, none⟩ (.string dt)) := fun {w'} h => by
        have stp : ∀ {W : World} (j : Nat) (u : Value), Fr (fun k => k = p) W5 W → Fr (fun k => k = p) W5 (W.setCell ⟨p, j, none⟩ u) := fun j u h => Fr.setCell (p := ⟨p, j, none⟩) h (.inr rfl) u
        exact stp _ _ (stp _ _ (stp _ _ (stp _ _ (stp _ _ (stp _ _ h)))))
      refine region_steps (R := pick [eqv (.pointer (some ⟨p, 0, none⟩)), eqv (.pointer (some ⟨b3, 0, none⟩)), eqv (.int .i64 c), eqv (.pointer (some ⟨p, 0, none⟩)), eqv (.pointer (some ⟨b3, 0, none⟩)), eqv (.int .i64 c), eqv (.pointer (some ⟨b3, 1, none⟩)), eqv (.int .i64 s), eqv (.agg #[.int .i64 c, .int .i64 s, .int .i64 k, .int .i64 i, .int .i64 m, .string dt]), eqv (.pointer (some ⟨p, 0, none⟩)), eqv (.pointer (some ⟨p, 1, none⟩)), eqv (.pointer (some ⟨p, 1 + c, none⟩)), eqv (undef), eqv (.pointer (some ⟨p, 0, none⟩)), eqv (.pointer (some ⟨p, 5, none⟩)), eqv (.pointer (some ⟨p, 5 + c * 6, none⟩)), eqv (undef)]) (S := fun σ w' => (∃ cs', Bk w' p 52 cs' ∧ PdC cs' (.slice A n ca) ⟨st.n, sel (σ 12) st.last (lastS st c s), sel (σ 16) st.wait (waitS st c (some ⟨c, s, k, i, m, dt⟩))⟩) ∧ Bk w' b3 24 #[.int .i64 c, .int .i64 s, .int .i64 k, .int .i64 i, .int .i64 m, .string dt] ∧ Fr (fun b => b = p) W5 w') (T := (fun _ _ => True)) (by kernel_rfl) (by kernel_rfl) (by kernel_rfl) (Stab.pick (Stab.eqv (Stab.eqv (Stab.eqv (Stab.eqv (Stab.eqv (Stab.eqv (Stab.eqv (Stab.eqv (Stab.eqv (Stab.eqv (Stab.eqv (Stab.eqv (Stab.eqv (Stab.eqv (Stab.eqv (Stab.eqv (Stab.eqv (Stab.nil))))))))))))))))))) (⟨⟨cs, hB5.drew, HC.out⟩, hQ5.drew, (Fr.refl _ _).drew⟩) ?steps ?ends
      case steps =>
        refine StepsOk.cons (stepOk_pure [] [(0, .pointer (some ⟨p, 0, none⟩))] rfl rfl (by kernel_rfl) (by kernel_rfl) rfl (fun _ => trivial) (fun σ v w h => by simpa [upd] using h) (fun d E w' hk hda hS hc hf => by rintro  e0; exact ⟨_, by go_simp, rfl⟩)) ?_
        refine StepsOk.cons (stepOk_pure [] [(3, .pointer (some ⟨b3, 0, none⟩))] rfl rfl (by kernel_rfl) (by kernel_rfl) rfl (fun _ => trivial) (fun σ v w h => by simpa [upd] using h) (fun d E w' hk hda hS hc hf => by rintro  e3; exact ⟨_, by go_simp, rfl⟩)) ?_
        refine StepsOk.cons (stepOk_pure [(1, 31)] [] rfl rfl (by kernel_rfl) (by kernel_rfl) rfl (fun _ => trivial) (fun σ v w h => by simpa [upd] using h) (fun d E w' hk hda hS hc hf => by rintro _ q1 rfl e31 ; obtain ⟨⟨cs', hB6, hC6⟩, hQ6, hF6⟩ := hS; obtain ⟨⟨s0, s1, s2, s3, s4, s5⟩, l9⟩ := bk6 hQ6; exact ⟨_, by go_simp, rfl⟩)) ?_
        refine StepsOk.cons (stepOk_pure [] [(0, .pointer (some ⟨p, 0, none⟩))] rfl rfl (by kernel_rfl) (by kernel_rfl) rfl (fun _ => trivial) (fun σ v w h => by simpa [upd] using h) (fun d E w' hk hda hS hc hf => by rintro  e0; exact ⟨_, by go_simp, rfl⟩)) ?_
        refine StepsOk.cons (stepOk_pure [] [(3, .pointer (some ⟨b3, 0, none⟩))] rfl rfl (by kernel_rfl) (by kernel_rfl) rfl (fun _ => trivial) (fun σ v w h => by simpa [upd] using h) (fun d E w' hk hda hS hc hf => by rintro  e3; exact ⟨_, by go_simp, rfl⟩)) ?_
        refine StepsOk.cons (stepOk_pure [(4, 34)] [] rfl rfl (by kernel_rfl) (by kernel_rfl) rfl (fun _ => trivial) (fun σ v w h => by simpa [upd] using h) (fun d E w' hk hda hS hc hf => by rintro _ q4 rfl e34 ; obtain ⟨⟨cs', hB6, hC6⟩, hQ6, hF6⟩ := hS; obtain ⟨⟨s0, s1, s2, s3, s4, s5⟩, l9⟩ := bk6 hQ6; exact ⟨_, by go_simp, rfl⟩)) ?_
        refine StepsOk.cons (stepOk_pure [] [(3, .pointer (some ⟨b3, 0, none⟩))] rfl rfl (by kernel_rfl) (by kernel_rfl) rfl (fun _ => trivial) (fun σ v w h => by simpa [upd] using h) (fun d E w' hk hda hS hc hf => by rintro  e3; exact ⟨_, by go_simp, rfl⟩)) ?_
        refine StepsOk.cons (stepOk_pure [(6, 36)] [] rfl rfl (by kernel_rfl) (by kernel_rfl) rfl (fun _ => trivial) (fun σ v w h => by simpa [upd] using h) (fun d E w' hk hda hS hc hf => by rintro _ q6 rfl e36 ; obtain ⟨⟨cs', hB6, hC6⟩, hQ6, hF6⟩ := hS; obtain ⟨⟨s0, s1, s2, s3, s4, s5⟩, l9⟩ := bk6 hQ6; exact ⟨_, by go_simp, rfl⟩)) ?_
        refine StepsOk.cons (stepOk_pure [] [(3, .pointer (some ⟨b3, 0, none⟩))] rfl rfl (by kernel_rfl) (by kernel_rfl) rfl (fun _ => trivial) (fun σ v w h => by simpa [upd] using h) (fun d E w' hk hda hS hc hf => by rintro  e3; obtain ⟨⟨cs', hB6, hC6⟩, hQ6, hF6⟩ := hS; obtain ⟨⟨s0, s1, s2, s3, s4, s5⟩, l9⟩ := bk6 hQ6; exact ⟨_, by go_simp, rfl⟩)) ?_
        refine StepsOk.cons (stepOk_pure [(0, 30)] [] rfl rfl (by kernel_rfl) (by kernel_rfl) rfl (fun _ => trivial) (fun σ v w h => by simpa [upd] using h) (fun d E w' hk hda hS hc hf => by rintro _ q0 rfl e30 ; exact ⟨_, by go_simp, rfl⟩)) ?_
        refine StepsOk.cons (stepOk_pure [(9, 39)] [] rfl rfl (by kernel_rfl) (by kernel_rfl) rfl (fun _ => trivial) (fun σ v w h => by simpa [upd] using h) (fun d E w' hk hda hS hc hf => by rintro _ q9 rfl e39 ; exact ⟨_, by go_simp, rfl⟩)) ?_
        refine StepsOk.cons (stepOk_pure [(10, 40), (2, 32)] [] rfl rfl (by kernel_rfl) (by kernel_rfl) rfl (fun _ => trivial) (fun σ v w h => by simpa [upd] using h) (fun d E w' hk hda hS hc hf => by rintro _ q10 rfl e40 _ q2 rfl e32 ; obtain ⟨⟨cs', hB6, hC6⟩, hQ6, hF6⟩ := hS; obtain ⟨⟨s0, s1, s2, s3, s4, s5⟩, l9⟩ := bk6 hQ6; exact ⟨_, by go_simp, rfl⟩)) ?_
        refine StepsOk.cons (stepOk_store [(11, 41), (7, 37)] [] rfl rfl (by kernel_rfl) (by kernel_rfl) rfl (fun d E w' hk hda hS hc hf => by rintro _ q11 rfl e41 _ q7 rfl e37 ; obtain ⟨⟨cs', hB6, hC6⟩, hQ6, hF6⟩ := hS; obtain ⟨⟨s0, s1, s2, s3, s4, s5⟩, l9⟩ := bk6 hQ6; have y0 := (hB6.cell (1 + c)).trans (hC6.lc c hcn); have y1 := hB6.frozen (1 + c); exact ⟨w'.setCell ⟨p, 1 + c, none⟩ (.int .i64 s), by go_simp, rfl, trivial, ⟨⟨_, hB6.set_ (1 + c) _, hST1 d cs' (hk 12 (by kernel_rfl)) hC6⟩, hQ6.far (p := ⟨p, 1 + c, none⟩) (Ne.symm hqg) _, hF6.setCell (p := ⟨p, 1 + c, none⟩) (.inr rfl) _⟩⟩)) ?_
        refine StepsOk.cons (stepOk_pure [(3, 33)] [] rfl rfl (by kernel_rfl) (by kernel_rfl) rfl (fun _ => trivial) (fun σ v w h => by simpa [upd] using h) (fun d E w' hk hda hS hc hf => by rintro _ q3 rfl e33 ; exact ⟨_, by go_simp, rfl⟩)) ?_
        refine StepsOk.cons (stepOk_pure [(13, 42)] [] rfl rfl (by kernel_rfl) (by kernel_rfl) rfl (fun _ => trivial) (fun σ v w h => by simpa [upd] using h) (fun d E w' hk hda hS hc hf => by rintro _ q13 rfl e42 ; exact ⟨_, by go_simp, rfl⟩)) ?_
        refine StepsOk.cons (stepOk_pure [(14, 43), (5, 35)] [] rfl rfl (by kernel_rfl) (by kernel_rfl) rfl (fun _ => trivial) (fun σ v w h => by simpa [upd] using h) (fun d E w' hk hda hS hc hf => by rintro _ q14 rfl e43 _ q5 rfl e35 ; obtain ⟨⟨cs', hB6, hC6⟩, hQ6, hF6⟩ := hS; obtain ⟨⟨s0, s1, s2, s3, s4, s5⟩, l9⟩ := bk6 hQ6; exact ⟨_, by go_simp, rfl⟩)) ?_
        refine StepsOk.cons (stepOk_store [(15, 44), (8, 38)] [] rfl rfl (by kernel_rfl) (by kernel_rfl) rfl (fun d E w' hk hda hS hc hf => by rintro _ q15 rfl e44 _ q8 rfl e38 ; obtain ⟨⟨cs', hB6, hC6⟩, hQ6, hF6⟩ := hS; obtain ⟨⟨s0, s1, s2, s3, s4, s5⟩, l9⟩ := bk6 hQ6; obtain ⟨⟨y0, y1, y2, y3, y4, y5⟩, f0, f1, f2, f3, f4, f5⟩ := hC6.six hB6 hcn; exact ⟨(((((w'.setCell ⟨p, 5 + c * 6, none⟩ (.int .i64 c)).setCell ⟨p, 5 + c * 6 + 1, none⟩ (.int .i64 s)).setCell ⟨p, 5 + c * 6 + 2, none⟩ (.int .i64 k)).setCell ⟨p, 5 + c * 6 + 3, none⟩ (.int .i64 i)).setCell ⟨p, 5 + c * 6 + 4, none⟩ (.int .i64 m)).setCell ⟨p, 5 + c * 6 + 5, none⟩ (.string dt), by go_simp, rfl, trivial, ⟨⟨_, ((((((hB6.set_ (5 + c * 6) _).set_ (5 + c * 6 + 1) _).set_ (5 + c * 6 + 2) _).set_ (5 + c * 6 + 3) _).set_ (5 + c * 6 + 4) _).set_ (5 + c * 6 + 5) _), hST2 d cs' (hk 16 (by kernel_rfl)) hC6⟩, (((((hQ6.far (p := ⟨p, 5 + c * 6, none⟩) (Ne.symm hqg) _).far (p := ⟨p, 5 + c * 6 + 1, none⟩) (Ne.symm hqg) _).far (p := ⟨p, 5 + c * 6 + 2, none⟩) (Ne.symm hqg) _).far (p := ⟨p, 5 + c * 6 + 3, none⟩) (Ne.symm hqg) _).far (p := ⟨p, 5 + c * 6 + 4, none⟩) (Ne.symm hqg) _).far (p := ⟨p, 5 + c * 6 + 5, none⟩) (Ne.symm hqg) _, hFr6 hF6⟩⟩)) ?_
        exact StepsOk.nil
      case ends =>
        intro σ9 w9 hS9 hA9
        refine Ends.eqv (some 30) (.pointer (some ⟨p, 0, none⟩)) rfl (fun _ h => h) ?_
        refine Ends.eqv (some 31) (.pointer (some ⟨b3, 0, none⟩)) rfl (fun _ h => h) ?_
        refine Ends.eqv (some 32) (.int .i64 c) rfl (fun _ h => h) ?_
        refine Ends.eqv (some 33) (.pointer (some ⟨p, 0, none⟩)) rfl (fun _ h => h) ?_
        refine Ends.eqv (some 34) (.pointer (some ⟨b3, 0, none⟩)) rfl (fun _ h => h) ?_
        refine Ends.eqv (some 35) (.int .i64 c) rfl (fun _ h => h) ?_
        refine Ends.eqv (some 36) (.pointer (some ⟨b3, 1, none⟩)) rfl (fun _ h => h) ?_
        refine Ends.eqv (some 37) (.int .i64 s) rfl (fun _ h => h) ?_
        refine Ends.eqv (some 38) (.agg #[.int .i64 c, .int .i64 s, .int .i64 k, .int .i64 i, .int .i64 m, .string dt]) rfl (fun _ h => h) ?_
        refine Ends.eqv (some 39) (.pointer (some ⟨p, 0, none⟩)) rfl (fun _ h => h) ?_
        refine Ends.eqv (some 40) (.pointer (some ⟨p, 1, none⟩)) rfl (fun _ h => h) ?_
        refine Ends.eqv (some 41) (.pointer (some ⟨p, 1 + c, none⟩)) rfl (fun _ h => h) ?_
        refine Ends.eqv none (undef) rfl (fun _ h => h) ?_
        refine Ends.eqv (some 42) (.pointer (some ⟨p, 0, none⟩)) rfl (fun _ h => h) ?_
        refine Ends.eqv (some 43) (.pointer (some ⟨p, 5, none⟩)) rfl (fun _ h => h) ?_
        refine Ends.eqv (some 44) (.pointer (some ⟨p, 5 + c * 6, none⟩)) rfl (fun _ h => h) ?_
        refine Ends.eqv none (undef) rfl (fun _ h => h) ?_
        refine Ends.nil ?_
        have hA9' := hA9
        clear hA9
        simp only [put_lit, put_none, List.set_cons_zero, List.set_cons_succ]
        obtain ⟨⟨cs7, hB9, hC9⟩, hQ9, hF9⟩ := hS9
        obtain ⟨u1, hu1⟩ := Option.isSome_iff_exists.1 (hA9' 12 (by simp))
        obtain ⟨u2, hu2⟩ := Option.isSome_iff_exists.1 (hA9' 16 (by simp))
        rw [hu1, hu2] at hC9
        clear hu1 hu2 hA9'
        clear hST1 hST2 hFr6 hB5 hQ5
        go_wp2_with fail
        have hB7 := hB9.drew
        have hQ7 := hQ9.drew
        have hF7 := hide (hF9.drew)
        obtain ⟨WD, hWDe⟩ : ∃ U, w9.drew = U := ⟨_, rfl⟩
        rw [hWDe] at hB7 hQ7 hF7
        have HC9 := hide hC9
        have bkX := hB7
        have hO7 := hide ((Fr.of_old (S := fun b => b = p) hO5.out).trans hF7.out)
        have ownX := hRR.out _ hO7.out
        have hNE := HNE.out
        have hX1 : cs7[0]? = some (.slice A n ca) := hC9.c0
        clear hC9
        have CS := hide (fun (U : World) (h : Old WD U) => (⟨(bk6 (hQ7.old h)).1, ((bkX.old h).cell 0).trans hX1⟩ : (U.cell? ⟨b3, 0, none⟩ = some (.int .i64 c) ∧ U.cell? ⟨b3, 1, none⟩ = some (.int .i64 s) ∧ U.cell? ⟨b3, 2, none⟩ = some (.int .i64 k) ∧ U.cell? ⟨b3, 3, none⟩ = some (.int .i64 i) ∧ U.cell? ⟨b3, 4, none⟩ = some (.int .i64 m) ∧ U.cell? ⟨b3, 5, none⟩ = some (.string dt)) ∧ U.cell? ⟨p, 0, none⟩ = some (.slice A n ca)))
        obtain ⟨Fin, hFin⟩ : ∃ F : World → Prop, F = fun U => ∃ A2 c2, Bk U p 52 (cs7.setIfInBounds 0 (.slice A2 (n + 1) c2)) ∧ U.ownsRow 0 45 14 (.slice A2 (n + 1) c2) (n + 1) (l.flatMap ActV.cells ++ [.int .i64 c, .int .i64 s, .bool false, .int .i64 c, .int .i64 s, .int .i64 k, .int .i64 i, .int .i64 m, .string dt, .int .i64 0, .int .i64 0, .string { data := #[] }, .slice none 0 0, .int .i64 0]) ∧
          Fr (fun b => b = p ∨ (Value.slice A n ca).ownBlock = some b) WD U ∧ (∀ b, (Value.slice A2 (n + 1) c2).ownBlock = some b → (Value.slice A n ca).ownBlock = some b ∨ WD.heap.size ≤ b) := ⟨_, rfl⟩
        have hAPP := fun (A2 : Option Addr) (c2 : Nat) (W2 : World) (h2 : Apps (WD.alloc (.cells #[.int .i64 c, .int .i64 s, .bool false, .int .i64 c, .int .i64 s, .int .i64 k, .int .i64 i, .int .i64 m, .string dt, .int .i64 0, .int .i64 0, .string { data := #[] }, .slice none 0 0, .int .i64 0] 45)) 0 45 14 (.slice A n ca) (n + 1) (l.flatMap ActV.cells ++ [.int .i64 c, .int .i64 s, .bool false, .int .i64 c, .int .i64 s, .int .i64 k, .int .i64 i, .int .i64 m, .string dt, .int .i64 0, .int .i64 0, .string { data := #[] }, .slice none 0 0, .int .i64 0]) (.slice A2 (n + 1) c2) W2) => (by
          obtain ⟨a1, a2, a3, a4⟩ := bk_app (off := 0) bkX ownX hNE ((Old.refl' WD).alloc' _) h2
          rw [hFin]
          exact ⟨A2, c2, a1, a2, a3, a4⟩ : Fin (W2.setCell ⟨p, 0, none⟩ (.slice A2 (n + 1) c2)))
        clear hB7 hQ7 hB9 hQ9 hF9
        refine region_steps (R := pick [eqv (.pointer (some ⟨p, 0, none⟩)), eqv (.pointer (some ⟨p, 0, none⟩)), eqv (.pointer (some ⟨p, 0, none⟩)), eqv (.pointer (some ⟨p, 0, none⟩)), eqv (.slice A n ca), eqv (.pointer (some ⟨b3, 0, none⟩)), eqv (.int .i64 c), eqv (.pointer (some ⟨b3, 1, none⟩)), eqv (.int .i64 s), eqv (.agg #[.int .i64 c, .int .i64 s, .int .i64 k, .int .i64 i, .int .i64 m, .string dt]), eqv (.agg #[.int .i64 c, .int .i64 s, .bool false, .int .i64 c, .int .i64 s, .int .i64 k, .int .i64 i, .int .i64 m, .string dt, .int .i64 0, .int .i64 0, .string { data := #[] }, .slice none 0 0, .int .i64 0]), eqv (.slice (some ⟨WD.heap.size, 0, none⟩) 1 1), fun v w' => ∃ A2 c2, v = .slice A2 (n + 1) c2, eqv (.pointer (some ⟨p, 0, none⟩)), eqv (.pointer (some ⟨p, 0, none⟩)), eqv (undef)]) (S := fun σ w' => (σ 15 ≠ none → Fin w') ∧ (σ 15 = none → σ 12 ≠ none → ∃ A2 c2, σ 12 = some (.slice A2 (n + 1) c2) ∧ Apps (WD.alloc (.cells #[.int .i64 c, .int .i64 s, .bool false, .int .i64 c, .int .i64 s, .int .i64 k, .int .i64 i, .int .i64 m, .string dt, .int .i64 0, .int .i64 0, .string { data := #[] }, .slice none 0 0, .int .i64 0] 45)) 0 45 14 (.slice A n ca) (n + 1) ((l.flatMap ActV.cells) ++ [.int .i64 c, .int .i64 s, .bool false, .int .i64 c, .int .i64 s, .int .i64 k, .int .i64 i, .int .i64 m, .string dt, .int .i64 0, .int .i64 0, .string { data := #[] }, .slice none 0 0, .int .i64 0]) (.slice A2 (n + 1) c2) w') ∧ (σ 15 = none → σ 12 = none → σ 11 ≠ none → w' = (WD.alloc (.cells #[.int .i64 c, .int .i64 s, .bool false, .int .i64 c, .int .i64 s, .int .i64 k, .int .i64 i, .int .i64 m, .string dt, .int .i64 0, .int .i64 0, .string { data := #[] }, .slice none 0 0, .int .i64 0] 45))) ∧ (σ 15 = none → σ 12 = none → σ 11 = none → w' = WD)) (T := (fun _ _ => True)) (by kernel_rfl) (by kernel_rfl) (by kernel_rfl) (Stab.pick (Stab.eqv (Stab.eqv (Stab.eqv (Stab.eqv (Stab.eqv (Stab.eqv (Stab.eqv (Stab.eqv (Stab.eqv (Stab.eqv (Stab.eqv (Stab.eqv (Stab.cons (fun _ _ _ _ h => h) (Stab.eqv (Stab.eqv (Stab.eqv (Stab.nil)))))))))))))))))) (⟨fun h => absurd rfl h, fun _ h => absurd rfl h, fun _ _ h => absurd rfl h, fun _ _ _ => hWDe⟩) ?steps ?ends
        case steps =>
          refine StepsOk.cons (stepOk_pure [] [(0, .pointer (some ⟨p, 0, none⟩))] rfl rfl (by kernel_rfl) (by kernel_rfl) rfl (fun _ => trivial) (fun σ v w h => by simpa [upd] using h) (fun d E w' hk hda hS hc hf => by rintro  e0; exact ⟨_, by go_simp, rfl⟩)) ?_
          refine StepsOk.cons (stepOk_pure [] [(0, .pointer (some ⟨p, 0, none⟩))] rfl rfl (by kernel_rfl) (by kernel_rfl) rfl (fun _ => trivial) (fun σ v w h => by simpa [upd] using h) (fun d E w' hk hda hS hc hf => by rintro  e0; exact ⟨_, by go_simp, rfl⟩)) ?_
          refine StepsOk.cons (stepOk_pure [(1, 46)] [] rfl rfl (by kernel_rfl) (by kernel_rfl) rfl (fun _ => trivial) (fun σ v w h => by simpa [upd] using h) (fun d E w' hk hda hS hc hf => by rintro _ q1 rfl e46 ; exact ⟨_, by go_simp, rfl⟩)) ?_
          refine StepsOk.cons (stepOk_pure [(2, 47)] [] rfl rfl (by kernel_rfl) (by kernel_rfl) rfl (fun _ => trivial) (fun σ v w h => by simpa [upd] using h) (fun d E w' hk hda hS hc hf => by rintro _ q2 rfl e47 ; exact ⟨_, by go_simp, rfl⟩)) ?_
          refine StepsOk.cons (stepOk_pure [(3, 48)] [] rfl rfl (by kernel_rfl) (by kernel_rfl) rfl (fun _ => trivial) (fun σ v w h => by simpa [upd] using h) (fun d E w' hk hda hS hc hf => by rintro _ q3 rfl e48 ; obtain ⟨⟨s0, s1, s2, s3, s4, s5⟩, t1⟩ := CS.out w' ((Classical.em (d 11 = none)).elim (fun h13 => by rw [hS.2.2.2 (hk 15 (by kernel_rfl)) (hk 12 (by kernel_rfl)) h13]; exact Old.refl' _) (fun h13 => by rw [hS.2.2.1 (hk 15 (by kernel_rfl)) (hk 12 (by kernel_rfl)) h13]; exact (Old.refl' _).alloc' _)); exact ⟨_, by go_simp, rfl⟩)) ?_
          refine StepsOk.cons (stepOk_pure [] [(3, .pointer (some ⟨b3, 0, none⟩))] rfl rfl (by kernel_rfl) (by kernel_rfl) rfl (fun _ => trivial) (fun σ v w h => by simpa [upd] using h) (fun d E w' hk hda hS hc hf => by rintro  e3; exact ⟨_, by go_simp, rfl⟩)) ?_
          refine StepsOk.cons (stepOk_pure [(5, 50)] [] rfl rfl (by kernel_rfl) (by kernel_rfl) rfl (fun _ => trivial) (fun σ v w h => by simpa [upd] using h) (fun d E w' hk hda hS hc hf => by rintro _ q5 rfl e50 ; obtain ⟨⟨s0, s1, s2, s3, s4, s5⟩, t1⟩ := CS.out w' ((Classical.em (d 11 = none)).elim (fun h13 => by rw [hS.2.2.2 (hk 15 (by kernel_rfl)) (hk 12 (by kernel_rfl)) h13]; exact Old.refl' _) (fun h13 => by rw [hS.2.2.1 (hk 15 (by kernel_rfl)) (hk 12 (by kernel_rfl)) h13]; exact (Old.refl' _).alloc' _)); exact ⟨_, by go_simp, rfl⟩)) ?_
          refine StepsOk.cons (stepOk_pure [] [(3, .pointer (some ⟨b3, 0, none⟩))] rfl rfl (by kernel_rfl) (by kernel_rfl) rfl (fun _ => trivial) (fun σ v w h => by simpa [upd] using h) (fun d E w' hk hda hS hc hf => by rintro  e3; exact ⟨_, by go_simp, rfl⟩)) ?_
          refine StepsOk.cons (stepOk_pure [(7, 52)] [] rfl rfl (by kernel_rfl) (by kernel_rfl) rfl (fun _ => trivial) (fun σ v w h => by simpa [upd] using h) (fun d E w' hk hda hS hc hf => by rintro _ q7 rfl e52 ; obtain ⟨⟨s0, s1, s2, s3, s4, s5⟩, t1⟩ := CS.out w' ((Classical.em (d 11 = none)).elim (fun h13 => by rw [hS.2.2.2 (hk 15 (by kernel_rfl)) (hk 12 (by kernel_rfl)) h13]; exact Old.refl' _) (fun h13 => by rw [hS.2.2.1 (hk 15 (by kernel_rfl)) (hk 12 (by kernel_rfl)) h13]; exact (Old.refl' _).alloc' _)); exact ⟨_, by go_simp, rfl⟩)) ?_
          refine StepsOk.cons (stepOk_pure [] [(3, .pointer (some ⟨b3, 0, none⟩))] rfl rfl (by kernel_rfl) (by kernel_rfl) rfl (fun _ => trivial) (fun σ v w h => by simpa [upd] using h) (fun d E w' hk hda hS hc hf => by rintro  e3; obtain ⟨⟨s0, s1, s2, s3, s4, s5⟩, t1⟩ := CS.out w' ((Classical.em (d 11 = none)).elim (fun h13 => by rw [hS.2.2.2 (hk 15 (by kernel_rfl)) (hk 12 (by kernel_rfl)) h13]; exact Old.refl' _) (fun h13 => by rw [hS.2.2.1 (hk 15 (by kernel_rfl)) (hk 12 (by kernel_rfl)) h13]; exact (Old.refl' _).alloc' _)); exact ⟨_, by go_simp, rfl⟩)) ?_
          refine StepsOk.cons (stepOk_pure [(6, 51), (8, 53), (9, 54)] [] rfl rfl (by kernel_rfl) (by kernel_rfl) rfl (fun _ => trivial) (fun σ v w h => by simpa [upd] using h) (fun d E w' hk hda hS hc hf => by rintro _ q6 rfl e51 _ q8 rfl e53 _ q9 rfl e54 ; exact ⟨_, by go_simp, rfl⟩)) ?_
          refine StepsOk.cons (stepOk_mk [(10, 55)] [] rfl rfl (by kernel_rfl) (by kernel_rfl) rfl ?_) ?_
          · rintro d a w' hk hda hS _ q10 rfl e55 
            first | refine Given.nil (Known.nil ?_) | refine Known.nil ?_
            obtain rfl := (hS.2.2.2 (hk 15 (by kernel_rfl)) (hk 12 (by kernel_rfl)) (hk 11 (by kernel_rfl))).symm
            refine wp_runv (w' := (WD.alloc (.cells #[.int .i64 c, .int .i64 s, .bool false, .int .i64 c, .int .i64 s, .int .i64 k, .int .i64 i, .int .i64 m, .string dt, .int .i64 0, .int .i64 0, .string { data := #[] }, .slice none 0 0, .int .i64 0] 45))) (.slice (some ⟨WD.heap.size, 0, none⟩) 1 1) (by revert e55; generalize a.eval = E; intro e55; go_simp) ⟨_, rfl, rfl, trivial, ?_⟩
            exact ⟨fun h => absurd (hk 15 (by kernel_rfl)) (by simpa [upd] using h), fun _ h => absurd (hk 12 (by kernel_rfl)) (by simpa [upd] using h), fun _ _ _ => rfl, fun _ _ h => by simp [upd] at h⟩
          refine StepsOk.cons (stepOk_mk [(4, 49), (11, 56)] [] rfl rfl (by kernel_rfl) (by kernel_rfl) rfl ?_) ?_
          · rintro d a w' hk hda hS _ q4 rfl e49 _ q11 rfl e56 
            first | refine Given.nil (Known.nil ?_) | refine Known.nil ?_
            obtain rfl := hS.2.2.1 (hk 15 (by kernel_rfl)) (hk 12 (by kernel_rfl)) (by rw [q11]; simp)
            refine wp_app _ (.tmp 49) (.tmp 56) 28 rfl 0 45 j0 (.agg #[.int .i64 0, .int .i64 0, .bool false, .int .i64 0, .int .i64 0, .int .i64 0, .int .i64 0, .int .i64 0, .string { data := #[] }, .int .i64 0, .int .i64 0, .string { data := #[] }, .slice none 0 0, .int .i64 0]) 14 144 Try.underlying28 hj0 hj00 hj01 hj02 rfl (by decide) (.slice A n ca) n ((l.flatMap ActV.cells)) e49 (ownX.alloc _) (some ⟨WD.heap.size, 0, none⟩) 1 1 [.int .i64 c, .int .i64 s, .bool false, .int .i64 c, .int .i64 s, .int .i64 k, .int .i64 i, .int .i64 m, .string dt, .int .i64 0, .int .i64 0, .string { data := #[] }, .slice none 0 0, .int .i64 0] e56 rfl (cells_bk (Bk.new WD 45 #[.int .i64 c, .int .i64 s, .bool false, .int .i64 c, .int .i64 s, .int .i64 k, .int .i64 i, .int .i64 m, .string dt, .int .i64 0, .int .i64 0, .string { data := #[] }, .slice none 0 0, .int .i64 0])) (by simp [Value.oneCell']) (by unfold maxLen; omega) (by omega) (Nat.zero_le _) (n + 1) rfl _ rfl ?_
            intro A2 c2 W2 h2
            exact ⟨_, rfl, ⟨A2, c2, rfl⟩, trivial, fun h => absurd (hk 15 (by kernel_rfl)) (by simpa [upd] using h), fun _ _ => ⟨A2, c2, by simp [upd], h2⟩, fun _ h => by simp [upd] at h, fun _ h => by simp [upd] at h⟩
          refine StepsOk.cons (stepOk_pure [(0, 45)] [] rfl rfl (by kernel_rfl) (by kernel_rfl) rfl (fun _ => trivial) (fun σ v w h => by simpa [upd] using h) (fun d E w' hk hda hS hc hf => by rintro _ q0 rfl e45 ; exact ⟨_, by go_simp, rfl⟩)) ?_
          refine StepsOk.cons (stepOk_pure [(13, 58)] [] rfl rfl (by kernel_rfl) (by kernel_rfl) rfl (fun _ => trivial) (fun σ v w h => by simpa [upd] using h) (fun d E w' hk hda hS hc hf => by rintro _ q13 rfl e58 ; exact ⟨_, by go_simp, rfl⟩)) ?_
          refine StepsOk.cons (stepOk_store [(14, 59), (12, 57)] [] rfl rfl (by kernel_rfl) (by kernel_rfl) rfl (fun d E w' hk hda hS hc hf => by rintro _ q14 rfl e59 _ q12 ⟨A2, c2, rfl⟩ e57 ; obtain ⟨A3, c3, e14, h2⟩ := hS.2.1 (hk 15 (by kernel_rfl)) (by rw [q12]; simp); rw [q12] at e14; injection e14 with e14; injection e14 with e14a _ e14b; subst e14a e14b; have hG2 := h2.bk (bkX.alloc _) hNE; have y0 := (hG2.cell 0).trans hX1; have y1 := hG2.frozen 0; exact ⟨w'.setCell ⟨p, 0, none⟩ (.slice A2 (n + 1) c2), by go_simp, rfl, trivial, ⟨fun _ => hAPP _ _ _ h2, fun h => by simp [upd] at h, fun h => by simp [upd] at h, fun h => by simp [upd] at h⟩⟩)) ?_
          exact StepsOk.nil
        case ends =>
          intro σ9 w9 hS9 hA9
          refine Ends.eqv (some 45) (.pointer (some ⟨p, 0, none⟩)) rfl (fun _ h => h) ?_
          refine Ends.eqv (some 46) (.pointer (some ⟨p, 0, none⟩)) rfl (fun _ h => h) ?_
          refine Ends.eqv (some 47) (.pointer (some ⟨p, 0, none⟩)) rfl (fun _ h => h) ?_
          refine Ends.eqv (some 48) (.pointer (some ⟨p, 0, none⟩)) rfl (fun _ h => h) ?_
          refine Ends.eqv (some 49) (.slice A n ca) rfl (fun _ h => h) ?_
          refine Ends.eqv (some 50) (.pointer (some ⟨b3, 0, none⟩)) rfl (fun _ h => h) ?_
          refine Ends.eqv (some 51) (.int .i64 c) rfl (fun _ h => h) ?_
          refine Ends.eqv (some 52) (.pointer (some ⟨b3, 1, none⟩)) rfl (fun _ h => h) ?_
          refine Ends.eqv (some 53) (.int .i64 s) rfl (fun _ h => h) ?_
          refine Ends.eqv (some 54) (.agg #[.int .i64 c, .int .i64 s, .int .i64 k, .int .i64 i, .int .i64 m, .string dt]) rfl (fun _ h => h) ?_
          refine Ends.eqv (some 55) (.agg #[.int .i64 c, .int .i64 s, .bool false, .int .i64 c, .int .i64 s, .int .i64 k, .int .i64 i, .int .i64 m, .string dt, .int .i64 0, .int .i64 0, .string { data := #[] }, .slice none 0 0, .int .i64 0]) rfl (fun _ h => h) ?_
          refine Ends.eqv (some 56) (.slice (some ⟨WD.heap.size, 0, none⟩) 1 1) rfl (fun _ h => h) ?_
          refine Ends.ex (some 57) rfl ?_
          rintro _ p12 ⟨A2, c2, rfl⟩
          refine Ends.eqv (some 58) (.pointer (some ⟨p, 0, none⟩)) rfl (fun _ h => h) ?_
          refine Ends.eqv (some 59) (.pointer (some ⟨p, 0, none⟩)) rfl (fun _ h => h) ?_
          refine Ends.eqv none (undef) rfl (fun _ h => h) ?_
          refine Ends.nil ?_
          have hA9' := hA9
          clear hA9
          simp only [put_lit, put_none, List.set_cons_zero, List.set_cons_succ]
          have hfin := hS9.1 (by have := hA9' 15 (by simp); intro e; rw [e] at this; simp at this)
          clear hS9 hA9'
          rw [hFin] at hfin
          obtain ⟨A2, c2, hB8, hR8, hF8, hV8⟩ := hfin
          clear CS hAPP bkX ownX hNE hFin hWDe hX1
          have hfr : Fr F w w9 := (hO7.out.mono (fun b _ hb => by rw [show b = p from hb]; exact HGF.out)).trans' hF8 (fun b _ hb => by rcases hb with hb | hb; exact hb ▸ HGF.out; exact HV.out b hb)
          have hFR := hide hfr
          have hs7 := hO7.out.size
          have hfin := hide (show ∃ F', PdAt w9 p F' (st.asked ⟨c, s, k, i, m, dt⟩) (l ++ [askAct ⟨c, s, k, i, m, dt⟩]) ∧ ∀ b, F' b → F b ∨ w.heap.size ≤ b from by
            refine ⟨fun b => (F b ∨ (w.heap.size ≤ b ∧ (Value.slice A2 (n + 1) c2).ownBlock = some b)), ⟨⟨_, _, hB8, by rw [List.length_append, HN.out, List.flatMap_append]; exact hR8, ⟨(HC9.out.set0 (.slice A2 (n + 1) c2)).c0, (HC9.out.set0 (.slice A2 (n + 1) c2)).lc, (HC9.out.set0 (.slice A2 (n + 1) c2)).wc⟩, fun b hb => ?_⟩, .inl HGF.out, fun b hb => ?_, fun x hx => ?_, fun x r hr => ?_, fun a ha => ?_⟩, fun b hb => ?_⟩
            · rcases hV8 b hb with hb' | hb'
              · exact .inl (HV.out b hb')
              · exact .inr ⟨by omega, hb⟩
            · rcases hb with hb | ⟨-, hb⟩
              · exact Nat.lt_of_lt_of_le (HLT.out b hb) hfr.size
              · exact own_lt8 hR8 hb
            · show (if x = (c : Int) then some _ else st.wait x) = none
              rw [if_neg (by omega)]
              exact HWN.out x hx
            · have hr' : (if x = (c : Int) then some (⟨c, s, k, i, m, dt⟩ : ReqV) else st.wait x) = some r := hr
              split at hr'
              · injection hr' with hr'; subst hr'; exact HS1.out
              · exact HWP.out x r hr'
            · rcases List.mem_append.1 ha with ha | ha
              · have hv := HVS.out a ha
                refine ⟨CellsAt.fr hv.1 hfr (fun hne x hx => hv.2 (fun e => hne (by rw [e]; rfl)) x hx), fun hne x hx hb => ?_⟩
                rcases hb with hb | ⟨hb, -⟩
                · exact hv.2 hne x hx hb
                · have : x.block < w.heap.size := by
                    obtain ⟨b', o', e1, e2, -⟩ := hv.1 (by simpa using hne)
                    rw [e1] at hx; injection hx with hx; rw [← hx]; exact e2
                  omega
              · rw [List.mem_singleton.1 ha]
                exact ⟨CellsAt.nil _ _, fun hne => absurd rfl hne⟩
            · rcases hb with hb | ⟨hb, -⟩
              · exact .inl hb
              · exact .inr hb)
          clear hB8 hR8 hF8 hV8 hfr
          go_wp2_with fail
          go_ret
          exact ⟨rfl, hfin.out, hFR.out⟩
/-- Ask, whatever is asked -/
theorem DAsk_at (p : Nat) (F : Nat → Prop) (st : PV) (l : List ActV) (n : Nat) (hn : l.length = n) (hfew : n ≤ 50000) (q : ReqV) (E : Int) (hE : st.askE q = E) (s' : PV) (hs' : st.ask q = s') (w : World) (h : PdAt w p F st l) :
    Calls Try.prog 19 #[.pointer (some ⟨p, 0, none⟩), .agg #[.int .i64 q.client, .int .i64 q.seq, .int .i64 q.kind, .int .i64 q.id, .int .i64 q.mat, .string q.data]] w fun e w' => e = .returned (.int .i64 E) ∧ (∃ F', PdAt w' p F' s' (if E = 0 then l ++ [askAct q] else l) ∧ ∀ b, F' b → F b ∨ w.heap.size ≤ b) ∧ Fr F w w' := by
  subst hE hs'
  by_cases hq : q.q.may = true
  · cases hw : st.wait q.client with
    | some r =>
      have e : st.askE q = 4 := by unfold PV.askE; rw [if_pos hq, hw]; rfl
      have e2 : st.ask q = st := by unfold PV.ask; rw [e]; rfl
      rw [e, e2]
      exact (DAsk_state p F st l q hq r hw w h).mono fun e w' ⟨he, hb⟩ => ⟨he, ⟨F, h.old hb, fun b hb => .inl hb⟩, Fr.of_old hb⟩
    | none =>
      by_cases hs : st.last q.client < q.seq
      · have e : st.askE q = 0 := by unfold PV.askE; rw [if_pos hq, hw, if_neg (by simp), if_pos hs]
        have e2 : st.ask q = st.asked q := by unfold PV.ask; rw [if_pos e]
        rw [e, e2]
        exact (DAsk_done p F st l n hn hfew q hq hw hs w h).mono fun e w' ⟨he, h1, h2⟩ => ⟨he, h1, h2⟩
      · have e : st.askE q = 9 := by unfold PV.askE; rw [if_pos hq, hw, if_neg (by simp), if_neg hs]
        have e2 : st.ask q = st := by unfold PV.ask; rw [e]; rfl
        rw [e, e2]
        exact (DAsk_order p F st l q hq hw hs w h).mono fun e w' ⟨he, hb⟩ => ⟨he, ⟨F, h.old hb, fun b hb => .inl hb⟩, Fr.of_old hb⟩
  · have e : st.askE q = 1 := by unfold PV.askE; rw [if_neg hq]
    have e2 : st.ask q = st := by unfold PV.ask; rw [e]; rfl
    rw [e, e2]
    exact (DAsk_arg p q (by simpa using hq) w).mono fun e w' ⟨he, hb⟩ => ⟨he, ⟨F, h.old hb, fun b hb => .inl hb⟩, Fr.of_old hb⟩
end Go.Proofs.Ytffahoocbjfdaaa
