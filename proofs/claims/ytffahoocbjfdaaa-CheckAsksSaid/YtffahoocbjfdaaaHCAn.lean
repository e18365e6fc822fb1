/- check.answers, the iterator that it returns. -/
import Derived.RangeFuncBox
import Derived.Test.YtffahoocbjfdaaaHRgW
import Derived.Test.YtffahoocbjfdaaaHCRt
namespace Go.Proofs.Ytffahoocbjfdaaa
open Go.RowKit Go.Shelf
attribute [local go_sem] Oper.semAt_some
def ansL (l : List ActV) (k : Nat) : List (Nat × Int × Int) := ((List.range k).filter fun i => (l[i]?.getD default).ans).map fun i => (i, (plSt (l.take i)).asked (l[i]?.getD default).client, (plSt (l.take i)).at_ (l[i]?.getD default))
theorem ansL_ask {l : List ActV} {k : Nat} {x : ActV} (hk : k < l.length) (hx : l[k] = x) (ha : x.ans = false) : ansL l (k + 1) = ansL l k := by
  unfold ansL
  rw [List.range_succ, List.filter_append, List.map_append]
  simp [List.getElem?_eq_getElem hk, hx, ha]
theorem ansL_ans {l : List ActV} {k : Nat} {x : ActV} (hk : k < l.length) (hx : l[k] = x) (ha : x.ans = true) : ansL l (k + 1) = ansL l k ++ [(k, (plSt (l.take k)).asked x.client, (plSt (l.take k)).at_ x)] := by
  unfold ansL
  rw [List.range_succ, List.filter_append, List.map_append]
  simp [List.getElem?_eq_getElem hk, hx, ha]
theorem ansL_mem {l : List ActV} {n k : Nat} {x : ActV} (hn : k < n) (hx : ∀ {h}, l[k]'h = x) (ha : x.ans = true) (hk : k < l.length) : (k, (plSt (l.take k)).asked x.client, (plSt (l.take k)).at_ x) ∈ ansL l n := by
  unfold ansL
  rw [List.mem_map]
  have e : l[k]?.getD default = x := by rw [List.getElem?_eq_getElem hk]; exact hx
  exact ⟨k, by rw [List.mem_filter]; exact ⟨by simpa using hn, by rw [e]; exact ha⟩, by rw [e]⟩
theorem ansL_of {l : List ActV} {n : Nat} {y : Nat × Int × Int} (h : y ∈ ansL l n) : ∃ x, l[y.1]?.getD default = x ∧ y.1 < n ∧ x.ans = true ∧ y.2.1 = (plSt (l.take y.1)).asked x.client ∧ y.2.2 = (plSt (l.take y.1)).at_ x := by
  unfold ansL at h
  rw [List.mem_map] at h
  obtain ⟨i, hi, rfl⟩ := h
  rw [List.mem_filter] at hi
  exact ⟨_, rfl, by simpa using hi.1, hi.2, rfl, rfl⟩
theorem ansL_length (l : List ActV) (k : Nat) : (ansL l k).length ≤ k := by
  unfold ansL
  rw [List.length_map]
  exact Nat.le_trans (List.length_filter_le _ _) (by simp)
abbrev encA (x : Nat × Int × Int) : Array Value := #[.int .i64 (x.1 : Int), .agg #[.int .i64 x.2.1, .int .i64 x.2.2]]
structure Kq (n₀ : Nat) (S : Nat → Prop) (W W' : World) : Prop where
  b : Below n₀ W W'
  o : ∀ b o, ¬ S b → W.heap[b]? = some o → o.isCells = true → W'.heap[b]? = some o
section
variable {n₀ : Nat} {S : Nat → Prop} {A B C : World}
theorem Kq.refl (n₀ : Nat) (S : Nat → Prop) (W : World) : Kq n₀ S W W := ⟨Below.refl _ _, fun _ _ _ h _ => h⟩
theorem Kq.t (h : Kq n₀ S A B) (k : Kq n₀ S B C) : Kq n₀ S A C := ⟨h.b.trans k.b, fun b o hs ho hc => k.o b o hs (h.o b o hs ho hc) hc⟩
theorem Kq.bk {b : Nat} {t : TypeId} {cs : Array Value} (h : Kq n₀ S A B) (hs : ¬ S b) (hb : Bk A b t cs) : Bk B b t cs := h.o b _ hs hb rfl
theorem Kq.cell (h : Kq n₀ S A B) {a : Addr} {v : Value} (hs : ¬ S a.block) (hc : A.cell? a = some v) : B.cell? a = some v := by
  obtain ⟨o, ho, hoc⟩ := cells_of_cell hc
  have h2 := h.o _ _ hs ho hoc
  unfold World.cell? at hc ⊢
  rw [ho] at hc
  rw [h2]
  exact hc
theorem Kq.grown {row : Option Nat} (hn : n₀ ≤ A.heap.size) (h : Kq n₀ S A B) (hg : B.grownBy C row) (hr : ∀ r, row = some r → A.heap.size ≤ r ∧ n₀ ≤ r) : Kq n₀ S A C :=
  ⟨h.b.trans ⟨hg.os, hg.tape, hg.output, hg.size, fun k hk => hg.block k (by have := h.b.size; omega) (fun e => by have := (hr k e.symm).2; omega)⟩, fun b o hs ho hc => by
    have h1 := h.o b o hs ho hc
    have h2 := (Array.getElem?_eq_some_iff.1 ho).1
    exact (hg.block b (Array.getElem?_eq_some_iff.1 h1).1 (fun e => by have := (hr b e.symm).1; omega)).trans h1⟩
theorem Kq.putb {w : World} (hn : n₀ ≤ w.heap.size) (W : World) (l : Nat) (o o' : Obj) (hl : w.heap.size ≤ l) (h : W.heap[l]? = some o) (hc : o.isCells = false) : Kq n₀ S W (W.putObj l o') :=
  ⟨⟨rfl, rfl, rfl, by simp, fun k hk => World.putObj_heap_other (by omega)⟩, fun b x _ hx hxc => by
    by_cases e : b = l
    · subst e; rw [h] at hx; cases hx; rw [hc] at hxc; cases hxc
    · exact (World.putObj_heap_other e).trans hx⟩
end
theorem grown_drew (A : World) : A.grownBy A.drew none := ⟨rfl, rfl, rfl, Nat.le_refl _, fun _ _ _ => rfl⟩
theorem grownBy_setCellA (A : World) (p : Addr) (v : Value) : A.grownBy (A.setCell p v) (some p.block) := ⟨rfl, rfl, rfl, by simp [World.setCell], fun k _ hk => Below.heap_setCell A p v k (fun e => hk (by rw [e]))⟩
theorem uponIn_val {n : Nat} {P : Program} {Q : Exit → Act → World → Prop} {K : Act → World → Prop} {o : Oper} {a : Act} {w : World} (u : Value) (hr : (execOp a.eval o).run P w = .ok (.value u) w) (h : K (a.put o.dst u) w) : Oper.wpIn Fence.wide n P o a w K Q := by
  refine ⟨fun _ _ => trivial, ?_⟩
  show Oper.uponIn Fence.wide n P o a K Q ((execOp a.eval o).run P w)
  rw [hr]
  exact h
theorem uponIn_yield {n : Nat} {P : Program} {Q : Exit → Act → World → Prop} {K : Act → World → Prop} {o : Oper} {a : Act} {w : World} {l : Nat} {fn : FuncId} {tmps : Array Value} {assign body : Code} {R : Ending → World → Prop}
    (hr : (execOp a.eval o).run P w = .ok (.round l fn tmps assign body) w) (h : RoundIn Fence.wide (n - 1) P l fn tmps assign body w R) (hk : ∀ e W', R e W' → ∃ b, e = .returned (.bool b) ∧ K (a.put o.dst (.bool b)) W') : Oper.wpIn Fence.wide n P o a w K Q := by
  refine ⟨fun _ _ => trivial, ?_⟩
  show Oper.uponIn Fence.wide n P o a K Q ((execOp a.eval o).run P w)
  rw [hr]
  refine ⟨fun e => by simp [Fence.wide] at e, h.mono ?_⟩
  intro e W' hR
  obtain ⟨b, rfl, hK⟩ := hk e W' hR
  exact hK
set_option maxRecDepth 100000 in
set_option maxHeartbeats 4000000 in
theorem ans1_in (m : Nat) (hm : 2 ≤ m) (lY B1 B2 n₀ : Nat) (S : Nat → Prop) (A Ap : Option Addr) (n ca cp : Nat) (l : List ActV) (hl : n = l.length) (hok : Few23 l) (hmay : mayP l = true) (J Jx : List (Nat × Int × Int) → World → Prop)
    (W : World) (hn0 : n₀ ≤ W.heap.size) (hSz : ∀ b, S b → b < W.heap.size) (hJ : OwnW W.heap.size J)
    (hY : ∀ pre x W1, x ∈ ansL l n → J pre W1 → pre.length < n → YieldAt Fence.wide (m - 1) Try.prog lY (encA x) W1 fun e W' =>
      (e = .returned (.bool true) ∧ J (pre ++ [x]) W' ∧ Kq n₀ S W1 W') ∨ (e = .returned (.bool false) ∧ Jx (pre ++ [x]) W'))
    (hB1 : W.cell? ⟨B1, 0, none⟩ = some (.slice A n ca)) (hB2 : W.cell? ⟨B2, 0, none⟩ = some (.slice Ap n cp)) (hS1 : ¬ S B1) (hS2 : ¬ S B2) (hA : ActsAt W A l) (hP : IntsAt W Ap (plOutN l n)) (hSA : 0 < n → ∀ a, A = some a → ¬ S a.block) (hSP : ∀ a, Ap = some a → ¬ S a.block) (h0 : J [] W) :
    CallsIn Fence.wide m Try.prog 40 #[.func (.yield lY) #[] #[], .pointer (some ⟨B1, 0, none⟩), .pointer (some ⟨B2, 0, none⟩)] W fun e W' => (∃ v, e = .returned v) ∧
      ((∃ ys, ys = ansL l n ∧ J ys W') ∨ (∃ pre, (∃ k, k ≤ n ∧ pre = ansL l k) ∧ Jx pre W')) := by
  have HL := hide hl
  have HMAY := hide hmay
  have hn : n ≤ 1000 := by have := hok.n; omega
  clear hl hok hmay
  refine callsIn_of_wp Try.func40 rfl trivial ?_ rfl
  simp only [Try.ntmps40, List.size_toArray, List.length_cons, List.length_nil, Nat.reduceAdd, Nat.reduceSub, Array.replicate_succ, Array.replicate_zero, List.push_toArray, List.append_toArray, List.nil_append, List.cons_append]
  obtain ⟨W0, hW0⟩ : ∃ X, W.alloc (.cells #[.int .i64 0, .int .i64 0, .int .i64 0, .int .i64 0] 49) = X := ⟨_, rfl⟩
  obtain ⟨pq, hpq⟩ : ∃ x, W.heap.size = x := ⟨_, rfl⟩
  have kb0 : Bk W0 pq 49 #[.int .i64 0, .int .i64 0, .int .i64 0, .int .i64 0] := by rw [← hW0, ← hpq]; exact Bk.new W 49 _
  have kq0 : Kq n₀ S W W0 := by rw [← hW0]; exact Kq.grown hn0 (Kq.refl n₀ S W) (grown_alloc W _) (fun r e => by cases e)
  have j0 : J [] W0 := by rw [← hW0]; exact hJ.alloc _ h0
  have hSq : ¬ S pq := fun h => by have := hSz _ h; omega
  have b1 := kq0.cell (a := ⟨B1, 0, none⟩) hS1 hB1
  gi_wp2
  gi_loopw [9] (fun iv wr => ∃ k : Nat, k ≤ n ∧ iv = .int .i64 k ∧ J (ansL l k) wr ∧ Kq n₀ S W wr ∧
      Bk wr pq 49 #[.int .i64 ((plSt (l.take k)).asked 0), .int .i64 ((plSt (l.take k)).asked 1), .int .i64 ((plSt (l.take k)).asked 2), .int .i64 ((plSt (l.take k)).asked 3)]) (fun iv _ => n - (intOf iv).toNat)
  case atStart => exact ⟨0, by omega, rfl, j0, kq0, kb0⟩
  case round =>
    obtain ⟨k, hk, rfl, hJs, hnx, kb⟩ := hrel
    clear j0 kq0 kb0 b1
    obtain ⟨st, hst⟩ : ∃ s, plSt (l.take k) = s := ⟨_, rfl⟩
    rw [hst] at kb
    have HST := hide hst
    clear hst
    by_cases hlt : k < n
    · have hkq : k < l.length := by have := HL.out; omega
      obtain ⟨b0, o, rfl, hb0, hc⟩ := hA.at_ (k := k) hkq
      have hSb := hSA (by omega) _ rfl
      obtain ⟨bp, op, rfl, hbp, hpl⟩ := hP.at_ (k := k) (by rw [plOutN_length]; exact hlt)
      have hSp := hSP _ rfl
      obtain ⟨x, hx⟩ : ∃ x, l[k]?.getD default = x := ⟨_, rfl⟩
      rw [hx] at hc
      have hxx : l[k] = x := by rw [List.getElem?_eq_getElem hkq] at hx; simpa using hx
      have hbd := mayP_b HMAY.out hkq
      rw [hxx] at hbd
      obtain ⟨c, hxc⟩ : ∃ c : Nat, x.client = (c : Int) := ⟨x.client.toNat, by omega⟩
      have hc4 : c < 4 := by omega
      have hci : (c : Int) < 4 := by omega
      have hcz : (0 : Int) ≤ c := by omega
      obtain ⟨vn, hvl⟩ : ∃ vn, x.r.vs.length = vn := ⟨_, rfl⟩
      obtain ⟨pv, hpv⟩ : ∃ p, (plOutN l n)[k]?.getD 0 = p := ⟨_, rfl⟩
      rw [hpv] at hpl
      have hpv2 : st.at_ x = pv := by
        rw [← hpv, ← HST.out]
        simp [plOutN, List.getElem?_range hlt, hx]
      have HPV := hide hpv2
      have HX := hide hx
      have HXX := hide hxx
      have HXC := hide hxc
      have c0 := hnx.cell (a := ⟨b0, o + k * 14, none⟩) hSb (hc 0 _ (by omega) rfl)
      have c1 := hnx.cell (a := ⟨b0, o + k * 14 + 1, none⟩) hSb (hc 1 _ (by omega) rfl)
      have c2 := hnx.cell (a := ⟨b0, o + k * 14 + 2, none⟩) hSb (hc 2 _ (by omega) rfl)
      have c3 := hnx.cell (a := ⟨b0, o + k * 14 + 3, none⟩) hSb (hc 3 _ (by omega) rfl)
      have c4 := hnx.cell (a := ⟨b0, o + k * 14 + 4, none⟩) hSb (hc 4 _ (by omega) rfl)
      have c5 := hnx.cell (a := ⟨b0, o + k * 14 + 5, none⟩) hSb (hc 5 _ (by omega) rfl)
      have c6 := hnx.cell (a := ⟨b0, o + k * 14 + 6, none⟩) hSb (hc 6 _ (by omega) rfl)
      have c7 := hnx.cell (a := ⟨b0, o + k * 14 + 7, none⟩) hSb (hc 7 _ (by omega) rfl)
      have c8 := hnx.cell (a := ⟨b0, o + k * 14 + 8, none⟩) hSb (hc 8 _ (by omega) rfl)
      have c9 := hnx.cell (a := ⟨b0, o + k * 14 + 9, none⟩) hSb (hc 9 _ (by omega) rfl)
      have c10 := hnx.cell (a := ⟨b0, o + k * 14 + 10, none⟩) hSb (hc 10 _ (by omega) rfl)
      have c11 := hnx.cell (a := ⟨b0, o + k * 14 + 11, none⟩) hSb (hc 11 _ (by omega) rfl)
      have c12 := hnx.cell (a := ⟨b0, o + k * 14 + 12, none⟩) hSb (hc 12 _ (by omega) rfl)
      have c13 := hnx.cell (a := ⟨b0, o + k * 14 + 13, none⟩) hSb (hc 13 _ (by omega) rfl)
      have d0 := hnx.cell (a := ⟨bp, op + k, none⟩) hSp hpl
      have e0 := hnx.cell (a := ⟨B2, 0, none⟩) hS2 hB2
      have f0 := hnx.cell (a := ⟨B1, 0, none⟩) hS1 hB1
      simp only [hvl] at c12
      rw [hxc] at c0
      clear hc hx hxx hvl hxc hbd hpv hpv2
      obtain ⟨pa, hpa⟩ : ∃ x, wr.heap.size = x := ⟨_, rfl⟩
      have hWr : W.heap.size ≤ wr.heap.size := hnx.b.size
      have kbl := kb.lt
      cases hb : x.ans
      · have HB := hide hb
        rw [hb] at c2
        clear hb
        obtain ⟨WD, hWDe⟩ : ∃ X, (wr.alloc (.cells #[.int .i64 c, .int .i64 x.seq, .bool false, .int .i64 x.q.client, .int .i64 x.q.seq, .int .i64 x.q.kind, .int .i64 x.q.id, .int .i64 x.q.mat, .string x.q.data, .int .i64 x.r.code, .int .i64 x.r.ver, .string x.r.data, .slice x.A vn x.cap, .int .i64 x.at_] 45)).drew = X := ⟨_, rfl⟩
        have kx : Bk WD pa 45 #[.int .i64 c, .int .i64 x.seq, .bool false, .int .i64 x.q.client, .int .i64 x.q.seq, .int .i64 x.q.kind, .int .i64 x.q.id, .int .i64 x.q.mat, .string x.q.data, .int .i64 x.r.code, .int .i64 x.r.ver, .string x.r.data, .slice x.A vn x.cap, .int .i64 x.at_] := by rw [← hWDe, ← hpa]; exact (Bk.new wr 45 _).drew
        have k6 : Kq n₀ S W WD := by rw [← hWDe]; exact Kq.grown hn0 (Kq.grown hn0 hnx (grown_alloc wr _) (fun r e => by cases e)) (grown_drew _) (fun r e => by cases e)
        have j6 : J (ansL l k) WD := by rw [← hWDe]; exact hJ _ _ _ none (hJ.alloc _ hJs) (grown_drew _) (fun r e => by cases e)
        have b6 : Bk WD pq 49 #[.int .i64 (st.asked 0), .int .i64 (st.asked 1), .int .i64 (st.asked 2), .int .i64 (st.asked 3)] := by rw [← hWDe]; exact (kb.alloc _).drew
        have g0 : WD.cell? ⟨B2, 0, none⟩ = some (.slice (some ⟨bp, op, none⟩) n cp) := k6.cell (a := ⟨B2, 0, none⟩) hS2 hB2
        have g1 : WD.cell? ⟨bp, op + k, none⟩ = some (.int .i64 pv) := k6.cell (a := ⟨bp, op + k, none⟩) hSp hpl
        have g2 : WD.cell? ⟨pq, c, none⟩ = some (.int .i64 (st.asked c)) := asked_get b6 hc4
        have g3 : WD.frozen? ⟨pq, c, none⟩ = false := b6.frozen c
        have gl : pq < WD.heap.size := b6.lt
        obtain ⟨⟨m0, m1, m2, m3, m4, m5, m6, m7, m8, m9, m10, m11, m12, m13⟩, ml⟩ := bk14 kx
        have HNX := hide (show st.next x = ⟨st.g, fun y => if y = (c : Int) then pv else st.asked y⟩ by
          have e : pv = st.g := by rw [← HPV.out]; unfold PlV.at_; rw [HB.out]; rfl
          unfold PlV.next
          rw [HB.out, HXC.out, e]
          rfl)
        have HJ5 := hide (hJ _ _ _ (some pq) j6 (grownBy_setCellA WD ⟨pq, c, none⟩ (.int .i64 pv)) (fun r e => by cases e; exact (show W.heap.size ≤ pq by omega)))
        have HK5 := hide (Kq.grown hn0 k6 (grownBy_setCellA WD ⟨pq, c, none⟩ (.int .i64 pv)) (fun r e => by cases e; exact ⟨show W.heap.size ≤ pq by omega, show n₀ ≤ pq by omega⟩))
        have HB5 := hide (asked_set b6 hc4 pv (fun y => if y = (c : Int) then pv else st.asked y) rfl)
        clear j6 k6 b6 kx kb hnx hJs hpl hWr
        gi_wp2
        refine wpIn_wide.2 ?_
        refine region_steps (R := pick [eqv (.pointer (some ⟨pa, 0, none⟩)), eqv (.int .i64 c), eqv (.slice (some ⟨bp, op, none⟩) n cp), eqv (.int .i64 k), eqv (.pointer (some ⟨bp, op + k, none⟩)), eqv (.int .i64 pv), eqv (.pointer (some ⟨pq, c, none⟩)), eqv (undef)]) (S := fun σ w' => (σ 7 = none → w' = WD) ∧ (σ 7 ≠ none → w' = (WD.setCell ⟨pq, c, none⟩ (.int .i64 pv)))) (T := (fun _ _ => True)) (by kernel_rfl) (by kernel_rfl) (by kernel_rfl) (Stab.pick (Stab.eqv (Stab.eqv (Stab.eqv (Stab.eqv (Stab.eqv (Stab.eqv (Stab.eqv (Stab.eqv (Stab.nil)))))))))) (⟨fun _ => hWDe, fun h => absurd rfl h⟩) ?steps ?ends
        case steps =>
          refine StepsOk.cons (stepOk_pure [] [(6, .pointer (some ⟨pa, 0, none⟩))] rfl rfl (by kernel_rfl) (by kernel_rfl) rfl (fun _ => trivial) (fun σ v w h => by simpa [upd] using h) (fun d E w' hk hda hS hc hf => by rintro  e6; exact ⟨_, by go_simp, rfl⟩)) ?_
          refine StepsOk.cons (stepOk_pure [(0, 17)] [] rfl rfl (by kernel_rfl) (by kernel_rfl) rfl (fun _ => trivial) (fun σ v w h => by simpa [upd] using h) (fun d E w' hk hda hS hc hf => by rintro _ q0 rfl e17 ; obtain rfl := (hS.1 (hk 7 (by kernel_rfl))).symm; exact ⟨_, by go_simp, rfl⟩)) ?_
          refine StepsOk.cons (stepOk_pure [] [(2, .pointer (some ⟨B2, 0, none⟩))] rfl rfl (by kernel_rfl) (by kernel_rfl) rfl (fun _ => trivial) (fun σ v w h => by simpa [upd] using h) (fun d E w' hk hda hS hc hf => by rintro  e2; obtain rfl := (hS.1 (hk 7 (by kernel_rfl))).symm; exact ⟨_, by go_simp, rfl⟩)) ?_
          refine StepsOk.cons (stepOk_pure [] [(5, .int .i64 k)] rfl rfl (by kernel_rfl) (by kernel_rfl) rfl (fun _ => trivial) (fun σ v w h => by simpa [upd] using h) (fun d E w' hk hda hS hc hf => by rintro  e5; exact ⟨_, by go_simp, rfl⟩)) ?_
          refine StepsOk.cons (stepOk_pure [(2, 19), (3, 20)] [] rfl rfl (by kernel_rfl) (by kernel_rfl) rfl (fun _ => trivial) (fun σ v w h => by simpa [upd] using h) (fun d E w' hk hda hS hc hf => by rintro _ q2 rfl e19 _ q3 rfl e20 ; obtain rfl := (hS.1 (hk 7 (by kernel_rfl))).symm; exact ⟨_, by go_simp, rfl⟩)) ?_
          refine StepsOk.cons (stepOk_pure [(4, 21)] [] rfl rfl (by kernel_rfl) (by kernel_rfl) rfl (fun _ => trivial) (fun σ v w h => by simpa [upd] using h) (fun d E w' hk hda hS hc hf => by rintro _ q4 rfl e21 ; obtain rfl := (hS.1 (hk 7 (by kernel_rfl))).symm; exact ⟨_, by go_simp, rfl⟩)) ?_
          refine StepsOk.cons (stepOk_pure [(1, 18)] [(4, .pointer (some ⟨pq, 0, none⟩))] rfl rfl (by kernel_rfl) (by kernel_rfl) rfl (fun _ => trivial) (fun σ v w h => by simpa [upd] using h) (fun d E w' hk hda hS hc hf => by rintro _ q1 rfl e18 e4; obtain rfl := (hS.1 (hk 7 (by kernel_rfl))).symm; exact ⟨_, by go_simp, rfl⟩)) ?_
          refine StepsOk.cons (stepOk_store [(6, 23), (5, 22)] [] rfl rfl (by kernel_rfl) (by kernel_rfl) rfl (fun d E w' hk hda hS hc hf => by rintro _ q6 rfl e23 _ q5 rfl e22 ; obtain rfl := (hS.1 (hk 7 (by kernel_rfl))).symm; exact ⟨(WD.setCell ⟨pq, c, none⟩ (.int .i64 pv)), by go_simp, rfl, trivial, ⟨fun h => by simp [upd] at h, fun _ => rfl⟩⟩)) ?_
          exact StepsOk.nil
        case ends =>
          intro σ9 w9 hS9 hA9
          refine Ends.eqv (some 17) (.pointer (some ⟨pa, 0, none⟩)) rfl (fun _ h => h) ?_
          refine Ends.eqv (some 18) (.int .i64 c) rfl (fun _ h => h) ?_
          refine Ends.eqv (some 19) (.slice (some ⟨bp, op, none⟩) n cp) rfl (fun _ h => h) ?_
          refine Ends.eqv (some 20) (.int .i64 k) rfl (fun _ h => h) ?_
          refine Ends.eqv (some 21) (.pointer (some ⟨bp, op + k, none⟩)) rfl (fun _ h => h) ?_
          refine Ends.eqv (some 22) (.int .i64 pv) rfl (fun _ h => h) ?_
          refine Ends.eqv (some 23) (.pointer (some ⟨pq, c, none⟩)) rfl (fun _ h => h) ?_
          refine Ends.eqv none (undef) rfl (fun _ h => h) ?_
          refine Ends.nil ?_
          have hA9' := hA9
          clear hA9
          simp only [put_lit, put_none, List.set_cons_zero, List.set_cons_succ]
          have hw9 := hS9.2 (by have := hA9' 7 (by simp); intro e; rw [e] at this; simp at this)
          subst hw9
          clear hS9 hA9'
          gi_wp2
          go_roundw
          case rel => exact ⟨k + 1, by omega, by go_num, by rw [ansL_ask hkq HXX.out HB.out]; exact HJ5.out, HK5.out, by rw [plSt_take hkq, HXX.out, HST.out, HNX.out]; exact HB5.out⟩
          case measure => simp [intOf]; omega
      · have HB := hide hb
        rw [hb] at c2
        clear hb
        obtain ⟨WD, hWDe⟩ : ∃ X, (wr.alloc (.cells #[.int .i64 c, .int .i64 x.seq, .bool true, .int .i64 x.q.client, .int .i64 x.q.seq, .int .i64 x.q.kind, .int .i64 x.q.id, .int .i64 x.q.mat, .string x.q.data, .int .i64 x.r.code, .int .i64 x.r.ver, .string x.r.data, .slice x.A vn x.cap, .int .i64 x.at_] 45)).drew = X := ⟨_, rfl⟩
        have kx : Bk WD pa 45 #[.int .i64 c, .int .i64 x.seq, .bool true, .int .i64 x.q.client, .int .i64 x.q.seq, .int .i64 x.q.kind, .int .i64 x.q.id, .int .i64 x.q.mat, .string x.q.data, .int .i64 x.r.code, .int .i64 x.r.ver, .string x.r.data, .slice x.A vn x.cap, .int .i64 x.at_] := by rw [← hWDe, ← hpa]; exact (Bk.new wr 45 _).drew
        have k6 : Kq n₀ S W WD := by rw [← hWDe]; exact Kq.grown hn0 (Kq.grown hn0 hnx (grown_alloc wr _) (fun r e => by cases e)) (grown_drew _) (fun r e => by cases e)
        have j6 : J (ansL l k) WD := by rw [← hWDe]; exact hJ _ _ _ none (hJ.alloc _ hJs) (grown_drew _) (fun r e => by cases e)
        have b6 : Bk WD pq 49 #[.int .i64 (st.asked 0), .int .i64 (st.asked 1), .int .i64 (st.asked 2), .int .i64 (st.asked 3)] := by rw [← hWDe]; exact (kb.alloc _).drew
        have g0 : WD.cell? ⟨B2, 0, none⟩ = some (.slice (some ⟨bp, op, none⟩) n cp) := k6.cell (a := ⟨B2, 0, none⟩) hS2 hB2
        have g1 : WD.cell? ⟨bp, op + k, none⟩ = some (.int .i64 pv) := k6.cell (a := ⟨bp, op + k, none⟩) hSp hpl
        have g2 : WD.cell? ⟨pq, c, none⟩ = some (.int .i64 (st.asked c)) := asked_get b6 hc4
        have g3 : WD.frozen? ⟨pq, c, none⟩ = false := b6.frozen c
        have gl : pq < WD.heap.size := b6.lt
        obtain ⟨⟨m0, m1, m2, m3, m4, m5, m6, m7, m8, m9, m10, m11, m12, m13⟩, ml⟩ := bk14 kx
        have HNX := hide (show (st.next x).asked = st.asked by unfold PlV.next; rw [HB.out]; rfl)
        obtain ⟨fn, tmps, assign, body, hy, hRD⟩ := hY (ansL l k) (k, st.asked c, pv) WD (by have := ansL_mem hlt HXX.out HB.out hkq; rw [HST.out, HXC.out, HPV.out] at this; exact this) j6 (by have := ansL_length l k; omega)
        dsimp only [encA] at hy
        have HK6 := hide k6
        have HB6 := hide b6
        clear j6 k6 b6 kx kb hnx hJs hpl hWr
        gi_wp2
        refine region_stepsI (R := pick [eqv (.func (.yield lY) #[] #[]), eqv (.int .i64 k), eqv (.pointer (some ⟨pa, 0, none⟩)), eqv (.int .i64 c), eqv (.pointer (some ⟨pq, c, none⟩)), eqv (.int .i64 (st.asked c)), eqv (.slice (some ⟨bp, op, none⟩) n cp), eqv (.int .i64 k), eqv (.pointer (some ⟨bp, op + k, none⟩)), eqv (.int .i64 pv), eqv (.agg #[.int .i64 (st.asked c), .int .i64 pv]), fun v _ => ∃ b : Bool, v = .bool b, fun v _ => ∃ b : Bool, v = .bool b]) (S := fun σ w' => (σ 11 = none → w' = WD) ∧ (∀ v, σ 11 = some v → ((v = .bool true ∧ J (ansL l k ++ [(k, st.asked c, pv)]) w' ∧ Kq n₀ S WD w') ∨ (v = .bool false ∧ Jx (ansL l k ++ [(k, st.asked c, pv)]) w'))) ∧ (∀ v, σ 12 = some v → ∃ b : Bool, σ 11 = some (.bool b) ∧ v = .bool (!b))) (T := (fun _ _ => True)) (by kernel_rfl) (by kernel_rfl) (by kernel_rfl) (Stab.pick (Stab.eqv (Stab.eqv (Stab.eqv (Stab.eqv (Stab.eqv (Stab.eqv (Stab.eqv (Stab.eqv (Stab.eqv (Stab.eqv (Stab.eqv (Stab.cons (fun _ _ _ _ h => h) (Stab.cons (fun _ _ _ _ h => h) (Stab.nil))))))))))))))) (⟨fun _ => hWDe, (fun v h => by cases h), fun v h => by cases h⟩) ?steps ?ends
        case steps =>
          refine StepsOk.cons (stepOk_pureI [] [(0, .func (.yield lY) #[] #[])] rfl rfl (by kernel_rfl) (by kernel_rfl) rfl (fun _ => trivial) (fun σ v w h => by simpa [upd] using h) (fun d E w' hk hda hS hc hf => by rintro  e0; exact ⟨_, by go_simp, rfl⟩)) ?_
          refine StepsOk.cons (stepOk_pureI [] [(5, .int .i64 k)] rfl rfl (by kernel_rfl) (by kernel_rfl) rfl (fun _ => trivial) (fun σ v w h => by simpa [upd] using h) (fun d E w' hk hda hS hc hf => by rintro  e5; exact ⟨_, by go_simp, rfl⟩)) ?_
          refine StepsOk.cons (stepOk_pureI [] [(6, .pointer (some ⟨pa, 0, none⟩))] rfl rfl (by kernel_rfl) (by kernel_rfl) rfl (fun _ => trivial) (fun σ v w h => by simpa [upd] using h) (fun d E w' hk hda hS hc hf => by rintro  e6; exact ⟨_, by go_simp, rfl⟩)) ?_
          refine StepsOk.cons (stepOk_pureI [(2, 26)] [] rfl rfl (by kernel_rfl) (by kernel_rfl) rfl (fun _ => trivial) (fun σ v w h => by simpa [upd] using h) (fun d E w' hk hda hS hc hf => by rintro _ q2 rfl e26 ; obtain rfl := (hS.1 (hk 11 (by kernel_rfl))).symm; exact ⟨_, by go_simp, rfl⟩)) ?_
          refine StepsOk.cons (stepOk_pureI [(3, 27)] [(4, .pointer (some ⟨pq, 0, none⟩))] rfl rfl (by kernel_rfl) (by kernel_rfl) rfl (fun _ => trivial) (fun σ v w h => by simpa [upd] using h) (fun d E w' hk hda hS hc hf => by rintro _ q3 rfl e27 e4; obtain rfl := (hS.1 (hk 11 (by kernel_rfl))).symm; exact ⟨_, by go_simp, rfl⟩)) ?_
          refine StepsOk.cons (stepOk_pureI [(4, 28)] [] rfl rfl (by kernel_rfl) (by kernel_rfl) rfl (fun _ => trivial) (fun σ v w h => by simpa [upd] using h) (fun d E w' hk hda hS hc hf => by rintro _ q4 rfl e28 ; obtain rfl := (hS.1 (hk 11 (by kernel_rfl))).symm; exact ⟨_, by go_simp, rfl⟩)) ?_
          refine StepsOk.cons (stepOk_pureI [] [(2, .pointer (some ⟨B2, 0, none⟩))] rfl rfl (by kernel_rfl) (by kernel_rfl) rfl (fun _ => trivial) (fun σ v w h => by simpa [upd] using h) (fun d E w' hk hda hS hc hf => by rintro  e2; obtain rfl := (hS.1 (hk 11 (by kernel_rfl))).symm; exact ⟨_, by go_simp, rfl⟩)) ?_
          refine StepsOk.cons (stepOk_pureI [] [(5, .int .i64 k)] rfl rfl (by kernel_rfl) (by kernel_rfl) rfl (fun _ => trivial) (fun σ v w h => by simpa [upd] using h) (fun d E w' hk hda hS hc hf => by rintro  e5; exact ⟨_, by go_simp, rfl⟩)) ?_
          refine StepsOk.cons (stepOk_pureI [(6, 30), (7, 31)] [] rfl rfl (by kernel_rfl) (by kernel_rfl) rfl (fun _ => trivial) (fun σ v w h => by simpa [upd] using h) (fun d E w' hk hda hS hc hf => by rintro _ q6 rfl e30 _ q7 rfl e31 ; obtain rfl := (hS.1 (hk 11 (by kernel_rfl))).symm; exact ⟨_, by go_simp, rfl⟩)) ?_
          refine StepsOk.cons (stepOk_pureI [(8, 32)] [] rfl rfl (by kernel_rfl) (by kernel_rfl) rfl (fun _ => trivial) (fun σ v w h => by simpa [upd] using h) (fun d E w' hk hda hS hc hf => by rintro _ q8 rfl e32 ; obtain rfl := (hS.1 (hk 11 (by kernel_rfl))).symm; exact ⟨_, by go_simp, rfl⟩)) ?_
          refine StepsOk.cons (stepOk_pureI [(5, 29), (9, 33)] [] rfl rfl (by kernel_rfl) (by kernel_rfl) rfl (fun _ => trivial) (fun σ v w h => by simpa [upd] using h) (fun d E w' hk hda hS hc hf => by rintro _ q5 rfl e29 _ q9 rfl e33 ; exact ⟨_, by go_simp, rfl⟩)) ?_
          refine StepsOk.cons (stepOk_mkI [(0, 24), (1, 25), (10, 34)] [] rfl rfl (by kernel_rfl) (by kernel_rfl) rfl ?_) ?_
          · rintro d a w' hk hda hS _ q0 rfl e24 _ q1 rfl e25 _ q10 rfl e34 
            first | refine Given.nil (Known.nil ?_) | refine Known.nil ?_
            obtain rfl := (hS.1 (hk 11 (by kernel_rfl))).symm
            refine uponIn_yield (by revert e24 e25 e34; generalize a.eval = E; intro e24 e25 e34; go_simp) hRD ?_
            rintro e W3 (⟨rfl, h1, h2⟩ | ⟨rfl, h1⟩)
            · exact ⟨true, rfl, _, rfl, ⟨true, rfl⟩, trivial, fun h => by simp [upd] at h, (fun v hv => by simp only [upd, if_true, Option.some.injEq] at hv; subst hv; exact .inl ⟨rfl, h1, h2⟩), fun v hv => by have := hk 12 (by kernel_rfl); simp [upd] at hv; rw [this] at hv; cases hv⟩
            · exact ⟨false, rfl, _, rfl, ⟨false, rfl⟩, trivial, fun h => by simp [upd] at h, (fun v hv => by simp only [upd, if_true, Option.some.injEq] at hv; subst hv; exact .inr ⟨rfl, h1⟩), fun v hv => by have := hk 12 (by kernel_rfl); simp [upd] at hv; rw [this] at hv; cases hv⟩
          refine StepsOk.cons (stepOk_mkI [(11, 35)] [] rfl rfl (by kernel_rfl) (by kernel_rfl) rfl ?_) ?_
          · rintro d a w' hk hda hS _ q11 ⟨yb, rfl⟩ e35 
            first | refine Given.nil (Known.nil ?_) | refine Known.nil ?_
            refine uponIn_val (u := .bool (!yb)) (by revert e35; generalize a.eval = E; intro e35; go_simp) ?_
            exact ⟨_, rfl, ⟨_, rfl⟩, trivial, fun h => hS.1 (by simpa [upd] using h), (fun v hv => hS.2.1 v (by simpa [upd] using hv)), fun v hv => ⟨yb, by simpa [upd] using q11, by simpa [upd] using hv.symm⟩⟩
          exact StepsOk.nil
        case ends =>
          intro σ9 w9 hS9 hA9
          refine Ends.eqv (some 24) (.func (.yield lY) #[] #[]) rfl (fun _ h => h) ?_
          refine Ends.eqv (some 25) (.int .i64 k) rfl (fun _ h => h) ?_
          refine Ends.eqv (some 26) (.pointer (some ⟨pa, 0, none⟩)) rfl (fun _ h => h) ?_
          refine Ends.eqv (some 27) (.int .i64 c) rfl (fun _ h => h) ?_
          refine Ends.eqv (some 28) (.pointer (some ⟨pq, c, none⟩)) rfl (fun _ h => h) ?_
          refine Ends.eqv (some 29) (.int .i64 (st.asked c)) rfl (fun _ h => h) ?_
          refine Ends.eqv (some 30) (.slice (some ⟨bp, op, none⟩) n cp) rfl (fun _ h => h) ?_
          refine Ends.eqv (some 31) (.int .i64 k) rfl (fun _ h => h) ?_
          refine Ends.eqv (some 32) (.pointer (some ⟨bp, op + k, none⟩)) rfl (fun _ h => h) ?_
          refine Ends.eqv (some 33) (.int .i64 pv) rfl (fun _ h => h) ?_
          refine Ends.eqv (some 34) (.agg #[.int .i64 (st.asked c), .int .i64 pv]) rfl (fun _ h => h) ?_
          refine Ends.ex (some 35) rfl ?_
          rintro _ p11 ⟨yb, rfl⟩
          refine Ends.ex (some 36) rfl ?_
          rintro _ p12 ⟨zb, rfl⟩
          refine Ends.nil ?_
          clear hA9
          simp only [put_lit, put_none, List.set_cons_zero, List.set_cons_succ]
          obtain ⟨b9, hb91, hb92⟩ := hS9.2.2 _ p12
          rw [p11] at hb91
          obtain rfl : yb = b9 := by injection hb91 with h; injection h
          obtain rfl : zb = !yb := by injection hb92
          clear hb91 hb92 p12
          rcases hS9.2.1 _ p11 with ⟨hyb, hJ3, hk3⟩ | ⟨hyb, hJx3⟩
          · obtain rfl : yb = true := by injection hyb
            have HJ3 := hide hJ3
            have HK3 := hide hk3
            clear hS9 p11 hyb hJ3 hk3
            gi_wp2
            go_roundw
            case rel => exact ⟨k + 1, by omega, by go_num, by rw [ansL_ans hkq HXX.out HB.out, HST.out, HXC.out, HPV.out]; exact HJ3.out, HK6.out.t HK3.out, by rw [plSt_take hkq, HXX.out, HST.out, HNX.out]; exact HK3.out.bk hSq HB6.out⟩
            case measure => simp [intOf]; omega
          · obtain rfl : yb = false := by injection hyb
            have HJX3 := hide hJx3
            clear hS9 p11 hyb hJx3
            gi_wp2
            refine bodyPost_ret (results_none rfl _ _ _) rfl ?_
            exact ⟨⟨_, rfl⟩, .inr ⟨_, ⟨k + 1, by omega, by rw [ansL_ans hkq HXX.out HB.out, HST.out, HXC.out, HPV.out]⟩, HJX3.out⟩⟩
    · obtain rfl : k = n := by omega
      gi_wp2
      go_end0
      exact ⟨⟨_, rfl⟩, .inl ⟨_, rfl, hJs⟩⟩
theorem ans_stops (B1 B2 n₀ : Nat) (S : Nat → Prop) (A Ap : Option Addr) (n ca cp : Nat) (l : List ActV) (hl : n = l.length) (hok : Few23 l) (hmay : mayP l = true) (W0 : World) (hn0 : n₀ ≤ W0.heap.size) (hSz : ∀ b, S b → b < W0.heap.size)
    (hB1 : W0.cell? ⟨B1, 0, none⟩ = some (.slice A n ca)) (hB2 : W0.cell? ⟨B2, 0, none⟩ = some (.slice Ap n cp)) (hb1 : B1 < W0.heap.size) (hb2 : B2 < W0.heap.size) (hS1 : ¬ S B1) (hS2 : ¬ S B2) (hA : ActsAt W0 A l) (hP : IntsAt W0 Ap (plOutN l n)) (hSA : 0 < n → ∀ a, A = some a → ¬ S a.block) (hSP : ∀ a, Ap = some a → ¬ S a.block) :
    SeqW Fence.wide 4 Try.prog 40 #[.pointer (some ⟨B1, 0, none⟩), .pointer (some ⟨B2, 0, none⟩)] (fun x : {y // y ∈ ansL l n} => encA x.1) (Kq n₀ S) (fun ys => ys.map (·.1) = ansL l n) (fun pre => ∃ k, k ≤ n ∧ pre.map (·.1) = ansL l k) n W0 := by
  intro lY J Jx W hW hJ hJx hY h0
  have hO : Old W0 W := hW
  refine (ans1_in 4 (by omega) lY B1 B2 n₀ S A Ap n ca cp l hl hok hmay (fun pre U => ∃ pre' : List {y // y ∈ ansL l n}, pre'.map (·.1) = pre ∧ J pre' U) (fun pre U => ∃ pre' : List {y // y ∈ ansL l n}, pre'.map (·.1) = pre ∧ Jx pre' U) W (Nat.le_trans hn0 hO.size) (fun b hb => Nat.lt_of_lt_of_le (hSz b hb) hO.size)
    (fun s A A' row ⟨p, h1, h2⟩ hg hr => ⟨p, h1, hJ p A A' row h2 hg hr⟩) (fun pre x W1 hx hJ1 hlen => ?_) ((hO.cell (p := ⟨B1, 0, none⟩) hb1).trans hB1) ((hO.cell (p := ⟨B2, 0, none⟩) hb2).trans hB2) hS1 hS2 (hA.old hO) (CellsAt.old hP hO) hSA hSP ⟨[], rfl, h0⟩).mono ?_
  · obtain ⟨p, rfl, hJ2⟩ := hJ1
    obtain ⟨fn, tmps, assign, body, hy, hR⟩ := hY p ⟨x, hx⟩ W1 hJ2 (by simpa using hlen)
    refine ⟨fn, tmps, assign, body, hy, hR.mono ?_⟩
    rintro e W' (⟨h1, h2, h3⟩ | ⟨h1, h2⟩)
    · exact .inl ⟨h1, ⟨_, by simp, h2⟩, h3⟩
    · exact .inr ⟨h1, _, by simp, h2⟩
  · rintro e W' ⟨h1, (⟨ys, rfl, p, hp, h2⟩ | ⟨pre, ⟨k, hk, rfl⟩, p, hp, h2⟩)⟩
    · exact ⟨h1, .inl ⟨p, hp, h2⟩⟩
    · exact ⟨h1, .inr ⟨p, ⟨k, hk, hp⟩, h2⟩⟩
set_option maxHeartbeats 400000 in
theorem Answers_any (A0 B0 : Option Addr) (n1 c1 n2 c2 : Nat) (w : World) :
    Calls Try.prog 25 #[.slice A0 n1 c1, .slice B0 n2 c2] w fun e w' => e = .returned (.func (.func 40) #[] #[.pointer (some ⟨w.heap.size, 0, none⟩), .pointer (some ⟨w.heap.size + 1, 0, none⟩)]) ∧ w' = (w.alloc (.cells #[.slice A0 n1 c1] 28)).alloc (.cells #[.slice B0 n2 c2] 34) := by
  go_enter Try.func25, Try.ntmps25
  go_wp2
  go_ret
  exact ⟨rfl, rfl⟩
end Go.Proofs.Ytffahoocbjfdaaa
