/- check.Check. -/
import Derived.Test.YtffahoocbjfdaaaHCAn
namespace Go.Proofs.Ytffahoocbjfdaaa
open Go.RowKit Go.Shelf
attribute [local go_sem] Oper.semAt_some
def goodA (qt : Int) (log : List ReqV) (l : List ActV) (rd : Bool) (y : Nat × Int × Int) : Bool := rightP qt log (l[y.1]?.getD default) y.2.1 y.2.2 rd
def checkR (good : Nat × Int × Int → Bool) : Nat → List (Nat × Int × Int) → Int
  | _, [] => 0
  | c, y :: ys => if good y then checkR good (c + 1) ys else -((c : Int) + 1)
def checkP (l : List ActV) (log : List ReqV) (qt : Int) (rd : Bool) : Int := if okLog qt log && mayP l then checkR (goodA qt log l rd) 0 (ansL l l.length) else 1
theorem checkR_app (good : Nat × Int × Int → Bool) : ∀ (ys r : List (Nat × Int × Int)) (c : Nat), (∀ y ∈ ys, good y = true) → checkR good c (ys ++ r) = checkR good (c + ys.length) r
  | [], r, c, _ => rfl
  | y :: ys, r, c, h => by
    show (if good y then checkR good (c + 1) (ys ++ r) else _) = _
    rw [if_pos (h y (by simp)), checkR_app good ys r (c + 1) (fun z hz => h z (by simp [hz]))]
    simp only [List.length_cons]
    congr 1
    omega
theorem ansL_pre (l : List ActV) {k n : Nat} (h : k ≤ n) : ∃ t, ansL l n = ansL l k ++ t := by
  induction n with
  | zero => exact ⟨[], by rw [show k = 0 by omega]; simp⟩
  | succ n ih =>
    by_cases e : k = n + 1
    · subst e; exact ⟨[], by simp⟩
    · obtain ⟨t, ht⟩ := ih (by omega)
      obtain ⟨s, hs⟩ : ∃ s, ansL l (n + 1) = ansL l n ++ s := by
        unfold ansL
        rw [List.range_succ, List.filter_append, List.map_append]
        exact ⟨_, rfl⟩
      exact ⟨t ++ s, by rw [hs, ht, List.append_assoc]⟩
theorem plSt_b {l : List ActV} (hm : mayP l = true) : ∀ k, k ≤ l.length → (0 ≤ (plSt (l.take k)).g ∧ (plSt (l.take k)).g ≤ 1073741824) ∧ ∀ c, 0 ≤ (plSt (l.take k)).asked c ∧ (plSt (l.take k)).asked c ≤ 1073741824 := by
  intro k
  induction k with
  | zero => intro _; exact ⟨⟨Int.le_refl 0, show (0 : Int) ≤ 1073741824 by decide⟩, fun c => ⟨Int.le_refl 0, show (0 : Int) ≤ 1073741824 by decide⟩⟩
  | succ k ih =>
    intro hk
    obtain ⟨h1, h2⟩ := ih (by omega)
    have hb := mayP_b hm (show k < l.length by omega)
    rw [plSt_take (show k < l.length by omega)]
    obtain ⟨x, hx⟩ : ∃ x, l[k] = x := ⟨_, rfl⟩
    rw [hx] at hb ⊢
    obtain ⟨s, hs⟩ : ∃ s, plSt (l.take k) = s := ⟨_, rfl⟩
    rw [hs] at h1 h2 ⊢
    unfold PlV.next PlV.at_
    have h3 := h2 x.client
    split
    · refine ⟨?_, h2⟩
      simp only []
      split <;> omega
    · refine ⟨h1, fun c => ?_⟩
      show 0 ≤ (if c = x.client then s.g else s.asked c) ∧ (if c = x.client then s.g else s.asked c) ≤ _
      split
      · exact h1
      · exact h2 c
theorem at_b {l : List ActV} (hm : mayP l = true) {k : Nat} (hk : k < l.length) : 0 ≤ (plSt (l.take k)).at_ l[k] ∧ (plSt (l.take k)).at_ l[k] ≤ 1073741824 := by
  obtain ⟨h1, h2⟩ := plSt_b hm k (by omega)
  have hb := mayP_b hm hk
  have h3 := h2 l[k].client
  unfold PlV.at_
  split
  · split <;> omega
  · exact h1
theorem KeepsOthers.of_old {A B : World} (h : Old A B) : KeepsOthers A B := ⟨h.size, fun k o hk _ => (h.block k (Array.getElem?_eq_some_iff.1 hk).1).trans hk⟩
theorem Kq.of_old {n₀ : Nat} {S : Nat → Prop} {A B : World} (hn : n₀ ≤ A.heap.size) (h : Old A B) : Kq n₀ S A B := ⟨⟨h.os, h.tape, h.output, h.size, fun k hk => h.block k (by omega)⟩, fun b o _ ho _ => (h.block b (Array.getElem?_eq_some_iff.1 ho).1).trans ho⟩
theorem Kq.setc {n₀ : Nat} {S : Nat → Prop} (A : World) (p : Addr) (v : Value) (hs : S p.block) (hn : n₀ ≤ p.block) : Kq n₀ S A (A.setCell p v) :=
  ⟨⟨rfl, rfl, rfl, by simp [World.setCell], fun k hk => Below.heap_setCell A p v k (by omega)⟩, fun b o hb ho _ => (Below.heap_setCell A p v b (fun e => hb (e ▸ hs))).trans ho⟩
theorem ownW_fr {β : Type} {B : Nat} {w : World} {S : Nat → Prop} (hS : ∀ b, B ≤ b → S b) : OwnW B (fun (_ : β) W => Fr S w W) := fun _ A A' row h hg hr => h.trans' (Fr.of_grown (S := fun k => row = some k) hg (fun k _ e => e)) (fun k _ e => hS k (hr k e))
theorem ownW_bk {β : Type} {B b : Nat} {t : TypeId} {f : β → Array Value} (hb : b < B) : OwnW B (fun (s : β) W => Bk W b t (f s)) := fun s A A' row h hg hr => Bk.grown h hg (fun e => by have := hr b e.symm; omega)
theorem ownW_and {β : Type} {B : Nat} {I J : β → World → Prop} (h : OwnW B I) (k : OwnW B J) : OwnW B (fun s W => I s W ∧ J s W) := fun s A A' row ⟨h1, h2⟩ hg hr => ⟨h s A A' row h1 hg hr, k s A A' row h2 hg hr⟩
theorem ownW_pure {β : Type} (B : Nat) (p : β → Prop) : OwnW B (fun s (_ : World) => p s) := fun _ _ _ _ h _ _ => h
set_option maxRecDepth 100000 in
set_option maxHeartbeats 4000000 in
theorem Check_in (A : Option Addr) (n ca : Nat) (l : List ActV) (hl : n = l.length) (hok : Few23 l) (Al : Option Addr) (nl cl : Nat) (log : List ReqV) (hll : nl = log.length) (hnl : nl ≤ 1000) (hcl : nl ≤ cl) (qt : Int) (rd : Bool) (hlog : okLog qt log = true) (hmay : mayP l = true) (E : Int) (hE : checkR (goodA qt log l rd) 0 (ansL l n) = E) (w : World) (hA : ActsAt w A l) (hQ : ReqsAt w Al log) :
    CallsIn Fence.wide 5 Try.prog 11 #[.slice A n ca, .slice Al nl cl, .int .i64 qt, .bool rd] w fun e w' => e = .returned (.int .i64 E) ∧ Old w w' := by
  have hn : n ≤ 1000 := by have := hok.n; omega
  have hqt : 1 ≤ qt ∧ qt ≤ 100 := by
    unfold okLog at hlog
    simp only [Bool.and_eq_true, decide_eq_true_eq] at hlog
    exact hlog.1
  have hplo : plOut l = plOutN l n := by unfold plOut; rw [if_pos hmay, hl]
  have cN := hide (fun W (h : Old w W) => NewModel_any Al nl cl log hll hnl qt true hlog W (CellsAt.old hQ h))
  have cM := hide (fun W (h : Old w W) => PMay_any A n ca l hl hok true hmay W (hA.old h))
  have cP := hide (fun W (h : Old w W) => by have := Places_any A n ca l hl hok W (hA.old h); rw [hplo, plOutN_length] at this; exact this)
  have cR := hide (fun (m : Nat) (V : Value) (x : ActV) (hx : x ∈ l) (ask a : Int) (ha : 0 ≤ a) (ha2 : a ≤ 1073741824) (b : Bool) (hb : rightP qt log x ask a rd = b) (W : World) (hM : MdAt W m Al nl cl qt log V nl) (h : Old w W) =>
    Right_any m Al nl cl log hll hnl hcl qt hqt V x _ rfl (hok.vs x hx) ask a ha ha2 rd b hb W hM (CellsAt.old hQ h) (CellsAt.old (hA.vs x hx) h))
  have HL := hide hl
  have HMAY := hide hmay
  have HOK := hide hok
  have HE := hide hE
  clear hl hll hE hok hmay hlog hplo hqt
  refine callsIn_of_wp_marks Try.func11 rfl trivial ?_ rfl
  simp only [Try.ntmps11, List.size_toArray, List.length_cons, List.length_nil, Nat.reduceAdd, Nat.reduceSub, Array.replicate_succ, Array.replicate_zero, List.push_toArray, List.append_toArray, List.nil_append, List.cons_append]
  obtain ⟨W0, hW0⟩ : ∃ X, ((w.alloc (.cells #[.slice A n ca] 28)).alloc (.cells #[.bool rd] 4)).alloc (.cells #[.int .i64 0] 3) = X := ⟨_, rfl⟩
  have o0 : Old w W0 := by rw [← hW0]; exact (((Old.refl' w).alloc' _).alloc' _).alloc' _
  obtain ⟨b4, hb4⟩ : ∃ x, w.heap.size = x := ⟨_, rfl⟩
  obtain ⟨b7, hb7⟩ : ∃ x, b4 + 1 = x := ⟨_, rfl⟩
  obtain ⟨b8, hb8⟩ : ∃ x, b7 + 1 = x := ⟨_, rfl⟩
  have k4 : Bk W0 b4 28 #[.slice A n ca] := by rw [← hW0, ← hb4]; exact ((Bk.new w 28 _).alloc _).alloc _
  have k7 : Bk W0 b7 4 #[.bool rd] := by rw [← hW0, ← hb7, ← hb4]; exact (bk_new1 w _ 4 _).alloc _
  have k8 : Bk W0 b8 3 #[.int .i64 0] := by
    rw [← hW0, ← hb8, ← hb7, ← hb4]
    have := bk_new1 (w.alloc (.cells #[.slice A n ca] 28)) (.cells #[.bool rd] 4) 3 #[.int .i64 0]
    simpa using this
  have hz0 : W0.heap.size = b8 + 1 := by rw [← hW0]; simp; omega
  gi_wp2_with (first
    | (refine ⟨trivial, ?_⟩; gi_at_call 23; refine (callsIn_wide.2 (cN.out W0 o0)).mono ?_; rintro e w1 ⟨P, rfl, o1, hm⟩; obtain ⟨m, V, rfl, hMd⟩ := hm rfl; have z4 := (k4.old (o1.alloc' (.cells #[.pointer (some ⟨m, 0, none⟩)] 65))).cell 0)
    | (refine ⟨trivial, ?_⟩; gi_at_call 24; refine (callsIn_wide.2 (cM.out _ (o0.trans' (o1.alloc' _)))).mono ?_; rintro e w2 ⟨rfl, o2⟩))
  clear z4
  obtain ⟨b9, hb9⟩ : ∃ x, w1.heap.size = x := ⟨_, rfl⟩
  obtain ⟨bn, hbn⟩ : ∃ x, w2.heap.size = x := ⟨_, rfl⟩
  obtain ⟨WD, hWDe⟩ : ∃ X, (w2.alloc (.cells #[.int .i64 0] 3)).drew = X := ⟨_, rfl⟩
  have o3 : Old w2 WD := by rw [← hWDe]; exact ((Old.refl' w2).alloc' _).drew'
  have o12 : Old w1 w2 := ((Old.refl' w1).alloc' _).trans' o2
  have oD : Old W0 WD := (o1.trans' o12).trans' o3
  have Y4 := hide (fun (U : World) (h : Old WD U) => (k4.old (oD.trans' h)).cell 0)
  simp only [List.getElem?_toArray, List.getElem?_cons_zero] at Y4
  have cPl := hide (fun (U : World) (h : Old WD U) => cP.out U ((o0.trans' oD).trans' h))
  have hzz : w.heap.size = b4 ∧ b4 < b7 ∧ b7 < b8 ∧ b8 < b9 ∧ b9 < bn ∧ bn < WD.heap.size := by
    have h1 := o1.size
    have h2 := o2.size
    have h3 := o3.size
    have h4 : WD.heap.size = w2.heap.size + 1 := by rw [← hWDe]; simp [World.drew]
    simp at h2
    omega
  have HZ := hide hzz
  have k9 : Bk WD b9 65 #[.pointer (some ⟨m, 0, none⟩)] := by rw [← hb9]; exact ((Bk.new w1 65 _).old o2).old o3
  have kn : Bk WD bn 3 #[.int .i64 0] := by rw [← hWDe, ← hbn]; exact (Bk.new w2 3 _).drew
  have hMD := hMd.old (o12.trans' o3)
  have hmV : (m < b9 ∧ m ≠ b8) ∧ ∀ b, V.ownBlock = some b → b < b9 ∧ b ≠ b8 := by
    obtain ⟨hm1, rs, hm2, -⟩ := hMd
    have k81 := k8.old o1
    exact ⟨⟨by have := hm1.lt; omega, Bk.ne_ hm1 k81 (by decide)⟩, fun b hb => ⟨by have := own_lt8 hm2 hb; omega, fun e => own_ne_bk hm2 k81 (by decide) (e ▸ hb)⟩⟩
  have k4 := k4.old oD
  have k7 := k7.old oD
  have k8 := k8.old oD
  have o0 := o0.trans' oD
  simp only [hb4, hb7, hb8, hb9, hbn]
  clear hb4 hb7 hb8 hb9 hbn hW0 hz0 o1 o2 o3 o12 oD hMd cN cM hzz
  refine wpIn_wide.2 ?_
  refine region_steps (R := pick [eqv (.slice A n ca), eqv (.slice A n ca), fun v w' => ∃ Ap cp, v = .slice Ap n cp ∧ IntsAt w' Ap (plOutN l n) ∧ ∀ a, Ap = some a → WD.heap.size ≤ a.block, fun v w' => ∃ B1 B2 Ap cp, v = .func (.func 40) #[] #[.pointer (some ⟨B1, 0, none⟩), .pointer (some ⟨B2, 0, none⟩)] ∧ (Bk w' B1 28 #[.slice A n ca] ∧ Bk w' B2 34 #[.slice Ap n cp]) ∧ (WD.heap.size ≤ B1 ∧ WD.heap.size ≤ B2) ∧ IntsAt w' Ap (plOutN l n) ∧ ∀ a, Ap = some a → WD.heap.size ≤ a.block]) (S := fun _ w' => Old WD w') (T := Old) (by kernel_rfl) (by kernel_rfl) (by kernel_rfl) (Stab.pick (Stab.eqv (Stab.eqv (Stab.cons (fun v w w' ht ⟨A, c, h, i, z⟩ => ⟨A, c, h, CellsAt.old i ht, z⟩) (Stab.cons (fun v w w' ht ⟨B1, B2, A, c, h, ⟨k1, k2⟩, k3, i, z⟩ => ⟨B1, B2, A, c, h, ⟨k1.old ht, k2.old ht⟩, k3, CellsAt.old i ht, z⟩) (Stab.nil)))))) (hWDe ▸ Old.refl' _) ?steps ?ends
  case steps =>
    refine StepsOk.cons (stepOk_pure [] [(4, .pointer (some ⟨b4, 0, none⟩))] rfl rfl (by kernel_rfl) (by kernel_rfl) rfl Old.refl' (fun _ _ _ h => h) (fun d E w' hk hda hS hc hf => by rintro  e4; obtain y4 := Y4.out _ hS; exact ⟨_, by go_simp, rfl⟩)) ?_
    refine StepsOk.cons (stepOk_pure [] [(4, .pointer (some ⟨b4, 0, none⟩))] rfl rfl (by kernel_rfl) (by kernel_rfl) rfl Old.refl' (fun _ _ _ h => h) (fun d E w' hk hda hS hc hf => by rintro  e4; obtain y4 := Y4.out _ hS; exact ⟨_, by go_simp, rfl⟩)) ?_
    refine StepsOk.cons (stepOk_mk [(1, 28)] [] rfl rfl (by kernel_rfl) (by kernel_rfl) rfl ?_) ?_
    · rintro d a w' hk hda hS _ q1 rfl e28 
      first | refine Given.nil (Known.nil ?_) | refine Known.nil ?_
      refine wp_call 12 _ Try.func12 (by kernel_rfl) (by kernel_rfl) _ _ (by rfl) [.slice A n ca] (by simp only [List.map_cons, List.map_nil, *]; try rfl) (cPl.out _ hS) ?_
      rintro e w1 ⟨Ap, cp, rfl, ip, zp, f4⟩
      exact ⟨_, rfl, _, rfl, ⟨Ap, cp, rfl, ip, fun a ha => Nat.le_trans hS.size (zp a ha)⟩, f4, hS.trans' f4⟩
    refine StepsOk.cons (stepOk_mk [(0, 27), (2, 29)] [] rfl rfl (by kernel_rfl) (by kernel_rfl) rfl ?_) ?_
    · rintro d a w' hk hda hS _ q0 rfl e27 _ q2 ⟨Ap, cp, rfl, ip, zp⟩ e29 
      first | refine Given.nil (Known.nil ?_) | refine Known.nil ?_
      refine wp_call 25 _ Try.func25 (by kernel_rfl) (by kernel_rfl) _ _ (by rfl) [.slice A n ca, .slice Ap n cp] (by simp only [List.map_cons, List.map_nil, *]; try rfl) (Answers_any A Ap n ca n cp w') ?_
      rintro e w1 ⟨rfl, rfl⟩
      exact ⟨_, rfl, _, rfl, ⟨w'.heap.size, w'.heap.size + 1, Ap, cp, rfl, ⟨(Bk.new w' 28 #[.slice A n ca]).alloc _, bk_new1 w' _ 34 #[.slice Ap n cp]⟩, ⟨hS.size, Nat.le_succ_of_le hS.size⟩, CellsAt.old ip (((Old.refl' w').alloc' _).alloc' _), zp⟩, ((Old.refl' w').alloc' _).alloc' _, hS.trans' (((Old.refl' w').alloc' _).alloc' _)⟩
    exact StepsOk.nil
  case ends =>
    intro σ9 w9 hS9 hA9
    refine Ends.eqv (some 27) (.slice A n ca) rfl (fun _ h => h) ?_
    refine Ends.eqv (some 28) (.slice A n ca) rfl (fun _ h => h) ?_
    refine Ends.ex (some 29) rfl ?_
    rintro _ p2 ⟨Ap, cp, rfl, ip, zp⟩
    refine Ends.ex (some 30) rfl ?_
    rintro _ p3 ⟨B1, B2, Aq, cq, rfl, ⟨kB1, kB2⟩, ⟨zB1, zB2⟩, iq, zq⟩
    refine Ends.nil ?_
    clear hA9
    simp only [put_lit, put_none, List.set_cons_zero, List.set_cons_succ]
    gi_wp2
    have o9 := hS9
    have hOw := o0.trans' o9
    have hz9 := o9.size
    have hzz := HZ.out
    have k4 := k4.old o9
    have k7 := k7.old o9
    have k8 := k8.old o9
    have k9 := k9.old o9
    have kn := kn.old o9
    have hMD := hMD.old o9
    clear hS9 o9 o0 Y4 cPl cP hWDe ip zp
    have n0 : w.heap.size ≤ w9.heap.size := hOw.size
    have hSB1 : ¬ (B1 = bn ∨ B1 = b8) := by omega
    have hSB2 : ¬ (B2 = bn ∨ B2 = b8) := by omega
    have hSA : 0 < n → ∀ a, A = some a → ¬ (a.block = bn ∨ a.block = b8) := fun h a ha => by
      obtain ⟨b0, o, e, hb0, -⟩ := hA.at_ (k := 0) (by have := HL.out; omega)
      rw [ha] at e
      injection e with e
      subst e
      show ¬ (b0 = bn ∨ b0 = b8)
      omega
    have hSP : ∀ a, Aq = some a → ¬ (a.block = bn ∨ a.block = b8) := fun a ha => by have := zq a ha; omega
    refine wpIn_rangeW (α := {y // y ∈ ansL l n}) rfl (by omega) (gf := 40) (lb := #[.pointer (some ⟨B1, 0, none⟩), .pointer (some ⟨B2, 0, none⟩)]) rfl trivial (enters_of Try.func40 (by kernel_rfl) rfl)
      (ans_stops B1 B2 w.heap.size (fun b => b = bn ∨ b = b8) A Aq n ca cq l HL.out HOK.out HMAY.out w9 n0 (fun b hb => by rcases hb with rfl | rfl <;> omega) (kB1.cell 0) (kB2.cell 0) kB1.lt kB2.lt hSB1 hSB2 (hA.old hOw) iq hSA hSP)
      Kq.t (fun W l o o' hl h hc => Kq.putb (w := w9) n0 W l o o' hl h hc) (Below.refl _ _) (fun _ => rfl)
      (fun pre W => ((∀ y ∈ pre, goodA qt log l rd y.1 = true) ∧ Fr (fun b => b = bn ∨ b = b8 ∨ w9.heap.size ≤ b) w9 W) ∧ (Bk W bn 3 #[.int .i64 (pre.length : Nat)] ∧ Bk W b8 3 #[.int .i64 0]))
      (fun pre W => ((∃ ini x, pre = ini ++ [x] ∧ (∀ y ∈ ini, goodA qt log l rd y.1 = true) ∧ goodA qt log l rd x.1 = false) ∧ Fr (fun b => b = bn ∨ b = b8 ∨ w9.heap.size ≤ b) w9 W) ∧ Bk W b8 3 #[.int .i64 (-((pre.length : Nat) : Int))])
      (ownW_and (ownW_and (ownW_pure _ _) (ownW_fr fun b hb => .inr (.inr hb))) (ownW_and (ownW_bk (by omega)) (ownW_bk (by omega))))
      (ownW_and (ownW_and (ownW_pure _ _) (ownW_fr fun b hb => .inr (.inr hb))) (ownW_bk (by omega)))
      ⟨⟨(fun _ h => by cases h), Fr.refl _ _⟩, kn, k8⟩
      (fun x p => { tmps := #[.slice A n ca, .slice Al nl cl, .int .i64 qt, .bool rd, .pointer (some ⟨b4, 0, none⟩), undef, undef, .pointer (some ⟨b7, 0, none⟩), .pointer (some ⟨b8, 0, none⟩), .pointer (some ⟨b9, 0, none⟩), .bool true, .pointer (some ⟨bn, 0, none⟩), .int .i64 (x.1.1 : Int), .pointer (some ⟨p, 0, none⟩), .tuple #[.pointer (some ⟨m, 0, none⟩), .bool true], .slice Al nl cl, .int .i64 qt, .tuple #[.pointer (some ⟨m, 0, none⟩), .bool true], .pointer (some ⟨m, 0, none⟩), .bool true, .bool true, .bool false, .bool false, .slice A n ca, .bool true, .bool false, .bool false, .slice A n ca, .slice A n ca, .slice Ap n cp, .func (.func 40) #[] #[.pointer (some ⟨B1, 0, none⟩), .pointer (some ⟨B2, 0, none⟩)], .int .i64 (x.1.1 : Int), .agg #[.int .i64 x.1.2.1, .int .i64 x.1.2.2], undef, undef, undef, undef, undef, undef, undef, undef, undef, undef, undef, undef, undef, undef, undef, undef], defers := [] })
      (fun x => .cells #[.int .i64 x.1.2.1, .int .i64 x.1.2.2] 72) (fun W o h => Kq.grown (by omega) (Kq.refl _ _ W) (grown_alloc W o) (fun r e => by cases e)) ?assign ?body ?done ?stop
    case assign =>
      intro lp x W K hK
      gi_wp2
      exact hK
    case body =>
      rintro lp pre ⟨y, hy⟩ W p ⟨⟨hg, hfr⟩, hkn, hk8⟩ hpl hp hlen
      obtain ⟨x, hx, hi, hxa, hask, hpv⟩ := ansL_of hy
      obtain ⟨i, hii⟩ : ∃ i, y.1 = i := ⟨_, rfl⟩
      obtain ⟨ask, haska⟩ : ∃ i, y.2.1 = i := ⟨_, rfl⟩
      obtain ⟨pl, hplp⟩ : ∃ i, y.2.2 = i := ⟨_, rfl⟩
      obtain ⟨c, hc⟩ : ∃ c, pre.length = c := ⟨_, rfl⟩
      rw [hii] at hx hi hpv
      have hil : i < l.length := by have := HL.out; omega
      have hxl : l[i] = x := by rw [List.getElem?_eq_getElem hil] at hx; simpa using hx
      have hpb := at_b HMAY.out hil
      rw [hxl, ← hpv, hplp] at hpb
      obtain ⟨hp0, hp1⟩ := hpb
      rw [hc] at hkn hlen
      have hc1 : (c : Int) ≤ 1000 := by omega
      have hcw : IntKind.i64.wrap ((c : Int) + 1) = (c : Int) + 1 := IntWalk.i64_in _ (by omega)
      have hcn : IntKind.i64.wrap (-((c : Int) + 1)) = -((c : Int) + 1) := IntWalk.i64_in _ (by omega)
      have hii2 : (i : Int) < n := by omega
      have HC := hide hc
      have HG := hide hg
      have e4 := k4.fr hfr (fun h => by omega)
      have e7 := k7.fr hfr (fun h => by omega)
      have e9 := k9.fr hfr (fun h => by omega)
      have eM := hMD.fr hfr (fun h => by have h1 := hmV.1; rcases h with h | h | h <;> omega) (fun b hb h => by have h1 := hmV.2 b hb; rcases h with h | h | h <;> omega)
      have ep : Bk W p 72 #[.int .i64 y.2.1, .int .i64 y.2.2] := hp
      rw [haska, hplp] at ep
      have hOW : Old w W := hOw.fr_new hfr (fun b hb => by rcases hb with h | h | h <;> omega)
      have nb := hkn.cell 0
      have nf := hkn.frozen 0
      have nl2 := hkn.lt
      simp only [List.getElem?_toArray, List.getElem?_cons_zero] at nb
      obtain ⟨WE, hWEe⟩ : ∃ X, (W.setCell ⟨bn, 0, none⟩ (.int .i64 ((c : Int) + 1))).drew = X := ⟨_, rfl⟩
      have oo : Fr (fun b => b = bn) W WE := by rw [← hWEe]; exact ((Fr.refl (fun b => b = bn) W).setCell (p := ⟨bn, 0, none⟩) (.inr rfl) _).drew
      have e4 := e4.fr oo (fun h => by omega)
      have e7 := e7.fr oo (fun h => by omega)
      have e9 := e9.fr oo (fun h => by omega)
      have eM := eM.fr oo (fun h => by have := hmV.1; omega) (fun b hb h => by have := hmV.2 b hb; omega)
      have ep := ep.fr oo (fun h => by omega)
      have hOE : Old w WE := hOW.fr_new oo (fun b hb => by omega)
      have hWEz : W.heap.size ≤ WE.heap.size := oo.size
      have hFE : Fr (fun b => b = bn ∨ b = b8 ∨ w9.heap.size ≤ b) w9 WE := hfr.trans' oo (fun b _ h => .inl h)
      have hKO : KeepsOthers W WE := by rw [← hWEe]; exact (KeepsOthers.setCell W _ _).trans (KeepsOthers.of_old (Old.refl' _).drew')
      have hWz : w9.heap.size ≤ W.heap.size := hfr.size
      have hKQ : Kq w.heap.size (fun b => b = bn ∨ b = b8) W WE := by rw [← hWEe]; exact (Kq.setc W ⟨bn, 0, none⟩ _ (.inl rfl) (show w.heap.size ≤ bn by omega)).t (Kq.of_old (by simp [World.setCell]; omega) (Old.refl' _).drew')
      have hkE : Bk WE bn 3 #[.int .i64 ((c : Int) + 1)] := by rw [← hWEe]; exact (by simpa using hkn.set_ 0 (.int .i64 ((c : Int) + 1)) : Bk (W.setCell ⟨bn, 0, none⟩ (.int .i64 ((c : Int) + 1))) bn 3 _).drew
      have hk8E : Bk WE b8 3 #[.int .i64 0] := hk8.fr oo (fun h => by omega)
      obtain ⟨b0, o, hAe, hb0, hcc⟩ := hA.at_ (k := i) hil
      subst hAe
      rw [hx] at hcc
      have hxm : x ∈ l := hxl ▸ List.getElem_mem hil
      have CS := hide (fun (U : World) (h : Old WE U) => (⟨(e4.old h).cell 0, (e7.old h).cell 0, (e9.old h).cell 0, (ep.old h).cell 0, (ep.old h).cell 1, ((hOE.trans' h).cell (p := ⟨b0, o + i * 14, none⟩) hb0).trans (hcc 0 _ (by omega) rfl), ((hOE.trans' h).cell (p := ⟨b0, o + i * 14 + 1, none⟩) hb0).trans (hcc 1 _ (by omega) rfl), ((hOE.trans' h).cell (p := ⟨b0, o + i * 14 + 2, none⟩) hb0).trans (hcc 2 _ (by omega) rfl), ((hOE.trans' h).cell (p := ⟨b0, o + i * 14 + 3, none⟩) hb0).trans (hcc 3 _ (by omega) rfl), ((hOE.trans' h).cell (p := ⟨b0, o + i * 14 + 4, none⟩) hb0).trans (hcc 4 _ (by omega) rfl), ((hOE.trans' h).cell (p := ⟨b0, o + i * 14 + 5, none⟩) hb0).trans (hcc 5 _ (by omega) rfl), ((hOE.trans' h).cell (p := ⟨b0, o + i * 14 + 6, none⟩) hb0).trans (hcc 6 _ (by omega) rfl), ((hOE.trans' h).cell (p := ⟨b0, o + i * 14 + 7, none⟩) hb0).trans (hcc 7 _ (by omega) rfl), ((hOE.trans' h).cell (p := ⟨b0, o + i * 14 + 8, none⟩) hb0).trans (hcc 8 _ (by omega) rfl), ((hOE.trans' h).cell (p := ⟨b0, o + i * 14 + 9, none⟩) hb0).trans (hcc 9 _ (by omega) rfl), ((hOE.trans' h).cell (p := ⟨b0, o + i * 14 + 10, none⟩) hb0).trans (hcc 10 _ (by omega) rfl), ((hOE.trans' h).cell (p := ⟨b0, o + i * 14 + 11, none⟩) hb0).trans (hcc 11 _ (by omega) rfl), ((hOE.trans' h).cell (p := ⟨b0, o + i * 14 + 12, none⟩) hb0).trans (hcc 12 _ (by omega) rfl), ((hOE.trans' h).cell (p := ⟨b0, o + i * 14 + 13, none⟩) hb0).trans (hcc 13 _ (by omega) rfl)⟩ :
        U.cell? ⟨b4, 0, none⟩ = some (.slice (some ⟨b0, o, none⟩) n ca) ∧ U.cell? ⟨b7, 0, none⟩ = some (.bool rd) ∧ U.cell? ⟨b9, 0, none⟩ = some (.pointer (some ⟨m, 0, none⟩)) ∧ U.cell? ⟨p, 0, none⟩ = some (.int .i64 ask) ∧ U.cell? ⟨p, 1, none⟩ = some (.int .i64 pl) ∧ U.cell? ⟨b0, o + i * 14, none⟩ = some (.int .i64 x.client) ∧ U.cell? ⟨b0, o + i * 14 + 1, none⟩ = some (.int .i64 x.seq) ∧ U.cell? ⟨b0, o + i * 14 + 2, none⟩ = some (.bool x.ans) ∧ U.cell? ⟨b0, o + i * 14 + 3, none⟩ = some (.int .i64 x.q.client) ∧ U.cell? ⟨b0, o + i * 14 + 4, none⟩ = some (.int .i64 x.q.seq) ∧ U.cell? ⟨b0, o + i * 14 + 5, none⟩ = some (.int .i64 x.q.kind) ∧ U.cell? ⟨b0, o + i * 14 + 6, none⟩ = some (.int .i64 x.q.id) ∧ U.cell? ⟨b0, o + i * 14 + 7, none⟩ = some (.int .i64 x.q.mat) ∧ U.cell? ⟨b0, o + i * 14 + 8, none⟩ = some (.string x.q.data) ∧ U.cell? ⟨b0, o + i * 14 + 9, none⟩ = some (.int .i64 x.r.code) ∧ U.cell? ⟨b0, o + i * 14 + 10, none⟩ = some (.int .i64 x.r.ver) ∧ U.cell? ⟨b0, o + i * 14 + 11, none⟩ = some (.string x.r.data) ∧ U.cell? ⟨b0, o + i * 14 + 12, none⟩ = some (.slice x.A x.r.vs.length x.cap) ∧ U.cell? ⟨b0, o + i * 14 + 13, none⟩ = some (.int .i64 x.at_)))
      have hgx : goodA qt log l rd y = rightP qt log x ask pl rd := by unfold goodA; rw [hii, hx, haska, hplp]
      obtain ⟨gb, hgb⟩ : ∃ b, rightP qt log x ask pl rd = b := ⟨_, rfl⟩
      rw [hgb] at hgx
      have cRx := hide (fun (U : World) (h : Old WE U) => cR.out m V x hxm ask pl hp0 hp1 gb hgb U (eM.old h) (hOE.trans' h))
      have HGX := hide hgx
      simp only [hii, haska, hplp]
      clear hgb hgx hg hx hxl hask hpv hxa hc e4 e7 e9 ep eM hOW hfr hkn hk8 hp oo k4 k7 k8 k9 kn hMD hi hii haska hplp
      cases gb
      · gi_wp2
        refine region_stepsI (R := pick [eqv (.pointer (some ⟨m, 0, none⟩)), eqv (.slice (some ⟨b0, o, none⟩) n ca), eqv (.int .i64 i), eqv (.pointer (some ⟨b0, o + i * 14, none⟩)), eqv (.agg #[.int .i64 x.client, .int .i64 x.seq, .bool x.ans, .int .i64 x.q.client, .int .i64 x.q.seq, .int .i64 x.q.kind, .int .i64 x.q.id, .int .i64 x.q.mat, .string x.q.data, .int .i64 x.r.code, .int .i64 x.r.ver, .string x.r.data, .slice x.A x.r.vs.length x.cap, .int .i64 x.at_]), eqv (.pointer (some ⟨p, 0, none⟩)), eqv (.int .i64 ask), eqv (.pointer (some ⟨p, 1, none⟩)), eqv (.int .i64 pl), eqv (.bool rd), eqv (.bool false), eqv (.bool true)]) (S := fun _ w' => Old WE w') (T := Old) (by kernel_rfl) (by kernel_rfl) (by kernel_rfl) (Stab.pick (Stab.eqv (Stab.eqv (Stab.eqv (Stab.eqv (Stab.eqv (Stab.eqv (Stab.eqv (Stab.eqv (Stab.eqv (Stab.eqv (Stab.eqv (Stab.eqv (Stab.nil)))))))))))))) (hWEe ▸ Old.refl' _) ?steps ?ends
        case steps =>
          refine StepsOk.cons (stepOk_pureR [] [(9, .pointer (some ⟨b9, 0, none⟩))] rfl rfl rfl (by kernel_rfl) (by kernel_rfl) rfl Old.refl' (fun _ _ _ h => h) (fun d E w' hk hda hS hc hf => by rintro  e9; obtain ⟨g4, g7, g9, gp0, gp1, g0, g1, g2, g3, g14, g5, g6, g17, g8, g19, g10, g11, g12, g13⟩ := CS.out _ hS; exact ⟨_, by go_simp, rfl⟩)) ?_
          refine StepsOk.cons (stepOk_pureR [] [(4, .pointer (some ⟨b4, 0, none⟩))] rfl rfl rfl (by kernel_rfl) (by kernel_rfl) rfl Old.refl' (fun _ _ _ h => h) (fun d E w' hk hda hS hc hf => by rintro  e4; obtain ⟨g4, g7, g9, gp0, gp1, g0, g1, g2, g3, g14, g5, g6, g17, g8, g19, g10, g11, g12, g13⟩ := CS.out _ hS; exact ⟨_, by go_simp, rfl⟩)) ?_
          refine StepsOk.cons (stepOk_pureR [] [(12, .int .i64 i)] rfl rfl rfl (by kernel_rfl) (by kernel_rfl) rfl Old.refl' (fun _ _ _ h => h) (fun d E w' hk hda hS hc hf => by rintro  e12; exact ⟨_, by go_simp, rfl⟩)) ?_
          refine StepsOk.cons (stepOk_pureR [(1, 36), (2, 37)] [] rfl rfl rfl (by kernel_rfl) (by kernel_rfl) rfl Old.refl' (fun _ _ _ h => h) (fun d E w' hk hda hS hc hf => by rintro _ q1 rfl e36 _ q2 rfl e37 ; obtain ⟨g4, g7, g9, gp0, gp1, g0, g1, g2, g3, g14, g5, g6, g17, g8, g19, g10, g11, g12, g13⟩ := CS.out _ hS; exact ⟨_, by go_simp, rfl⟩)) ?_
          refine StepsOk.cons (stepOk_pureR [(3, 38)] [] rfl rfl rfl (by kernel_rfl) (by kernel_rfl) rfl Old.refl' (fun _ _ _ h => h) (fun d E w' hk hda hS hc hf => by rintro _ q3 rfl e38 ; obtain ⟨g4, g7, g9, gp0, gp1, g0, g1, g2, g3, g14, g5, g6, g17, g8, g19, g10, g11, g12, g13⟩ := CS.out _ hS; exact ⟨_, by go_simp, rfl⟩)) ?_
          refine StepsOk.cons (stepOk_pureR [] [(13, .pointer (some ⟨p, 0, none⟩))] rfl rfl rfl (by kernel_rfl) (by kernel_rfl) rfl Old.refl' (fun _ _ _ h => h) (fun d E w' hk hda hS hc hf => by rintro  e13; obtain ⟨g4, g7, g9, gp0, gp1, g0, g1, g2, g3, g14, g5, g6, g17, g8, g19, g10, g11, g12, g13⟩ := CS.out _ hS; exact ⟨_, by go_simp, rfl⟩)) ?_
          refine StepsOk.cons (stepOk_pureR [(5, 40)] [] rfl rfl rfl (by kernel_rfl) (by kernel_rfl) rfl Old.refl' (fun _ _ _ h => h) (fun d E w' hk hda hS hc hf => by rintro _ q5 rfl e40 ; obtain ⟨g4, g7, g9, gp0, gp1, g0, g1, g2, g3, g14, g5, g6, g17, g8, g19, g10, g11, g12, g13⟩ := CS.out _ hS; exact ⟨_, by go_simp, rfl⟩)) ?_
          refine StepsOk.cons (stepOk_pureR [] [(13, .pointer (some ⟨p, 0, none⟩))] rfl rfl rfl (by kernel_rfl) (by kernel_rfl) rfl Old.refl' (fun _ _ _ h => h) (fun d E w' hk hda hS hc hf => by rintro  e13; obtain ⟨g4, g7, g9, gp0, gp1, g0, g1, g2, g3, g14, g5, g6, g17, g8, g19, g10, g11, g12, g13⟩ := CS.out _ hS; exact ⟨_, by go_simp, rfl⟩)) ?_
          refine StepsOk.cons (stepOk_pureR [(7, 42)] [] rfl rfl rfl (by kernel_rfl) (by kernel_rfl) rfl Old.refl' (fun _ _ _ h => h) (fun d E w' hk hda hS hc hf => by rintro _ q7 rfl e42 ; obtain ⟨g4, g7, g9, gp0, gp1, g0, g1, g2, g3, g14, g5, g6, g17, g8, g19, g10, g11, g12, g13⟩ := CS.out _ hS; exact ⟨_, by go_simp, rfl⟩)) ?_
          refine StepsOk.cons (stepOk_pureR [] [(7, .pointer (some ⟨b7, 0, none⟩))] rfl rfl rfl (by kernel_rfl) (by kernel_rfl) rfl Old.refl' (fun _ _ _ h => h) (fun d E w' hk hda hS hc hf => by rintro  e7; obtain ⟨g4, g7, g9, gp0, gp1, g0, g1, g2, g3, g14, g5, g6, g17, g8, g19, g10, g11, g12, g13⟩ := CS.out _ hS; exact ⟨_, by go_simp, rfl⟩)) ?_
          refine StepsOk.cons (stepOk_mkR [(0, 35), (4, 39), (6, 41), (8, 43), (9, 44)] [] rfl rfl (by kernel_rfl) (by kernel_rfl) rfl ?_) ?_
          · rintro d a w' hk hda hS _ q0 rfl e35 _ q4 rfl e39 _ q6 rfl e41 _ q8 rfl e43 _ q9 rfl e44 
            first | refine Given.nil (Known.nil ?_) | refine Known.nil ?_
            refine wpIn_callR 26 _ Try.func26 (by kernel_rfl) (by kernel_rfl) _ _ (by rfl) [.pointer (some ⟨m, 0, none⟩), .agg #[.int .i64 x.client, .int .i64 x.seq, .bool x.ans, .int .i64 x.q.client, .int .i64 x.q.seq, .int .i64 x.q.kind, .int .i64 x.q.id, .int .i64 x.q.mat, .string x.q.data, .int .i64 x.r.code, .int .i64 x.r.ver, .string x.r.data, .slice x.A x.r.vs.length x.cap, .int .i64 x.at_], .int .i64 ask, .int .i64 pl, .bool rd] (by simp only [List.map_cons, List.map_nil, *]; try rfl) (cRx.out _ hS) ?_
            rintro e w1 ⟨rfl, f4⟩
            exact ⟨_, rfl, _, rfl, rfl, f4, hS.trans' f4⟩
          refine StepsOk.cons (stepOk_pureR [(10, 45)] [] rfl rfl rfl (by kernel_rfl) (by kernel_rfl) rfl Old.refl' (fun _ _ _ h => h) (fun d E w' hk hda hS hc hf => by rintro _ q10 rfl e45 ; exact ⟨_, by go_simp, rfl⟩)) ?_
          exact StepsOk.nil
        case ends =>
          intro σ9 w9 hS9 hA9
          refine Ends.eqv (some 35) (.pointer (some ⟨m, 0, none⟩)) rfl (fun _ h => h) ?_
          refine Ends.eqv (some 36) (.slice (some ⟨b0, o, none⟩) n ca) rfl (fun _ h => h) ?_
          refine Ends.eqv (some 37) (.int .i64 i) rfl (fun _ h => h) ?_
          refine Ends.eqv (some 38) (.pointer (some ⟨b0, o + i * 14, none⟩)) rfl (fun _ h => h) ?_
          refine Ends.eqv (some 39) (.agg #[.int .i64 x.client, .int .i64 x.seq, .bool x.ans, .int .i64 x.q.client, .int .i64 x.q.seq, .int .i64 x.q.kind, .int .i64 x.q.id, .int .i64 x.q.mat, .string x.q.data, .int .i64 x.r.code, .int .i64 x.r.ver, .string x.r.data, .slice x.A x.r.vs.length x.cap, .int .i64 x.at_]) rfl (fun _ h => h) ?_
          refine Ends.eqv (some 40) (.pointer (some ⟨p, 0, none⟩)) rfl (fun _ h => h) ?_
          refine Ends.eqv (some 41) (.int .i64 ask) rfl (fun _ h => h) ?_
          refine Ends.eqv (some 42) (.pointer (some ⟨p, 1, none⟩)) rfl (fun _ h => h) ?_
          refine Ends.eqv (some 43) (.int .i64 pl) rfl (fun _ h => h) ?_
          refine Ends.eqv (some 44) (.bool rd) rfl (fun _ h => h) ?_
          refine Ends.eqv (some 45) (.bool false) rfl (fun _ h => h) ?_
          refine Ends.eqv (some 46) (.bool true) rfl (fun _ h => h) ?_
          refine Ends.nil ?_
          clear hA9
          simp only [put_lit, put_none, List.set_cons_zero, List.set_cons_succ]
          clear CS
          have hkn9 := hkE.old hS9
          have hk89 := hk8E.old hS9
          have q0 := hkn9.cell 0
          have q1 := hk89.cell 0
          have q2 := hk89.frozen 0
          simp only [List.getElem?_toArray, List.getElem?_cons_zero] at q0 q1
          gi_wp2
          exact ⟨(hKO.trans (KeepsOthers.of_old hS9)).trans (KeepsOthers.setCell _ _ _), rfl, ⟨⟨pre, ⟨y, hy⟩, rfl, HG.out, HGX.out⟩, (hFE.trans' (Fr.of_old (S := fun _ => False) hS9) (fun _ _ h => h.elim)).setCell (p := ⟨b8, 0, none⟩) (.inr (.inr (.inl rfl))) _⟩, by rw [List.length_append, HC.out]; simpa using hk89.set_ 0 (.int .i64 (-((c : Int) + 1)))⟩
      · gi_wp2
        refine region_stepsI (R := pick [eqv (.pointer (some ⟨m, 0, none⟩)), eqv (.slice (some ⟨b0, o, none⟩) n ca), eqv (.int .i64 i), eqv (.pointer (some ⟨b0, o + i * 14, none⟩)), eqv (.agg #[.int .i64 x.client, .int .i64 x.seq, .bool x.ans, .int .i64 x.q.client, .int .i64 x.q.seq, .int .i64 x.q.kind, .int .i64 x.q.id, .int .i64 x.q.mat, .string x.q.data, .int .i64 x.r.code, .int .i64 x.r.ver, .string x.r.data, .slice x.A x.r.vs.length x.cap, .int .i64 x.at_]), eqv (.pointer (some ⟨p, 0, none⟩)), eqv (.int .i64 ask), eqv (.pointer (some ⟨p, 1, none⟩)), eqv (.int .i64 pl), eqv (.bool rd), eqv (.bool true), eqv (.bool false)]) (S := fun _ w' => Old WE w') (T := Old) (by kernel_rfl) (by kernel_rfl) (by kernel_rfl) (Stab.pick (Stab.eqv (Stab.eqv (Stab.eqv (Stab.eqv (Stab.eqv (Stab.eqv (Stab.eqv (Stab.eqv (Stab.eqv (Stab.eqv (Stab.eqv (Stab.eqv (Stab.nil)))))))))))))) (hWEe ▸ Old.refl' _) ?steps ?ends
        case steps =>
          refine StepsOk.cons (stepOk_pureR [] [(9, .pointer (some ⟨b9, 0, none⟩))] rfl rfl rfl (by kernel_rfl) (by kernel_rfl) rfl Old.refl' (fun _ _ _ h => h) (fun d E w' hk hda hS hc hf => by rintro  e9; obtain ⟨g4, g7, g9, gp0, gp1, g0, g1, g2, g3, g14, g5, g6, g17, g8, g19, g10, g11, g12, g13⟩ := CS.out _ hS; exact ⟨_, by go_simp, rfl⟩)) ?_
          refine StepsOk.cons (stepOk_pureR [] [(4, .pointer (some ⟨b4, 0, none⟩))] rfl rfl rfl (by kernel_rfl) (by kernel_rfl) rfl Old.refl' (fun _ _ _ h => h) (fun d E w' hk hda hS hc hf => by rintro  e4; obtain ⟨g4, g7, g9, gp0, gp1, g0, g1, g2, g3, g14, g5, g6, g17, g8, g19, g10, g11, g12, g13⟩ := CS.out _ hS; exact ⟨_, by go_simp, rfl⟩)) ?_
          refine StepsOk.cons (stepOk_pureR [] [(12, .int .i64 i)] rfl rfl rfl (by kernel_rfl) (by kernel_rfl) rfl Old.refl' (fun _ _ _ h => h) (fun d E w' hk hda hS hc hf => by rintro  e12; exact ⟨_, by go_simp, rfl⟩)) ?_
          refine StepsOk.cons (stepOk_pureR [(1, 36), (2, 37)] [] rfl rfl rfl (by kernel_rfl) (by kernel_rfl) rfl Old.refl' (fun _ _ _ h => h) (fun d E w' hk hda hS hc hf => by rintro _ q1 rfl e36 _ q2 rfl e37 ; obtain ⟨g4, g7, g9, gp0, gp1, g0, g1, g2, g3, g14, g5, g6, g17, g8, g19, g10, g11, g12, g13⟩ := CS.out _ hS; exact ⟨_, by go_simp, rfl⟩)) ?_
          refine StepsOk.cons (stepOk_pureR [(3, 38)] [] rfl rfl rfl (by kernel_rfl) (by kernel_rfl) rfl Old.refl' (fun _ _ _ h => h) (fun d E w' hk hda hS hc hf => by rintro _ q3 rfl e38 ; obtain ⟨g4, g7, g9, gp0, gp1, g0, g1, g2, g3, g14, g5, g6, g17, g8, g19, g10, g11, g12, g13⟩ := CS.out _ hS; exact ⟨_, by go_simp, rfl⟩)) ?_
          refine StepsOk.cons (stepOk_pureR [] [(13, .pointer (some ⟨p, 0, none⟩))] rfl rfl rfl (by kernel_rfl) (by kernel_rfl) rfl Old.refl' (fun _ _ _ h => h) (fun d E w' hk hda hS hc hf => by rintro  e13; obtain ⟨g4, g7, g9, gp0, gp1, g0, g1, g2, g3, g14, g5, g6, g17, g8, g19, g10, g11, g12, g13⟩ := CS.out _ hS; exact ⟨_, by go_simp, rfl⟩)) ?_
          refine StepsOk.cons (stepOk_pureR [(5, 40)] [] rfl rfl rfl (by kernel_rfl) (by kernel_rfl) rfl Old.refl' (fun _ _ _ h => h) (fun d E w' hk hda hS hc hf => by rintro _ q5 rfl e40 ; obtain ⟨g4, g7, g9, gp0, gp1, g0, g1, g2, g3, g14, g5, g6, g17, g8, g19, g10, g11, g12, g13⟩ := CS.out _ hS; exact ⟨_, by go_simp, rfl⟩)) ?_
          refine StepsOk.cons (stepOk_pureR [] [(13, .pointer (some ⟨p, 0, none⟩))] rfl rfl rfl (by kernel_rfl) (by kernel_rfl) rfl Old.refl' (fun _ _ _ h => h) (fun d E w' hk hda hS hc hf => by rintro  e13; obtain ⟨g4, g7, g9, gp0, gp1, g0, g1, g2, g3, g14, g5, g6, g17, g8, g19, g10, g11, g12, g13⟩ := CS.out _ hS; exact ⟨_, by go_simp, rfl⟩)) ?_
          refine StepsOk.cons (stepOk_pureR [(7, 42)] [] rfl rfl rfl (by kernel_rfl) (by kernel_rfl) rfl Old.refl' (fun _ _ _ h => h) (fun d E w' hk hda hS hc hf => by rintro _ q7 rfl e42 ; obtain ⟨g4, g7, g9, gp0, gp1, g0, g1, g2, g3, g14, g5, g6, g17, g8, g19, g10, g11, g12, g13⟩ := CS.out _ hS; exact ⟨_, by go_simp, rfl⟩)) ?_
          refine StepsOk.cons (stepOk_pureR [] [(7, .pointer (some ⟨b7, 0, none⟩))] rfl rfl rfl (by kernel_rfl) (by kernel_rfl) rfl Old.refl' (fun _ _ _ h => h) (fun d E w' hk hda hS hc hf => by rintro  e7; obtain ⟨g4, g7, g9, gp0, gp1, g0, g1, g2, g3, g14, g5, g6, g17, g8, g19, g10, g11, g12, g13⟩ := CS.out _ hS; exact ⟨_, by go_simp, rfl⟩)) ?_
          refine StepsOk.cons (stepOk_mkR [(0, 35), (4, 39), (6, 41), (8, 43), (9, 44)] [] rfl rfl (by kernel_rfl) (by kernel_rfl) rfl ?_) ?_
          · rintro d a w' hk hda hS _ q0 rfl e35 _ q4 rfl e39 _ q6 rfl e41 _ q8 rfl e43 _ q9 rfl e44 
            first | refine Given.nil (Known.nil ?_) | refine Known.nil ?_
            refine wpIn_callR 26 _ Try.func26 (by kernel_rfl) (by kernel_rfl) _ _ (by rfl) [.pointer (some ⟨m, 0, none⟩), .agg #[.int .i64 x.client, .int .i64 x.seq, .bool x.ans, .int .i64 x.q.client, .int .i64 x.q.seq, .int .i64 x.q.kind, .int .i64 x.q.id, .int .i64 x.q.mat, .string x.q.data, .int .i64 x.r.code, .int .i64 x.r.ver, .string x.r.data, .slice x.A x.r.vs.length x.cap, .int .i64 x.at_], .int .i64 ask, .int .i64 pl, .bool rd] (by simp only [List.map_cons, List.map_nil, *]; try rfl) (cRx.out _ hS) ?_
            rintro e w1 ⟨rfl, f4⟩
            exact ⟨_, rfl, _, rfl, rfl, f4, hS.trans' f4⟩
          refine StepsOk.cons (stepOk_pureR [(10, 45)] [] rfl rfl rfl (by kernel_rfl) (by kernel_rfl) rfl Old.refl' (fun _ _ _ h => h) (fun d E w' hk hda hS hc hf => by rintro _ q10 rfl e45 ; exact ⟨_, by go_simp, rfl⟩)) ?_
          exact StepsOk.nil
        case ends =>
          intro σ9 w9 hS9 hA9
          refine Ends.eqv (some 35) (.pointer (some ⟨m, 0, none⟩)) rfl (fun _ h => h) ?_
          refine Ends.eqv (some 36) (.slice (some ⟨b0, o, none⟩) n ca) rfl (fun _ h => h) ?_
          refine Ends.eqv (some 37) (.int .i64 i) rfl (fun _ h => h) ?_
          refine Ends.eqv (some 38) (.pointer (some ⟨b0, o + i * 14, none⟩)) rfl (fun _ h => h) ?_
          refine Ends.eqv (some 39) (.agg #[.int .i64 x.client, .int .i64 x.seq, .bool x.ans, .int .i64 x.q.client, .int .i64 x.q.seq, .int .i64 x.q.kind, .int .i64 x.q.id, .int .i64 x.q.mat, .string x.q.data, .int .i64 x.r.code, .int .i64 x.r.ver, .string x.r.data, .slice x.A x.r.vs.length x.cap, .int .i64 x.at_]) rfl (fun _ h => h) ?_
          refine Ends.eqv (some 40) (.pointer (some ⟨p, 0, none⟩)) rfl (fun _ h => h) ?_
          refine Ends.eqv (some 41) (.int .i64 ask) rfl (fun _ h => h) ?_
          refine Ends.eqv (some 42) (.pointer (some ⟨p, 1, none⟩)) rfl (fun _ h => h) ?_
          refine Ends.eqv (some 43) (.int .i64 pl) rfl (fun _ h => h) ?_
          refine Ends.eqv (some 44) (.bool rd) rfl (fun _ h => h) ?_
          refine Ends.eqv (some 45) (.bool true) rfl (fun _ h => h) ?_
          refine Ends.eqv (some 46) (.bool false) rfl (fun _ h => h) ?_
          refine Ends.nil ?_
          clear hA9
          simp only [put_lit, put_none, List.set_cons_zero, List.set_cons_succ]
          clear CS
          gi_wp2
          exact ⟨hKO.trans (KeepsOthers.of_old hS9), hKQ.t (Kq.of_old (by have := HZ.out; have := hWEz; omega) hS9), ⟨fun z hz => by rcases List.mem_append.1 hz with hz | hz; exact HG.out z hz; obtain rfl : z = ⟨y, hy⟩ := (by simpa using hz); exact HGX.out, hFE.trans' (Fr.of_old (S := fun _ => False) hS9) (fun _ _ h => h.elim)⟩, by rw [List.length_append, HC.out]; exact hkE.old hS9, hk8E.old hS9⟩
    case done =>
      rintro D ys W hD hys ⟨⟨hg, hfr⟩, hkn, hk8⟩ hK
      have hE0 : E = 0 := by
        rw [← HE.out, ← hys]
        have := checkR_app (goodA qt log l rd) (ys.map (·.1)) [] 0 (fun z hz => by rw [List.mem_map] at hz; obtain ⟨u, hu, rfl⟩ := hz; exact hg u hu)
        rw [List.append_nil] at this
        rw [this]
        rfl
      subst hE0
      have hOW : Old w W := hOw.fr_new hfr (fun b hb => by rcases hb with h | h | h <;> omega)
      have q1 := hk8.cell 0
      have q2 := hk8.frozen 0
      simp only [List.getElem?_toArray, List.getElem?_cons_zero] at q1
      have hk82 := hk8.set_ 0 (.int .i64 0)
      have hK' := (KeepsOthers.setCell W ⟨b8, 0, none⟩ (.int .i64 0)).same D _ hK rfl
      have hO8 := Old.setCell' (p := ⟨b8, 0, none⟩) hOW (show w.heap.size ≤ b8 by omega) (.int .i64 0)
      clear hg hfr hkn hk8 hOW hys k4 k7 k8 k9 kn hMD
      gi_wp2
      refine ⟨by simp, .inl ⟨_, _, rfl, run_takeDeferred hK', ?_⟩⟩
      have a0 := (Bk.put hk82 hK' rfl (.deferred none)).cell 0
      simp at a0
      exact ⟨.int .i64 0, by simp [results, Try.f11, go_sem, a0], rfl, Old.put hO8 hK' (by omega) _⟩
    case stop =>
      rintro D pre W hD ⟨k, hk, hpre⟩ ⟨⟨⟨ini, x, rfl, hg, hgx⟩, hfr⟩, hk8⟩ hK
      obtain ⟨t, ht⟩ := ansL_pre l hk
      have e := congrArg (checkR (goodA qt log l rd) 0) ht
      rw [← hpre, List.map_append, List.append_assoc, checkR_app _ _ _ 0 (fun z hz => by rw [List.mem_map] at hz; obtain ⟨u, hu, rfl⟩ := hz; exact hg u hu)] at e
      have e2 : checkR (goodA qt log l rd) (0 + (ini.map (·.1)).length) ([x].map (·.1) ++ t) = -(((ini ++ [x]).length : Nat) : Int) := by
        show (if goodA qt log l rd x.1 then _ else _) = _
        rw [hgx]
        simp
      have hE0 := HE.out.symm.trans (e.trans e2)
      clear e e2 ht
      obtain ⟨R, hR⟩ : ∃ r : Int, -(((ini ++ [x]).length : Nat) : Int) = r := ⟨_, rfl⟩
      rw [hR] at hE0 hk8
      subst hE0
      have hOW : Old w W := hOw.fr_new hfr (fun b hb => by rcases hb with h | h | h <;> omega)
      clear hg hgx hfr hpre k4 k7 k8 k9 kn hMD hR
      gi_wp2
      refine ⟨by simp, .inl ⟨_, _, rfl, run_takeDeferred hK, ?_⟩⟩
      have a0 := (Bk.put hk8 hK rfl (.deferred none)).cell 0
      simp at a0
      first | exact ⟨.int .i64 E, by simp [results, Try.f11, go_sem, a0], rfl, Old.put hOW hK (by omega) _⟩ | exact ⟨.int .i64 R, by simp [results, Try.f11, go_sem, a0], rfl, Old.put hOW hK (by omega) _⟩
    end Go.Proofs.Ytffahoocbjfdaaa

/- check.Check whatever it is given; check.Writes. -/
namespace Go.Proofs.Ytffahoocbjfdaaa
open Go.RowKit Go.Shelf
attribute [local go_sem] Oper.semAt_some
set_option maxRecDepth 100000 in
set_option maxHeartbeats 4000000 in
theorem Check_bad (A : Option Addr) (n ca : Nat) (l : List ActV) (hl : n = l.length) (hok : Few23 l) (Al : Option Addr) (nl cl : Nat) (log : List ReqV) (hll : nl = log.length) (hnl : nl ≤ 1000) (qt : Int) (rd : Bool) (lb mb : Bool) (hlog : okLog qt log = lb) (hmay : mayP l = mb) (hb : (lb && mb) = false) (w : World) (hA : ActsAt w A l) (hQ : ReqsAt w Al log) :
    CallsIn Fence.wide 5 Try.prog 11 #[.slice A n ca, .slice Al nl cl, .int .i64 qt, .bool rd] w fun e w' => e = .returned (.int .i64 1) ∧ Old w w' := by
  have cN := hide (fun W (h : Old w W) => (NewModel_any Al nl cl log hll hnl qt lb hlog W (CellsAt.old hQ h)).mono (R' := fun e w' => ∃ P, e = .returned (.tuple #[.pointer P, .bool lb]) ∧ Old W w') fun e w' ⟨P, h1, h2, _⟩ => ⟨P, h1, h2⟩)
  have cM := hide (fun W (h : Old w W) => PMay_any A n ca l hl hok mb hmay W (hA.old h))
  clear hl hok hll hlog hmay hA hQ
  refine callsIn_of_wp_marks Try.func11 rfl trivial ?_ rfl
  simp only [Try.ntmps11, List.size_toArray, List.length_cons, List.length_nil, Nat.reduceAdd, Nat.reduceSub, Array.replicate_succ, Array.replicate_zero, List.push_toArray, List.append_toArray, List.nil_append, List.cons_append]
  obtain ⟨W0, hW0⟩ : ∃ X, ((w.alloc (.cells #[.slice A n ca] 28)).alloc (.cells #[.bool rd] 4)).alloc (.cells #[.int .i64 0] 3) = X := ⟨_, rfl⟩
  have o0 : Old w W0 := by rw [← hW0]; exact (((Old.refl' w).alloc' _).alloc' _).alloc' _
  obtain ⟨b4, hb4⟩ : ∃ x, w.heap.size = x := ⟨_, rfl⟩
  obtain ⟨b7, hb7⟩ : ∃ x, b4 + 1 = x := ⟨_, rfl⟩
  obtain ⟨b8, hb8⟩ : ∃ x, b7 + 1 = x := ⟨_, rfl⟩
  have k4 : Bk W0 b4 28 #[.slice A n ca] := by rw [← hW0, ← hb4]; exact ((Bk.new w 28 _).alloc _).alloc _
  have k8 : Bk W0 b8 3 #[.int .i64 0] := by
    rw [← hW0, ← hb8, ← hb7, ← hb4]
    have := bk_new1 (w.alloc (.cells #[.slice A n ca] 28)) (.cells #[.bool rd] 4) 3 #[.int .i64 0]
    simpa using this
  have hbw : w.heap.size ≤ b8 := by omega
  cases lb
  · clear hb
    gi_wp2_with (refine ⟨trivial, ?_⟩; gi_at_call 23; refine (callsIn_wide.2 (cN.out W0 o0)).mono ?_; rintro e w1 ⟨P, rfl, o1⟩; have k8' := k8.old (o1.alloc' (.cells #[.pointer P] 65)); have z8 := k8'.cell 0; have f8 := k8'.frozen 0)
    refine ⟨trivial, ?_⟩
    gi_wp2
    have a0 := (k8'.set_ 0 (.int .i64 1)).cell 0
    simp at a0
    exact ⟨.int .i64 1, by simp [results, Try.f11, go_sem, a0], rfl, Old.setCell' (p := ⟨b8, 0, none⟩) ((o0.trans' o1).alloc' _) hbw _⟩
  · obtain rfl : mb = false := by simpa using hb
    clear hb
    gi_wp2_with (first
      | (refine ⟨trivial, ?_⟩; gi_at_call 23; refine (callsIn_wide.2 (cN.out W0 o0)).mono ?_; rintro e w1 ⟨P, rfl, o1⟩; have z4 := (k4.old (o1.alloc' (.cells #[.pointer P] 65))).cell 0)
      | (refine ⟨trivial, ?_⟩; gi_at_call 24; refine (callsIn_wide.2 (cM.out _ (o0.trans' (o1.alloc' _)))).mono ?_; rintro e w2 ⟨rfl, o2⟩; have k8' := (k8.old (o1.alloc' (.cells #[.pointer P] 65))).old o2; have z8 := k8'.cell 0; have f8 := k8'.frozen 0))
    have a0 := (k8'.set_ 0 (.int .i64 1)).cell 0
    simp at a0
    exact ⟨.int .i64 1, by simp [results, Try.f11, go_sem, a0], rfl, Old.setCell' (p := ⟨b8, 0, none⟩) ((o0.trans' (o1.alloc' _)).trans' o2) hbw _⟩
theorem Check_any (A : Option Addr) (n ca : Nat) (l : List ActV) (hl : n = l.length) (hok : Few23 l) (Al : Option Addr) (nl cl : Nat) (log : List ReqV) (hll : nl = log.length) (hnl : nl ≤ 1000) (hcl : nl ≤ cl) (qt : Int) (rd : Bool) (E : Int) (hE : checkP l log qt rd = E) (w : World) (hA : ActsAt w A l) (hQ : ReqsAt w Al log) :
    Calls Try.prog 11 #[.slice A n ca, .slice Al nl cl, .int .i64 qt, .bool rd] w fun e w' => e = .returned (.int .i64 E) ∧ Old w w' := by
  unfold checkP at hE
  by_cases h1 : okLog qt log = true
  · by_cases h2 : mayP l = true
    · rw [h1, h2, ← hl] at hE
      exact callsIn_wide.1 (Check_in A n ca l hl hok Al nl cl log hll hnl hcl qt rd h1 h2 E hE w hA hQ)
    · have h2' : mayP l = false := by simpa using h2
      rw [h1, h2'] at hE
      exact hE ▸ callsIn_wide.1 (Check_bad A n ca l hl hok Al nl cl log hll hnl qt rd true false h1 h2' rfl w hA hQ)
  · have h1' : okLog qt log = false := by simpa using h1
    rw [h1', Bool.false_and] at hE
    exact hE ▸ callsIn_wide.1 (Check_bad A n ca l hl hok Al nl cl log hll hnl qt rd false _ h1' rfl rfl w hA hQ)
set_option maxHeartbeats 400000 in
theorem CWrites_any (A : Option Addr) (n ca : Nat) (l : List ActV) (hl : n = l.length) (hok : Few23 l) (Al : Option Addr) (nl cl : Nat) (log : List ReqV) (hll : nl = log.length) (hnl : nl ≤ 1000) (hcl : nl ≤ cl) (qt : Int) (E : Int) (hE : checkP l log qt false = E) (w : World) (hA : ActsAt w A l) (hQ : ReqsAt w Al log) :
    Calls Try.prog 17 #[.slice A n ca, .slice Al nl cl, .int .i64 qt] w fun e w' => e = .returned (.int .i64 E) ∧ Old w w' := by
  have cC := hide (Check_any A n ca l hl hok Al nl cl log hll hnl hcl qt false E hE w hA hQ)
  clear hl hok hll hE hA hQ
  go_enter Try.func17, Try.ntmps17
  go_wp2_with (go_at_call 11; refine cC.out.mono ?_; rintro e w1 ⟨rfl, h1⟩)
  go_ret
  exact ⟨rfl, h1⟩
end Go.Proofs.Ytffahoocbjfdaaa
