/- check.Places. -/
import Derived.Test.YtffahoocbjfdaaaHPaM
namespace Go.Proofs.Ytffahoocbjfdaaa
open Go.RowKit
def PV.ok (s : PV) : Prop := ∀ c, ¬ (0 ≤ c ∧ c < 4) → s.wait c = none
theorem PV.step_b {s s' : PV} {a : ActV} (h : s.ok) (hs : s.step a = some s') : s'.ok ∧ (0 ≤ a.client ∧ a.client < 4) ∧ 0 ≤ a.at_ ∧ a.at_ ≤ 1073741824 := by
  unfold PV.step at hs
  split at hs
  · rename_i ha
    split at hs
    · rename_i hc
      obtain ⟨hE, hW⟩ := hc
      injection hs with hs
      subst hs
      have h1 : 0 ≤ a.client ∧ a.client < 4 := Classical.byContradiction fun hn => by
        unfold PV.isW at hW
        rw [h _ hn] at hW
        cases hW
      refine ⟨fun c hc => ?_, h1, ?_⟩
      · show (if c = a.client then none else s.wait c) = none
        split
        · rfl
        · exact h c hc
      · unfold PV.ansE at hE
        by_cases hb : a.at_ < 0 ∨ 1073741824 < a.at_
        · rw [if_pos hb] at hE; cases hE
        · omega
    · cases hs
  · split at hs
    · rename_i hc
      obtain ⟨hE, h1, h2, h3, -⟩ := hc
      injection hs with hs
      subst hs
      have hm : a.q.q.may = true := by
        unfold PV.askE at hE
        by_cases hm : a.q.q.may = true
        · exact hm
        · rw [if_neg hm] at hE; cases hE
      have hb := (mayQ_b (c := a.q.client) (s := a.q.seq) (k := a.q.kind) (i := a.q.id) (m := a.q.mat) (d := a.q.data) hm).1
      refine ⟨fun c hc => ?_, by omega, by omega, by omega⟩
      show (if c = a.q.client then some a.q else s.wait c) = none
      rw [if_neg (by omega)]
      exact h c hc
    · cases hs
theorem stepsP_split {l : List ActV} (h : mayP l = true) {k : Nat} (hk : k < l.length) : ∃ s s', stepsP (l.take k) = some s ∧ s.step l[k] = some s' ∧ stepsP (l.take (k + 1)) = some s' := by
  have h1 : stepsP (l.take (k + 1)) ≠ none := fun e => by
    have h2 := stepsP_none _ (l.drop (k + 1)) e
    rw [List.take_append_drop] at h2
    unfold mayP at h
    rw [h2] at h
    cases h
  rw [List.take_succ_eq_append_getElem hk, stepsP_snoc] at h1
  rw [List.take_succ_eq_append_getElem hk, stepsP_snoc]
  cases h2 : stepsP (l.take k) with
  | none => rw [h2] at h1; exact absurd rfl h1
  | some s =>
    rw [h2] at h1
    obtain ⟨s', h3⟩ := Option.ne_none_iff_exists'.1 h1
    exact ⟨s, s', rfl, h3, h3⟩
theorem stepsP_ok : ∀ {l : List ActV} {s : PV}, mayP l = true → ∀ k, k ≤ l.length → stepsP (l.take k) = some s → s.ok := by
  intro l s h k
  induction k generalizing s with
  | zero => intro _ hs; injection hs with hs; subst hs; exact fun _ _ => rfl
  | succ k ih =>
    intro hk hs
    obtain ⟨s1, s2, h1, h2, h3⟩ := stepsP_split h (show k < l.length by omega)
    rw [h3] at hs
    injection hs with hs
    subst hs
    exact (PV.step_b (ih (by omega) h1) h2).1
theorem mayP_b {l : List ActV} (h : mayP l = true) {k : Nat} (hk : k < l.length) : (0 ≤ l[k].client ∧ l[k].client < 4) ∧ 0 ≤ l[k].at_ ∧ l[k].at_ ≤ 1073741824 := by
  obtain ⟨s1, s2, h1, h2, h3⟩ := stepsP_split h hk
  exact (PV.step_b (stepsP_ok h k (by omega) h1) h2).2
structure PlV where
  g : Int
  asked : Int → Int
def PlV.at_ (s : PlV) (a : ActV) : Int := if a.ans then (if Writes a.q.kind then a.at_ else max a.at_ (s.asked a.client)) else s.g
def PlV.next (s : PlV) (a : ActV) : PlV := if a.ans then ⟨max s.g (s.at_ a), s.asked⟩ else ⟨s.g, fun c => if c = a.client then s.g else s.asked c⟩
def plSt (l : List ActV) : PlV := l.foldl PlV.next ⟨0, fun _ => 0⟩
def plOutN (l : List ActV) (k : Nat) : List Int := (List.range k).map fun i => (plSt (l.take i)).at_ (l[i]?.getD default)
def plOut (l : List ActV) : List Int := if mayP l then plOutN l l.length else []
theorem plSt_take {l : List ActV} {k : Nat} (hk : k < l.length) : plSt (l.take (k + 1)) = (plSt (l.take k)).next l[k] := by
  unfold plSt; rw [List.take_succ_eq_append_getElem hk, List.foldl_append]; rfl
theorem plOutN_succ (l : List ActV) (k : Nat) : plOutN l (k + 1) = plOutN l k ++ [(plSt (l.take k)).at_ (l[k]?.getD default)] := by simp [plOutN, List.range_succ]
theorem plOutN_length (l : List ActV) (k : Nat) : (plOutN l k).length = k := by simp [plOutN]
theorem asked_get {w : World} {pb : Nat} {f : Int → Int} {t : TypeId} (h : Bk w pb t #[.int .i64 (f 0), .int .i64 (f 1), .int .i64 (f 2), .int .i64 (f 3)]) {c : Nat} (hc : c < 4) : w.cell? ⟨pb, c, none⟩ = some (.int .i64 (f c)) := by
  rw [h.cell]
  rcases (by omega : c = 0 ∨ c = 1 ∨ c = 2 ∨ c = 3) with rfl | rfl | rfl | rfl <;> rfl
theorem asked_set {w : World} {pb : Nat} {f : Int → Int} {t : TypeId} (h : Bk w pb t #[.int .i64 (f 0), .int .i64 (f 1), .int .i64 (f 2), .int .i64 (f 3)]) {c : Nat} (hc : c < 4) (v : Int) (f' : Int → Int) (hf : f' = fun x => if x = (c : Int) then v else f x) :
    Bk (w.setCell ⟨pb, c, none⟩ (.int .i64 v)) pb t #[.int .i64 (f' 0), .int .i64 (f' 1), .int .i64 (f' 2), .int .i64 (f' 3)] := by
  have := h.set_ c (.int .i64 v)
  subst hf
  rcases (by omega : c = 0 ∨ c = 1 ∨ c = 2 ∨ c = 3) with rfl | rfl | rfl | rfl <;> simpa using this
theorem max_if (a b : Int) : (if a < b then b else a) = max a b := by rw [Int.max_def]; split <;> split <;> omega
theorem info_intP : (Try.prog.info? 3).map (fun i => (i.zero, i.size, i.bytes)) = some (some (.int .i64 0), 1, 8) := by kernel_rfl
set_option maxRecDepth 100000 in
set_option maxHeartbeats 4000000 in
theorem Places_any (A : Option Addr) (n cap : Nat) (l : List ActV) (hl : n = l.length) (hok : Few23 l) (w : World) (hA : ActsAt w A l) :
    Calls Try.prog 12 #[.slice A n cap] w fun e w' => ∃ A' c', e = .returned (.slice A' (plOut l).length c') ∧ IntsAt w' A' (plOut l) ∧ (∀ a, A' = some a → w.heap.size ≤ a.block) ∧ Old w w' := by
  have hn : n ≤ 1000 := by have := hok.n; omega
  obtain ⟨i0, hi, hz0, hz1, hz2⟩ := info_parts info_intP
  have HL := hide hl
  have HA := hide hA
  obtain ⟨b, hb⟩ : ∃ b, mayP l = b := ⟨_, rfl⟩
  have cM := hide (PMay_any A n cap l hl hok b hb w hA)
  have HB := hide hb
  have HOK := hide hok
  clear hl hok hA hb
  cases b
  · have e : plOut l = [] := by unfold plOut; rw [HB.out]; rfl
    rw [e]
    go_enter Try.func12, Try.ntmps12
    go_wp2_with (go_at_call 24; refine cM.out.mono ?_; rintro e w1 ⟨rfl, hb1⟩)
    go_ret
    exact ⟨none, 0, rfl, CellsAt.nil _ _, (fun a h => by cases h), hb1⟩
  go_enter Try.func12, Try.ntmps12
  go_wp2_with (go_at_call 24; refine cM.out.mono ?_; rintro e w1 ⟨rfl, hb1⟩)
  have kb0 := Bk.new w1 49 #[.int .i64 0, .int .i64 0, .int .i64 0, .int .i64 0]
  have hb2 : Old w (w1.alloc (.cells #[.int .i64 0, .int .i64 0, .int .i64 0, .int .i64 0] 49)) := hb1.alloc' _
  have hbs : (w1.alloc (.cells #[.int .i64 0, .int .i64 0, .int .i64 0, .int .i64 0] 49)).heap.size = w1.heap.size + 1 := by simp
  obtain ⟨pb, hpb⟩ : ∃ x, w1.heap.size = x := ⟨_, rfl⟩
  have hpw : w.heap.size ≤ pb := by rw [← hpb]; exact hb1.size
  generalize hW2 : w1.alloc _ = W2 at kb0 hb2 hbs ⊢
  simp only [hpb] at kb0 hbs ⊢
  clear hpb hW2 hb1
  obtain ⟨base, hbase⟩ : ∃ x, pb + 1 = x := ⟨_, rfl⟩
  go_loopw [3, 4, 14] (fun v g i wr => ∃ k : Nat, k ≤ n ∧ i = .int .i64 k ∧ ∃ V, V = v ∧ Old w wr ∧ base ≤ wr.heap.size ∧ wr.ownsRow base 3 1 V k ((plOutN l k).map (Value.int .i64)) ∧
      (g = .int .i64 (plSt (l.take k)).g ∧ Bk wr pb 49 #[.int .i64 ((plSt (l.take k)).asked 0), .int .i64 ((plSt (l.take k)).asked 1), .int .i64 ((plSt (l.take k)).asked 2), .int .i64 ((plSt (l.take k)).asked 3)])) (fun _ _ i _ => n - (intOf i).toNat)
  case atStart => exact ⟨0, by omega, rfl, _, rfl, hb2, by omega, World.ownsRow_nil _ _ _ _, rfl, kb0⟩
  case round =>
    obtain ⟨k, hk, rfl, V, rfl, hbel, hbz0, hown, rfl, kb⟩ := hrel
    obtain ⟨st, hst⟩ : ∃ s, plSt (l.take k) = s := ⟨_, rfl⟩
    rw [hst] at kb
    simp only [hst]
    have HST := hide hst
    clear hst kb0 hb2 hbs
    by_cases hlt : k < n
    · have hkq : k < l.length := by have := HL.out; omega
      obtain ⟨b0, o, rfl, hb0, hc⟩ := HA.out.at_ (k := k) hkq
      obtain ⟨x, hx⟩ : ∃ x, l[k]?.getD default = x := ⟨_, rfl⟩
      rw [hx] at hc
      have hxx : l[k] = x := by rw [List.getElem?_eq_getElem hkq] at hx; simpa using hx
      have hbd := mayP_b HB.out hkq
      rw [hxx] at hbd
      obtain ⟨c, hxc⟩ : ∃ c : Nat, x.client = (c : Int) := ⟨x.client.toNat, by omega⟩
      have hc4 : c < 4 := by omega
      have hci : (c : Int) < 4 := by omega
      have hcz : (0 : Int) ≤ c := by omega
      obtain ⟨vn, hvl⟩ : ∃ vn, x.r.vs.length = vn := ⟨_, rfl⟩
      have HX := hide hx
      have HXX := hide hxx
      have HXC := hide hxc
      have c0 := (hbel.cell (p := ⟨b0, o + k * 14, none⟩) hb0).trans (hc 0 _ (by omega) rfl)
      have c1 := (hbel.cell (p := ⟨b0, o + k * 14 + 1, none⟩) hb0).trans (hc 1 _ (by omega) rfl)
      have c2 := (hbel.cell (p := ⟨b0, o + k * 14 + 2, none⟩) hb0).trans (hc 2 _ (by omega) rfl)
      have c3 := (hbel.cell (p := ⟨b0, o + k * 14 + 3, none⟩) hb0).trans (hc 3 _ (by omega) rfl)
      have c4 := (hbel.cell (p := ⟨b0, o + k * 14 + 4, none⟩) hb0).trans (hc 4 _ (by omega) rfl)
      have c5 := (hbel.cell (p := ⟨b0, o + k * 14 + 5, none⟩) hb0).trans (hc 5 _ (by omega) rfl)
      have c6 := (hbel.cell (p := ⟨b0, o + k * 14 + 6, none⟩) hb0).trans (hc 6 _ (by omega) rfl)
      have c7 := (hbel.cell (p := ⟨b0, o + k * 14 + 7, none⟩) hb0).trans (hc 7 _ (by omega) rfl)
      have c8 := (hbel.cell (p := ⟨b0, o + k * 14 + 8, none⟩) hb0).trans (hc 8 _ (by omega) rfl)
      have c9 := (hbel.cell (p := ⟨b0, o + k * 14 + 9, none⟩) hb0).trans (hc 9 _ (by omega) rfl)
      have c10 := (hbel.cell (p := ⟨b0, o + k * 14 + 10, none⟩) hb0).trans (hc 10 _ (by omega) rfl)
      have c11 := (hbel.cell (p := ⟨b0, o + k * 14 + 11, none⟩) hb0).trans (hc 11 _ (by omega) rfl)
      have c12 := (hbel.cell (p := ⟨b0, o + k * 14 + 12, none⟩) hb0).trans (hc 12 _ (by omega) rfl)
      have c13 := (hbel.cell (p := ⟨b0, o + k * 14 + 13, none⟩) hb0).trans (hc 13 _ (by omega) rfl)
      simp only [hvl] at c12
      rw [hxc] at c0
      clear hc hx hxx hvl hxc hbd
      have hb01 : b0 < wr.heap.size := Nat.lt_of_lt_of_le hb0 hbel.size
      obtain ⟨pa, hpa⟩ : ∃ x, wr.heap.size = x := ⟨_, rfl⟩
      cases hb : x.ans
      · have HAT := hide (show st.at_ x = st.g by unfold PlV.at_; rw [if_neg (by rw [hb]; decide)])
        have HNX := hide (show st.next x = ⟨st.g, fun y => if y = (c : Int) then st.g else st.asked y⟩ by unfold PlV.next; rw [if_neg (by rw [hb]; decide), HXC.out])
        rw [hb] at c2
        obtain ⟨WD, hWD⟩ : ∃ W, wr.alloc (.cells #[.int .i64 c, .int .i64 x.seq, .bool false, .int .i64 x.q.client, .int .i64 x.q.seq, .int .i64 x.q.kind, .int .i64 x.q.id, .int .i64 x.q.mat, .string x.q.data, .int .i64 x.r.code, .int .i64 x.r.ver, .string x.r.data, .slice x.A vn x.cap, .int .i64 x.at_] 45) = W := ⟨_, rfl⟩
        have hO1 : Old wr WD := by rw [← hWD]; exact (Old.refl' wr).alloc' _
        have hK1 : Bk WD pa 45 #[.int .i64 c, .int .i64 x.seq, .bool false, .int .i64 x.q.client, .int .i64 x.q.seq, .int .i64 x.q.kind, .int .i64 x.q.id, .int .i64 x.q.mat, .string x.q.data, .int .i64 x.r.code, .int .i64 x.r.ver, .string x.r.data, .slice x.A vn x.cap, .int .i64 x.at_] := by rw [← hWD, ← hpa]; exact Bk.new wr 45 _
        obtain ⟨⟨k0, k1, k2, k3, k4, k5, k6, k7, k8, k9, k10, k11, k12, k13⟩, kl⟩ := bk14 hK1
        have hown1 := own_old hown hO1
        have hbz1 : base ≤ WD.heap.size := Nat.le_trans hbz0 hO1.size
        have kb1 := kb.old hO1
        have HOD := hide (hbel.trans' hO1)
        have hpbl := kb1.lt
        have kbc := asked_get kb1 hc4
        have kbf := kb1.frozen c
        clear hown kb hbel hO1
        obtain ⟨WZ, hWZ⟩ : ∃ W, WD.setCell ⟨pb, c, none⟩ (.int .i64 st.g) = W := ⟨_, rfl⟩
        have kb9 := asked_set kb1 hc4 st.g (fun y => if y = (c : Int) then st.g else st.asked y) rfl
        have hown2 : (WD.setCell ⟨pb, c, none⟩ (.int .i64 st.g)).ownsRow base 3 1 V k ((plOutN l k).map (Value.int .i64)) := own_set hown1 (own_ne hown1 (show pb < base by omega)) _
        have hbz : base ≤ (WD.setCell ⟨pb, c, none⟩ (.int .i64 st.g)).heap.size := by simpa [World.setCell] using hbz1
        have hoS := Old.setCell' (p := ⟨pb, c, none⟩) HOD.out hpw (.int .i64 st.g)
        have kS := hK1.far (p := ⟨pb, c, none⟩) (show pa ≠ pb by omega) (.int .i64 st.g)
        rw [hWZ] at kb9 hown2 hbz hoS kS
        have z2 := kS.cell 2
        have zl := kS.lt
        have z3 : WZ.cell? ⟨pa, 2, none⟩ = some (.bool false) := z2
        clear z2 kS
        have hoS := hide hoS
        go_wp2_with (at_builtin; refine wpList_append_own _ rfl (.tmp 45) (.tmp 47) 34 rfl base 3 i0 (.int .i64 0) 1 8 Try.underlying34 hi hz0 hz1 hz2 rfl (by decide) V k ((plOutN l k).map (Value.int .i64)) rfl (hown2.alloc _) ⟨WZ.heap.size, 0, none⟩ 1 1 [.int .i64 st.g] rfl rfl (cell_one_new _ _ _) (by simp [Value.oneCell']) (by unfold maxLen; omega) (by omega) (by have := hbz; simp; omega) ?_; intro v' w8 hown' hgrow _; obtain ⟨g', cap', rfl⟩ := ownsRow_succ hown')
        go_roundw
        case rel => exact ⟨k + 1, by omega, by go_num, _, rfl, old_grown (hoS.out.alloc' _) hgrow (hown2.alloc _) (by omega), by have := hgrow.size; simp at this; omega, by rw [plOutN_succ, HST.out, HX.out, HAT.out, List.map_append]; exact hown', by rw [plSt_take hkq, HST.out, HXX.out, HNX.out], by rw [plSt_take hkq, HST.out, HXX.out, HNX.out]; exact (kb9.alloc _).grown hgrow (own_ne hown2 (by omega)).symm⟩
        case measure => simp [intOf]; omega
      · cases hw : Writes x.q.kind
        · obtain ⟨M, hM⟩ : ∃ m, max x.at_ (st.asked c) = m := ⟨_, rfl⟩
          have hM2 : (if x.at_ < st.asked c then st.asked c else x.at_) = M := by rw [max_if]; exact hM
          have HAT := hide (show st.at_ x = M by unfold PlV.at_; rw [if_pos hb, if_neg (by rw [hw]; decide), HXC.out, hM])
          obtain ⟨G, hG⟩ : ∃ g, max st.g M = g := ⟨_, rfl⟩
          have hG2 : (if st.g < M then M else st.g) = G := by rw [max_if]; exact hG
          have HNX := hide (show st.next x = ⟨G, st.asked⟩ by unfold PlV.next; rw [if_pos hb, HAT.out, hG])
          clear hG
          clear hM
          rw [hb] at c2
          obtain ⟨WD, hWD⟩ : ∃ W, wr.alloc (.cells #[.int .i64 c, .int .i64 x.seq, .bool true, .int .i64 x.q.client, .int .i64 x.q.seq, .int .i64 x.q.kind, .int .i64 x.q.id, .int .i64 x.q.mat, .string x.q.data, .int .i64 x.r.code, .int .i64 x.r.ver, .string x.r.data, .slice x.A vn x.cap, .int .i64 x.at_] 45) = W := ⟨_, rfl⟩
          have hO1 : Old wr WD := by rw [← hWD]; exact (Old.refl' wr).alloc' _
          have hK1 : Bk WD pa 45 #[.int .i64 c, .int .i64 x.seq, .bool true, .int .i64 x.q.client, .int .i64 x.q.seq, .int .i64 x.q.kind, .int .i64 x.q.id, .int .i64 x.q.mat, .string x.q.data, .int .i64 x.r.code, .int .i64 x.r.ver, .string x.r.data, .slice x.A vn x.cap, .int .i64 x.at_] := by rw [← hWD, ← hpa]; exact Bk.new wr 45 _
          obtain ⟨⟨k0, k1, k2, k3, k4, k5, k6, k7, k8, k9, k10, k11, k12, k13⟩, kl⟩ := bk14 hK1
          have hown1 := own_old hown hO1
          have hbz1 : base ≤ WD.heap.size := Nat.le_trans hbz0 hO1.size
          have kb1 := kb.old hO1
          have HOD := hide (hbel.trans' hO1)
          have hpbl := kb1.lt
          have kbc := asked_get kb1 hc4
          have kbf := kb1.frozen c
          clear hown kb hbel hO1
          have CS := hide (fun (U : World) (h : Old WD U) => (⟨(h.cell (p := ⟨pa, 13, none⟩) kl).trans k13, (h.cell (p := ⟨pa, 0, none⟩) kl).trans k0, (h.cell (p := ⟨pb, c, none⟩) hpbl).trans kbc, (h.cell (p := ⟨pa, 2, none⟩) kl).trans k2⟩ :
            U.cell? ⟨pa, 13, none⟩ = some (.int .i64 x.at_) ∧ U.cell? ⟨pa, 0, none⟩ = some (.int .i64 c) ∧ U.cell? ⟨pb, c, none⟩ = some (.int .i64 (st.asked c)) ∧ U.cell? ⟨pa, 2, none⟩ = some (.bool true)))
          have cW := hide (iWrites_at x.q.client x.q.seq x.q.kind x.q.id x.q.mat x.q.data false hw WD)
          go_upto_region 10 with (go_at_call 27; refine cW.out.mono ?_; rintro e w9 ⟨rfl, h9⟩; obtain ⟨z0, z1, z2, z3⟩ := CS.out _ h9; have hown2 : w9.ownsRow base 3 1 V k ((plOutN l k).map (Value.int .i64)) := own_old hown1 h9; have hbz : base ≤ w9.heap.size := Nat.le_trans hbz1 h9.size; have kb9 := kb1.old h9; have hold9 := hide (HOD.out.trans' h9))
          have hOw := HOD.out
          obtain ⟨WD0, hWD0⟩ : ∃ W, WD = W := ⟨_, rfl⟩
          refine region_steps (R := pick [eqv (.pointer (some ⟨pa, 13, none⟩)), eqv (.int .i64 x.at_), eqv (.pointer (some ⟨pa, 0, none⟩)), eqv (.int .i64 c), eqv (.pointer (some ⟨pb, c, none⟩)), eqv (.int .i64 (st.asked c)), eqv (.int .i64 M), eqv (.int .i64 M)]) (S := fun _ w' => Old WD w') (T := Old) (by kernel_rfl) (by kernel_rfl) (by kernel_rfl) (Stab.pick (Stab.eqv (Stab.eqv (Stab.eqv (Stab.eqv (Stab.eqv (Stab.eqv (Stab.eqv (Stab.eqv (Stab.nil)))))))))) (h9.drew') ?steps ?ends
          case steps =>
            refine StepsOk.cons (stepOk_pure [] [(7, .pointer (some ⟨pa, 0, none⟩))] rfl rfl (by kernel_rfl) (by kernel_rfl) rfl Old.refl' (fun _ _ _ h => h) (fun d E w' hk hda hS hc hf => by rintro  e7; exact ⟨_, by go_simp, rfl⟩)) ?_
            refine StepsOk.cons (stepOk_pure [(0, 19)] [] rfl rfl (by kernel_rfl) (by kernel_rfl) rfl Old.refl' (fun _ _ _ h => h) (fun d E w' hk hda hS hc hf => by rintro _ q0 rfl e19 ; obtain ⟨s0, s1, s2, s3⟩ := CS.out _ hS; exact ⟨_, by go_simp, rfl⟩)) ?_
            refine StepsOk.cons (stepOk_pure [] [(7, .pointer (some ⟨pa, 0, none⟩))] rfl rfl (by kernel_rfl) (by kernel_rfl) rfl Old.refl' (fun _ _ _ h => h) (fun d E w' hk hda hS hc hf => by rintro  e7; exact ⟨_, by go_simp, rfl⟩)) ?_
            refine StepsOk.cons (stepOk_pure [(2, 21)] [] rfl rfl (by kernel_rfl) (by kernel_rfl) rfl Old.refl' (fun _ _ _ h => h) (fun d E w' hk hda hS hc hf => by rintro _ q2 rfl e21 ; obtain ⟨s0, s1, s2, s3⟩ := CS.out _ hS; exact ⟨_, by go_simp, rfl⟩)) ?_
            refine StepsOk.cons (stepOk_pure [(3, 22)] [(5, .pointer (some ⟨pb, 0, none⟩))] rfl rfl (by kernel_rfl) (by kernel_rfl) rfl Old.refl' (fun _ _ _ h => h) (fun d E w' hk hda hS hc hf => by rintro _ q3 rfl e22 e5; obtain ⟨s0, s1, s2, s3⟩ := CS.out _ hS; exact ⟨_, by go_simp, rfl⟩)) ?_
            refine StepsOk.cons (stepOk_pure [(4, 23)] [] rfl rfl (by kernel_rfl) (by kernel_rfl) rfl Old.refl' (fun _ _ _ h => h) (fun d E w' hk hda hS hc hf => by rintro _ q4 rfl e23 ; obtain ⟨s0, s1, s2, s3⟩ := CS.out _ hS; exact ⟨_, by go_simp, rfl⟩)) ?_
            refine StepsOk.cons (stepOk_pure [(1, 20), (5, 24)] [] rfl rfl (by kernel_rfl) (by kernel_rfl) rfl Old.refl' (fun _ _ _ h => h) (fun d E w' hk hda hS hc hf => by rintro _ q1 rfl e20 _ q5 rfl e24 ; exact ⟨_, by go_simp, rfl⟩)) ?_
            refine StepsOk.cons (stepOk_pure [(6, 25)] [] rfl rfl (by kernel_rfl) (by kernel_rfl) rfl Old.refl' (fun _ _ _ h => h) (fun d E w' hk hda hS hc hf => by rintro _ q6 rfl e25 ; exact ⟨_, by go_simp, rfl⟩)) ?_
            exact StepsOk.nil
          case ends =>
            intro σ9 w9 hS9 hA9
            refine Ends.eqv (some 19) (.pointer (some ⟨pa, 13, none⟩)) rfl (fun _ h => h) ?_
            refine Ends.eqv (some 20) (.int .i64 x.at_) rfl (fun _ h => h) ?_
            refine Ends.eqv (some 21) (.pointer (some ⟨pa, 0, none⟩)) rfl (fun _ h => h) ?_
            refine Ends.eqv (some 22) (.int .i64 c) rfl (fun _ h => h) ?_
            refine Ends.eqv (some 23) (.pointer (some ⟨pb, c, none⟩)) rfl (fun _ h => h) ?_
            refine Ends.eqv (some 24) (.int .i64 (st.asked c)) rfl (fun _ h => h) ?_
            refine Ends.eqv (some 25) (.int .i64 M) rfl (fun _ h => h) ?_
            refine Ends.eqv (some 8) (.int .i64 M) rfl (fun _ h => h) ?_
            refine Ends.nil ?_
            clear hA9
            simp only [put_lit, put_none, List.set_cons_zero, List.set_cons_succ]
            obtain ⟨z0, z1, z2, z3⟩ := CS.out _ hS9
            clear hown2 hbz kb9 hold9
            have hown2 : w9.ownsRow base 3 1 V k ((plOutN l k).map (Value.int .i64)) := own_old hown1 hS9
            have hbz : base ≤ w9.heap.size := Nat.le_trans hbz1 hS9.size
            go_wp2_with (at_builtin; refine wpList_append_own _ rfl (.tmp 45) (.tmp 47) 34 rfl base 3 i0 (.int .i64 0) 1 8 Try.underlying34 hi hz0 hz1 hz2 rfl (by decide) V k ((plOutN l k).map (Value.int .i64)) rfl (hown2.alloc _) ⟨w9.heap.size, 0, none⟩ 1 1 [.int .i64 M] rfl rfl (cell_one_new _ _ _) (by simp [Value.oneCell']) (by unfold maxLen; omega) (by omega) (by have := hbz; simp; omega) ?_; intro v' w8 hown' hgrow _; obtain ⟨g', cap', rfl⟩ := ownsRow_succ hown')
            have kb9 := kb1.old hS9
            go_roundw
            case rel => exact ⟨k + 1, by omega, by go_num, _, rfl, old_grown ((HOD.out.trans' hS9).alloc' _) hgrow (hown2.alloc _) (by omega), by have := hgrow.size; simp at this; omega, by rw [plOutN_succ, HST.out, HX.out, HAT.out, List.map_append]; exact hown', by rw [plSt_take hkq, HST.out, HXX.out, HNX.out], by rw [plSt_take hkq, HST.out, HXX.out, HNX.out]; exact (kb9.alloc _).grown hgrow (own_ne hown2 (by omega)).symm⟩
            case measure => simp [intOf]; omega
        · have HAT := hide (show st.at_ x = x.at_ by unfold PlV.at_; rw [if_pos hb, if_pos hw])
          obtain ⟨G, hG⟩ : ∃ g, max st.g x.at_ = g := ⟨_, rfl⟩
          have hG2 : (if st.g < x.at_ then x.at_ else st.g) = G := by rw [max_if]; exact hG
          have HNX := hide (show st.next x = ⟨G, st.asked⟩ by unfold PlV.next; rw [if_pos hb, HAT.out, hG])
          clear hG
          rw [hb] at c2
          obtain ⟨WD, hWD⟩ : ∃ W, wr.alloc (.cells #[.int .i64 c, .int .i64 x.seq, .bool true, .int .i64 x.q.client, .int .i64 x.q.seq, .int .i64 x.q.kind, .int .i64 x.q.id, .int .i64 x.q.mat, .string x.q.data, .int .i64 x.r.code, .int .i64 x.r.ver, .string x.r.data, .slice x.A vn x.cap, .int .i64 x.at_] 45) = W := ⟨_, rfl⟩
          have hO1 : Old wr WD := by rw [← hWD]; exact (Old.refl' wr).alloc' _
          have hK1 : Bk WD pa 45 #[.int .i64 c, .int .i64 x.seq, .bool true, .int .i64 x.q.client, .int .i64 x.q.seq, .int .i64 x.q.kind, .int .i64 x.q.id, .int .i64 x.q.mat, .string x.q.data, .int .i64 x.r.code, .int .i64 x.r.ver, .string x.r.data, .slice x.A vn x.cap, .int .i64 x.at_] := by rw [← hWD, ← hpa]; exact Bk.new wr 45 _
          obtain ⟨⟨k0, k1, k2, k3, k4, k5, k6, k7, k8, k9, k10, k11, k12, k13⟩, kl⟩ := bk14 hK1
          have hown1 := own_old hown hO1
          have hbz1 : base ≤ WD.heap.size := Nat.le_trans hbz0 hO1.size
          have kb1 := kb.old hO1
          have HOD := hide (hbel.trans' hO1)
          have hpbl := kb1.lt
          have kbc := asked_get kb1 hc4
          have kbf := kb1.frozen c
          clear hown kb hbel hO1
          have CS := hide (fun (U : World) (h : Old WD U) => (⟨(h.cell (p := ⟨pa, 13, none⟩) kl).trans k13, (h.cell (p := ⟨pa, 0, none⟩) kl).trans k0, (h.cell (p := ⟨pb, c, none⟩) hpbl).trans kbc, (h.cell (p := ⟨pa, 2, none⟩) kl).trans k2⟩ :
            U.cell? ⟨pa, 13, none⟩ = some (.int .i64 x.at_) ∧ U.cell? ⟨pa, 0, none⟩ = some (.int .i64 c) ∧ U.cell? ⟨pb, c, none⟩ = some (.int .i64 (st.asked c)) ∧ U.cell? ⟨pa, 2, none⟩ = some (.bool true)))
          have cW := hide (iWrites_at x.q.client x.q.seq x.q.kind x.q.id x.q.mat x.q.data true hw WD)
          go_wp2_with (first
            | (go_at_call 27; refine cW.out.mono ?_; rintro e w9 ⟨rfl, h9⟩; obtain ⟨z0, z1, z2, z3⟩ := CS.out _ h9; have hown2 : w9.ownsRow base 3 1 V k ((plOutN l k).map (Value.int .i64)) := own_old hown1 h9; have hbz : base ≤ w9.heap.size := Nat.le_trans hbz1 h9.size; have kb9 := kb1.old h9; have hold9 := hide (HOD.out.trans' h9))
            | (at_builtin; refine wpList_append_own _ rfl (.tmp 45) (.tmp 47) 34 rfl base 3 i0 (.int .i64 0) 1 8 Try.underlying34 hi hz0 hz1 hz2 rfl (by decide) V k ((plOutN l k).map (Value.int .i64)) rfl (hown2.alloc _) ⟨w9.heap.size, 0, none⟩ 1 1 [.int .i64 x.at_] rfl rfl (cell_one_new _ _ _) (by simp [Value.oneCell']) (by unfold maxLen; omega) (by omega) (by have := hbz; simp; omega) ?_; intro v' w8 hown' hgrow _; obtain ⟨g', cap', rfl⟩ := ownsRow_succ hown'))
          go_roundw
          case rel => exact ⟨k + 1, by omega, by go_num, _, rfl, old_grown (hold9.out.alloc' _) hgrow (hown2.alloc _) (by omega), by have := hgrow.size; simp at this; omega, by rw [plOutN_succ, HST.out, HX.out, HAT.out, List.map_append]; exact hown', by rw [plSt_take hkq, HST.out, HXX.out, HNX.out], by rw [plSt_take hkq, HST.out, HXX.out, HNX.out]; exact (kb9.alloc _).grown hgrow (own_ne hown2 (by omega)).symm⟩
          case measure => simp [intOf]; omega
    · obtain rfl : k = n := by omega
      obtain ⟨V, c, rfl, -, -⟩ := own_form hown
      have e : plOut l = plOutN l k := by unfold plOut; rw [HB.out, if_pos rfl, HL.out]
      have E := hide e
      clear e
      have HO := hide (⟨CellsAt.of_own hown, fun a ha => by have := own_new' hown a ha; omega⟩ : IntsAt wr V (plOutN l k) ∧ ∀ a, V = some a → w.heap.size ≤ a.block)
      go_wp2
      go_ret
      exact ⟨V, c, by rw [E.out, plOutN_length]; rfl, by rw [E.out]; exact HO.out.1, HO.out.2, hbel⟩
end Go.Proofs.Ytffahoocbjfdaaa
