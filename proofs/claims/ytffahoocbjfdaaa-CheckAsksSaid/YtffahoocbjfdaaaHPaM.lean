/- past.May. -/
import Derived.BigQuiet
import Derived.Test.YtffahoocbjfdaaaHPaN
import Derived.Test.YtffahoocbjfdaaaHPaS
namespace Go.Proofs.Ytffahoocbjfdaaa
open Go.RowKit
structure ActsAt (w : World) (A : Option Addr) (l : List ActV) : Prop where
  row : CellsAt w A (l.flatMap ActV.cells)
  vs : ∀ a ∈ l, IntsAt w a.A a.r.vs
theorem actCells_length (l : List ActV) : (l.flatMap ActV.cells).length = l.length * 14 := by
  induction l with
  | nil => rfl
  | cons q l ih =>
    have : q.cells.length = 14 := rfl
    simp only [List.flatMap_cons, List.length_append, List.length_cons, ih, this]
    omega
theorem actCells_get (l : List ActV) : ∀ k j, k < l.length → j < 14 → (l.flatMap ActV.cells)[k * 14 + j]? = (l[k]?.getD default).cells[j]? := by
  induction l with
  | nil => intro k j h; simp at h
  | cons q l ih =>
    intro k j hk hj
    rw [List.flatMap_cons]
    have hc : q.cells.length = 14 := rfl
    cases k with
    | zero => rw [List.getElem?_append_left (by rw [hc]; omega)]; simp
    | succ k =>
      rw [List.getElem?_append_right (by rw [hc]; omega), hc, show (k + 1) * 14 + j - 14 = k * 14 + j from by omega]
      simpa using ih k j (by simpa using hk) hj
theorem ActsAt.at_ {w : World} {A : Option Addr} {l : List ActV} (h : ActsAt w A l) {k : Nat} (hk : k < l.length) :
    ∃ b o, A = some ⟨b, o, none⟩ ∧ b < w.heap.size ∧ ∀ j u, j < 14 → (l[k]?.getD default).cells[j]? = some u → w.cell? ⟨b, o + k * 14 + j, none⟩ = some u := by
  obtain ⟨b, o, rfl, hb, hc⟩ := h.row (fun e => by have := actCells_length l; rw [e] at this; simp at this; omega)
  exact ⟨b, o, rfl, hb, fun j u hj hu => by rw [Nat.add_assoc]; exact hc _ _ ((actCells_get l k j hk hj).trans hu)⟩
theorem ActsAt.old {w w' : World} {A : Option Addr} {l : List ActV} (h : ActsAt w A l) (hf : Old w w') : ActsAt w' A l := ⟨CellsAt.old h.row hf, fun a ha => CellsAt.old (h.vs a ha) hf⟩
theorem bk14 {w : World} {b : Nat} {t : TypeId} {u0 u1 u2 u3 u4 u5 u6 u7 u8 u9 u10 u11 u12 u13 : Value} (h : Bk w b t #[u0, u1, u2, u3, u4, u5, u6, u7, u8, u9, u10, u11, u12, u13]) :
    (w.cell? ⟨b, 0, none⟩ = some u0 ∧ w.cell? ⟨b, 1, none⟩ = some u1 ∧ w.cell? ⟨b, 2, none⟩ = some u2 ∧ w.cell? ⟨b, 3, none⟩ = some u3 ∧ w.cell? ⟨b, 4, none⟩ = some u4 ∧ w.cell? ⟨b, 5, none⟩ = some u5 ∧ w.cell? ⟨b, 6, none⟩ = some u6 ∧
      w.cell? ⟨b, 7, none⟩ = some u7 ∧ w.cell? ⟨b, 8, none⟩ = some u8 ∧ w.cell? ⟨b, 9, none⟩ = some u9 ∧ w.cell? ⟨b, 10, none⟩ = some u10 ∧ w.cell? ⟨b, 11, none⟩ = some u11 ∧ w.cell? ⟨b, 12, none⟩ = some u12 ∧ w.cell? ⟨b, 13, none⟩ = some u13) ∧ b < w.heap.size :=
  ⟨⟨h.cell 0, h.cell 1, h.cell 2, h.cell 3, h.cell 4, h.cell 5, h.cell 6, h.cell 7, h.cell 8, h.cell 9, h.cell 10, h.cell 11, h.cell 12, h.cell 13⟩, h.lt⟩
structure Few23 (l : List ActV) : Prop where
  n : l.length ≤ 1000
  vs : ∀ a ∈ l, a.r.vs.length ≤ 1000
theorem step_ans {st : PV} {x : ActV} {q : ReqV} {AV : Option Addr} {cV : Nat} (hx : x.ans = true) (hE : st.ansE x.client x.seq x.at_ = 0) (hw : st.wait x.client = some q) :
    st.step x = if x.same ⟨x.client, x.seq, true, q, x.r, AV, cV, x.at_⟩ then some (st.ans x.client x.seq x.at_) else none := by
  have h1 : x.same ⟨x.client, x.seq, true, q, x.r, AV, cV, x.at_⟩ = q.eqb x.q := by
    rw [Bool.eq_iff_iff, ReqV.eqb_iff]
    simp [ActV.same, hx, ReqV.eqb_iff, Rep.same]
    exact eq_comm
  rw [h1]
  unfold PV.step PV.ans PV.isW
  rw [if_pos hx, hE, hw, if_pos rfl]
  simp
theorem step_ask {st : PV} {x : ActV} (hx : x.ans = false) (hE : st.askE x.q = 0) :
    st.step x = if x.same ⟨x.q.client, x.q.seq, false, x.q, Rep.zero, none, 0, 0⟩ then some (st.ask x.q) else none := by
  have h1 : x.same ⟨x.q.client, x.q.seq, false, x.q, Rep.zero, none, 0, 0⟩ = true ↔ (x.client = x.q.client ∧ x.seq = x.q.seq ∧ x.at_ = 0 ∧ x.r.same Rep.zero = true) := by
    simp [ActV.same, hx, ReqV.eqb_iff, and_assoc]
  unfold PV.step PV.ask
  rw [if_neg (by rw [hx]; decide), hE, if_pos rfl]
  by_cases h2 : x.same ⟨x.q.client, x.q.seq, false, x.q, Rep.zero, none, 0, 0⟩ = true
  · rw [if_pos h2, if_pos ⟨rfl, h1.1 h2⟩]
  · rw [if_neg h2, if_neg (fun h => h2 (h1.2 h.2))]
theorem step_ansN {st : PV} {x : ActV} (hx : x.ans = true) (hE : st.ansE x.client x.seq x.at_ ≠ 0) : st.step x = none := by
  unfold PV.step; rw [if_pos hx, if_neg (fun h => hE h.1)]
theorem step_askN {st : PV} {x : ActV} (hx : x.ans = false) (hE : st.askE x.q ≠ 0) : st.step x = none := by
  unfold PV.step; rw [if_neg (by rw [hx]; decide), if_neg (fun h => hE h.1)]
theorem ans_n {st : PV} {c q a : Int} (h : st.ansE c q a = 0) : (st.ans c q a).n = st.n + 1 := by unfold PV.ans; rw [if_pos h]; rfl
theorem ask_n {st : PV} {q : ReqV} (h : st.askE q = 0) : (st.ask q).n = st.n + 1 := by unfold PV.ask; rw [if_pos h]; rfl
structure MayR (w w' : World) (p pa k : Nat) (st : PV) (x : ActV) (E : Int) : Prop where
  old : Old w w'
  bk : Bk w' pa 45 #[.int .i64 x.client, .int .i64 x.seq, .bool x.ans, .int .i64 x.q.client, .int .i64 x.q.seq, .int .i64 x.q.kind, .int .i64 x.q.id, .int .i64 x.q.mat, .string x.q.data, .int .i64 x.r.code, .int .i64 x.r.ver, .string x.r.data, .slice x.A x.r.vs.length x.cap, .int .i64 x.at_]
  r : (E ≠ 0 ∧ st.step x = none) ∨ (E = 0 ∧ ∃ s' F' y, (st.step x = if x.same y then some s' else none) ∧ PaAt w' p F' s' ∧ (∀ b, F' b → w.heap.size ≤ b) ∧ s'.n = k + 1 ∧ LastIs w' p k y.cells ∧ IntsAt w' y.A y.r.vs ∧ y.r.vs.length ≤ 1000)
theorem mayP_none {l : List ActV} {k : Nat} {st : PV} (hk : k < l.length) (h : stepsP (l.take k) = some st) (hs : st.step l[k] = none) : mayP l = false := by
  unfold mayP
  rw [← List.take_append_drop (k + 1) l, stepsP_none _ _ (by rw [List.take_succ_eq_append_getElem hk, stepsP_snoc, h]; exact hs)]
  rfl
set_option maxRecDepth 100000 in
set_option maxHeartbeats 4000000 in
theorem PMay_any (A : Option Addr) (n cap : Nat) (l : List ActV) (hl : n = l.length) (hok : Few23 l) (b : Bool) (hb : mayP l = b) (w : World) (hA : ActsAt w A l) :
    Calls Try.prog 24 #[.slice A n cap] w fun e w' => e = .returned (.bool b) ∧ Old w w' := by
  have hn : n ≤ 1000 := by have := hok.n; omega
  have HL := hide hl
  have HOK := hide hok
  have HA := hide hA
  have HB := hide hb
  clear hl hok hA hb
  go_enter Try.func24, Try.ntmps24
  go_wp2_with (go_at_call 36; refine (PNew_any _).mono ?_; rintro e w1 ⟨rfl, hP, hb1⟩)
  obtain ⟨p, hp⟩ : ∃ p, w.heap.size = p := ⟨_, rfl⟩
  rw [hp] at hP
  simp only [hp]
  have HPP := hide hp
  clear hp
  go_loopw [10] (fun i wr => ∃ k : Nat, k ≤ n ∧ i = .int .i64 k ∧ ∃ F st, PaAt wr p F st ∧ (∀ b, F b → w.heap.size ≤ b) ∧ Old w wr ∧ stepsP (l.take k) = some st ∧ st.n = k) (fun i _ => n - (intOf i).toNat)
  case atStart => exact ⟨0, by omega, rfl, _, _, hP, fun b hb => by rw [hb, ← HPP.out]; exact Nat.le_refl _, hb1, rfl, rfl⟩
  case round =>
    obtain ⟨k, hk, rfl, F, st, hPA, hF, hbel, hst, hsn⟩ := hrel
    have HP := hide hPA
    have HF := hide hF
    have HN := hide hsn
    have HST := hide hst
    clear hPA hF hsn hst hP hb1
    by_cases hlt : k < n
    · have hkq : k < l.length := by have := HL.out; omega
      obtain ⟨b0, o, rfl, hb0, hc⟩ := HA.out.at_ (k := k) hkq
      obtain ⟨x, hx⟩ : ∃ x, l[k]?.getD default = x := ⟨_, rfl⟩
      rw [hx] at hc
      have hxx : l[k] = x := by rw [List.getElem?_eq_getElem hkq] at hx; simpa using hx
      have hmem : x ∈ l := hxx ▸ List.getElem_mem hkq
      have hXV := CellsAt.old (HA.out.vs x hmem) hbel
      obtain ⟨vn, hvl⟩ : ∃ vn, x.r.vs.length = vn := ⟨_, rfl⟩
      have hvn : vn ≤ 1000 := by rw [← hvl]; exact HOK.out.vs x hmem
      have HX := hide hxx
      have HXV := hide (HA.out.vs x hmem)
      have HVN := hide hvl
      have c0 := (hbel.cell (p := ⟨b0, o + k * 14, none⟩) hb0).trans (hc 0 _ (by omega) rfl)
      have c1 := (hbel.cell (p := ⟨b0, o + k * 14 + 1, none⟩) hb0).trans (hc 1 _ (by omega) rfl)
      have c2 := (hbel.cell (p := ⟨b0, o + k * 14 + 2, none⟩) hb0).trans (hc 2 _ (by omega) rfl)
      have c3 := (hbel.cell (p := ⟨b0, o + k * 14 + 3, none⟩) hb0).trans (hc 3 _ (by omega) rfl)
      have c4 := (hbel.cell (p := ⟨b0, o + k * 14 + 4, none⟩) hb0).trans (hc 4 _ (by omega) rfl)
      have c5 := (hbel.cell (p := ⟨b0, o + k * 14 + 5, none⟩) hb0).trans (hc 5 _ (by omega) rfl)
      have c6 := (hbel.cell (p := ⟨b0, o + k * 14 + 6, none⟩) hb0).trans (hc 6 _ (by omega) rfl)
      have c7 := (hbel.cell (p := ⟨b0, o + k * 14 + 7, none⟩) hb0).trans (hc 7 _ (by omega) rfl)
      have c8 := (hbel.cell (p := ⟨b0, o + k * 14 + 8, none⟩) hb0).trans (hc 8 _ (by omega) rfl)
      have c9 := (hbel.cell (p := ⟨b0, o + k * 14 + 9, none⟩) hb0).trans (hc 9 _ (by omega) rfl)
      have c10 := (hbel.cell (p := ⟨b0, o + k * 14 + 10, none⟩) hb0).trans (hc 10 _ (by omega) rfl)
      have c11 := (hbel.cell (p := ⟨b0, o + k * 14 + 11, none⟩) hb0).trans (hc 11 _ (by omega) rfl)
      have c12 := (hbel.cell (p := ⟨b0, o + k * 14 + 12, none⟩) hb0).trans (hc 12 _ (by omega) rfl)
      have c13 := (hbel.cell (p := ⟨b0, o + k * 14 + 13, none⟩) hb0).trans (hc 13 _ (by omega) rfl)
      simp only [hvl] at c12
      clear hc hx hxx hmem hvl
      have hb01 : b0 < wr.heap.size := Nat.lt_of_lt_of_le hb0 hbel.size
      obtain ⟨W1, hW1⟩ : ∃ W, wr.alloc (.cells #[.int .i64 x.client, .int .i64 x.seq, .bool x.ans, .int .i64 x.q.client, .int .i64 x.q.seq, .int .i64 x.q.kind, .int .i64 x.q.id, .int .i64 x.q.mat, .string x.q.data, .int .i64 x.r.code, .int .i64 x.r.ver, .string x.r.data, .slice x.A vn x.cap, .int .i64 x.at_] 45) = W := ⟨_, rfl⟩
      obtain ⟨pa, hpa⟩ : ∃ x, wr.heap.size = x := ⟨_, rfl⟩
      have hPAF : ¬ F pa := fun h => by have := HP.out.lt _ h; omega
      have hO1 : Old wr W1 := by rw [← hW1]; exact (Old.refl' wr).alloc' _
      have hK1 : Bk W1 pa 45 #[.int .i64 x.client, .int .i64 x.seq, .bool x.ans, .int .i64 x.q.client, .int .i64 x.q.seq, .int .i64 x.q.kind, .int .i64 x.q.id, .int .i64 x.q.mat, .string x.q.data, .int .i64 x.r.code, .int .i64 x.r.ver, .string x.r.data, .slice x.A vn x.cap, .int .i64 x.at_] := by rw [← hW1, ← hpa]; exact Bk.new wr 45 _
      obtain ⟨⟨k0, k1, k2, k3, k4, k5, k6, k7, k8, k9, k10, k11, k12, k13⟩, kl⟩ := bk14 hK1
      have hPa := HP.out.old hO1
      have hXV : IntsAt W1 x.A x.r.vs := CellsAt.old hXV hO1
      have HPAF := hide hPAF
      have HO1 := hide (hbel.trans' hO1)
      have HK1 := hide hK1
      have HW1 := hide hW1
      clear hPAF hO1 hK1
      go_upto_if 15 with fail
      clear hW1 c0 c1 c2 c3 c4 c5 c6 c7 c8 c9 c10 c11 c12 c13
      go_cut [6, 13, 15] from 16 to 29 (fun v u d w' => (∃ E, v = .int .i64 E ∧ MayR w w' p pa k st x E) ∧ u = .agg #[.int .i64 x.client, .int .i64 x.seq, .bool x.ans, .int .i64 x.q.client, .int .i64 x.q.seq, .int .i64 x.q.kind, .int .i64 x.q.id, .int .i64 x.q.mat, .string x.q.data, .int .i64 x.r.code, .int .i64 x.r.ver, .string x.r.data, .slice x.A vn x.cap, .int .i64 x.at_] ∧ d = .bool x.ans)
      case first =>
        cases hb : x.ans
        · rw [hb] at k2
          obtain ⟨E, hE⟩ : ∃ E, st.askE x.q = E := ⟨_, rfl⟩
          obtain ⟨s', hs'⟩ : ∃ s', st.ask x.q = s' := ⟨_, rfl⟩
          have HE := hide hE
          have HS := hide hs'
          clear hE hs'
          have cC := hide (PAsk_at p F st k HN.out (by omega) x.q E HE.out s' HS.out _ hPa)
          go_wp2_with (go_at_call 38; refine cC.out.mono ?_; rintro e w2 ⟨rfl, ⟨F2, hP2, hF2⟩, hfr, hfin⟩)
          go_meet
          case rel =>
            refine ⟨⟨E, rfl, ?_, ?_, ?_⟩, by rw [hb], by rw [hb]⟩
            · exact HO1.out.fr_new hfr (fun b hb => HF.out b hb)
            · have := HK1.out.fr hfr HPAF.out
              rw [HVN.out]
              exact this
            · by_cases hE0 : E = 0
              · subst hE0
                have hla := hfin rfl
                refine .inr ⟨rfl, s', F2, ⟨x.q.client, x.q.seq, false, x.q, Rep.zero, none, 0, 0⟩, ?_, hP2, fun b hb => (hF2 b hb).elim (HF.out b) (fun h => Nat.le_trans HO1.out.size h), ?_, ?_, ?_, ?_⟩
                · rw [← HS.out]; exact step_ask hb HE.out
                · rw [← HS.out, ask_n HE.out, HN.out]
                · exact hla
                · exact CellsAt.nil _ _
                · exact Nat.zero_le _
              · exact .inl ⟨hE0, step_askN hb (by rw [HE.out]; exact hE0)⟩
        · rw [hb] at k2
          obtain ⟨E, hE⟩ : ∃ E, st.ansE x.client x.seq x.at_ = E := ⟨_, rfl⟩
          obtain ⟨s', hs'⟩ : ∃ s', st.ans x.client x.seq x.at_ = s' := ⟨_, rfl⟩
          have HE := hide hE
          have HS := hide hs'
          clear hE hs'
          have cC := hide (PAns_at p F st k HN.out (by omega) x.client x.seq x.at_ x.r x.A vn x.cap HVN.out (by omega) E HE.out s' HS.out _ hPa hXV)
          go_wp2_with (go_at_call 37; refine cC.out.mono ?_; rintro e w2 ⟨rfl, ⟨F2, hP2, hF2⟩, hfr, hfin⟩)
          go_meet
          case rel =>
            refine ⟨⟨E, rfl, ?_, ?_, ?_⟩, by rw [hb], by rw [hb]⟩
            · exact HO1.out.fr_new hfr (fun b hb => HF.out b hb)
            · have := HK1.out.fr hfr HPAF.out
              rw [HVN.out]
              exact this
            · by_cases hE0 : E = 0
              · subst hE0
                obtain ⟨q, AV, cV, hwq, hla, hiv⟩ := hfin rfl
                refine .inr ⟨rfl, s', F2, ⟨x.client, x.seq, true, q, x.r, AV, cV, x.at_⟩, ?_, hP2, fun b hb => (hF2 b hb).elim (HF.out b) (fun h => Nat.le_trans HO1.out.size h), ?_, ?_, ?_, ?_⟩
                · rw [← HS.out]; exact step_ans hb HE.out hwq
                · rw [← HS.out, ans_n HE.out, HN.out]
                · have e : x.r.vs.length = vn := HVN.out; subst e; exact hla
                · exact hiv
                · show x.r.vs.length ≤ 1000; rw [HVN.out]; exact hvn
              · exact .inl ⟨hE0, step_ansN hb (by rw [HE.out]; exact hE0)⟩
      case rest =>
        obtain ⟨WD, rfl⟩ : ∃ W, W = wc := ⟨_, rfl⟩
        obtain ⟨⟨E, rfl, hold, hbk, hr⟩, rfl, rfl⟩ := hcut
        clear k0 k1 k2 k3 k4 k5 k6 k7 k8 k9 k10 k11 k12 k13 kl hPa hXV
        have stop : st.step x = none → b = false := fun h => by rw [← HB.out]; exact mayP_none hkq HST.out (HX.out ▸ h)
        have STOP := hide stop
        clear stop
        rw [HVN.out] at hbk
        rcases hr with ⟨hE, hn'⟩ | ⟨rfl, s', F', y, hsp, hP2, hF2, hsn, ⟨bl, ol, cl, hl0, hlb, hlc⟩, hIV, hyn⟩
        · have hE1 : (E != 0) = true := by simpa using hE
          have hBF := STOP.out hn'
          subst hBF
          have HOLD := hide hold
          clear hn' hbk
          go_wp2_with fail
          go_quiet (fail)
          go_wp2_with fail
          go_ret
          exact ⟨rfl, HOLD.out.drewN' _⟩
        · obtain ⟨m, hm⟩ : ∃ m, k + 1 = m := ⟨_, rfl⟩
          rw [hm] at hl0
          obtain ⟨ym, hym⟩ : ∃ ym, y.r.vs.length = ym := ⟨_, rfl⟩
          have hm1 : ((m : Nat) : Int) - 1 = (k : Int) := by omega
          have hm3 : (k : Int) < (m : Int) := by omega
          have hm4 : k < m := by omega
          have hm2 : IntKind.i64.wrap (k : Int) = (k : Int) := IntWalk.i64_in _ (by omega)
          have hm5 : m ≤ 1001 := by omega
          have HM := hide hm
          have HYM := hide hym
          have hp0 : p < WD.heap.size := hP2.lt _ hP2.gF
          have hp1 := hbk.lt
          have CS := hide (fun (U : World) (h : Old WD U) => (⟨(h.cell (p := ⟨p, 0, none⟩) hp0).trans hl0, (bk14 (hbk.old h)).1, (h.cell (p := ⟨bl, ol + k * 14, none⟩) hlb).trans (hlc 0 _ rfl), (h.cell (p := ⟨bl, ol + k * 14 + 1, none⟩) hlb).trans (hlc 1 _ rfl), (h.cell (p := ⟨bl, ol + k * 14 + 2, none⟩) hlb).trans (hlc 2 _ rfl), (h.cell (p := ⟨bl, ol + k * 14 + 3, none⟩) hlb).trans (hlc 3 _ rfl), (h.cell (p := ⟨bl, ol + k * 14 + 4, none⟩) hlb).trans (hlc 4 _ rfl), (h.cell (p := ⟨bl, ol + k * 14 + 5, none⟩) hlb).trans (hlc 5 _ rfl), (h.cell (p := ⟨bl, ol + k * 14 + 6, none⟩) hlb).trans (hlc 6 _ rfl), (h.cell (p := ⟨bl, ol + k * 14 + 7, none⟩) hlb).trans (hlc 7 _ rfl), (h.cell (p := ⟨bl, ol + k * 14 + 8, none⟩) hlb).trans (hlc 8 _ rfl), (h.cell (p := ⟨bl, ol + k * 14 + 9, none⟩) hlb).trans (hlc 9 _ rfl), (h.cell (p := ⟨bl, ol + k * 14 + 10, none⟩) hlb).trans (hlc 10 _ rfl), (h.cell (p := ⟨bl, ol + k * 14 + 11, none⟩) hlb).trans (hlc 11 _ rfl), (h.cell (p := ⟨bl, ol + k * 14 + 12, none⟩) hlb).trans (hlc 12 _ rfl), (h.cell (p := ⟨bl, ol + k * 14 + 13, none⟩) hlb).trans (hlc 13 _ rfl)⟩ :
            U.cell? ⟨p, 0, none⟩ = some (.slice (some ⟨bl, ol, none⟩) m cl) ∧ _ ∧ U.cell? ⟨bl, ol + k * 14, none⟩ = some (.int .i64 y.client) ∧ U.cell? ⟨bl, ol + k * 14 + 1, none⟩ = some (.int .i64 y.seq) ∧ U.cell? ⟨bl, ol + k * 14 + 2, none⟩ = some (.bool y.ans) ∧ U.cell? ⟨bl, ol + k * 14 + 3, none⟩ = some (.int .i64 y.q.client) ∧ U.cell? ⟨bl, ol + k * 14 + 4, none⟩ = some (.int .i64 y.q.seq) ∧ U.cell? ⟨bl, ol + k * 14 + 5, none⟩ = some (.int .i64 y.q.kind) ∧ U.cell? ⟨bl, ol + k * 14 + 6, none⟩ = some (.int .i64 y.q.id) ∧ U.cell? ⟨bl, ol + k * 14 + 7, none⟩ = some (.int .i64 y.q.mat) ∧ U.cell? ⟨bl, ol + k * 14 + 8, none⟩ = some (.string y.q.data) ∧ U.cell? ⟨bl, ol + k * 14 + 9, none⟩ = some (.int .i64 y.r.code) ∧ U.cell? ⟨bl, ol + k * 14 + 10, none⟩ = some (.int .i64 y.r.ver) ∧ U.cell? ⟨bl, ol + k * 14 + 11, none⟩ = some (.string y.r.data) ∧ U.cell? ⟨bl, ol + k * 14 + 12, none⟩ = some (.slice y.A y.r.vs.length y.cap) ∧ U.cell? ⟨bl, ol + k * 14 + 13, none⟩ = some (.int .i64 y.at_)))
          simp only [hym] at CS
          have cS := hide (fun (U : World) (h : Old WD U) => PaSame_any x y vn ym U HVN.out.symm HYM.out.symm (CellsAt.old HXV.out (hold.trans' h)) (CellsAt.old hIV h) hvn (by omega))
          have HSP := hide hsp
          have HP2 := hide hP2
          have HF2 := hide hF2
          have HSN := hide hsn
          have HOLD := hide hold
          clear hsp hP2 hF2 hsn hold hbk hIV hlc hl0 hm hym
          cases hB : x.same y
          · rw [hB] at cS
            have hBF := STOP.out (by rw [HSP.out, hB]; rfl)
            subst hBF
            go_upto_region 9 with fail
            refine region_steps (R := pick [eqv (.int .i64 0), eqv (.bool false), eqv (.bool false), eqv (.agg #[.int .i64 x.client, .int .i64 x.seq, .bool x.ans, .int .i64 x.q.client, .int .i64 x.q.seq, .int .i64 x.q.kind, .int .i64 x.q.id, .int .i64 x.q.mat, .string x.q.data, .int .i64 x.r.code, .int .i64 x.r.ver, .string x.r.data, .slice x.A vn x.cap, .int .i64 x.at_]), eqv (.pointer (some ⟨p, 0, none⟩)), eqv (.pointer (some ⟨p, 0, none⟩)), eqv (.pointer (some ⟨p, 0, none⟩)), eqv (.slice (some ⟨bl, ol, none⟩) m cl), eqv (.pointer (some ⟨p, 0, none⟩)), eqv (.pointer (some ⟨p, 0, none⟩)), eqv (.pointer (some ⟨p, 0, none⟩)), eqv (.slice (some ⟨bl, ol, none⟩) m cl), eqv (.int .i64 m), eqv (.int .i64 k), eqv (.pointer (some ⟨bl, ol + k * 14, none⟩)), eqv (.agg #[.int .i64 y.client, .int .i64 y.seq, .bool y.ans, .int .i64 y.q.client, .int .i64 y.q.seq, .int .i64 y.q.kind, .int .i64 y.q.id, .int .i64 y.q.mat, .string y.q.data, .int .i64 y.r.code, .int .i64 y.r.ver, .string y.r.data, .slice y.A ym y.cap, .int .i64 y.at_]), eqv (.bool false), eqv (.bool true), eqv (.bool true)]) (S := fun _ w' => Old WD w') (T := Old) (by kernel_rfl) (by kernel_rfl) (by kernel_rfl) (Stab.pick (Stab.eqv (Stab.eqv (Stab.eqv (Stab.eqv (Stab.eqv (Stab.eqv (Stab.eqv (Stab.eqv (Stab.eqv (Stab.eqv (Stab.eqv (Stab.eqv (Stab.eqv (Stab.eqv (Stab.eqv (Stab.eqv (Stab.eqv (Stab.eqv (Stab.eqv (Stab.nil))))))))))))))))))))) ((Old.refl' WD).drew') ?steps ?ends
            case steps =>
              refine StepsOk.cons (stepOk_pure [] [(6, .int .i64 0)] rfl rfl (by kernel_rfl) (by kernel_rfl) rfl Old.refl' (fun _ _ _ h => h) (fun d E w' hk hda hS hc hf => by rintro  e6; exact ⟨_, by go_simp, rfl⟩)) ?_
              refine StepsOk.cons (stepOk_pure [(0, 30)] [] rfl rfl (by kernel_rfl) (by kernel_rfl) rfl Old.refl' (fun _ _ _ h => h) (fun d E w' hk hda hS hc hf => by rintro _ q0 rfl e30 ; exact ⟨_, by go_simp, rfl⟩)) ?_
              refine StepsOk.cons (stepOk_pure [(1, 31)] [] rfl rfl (by kernel_rfl) (by kernel_rfl) rfl Old.refl' (fun _ _ _ h => h) (fun d E w' hk hda hS hc hf => by rintro _ q1 rfl e31 ; exact ⟨_, by go_simp, rfl⟩)) ?_
              refine StepsOk.cons (stepOk_pureG 2 32 false rfl rfl (by kernel_rfl) (fun _ _ h => h) [] [(5, .pointer (some ⟨pa, 0, none⟩))] (by kernel_rfl) (by kernel_rfl) rfl Old.refl' (fun _ _ _ h => h) (fun d E w' hk hda hS hc hf => by rintro  e5; obtain ⟨p0, ⟨s0, s1, s2, s3, s4, s5, s6, s7, s8, s9, s10, s11, s12, s13⟩, ⟨l0, l1, l2, l3, l4, l5, l6, l7, l8, l9, l10, l11, l12, l13⟩⟩ := CS.out _ hS; exact ⟨_, by go_simp, rfl⟩)) ?_
              refine StepsOk.cons (stepOk_pureG 2 32 false rfl rfl (by kernel_rfl) (fun _ _ h => h) [] [(3, .pointer (some ⟨p, 0, none⟩))] (by kernel_rfl) (by kernel_rfl) rfl Old.refl' (fun _ _ _ h => h) (fun d E w' hk hda hS hc hf => by rintro  e3; exact ⟨_, by go_simp, rfl⟩)) ?_
              refine StepsOk.cons (stepOk_pureG 2 32 false rfl rfl (by kernel_rfl) (fun _ _ h => h) [(4, 34)] [] (by kernel_rfl) (by kernel_rfl) rfl Old.refl' (fun _ _ _ h => h) (fun d E w' hk hda hS hc hf => by rintro _ q4 rfl e34 ; exact ⟨_, by go_simp, rfl⟩)) ?_
              refine StepsOk.cons (stepOk_pureG 2 32 false rfl rfl (by kernel_rfl) (fun _ _ h => h) [(5, 35)] [] (by kernel_rfl) (by kernel_rfl) rfl Old.refl' (fun _ _ _ h => h) (fun d E w' hk hda hS hc hf => by rintro _ q5 rfl e35 ; exact ⟨_, by go_simp, rfl⟩)) ?_
              refine StepsOk.cons (stepOk_pureG 2 32 false rfl rfl (by kernel_rfl) (fun _ _ h => h) [(6, 36)] [] (by kernel_rfl) (by kernel_rfl) rfl Old.refl' (fun _ _ _ h => h) (fun d E w' hk hda hS hc hf => by rintro _ q6 rfl e36 ; obtain ⟨p0, ⟨s0, s1, s2, s3, s4, s5, s6, s7, s8, s9, s10, s11, s12, s13⟩, ⟨l0, l1, l2, l3, l4, l5, l6, l7, l8, l9, l10, l11, l12, l13⟩⟩ := CS.out _ hS; exact ⟨_, by go_simp, rfl⟩)) ?_
              refine StepsOk.cons (stepOk_pureG 2 32 false rfl rfl (by kernel_rfl) (fun _ _ h => h) [] [(3, .pointer (some ⟨p, 0, none⟩))] (by kernel_rfl) (by kernel_rfl) rfl Old.refl' (fun _ _ _ h => h) (fun d E w' hk hda hS hc hf => by rintro  e3; exact ⟨_, by go_simp, rfl⟩)) ?_
              refine StepsOk.cons (stepOk_pureG 2 32 false rfl rfl (by kernel_rfl) (fun _ _ h => h) [(8, 38)] [] (by kernel_rfl) (by kernel_rfl) rfl Old.refl' (fun _ _ _ h => h) (fun d E w' hk hda hS hc hf => by rintro _ q8 rfl e38 ; exact ⟨_, by go_simp, rfl⟩)) ?_
              refine StepsOk.cons (stepOk_pureG 2 32 false rfl rfl (by kernel_rfl) (fun _ _ h => h) [(9, 39)] [] (by kernel_rfl) (by kernel_rfl) rfl Old.refl' (fun _ _ _ h => h) (fun d E w' hk hda hS hc hf => by rintro _ q9 rfl e39 ; exact ⟨_, by go_simp, rfl⟩)) ?_
              refine StepsOk.cons (stepOk_pureG 2 32 false rfl rfl (by kernel_rfl) (fun _ _ h => h) [(10, 40)] [] (by kernel_rfl) (by kernel_rfl) rfl Old.refl' (fun _ _ _ h => h) (fun d E w' hk hda hS hc hf => by rintro _ q10 rfl e40 ; obtain ⟨p0, ⟨s0, s1, s2, s3, s4, s5, s6, s7, s8, s9, s10, s11, s12, s13⟩, ⟨l0, l1, l2, l3, l4, l5, l6, l7, l8, l9, l10, l11, l12, l13⟩⟩ := CS.out _ hS; exact ⟨_, by go_simp, rfl⟩)) ?_
              refine StepsOk.cons (stepOk_pureG 2 32 false rfl rfl (by kernel_rfl) (fun _ _ h => h) [(11, 41)] [] (by kernel_rfl) (by kernel_rfl) rfl Old.refl' (fun _ _ _ h => h) (fun d E w' hk hda hS hc hf => by rintro _ q11 rfl e41 ; exact ⟨_, by go_simp, rfl⟩)) ?_
              refine StepsOk.cons (stepOk_pureG 2 32 false rfl rfl (by kernel_rfl) (fun _ _ h => h) [(12, 42)] [] (by kernel_rfl) (by kernel_rfl) rfl Old.refl' (fun _ _ _ h => h) (fun d E w' hk hda hS hc hf => by rintro _ q12 rfl e42 ; exact ⟨_, by go_simp, rfl⟩)) ?_
              refine StepsOk.cons (stepOk_pureG 2 32 false rfl rfl (by kernel_rfl) (fun _ _ h => h) [(7, 37), (13, 43)] [] (by kernel_rfl) (by kernel_rfl) rfl Old.refl' (fun _ _ _ h => h) (fun d E w' hk hda hS hc hf => by rintro _ q7 rfl e37 _ q13 rfl e43 ; obtain ⟨p0, ⟨s0, s1, s2, s3, s4, s5, s6, s7, s8, s9, s10, s11, s12, s13⟩, ⟨l0, l1, l2, l3, l4, l5, l6, l7, l8, l9, l10, l11, l12, l13⟩⟩ := CS.out _ hS; exact ⟨_, by go_simp, rfl⟩)) ?_
              refine StepsOk.cons (stepOk_pureG 2 32 false rfl rfl (by kernel_rfl) (fun _ _ h => h) [(14, 44)] [] (by kernel_rfl) (by kernel_rfl) rfl Old.refl' (fun _ _ _ h => h) (fun d E w' hk hda hS hc hf => by rintro _ q14 rfl e44 ; obtain ⟨p0, ⟨s0, s1, s2, s3, s4, s5, s6, s7, s8, s9, s10, s11, s12, s13⟩, ⟨l0, l1, l2, l3, l4, l5, l6, l7, l8, l9, l10, l11, l12, l13⟩⟩ := CS.out _ hS; exact ⟨_, by go_simp, rfl⟩)) ?_
              refine StepsOk.cons (stepOk_guard 2 32 false rfl rfl (by kernel_rfl) (fun _ _ h => h) [(3, 33), (15, 45)] [] (by kernel_rfl) (by kernel_rfl) rfl ?_) ?_
              · rintro d a w' hk hda hS _ q3 rfl e33 _ q15 rfl e45 
                first | refine Given.nil (Known.nil ?_) | refine Known.nil ?_
                refine wp_call 39 _ Try.func39 (by kernel_rfl) (by kernel_rfl) _ _ (by rfl) [.agg #[.int .i64 x.client, .int .i64 x.seq, .bool x.ans, .int .i64 x.q.client, .int .i64 x.q.seq, .int .i64 x.q.kind, .int .i64 x.q.id, .int .i64 x.q.mat, .string x.q.data, .int .i64 x.r.code, .int .i64 x.r.ver, .string x.r.data, .slice x.A vn x.cap, .int .i64 x.at_], .agg #[.int .i64 y.client, .int .i64 y.seq, .bool y.ans, .int .i64 y.q.client, .int .i64 y.q.seq, .int .i64 y.q.kind, .int .i64 y.q.id, .int .i64 y.q.mat, .string y.q.data, .int .i64 y.r.code, .int .i64 y.r.ver, .string y.r.data, .slice y.A ym y.cap, .int .i64 y.at_]] (by simp only [List.map_cons, List.map_nil, *]; try rfl) (cS.out _ hS) ?_
                rintro e w1 ⟨rfl, f4⟩
                exact ⟨_, rfl, _, rfl, rfl, f4, hS.trans' f4⟩
              refine StepsOk.cons (stepOk_pureG 2 32 false rfl rfl (by kernel_rfl) (fun _ _ h => h) [(16, 46)] [] (by kernel_rfl) (by kernel_rfl) rfl Old.refl' (fun _ _ _ h => h) (fun d E w' hk hda hS hc hf => by rintro _ q16 rfl e46 ; exact ⟨_, by go_simp, rfl⟩)) ?_
              refine StepsOk.cons (stepOk_pure [(2, 32), (17, 47)] [] rfl rfl (by kernel_rfl) (by kernel_rfl) rfl Old.refl' (fun _ _ _ h => h) (fun d E w' hk hda hS hc hf => by rintro _ q2 rfl e32 _ q17 rfl e47 ; exact ⟨_, by go_simp, rfl⟩)) ?_
              exact StepsOk.nil
            case ends =>
              intro σ9 w9 hS9 hA9
              refine Ends.eqv (some 30) (.int .i64 0) rfl (fun _ h => h) ?_
              refine Ends.eqv (some 31) (.bool false) rfl (fun _ h => h) ?_
              refine Ends.eqv (some 32) (.bool false) rfl (fun _ h => h) ?_
              refine Ends.eqv (some 33) (.agg #[.int .i64 x.client, .int .i64 x.seq, .bool x.ans, .int .i64 x.q.client, .int .i64 x.q.seq, .int .i64 x.q.kind, .int .i64 x.q.id, .int .i64 x.q.mat, .string x.q.data, .int .i64 x.r.code, .int .i64 x.r.ver, .string x.r.data, .slice x.A vn x.cap, .int .i64 x.at_]) rfl (fun _ h => h) ?_
              refine Ends.eqv (some 34) (.pointer (some ⟨p, 0, none⟩)) rfl (fun _ h => h) ?_
              refine Ends.eqv (some 35) (.pointer (some ⟨p, 0, none⟩)) rfl (fun _ h => h) ?_
              refine Ends.eqv (some 36) (.pointer (some ⟨p, 0, none⟩)) rfl (fun _ h => h) ?_
              refine Ends.eqv (some 37) (.slice (some ⟨bl, ol, none⟩) m cl) rfl (fun _ h => h) ?_
              refine Ends.eqv (some 38) (.pointer (some ⟨p, 0, none⟩)) rfl (fun _ h => h) ?_
              refine Ends.eqv (some 39) (.pointer (some ⟨p, 0, none⟩)) rfl (fun _ h => h) ?_
              refine Ends.eqv (some 40) (.pointer (some ⟨p, 0, none⟩)) rfl (fun _ h => h) ?_
              refine Ends.eqv (some 41) (.slice (some ⟨bl, ol, none⟩) m cl) rfl (fun _ h => h) ?_
              refine Ends.eqv (some 42) (.int .i64 m) rfl (fun _ h => h) ?_
              refine Ends.eqv (some 43) (.int .i64 k) rfl (fun _ h => h) ?_
              refine Ends.eqv (some 44) (.pointer (some ⟨bl, ol + k * 14, none⟩)) rfl (fun _ h => h) ?_
              refine Ends.eqv (some 45) (.agg #[.int .i64 y.client, .int .i64 y.seq, .bool y.ans, .int .i64 y.q.client, .int .i64 y.q.seq, .int .i64 y.q.kind, .int .i64 y.q.id, .int .i64 y.q.mat, .string y.q.data, .int .i64 y.r.code, .int .i64 y.r.ver, .string y.r.data, .slice y.A ym y.cap, .int .i64 y.at_]) rfl (fun _ h => h) ?_
              refine Ends.eqv (some 46) (.bool false) rfl (fun _ h => h) ?_
              refine Ends.eqv (some 47) (.bool true) rfl (fun _ h => h) ?_
              refine Ends.eqv (some 48) (.bool true) rfl (fun _ h => h) ?_
              refine Ends.nil ?_
              clear hA9
              simp only [put_lit, put_none, List.set_cons_zero, List.set_cons_succ]
              go_wp2_with fail
              go_ret
              exact ⟨rfl, HOLD.out.trans' hS9⟩
          · rw [hB] at cS
            go_upto_region 9 with fail
            refine region_steps (R := pick [eqv (.int .i64 0), eqv (.bool false), eqv (.bool false), eqv (.agg #[.int .i64 x.client, .int .i64 x.seq, .bool x.ans, .int .i64 x.q.client, .int .i64 x.q.seq, .int .i64 x.q.kind, .int .i64 x.q.id, .int .i64 x.q.mat, .string x.q.data, .int .i64 x.r.code, .int .i64 x.r.ver, .string x.r.data, .slice x.A vn x.cap, .int .i64 x.at_]), eqv (.pointer (some ⟨p, 0, none⟩)), eqv (.pointer (some ⟨p, 0, none⟩)), eqv (.pointer (some ⟨p, 0, none⟩)), eqv (.slice (some ⟨bl, ol, none⟩) m cl), eqv (.pointer (some ⟨p, 0, none⟩)), eqv (.pointer (some ⟨p, 0, none⟩)), eqv (.pointer (some ⟨p, 0, none⟩)), eqv (.slice (some ⟨bl, ol, none⟩) m cl), eqv (.int .i64 m), eqv (.int .i64 k), eqv (.pointer (some ⟨bl, ol + k * 14, none⟩)), eqv (.agg #[.int .i64 y.client, .int .i64 y.seq, .bool y.ans, .int .i64 y.q.client, .int .i64 y.q.seq, .int .i64 y.q.kind, .int .i64 y.q.id, .int .i64 y.q.mat, .string y.q.data, .int .i64 y.r.code, .int .i64 y.r.ver, .string y.r.data, .slice y.A ym y.cap, .int .i64 y.at_]), eqv (.bool true), eqv (.bool false), eqv (.bool false)]) (S := fun _ w' => Old WD w') (T := Old) (by kernel_rfl) (by kernel_rfl) (by kernel_rfl) (Stab.pick (Stab.eqv (Stab.eqv (Stab.eqv (Stab.eqv (Stab.eqv (Stab.eqv (Stab.eqv (Stab.eqv (Stab.eqv (Stab.eqv (Stab.eqv (Stab.eqv (Stab.eqv (Stab.eqv (Stab.eqv (Stab.eqv (Stab.eqv (Stab.eqv (Stab.eqv (Stab.nil))))))))))))))))))))) ((Old.refl' WD).drew') ?steps ?ends
            case steps =>
              refine StepsOk.cons (stepOk_pure [] [(6, .int .i64 0)] rfl rfl (by kernel_rfl) (by kernel_rfl) rfl Old.refl' (fun _ _ _ h => h) (fun d E w' hk hda hS hc hf => by rintro  e6; exact ⟨_, by go_simp, rfl⟩)) ?_
              refine StepsOk.cons (stepOk_pure [(0, 30)] [] rfl rfl (by kernel_rfl) (by kernel_rfl) rfl Old.refl' (fun _ _ _ h => h) (fun d E w' hk hda hS hc hf => by rintro _ q0 rfl e30 ; exact ⟨_, by go_simp, rfl⟩)) ?_
              refine StepsOk.cons (stepOk_pure [(1, 31)] [] rfl rfl (by kernel_rfl) (by kernel_rfl) rfl Old.refl' (fun _ _ _ h => h) (fun d E w' hk hda hS hc hf => by rintro _ q1 rfl e31 ; exact ⟨_, by go_simp, rfl⟩)) ?_
              refine StepsOk.cons (stepOk_pureG 2 32 false rfl rfl (by kernel_rfl) (fun _ _ h => h) [] [(5, .pointer (some ⟨pa, 0, none⟩))] (by kernel_rfl) (by kernel_rfl) rfl Old.refl' (fun _ _ _ h => h) (fun d E w' hk hda hS hc hf => by rintro  e5; obtain ⟨p0, ⟨s0, s1, s2, s3, s4, s5, s6, s7, s8, s9, s10, s11, s12, s13⟩, ⟨l0, l1, l2, l3, l4, l5, l6, l7, l8, l9, l10, l11, l12, l13⟩⟩ := CS.out _ hS; exact ⟨_, by go_simp, rfl⟩)) ?_
              refine StepsOk.cons (stepOk_pureG 2 32 false rfl rfl (by kernel_rfl) (fun _ _ h => h) [] [(3, .pointer (some ⟨p, 0, none⟩))] (by kernel_rfl) (by kernel_rfl) rfl Old.refl' (fun _ _ _ h => h) (fun d E w' hk hda hS hc hf => by rintro  e3; exact ⟨_, by go_simp, rfl⟩)) ?_
              refine StepsOk.cons (stepOk_pureG 2 32 false rfl rfl (by kernel_rfl) (fun _ _ h => h) [(4, 34)] [] (by kernel_rfl) (by kernel_rfl) rfl Old.refl' (fun _ _ _ h => h) (fun d E w' hk hda hS hc hf => by rintro _ q4 rfl e34 ; exact ⟨_, by go_simp, rfl⟩)) ?_
              refine StepsOk.cons (stepOk_pureG 2 32 false rfl rfl (by kernel_rfl) (fun _ _ h => h) [(5, 35)] [] (by kernel_rfl) (by kernel_rfl) rfl Old.refl' (fun _ _ _ h => h) (fun d E w' hk hda hS hc hf => by rintro _ q5 rfl e35 ; exact ⟨_, by go_simp, rfl⟩)) ?_
              refine StepsOk.cons (stepOk_pureG 2 32 false rfl rfl (by kernel_rfl) (fun _ _ h => h) [(6, 36)] [] (by kernel_rfl) (by kernel_rfl) rfl Old.refl' (fun _ _ _ h => h) (fun d E w' hk hda hS hc hf => by rintro _ q6 rfl e36 ; obtain ⟨p0, ⟨s0, s1, s2, s3, s4, s5, s6, s7, s8, s9, s10, s11, s12, s13⟩, ⟨l0, l1, l2, l3, l4, l5, l6, l7, l8, l9, l10, l11, l12, l13⟩⟩ := CS.out _ hS; exact ⟨_, by go_simp, rfl⟩)) ?_
              refine StepsOk.cons (stepOk_pureG 2 32 false rfl rfl (by kernel_rfl) (fun _ _ h => h) [] [(3, .pointer (some ⟨p, 0, none⟩))] (by kernel_rfl) (by kernel_rfl) rfl Old.refl' (fun _ _ _ h => h) (fun d E w' hk hda hS hc hf => by rintro  e3; exact ⟨_, by go_simp, rfl⟩)) ?_
              refine StepsOk.cons (stepOk_pureG 2 32 false rfl rfl (by kernel_rfl) (fun _ _ h => h) [(8, 38)] [] (by kernel_rfl) (by kernel_rfl) rfl Old.refl' (fun _ _ _ h => h) (fun d E w' hk hda hS hc hf => by rintro _ q8 rfl e38 ; exact ⟨_, by go_simp, rfl⟩)) ?_
              refine StepsOk.cons (stepOk_pureG 2 32 false rfl rfl (by kernel_rfl) (fun _ _ h => h) [(9, 39)] [] (by kernel_rfl) (by kernel_rfl) rfl Old.refl' (fun _ _ _ h => h) (fun d E w' hk hda hS hc hf => by rintro _ q9 rfl e39 ; exact ⟨_, by go_simp, rfl⟩)) ?_
              refine StepsOk.cons (stepOk_pureG 2 32 false rfl rfl (by kernel_rfl) (fun _ _ h => h) [(10, 40)] [] (by kernel_rfl) (by kernel_rfl) rfl Old.refl' (fun _ _ _ h => h) (fun d E w' hk hda hS hc hf => by rintro _ q10 rfl e40 ; obtain ⟨p0, ⟨s0, s1, s2, s3, s4, s5, s6, s7, s8, s9, s10, s11, s12, s13⟩, ⟨l0, l1, l2, l3, l4, l5, l6, l7, l8, l9, l10, l11, l12, l13⟩⟩ := CS.out _ hS; exact ⟨_, by go_simp, rfl⟩)) ?_
              refine StepsOk.cons (stepOk_pureG 2 32 false rfl rfl (by kernel_rfl) (fun _ _ h => h) [(11, 41)] [] (by kernel_rfl) (by kernel_rfl) rfl Old.refl' (fun _ _ _ h => h) (fun d E w' hk hda hS hc hf => by rintro _ q11 rfl e41 ; exact ⟨_, by go_simp, rfl⟩)) ?_
              refine StepsOk.cons (stepOk_pureG 2 32 false rfl rfl (by kernel_rfl) (fun _ _ h => h) [(12, 42)] [] (by kernel_rfl) (by kernel_rfl) rfl Old.refl' (fun _ _ _ h => h) (fun d E w' hk hda hS hc hf => by rintro _ q12 rfl e42 ; exact ⟨_, by go_simp, rfl⟩)) ?_
              refine StepsOk.cons (stepOk_pureG 2 32 false rfl rfl (by kernel_rfl) (fun _ _ h => h) [(7, 37), (13, 43)] [] (by kernel_rfl) (by kernel_rfl) rfl Old.refl' (fun _ _ _ h => h) (fun d E w' hk hda hS hc hf => by rintro _ q7 rfl e37 _ q13 rfl e43 ; obtain ⟨p0, ⟨s0, s1, s2, s3, s4, s5, s6, s7, s8, s9, s10, s11, s12, s13⟩, ⟨l0, l1, l2, l3, l4, l5, l6, l7, l8, l9, l10, l11, l12, l13⟩⟩ := CS.out _ hS; exact ⟨_, by go_simp, rfl⟩)) ?_
              refine StepsOk.cons (stepOk_pureG 2 32 false rfl rfl (by kernel_rfl) (fun _ _ h => h) [(14, 44)] [] (by kernel_rfl) (by kernel_rfl) rfl Old.refl' (fun _ _ _ h => h) (fun d E w' hk hda hS hc hf => by rintro _ q14 rfl e44 ; obtain ⟨p0, ⟨s0, s1, s2, s3, s4, s5, s6, s7, s8, s9, s10, s11, s12, s13⟩, ⟨l0, l1, l2, l3, l4, l5, l6, l7, l8, l9, l10, l11, l12, l13⟩⟩ := CS.out _ hS; exact ⟨_, by go_simp, rfl⟩)) ?_
              refine StepsOk.cons (stepOk_guard 2 32 false rfl rfl (by kernel_rfl) (fun _ _ h => h) [(3, 33), (15, 45)] [] (by kernel_rfl) (by kernel_rfl) rfl ?_) ?_
              · rintro d a w' hk hda hS _ q3 rfl e33 _ q15 rfl e45 
                first | refine Given.nil (Known.nil ?_) | refine Known.nil ?_
                refine wp_call 39 _ Try.func39 (by kernel_rfl) (by kernel_rfl) _ _ (by rfl) [.agg #[.int .i64 x.client, .int .i64 x.seq, .bool x.ans, .int .i64 x.q.client, .int .i64 x.q.seq, .int .i64 x.q.kind, .int .i64 x.q.id, .int .i64 x.q.mat, .string x.q.data, .int .i64 x.r.code, .int .i64 x.r.ver, .string x.r.data, .slice x.A vn x.cap, .int .i64 x.at_], .agg #[.int .i64 y.client, .int .i64 y.seq, .bool y.ans, .int .i64 y.q.client, .int .i64 y.q.seq, .int .i64 y.q.kind, .int .i64 y.q.id, .int .i64 y.q.mat, .string y.q.data, .int .i64 y.r.code, .int .i64 y.r.ver, .string y.r.data, .slice y.A ym y.cap, .int .i64 y.at_]] (by simp only [List.map_cons, List.map_nil, *]; try rfl) (cS.out _ hS) ?_
                rintro e w1 ⟨rfl, f4⟩
                exact ⟨_, rfl, _, rfl, rfl, f4, hS.trans' f4⟩
              refine StepsOk.cons (stepOk_pureG 2 32 false rfl rfl (by kernel_rfl) (fun _ _ h => h) [(16, 46)] [] (by kernel_rfl) (by kernel_rfl) rfl Old.refl' (fun _ _ _ h => h) (fun d E w' hk hda hS hc hf => by rintro _ q16 rfl e46 ; exact ⟨_, by go_simp, rfl⟩)) ?_
              refine StepsOk.cons (stepOk_pure [(2, 32), (17, 47)] [] rfl rfl (by kernel_rfl) (by kernel_rfl) rfl Old.refl' (fun _ _ _ h => h) (fun d E w' hk hda hS hc hf => by rintro _ q2 rfl e32 _ q17 rfl e47 ; exact ⟨_, by go_simp, rfl⟩)) ?_
              exact StepsOk.nil
            case ends =>
              intro σ9 w9 hS9 hA9
              refine Ends.eqv (some 30) (.int .i64 0) rfl (fun _ h => h) ?_
              refine Ends.eqv (some 31) (.bool false) rfl (fun _ h => h) ?_
              refine Ends.eqv (some 32) (.bool false) rfl (fun _ h => h) ?_
              refine Ends.eqv (some 33) (.agg #[.int .i64 x.client, .int .i64 x.seq, .bool x.ans, .int .i64 x.q.client, .int .i64 x.q.seq, .int .i64 x.q.kind, .int .i64 x.q.id, .int .i64 x.q.mat, .string x.q.data, .int .i64 x.r.code, .int .i64 x.r.ver, .string x.r.data, .slice x.A vn x.cap, .int .i64 x.at_]) rfl (fun _ h => h) ?_
              refine Ends.eqv (some 34) (.pointer (some ⟨p, 0, none⟩)) rfl (fun _ h => h) ?_
              refine Ends.eqv (some 35) (.pointer (some ⟨p, 0, none⟩)) rfl (fun _ h => h) ?_
              refine Ends.eqv (some 36) (.pointer (some ⟨p, 0, none⟩)) rfl (fun _ h => h) ?_
              refine Ends.eqv (some 37) (.slice (some ⟨bl, ol, none⟩) m cl) rfl (fun _ h => h) ?_
              refine Ends.eqv (some 38) (.pointer (some ⟨p, 0, none⟩)) rfl (fun _ h => h) ?_
              refine Ends.eqv (some 39) (.pointer (some ⟨p, 0, none⟩)) rfl (fun _ h => h) ?_
              refine Ends.eqv (some 40) (.pointer (some ⟨p, 0, none⟩)) rfl (fun _ h => h) ?_
              refine Ends.eqv (some 41) (.slice (some ⟨bl, ol, none⟩) m cl) rfl (fun _ h => h) ?_
              refine Ends.eqv (some 42) (.int .i64 m) rfl (fun _ h => h) ?_
              refine Ends.eqv (some 43) (.int .i64 k) rfl (fun _ h => h) ?_
              refine Ends.eqv (some 44) (.pointer (some ⟨bl, ol + k * 14, none⟩)) rfl (fun _ h => h) ?_
              refine Ends.eqv (some 45) (.agg #[.int .i64 y.client, .int .i64 y.seq, .bool y.ans, .int .i64 y.q.client, .int .i64 y.q.seq, .int .i64 y.q.kind, .int .i64 y.q.id, .int .i64 y.q.mat, .string y.q.data, .int .i64 y.r.code, .int .i64 y.r.ver, .string y.r.data, .slice y.A ym y.cap, .int .i64 y.at_]) rfl (fun _ h => h) ?_
              refine Ends.eqv (some 46) (.bool true) rfl (fun _ h => h) ?_
              refine Ends.eqv (some 47) (.bool false) rfl (fun _ h => h) ?_
              refine Ends.eqv (some 48) (.bool false) rfl (fun _ h => h) ?_
              refine Ends.nil ?_
              clear hA9
              simp only [put_lit, put_none, List.set_cons_zero, List.set_cons_succ]
              go_wp2_with fail
              go_roundw
              case rel => exact ⟨k + 1, by omega, by go_num, F', s', HP2.out.old hS9, HF2.out, HOLD.out.trans' hS9, by rw [List.take_succ_eq_append_getElem hkq, stepsP_snoc, HST.out, HX.out]; exact HSP.out.trans (by rw [hB]; rfl), HSN.out⟩
              case measure => simp [intOf]; omega
    · obtain rfl : k = n := by omega
      go_wp2_with fail
      go_ret
      have h1 := HST.out
      rw [List.take_of_length_le (by have := HL.out; omega)] at h1
      exact ⟨retb (by rw [← HB.out]; unfold mayP; rw [h1]; rfl), hbel⟩
end Go.Proofs.Ytffahoocbjfdaaa
