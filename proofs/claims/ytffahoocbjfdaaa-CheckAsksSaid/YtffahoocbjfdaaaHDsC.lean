/- casebookref22.Check. -/
import Derived.BigQuiet
import Derived.Test.YtffahoocbjfdaaaHDs
import Derived.Test.YtffahoocbjfdaaaHCC
namespace Go.Proofs.Ytffahoocbjfdaaa
open Go.RowKit
structure ChkR (w wr : World) (pb : Nat) (l : List ActV) (log : List ReqV) (qt : Int) (rd : Bool) (k nn : Nat) : Prop where
  old : Old w wr
  kb : Bk wr pb 49 #[.int .i64 ((plSt (l.take k)).asked 0), .int .i64 ((plSt (l.take k)).asked 1), .int .i64 ((plSt (l.take k)).asked 2), .int .i64 ((plSt (l.take k)).asked 3)]
  n : nn = (ansL l k).length
  good : ∀ y ∈ ansL l k, goodA qt log l rd y = true
theorem chk_bad {l : List ActV} {k nn : Nat} {x : ActV} {good : Nat × Int × Int → Bool} (h : nn = (ansL l k).length ∧ ∀ y ∈ ansL l k, good y = true) (hk : k < l.length) (hx : l[k] = x) (ha : x.ans = true) (hb : good (k, (plSt (l.take k)).asked x.client, (plSt (l.take k)).at_ x) = false) : checkR good 0 (ansL l l.length) = -((nn : Int) + 1) := by
  obtain ⟨t, ht⟩ := ansL_pre l (show k + 1 ≤ l.length by omega)
  rw [ht, ansL_ans hk hx ha, List.append_assoc, checkR_app good _ _ _ h.2, ← h.1]
  show (if good _ = true then _ else _) = _
  rw [if_neg (by rw [hb]; decide)]
  simp
theorem chk_next {w W9 : World} {pb : Nat} {l : List ActV} {log : List ReqV} {qt : Int} {rd : Bool} {k nn : Nat} {x : ActV} (h : nn = (ansL l k).length ∧ ∀ y ∈ ansL l k, goodA qt log l rd y = true) (hk : k < l.length) (hx : l[k] = x) (ha : x.ans = true) (hb : goodA qt log l rd (k, (plSt (l.take k)).asked x.client, (plSt (l.take k)).at_ x) = true) (ho : Old w W9)
    (kb : Bk W9 pb 49 #[.int .i64 ((plSt (l.take k)).asked 0), .int .i64 ((plSt (l.take k)).asked 1), .int .i64 ((plSt (l.take k)).asked 2), .int .i64 ((plSt (l.take k)).asked 3)]) : ChkR w W9 pb l log qt rd (k + 1) (nn + 1) := by
  refine ⟨ho, ?_, by rw [ansL_ans hk hx ha, List.length_append, ← h.1]; rfl, fun y hy => ?_⟩
  · rw [plSt_take hk, hx]
    unfold PlV.next
    rw [if_pos ha]
    exact kb
  · rw [ansL_ans hk hx ha] at hy
    rcases List.mem_append.1 hy with hy | hy
    · exact h.2 y hy
    · rw [List.mem_singleton.1 hy]; exact hb
section
variable {qt : Int} {log : List ReqV} {x : ActV} {ask a : Int} {rd : Bool}
theorem right_lo (hw : Writes x.q.kind = true) (h : ¬ 1 ≤ a) : rightP qt log x ask a rd = false := by
  unfold rightP; rw [if_pos hw, decide_eq_false h]; simp
theorem right_hi (hw : Writes x.q.kind = true) (h : ¬ a ≤ (log.length : Int)) : rightP qt log x ask a rd = false := by
  unfold rightP; rw [if_pos hw, decide_eq_false h]; simp
theorem right_ask (hw : Writes x.q.kind = true) (h : ¬ ask < a) : rightP qt log x ask a rd = false := by
  unfold rightP; rw [if_pos hw, decide_eq_false h]; simp
theorem right_neq (hw : Writes x.q.kind = true) (h : (log[(a - 1).toNat]?.getD default).eqb x.q = false) : rightP qt log x ask a rd = false := by
  unfold rightP; rw [if_pos hw, h]; simp
end
theorem bytes_eq' {a b : ByteArray} (h : a.toList = b.toList) : a = b := by simpa [bytes_eq] using h
theorem right_skip {qt : Int} {log : List ReqV} {x : ActV} {ask a : Int} (hw : Writes x.q.kind = false) : rightP qt log x ask a false = true := by
  unfold rightP; rw [if_neg (by rw [hw]; decide)]; rfl
theorem right_hiR {qt : Int} {log : List ReqV} {x : ActV} {ask a : Int} (hw : Writes x.q.kind = false) (h : ¬ a ≤ (log.length : Int)) : rightP qt log x ask a true = false := by
  unfold rightP; rw [if_neg (by rw [hw]; decide), decide_eq_false h]; rfl
theorem okN_okL {qt : Int} {log : List ReqV} (h : okN qt log log.length = true) : okL qt log := fun j hj => by
  unfold okN at h
  rw [List.all_eq_true] at h
  simpa using h j (by simpa using hj)
theorem okL_take {qt : Int} {log : List ReqV} (h : okL qt log) (m : Nat) : okL qt (log.take m) := fun j hj => by
  rw [List.length_take] at hj
  have h1 := h j (by omega)
  rw [List.getElem?_take, if_pos (by omega), List.take_take, Nat.min_eq_left (by omega)]
  exact h1
theorem right_read {qt : Int} {log : List ReqV} {x : ActV} {ask : Int} {m : Nat} (hw : Writes x.q.kind = false) (hok : okN qt log log.length = true) (hm : m ≤ log.length) : rightP qt log x ask (m : Int) true = x.r.same ((runS qt (log.take m)).ask x.q.q) := by
  unfold rightP
  rw [if_neg (by rw [hw]; decide), Int.toNat_natCast, decide_eq_true (show (m : Int) ≤ (log.length : Int) by omega)]
  have h1 := runF_ask (okL_take (okN_okL hok) m) x.q.q
  rw [show x.q.q.id = x.q.id from rfl] at h1
  rw [h1]
  simp
theorem right_ok {qt : Int} {log : List ReqV} {x : ActV} {ask a : Int} {rd : Bool} {m : Nat} (hw : Writes x.q.kind = true) (h1 : 1 ≤ a) (h2 : a ≤ (log.length : Int)) (h3 : ask < a) (h4 : (log[(a - 1).toNat]?.getD default).eqb x.q = true) (hm : (a - 1).toNat = m) : rightP qt log x ask a rd = x.r.same ((runS qt (log.take m)).rep (log[m]?.getD default).q) := by
  unfold rightP
  rw [if_pos hw, h4, decide_eq_true h1, decide_eq_true h2, decide_eq_true h3, hm]
  simp
theorem same_commR (r s : Rep) : r.same s = s.same r := by
  have h : ∀ r s : Rep, r.same s = true → s.same r = true := fun r s h => (Rep.same_iff _ _).2 ((Rep.same_iff _ _).1 h).symm
  cases h1 : r.same s with
  | true => exact (h _ _ h1).symm
  | false =>
    cases h2 : s.same r with
    | false => rfl
    | true => rw [h _ _ h2] at h1; cases h1
theorem Fr.four {A B : World} {br : Nat} {u0 u1 u2 u3 : Value} (h : Fr (fun b => b = br) A B) : Fr (fun b => b = br) A ((((B.setCell ⟨br, 0, none⟩ u0).setCell ⟨br, 1, none⟩ u1).setCell ⟨br, 2, none⟩ u2).setCell ⟨br, 3, none⟩ u3) := by
  have hs : ∀ {W : World} (i : Nat) (u : Value), Fr (fun k => k = br) A W → Fr (fun k => k = br) A (W.setCell ⟨br, i, none⟩ u) := fun i u h => h.setCell (p := ⟨br, i, none⟩) (.inr rfl) u
  exact hs _ _ (hs _ _ (hs _ _ (hs _ _ h)))
set_option maxRecDepth 100000 in
set_option maxHeartbeats 16000000 in
theorem DCheck_in (A : Option Addr) (n cap : Nat) (l : List ActV) (hl : n = l.length) (hok : Few23 l) (Al : Option Addr) (nl cl : Nat) (log : List ReqV) (hll : nl = log.length) (hnl : nl ≤ 1000) (hcl : nl ≤ cl) (qt : Int) (rd : Bool) (hq : 1 ≤ qt ∧ qt ≤ 100) (hokn : okN qt log nl = true) (hmay : mayP l = true) (E : Int) (hE : checkR (goodA qt log l rd) 0 (ansL l n) = E) (w : World) (hA : ActsAt w A l) (hQ : ReqsAt w Al log) :
    Calls Try.prog 16 #[.slice A n cap, .slice Al nl cl, .int .i64 qt, .bool rd] w fun e w' => e = .returned (.int .i64 E) ∧ Old w w' := by
  have hn : n ≤ 1000 := by have := hok.n; omega
  have HL := hide hl
  have HOK := hide hok
  have HA := hide hA
  have HQ := hide hQ
  have HLL := hide hll
  have HMAY := hide hmay
  have HOKN := hide (show okN qt log log.length = true by rw [← hll]; exact hokn)
  have HE := hide (show checkR (goodA qt log l rd) 0 (ansL l l.length) = E by rw [← hl]; exact hE)
  have cM := hide (DMay_any A n cap l hl hok true hmay w hA)
  have cF0 := hide (fun (U : World) (h : Old w U) => DFirst_any Al nl cl log hll hnl nl (Nat.le_refl _) qt true hokn U (CellsAt.old hQ h))
  have cP := hide (fun (U : World) (h : Old w U) => DPlaces_any A n cap l hl hok U (hA.old h))
  have e0 : plOut l = plOutN l n := by unfold plOut; rw [hmay, if_pos rfl, hl]
  rw [e0, plOutN_length] at cP
  clear hl hok hA hQ hll hmay hokn hE e0
  have hq1 : ¬ qt < 1 := by omega
  have hq2 : ¬ (100 : Int) < qt := by omega
  go_enter Try.func16, Try.ntmps16
  go_wp2_with fail
  refine cM.out.mono ?_
  rintro e V1 ⟨rfl, v1⟩
  go_wp2_with fail
  refine (cF0.out V1 v1).mono ?_
  rintro e V2 ⟨PP, rfl, v2, -, v3⟩
  obtain ⟨gg, -, rfl, -, -⟩ := v3 (by trivial)
  have v12 := v1.trans' v2
  go_wp2_with fail
  refine (cP.out V2 v12).mono ?_
  rintro e V3 ⟨Pp, cp, rfl, hPI, -, v3⟩
  have v13 := v12.trans' v3
  have kb0 := Bk.new V3 49 #[.int .i64 0, .int .i64 0, .int .i64 0, .int .i64 0]
  obtain ⟨pb, hpb⟩ : ∃ x, V3.heap.size = x := ⟨_, rfl⟩
  have hpw : w.heap.size ≤ pb := by rw [← hpb]; exact v13.size
  go_upto_region 5 with fail
  have hpb2 := hpb
  obtain ⟨V4, hV4⟩ : ∃ X, V3.alloc (.cells #[.int .i64 0, .int .i64 0, .int .i64 0, .int .i64 0] 49) = X := ⟨_, rfl⟩
  rw [hV4, hpb] at kb0
  have v34 : Old V3 V4 := hV4 ▸ (Old.refl' V3).alloc' _
  have hPI4 : IntsAt V4 Pp (plOutN l n) := CellsAt.old hPI v34
  try simp only [hpb, hV4]
  have h40 : ChkR w V4 pb l log qt rd 0 0 := ⟨v13.trans' v34, kb0, rfl, fun y hy => by cases hy⟩
  have HPI := hide hPI4
  have hne : Hid (0 < n → ∀ bp op, Pp = some ⟨bp, op, none⟩ → ¬ bp = pb) := hide (fun hn0 bp op e h => by
    obtain ⟨b, o, e1, e2, -⟩ := hPI (by intro e; have := congrArg List.length e; simp [plOutN_length] at this; omega)
    rw [e] at e1; injection e1 with e1; injection e1 with e1; omega)
  have hpl4 : Hid (∀ k, k < n → ∃ bp op, Pp = some ⟨bp, op, none⟩) := hide (fun k hk => by obtain ⟨b, o, e, -⟩ := hPI4 (by intro e; have := congrArg List.length e; simp [plOutN_length] at this; omega); exact ⟨b, o, e⟩)
  have HV34 := hide (v13.trans' v34)
  clear hV4 hpb kb0 v34 hPI hPI4 cF0 cP cM v1 v2 v3 v12 v13
  go_wp2_with fail
  go_loopw [11, 12] (fun nv iv wr => ∃ k : Nat, k ≤ n ∧ iv = .int .i64 k ∧ ∃ nn : Nat, nv = .int .i64 nn ∧ ChkR w wr pb l log qt rd k nn ∧ Fr (fun b => b = pb) V4 wr) (fun _ iv _ => n - (intOf iv).toNat)
  case atStart => exact ⟨0, by omega, rfl, 0, rfl, h40, Fr.refl _ _⟩
  case round =>
    obtain ⟨k, hk, rfl, nn, rfl, hR, hV⟩ := hrel
    clear h40
    have hbel := hR.old
    obtain ⟨st, hst⟩ : ∃ s, plSt (l.take k) = s := ⟨_, rfl⟩
    have kb := hR.kb
    rw [hst] at kb
    have HST := hide hst
    have HCN := hide hR.n
    have HGOOD := hide (show nn = (ansL l k).length ∧ ∀ y ∈ ansL l k, goodA qt log l rd y = true from ⟨hR.n, hR.good⟩)
    clear hst hR
    by_cases hlt : k < n
    · have hkq : k < l.length := by have := HL.out; omega
      obtain ⟨b0, o, rfl, hb0, hc⟩ := HA.out.at_ (k := k) hkq
      obtain ⟨x, hx⟩ : ∃ x, l[k]?.getD default = x := ⟨_, rfl⟩
      rw [hx] at hc
      have hxx : l[k] = x := by rw [List.getElem?_eq_getElem hkq] at hx; simpa using hx
      have hbd := mayP_b HMAY.out hkq
      rw [hxx] at hbd
      obtain ⟨c, hxc⟩ : ∃ c : Nat, x.client = (c : Int) := ⟨x.client.toNat, by omega⟩
      have hc4 : c < 4 := by omega
      have hci : (c : Int) < 4 := by omega
      have hcz : (0 : Int) ≤ c := by omega
      have hatb := at_b HMAY.out hkq
      rw [HST.out, hxx] at hatb
      have hmem : x ∈ l := hxx ▸ List.getElem_mem hkq
      obtain ⟨vn, hvl⟩ : ∃ vn, x.r.vs.length = vn := ⟨_, rfl⟩
      have hvn : vn ≤ 1000 := by rw [← hvl]; exact HOK.out.vs x hmem
      obtain ⟨bp, op, hPp⟩ := hpl4.out k hlt
      have HXV := hide (HA.out.vs x hmem)
      have HVN := hide hvl
      have HX := hide hx
      have HXX := hide hxx
      have HXC := hide hxc
      obtain ⟨a, hat⟩ : ∃ z, st.at_ x = z := ⟨_, rfl⟩
      rw [hat] at hatb
      have hpk : V4.cell? ⟨bp, op + k, none⟩ = some (.int .i64 a) := by
        obtain ⟨b1, o1, e1, -, e2⟩ := HPI.out (by intro e; have := congrArg List.length e; simp [plOutN_length] at this; omega)
        rw [hPp] at e1; injection e1 with e1; injection e1 with e1 e3; subst e1 e3
        exact e2 k _ (by rw [List.getElem?_map]; unfold plOutN; rw [List.getElem?_map, List.getElem?_range hlt]; simp [hx, HST.out, hat])
      have hbpl : bp < V4.heap.size := by
        obtain ⟨b1, o1, e1, e2, -⟩ := HPI.out (by intro e; have := congrArg List.length e; simp [plOutN_length] at this; omega)
        rw [hPp] at e1; injection e1 with e1; injection e1 with e1 e3; subst e1; exact e2
      subst hPp
      have hpk2 := (hV.cell (p := ⟨bp, op + k, none⟩) hbpl (hne.out (by omega) bp op rfl)).trans hpk
      have hbpl2 : bp < wr.heap.size := Nat.lt_of_lt_of_le hbpl hV.size
      have c0 := (hbel.cell (p := ⟨b0, o + k * 14, none⟩) hb0).trans (hc 0 _ (by omega) rfl)
      rw [hxc] at c0
      have hb01 : b0 < wr.heap.size := Nat.lt_of_lt_of_le hb0 hbel.size
      have hkI : (k : Int) < n := by omega
      go_upto_region 9 with fail
      go_quiet (fail)
      generalize hWD : World.drewN wr _ = WD
      have oD : Old wr WD := hWD ▸ (Old.refl' wr).drewN' _
      have hbelD := hide (hbel.trans' oD)
      have hVD := hide (hV.trans (Fr.of_old oD))
      have kb := kb.old oD
      clear hWD c0 hpk2 hbpl2 hpk hbpl oD hbel hV
      cases hb : x.ans with
      | false =>
        have HB := hide hb
        have c2 := (hbelD.out.cell (p := ⟨b0, o + k * 14 + 2, none⟩) hb0).trans (hc 2 _ (by omega) rfl)
        rw [hb] at c2
        have hb0D : b0 < WD.heap.size := Nat.lt_of_lt_of_le hb0 hbelD.out.size
        have hag : a = st.g := by rw [← hat]; unfold PlV.at_; rw [if_neg (by rw [hb]; decide)]
        have kb9 := asked_set kb hc4 a (fun y => if y = (c : Int) then a else st.asked y) rfl
        have kbc := asked_get kb hc4
        have kbf := kb.frozen c
        have hpbl := kb.lt
        have HN := hide (show ChkR w (WD.setCell ⟨pb, c, none⟩ (.int .i64 a)) pb l log qt rd (k + 1) nn from by
          refine ⟨Old.setCell' (p := ⟨pb, c, none⟩) hbelD.out hpw _, ?_, ?_, ?_⟩
          · rw [plSt_take hkq, HST.out, HXX.out]
            unfold PlV.next
            rw [if_neg (by rw [hb]; decide), HXC.out, ← hag]
            exact kb9
          · rw [ansL_ask hkq HXX.out hb]; exact HGOOD.out.1
          · rw [ansL_ask hkq HXX.out hb]; exact HGOOD.out.2)
        have HV9 := hide (hVD.out.setCell (p := ⟨pb, c, none⟩) (.inr rfl) (.int .i64 a))
        clear kb kb9 hb hc hag hat hx hxx hxc hvl hbd hatb
        go_wp2_with fail
        go_roundw
        case rel => exact ⟨k + 1, by omega, by go_num, nn, rfl, HN.out, HV9.out⟩
        case measure => simp [intOf]; omega
      | true =>
        have HB := hide hb
        have CA := hide (fun (U : World) (h : Old w U) => (⟨(h.cell (p := ⟨b0, o + k * 14, none⟩) hb0).trans (hc 0 _ (by omega) (by rw [← hxc]; rfl)), (h.cell (p := ⟨b0, o + k * 14 + 1, none⟩) hb0).trans (hc 1 _ (by omega) rfl), (h.cell (p := ⟨b0, o + k * 14 + 2, none⟩) hb0).trans (hc 2 _ (by omega) (by rw [← hb]; rfl)), (h.cell (p := ⟨b0, o + k * 14 + 3, none⟩) hb0).trans (hc 3 _ (by omega) rfl), (h.cell (p := ⟨b0, o + k * 14 + 4, none⟩) hb0).trans (hc 4 _ (by omega) rfl), (h.cell (p := ⟨b0, o + k * 14 + 5, none⟩) hb0).trans (hc 5 _ (by omega) rfl), (h.cell (p := ⟨b0, o + k * 14 + 6, none⟩) hb0).trans (hc 6 _ (by omega) rfl), (h.cell (p := ⟨b0, o + k * 14 + 7, none⟩) hb0).trans (hc 7 _ (by omega) rfl), (h.cell (p := ⟨b0, o + k * 14 + 8, none⟩) hb0).trans (hc 8 _ (by omega) rfl), (h.cell (p := ⟨b0, o + k * 14 + 9, none⟩) hb0).trans (hc 9 _ (by omega) rfl), (h.cell (p := ⟨b0, o + k * 14 + 10, none⟩) hb0).trans (hc 10 _ (by omega) rfl), (h.cell (p := ⟨b0, o + k * 14 + 11, none⟩) hb0).trans (hc 11 _ (by omega) rfl), (h.cell (p := ⟨b0, o + k * 14 + 12, none⟩) hb0).trans (hc 12 _ (by omega) (by rw [← hvl]; rfl)), (h.cell (p := ⟨b0, o + k * 14 + 13, none⟩) hb0).trans (hc 13 _ (by omega) rfl)⟩ : U.cell? ⟨b0, o + k * 14, none⟩ = some (.int .i64 c) ∧ U.cell? ⟨b0, o + k * 14 + 1, none⟩ = some (.int .i64 x.seq) ∧ U.cell? ⟨b0, o + k * 14 + 2, none⟩ = some (.bool true) ∧ U.cell? ⟨b0, o + k * 14 + 3, none⟩ = some (.int .i64 x.q.client) ∧ U.cell? ⟨b0, o + k * 14 + 4, none⟩ = some (.int .i64 x.q.seq) ∧ U.cell? ⟨b0, o + k * 14 + 5, none⟩ = some (.int .i64 x.q.kind) ∧ U.cell? ⟨b0, o + k * 14 + 6, none⟩ = some (.int .i64 x.q.id) ∧ U.cell? ⟨b0, o + k * 14 + 7, none⟩ = some (.int .i64 x.q.mat) ∧ U.cell? ⟨b0, o + k * 14 + 8, none⟩ = some (.string x.q.data) ∧ U.cell? ⟨b0, o + k * 14 + 9, none⟩ = some (.int .i64 x.r.code) ∧ U.cell? ⟨b0, o + k * 14 + 10, none⟩ = some (.int .i64 x.r.ver) ∧ U.cell? ⟨b0, o + k * 14 + 11, none⟩ = some (.string x.r.data) ∧ U.cell? ⟨b0, o + k * 14 + 12, none⟩ = some (.slice x.A vn x.cap) ∧ U.cell? ⟨b0, o + k * 14 + 13, none⟩ = some (.int .i64 x.at_)))
        clear hb hc hx hxx hxc hvl hbd
        have HAT := hide hat
        have hnn : nn ≤ 1000 := by have h1 := HCN.out; have h2 := ansL_length l k; omega
        have hcells := CA.out WD hbelD.out
        obtain ⟨c0, c1, c2, c3, c4, c5, c6, c7, c8, c9, c10, c11, c12, c13⟩ := hcells
        obtain ⟨br, hbr⟩ : ∃ z, WD.heap.size = z := ⟨_, rfl⟩
        obtain ⟨W1, hW1⟩ : ∃ X, WD.alloc (.cells #[.int .i64 0, .int .i64 0, .string { data := #[] }, .slice none 0 0] 43) = X := ⟨_, rfl⟩
        have oW1 : Old WD W1 := hW1 ▸ (Old.refl' WD).alloc' _
        have kbr : Bk W1 br 43 #[.int .i64 0, .int .i64 0, .string { data := #[] }, .slice none 0 0] := by rw [← hW1, ← hbr]; exact Bk.new WD 43 _
        have kb1 := kb.old oW1
        go_upto_region 15 with fail
        try simp only [hbr, hW1]
        clear c0 c1 c2 c3 c4 c5 c6 c7 c8 c9 c10 c11 c12 c13
        have HOW1 := hide (hbelD.out.trans' oW1)
        have hbrw := hide (fun (z : Nat) (e : z = br) => (by have := hbelD.out.size; omega : w.heap.size ≤ z))
        have hbrl := hide kbr.lt
        have hbrv := hide (show V4.heap.size ≤ br by have := hVD.out.size; omega)
        have HVW1 := hide (hVD.out.trans (Fr.of_old oW1))
        have hpbr := hide (fun (e : pb = br) => (by have := kb.lt; omega : False))
        clear hW1 hbr
        obtain ⟨c0, c1, c2, c3, c4, c5, c6, c7, c8, c9, c10, c11, c12, c13⟩ := CA.out W1 HOW1.out
        have d4 : W1.cell? ⟨b0, o + k * 14 + 3 + 1, none⟩ = _ := c4
        have d5 : W1.cell? ⟨b0, o + k * 14 + 3 + 2, none⟩ = _ := c5
        have d6 : W1.cell? ⟨b0, o + k * 14 + 3 + 3, none⟩ = _ := c6
        have d7 : W1.cell? ⟨b0, o + k * 14 + 3 + 4, none⟩ = _ := c7
        have d8 : W1.cell? ⟨b0, o + k * 14 + 3 + 5, none⟩ = _ := c8
        have hb1l : b0 < W1.heap.size := Nat.lt_of_lt_of_le hb0 HOW1.out.size
        have hGD0 := HGOOD.out
        have HRB := hide (fun (h : goodA qt log l rd (k, st.asked c, a) = false) => chk_bad hGD0 hkq HXX.out HB.out (by rw [HST.out, HXC.out, HAT.out]; exact h))
        have HRG := hide (fun (h : goodA qt log l rd (k, st.asked c, a) = true) (W9 : World) (hO : Old w W9) (hb9 : Bk W9 pb 49 #[.int .i64 (st.asked 0), .int .i64 (st.asked 1), .int .i64 (st.asked 2), .int .i64 (st.asked 3)]) => chk_next hGD0 hkq HXX.out HB.out (by rw [HST.out, HXC.out, HAT.out]; exact h) hO (by rw [HST.out]; exact hb9))
        have kba := asked_get kb1 hc4
        have hpbl := kb1.lt
        clear hGD0
        cases hw : Writes x.q.kind with
        | true =>
          have HW := hide hw
          have cW := hide (rWrites_at x.q.client x.q.seq x.q.kind x.q.id x.q.mat x.q.data true hw W1)
          clear hw
          go_wp2_with fail
          refine cW.out.mono ?_
          rintro e W2 ⟨rfl, o2⟩
          have HOW2 := hide (HOW1.out.trans' o2)
          have HVW2 := hide (HVW1.out.trans (Fr.of_old o2))
          have kbr2 := kbr.old o2
          have kb2 := kb1.old o2
          clear c0 c1 c2 c3 c4 c5 c6 c7 c8 c9 c10 c11 c12 c13 d4 d5 d6 d7 d8 kba hpbl hb1l kbr kb1
          obtain ⟨c0, c1, c2, c3, c4, c5, c6, c7, c8, c9, c10, c11, c12, c13⟩ := CA.out W2 HOW2.out
          have kba := asked_get kb2 hc4
          have hpbl := kb2.lt
          have hb2l : b0 < W2.heap.size := Nat.lt_of_lt_of_le hb0 HOW2.out.size
          have d4 : W2.cell? ⟨b0, o + k * 14 + 3 + 1, none⟩ = _ := c4
          have d5 : W2.cell? ⟨b0, o + k * 14 + 3 + 2, none⟩ = _ := c5
          have d6 : W2.cell? ⟨b0, o + k * 14 + 3 + 3, none⟩ = _ := c6
          have d7 : W2.cell? ⟨b0, o + k * 14 + 3 + 4, none⟩ = _ := c7
          have d8 : W2.cell? ⟨b0, o + k * 14 + 3 + 5, none⟩ = _ := c8
          by_cases h1 : a < 1
          · have HNEQ := hide (show True from trivial)
            have H1 := hide h1
            have hgd0 := HRB.out (by unfold goodA; rw [HX.out]; exact right_lo HW.out (show ¬ 1 ≤ a by omega))
            have HBAD := hide (show Ending.returned (Value.int .i64 (-((nn : Int) + 1))) = .returned (.int .i64 E) from by rw [← HE.out]; exact congrArg (fun z => Ending.returned (Value.int .i64 z)) hgd0.symm)
            clear hgd0
            go_upto_region 16 with fail
            have g1 : a < 1 := by have := H1.out; omega
            go_quiet (fail)
            go_wp2_with fail
            all_goals first
              | (go_ret
                 first
                   | exact ⟨HBAD.out, HOW2.out⟩
                   | exact ⟨HBAD.out, HOW2.out.drewN' _⟩)
              | (exfalso
                 have h := HNEQ.out
                 simp_all [bytes_eq])
          · have H1 := hide h1
            clear h1
            by_cases h2 : (nl : Int) < a
            · have HNEQ := hide (show True from trivial)
              have H2 := hide h2
              have hgd0 := HRB.out (by unfold goodA; rw [HX.out]; exact right_hi HW.out (show ¬ a ≤ (log.length : Int) by rw [← HLL.out]; omega))
              have HBAD := hide (show Ending.returned (Value.int .i64 (-((nn : Int) + 1))) = .returned (.int .i64 E) from by rw [← HE.out]; exact congrArg (fun z => Ending.returned (Value.int .i64 z)) hgd0.symm)
              clear hgd0
              clear h2
              go_upto_region 16 with fail
              have g1 : ¬ a < 1 := by have := H1.out; omega
              have g2 : (nl : Int) < a := by have := H2.out; omega
              go_quiet (fail)
              go_wp2_with fail
              all_goals first
                | (go_ret
                   first
                     | exact ⟨HBAD.out, HOW2.out⟩
                     | exact ⟨HBAD.out, HOW2.out.drewN' _⟩)
                | (exfalso
                   have h := HNEQ.out
                   simp_all [bytes_eq])
            · have H2 := hide h2
              clear h2
              by_cases h3 : a ≤ st.asked c
              · have HNEQ := hide (show True from trivial)
                have H3 := hide h3
                have hgd0 := HRB.out (by unfold goodA; rw [HX.out]; exact right_ask HW.out (show ¬ st.asked c < a by omega))
                have HBAD := hide (show Ending.returned (Value.int .i64 (-((nn : Int) + 1))) = .returned (.int .i64 E) from by rw [← HE.out]; exact congrArg (fun z => Ending.returned (Value.int .i64 z)) hgd0.symm)
                clear hgd0
                clear h3
                go_upto_region 16 with fail
                have g1 : ¬ a < 1 := by have := H1.out; omega
                have g2 : ¬ (nl : Int) < a := by have := H2.out; omega
                have g3 : a ≤ st.asked c := by have := H3.out; omega
                go_quiet (fail)
                go_wp2_with fail
                all_goals first
                  | (go_ret
                     first
                       | exact ⟨HBAD.out, HOW2.out⟩
                       | exact ⟨HBAD.out, HOW2.out.drewN' _⟩)
                  | (exfalso
                     have h := HNEQ.out
                     simp_all [bytes_eq])
              · have H3 := hide h3
                clear h3
                obtain ⟨m, hm⟩ : ∃ m : Nat, a = (m : Int) + 1 := ⟨(a - 1).toNat, by have := H1.out; omega⟩
                have h2 := H2.out
                subst hm
                have hml : m < nl := by omega
                have hmI : (m : Int) < nl := by omega
                have hmlog : m < log.length := by rw [← HLL.out]; exact hml
                obtain ⟨yb, yo, rfl, hyb, hyc⟩ := HQ.out.at5 (k := m) hmlog
                obtain ⟨yq, hyq⟩ : ∃ z, log[m]?.getD default = z := ⟨_, rfl⟩
                rw [hyq] at hyc
                have HYQ := hide hyq
                have e0 := (HOW2.out.cell (p := ⟨yb, yo + m * 6, none⟩) hyb).trans (hyc 0 _ (by omega) rfl)
                have e1 := (HOW2.out.cell (p := ⟨yb, yo + m * 6 + 1, none⟩) hyb).trans (hyc 1 _ (by omega) rfl)
                have e2 := (HOW2.out.cell (p := ⟨yb, yo + m * 6 + 2, none⟩) hyb).trans (hyc 2 _ (by omega) rfl)
                have e3 := (HOW2.out.cell (p := ⟨yb, yo + m * 6 + 3, none⟩) hyb).trans (hyc 3 _ (by omega) rfl)
                have e4 := (HOW2.out.cell (p := ⟨yb, yo + m * 6 + 4, none⟩) hyb).trans (hyc 4 _ (by omega) rfl)
                have e5 := (HOW2.out.cell (p := ⟨yb, yo + m * 6 + 5, none⟩) hyb).trans (hyc 5 _ (by omega) rfl)
                have hyb1 : yb < W2.heap.size := Nat.lt_of_lt_of_le hyb HOW2.out.size
                clear hyc hyq
                by_cases hyx : yq = x.q
                · subst hyx
                  go_upto_region 16 with fail
                  have g1 : ¬ (m : Int) + 1 < 1 := by omega
                  have g2 : ¬ (nl : Int) < (m : Int) + 1 := by omega
                  have g3 : ¬ (m : Int) + 1 ≤ st.asked c := by have := H3.out; omega
                  go_quiet (fail)
                  generalize hWD2 : World.drewN W2 _ = WD2
                  have oD2 : Old W2 WD2 := hWD2 ▸ (Old.refl' W2).drewN' _
                  clear hWD2
                  go_upto_region 18 with fail
                  clear c0 c1 c2 c3 c4 c5 c6 c7 c8 c9 c10 c11 c12 c13 d4 d5 d6 d7 d8 e0 e1 e2 e3 e4 e5
                  obtain ⟨st0, hst0'⟩ : ∃ z, runS qt (log.take m) = z := ⟨_, rfl⟩
                  have hst0 : st0.n ≤ 50000 := by have h1 := (runS_ok qt (log.take m)).2.1; rw [hst0', List.length_take] at h1; omega
                  have cF := hide (fun (U : World) (h : Old w U) => (by have h1 := DFirst_any (some ⟨yb, yo, none⟩) nl cl log HLL.out (by omega) m (by omega) qt true (okN_le HOKN.out (by rw [← HLL.out]; omega)) U (CellsAt.old HQ.out h); rw [hst0'] at h1; exact h1 :
                    Calls Try.prog 29 #[.slice (some ⟨yb, yo, none⟩) nl cl, .int .i64 m, .int .i64 qt] U fun e w' => ∃ P, e = .returned (.pointer P) ∧ Old U w' ∧ (true = false → P = none) ∧ (true = true → ∃ g F, P = some ⟨g, 0, none⟩ ∧ SDAt w' g F st0 ∧ ∀ k, F k → U.heap.size ≤ k)))
                  obtain ⟨R, hR⟩ : ∃ R, st0.rep x.q.q = R := ⟨_, rfl⟩
                  obtain ⟨EP, hEP⟩ : ∃ z, st0.err x.q.q = z := ⟨_, rfl⟩
                  have HRV := hide (show R.vs = [] by rw [← hR]; exact rep_vs _ _)
                  have HR1 := hide (show (st0.rep x.q.q).code = R.code ∧ (st0.rep x.q.q).ver = R.ver ∧ (st0.rep x.q.q).data = R.data by rw [hR]; exact ⟨rfl, rfl, rfl⟩)
                  have HEP := hide hEP
                  have HGD := hide (show goodA qt log l rd (k, st.asked c, (m : Int) + 1) = R.same x.r from by
                    unfold goodA
                    rw [HX.out, same_commR, ← hR, ← hst0', ← HYQ.out]
                    exact right_ok HW.out (show 1 ≤ (m : Int) + 1 by omega) (show (m : Int) + 1 ≤ (log.length : Int) by rw [← HLL.out]; omega) (show st.asked c < (m : Int) + 1 by omega) (by show (log[(((m : Int) + 1) - 1).toNat]?.getD default).eqb _ = true; rw [Int.add_sub_cancel, Int.toNat_natCast, HYQ.out]; exact ReqV.eqb_iff.2 rfl) (by show ((m : Int) + 1 - 1).toNat = m; rw [Int.add_sub_cancel, Int.toNat_natCast]))
                  have hmw : IntKind.i64.wrap (m : Int) = (m : Int) := IntWalk.i64_in _ (by omega)
                  obtain ⟨WD, hWDx⟩ : ∃ X, X = WD2 := ⟨_, rfl⟩
                  have hOW := hide (hWDx ▸ (HOW2.out.trans' oD2) : Old w WD)
                  have hOV := hide (hWDx ▸ (HVW2.out.trans (Fr.of_old oD2)) : Fr (fun b => b = pb) V4 WD)
                  have hbrz := hide (hWDx ▸ (kbr2.old oD2) : Bk WD br 43 #[.int .i64 0, .int .i64 0, .string { data := #[] }, .slice none 0 0])
                  have hKBD := hide (hWDx ▸ (kb2.old oD2) : Bk WD pb 49 #[.int .i64 (st.asked 0), .int .i64 (st.asked 1), .int .i64 (st.asked 2), .int .i64 (st.asked 3)])
                  have hbrl := hide hbrz.out.lt
                  have HD0 := hide (⟨(Fr.refl _ WD).drew, hbrz.out.drew⟩ : Fr (fun b => b = br) WD WD.drew ∧ Bk WD.drew br 43 #[.int .i64 0, .int .i64 0, .string { data := #[] }, .slice none 0 0])
                  rw [← hWDx]
                  clear hWDx oD2 kbr2 kb2 kba hpbl hR hEP hst0'
                  refine region_steps (R := pick [eqv (.slice (some ⟨yb, yo, none⟩) nl cl), eqv (.int .i64 ((m : Int) + 1)), eqv (.int .i64 m), eqv (.int .i64 qt), fun v _ => ∃ g, v = .pointer (some ⟨g, 0, none⟩), eqv (.slice (some ⟨b0, o, none⟩) n cap), eqv (.int .i64 k), eqv (.pointer (some ⟨b0, o + k * 14, none⟩)), eqv (.pointer (some ⟨b0, o + k * 14 + 3, none⟩)), eqv (.agg #[.int .i64 x.q.client, .int .i64 x.q.seq, .int .i64 x.q.kind, .int .i64 x.q.id, .int .i64 x.q.mat, .string x.q.data]), fun v _ => ∃ Ar cr, v = .tuple #[.agg #[.int .i64 R.code, .int .i64 R.ver, .string R.data, .slice Ar 0 cr], .int .i64 EP], fun v _ => ∃ Ar cr, v = .tuple #[.agg #[.int .i64 R.code, .int .i64 R.ver, .string R.data, .slice Ar 0 cr], .int .i64 EP], fun v _ => ∃ Ar cr, v = .agg #[.int .i64 R.code, .int .i64 R.ver, .string R.data, .slice Ar 0 cr], eqv (.int .i64 EP), eqv (undef)]) (S := fun σ w' => Fr (fun b => b = br) WD w' ∧ (σ 4 ≠ none → σ 10 = none → σ 14 = none → ∃ g F, σ 4 = some (.pointer (some ⟨g, 0, none⟩)) ∧ SDAt w' g F st0 ∧ ∀ k, F k → WD.heap.size ≤ k) ∧ (σ 14 = none → Bk w' br 43 #[.int .i64 0, .int .i64 0, .string { data := #[] }, .slice none 0 0]) ∧ (σ 14 ≠ none → ∃ Ar cr, Bk w' br 43 #[.int .i64 R.code, .int .i64 R.ver, .string R.data, .slice Ar 0 cr] ∧ IntsAt w' Ar R.vs)) (T := (fun _ _ => True)) (by kernel_rfl) (by kernel_rfl) (by kernel_rfl) (Stab.pick (Stab.eqv (Stab.eqv (Stab.eqv (Stab.eqv (Stab.cons (fun _ _ _ _ h => h) (Stab.eqv (Stab.eqv (Stab.eqv (Stab.eqv (Stab.eqv (Stab.cons (fun _ _ _ _ h => h) (Stab.cons (fun _ _ _ _ h => h) (Stab.cons (fun _ _ _ _ h => h) (Stab.eqv (Stab.eqv (Stab.nil))))))))))))))))) (⟨HD0.out.1, fun h => absurd rfl h, fun _ => HD0.out.2, fun h => absurd rfl h⟩) ?steps ?ends
                  case steps =>
                    refine StepsOk.cons (stepOk_pure [] [(1, .slice (some ⟨yb, yo, none⟩) nl cl)] rfl rfl (by kernel_rfl) (by kernel_rfl) rfl (fun _ => trivial) (fun σ v w h => by simpa [upd] using h) (fun d E w' hk hda hS hc hf => by rintro  e1; exact ⟨_, by go_simp, rfl⟩)) ?_
                    refine StepsOk.cons (stepOk_pure [] [(14, .int .i64 ((m : Int) + 1))] rfl rfl (by kernel_rfl) (by kernel_rfl) rfl (fun _ => trivial) (fun σ v w h => by simpa [upd] using h) (fun d E w' hk hda hS hc hf => by rintro  e14; exact ⟨_, by go_simp, rfl⟩)) ?_
                    refine StepsOk.cons (stepOk_pure [(1, 115)] [] rfl rfl (by kernel_rfl) (by kernel_rfl) rfl (fun _ => trivial) (fun σ v w h => by simpa [upd] using h) (fun d E w' hk hda hS hc hf => by rintro _ q1 rfl e115 ; exact ⟨_, by go_simp, rfl⟩)) ?_
                    refine StepsOk.cons (stepOk_pure [] [(2, .int .i64 qt)] rfl rfl (by kernel_rfl) (by kernel_rfl) rfl (fun _ => trivial) (fun σ v w h => by simpa [upd] using h) (fun d E w' hk hda hS hc hf => by rintro  e2; exact ⟨_, by go_simp, rfl⟩)) ?_
                    refine StepsOk.cons (stepOk_mk [(0, 114), (2, 116), (3, 117)] [] rfl rfl (by kernel_rfl) (by kernel_rfl) rfl ?_) ?_
                    · rintro d a w' hk hda hS _ q0 rfl e114 _ q2 rfl e116 _ q3 rfl e117 
                      first | refine Given.nil (Known.nil ?_) | refine Known.nil ?_
                      refine wp_call 29 _ Try.func29 (by kernel_rfl) (by kernel_rfl) _ _ (by rfl) [.slice (some ⟨yb, yo, none⟩) nl cl, .int .i64 m, .int .i64 qt] (by simp only [List.map_cons, List.map_nil, *]; try rfl) (cF.out w' (hOW.out.fr_new hS.1 hbrw.out)) ?_
                      rintro e w1 ⟨Pp, rfl, f4, -, f5⟩
                      obtain ⟨g, F, rfl, f6, f7⟩ := f5 rfl
                      exact ⟨_, rfl, _, rfl, ⟨_, rfl⟩, trivial, hS.1.trans (Fr.of_old f4), fun _ _ _ => ⟨g, F, by simp [upd], f6, fun k hk => Nat.le_trans hS.1.size (f7 k hk)⟩, fun h => (hS.2.2.1 (hk 14 (by kernel_rfl))).old f4, fun h => absurd (hk 14 (by kernel_rfl)) (by simpa [upd] using h)⟩
                    refine StepsOk.cons (stepOk_pure [] [(0, .slice (some ⟨b0, o, none⟩) n cap)] rfl rfl (by kernel_rfl) (by kernel_rfl) rfl (fun _ => trivial) (fun σ v w h => by simpa [upd] using h) (fun d E w' hk hda hS hc hf => by rintro  e0; exact ⟨_, by go_simp, rfl⟩)) ?_
                    refine StepsOk.cons (stepOk_pure [] [(12, .int .i64 k)] rfl rfl (by kernel_rfl) (by kernel_rfl) rfl (fun _ => trivial) (fun σ v w h => by simpa [upd] using h) (fun d E w' hk hda hS hc hf => by rintro  e12; exact ⟨_, by go_simp, rfl⟩)) ?_
                    refine StepsOk.cons (stepOk_pure [(5, 119), (6, 120)] [] rfl rfl (by kernel_rfl) (by kernel_rfl) rfl (fun _ => trivial) (fun σ v w h => by simpa [upd] using h) (fun d E w' hk hda hS hc hf => by rintro _ q5 rfl e119 _ q6 rfl e120 ; obtain ⟨s0, s1, s2, s3, s4, s5, s6, s7, s8, s9, s10, s11, s12, s13⟩ := CA.out w' (hOW.out.fr_new hS.1 hbrw.out); exact ⟨_, by go_simp, rfl⟩)) ?_
                    refine StepsOk.cons (stepOk_pure [(7, 121)] [] rfl rfl (by kernel_rfl) (by kernel_rfl) rfl (fun _ => trivial) (fun σ v w h => by simpa [upd] using h) (fun d E w' hk hda hS hc hf => by rintro _ q7 rfl e121 ; exact ⟨_, by go_simp, rfl⟩)) ?_
                    refine StepsOk.cons (stepOk_pure [(8, 122)] [] rfl rfl (by kernel_rfl) (by kernel_rfl) rfl (fun _ => trivial) (fun σ v w h => by simpa [upd] using h) (fun d E w' hk hda hS hc hf => by rintro _ q8 rfl e122 ; obtain ⟨s0, s1, s2, s3, s4, s5, s6, s7, s8, s9, s10, s11, s12, s13⟩ := CA.out w' (hOW.out.fr_new hS.1 hbrw.out); exact ⟨_, by go_simp, rfl⟩)) ?_
                    refine StepsOk.cons (stepOk_mk [(4, 118), (9, 123)] [] rfl rfl (by kernel_rfl) (by kernel_rfl) rfl ?_) ?_
                    · rintro d a w' hk hda hS _ q4 ⟨g, rfl⟩ e118 _ q9 rfl e123 
                      first | refine Given.nil (Known.nil ?_) | refine Known.nil ?_
                      obtain ⟨g0, F0, hg0, hSD, hF0⟩ := hS.2.1 (by rw [q4]; simp) (hk 10 (by kernel_rfl)) (hk 14 (by kernel_rfl))
                      rw [q4] at hg0
                      obtain rfl : g = g0 := by injection hg0 with hg0; injection hg0 with hg0; injection hg0 with hg0; injection hg0
                      refine wp_call 21 _ Try.func21 (by kernel_rfl) (by kernel_rfl) _ _ (by rfl) [.pointer (some ⟨g, 0, none⟩), .agg #[.int .i64 x.q.client, .int .i64 x.q.seq, .int .i64 x.q.kind, .int .i64 x.q.id, .int .i64 x.q.mat, .string x.q.data]] (by simp only [List.map_cons, List.map_nil, *]; try rfl) (SPut_at g F0 st0 x.q.q R.code R.ver EP R.data _ HR1.out.1 HR1.out.2.1 HR1.out.2.2 HEP.out rfl hst0 w' hSD) ?_
                      rintro e w1 ⟨⟨Ar, cr, rfl⟩, -, f4⟩
                      have f5 : Fr (fun b => b = br) WD w1 := Fr.trans' hS.1 f4 (fun k hk h => by have := hF0 k h; omega)
                      exact ⟨_, rfl, _, rfl, ⟨_, _, rfl⟩, trivial, f5, fun _ h _ => by simp [upd] at h, fun h => (hS.2.2.1 (hk 14 (by kernel_rfl))).fr f4 (fun h => by have := hF0 _ h; have := hbrl.out; omega), fun h => absurd (hk 14 (by kernel_rfl)) (by simpa [upd] using h)⟩
                    refine StepsOk.cons (stepOk_mk [(10, 124)] [] rfl rfl (by kernel_rfl) (by kernel_rfl) rfl ?_) ?_
                    · rintro d a w' hk hda hS _ q10 ⟨Ar, cr, rfl⟩ e124 
                      first | refine Given.nil (Known.nil ?_) | refine Known.nil ?_
                      refine wp_runv (w' := w') (.tuple #[.agg #[.int .i64 R.code, .int .i64 R.ver, .string R.data, .slice Ar 0 cr], .int .i64 EP]) (by revert e124; generalize a.eval = E; intro e124; go_simp) ⟨_, rfl, ⟨_, _, rfl⟩, trivial, by simpa [upd] using hS⟩
                    refine StepsOk.cons (stepOk_mk [(11, 113)] [] rfl rfl (by kernel_rfl) (by kernel_rfl) rfl ?_) ?_
                    · rintro d a w' hk hda hS _ q11 ⟨Ar, cr, rfl⟩ e113 
                      first | refine Given.nil (Known.nil ?_) | refine Known.nil ?_
                      refine wp_runv (w' := w') (.agg #[.int .i64 R.code, .int .i64 R.ver, .string R.data, .slice Ar 0 cr]) (by revert e113; generalize a.eval = E; intro e113; go_simp) ⟨_, rfl, ⟨_, _, rfl⟩, trivial, by simpa [upd] using hS⟩
                    refine StepsOk.cons (stepOk_pure [(11, 113)] [] rfl rfl (by kernel_rfl) (by kernel_rfl) rfl (fun _ => trivial) (fun σ v w h => by simpa [upd] using h) (fun d E w' hk hda hS hc hf => by rintro _ q11 ⟨Ar, cr, rfl⟩ e113 ; exact ⟨_, by go_simp, rfl⟩)) ?_
                    refine StepsOk.cons (stepOk_store [(12, 125)] [(15, .pointer (some ⟨br, 0, none⟩))] rfl rfl (by kernel_rfl) (by kernel_rfl) rfl (fun d E w' hk hda hS hc hf => by rintro _ q12 ⟨Ar, cr, rfl⟩ e125 e15; have hZ := hS.2.2.1 (hk 14 (by kernel_rfl)); obtain ⟨⟨y0, y1, y2, y3⟩, ⟨f0, f1, f2, f3⟩, yl⟩ := bk4 hZ; exact ⟨(((w'.setCell ⟨br, 0, none⟩ (.int .i64 R.code)).setCell ⟨br, 1, none⟩ (.int .i64 R.ver)).setCell ⟨br, 2, none⟩ (.string R.data)).setCell ⟨br, 3, none⟩ (.slice Ar 0 cr), by go_simp, rfl, trivial, ⟨Fr.four hS.1, fun _ _ h => by simp [upd] at h, fun h => by simp [upd] at h, fun _ => ⟨Ar, cr, Bk.set4 hZ, by rw [HRV.out]; exact CellsAt.nil _ _⟩⟩⟩)) ?_
                    exact StepsOk.nil
                  case ends =>
                    intro σ9 w9 hS9 hA9
                    refine Ends.eqv (some 114) (.slice (some ⟨yb, yo, none⟩) nl cl) rfl (fun _ h => h) ?_
                    refine Ends.eqv (some 115) (.int .i64 ((m : Int) + 1)) rfl (fun _ h => h) ?_
                    refine Ends.eqv (some 116) (.int .i64 m) rfl (fun _ h => h) ?_
                    refine Ends.eqv (some 117) (.int .i64 qt) rfl (fun _ h => h) ?_
                    refine Ends.ex (some 118) rfl ?_
                    rintro _ p4 ⟨g, rfl⟩
                    refine Ends.eqv (some 119) (.slice (some ⟨b0, o, none⟩) n cap) rfl (fun _ h => h) ?_
                    refine Ends.eqv (some 120) (.int .i64 k) rfl (fun _ h => h) ?_
                    refine Ends.eqv (some 121) (.pointer (some ⟨b0, o + k * 14, none⟩)) rfl (fun _ h => h) ?_
                    refine Ends.eqv (some 122) (.pointer (some ⟨b0, o + k * 14 + 3, none⟩)) rfl (fun _ h => h) ?_
                    refine Ends.eqv (some 123) (.agg #[.int .i64 x.q.client, .int .i64 x.q.seq, .int .i64 x.q.kind, .int .i64 x.q.id, .int .i64 x.q.mat, .string x.q.data]) rfl (fun _ h => h) ?_
                    refine Ends.ex (some 124) rfl ?_
                    rintro _ p10 ⟨Ar, cr, rfl⟩
                    refine Ends.ex (some 113) rfl ?_
                    rintro _ p11 ⟨Ar, cr, rfl⟩
                    refine Ends.ex (some 125) rfl ?_
                    rintro _ p12 ⟨Ar, cr, rfl⟩
                    refine Ends.eqv (some 126) (.int .i64 EP) rfl (fun _ h => h) ?_
                    refine Ends.eqv none (undef) rfl (fun _ h => h) ?_
                    refine Ends.nil ?_
                    have hA9' := hA9
                    clear hA9
                    simp only [put_lit, put_none, List.set_cons_zero, List.set_cons_succ]
                    obtain ⟨hF9, -, -, hB9⟩ := hS9
                    obtain ⟨Ar, cr, hBk9, hIr9⟩ := hB9 (by have := hA9' 14 (by simp); intro e; rw [e] at this; simp at this)
                    clear hA9'
                    obtain ⟨WE, hWE⟩ : ∃ X, X = w9 := ⟨_, rfl⟩
                    have HOE := hide (hWE ▸ hOW.out.fr_new hF9 hbrw.out : Old w WE)
                    have HVE := hide (hWE ▸ (Fr.trans' hOV.out hF9 (fun z h1 e => by have := hbrv.out; omega)) : Fr (fun b => b = pb) V4 WE)
                    have HKB := hide (hWE ▸ hKBD.out.fr hF9 (fun e => hpbr.out e) : Bk WE pb 49 #[.int .i64 (st.asked 0), .int .i64 (st.asked 1), .int .i64 (st.asked 2), .int .i64 (st.asked 3)])
                    have HBR := hide (hWE ▸ hBk9 : Bk WE br 43 #[.int .i64 R.code, .int .i64 R.ver, .string R.data, .slice Ar 0 cr])
                    have CS := hide (fun (U : World) (h : Old WE U) => (⟨(bk4 (HBR.out.old h)).1, CA.out U (HOE.out.trans' h)⟩ : (U.cell? ⟨br, 0, none⟩ = some (.int .i64 R.code) ∧ U.cell? ⟨br, 1, none⟩ = some (.int .i64 R.ver) ∧ U.cell? ⟨br, 2, none⟩ = some (.string R.data) ∧ U.cell? ⟨br, 3, none⟩ = some (.slice Ar 0 cr)) ∧ U.cell? ⟨b0, o + k * 14, none⟩ = some (.int .i64 c) ∧ U.cell? ⟨b0, o + k * 14 + 1, none⟩ = some (.int .i64 x.seq) ∧ U.cell? ⟨b0, o + k * 14 + 2, none⟩ = some (.bool true) ∧ U.cell? ⟨b0, o + k * 14 + 3, none⟩ = some (.int .i64 x.q.client) ∧ U.cell? ⟨b0, o + k * 14 + 4, none⟩ = some (.int .i64 x.q.seq) ∧ U.cell? ⟨b0, o + k * 14 + 5, none⟩ = some (.int .i64 x.q.kind) ∧ U.cell? ⟨b0, o + k * 14 + 6, none⟩ = some (.int .i64 x.q.id) ∧ U.cell? ⟨b0, o + k * 14 + 7, none⟩ = some (.int .i64 x.q.mat) ∧ U.cell? ⟨b0, o + k * 14 + 8, none⟩ = some (.string x.q.data) ∧ U.cell? ⟨b0, o + k * 14 + 9, none⟩ = some (.int .i64 x.r.code) ∧ U.cell? ⟨b0, o + k * 14 + 10, none⟩ = some (.int .i64 x.r.ver) ∧ U.cell? ⟨b0, o + k * 14 + 11, none⟩ = some (.string x.r.data) ∧ U.cell? ⟨b0, o + k * 14 + 12, none⟩ = some (.slice x.A vn x.cap) ∧ U.cell? ⟨b0, o + k * 14 + 13, none⟩ = some (.int .i64 x.at_)))
                    have cS := hide (fun (U : World) (h : Old WE U) => RSame_any R x.r Ar x.A 0 vn cr x.cap U (by rw [HRV.out]; exact CellsAt.nil _ _) (CellsAt.old HXV.out (HOE.out.trans' h)) (by rw [HRV.out]; rfl) HVN.out.symm (Nat.zero_le _) hvn)
                    rw [← hWE]
                    clear hF9 hBk9
                    go_upto_region 22 with fail
                    clear hWE
                    obtain ⟨bs, hbs⟩ : ∃ z, R.same x.r = z := ⟨_, rfl⟩
                    have HBS := hide hbs
                    rw [hbs] at cS
                    clear hbs
                    cases bs
                    · have HBAD := hide (show Ending.returned (Value.int .i64 (-((nn : Int) + 1))) = .returned (.int .i64 E) from by rw [← HE.out]; exact congrArg (fun z => Ending.returned (Value.int .i64 z)) (HRB.out (by rw [HGD.out]; exact HBS.out)).symm)
                      refine region_steps (R := pick [eqv (.agg #[.int .i64 R.code, .int .i64 R.ver, .string R.data, .slice Ar 0 cr]), eqv (.slice (some ⟨b0, o, none⟩) n cap), eqv (.int .i64 k), eqv (.pointer (some ⟨b0, o + k * 14, none⟩)), eqv (.pointer (some ⟨b0, o + k * 14 + 9, none⟩)), eqv (.agg #[.int .i64 x.r.code, .int .i64 x.r.ver, .string x.r.data, .slice x.A vn x.cap]), eqv (.bool false), eqv (.bool true)]) (S := fun _ w' => Old WE w') (T := Old) (by kernel_rfl) (by kernel_rfl) (by kernel_rfl) (Stab.pick (Stab.eqv (Stab.eqv (Stab.eqv (Stab.eqv (Stab.eqv (Stab.eqv (Stab.eqv (Stab.eqv (Stab.nil)))))))))) ((Old.refl' WE).drew') ?steps ?ends
                      case steps =>
                        refine StepsOk.cons (stepOk_pure [] [(15, .pointer (some ⟨br, 0, none⟩))] rfl rfl (by kernel_rfl) (by kernel_rfl) rfl Old.refl' (fun _ _ _ h => h) (fun d E w' hk hda hS hc hf => by rintro  e15; obtain ⟨⟨r0, r1, r2, r3⟩, ⟨s0, s1, s2, s3, s4, s5, s6, s7, s8, s9, s10, s11, s12, s13⟩⟩ := CS.out _ hS; exact ⟨_, by go_simp, rfl⟩)) ?_
                        refine StepsOk.cons (stepOk_pure [] [(0, .slice (some ⟨b0, o, none⟩) n cap)] rfl rfl (by kernel_rfl) (by kernel_rfl) rfl Old.refl' (fun _ _ _ h => h) (fun d E w' hk hda hS hc hf => by rintro  e0; exact ⟨_, by go_simp, rfl⟩)) ?_
                        refine StepsOk.cons (stepOk_pure [] [(12, .int .i64 k)] rfl rfl (by kernel_rfl) (by kernel_rfl) rfl Old.refl' (fun _ _ _ h => h) (fun d E w' hk hda hS hc hf => by rintro  e12; exact ⟨_, by go_simp, rfl⟩)) ?_
                        refine StepsOk.cons (stepOk_pure [(1, 138), (2, 139)] [] rfl rfl (by kernel_rfl) (by kernel_rfl) rfl Old.refl' (fun _ _ _ h => h) (fun d E w' hk hda hS hc hf => by rintro _ q1 rfl e138 _ q2 rfl e139 ; obtain ⟨⟨r0, r1, r2, r3⟩, ⟨s0, s1, s2, s3, s4, s5, s6, s7, s8, s9, s10, s11, s12, s13⟩⟩ := CS.out _ hS; exact ⟨_, by go_simp, rfl⟩)) ?_
                        refine StepsOk.cons (stepOk_pure [(3, 140)] [] rfl rfl (by kernel_rfl) (by kernel_rfl) rfl Old.refl' (fun _ _ _ h => h) (fun d E w' hk hda hS hc hf => by rintro _ q3 rfl e140 ; exact ⟨_, by go_simp, rfl⟩)) ?_
                        refine StepsOk.cons (stepOk_pure [(4, 141)] [] rfl rfl (by kernel_rfl) (by kernel_rfl) rfl Old.refl' (fun _ _ _ h => h) (fun d E w' hk hda hS hc hf => by rintro _ q4 rfl e141 ; obtain ⟨⟨r0, r1, r2, r3⟩, ⟨s0, s1, s2, s3, s4, s5, s6, s7, s8, s9, s10, s11, s12, s13⟩⟩ := CS.out _ hS; exact ⟨_, by go_simp, rfl⟩)) ?_
                        refine StepsOk.cons (stepOk_mk [(0, 137), (5, 142)] [] rfl rfl (by kernel_rfl) (by kernel_rfl) rfl ?_) ?_
                        · rintro d a w' hk hda hS _ q0 rfl e137 _ q5 rfl e142 
                          first | refine Given.nil (Known.nil ?_) | refine Known.nil ?_
                          refine wp_call 30 _ Try.func30 (by kernel_rfl) (by kernel_rfl) _ _ (by rfl) [.agg #[.int .i64 R.code, .int .i64 R.ver, .string R.data, .slice Ar 0 cr], .agg #[.int .i64 x.r.code, .int .i64 x.r.ver, .string x.r.data, .slice x.A vn x.cap]] (by simp only [List.map_cons, List.map_nil, *]; try rfl) (cS.out _ hS) ?_
                          rintro e w1 ⟨rfl, f4⟩
                          exact ⟨_, rfl, _, rfl, rfl, f4, hS.trans' f4⟩
                        refine StepsOk.cons (stepOk_pure [(6, 143)] [] rfl rfl (by kernel_rfl) (by kernel_rfl) rfl Old.refl' (fun _ _ _ h => h) (fun d E w' hk hda hS hc hf => by rintro _ q6 rfl e143 ; exact ⟨_, by go_simp, rfl⟩)) ?_
                        exact StepsOk.nil
                      case ends =>
                        intro σ9 w9 hS9 hA9
                        refine Ends.eqv (some 137) (.agg #[.int .i64 R.code, .int .i64 R.ver, .string R.data, .slice Ar 0 cr]) rfl (fun _ h => h) ?_
                        refine Ends.eqv (some 138) (.slice (some ⟨b0, o, none⟩) n cap) rfl (fun _ h => h) ?_
                        refine Ends.eqv (some 139) (.int .i64 k) rfl (fun _ h => h) ?_
                        refine Ends.eqv (some 140) (.pointer (some ⟨b0, o + k * 14, none⟩)) rfl (fun _ h => h) ?_
                        refine Ends.eqv (some 141) (.pointer (some ⟨b0, o + k * 14 + 9, none⟩)) rfl (fun _ h => h) ?_
                        refine Ends.eqv (some 142) (.agg #[.int .i64 x.r.code, .int .i64 x.r.ver, .string x.r.data, .slice x.A vn x.cap]) rfl (fun _ h => h) ?_
                        refine Ends.eqv (some 143) (.bool false) rfl (fun _ h => h) ?_
                        refine Ends.eqv (some 144) (.bool true) rfl (fun _ h => h) ?_
                        refine Ends.nil ?_
                        have hA9' := hA9
                        clear hA9
                        simp only [put_lit, put_none, List.set_cons_zero, List.set_cons_succ]
                        go_wp2_with fail
                        go_ret
                        exact ⟨HBAD.out, HOE.out.trans' hS9⟩
                    · have HNEXT := hide (fun (w9 : World) (h : Old WE w9) => HRG.out (by rw [HGD.out]; exact HBS.out) w9 (HOE.out.trans' h) (HKB.out.old h))
                      refine region_steps (R := pick [eqv (.agg #[.int .i64 R.code, .int .i64 R.ver, .string R.data, .slice Ar 0 cr]), eqv (.slice (some ⟨b0, o, none⟩) n cap), eqv (.int .i64 k), eqv (.pointer (some ⟨b0, o + k * 14, none⟩)), eqv (.pointer (some ⟨b0, o + k * 14 + 9, none⟩)), eqv (.agg #[.int .i64 x.r.code, .int .i64 x.r.ver, .string x.r.data, .slice x.A vn x.cap]), eqv (.bool true), eqv (.bool false)]) (S := fun _ w' => Old WE w') (T := Old) (by kernel_rfl) (by kernel_rfl) (by kernel_rfl) (Stab.pick (Stab.eqv (Stab.eqv (Stab.eqv (Stab.eqv (Stab.eqv (Stab.eqv (Stab.eqv (Stab.eqv (Stab.nil)))))))))) ((Old.refl' WE).drew') ?steps ?ends
                      case steps =>
                        refine StepsOk.cons (stepOk_pure [] [(15, .pointer (some ⟨br, 0, none⟩))] rfl rfl (by kernel_rfl) (by kernel_rfl) rfl Old.refl' (fun _ _ _ h => h) (fun d E w' hk hda hS hc hf => by rintro  e15; obtain ⟨⟨r0, r1, r2, r3⟩, ⟨s0, s1, s2, s3, s4, s5, s6, s7, s8, s9, s10, s11, s12, s13⟩⟩ := CS.out _ hS; exact ⟨_, by go_simp, rfl⟩)) ?_
                        refine StepsOk.cons (stepOk_pure [] [(0, .slice (some ⟨b0, o, none⟩) n cap)] rfl rfl (by kernel_rfl) (by kernel_rfl) rfl Old.refl' (fun _ _ _ h => h) (fun d E w' hk hda hS hc hf => by rintro  e0; exact ⟨_, by go_simp, rfl⟩)) ?_
                        refine StepsOk.cons (stepOk_pure [] [(12, .int .i64 k)] rfl rfl (by kernel_rfl) (by kernel_rfl) rfl Old.refl' (fun _ _ _ h => h) (fun d E w' hk hda hS hc hf => by rintro  e12; exact ⟨_, by go_simp, rfl⟩)) ?_
                        refine StepsOk.cons (stepOk_pure [(1, 138), (2, 139)] [] rfl rfl (by kernel_rfl) (by kernel_rfl) rfl Old.refl' (fun _ _ _ h => h) (fun d E w' hk hda hS hc hf => by rintro _ q1 rfl e138 _ q2 rfl e139 ; obtain ⟨⟨r0, r1, r2, r3⟩, ⟨s0, s1, s2, s3, s4, s5, s6, s7, s8, s9, s10, s11, s12, s13⟩⟩ := CS.out _ hS; exact ⟨_, by go_simp, rfl⟩)) ?_
                        refine StepsOk.cons (stepOk_pure [(3, 140)] [] rfl rfl (by kernel_rfl) (by kernel_rfl) rfl Old.refl' (fun _ _ _ h => h) (fun d E w' hk hda hS hc hf => by rintro _ q3 rfl e140 ; exact ⟨_, by go_simp, rfl⟩)) ?_
                        refine StepsOk.cons (stepOk_pure [(4, 141)] [] rfl rfl (by kernel_rfl) (by kernel_rfl) rfl Old.refl' (fun _ _ _ h => h) (fun d E w' hk hda hS hc hf => by rintro _ q4 rfl e141 ; obtain ⟨⟨r0, r1, r2, r3⟩, ⟨s0, s1, s2, s3, s4, s5, s6, s7, s8, s9, s10, s11, s12, s13⟩⟩ := CS.out _ hS; exact ⟨_, by go_simp, rfl⟩)) ?_
                        refine StepsOk.cons (stepOk_mk [(0, 137), (5, 142)] [] rfl rfl (by kernel_rfl) (by kernel_rfl) rfl ?_) ?_
                        · rintro d a w' hk hda hS _ q0 rfl e137 _ q5 rfl e142 
                          first | refine Given.nil (Known.nil ?_) | refine Known.nil ?_
                          refine wp_call 30 _ Try.func30 (by kernel_rfl) (by kernel_rfl) _ _ (by rfl) [.agg #[.int .i64 R.code, .int .i64 R.ver, .string R.data, .slice Ar 0 cr], .agg #[.int .i64 x.r.code, .int .i64 x.r.ver, .string x.r.data, .slice x.A vn x.cap]] (by simp only [List.map_cons, List.map_nil, *]; try rfl) (cS.out _ hS) ?_
                          rintro e w1 ⟨rfl, f4⟩
                          exact ⟨_, rfl, _, rfl, rfl, f4, hS.trans' f4⟩
                        refine StepsOk.cons (stepOk_pure [(6, 143)] [] rfl rfl (by kernel_rfl) (by kernel_rfl) rfl Old.refl' (fun _ _ _ h => h) (fun d E w' hk hda hS hc hf => by rintro _ q6 rfl e143 ; exact ⟨_, by go_simp, rfl⟩)) ?_
                        exact StepsOk.nil
                      case ends =>
                        intro σ9 w9 hS9 hA9
                        refine Ends.eqv (some 137) (.agg #[.int .i64 R.code, .int .i64 R.ver, .string R.data, .slice Ar 0 cr]) rfl (fun _ h => h) ?_
                        refine Ends.eqv (some 138) (.slice (some ⟨b0, o, none⟩) n cap) rfl (fun _ h => h) ?_
                        refine Ends.eqv (some 139) (.int .i64 k) rfl (fun _ h => h) ?_
                        refine Ends.eqv (some 140) (.pointer (some ⟨b0, o + k * 14, none⟩)) rfl (fun _ h => h) ?_
                        refine Ends.eqv (some 141) (.pointer (some ⟨b0, o + k * 14 + 9, none⟩)) rfl (fun _ h => h) ?_
                        refine Ends.eqv (some 142) (.agg #[.int .i64 x.r.code, .int .i64 x.r.ver, .string x.r.data, .slice x.A vn x.cap]) rfl (fun _ h => h) ?_
                        refine Ends.eqv (some 143) (.bool true) rfl (fun _ h => h) ?_
                        refine Ends.eqv (some 144) (.bool false) rfl (fun _ h => h) ?_
                        refine Ends.nil ?_
                        have hA9' := hA9
                        clear hA9
                        simp only [put_lit, put_none, List.set_cons_zero, List.set_cons_succ]
                        go_wp2_with fail
                        go_roundw
                        case rel => exact ⟨k + 1, by omega, by go_num, nn + 1, by go_num, HNEXT.out w9 hS9, HVE.out.trans (Fr.of_old hS9)⟩
                        case measure => simp [intOf]; omega
                · have HNEQ := hide (show ¬ (yq.client = x.q.client ∧ yq.seq = x.q.seq ∧ yq.kind = x.q.kind ∧ yq.id = x.q.id ∧ yq.mat = x.q.mat ∧ yq.data = x.q.data) from fun ⟨h1, h2, h3, h4, h5, h6⟩ => hyx (by cases yq; cases hxq : x.q; rw [hxq] at h1 h2 h3 h4 h5 h6; simp at h1 h2 h3 h4 h5 h6; subst h1 h2 h3 h4 h5 h6; rfl))
                  have hgf : (log[m]?.getD default).eqb x.q = false := by rw [HYQ.out, ← Bool.not_eq_true, ReqV.eqb_iff]; exact hyx
                  have hgd0 := HRB.out (by unfold goodA; rw [HX.out]; exact right_neq HW.out (by rw [Int.add_sub_cancel, Int.toNat_natCast]; exact hgf))
                  have HBAD := hide (show Ending.returned (Value.int .i64 (-((nn : Int) + 1))) = .returned (.int .i64 E) from by rw [← HE.out]; exact congrArg (fun z => Ending.returned (Value.int .i64 z)) hgd0.symm)
                  clear hgd0
                  clear hyx hgf
                  go_upto_region 16 with fail
                  have g1 : ¬ (m : Int) + 1 < 1 := by omega
                  have g2 : ¬ (nl : Int) < (m : Int) + 1 := by omega
                  have g3 : ¬ (m : Int) + 1 ≤ st.asked c := by have := H3.out; omega
                  have hmw : IntKind.i64.wrap (m : Int) = (m : Int) := IntWalk.i64_in _ (by omega)
                  have CS := hide (fun (U : World) (h : Old W2 U) => (⟨(h.cell (p := ⟨pb, c, none⟩) hpbl).trans kba, (h.cell (p := ⟨yb, yo + m * 6, none⟩) hyb1).trans e0, (h.cell (p := ⟨yb, yo + m * 6 + 1, none⟩) hyb1).trans e1, (h.cell (p := ⟨yb, yo + m * 6 + 2, none⟩) hyb1).trans e2, (h.cell (p := ⟨yb, yo + m * 6 + 3, none⟩) hyb1).trans e3, (h.cell (p := ⟨yb, yo + m * 6 + 4, none⟩) hyb1).trans e4, (h.cell (p := ⟨yb, yo + m * 6 + 5, none⟩) hyb1).trans e5, (h.cell (p := ⟨b0, o + k * 14 + 3, none⟩) hb2l).trans c3, (h.cell (p := ⟨b0, o + k * 14 + 3 + 1, none⟩) hb2l).trans d4, (h.cell (p := ⟨b0, o + k * 14 + 3 + 2, none⟩) hb2l).trans d5, (h.cell (p := ⟨b0, o + k * 14 + 3 + 3, none⟩) hb2l).trans d6, (h.cell (p := ⟨b0, o + k * 14 + 3 + 4, none⟩) hb2l).trans d7, (h.cell (p := ⟨b0, o + k * 14 + 3 + 5, none⟩) hb2l).trans d8⟩ :
                    U.cell? ⟨pb, c, none⟩ = some (.int .i64 (st.asked c)) ∧ U.cell? ⟨yb, yo + m * 6, none⟩ = some (.int .i64 yq.client) ∧ U.cell? ⟨yb, yo + m * 6 + 1, none⟩ = some (.int .i64 yq.seq) ∧ U.cell? ⟨yb, yo + m * 6 + 2, none⟩ = some (.int .i64 yq.kind) ∧ U.cell? ⟨yb, yo + m * 6 + 3, none⟩ = some (.int .i64 yq.id) ∧ U.cell? ⟨yb, yo + m * 6 + 4, none⟩ = some (.int .i64 yq.mat) ∧ U.cell? ⟨yb, yo + m * 6 + 5, none⟩ = some (.string yq.data) ∧ U.cell? ⟨b0, o + k * 14 + 3, none⟩ = some (.int .i64 x.q.client) ∧ U.cell? ⟨b0, o + k * 14 + 3 + 1, none⟩ = some (.int .i64 x.q.seq) ∧ U.cell? ⟨b0, o + k * 14 + 3 + 2, none⟩ = some (.int .i64 x.q.kind) ∧ U.cell? ⟨b0, o + k * 14 + 3 + 3, none⟩ = some (.int .i64 x.q.id) ∧ U.cell? ⟨b0, o + k * 14 + 3 + 4, none⟩ = some (.int .i64 x.q.mat) ∧ U.cell? ⟨b0, o + k * 14 + 3 + 5, none⟩ = some (.string x.q.data)))
                  refine region_steps (R := pick [eqv (.int .i64 ((m : Int) + 1)), eqv (.bool false), eqv (.bool false), eqv (.int .i64 ((m : Int) + 1)), eqv (.slice (some ⟨yb, yo, none⟩) nl cl), eqv (.int .i64 nl), eqv (.bool false), eqv (.bool false), eqv (.bool false), eqv (.int .i64 ((m : Int) + 1)), eqv (.int .i64 c), eqv (.pointer (some ⟨pb, c, none⟩)), eqv (.int .i64 (st.asked c)), eqv (.bool false), eqv (.bool false), eqv (.bool false), eqv (.slice (some ⟨yb, yo, none⟩) nl cl), eqv (.int .i64 ((m : Int) + 1)), eqv (.int .i64 m), eqv (.pointer (some ⟨yb, yo + m * 6, none⟩)), eqv (.agg #[.int .i64 yq.client, .int .i64 yq.seq, .int .i64 yq.kind, .int .i64 yq.id, .int .i64 yq.mat, .string yq.data]), eqv (.slice (some ⟨b0, o, none⟩) n cap), eqv (.int .i64 k), eqv (.pointer (some ⟨b0, o + k * 14, none⟩)), eqv (.pointer (some ⟨b0, o + k * 14 + 3, none⟩)), eqv (.agg #[.int .i64 x.q.client, .int .i64 x.q.seq, .int .i64 x.q.kind, .int .i64 x.q.id, .int .i64 x.q.mat, .string x.q.data]), eqv (.bool true), eqv (.bool true)]) (S := fun _ w' => Old W2 w') (T := Old) (by kernel_rfl) (by kernel_rfl) (by kernel_rfl) (Stab.pick (Stab.eqv (Stab.eqv (Stab.eqv (Stab.eqv (Stab.eqv (Stab.eqv (Stab.eqv (Stab.eqv (Stab.eqv (Stab.eqv (Stab.eqv (Stab.eqv (Stab.eqv (Stab.eqv (Stab.eqv (Stab.eqv (Stab.eqv (Stab.eqv (Stab.eqv (Stab.eqv (Stab.eqv (Stab.eqv (Stab.eqv (Stab.eqv (Stab.eqv (Stab.eqv (Stab.eqv (Stab.eqv (Stab.nil)))))))))))))))))))))))))))))) ((Old.refl' W2).drew') ?steps ?ends
                  case steps =>
                    refine StepsOk.cons (stepOk_pure [] [(14, .int .i64 ((m : Int) + 1))] rfl rfl (by kernel_rfl) (by kernel_rfl) rfl Old.refl' (fun _ _ _ h => h) (fun d E w' hk hda hS hc hf => by rintro  e14; exact ⟨_, by go_simp, rfl⟩)) ?_
                    refine StepsOk.cons (stepOk_pure [(0, 83)] [] rfl rfl (by kernel_rfl) (by kernel_rfl) rfl Old.refl' (fun _ _ _ h => h) (fun d E w' hk hda hS hc hf => by rintro _ q0 rfl e83 ; exact ⟨_, by go_simp, rfl⟩)) ?_
                    refine StepsOk.cons (stepOk_pure [(1, 84)] [] rfl rfl (by kernel_rfl) (by kernel_rfl) rfl Old.refl' (fun _ _ _ h => h) (fun d E w' hk hda hS hc hf => by rintro _ q1 rfl e84 ; exact ⟨_, by go_simp, rfl⟩)) ?_
                    refine StepsOk.cons (stepOk_pureG 2 85 false rfl rfl (by kernel_rfl) (fun _ _ h => h) [] [(14, .int .i64 ((m : Int) + 1))] (by kernel_rfl) (by kernel_rfl) rfl Old.refl' (fun _ _ _ h => h) (fun d E w' hk hda hS hc hf => by rintro  e14; exact ⟨_, by go_simp, rfl⟩)) ?_
                    refine StepsOk.cons (stepOk_pureG 2 85 false rfl rfl (by kernel_rfl) (fun _ _ h => h) [] [(1, .slice (some ⟨yb, yo, none⟩) nl cl)] (by kernel_rfl) (by kernel_rfl) rfl Old.refl' (fun _ _ _ h => h) (fun d E w' hk hda hS hc hf => by rintro  e1; exact ⟨_, by go_simp, rfl⟩)) ?_
                    refine StepsOk.cons (stepOk_pureG 2 85 false rfl rfl (by kernel_rfl) (fun _ _ h => h) [(4, 87)] [] (by kernel_rfl) (by kernel_rfl) rfl Old.refl' (fun _ _ _ h => h) (fun d E w' hk hda hS hc hf => by rintro _ q4 rfl e87 ; exact ⟨_, by go_simp, rfl⟩)) ?_
                    refine StepsOk.cons (stepOk_pureG 2 85 false rfl rfl (by kernel_rfl) (fun _ _ h => h) [(3, 86), (5, 88)] [] (by kernel_rfl) (by kernel_rfl) rfl Old.refl' (fun _ _ _ h => h) (fun d E w' hk hda hS hc hf => by rintro _ q3 rfl e86 _ q5 rfl e88 ; exact ⟨_, by go_simp, rfl⟩)) ?_
                    refine StepsOk.cons (stepOk_pure [(2, 85), (6, 89)] [] rfl rfl (by kernel_rfl) (by kernel_rfl) rfl Old.refl' (fun _ _ _ h => h) (fun d E w' hk hda hS hc hf => by rintro _ q2 rfl e85 _ q6 rfl e89 ; exact ⟨_, by go_simp, rfl⟩)) ?_
                    refine StepsOk.cons (stepOk_pure [(7, 90)] [] rfl rfl (by kernel_rfl) (by kernel_rfl) rfl Old.refl' (fun _ _ _ h => h) (fun d E w' hk hda hS hc hf => by rintro _ q7 rfl e90 ; exact ⟨_, by go_simp, rfl⟩)) ?_
                    refine StepsOk.cons (stepOk_pureG 8 91 false rfl rfl (by kernel_rfl) (fun _ _ h => h) [] [(14, .int .i64 ((m : Int) + 1))] (by kernel_rfl) (by kernel_rfl) rfl Old.refl' (fun _ _ _ h => h) (fun d E w' hk hda hS hc hf => by rintro  e14; exact ⟨_, by go_simp, rfl⟩)) ?_
                    refine StepsOk.cons (stepOk_pureG 8 91 false rfl rfl (by kernel_rfl) (fun _ _ h => h) [] [(13, .int .i64 c)] (by kernel_rfl) (by kernel_rfl) rfl Old.refl' (fun _ _ _ h => h) (fun d E w' hk hda hS hc hf => by rintro  e13; exact ⟨_, by go_simp, rfl⟩)) ?_
                    refine StepsOk.cons (stepOk_pureG 8 91 false rfl rfl (by kernel_rfl) (fun _ _ h => h) [(10, 93)] [(10, .pointer (some ⟨pb, 0, none⟩))] (by kernel_rfl) (by kernel_rfl) rfl Old.refl' (fun _ _ _ h => h) (fun d E w' hk hda hS hc hf => by rintro _ q10 rfl e93 e10; obtain ⟨t0, t1, t2, t3, t4, t5, t6, t7, t8, t9, t10, t11, t12⟩ := CS.out _ hS; exact ⟨_, by go_simp, rfl⟩)) ?_
                    refine StepsOk.cons (stepOk_pureG 8 91 false rfl rfl (by kernel_rfl) (fun _ _ h => h) [(11, 94)] [] (by kernel_rfl) (by kernel_rfl) rfl Old.refl' (fun _ _ _ h => h) (fun d E w' hk hda hS hc hf => by rintro _ q11 rfl e94 ; obtain ⟨t0, t1, t2, t3, t4, t5, t6, t7, t8, t9, t10, t11, t12⟩ := CS.out _ hS; exact ⟨_, by go_simp, rfl⟩)) ?_
                    refine StepsOk.cons (stepOk_pureG 8 91 false rfl rfl (by kernel_rfl) (fun _ _ h => h) [(9, 92), (12, 95)] [] (by kernel_rfl) (by kernel_rfl) rfl Old.refl' (fun _ _ _ h => h) (fun d E w' hk hda hS hc hf => by rintro _ q9 rfl e92 _ q12 rfl e95 ; exact ⟨_, by go_simp, rfl⟩)) ?_
                    refine StepsOk.cons (stepOk_pure [(8, 91), (13, 96)] [] rfl rfl (by kernel_rfl) (by kernel_rfl) rfl Old.refl' (fun _ _ _ h => h) (fun d E w' hk hda hS hc hf => by rintro _ q8 rfl e91 _ q13 rfl e96 ; exact ⟨_, by go_simp, rfl⟩)) ?_
                    refine StepsOk.cons (stepOk_pure [(14, 97)] [] rfl rfl (by kernel_rfl) (by kernel_rfl) rfl Old.refl' (fun _ _ _ h => h) (fun d E w' hk hda hS hc hf => by rintro _ q14 rfl e97 ; exact ⟨_, by go_simp, rfl⟩)) ?_
                    refine StepsOk.cons (stepOk_pureG 15 98 false rfl rfl (by kernel_rfl) (fun _ _ h => h) [] [(1, .slice (some ⟨yb, yo, none⟩) nl cl)] (by kernel_rfl) (by kernel_rfl) rfl Old.refl' (fun _ _ _ h => h) (fun d E w' hk hda hS hc hf => by rintro  e1; exact ⟨_, by go_simp, rfl⟩)) ?_
                    refine StepsOk.cons (stepOk_pureG 15 98 false rfl rfl (by kernel_rfl) (fun _ _ h => h) [] [(14, .int .i64 ((m : Int) + 1))] (by kernel_rfl) (by kernel_rfl) rfl Old.refl' (fun _ _ _ h => h) (fun d E w' hk hda hS hc hf => by rintro  e14; exact ⟨_, by go_simp, rfl⟩)) ?_
                    refine StepsOk.cons (stepOk_pureG 15 98 false rfl rfl (by kernel_rfl) (fun _ _ h => h) [(17, 100)] [] (by kernel_rfl) (by kernel_rfl) rfl Old.refl' (fun _ _ _ h => h) (fun d E w' hk hda hS hc hf => by rintro _ q17 rfl e100 ; exact ⟨_, by go_simp, rfl⟩)) ?_
                    refine StepsOk.cons (stepOk_pureG 15 98 false rfl rfl (by kernel_rfl) (fun _ _ h => h) [(16, 99), (18, 101)] [] (by kernel_rfl) (by kernel_rfl) rfl Old.refl' (fun _ _ _ h => h) (fun d E w' hk hda hS hc hf => by rintro _ q16 rfl e99 _ q18 rfl e101 ; obtain ⟨t0, t1, t2, t3, t4, t5, t6, t7, t8, t9, t10, t11, t12⟩ := CS.out _ hS; exact ⟨_, by go_simp, rfl⟩)) ?_
                    refine StepsOk.cons (stepOk_pureG 15 98 false rfl rfl (by kernel_rfl) (fun _ _ h => h) [(19, 102)] [] (by kernel_rfl) (by kernel_rfl) rfl Old.refl' (fun _ _ _ h => h) (fun d E w' hk hda hS hc hf => by rintro _ q19 rfl e102 ; obtain ⟨t0, t1, t2, t3, t4, t5, t6, t7, t8, t9, t10, t11, t12⟩ := CS.out _ hS; exact ⟨_, by go_simp, rfl⟩)) ?_
                    refine StepsOk.cons (stepOk_pureG 15 98 false rfl rfl (by kernel_rfl) (fun _ _ h => h) [] [(0, .slice (some ⟨b0, o, none⟩) n cap)] (by kernel_rfl) (by kernel_rfl) rfl Old.refl' (fun _ _ _ h => h) (fun d E w' hk hda hS hc hf => by rintro  e0; exact ⟨_, by go_simp, rfl⟩)) ?_
                    refine StepsOk.cons (stepOk_pureG 15 98 false rfl rfl (by kernel_rfl) (fun _ _ h => h) [] [(12, .int .i64 k)] (by kernel_rfl) (by kernel_rfl) rfl Old.refl' (fun _ _ _ h => h) (fun d E w' hk hda hS hc hf => by rintro  e12; exact ⟨_, by go_simp, rfl⟩)) ?_
                    refine StepsOk.cons (stepOk_pureG 15 98 false rfl rfl (by kernel_rfl) (fun _ _ h => h) [(21, 104), (22, 105)] [] (by kernel_rfl) (by kernel_rfl) rfl Old.refl' (fun _ _ _ h => h) (fun d E w' hk hda hS hc hf => by rintro _ q21 rfl e104 _ q22 rfl e105 ; obtain ⟨t0, t1, t2, t3, t4, t5, t6, t7, t8, t9, t10, t11, t12⟩ := CS.out _ hS; exact ⟨_, by go_simp, rfl⟩)) ?_
                    refine StepsOk.cons (stepOk_pureG 15 98 false rfl rfl (by kernel_rfl) (fun _ _ h => h) [(23, 106)] [] (by kernel_rfl) (by kernel_rfl) rfl Old.refl' (fun _ _ _ h => h) (fun d E w' hk hda hS hc hf => by rintro _ q23 rfl e106 ; exact ⟨_, by go_simp, rfl⟩)) ?_
                    refine StepsOk.cons (stepOk_pureG 15 98 false rfl rfl (by kernel_rfl) (fun _ _ h => h) [(24, 107)] [] (by kernel_rfl) (by kernel_rfl) rfl Old.refl' (fun _ _ _ h => h) (fun d E w' hk hda hS hc hf => by rintro _ q24 rfl e107 ; obtain ⟨t0, t1, t2, t3, t4, t5, t6, t7, t8, t9, t10, t11, t12⟩ := CS.out _ hS; exact ⟨_, by go_simp, rfl⟩)) ?_
                    refine StepsOk.cons (stepOk_guard 15 98 false rfl rfl (by kernel_rfl) (fun _ _ h => h) [(20, 103), (25, 108)] [] (by kernel_rfl) (by kernel_rfl) rfl ?_) ?_
                    · rintro d a w' hk hda hS _ q20 rfl e103 _ q25 rfl e108 
                      first | refine Given.nil (Known.nil ?_) | refine Known.nil ?_
                      refine wp_runv (w' := w') (.bool true) (by revert e103 e108; generalize a.eval = E0; intro e103 e108; go_simp; intro h0 h1 h2 h3 h4 h5; exact HNEQ.out ⟨h0, h1, h2, h3, h4, bytes_eq' h5⟩) ⟨_, rfl, rfl, (Old.refl' _), hS⟩
                    refine StepsOk.cons (stepOk_pure [(15, 98), (26, 109)] [] rfl rfl (by kernel_rfl) (by kernel_rfl) rfl Old.refl' (fun _ _ _ h => h) (fun d E w' hk hda hS hc hf => by rintro _ q15 rfl e98 _ q26 rfl e109 ; exact ⟨_, by go_simp, rfl⟩)) ?_
                    exact StepsOk.nil
                  case ends =>
                    intro σ9 w9 hS9 hA9
                    refine Ends.eqv (some 83) (.int .i64 ((m : Int) + 1)) rfl (fun _ h => h) ?_
                    refine Ends.eqv (some 84) (.bool false) rfl (fun _ h => h) ?_
                    refine Ends.eqv (some 85) (.bool false) rfl (fun _ h => h) ?_
                    refine Ends.eqv (some 86) (.int .i64 ((m : Int) + 1)) rfl (fun _ h => h) ?_
                    refine Ends.eqv (some 87) (.slice (some ⟨yb, yo, none⟩) nl cl) rfl (fun _ h => h) ?_
                    refine Ends.eqv (some 88) (.int .i64 nl) rfl (fun _ h => h) ?_
                    refine Ends.eqv (some 89) (.bool false) rfl (fun _ h => h) ?_
                    refine Ends.eqv (some 90) (.bool false) rfl (fun _ h => h) ?_
                    refine Ends.eqv (some 91) (.bool false) rfl (fun _ h => h) ?_
                    refine Ends.eqv (some 92) (.int .i64 ((m : Int) + 1)) rfl (fun _ h => h) ?_
                    refine Ends.eqv (some 93) (.int .i64 c) rfl (fun _ h => h) ?_
                    refine Ends.eqv (some 94) (.pointer (some ⟨pb, c, none⟩)) rfl (fun _ h => h) ?_
                    refine Ends.eqv (some 95) (.int .i64 (st.asked c)) rfl (fun _ h => h) ?_
                    refine Ends.eqv (some 96) (.bool false) rfl (fun _ h => h) ?_
                    refine Ends.eqv (some 97) (.bool false) rfl (fun _ h => h) ?_
                    refine Ends.eqv (some 98) (.bool false) rfl (fun _ h => h) ?_
                    refine Ends.eqv (some 99) (.slice (some ⟨yb, yo, none⟩) nl cl) rfl (fun _ h => h) ?_
                    refine Ends.eqv (some 100) (.int .i64 ((m : Int) + 1)) rfl (fun _ h => h) ?_
                    refine Ends.eqv (some 101) (.int .i64 m) rfl (fun _ h => h) ?_
                    refine Ends.eqv (some 102) (.pointer (some ⟨yb, yo + m * 6, none⟩)) rfl (fun _ h => h) ?_
                    refine Ends.eqv (some 103) (.agg #[.int .i64 yq.client, .int .i64 yq.seq, .int .i64 yq.kind, .int .i64 yq.id, .int .i64 yq.mat, .string yq.data]) rfl (fun _ h => h) ?_
                    refine Ends.eqv (some 104) (.slice (some ⟨b0, o, none⟩) n cap) rfl (fun _ h => h) ?_
                    refine Ends.eqv (some 105) (.int .i64 k) rfl (fun _ h => h) ?_
                    refine Ends.eqv (some 106) (.pointer (some ⟨b0, o + k * 14, none⟩)) rfl (fun _ h => h) ?_
                    refine Ends.eqv (some 107) (.pointer (some ⟨b0, o + k * 14 + 3, none⟩)) rfl (fun _ h => h) ?_
                    refine Ends.eqv (some 108) (.agg #[.int .i64 x.q.client, .int .i64 x.q.seq, .int .i64 x.q.kind, .int .i64 x.q.id, .int .i64 x.q.mat, .string x.q.data]) rfl (fun _ h => h) ?_
                    refine Ends.eqv (some 109) (.bool true) rfl (fun _ h => h) ?_
                    refine Ends.eqv (some 110) (.bool true) rfl (fun _ h => h) ?_
                    refine Ends.nil ?_
                    clear hA9
                    simp only [put_lit, put_none, List.set_cons_zero, List.set_cons_succ]
                    go_wp2_with fail
                    go_ret
                    exact ⟨HBAD.out, HOW2.out.trans' hS9⟩
        | false =>
          have HW := hide hw
          have cW := hide (rWrites_at x.q.client x.q.seq x.q.kind x.q.id x.q.mat x.q.data false hw W1)
          clear hw
          go_wp2_with fail
          refine cW.out.mono ?_
          rintro e W2 ⟨rfl, o2⟩
          have HOW2 := hide (HOW1.out.trans' o2)
          have HVW2 := hide (HVW1.out.trans (Fr.of_old o2))
          have kbr2 := kbr.old o2
          have kb2 := kb1.old o2
          clear c0 c1 c2 c3 c4 c5 c6 c7 c8 c9 c10 c11 c12 c13 d4 d5 d6 d7 d8 kba hpbl hb1l kbr kb1
          obtain ⟨c0, c1, c2, c3, c4, c5, c6, c7, c8, c9, c10, c11, c12, c13⟩ := CA.out W2 HOW2.out
          have kba := asked_get kb2 hc4
          have hpbl := kb2.lt
          have hb2l : b0 < W2.heap.size := Nat.lt_of_lt_of_le hb0 HOW2.out.size
          have d4 : W2.cell? ⟨b0, o + k * 14 + 3 + 1, none⟩ = _ := c4
          have d5 : W2.cell? ⟨b0, o + k * 14 + 3 + 2, none⟩ = _ := c5
          have d6 : W2.cell? ⟨b0, o + k * 14 + 3 + 3, none⟩ = _ := c6
          have d7 : W2.cell? ⟨b0, o + k * 14 + 3 + 4, none⟩ = _ := c7
          have d8 : W2.cell? ⟨b0, o + k * 14 + 3 + 5, none⟩ = _ := c8
          cases rd with
          | false =>
            have HN := hide (HRG.out (by unfold goodA; rw [HX.out]; exact right_skip HW.out) W2 HOW2.out kb2)
            go_wp2_with fail
            go_roundw
            case rel => exact ⟨k + 1, by omega, by go_num, nn + 1, by go_num, HN.out, HVW2.out⟩
            case measure => simp [intOf]; omega
          | true =>
            by_cases h2 : (nl : Int) < a
            · have HBAD := hide (show Ending.returned (Value.int .i64 (-((nn : Int) + 1))) = .returned (.int .i64 E) from by rw [← HE.out]; exact congrArg (fun z => Ending.returned (Value.int .i64 z)) (HRB.out (by unfold goodA; rw [HX.out]; exact right_hiR HW.out (show ¬ a ≤ (log.length : Int) by rw [← HLL.out]; omega))).symm)
              go_wp2_with fail
              go_ret
              exact ⟨HBAD.out, HOW2.out⟩
            · obtain ⟨m, hm⟩ : ∃ m : Nat, a = (m : Int) := ⟨a.toNat, by have := hatb.1; omega⟩
              subst hm
              have hmn : m ≤ nl := by omega
              have hmI : (m : Int) ≤ nl := by omega
              go_upto_region 14 with fail
              clear c0 c1 c2 c3 c4 c5 c6 c7 c8 c9 c10 c11 c12 c13 d4 d5 d6 d7 d8
              obtain ⟨st0, hst0'⟩ : ∃ z, runS qt (log.take m) = z := ⟨_, rfl⟩
              have hst0 : st0.n ≤ 50000 := by have h1 := (runS_ok qt (log.take m)).2.1; rw [hst0', List.length_take] at h1; omega
              have cF := hide (fun (U : World) (h : Old w U) => (by have h1 := DFirst_any Al nl cl log HLL.out (by omega) m (by omega) qt true (okN_le HOKN.out (by rw [← HLL.out]; omega)) U (CellsAt.old HQ.out h); rw [hst0'] at h1; exact h1 :
                Calls Try.prog 29 #[.slice Al nl cl, .int .i64 m, .int .i64 qt] U fun e w' => ∃ P, e = .returned (.pointer P) ∧ Old U w' ∧ (true = false → P = none) ∧ (true = true → ∃ g F, P = some ⟨g, 0, none⟩ ∧ SDAt w' g F st0 ∧ ∀ k, F k → U.heap.size ≤ k)))
              obtain ⟨R, hR⟩ : ∃ R, st0.ask x.q.q = R := ⟨_, rfl⟩
              obtain ⟨nR, hnr⟩ : ∃ z, R.vs.length = z := ⟨_, rfl⟩
              obtain ⟨ea, hea⟩ : ∃ e : Int, (if askOk x.q.q then 0 else 1) = e := ⟨_, rfl⟩
              have cA := hide (fun (g : Nat) (F : Nat → Prop) (U : World) (h : SDAt U g F st0) => (by have h1 := SAsk_stN g F st0 x.q.q hst0 nR (by rw [hR]; exact hnr) U h; rw [hR, hea] at h1; exact h1 :
                Calls Try.prog 22 #[.pointer (some ⟨g, 0, none⟩), .agg #[.int .i64 x.q.client, .int .i64 x.q.seq, .int .i64 x.q.kind, .int .i64 x.q.id, .int .i64 x.q.mat, .string x.q.data]] U fun e w' => ∃ A c, e = .returned (.tuple #[.agg #[.int .i64 R.code, .int .i64 R.ver, .string R.data, .slice A nR c], .int .i64 ea]) ∧ IntsAt w' A R.vs ∧ (∀ a', A = some a' → U.heap.size ≤ a'.block) ∧ Old U w'))
              have HNR := hide hnr
              have hnR : nR ≤ 1000 := by
                rw [← hnr, ← hR, ← hst0']
                have h1 := ask_vs_le (runS qt (log.take m)) x.q.q _ (runS_few qt (log.take m) _)
                have h2 := (runS_ok qt (log.take m)).2.1
                rw [List.length_take] at h2
                omega
              have HGD := hide (show goodA qt log l true (k, st.asked c, (m : Int)) = R.same x.r from by
                unfold goodA
                rw [HX.out, same_commR, ← hR, ← hst0']
                exact right_read HW.out HOKN.out (by rw [← HLL.out]; exact hmn))
              clear hnr hea hR hst0'
              obtain ⟨WD, hWDx⟩ : ∃ X, X = W2 := ⟨_, rfl⟩
              have hOW := hide (hWDx ▸ HOW2.out : Old w WD)
              have hOV := hide (hWDx ▸ HVW2.out : Fr (fun b => b = pb) V4 WD)
              have hbrz := hide (hWDx ▸ kbr2 : Bk WD br 43 #[.int .i64 0, .int .i64 0, .string { data := #[] }, .slice none 0 0])
              have hKBD := hide (hWDx ▸ kb2 : Bk WD pb 49 #[.int .i64 (st.asked 0), .int .i64 (st.asked 1), .int .i64 (st.asked 2), .int .i64 (st.asked 3)])
              have hbrl := hide hbrz.out.lt
              have HD0 := hide (⟨(Fr.refl _ WD).drew, hbrz.out.drew⟩ : Fr (fun b => b = br) WD WD.drew ∧ Bk WD.drew br 43 #[.int .i64 0, .int .i64 0, .string { data := #[] }, .slice none 0 0])
              rw [← hWDx]
              clear hWDx kbr2 kb2 kba hpbl
              refine region_steps (R := pick [eqv (.slice Al nl cl), eqv (.int .i64 m), eqv (.int .i64 qt), fun v _ => ∃ g, v = .pointer (some ⟨g, 0, none⟩), eqv (.slice (some ⟨b0, o, none⟩) n cap), eqv (.int .i64 k), eqv (.pointer (some ⟨b0, o + k * 14, none⟩)), eqv (.pointer (some ⟨b0, o + k * 14 + 3, none⟩)), eqv (.agg #[.int .i64 x.q.client, .int .i64 x.q.seq, .int .i64 x.q.kind, .int .i64 x.q.id, .int .i64 x.q.mat, .string x.q.data]), fun v w' => ∃ Ar cr, v = .tuple #[.agg #[.int .i64 R.code, .int .i64 R.ver, .string R.data, .slice Ar nR cr], .int .i64 ea] ∧ IntsAt w' Ar R.vs ∧ ∀ a, Ar = some a → a.block ≠ br, fun v w' => ∃ Ar cr, v = .tuple #[.agg #[.int .i64 R.code, .int .i64 R.ver, .string R.data, .slice Ar nR cr], .int .i64 ea] ∧ IntsAt w' Ar R.vs ∧ ∀ a, Ar = some a → a.block ≠ br, fun v w' => ∃ Ar cr, v = .agg #[.int .i64 R.code, .int .i64 R.ver, .string R.data, .slice Ar nR cr] ∧ IntsAt w' Ar R.vs ∧ ∀ a, Ar = some a → a.block ≠ br, eqv (.int .i64 ea), eqv (undef)]) (S := fun σ w' => Fr (fun b => b = br) WD w' ∧ (σ 3 ≠ none → σ 9 = none → σ 13 = none → ∃ g F, σ 3 = some (.pointer (some ⟨g, 0, none⟩)) ∧ SDAt w' g F st0 ∧ ∀ k, F k → WD.heap.size ≤ k) ∧ (σ 13 = none → Bk w' br 43 #[.int .i64 0, .int .i64 0, .string { data := #[] }, .slice none 0 0]) ∧ (σ 13 ≠ none → ∃ Ar cr, Bk w' br 43 #[.int .i64 R.code, .int .i64 R.ver, .string R.data, .slice Ar nR cr] ∧ IntsAt w' Ar R.vs)) (T := Fr (fun b => b = br)) (by kernel_rfl) (by kernel_rfl) (by kernel_rfl) (Stab.pick (Stab.eqv (Stab.eqv (Stab.eqv (Stab.cons (fun _ _ _ _ h => h) (Stab.eqv (Stab.eqv (Stab.eqv (Stab.eqv (Stab.eqv (Stab.cons (fun _ _ _ hT h => by obtain ⟨Ar, cr, h1, h2, h3⟩ := h; exact ⟨Ar, cr, h1, CellsAt.fr h2 hT (fun _ a ha => h3 a ha), h3⟩) (Stab.cons (fun _ _ _ hT h => by obtain ⟨Ar, cr, h1, h2, h3⟩ := h; exact ⟨Ar, cr, h1, CellsAt.fr h2 hT (fun _ a ha => h3 a ha), h3⟩) (Stab.cons (fun _ _ _ hT h => by obtain ⟨Ar, cr, h1, h2, h3⟩ := h; exact ⟨Ar, cr, h1, CellsAt.fr h2 hT (fun _ a ha => h3 a ha), h3⟩) (Stab.eqv (Stab.eqv (Stab.nil)))))))))))))))) (⟨HD0.out.1, fun h => absurd rfl h, fun _ => HD0.out.2, fun h => absurd rfl h⟩) ?steps ?ends
              case steps =>
                refine StepsOk.cons (stepOk_pure [] [(1, .slice Al nl cl)] rfl rfl (by kernel_rfl) (by kernel_rfl) rfl (Fr.refl _) (fun σ v w h => by simpa [upd] using h) (fun d E w' hk hda hS hc hf => by rintro  e1; exact ⟨_, by go_simp, rfl⟩)) ?_
                refine StepsOk.cons (stepOk_pure [] [(14, .int .i64 m)] rfl rfl (by kernel_rfl) (by kernel_rfl) rfl (Fr.refl _) (fun σ v w h => by simpa [upd] using h) (fun d E w' hk hda hS hc hf => by rintro  e14; exact ⟨_, by go_simp, rfl⟩)) ?_
                refine StepsOk.cons (stepOk_pure [] [(2, .int .i64 qt)] rfl rfl (by kernel_rfl) (by kernel_rfl) rfl (Fr.refl _) (fun σ v w h => by simpa [upd] using h) (fun d E w' hk hda hS hc hf => by rintro  e2; exact ⟨_, by go_simp, rfl⟩)) ?_
                refine StepsOk.cons (stepOk_mk [(0, 64), (1, 65), (2, 66)] [] rfl rfl (by kernel_rfl) (by kernel_rfl) rfl ?_) ?_
                · rintro d a w' hk hda hS _ q0 rfl e64 _ q1 rfl e65 _ q2 rfl e66 
                  first | refine Given.nil (Known.nil ?_) | refine Known.nil ?_
                  refine wp_call 29 _ Try.func29 (by kernel_rfl) (by kernel_rfl) _ _ (by rfl) [.slice Al nl cl, .int .i64 m, .int .i64 qt] (by simp only [List.map_cons, List.map_nil, *]; try rfl) (cF.out w' (hOW.out.fr_new hS.1 hbrw.out)) ?_
                  rintro e w1 ⟨Pp, rfl, f4, -, f5⟩
                  obtain ⟨g, F, rfl, f6, f7⟩ := f5 rfl
                  exact ⟨_, rfl, _, rfl, ⟨_, rfl⟩, Fr.of_old f4, hS.1.trans (Fr.of_old f4), fun _ _ _ => ⟨g, F, by simp [upd], f6, fun k hk => Nat.le_trans hS.1.size (f7 k hk)⟩, fun h => (hS.2.2.1 (hk 13 (by kernel_rfl))).old f4, fun h => absurd (hk 13 (by kernel_rfl)) (by simpa [upd] using h)⟩
                refine StepsOk.cons (stepOk_pure [] [(0, .slice (some ⟨b0, o, none⟩) n cap)] rfl rfl (by kernel_rfl) (by kernel_rfl) rfl (Fr.refl _) (fun σ v w h => by simpa [upd] using h) (fun d E w' hk hda hS hc hf => by rintro  e0; exact ⟨_, by go_simp, rfl⟩)) ?_
                refine StepsOk.cons (stepOk_pure [] [(12, .int .i64 k)] rfl rfl (by kernel_rfl) (by kernel_rfl) rfl (Fr.refl _) (fun σ v w h => by simpa [upd] using h) (fun d E w' hk hda hS hc hf => by rintro  e12; exact ⟨_, by go_simp, rfl⟩)) ?_
                refine StepsOk.cons (stepOk_pure [(4, 68), (5, 69)] [] rfl rfl (by kernel_rfl) (by kernel_rfl) rfl (Fr.refl _) (fun σ v w h => by simpa [upd] using h) (fun d E w' hk hda hS hc hf => by rintro _ q4 rfl e68 _ q5 rfl e69 ; obtain ⟨s0, s1, s2, s3, s4, s5, s6, s7, s8, s9, s10, s11, s12, s13⟩ := CA.out w' (hOW.out.fr_new hS.1 hbrw.out); exact ⟨_, by go_simp, rfl⟩)) ?_
                refine StepsOk.cons (stepOk_pure [(6, 70)] [] rfl rfl (by kernel_rfl) (by kernel_rfl) rfl (Fr.refl _) (fun σ v w h => by simpa [upd] using h) (fun d E w' hk hda hS hc hf => by rintro _ q6 rfl e70 ; exact ⟨_, by go_simp, rfl⟩)) ?_
                refine StepsOk.cons (stepOk_pure [(7, 71)] [] rfl rfl (by kernel_rfl) (by kernel_rfl) rfl (Fr.refl _) (fun σ v w h => by simpa [upd] using h) (fun d E w' hk hda hS hc hf => by rintro _ q7 rfl e71 ; obtain ⟨s0, s1, s2, s3, s4, s5, s6, s7, s8, s9, s10, s11, s12, s13⟩ := CA.out w' (hOW.out.fr_new hS.1 hbrw.out); exact ⟨_, by go_simp, rfl⟩)) ?_
                refine StepsOk.cons (stepOk_mk [(3, 67), (8, 72)] [] rfl rfl (by kernel_rfl) (by kernel_rfl) rfl ?_) ?_
                · rintro d a w' hk hda hS _ q3 ⟨g, rfl⟩ e67 _ q8 rfl e72 
                  first | refine Given.nil (Known.nil ?_) | refine Known.nil ?_
                  obtain ⟨g0, F0, hg0, hSD, hF0⟩ := hS.2.1 (by rw [q3]; simp) (hk 9 (by kernel_rfl)) (hk 13 (by kernel_rfl))
                  rw [q3] at hg0
                  obtain rfl : g = g0 := by injection hg0 with hg0; injection hg0 with hg0; injection hg0 with hg0; injection hg0
                  refine wp_call 22 _ Try.func22 (by kernel_rfl) (by kernel_rfl) _ _ (by rfl) [.pointer (some ⟨g, 0, none⟩), .agg #[.int .i64 x.q.client, .int .i64 x.q.seq, .int .i64 x.q.kind, .int .i64 x.q.id, .int .i64 x.q.mat, .string x.q.data]] (by simp only [List.map_cons, List.map_nil, *]; try rfl) (cA.out g F0 w' hSD) ?_
                  rintro e w1 ⟨Ar, cr, rfl, hI, hN, f4⟩
                  exact ⟨_, rfl, _, rfl, ⟨_, _, rfl, hI, fun a ha e => by have h1 := hN a ha; have := hbrl.out; have := hS.1.size; omega⟩, Fr.of_old f4, hS.1.trans (Fr.of_old f4), fun _ h _ => by simp [upd] at h, fun h => (hS.2.2.1 (hk 13 (by kernel_rfl))).old f4, fun h => absurd (hk 13 (by kernel_rfl)) (by simpa [upd] using h)⟩
                refine StepsOk.cons (stepOk_mk [(9, 73)] [] rfl rfl (by kernel_rfl) (by kernel_rfl) rfl ?_) ?_
                · rintro d a w' hk hda hS _ q9 ⟨Ar, cr, rfl, hIr, hNr⟩ e73 
                  first | refine Given.nil (Known.nil ?_) | refine Known.nil ?_
                  refine wp_runv (w' := w') (.tuple #[.agg #[.int .i64 R.code, .int .i64 R.ver, .string R.data, .slice Ar nR cr], .int .i64 ea]) (by revert e73; generalize a.eval = E; intro e73; go_simp) ⟨_, rfl, ⟨_, _, rfl, hIr, hNr⟩, (Fr.refl _ _), by simpa [upd] using hS⟩
                refine StepsOk.cons (stepOk_mk [(10, 63)] [] rfl rfl (by kernel_rfl) (by kernel_rfl) rfl ?_) ?_
                · rintro d a w' hk hda hS _ q10 ⟨Ar, cr, rfl, hIr, hNr⟩ e63 
                  first | refine Given.nil (Known.nil ?_) | refine Known.nil ?_
                  refine wp_runv (w' := w') (.agg #[.int .i64 R.code, .int .i64 R.ver, .string R.data, .slice Ar nR cr]) (by revert e63; generalize a.eval = E; intro e63; go_simp) ⟨_, rfl, ⟨_, _, rfl, hIr, hNr⟩, (Fr.refl _ _), by simpa [upd] using hS⟩
                refine StepsOk.cons (stepOk_pure [(10, 63)] [] rfl rfl (by kernel_rfl) (by kernel_rfl) rfl (Fr.refl _) (fun σ v w h => by simpa [upd] using h) (fun d E w' hk hda hS hc hf => by rintro _ q10 ⟨Ar, cr, rfl, hIr, hNr⟩ e63 ; exact ⟨_, by go_simp, rfl⟩)) ?_
                refine StepsOk.cons (stepOk_store [(11, 74)] [(15, .pointer (some ⟨br, 0, none⟩))] rfl rfl (by kernel_rfl) (by kernel_rfl) rfl (fun d E w' hk hda hS hc hf => by rintro _ q11 ⟨Ar, cr, rfl, hIr, hNr⟩ e74 e15; have hZ := hS.2.2.1 (hk 13 (by kernel_rfl)); obtain ⟨⟨y0, y1, y2, y3⟩, ⟨f0, f1, f2, f3⟩, yl⟩ := bk4 hZ; exact ⟨(((w'.setCell ⟨br, 0, none⟩ (.int .i64 R.code)).setCell ⟨br, 1, none⟩ (.int .i64 R.ver)).setCell ⟨br, 2, none⟩ (.string R.data)).setCell ⟨br, 3, none⟩ (.slice Ar nR cr), by go_simp, rfl, Fr.four (Fr.refl _ _), ⟨Fr.four hS.1, fun _ _ h => by simp [upd] at h, fun h => by simp [upd] at h, fun _ => ⟨Ar, cr, Bk.set4 hZ, CellsAt.fr hIr (Fr.four (Fr.refl _ _)) (fun _ a ha => hNr a ha)⟩⟩⟩)) ?_
                exact StepsOk.nil
              case ends =>
                intro σ9 w9 hS9 hA9
                refine Ends.eqv (some 64) (.slice Al nl cl) rfl (fun _ h => h) ?_
                refine Ends.eqv (some 65) (.int .i64 m) rfl (fun _ h => h) ?_
                refine Ends.eqv (some 66) (.int .i64 qt) rfl (fun _ h => h) ?_
                refine Ends.ex (some 67) rfl ?_
                rintro _ p3 ⟨g, rfl⟩
                refine Ends.eqv (some 68) (.slice (some ⟨b0, o, none⟩) n cap) rfl (fun _ h => h) ?_
                refine Ends.eqv (some 69) (.int .i64 k) rfl (fun _ h => h) ?_
                refine Ends.eqv (some 70) (.pointer (some ⟨b0, o + k * 14, none⟩)) rfl (fun _ h => h) ?_
                refine Ends.eqv (some 71) (.pointer (some ⟨b0, o + k * 14 + 3, none⟩)) rfl (fun _ h => h) ?_
                refine Ends.eqv (some 72) (.agg #[.int .i64 x.q.client, .int .i64 x.q.seq, .int .i64 x.q.kind, .int .i64 x.q.id, .int .i64 x.q.mat, .string x.q.data]) rfl (fun _ h => h) ?_
                refine Ends.ex (some 73) rfl ?_
                rintro _ p9 ⟨Ar, cr, rfl, hIr, hNr⟩
                refine Ends.ex (some 63) rfl ?_
                rintro _ p10 ⟨Ar, cr, rfl, hIr, hNr⟩
                refine Ends.ex (some 74) rfl ?_
                rintro _ p11 ⟨Ar, cr, rfl, hIr, hNr⟩
                refine Ends.eqv (some 75) (.int .i64 ea) rfl (fun _ h => h) ?_
                refine Ends.eqv none (undef) rfl (fun _ h => h) ?_
                refine Ends.nil ?_
                have hA9' := hA9
                clear hA9
                simp only [put_lit, put_none, List.set_cons_zero, List.set_cons_succ]
                obtain ⟨hF9, -, -, hB9⟩ := hS9
                obtain ⟨Ar, cr, hBk9, hIr9⟩ := hB9 (by have := hA9' 13 (by simp); intro e; rw [e] at this; simp at this)
                clear hA9'
                obtain ⟨WE, hWE⟩ : ∃ X, X = w9 := ⟨_, rfl⟩
                have HOE := hide (hWE ▸ hOW.out.fr_new hF9 hbrw.out : Old w WE)
                have HVE := hide (hWE ▸ (Fr.trans' hOV.out hF9 (fun z h1 e => by have := hbrv.out; omega)) : Fr (fun b => b = pb) V4 WE)
                have HKB := hide (hWE ▸ hKBD.out.fr hF9 (fun e => hpbr.out e) : Bk WE pb 49 #[.int .i64 (st.asked 0), .int .i64 (st.asked 1), .int .i64 (st.asked 2), .int .i64 (st.asked 3)])
                have HBR := hide (hWE ▸ hBk9 : Bk WE br 43 #[.int .i64 R.code, .int .i64 R.ver, .string R.data, .slice Ar nR cr])
                have HIE := hide (hWE ▸ hIr9 : IntsAt WE Ar R.vs)
                have CS := hide (fun (U : World) (h : Old WE U) => (⟨(bk4 (HBR.out.old h)).1, CA.out U (HOE.out.trans' h)⟩ : (U.cell? ⟨br, 0, none⟩ = some (.int .i64 R.code) ∧ U.cell? ⟨br, 1, none⟩ = some (.int .i64 R.ver) ∧ U.cell? ⟨br, 2, none⟩ = some (.string R.data) ∧ U.cell? ⟨br, 3, none⟩ = some (.slice Ar nR cr)) ∧ U.cell? ⟨b0, o + k * 14, none⟩ = some (.int .i64 c) ∧ U.cell? ⟨b0, o + k * 14 + 1, none⟩ = some (.int .i64 x.seq) ∧ U.cell? ⟨b0, o + k * 14 + 2, none⟩ = some (.bool true) ∧ U.cell? ⟨b0, o + k * 14 + 3, none⟩ = some (.int .i64 x.q.client) ∧ U.cell? ⟨b0, o + k * 14 + 4, none⟩ = some (.int .i64 x.q.seq) ∧ U.cell? ⟨b0, o + k * 14 + 5, none⟩ = some (.int .i64 x.q.kind) ∧ U.cell? ⟨b0, o + k * 14 + 6, none⟩ = some (.int .i64 x.q.id) ∧ U.cell? ⟨b0, o + k * 14 + 7, none⟩ = some (.int .i64 x.q.mat) ∧ U.cell? ⟨b0, o + k * 14 + 8, none⟩ = some (.string x.q.data) ∧ U.cell? ⟨b0, o + k * 14 + 9, none⟩ = some (.int .i64 x.r.code) ∧ U.cell? ⟨b0, o + k * 14 + 10, none⟩ = some (.int .i64 x.r.ver) ∧ U.cell? ⟨b0, o + k * 14 + 11, none⟩ = some (.string x.r.data) ∧ U.cell? ⟨b0, o + k * 14 + 12, none⟩ = some (.slice x.A vn x.cap) ∧ U.cell? ⟨b0, o + k * 14 + 13, none⟩ = some (.int .i64 x.at_)))
                have cS := hide (fun (U : World) (h : Old WE U) => RSame_any R x.r Ar x.A nR vn cr x.cap U (CellsAt.old HIE.out h) (CellsAt.old HXV.out (HOE.out.trans' h)) HNR.out.symm HVN.out.symm hnR hvn)
                rw [← hWE]
                clear hF9 hBk9
                go_upto_region 22 with fail
                clear hWE
                obtain ⟨bs, hbs⟩ : ∃ z, R.same x.r = z := ⟨_, rfl⟩
                have HBS := hide hbs
                rw [hbs] at cS
                clear hbs
                cases bs
                · have HBAD := hide (show Ending.returned (Value.int .i64 (-((nn : Int) + 1))) = .returned (.int .i64 E) from by rw [← HE.out]; exact congrArg (fun z => Ending.returned (Value.int .i64 z)) (HRB.out (by rw [HGD.out]; exact HBS.out)).symm)
                  refine region_steps (R := pick [eqv (.agg #[.int .i64 R.code, .int .i64 R.ver, .string R.data, .slice Ar nR cr]), eqv (.slice (some ⟨b0, o, none⟩) n cap), eqv (.int .i64 k), eqv (.pointer (some ⟨b0, o + k * 14, none⟩)), eqv (.pointer (some ⟨b0, o + k * 14 + 9, none⟩)), eqv (.agg #[.int .i64 x.r.code, .int .i64 x.r.ver, .string x.r.data, .slice x.A vn x.cap]), eqv (.bool false), eqv (.bool true)]) (S := fun _ w' => Old WE w') (T := Old) (by kernel_rfl) (by kernel_rfl) (by kernel_rfl) (Stab.pick (Stab.eqv (Stab.eqv (Stab.eqv (Stab.eqv (Stab.eqv (Stab.eqv (Stab.eqv (Stab.eqv (Stab.nil)))))))))) ((Old.refl' WE).drew') ?steps ?ends
                  case steps =>
                    refine StepsOk.cons (stepOk_pure [] [(15, .pointer (some ⟨br, 0, none⟩))] rfl rfl (by kernel_rfl) (by kernel_rfl) rfl Old.refl' (fun _ _ _ h => h) (fun d E w' hk hda hS hc hf => by rintro  e15; obtain ⟨⟨r0, r1, r2, r3⟩, ⟨s0, s1, s2, s3, s4, s5, s6, s7, s8, s9, s10, s11, s12, s13⟩⟩ := CS.out _ hS; exact ⟨_, by go_simp, rfl⟩)) ?_
                    refine StepsOk.cons (stepOk_pure [] [(0, .slice (some ⟨b0, o, none⟩) n cap)] rfl rfl (by kernel_rfl) (by kernel_rfl) rfl Old.refl' (fun _ _ _ h => h) (fun d E w' hk hda hS hc hf => by rintro  e0; exact ⟨_, by go_simp, rfl⟩)) ?_
                    refine StepsOk.cons (stepOk_pure [] [(12, .int .i64 k)] rfl rfl (by kernel_rfl) (by kernel_rfl) rfl Old.refl' (fun _ _ _ h => h) (fun d E w' hk hda hS hc hf => by rintro  e12; exact ⟨_, by go_simp, rfl⟩)) ?_
                    refine StepsOk.cons (stepOk_pure [(1, 138), (2, 139)] [] rfl rfl (by kernel_rfl) (by kernel_rfl) rfl Old.refl' (fun _ _ _ h => h) (fun d E w' hk hda hS hc hf => by rintro _ q1 rfl e138 _ q2 rfl e139 ; obtain ⟨⟨r0, r1, r2, r3⟩, ⟨s0, s1, s2, s3, s4, s5, s6, s7, s8, s9, s10, s11, s12, s13⟩⟩ := CS.out _ hS; exact ⟨_, by go_simp, rfl⟩)) ?_
                    refine StepsOk.cons (stepOk_pure [(3, 140)] [] rfl rfl (by kernel_rfl) (by kernel_rfl) rfl Old.refl' (fun _ _ _ h => h) (fun d E w' hk hda hS hc hf => by rintro _ q3 rfl e140 ; exact ⟨_, by go_simp, rfl⟩)) ?_
                    refine StepsOk.cons (stepOk_pure [(4, 141)] [] rfl rfl (by kernel_rfl) (by kernel_rfl) rfl Old.refl' (fun _ _ _ h => h) (fun d E w' hk hda hS hc hf => by rintro _ q4 rfl e141 ; obtain ⟨⟨r0, r1, r2, r3⟩, ⟨s0, s1, s2, s3, s4, s5, s6, s7, s8, s9, s10, s11, s12, s13⟩⟩ := CS.out _ hS; exact ⟨_, by go_simp, rfl⟩)) ?_
                    refine StepsOk.cons (stepOk_mk [(0, 137), (5, 142)] [] rfl rfl (by kernel_rfl) (by kernel_rfl) rfl ?_) ?_
                    · rintro d a w' hk hda hS _ q0 rfl e137 _ q5 rfl e142 
                      first | refine Given.nil (Known.nil ?_) | refine Known.nil ?_
                      refine wp_call 30 _ Try.func30 (by kernel_rfl) (by kernel_rfl) _ _ (by rfl) [.agg #[.int .i64 R.code, .int .i64 R.ver, .string R.data, .slice Ar nR cr], .agg #[.int .i64 x.r.code, .int .i64 x.r.ver, .string x.r.data, .slice x.A vn x.cap]] (by simp only [List.map_cons, List.map_nil, *]; try rfl) (cS.out _ hS) ?_
                      rintro e w1 ⟨rfl, f4⟩
                      exact ⟨_, rfl, _, rfl, rfl, f4, hS.trans' f4⟩
                    refine StepsOk.cons (stepOk_pure [(6, 143)] [] rfl rfl (by kernel_rfl) (by kernel_rfl) rfl Old.refl' (fun _ _ _ h => h) (fun d E w' hk hda hS hc hf => by rintro _ q6 rfl e143 ; exact ⟨_, by go_simp, rfl⟩)) ?_
                    exact StepsOk.nil
                  case ends =>
                    intro σ9 w9 hS9 hA9
                    refine Ends.eqv (some 137) (.agg #[.int .i64 R.code, .int .i64 R.ver, .string R.data, .slice Ar nR cr]) rfl (fun _ h => h) ?_
                    refine Ends.eqv (some 138) (.slice (some ⟨b0, o, none⟩) n cap) rfl (fun _ h => h) ?_
                    refine Ends.eqv (some 139) (.int .i64 k) rfl (fun _ h => h) ?_
                    refine Ends.eqv (some 140) (.pointer (some ⟨b0, o + k * 14, none⟩)) rfl (fun _ h => h) ?_
                    refine Ends.eqv (some 141) (.pointer (some ⟨b0, o + k * 14 + 9, none⟩)) rfl (fun _ h => h) ?_
                    refine Ends.eqv (some 142) (.agg #[.int .i64 x.r.code, .int .i64 x.r.ver, .string x.r.data, .slice x.A vn x.cap]) rfl (fun _ h => h) ?_
                    refine Ends.eqv (some 143) (.bool false) rfl (fun _ h => h) ?_
                    refine Ends.eqv (some 144) (.bool true) rfl (fun _ h => h) ?_
                    refine Ends.nil ?_
                    have hA9' := hA9
                    clear hA9
                    simp only [put_lit, put_none, List.set_cons_zero, List.set_cons_succ]
                    go_wp2_with fail
                    go_ret
                    exact ⟨HBAD.out, HOE.out.trans' hS9⟩
                · have HNEXT := hide (fun (w9 : World) (h : Old WE w9) => HRG.out (by rw [HGD.out]; exact HBS.out) w9 (HOE.out.trans' h) (HKB.out.old h))
                  refine region_steps (R := pick [eqv (.agg #[.int .i64 R.code, .int .i64 R.ver, .string R.data, .slice Ar nR cr]), eqv (.slice (some ⟨b0, o, none⟩) n cap), eqv (.int .i64 k), eqv (.pointer (some ⟨b0, o + k * 14, none⟩)), eqv (.pointer (some ⟨b0, o + k * 14 + 9, none⟩)), eqv (.agg #[.int .i64 x.r.code, .int .i64 x.r.ver, .string x.r.data, .slice x.A vn x.cap]), eqv (.bool true), eqv (.bool false)]) (S := fun _ w' => Old WE w') (T := Old) (by kernel_rfl) (by kernel_rfl) (by kernel_rfl) (Stab.pick (Stab.eqv (Stab.eqv (Stab.eqv (Stab.eqv (Stab.eqv (Stab.eqv (Stab.eqv (Stab.eqv (Stab.nil)))))))))) ((Old.refl' WE).drew') ?steps ?ends
                  case steps =>
                    refine StepsOk.cons (stepOk_pure [] [(15, .pointer (some ⟨br, 0, none⟩))] rfl rfl (by kernel_rfl) (by kernel_rfl) rfl Old.refl' (fun _ _ _ h => h) (fun d E w' hk hda hS hc hf => by rintro  e15; obtain ⟨⟨r0, r1, r2, r3⟩, ⟨s0, s1, s2, s3, s4, s5, s6, s7, s8, s9, s10, s11, s12, s13⟩⟩ := CS.out _ hS; exact ⟨_, by go_simp, rfl⟩)) ?_
                    refine StepsOk.cons (stepOk_pure [] [(0, .slice (some ⟨b0, o, none⟩) n cap)] rfl rfl (by kernel_rfl) (by kernel_rfl) rfl Old.refl' (fun _ _ _ h => h) (fun d E w' hk hda hS hc hf => by rintro  e0; exact ⟨_, by go_simp, rfl⟩)) ?_
                    refine StepsOk.cons (stepOk_pure [] [(12, .int .i64 k)] rfl rfl (by kernel_rfl) (by kernel_rfl) rfl Old.refl' (fun _ _ _ h => h) (fun d E w' hk hda hS hc hf => by rintro  e12; exact ⟨_, by go_simp, rfl⟩)) ?_
                    refine StepsOk.cons (stepOk_pure [(1, 138), (2, 139)] [] rfl rfl (by kernel_rfl) (by kernel_rfl) rfl Old.refl' (fun _ _ _ h => h) (fun d E w' hk hda hS hc hf => by rintro _ q1 rfl e138 _ q2 rfl e139 ; obtain ⟨⟨r0, r1, r2, r3⟩, ⟨s0, s1, s2, s3, s4, s5, s6, s7, s8, s9, s10, s11, s12, s13⟩⟩ := CS.out _ hS; exact ⟨_, by go_simp, rfl⟩)) ?_
                    refine StepsOk.cons (stepOk_pure [(3, 140)] [] rfl rfl (by kernel_rfl) (by kernel_rfl) rfl Old.refl' (fun _ _ _ h => h) (fun d E w' hk hda hS hc hf => by rintro _ q3 rfl e140 ; exact ⟨_, by go_simp, rfl⟩)) ?_
                    refine StepsOk.cons (stepOk_pure [(4, 141)] [] rfl rfl (by kernel_rfl) (by kernel_rfl) rfl Old.refl' (fun _ _ _ h => h) (fun d E w' hk hda hS hc hf => by rintro _ q4 rfl e141 ; obtain ⟨⟨r0, r1, r2, r3⟩, ⟨s0, s1, s2, s3, s4, s5, s6, s7, s8, s9, s10, s11, s12, s13⟩⟩ := CS.out _ hS; exact ⟨_, by go_simp, rfl⟩)) ?_
                    refine StepsOk.cons (stepOk_mk [(0, 137), (5, 142)] [] rfl rfl (by kernel_rfl) (by kernel_rfl) rfl ?_) ?_
                    · rintro d a w' hk hda hS _ q0 rfl e137 _ q5 rfl e142 
                      first | refine Given.nil (Known.nil ?_) | refine Known.nil ?_
                      refine wp_call 30 _ Try.func30 (by kernel_rfl) (by kernel_rfl) _ _ (by rfl) [.agg #[.int .i64 R.code, .int .i64 R.ver, .string R.data, .slice Ar nR cr], .agg #[.int .i64 x.r.code, .int .i64 x.r.ver, .string x.r.data, .slice x.A vn x.cap]] (by simp only [List.map_cons, List.map_nil, *]; try rfl) (cS.out _ hS) ?_
                      rintro e w1 ⟨rfl, f4⟩
                      exact ⟨_, rfl, _, rfl, rfl, f4, hS.trans' f4⟩
                    refine StepsOk.cons (stepOk_pure [(6, 143)] [] rfl rfl (by kernel_rfl) (by kernel_rfl) rfl Old.refl' (fun _ _ _ h => h) (fun d E w' hk hda hS hc hf => by rintro _ q6 rfl e143 ; exact ⟨_, by go_simp, rfl⟩)) ?_
                    exact StepsOk.nil
                  case ends =>
                    intro σ9 w9 hS9 hA9
                    refine Ends.eqv (some 137) (.agg #[.int .i64 R.code, .int .i64 R.ver, .string R.data, .slice Ar nR cr]) rfl (fun _ h => h) ?_
                    refine Ends.eqv (some 138) (.slice (some ⟨b0, o, none⟩) n cap) rfl (fun _ h => h) ?_
                    refine Ends.eqv (some 139) (.int .i64 k) rfl (fun _ h => h) ?_
                    refine Ends.eqv (some 140) (.pointer (some ⟨b0, o + k * 14, none⟩)) rfl (fun _ h => h) ?_
                    refine Ends.eqv (some 141) (.pointer (some ⟨b0, o + k * 14 + 9, none⟩)) rfl (fun _ h => h) ?_
                    refine Ends.eqv (some 142) (.agg #[.int .i64 x.r.code, .int .i64 x.r.ver, .string x.r.data, .slice x.A vn x.cap]) rfl (fun _ h => h) ?_
                    refine Ends.eqv (some 143) (.bool true) rfl (fun _ h => h) ?_
                    refine Ends.eqv (some 144) (.bool false) rfl (fun _ h => h) ?_
                    refine Ends.nil ?_
                    have hA9' := hA9
                    clear hA9
                    simp only [put_lit, put_none, List.set_cons_zero, List.set_cons_succ]
                    go_wp2_with fail
                    go_roundw
                    case rel => exact ⟨k + 1, by omega, by go_num, nn + 1, by go_num, HNEXT.out w9 hS9, HVE.out.trans (Fr.of_old hS9)⟩
                    case measure => simp [intOf]; omega
    · obtain rfl : k = n := by omega
      have hfin : E = 0 := by
        rw [← HE.out, ← HL.out]
        exact checkR_good _ _ _ HGOOD.out.2
      subst hfin
      go_wp2_with fail
      go_ret
      exact ⟨rfl, hbel⟩
end Go.Proofs.Ytffahoocbjfdaaa
