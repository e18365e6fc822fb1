/- casebookref22.Same. -/
import Derived.Test.YtffahoocbjfdaaaHPd
import Derived.Test.YtffahoocbjfdaaaHSd
import Derived.Test.YtffahoocbjfdaaaHMk
namespace Go.Proofs.Ytffahoocbjfdaaa
open Go.RowKit
set_option maxHeartbeats 1000000 in
theorem RSame_any (r s : Rep) (A B : Option Addr) (n m ca cb : Nat) (w : World) (ha : IntsAt w A r.vs) (hb : IntsAt w B s.vs) (hl : n = r.vs.length) (hl' : m = s.vs.length) (hn : n ≤ 1000) (hm : m ≤ 1000) :
    Calls Try.prog 30 #[.agg #[.int .i64 r.code, .int .i64 r.ver, .string r.data, .slice A n ca], .agg #[.int .i64 s.code, .int .i64 s.ver, .string s.data, .slice B m cb]] w
      fun e w' => e = .returned (.bool (r.same s)) ∧ Old w w' := by
  obtain ⟨c1, v1, d1, l1⟩ := r
  obtain ⟨c2, v2, d2, l2⟩ := s
  have HL := hide hl
  have HL' := hide hl'
  clear hl hl'
  simp only [] at *
  by_cases e1 : c1 = c2
  · by_cases e2 : v1 = v2
    · by_cases e3 : d1 = d2
      · subst e1 e2 e3
        have hI := Ints_any A B n m l1 l2 ca cb (((w.alloc (.cells #[.int .i64 c1, .int .i64 v1, .string d1, .slice A n ca] 43)).alloc (.cells #[.int .i64 c1, .int .i64 v1, .string d1, .slice B m cb] 43))) ((ha.alloc _).alloc _) ((hb.alloc _).alloc _) HL.out HL'.out hn hm
        have HI := hide hI
        clear hI
        go_enter Try.func30, Try.ntmps30
        go_wp2_with (go_at_call 14; refine HI.out.mono ?_; rintro e w1 ⟨rfl, hb1⟩)
        go_ret
        exact ⟨retb (by simp [Rep.same]), (((Old.refl' w).alloc' _).alloc' _).trans' hb1⟩
      · have E1 : (d1.toList == d2.toList) = false := by simpa [bytes_eq] using e3
        subst e1 e2
        go_enter Try.func30, Try.ntmps30
        go_wp2
        go_ret
        exact ⟨retb (by simp [Rep.same, e3]), ((Old.refl' w).alloc' _).alloc' _⟩
    · have E1 : (v1 == v2) = false := by simpa using e2
      subst e1
      go_enter Try.func30, Try.ntmps30
      go_wp2
      go_ret
      exact ⟨retb (by simp [Rep.same, e2]), ((Old.refl' w).alloc' _).alloc' _⟩
  · have E1 : (c1 == c2) = false := by simpa using e1
    go_enter Try.func30, Try.ntmps30
    go_wp2
    go_ret
    exact ⟨retb (by simp [Rep.same, e1]), ((Old.refl' w).alloc' _).alloc' _⟩
set_option maxRecDepth 100000 in
set_option maxHeartbeats 4000000 in
theorem DaSame_any (a b : ActV) (n m : Nat) (w : World) (hl : n = a.r.vs.length) (hl' : m = b.r.vs.length) (ha : IntsAt w a.A a.r.vs) (hb : IntsAt w b.A b.r.vs) (hn : n ≤ 1000) (hm : m ≤ 1000) :
    Calls Try.prog 44 #[.agg #[.int .i64 a.client, .int .i64 a.seq, .bool a.ans, .int .i64 a.q.client, .int .i64 a.q.seq, .int .i64 a.q.kind, .int .i64 a.q.id, .int .i64 a.q.mat, .string a.q.data, .int .i64 a.r.code, .int .i64 a.r.ver, .string a.r.data, .slice a.A n a.cap, .int .i64 a.at_],
      .agg #[.int .i64 b.client, .int .i64 b.seq, .bool b.ans, .int .i64 b.q.client, .int .i64 b.q.seq, .int .i64 b.q.kind, .int .i64 b.q.id, .int .i64 b.q.mat, .string b.q.data, .int .i64 b.r.code, .int .i64 b.r.ver, .string b.r.data, .slice b.A m b.cap, .int .i64 b.at_]] w
      fun e w' => e = .returned (.bool (a.same b)) ∧ Old w w' := by
  obtain ⟨c1, s1, n1, ⟨q0, q1, q2, q3, q4, q5⟩, ⟨rc1, rv1, rd1, vs1⟩, A1, ca1, t1⟩ := a
  obtain ⟨c2, s2, n2, ⟨p0, p1, p2, p3, p4, p5⟩, ⟨rc2, rv2, rd2, vs2⟩, A2, ca2, t2⟩ := b
  obtain ⟨vn1, rfl⟩ : ∃ x, x = n := ⟨_, rfl⟩
  obtain ⟨vn2, rfl⟩ : ∃ x, x = m := ⟨_, rfl⟩
  simp only [] at *
  by_cases e1 : c1 = c2
  · subst e1
    by_cases e2 : s1 = s2
    · subst e2
      by_cases e3 : n1 = n2
      · subst e3
        by_cases e4 : (⟨q0, q1, q2, q3, q4, q5⟩ : ReqV) = ⟨p0, p1, p2, p3, p4, p5⟩
        · injection e4 with h0 h1 h2 h3 h4 h5
          subst h0 h1 h2 h3 h4 h5
          have hI := RSame_any ⟨rc1, rv1, rd1, vs1⟩ ⟨rc2, rv2, rd2, vs2⟩ A1 A2 vn1 vn2 ca1 ca2 ((w.alloc (.cells #[.int .i64 c1, .int .i64 s1, .bool n1, .int .i64 q0, .int .i64 q1, .int .i64 q2, .int .i64 q3, .int .i64 q4, .string q5, .int .i64 rc1, .int .i64 rv1, .string rd1, .slice A1 vn1 ca1, .int .i64 t1] 45)).alloc (.cells #[.int .i64 c1, .int .i64 s1, .bool n1, .int .i64 q0, .int .i64 q1, .int .i64 q2, .int .i64 q3, .int .i64 q4, .string q5, .int .i64 rc2, .int .i64 rv2, .string rd2, .slice A2 vn2 ca2, .int .i64 t2] 45)) ((ha.alloc _).alloc _) ((hb.alloc _).alloc _) hl hl' hn hm
          obtain ⟨bs, hbs⟩ : ∃ b, Rep.same ⟨rc1, rv1, rd1, vs1⟩ ⟨rc2, rv2, rd2, vs2⟩ = b := ⟨_, rfl⟩
          rw [hbs] at hI
          have HI := hide hI
          have kA := hide ((Bk.new w 45 #[.int .i64 c1, .int .i64 s1, .bool n1, .int .i64 q0, .int .i64 q1, .int .i64 q2, .int .i64 q3, .int .i64 q4, .string q5, .int .i64 rc1, .int .i64 rv1, .string rd1, .slice A1 vn1 ca1, .int .i64 t1]).alloc (.cells #[.int .i64 c1, .int .i64 s1, .bool n1, .int .i64 q0, .int .i64 q1, .int .i64 q2, .int .i64 q3, .int .i64 q4, .string q5, .int .i64 rc2, .int .i64 rv2, .string rd2, .slice A2 vn2 ca2, .int .i64 t2] 45))
          have kB := Bk.new (w.alloc (.cells #[.int .i64 c1, .int .i64 s1, .bool n1, .int .i64 q0, .int .i64 q1, .int .i64 q2, .int .i64 q3, .int .i64 q4, .string q5, .int .i64 rc1, .int .i64 rv1, .string rd1, .slice A1 vn1 ca1, .int .i64 t1] 45)) 45 #[.int .i64 c1, .int .i64 s1, .bool n1, .int .i64 q0, .int .i64 q1, .int .i64 q2, .int .i64 q3, .int .i64 q4, .string q5, .int .i64 rc2, .int .i64 rv2, .string rd2, .slice A2 vn2 ca2, .int .i64 t2]
          simp only [World.size_alloc] at kB
          have KB := hide kB
          clear kB
          have HBS := hide hbs
          clear hI ha hb hl hl' hbs
          cases bs
          · go_enter Try.func44, Try.ntmps44
            go_wp2_with (go_at_call 30; refine HI.out.mono ?_; rintro e w1 ⟨rfl, hb1⟩)
            go_ret
            exact ⟨retb (by simp [ActV.same, HBS.out]), (((Old.refl' w).alloc' _).alloc' _).trans' hb1⟩
          · by_cases e6 : t1 = t2
            · subst e6
              go_enter Try.func44, Try.ntmps44
              go_wp2_with (go_at_call 30; refine HI.out.mono ?_; rintro e w1 ⟨rfl, hb1⟩; have y1 : w1.cell? ⟨w.heap.size, 13, none⟩ = some (.int .i64 t1) := (kA.out.old hb1).cell 13; have y2 : w1.cell? ⟨w.heap.size + 1, 13, none⟩ = some (.int .i64 t1) := (KB.out.old hb1).cell 13)
              go_ret
              exact ⟨retb (by simp [ActV.same, HBS.out, (ReqV.eqb_iff (q := ⟨q0, q1, q2, q3, q4, q5⟩) (r := ⟨q0, q1, q2, q3, q4, q5⟩)).2 rfl]), (((Old.refl' w).alloc' _).alloc' _).trans' hb1⟩
            · have E : (t1 == t2) = false := by simpa using e6
              have E6 := hide e6
              clear e6
              go_enter Try.func44, Try.ntmps44
              go_wp2_with (go_at_call 30; refine HI.out.mono ?_; rintro e w1 ⟨rfl, hb1⟩; have y1 : w1.cell? ⟨w.heap.size, 13, none⟩ = some (.int .i64 t1) := (kA.out.old hb1).cell 13; have y2 : w1.cell? ⟨w.heap.size + 1, 13, none⟩ = some (.int .i64 t2) := (KB.out.old hb1).cell 13)
              go_ret
              exact ⟨retb (by simp [ActV.same, E6.out]), (((Old.refl' w).alloc' _).alloc' _).trans' hb1⟩
        · have e4' : ReqV.eqb ⟨q0, q1, q2, q3, q4, q5⟩ ⟨p0, p1, p2, p3, p4, p5⟩ = false := by
            rw [← Bool.not_eq_true, ReqV.eqb_iff]
            exact e4
          have E4 := hide e4'
          have e5 : ¬ (q0 = p0 ∧ q1 = p1 ∧ q2 = p2 ∧ q3 = p3 ∧ q4 = p4 ∧ q5 = p5) := fun ⟨h0, h1, h2, h3, h4, h5⟩ => e4 (by subst h0 h1 h2 h3 h4 h5; rfl)
          have E5 := hide e5
          clear e4 e4' e5 ha hb
          go_enter Try.func44, Try.ntmps44
          go_wp2
          all_goals first
            | (go_ret
               exact ⟨retb (by simp [ActV.same, E4.out]), ((Old.refl' w).alloc' _).alloc' _⟩)
            | (exfalso
               have h := E5.out
               simp_all [bytes_eq])
      · have E : (n1 == n2) = false := by simpa using e3
        go_enter Try.func44, Try.ntmps44
        go_wp2
        go_ret
        exact ⟨retb (by simp [ActV.same, e3]), ((Old.refl' w).alloc' _).alloc' _⟩
    · have E : (s1 == s2) = false := by simpa using e2
      go_enter Try.func44, Try.ntmps44
      go_wp2
      go_ret
      exact ⟨retb (by simp [ActV.same, e2]), ((Old.refl' w).alloc' _).alloc' _⟩
  · have E : (c1 == c2) = false := by simpa using e1
    go_enter Try.func44, Try.ntmps44
    go_wp2
    go_ret
    exact ⟨retb (by simp [ActV.same, e1]), ((Old.refl' w).alloc' _).alloc' _⟩
end Go.Proofs.Ytffahoocbjfdaaa

/- casebookref22.May. -/
namespace Go.Proofs.Ytffahoocbjfdaaa
open Go.RowKit
theorem same_comm (a b : ActV) : a.same b = b.same a := by
  have h : ∀ a b : ActV, a.same b = true → b.same a = true := fun a b h => by
    simp only [ActV.same, Bool.and_eq_true, decide_eq_true_eq, ReqV.eqb_iff, Rep.same_iff] at h ⊢
    obtain ⟨⟨⟨⟨⟨h1, h2⟩, h3⟩, h4⟩, h5⟩, h6⟩ := h
    exact ⟨⟨⟨⟨⟨h1.symm, h2.symm⟩, h3.symm⟩, h4.symm⟩, h5.symm⟩, h6.symm⟩
  cases hab : a.same b with
  | true => exact (h a b hab).symm
  | false =>
    cases hba : b.same a with
    | false => rfl
    | true => rw [h b a hba] at hab; cases hab
structure MayD (w w' : World) (p k : Nat) (st : PV) (L : List ActV) (x : ActV) (E : Int) : Prop where
  old : Old w w'
  r : (E ≠ 0 ∧ st.step x = none) ∨ (E = 0 ∧ ∃ s' F' y, (st.step x = if x.same y then some s' else none) ∧ PdAt w' p F' s' (L ++ [y]) ∧ (∀ b, F' b → w.heap.size ≤ b) ∧ y.r.vs.length ≤ 1000)
theorem MayD.ans {w wr w' : World} {p k vn : Nat} {st s' : PV} {L L2 : List ActV} {x : ActV} {E : Int} {F F2 : Nat → Prop} (hx : x.ans = true) (hE : st.ansE x.client x.seq x.at_ = E) (hs : st.ans x.client x.seq x.at_ = s') (hL : L.length = k) (hF : ∀ b, F b → w.heap.size ≤ b) (ho : Old w wr) (hvn : vn ≤ 1000) (hv : x.r.vs.length = vn)
    (g1 : PdAt w' p F2 s' L2) (g2 : ∀ b, F2 b → F b ∨ wr.heap.size ≤ b) (_g3 : E ≠ 0 → L2 = L) (g4 : E = 0 → ∃ q AV cV, st.wait x.client = some q ∧ L2 = L ++ [⟨x.client, x.seq, true, q, x.r, AV, cV, x.at_⟩] ∧ ∀ z, AV = some z → wr.heap.size ≤ z.block) (g5 : Fr F wr w') : MayD w w' p k st L x E := by
  refine ⟨ho.fr_new g5 hF, ?_⟩
  by_cases h0 : E = 0
  · subst h0
    obtain ⟨q, AV, cV, hw, rfl, -⟩ := g4 rfl
    refine .inr ⟨rfl, s', F2, _, ?_, g1, fun b hb => (g2 b hb).elim (hF b) (fun h => Nat.le_trans ho.size h), ?_⟩
    · rw [← hs]; exact step_ans hx hE hw
    · show x.r.vs.length ≤ 1000; omega
  · exact .inl ⟨h0, step_ansN hx (by rw [hE]; exact h0)⟩
theorem MayD.ask {w wr w' : World} {p k : Nat} {st s' : PV} {L : List ActV} {x : ActV} {E : Int} {F F2 : Nat → Prop} (hx : x.ans = false) (hE : st.askE x.q = E) (hs : st.ask x.q = s') (hL : L.length = k) (hF : ∀ b, F b → w.heap.size ≤ b) (ho : Old w wr)
    (g1 : PdAt w' p F2 s' (if E = 0 then L ++ [askAct x.q] else L)) (g2 : ∀ b, F2 b → F b ∨ wr.heap.size ≤ b) (g5 : Fr F wr w') : MayD w w' p k st L x E := by
  refine ⟨ho.fr_new g5 hF, ?_⟩
  by_cases h0 : E = 0
  · subst h0
    rw [if_pos rfl] at g1
    refine .inr ⟨rfl, s', F2, _, ?_, g1, fun b hb => (g2 b hb).elim (hF b) (fun h => Nat.le_trans ho.size h), Nat.zero_le _⟩
    rw [← hs]; exact step_ask hx hE
  · exact .inl ⟨h0, step_askN hx (by rw [hE]; exact h0)⟩
set_option maxRecDepth 100000 in
set_option maxHeartbeats 8000000 in
theorem DMay_any (A : Option Addr) (n cap : Nat) (l : List ActV) (hl : n = l.length) (hok : Few23 l) (b : Bool) (hb : mayP l = b) (w : World) (hA : ActsAt w A l) :
    Calls Try.prog 28 #[.slice A n cap] w fun e w' => e = .returned (.bool b) ∧ Old w w' := by
  have hn : n ≤ 1000 := by have := hok.n; omega
  have HL := hide hl
  have HOK := hide hok
  have HA := hide hA
  have HB := hide hb
  clear hl hok hA hb
  go_enter Try.func28, Try.ntmps28
  go_wp2_with fail
  obtain ⟨p, hp⟩ : ∃ p, w.heap.size = p := ⟨_, rfl⟩
  obtain ⟨W1, hW1⟩ : ∃ X, w.alloc (.cells #[.slice none 0 0, .int .i64 0, .int .i64 0, .int .i64 0, .int .i64 0, .int .i64 0, .int .i64 0, .int .i64 0, .int .i64 0, .int .i64 0, .string { data := #[] }, .int .i64 0, .int .i64 0, .int .i64 0, .int .i64 0, .int .i64 0, .string { data := #[] }, .int .i64 0, .int .i64 0, .int .i64 0, .int .i64 0, .int .i64 0, .string { data := #[] }, .int .i64 0, .int .i64 0, .int .i64 0, .int .i64 0, .int .i64 0, .string { data := #[] }] 52) = X := ⟨_, rfl⟩
  have hP : PdAt W1 p (fun k => k = p) PV.new [] := by rw [← hW1, ← hp]; exact Pd_new (Bk.new w 52 pdCells)
  have hb1 : Old w W1 := hW1 ▸ (Old.refl' w).alloc' _
  try rw [hW1]
  simp only [hp]
  have HPP := hide hp
  clear hp hW1
  go_loopw [4] (fun i wr => ∃ k : Nat, k ≤ n ∧ i = .int .i64 k ∧ ∃ F st L, PdAt wr p F st L ∧ L.length = k ∧ (∀ b, F b → w.heap.size ≤ b) ∧ Old w wr ∧ stepsP (l.take k) = some st) (fun i _ => n - (intOf i).toNat)
  case atStart => exact ⟨0, by omega, rfl, _, _, [], hP, rfl, fun b hb => by rw [hb, ← HPP.out]; exact Nat.le_refl _, hb1, rfl⟩
  case round =>
    obtain ⟨k, hk, rfl, F, st, L, hPA, hLL, hF, hbel, hst⟩ := hrel
    have HP := hide hPA
    have HF := hide hF
    have HLL := hide hLL
    have HST := hide hst
    clear hPA hF hLL hst hP hb1
    by_cases hlt : k < n
    · have hkq : k < l.length := by have := HL.out; omega
      obtain ⟨b0, o, rfl, hb0, hc⟩ := HA.out.at_ (k := k) hkq
      obtain ⟨x, hx⟩ : ∃ x, l[k]?.getD default = x := ⟨_, rfl⟩
      rw [hx] at hc
      have hxx : l[k] = x := by rw [List.getElem?_eq_getElem hkq] at hx; simpa using hx
      have hmem : x ∈ l := hxx ▸ List.getElem_mem hkq
      have hXV := CellsAt.old (HA.out.vs x hmem) hbel
      obtain ⟨vn, hvl⟩ : ∃ vn, x.r.vs.length = vn := ⟨_, rfl⟩
      have hvn : vn ≤ 1000 := by rw [← hvl]; exact HOK.out.vs x hmem
      have HX := hide hxx
      have HXV := hide (HA.out.vs x hmem)
      have HVN := hide hvl
      have CA := hide (fun (U : World) (h : Old w U) => (⟨(h.cell (p := ⟨b0, o + k * 14, none⟩) hb0).trans (hc 0 _ (by omega) (by first | rfl | (rw [← hvl]; rfl))), (h.cell (p := ⟨b0, o + k * 14 + 1, none⟩) hb0).trans (hc 1 _ (by omega) (by first | rfl | (rw [← hvl]; rfl))), (h.cell (p := ⟨b0, o + k * 14 + 2, none⟩) hb0).trans (hc 2 _ (by omega) (by first | rfl | (rw [← hvl]; rfl))), (h.cell (p := ⟨b0, o + k * 14 + 3, none⟩) hb0).trans (hc 3 _ (by omega) (by first | rfl | (rw [← hvl]; rfl))), (h.cell (p := ⟨b0, o + k * 14 + 4, none⟩) hb0).trans (hc 4 _ (by omega) (by first | rfl | (rw [← hvl]; rfl))), (h.cell (p := ⟨b0, o + k * 14 + 5, none⟩) hb0).trans (hc 5 _ (by omega) (by first | rfl | (rw [← hvl]; rfl))), (h.cell (p := ⟨b0, o + k * 14 + 6, none⟩) hb0).trans (hc 6 _ (by omega) (by first | rfl | (rw [← hvl]; rfl))), (h.cell (p := ⟨b0, o + k * 14 + 7, none⟩) hb0).trans (hc 7 _ (by omega) (by first | rfl | (rw [← hvl]; rfl))), (h.cell (p := ⟨b0, o + k * 14 + 8, none⟩) hb0).trans (hc 8 _ (by omega) (by first | rfl | (rw [← hvl]; rfl))), (h.cell (p := ⟨b0, o + k * 14 + 9, none⟩) hb0).trans (hc 9 _ (by omega) (by first | rfl | (rw [← hvl]; rfl))), (h.cell (p := ⟨b0, o + k * 14 + 10, none⟩) hb0).trans (hc 10 _ (by omega) (by first | rfl | (rw [← hvl]; rfl))), (h.cell (p := ⟨b0, o + k * 14 + 11, none⟩) hb0).trans (hc 11 _ (by omega) (by first | rfl | (rw [← hvl]; rfl))), (h.cell (p := ⟨b0, o + k * 14 + 12, none⟩) hb0).trans (hc 12 _ (by omega) (by first | rfl | (rw [← hvl]; rfl))), (h.cell (p := ⟨b0, o + k * 14 + 13, none⟩) hb0).trans (hc 13 _ (by omega) (by first | rfl | (rw [← hvl]; rfl)))⟩ : U.cell? ⟨b0, o + k * 14, none⟩ = some (.int .i64 x.client) ∧ U.cell? ⟨b0, o + k * 14 + 1, none⟩ = some (.int .i64 x.seq) ∧ U.cell? ⟨b0, o + k * 14 + 2, none⟩ = some (.bool x.ans) ∧ U.cell? ⟨b0, o + k * 14 + 3, none⟩ = some (.int .i64 x.q.client) ∧ U.cell? ⟨b0, o + k * 14 + 4, none⟩ = some (.int .i64 x.q.seq) ∧ U.cell? ⟨b0, o + k * 14 + 5, none⟩ = some (.int .i64 x.q.kind) ∧ U.cell? ⟨b0, o + k * 14 + 6, none⟩ = some (.int .i64 x.q.id) ∧ U.cell? ⟨b0, o + k * 14 + 7, none⟩ = some (.int .i64 x.q.mat) ∧ U.cell? ⟨b0, o + k * 14 + 8, none⟩ = some (.string x.q.data) ∧ U.cell? ⟨b0, o + k * 14 + 9, none⟩ = some (.int .i64 x.r.code) ∧ U.cell? ⟨b0, o + k * 14 + 10, none⟩ = some (.int .i64 x.r.ver) ∧ U.cell? ⟨b0, o + k * 14 + 11, none⟩ = some (.string x.r.data) ∧ U.cell? ⟨b0, o + k * 14 + 12, none⟩ = some (.slice x.A vn x.cap) ∧ U.cell? ⟨b0, o + k * 14 + 13, none⟩ = some (.int .i64 x.at_)))
      have CX := hide (fun (U : World) (h : Old wr U) => CA.out U (hbel.trans' h))
      obtain ⟨c0, c1, c2, c3, c4, c5, c6, c7, c8, c9, c10, c11, c12, c13⟩ := CX.out wr (Old.refl' _)
      clear hc hx hxx hmem hvl
      have hb01 : b0 < wr.heap.size := Nat.lt_of_lt_of_le hb0 hbel.size
      have hkI : (k : Int) < n := by omega
      go_upto_if 18 with fail
      go_cut [5, 18] from 19 to 47 (fun v d w' => (∃ E, v = .int .i64 E ∧ MayD w w' p k st L x E) ∧ d = .bool x.ans)
      case first =>
        cases hb : x.ans
        · rw [hb] at c2
          obtain ⟨E, hE⟩ : ∃ E, st.askE x.q = E := ⟨_, rfl⟩
          obtain ⟨s', hs'⟩ : ∃ s', st.ask x.q = s' := ⟨_, rfl⟩
          have cC := hide (((DAsk_at p F st L k HLL.out (by omega) x.q E hE s' hs' wr HP.out).mono (fun e w' ⟨e1, ⟨F2, g1, g2⟩, g3⟩ => ⟨e1, MayD.ask hb hE hs' HLL.out HF.out hbel g1 g2 g3⟩)) :
            Calls Try.prog 19 #[.pointer (some ⟨p, 0, none⟩), .agg #[.int .i64 x.q.client, .int .i64 x.q.seq, .int .i64 x.q.kind, .int .i64 x.q.id, .int .i64 x.q.mat, .string x.q.data]] wr fun e w' => e = .returned (.int .i64 E) ∧ MayD w w' p k st L x E)
          clear hE hs'
          go_wp2_with fail
          refine cC.out.mono ?_
          rintro e w2 ⟨rfl, hfin⟩
          go_wp2_with fail
          go_meet
          case rel => exact ⟨⟨E, rfl, hfin⟩, by rw [hb]⟩
        · rw [hb] at c2
          obtain ⟨E, hE⟩ : ∃ E, st.ansE x.client x.seq x.at_ = E := ⟨_, rfl⟩
          obtain ⟨s', hs'⟩ : ∃ s', st.ans x.client x.seq x.at_ = s' := ⟨_, rfl⟩
          have cC := hide (fun (U : World) (h : Old wr U) => ((DAns_at p F st L k HLL.out (by omega) x.client x.seq x.at_ x.r x.A vn x.cap HVN.out (by omega) E hE s' hs' U (HP.out.old h) (CellsAt.old hXV h)).mono (fun e w' ⟨e1, ⟨F2, L2, g1, g2, g3, g4⟩, g5⟩ => ⟨e1, MayD.ans hb hE hs' HLL.out HF.out (hbel.trans' h) hvn HVN.out g1 g2 g3 g4 g5⟩) :
            Calls Try.prog 20 #[.pointer (some ⟨p, 0, none⟩), .int .i64 x.client, .int .i64 x.seq, .agg #[.int .i64 x.r.code, .int .i64 x.r.ver, .string x.r.data, .slice x.A vn x.cap], .int .i64 x.at_] U fun e w' => e = .returned (.int .i64 E) ∧ MayD w w' p k st L x E))
          clear hE hs'
          go_upto_region 7 with fail
          clear c0 c1 c2 c3 c4 c5 c6 c7 c8 c9 c10 c11 c12 c13
          refine region_steps (R := pick [eqv (.pointer (some ⟨p, 0, none⟩)), eqv (.slice (some ⟨b0, o, none⟩) n cap), eqv (.int .i64 k), eqv (.pointer (some ⟨b0, o + k * 14, none⟩)), eqv (.pointer (some ⟨b0, o + k * 14, none⟩)), eqv (.int .i64 x.client), eqv (.slice (some ⟨b0, o, none⟩) n cap), eqv (.int .i64 k), eqv (.pointer (some ⟨b0, o + k * 14, none⟩)), eqv (.pointer (some ⟨b0, o + k * 14 + 1, none⟩)), eqv (.int .i64 x.seq), eqv (.slice (some ⟨b0, o, none⟩) n cap), eqv (.int .i64 k), eqv (.pointer (some ⟨b0, o + k * 14, none⟩)), eqv (.pointer (some ⟨b0, o + k * 14 + 9, none⟩)), eqv (.agg #[.int .i64 x.r.code, .int .i64 x.r.ver, .string x.r.data, .slice x.A vn x.cap]), eqv (.slice (some ⟨b0, o, none⟩) n cap), eqv (.int .i64 k), eqv (.pointer (some ⟨b0, o + k * 14, none⟩)), eqv (.pointer (some ⟨b0, o + k * 14 + 13, none⟩)), eqv (.int .i64 x.at_), eqv (.int .i64 E), eqv (.int .i64 E)]) (S := fun σ w' => (σ 21 = none → Old wr w') ∧ (σ 21 ≠ none → MayD w w' p k st L x E)) (T := (fun _ _ => True)) (by kernel_rfl) (by kernel_rfl) (by kernel_rfl) (Stab.pick (Stab.eqv (Stab.eqv (Stab.eqv (Stab.eqv (Stab.eqv (Stab.eqv (Stab.eqv (Stab.eqv (Stab.eqv (Stab.eqv (Stab.eqv (Stab.eqv (Stab.eqv (Stab.eqv (Stab.eqv (Stab.eqv (Stab.eqv (Stab.eqv (Stab.eqv (Stab.eqv (Stab.eqv (Stab.eqv (Stab.eqv (Stab.nil))))))))))))))))))))))))) (⟨fun _ => (Old.refl' wr).drew', fun h => absurd rfl h⟩) ?steps ?ends
          case steps =>
            refine StepsOk.cons (stepOk_pure [] [(3, .pointer (some ⟨p, 0, none⟩))] rfl rfl (by kernel_rfl) (by kernel_rfl) rfl (fun _ => trivial) (fun σ v w h => by simpa [upd] using h) (fun d E w' hk hda hS hc hf => by rintro  e3; exact ⟨_, by go_simp, rfl⟩)) ?_
            refine StepsOk.cons (stepOk_pure [] [(0, .slice (some ⟨b0, o, none⟩) n cap)] rfl rfl (by kernel_rfl) (by kernel_rfl) rfl (fun _ => trivial) (fun σ v w h => by simpa [upd] using h) (fun d E w' hk hda hS hc hf => by rintro  e0; exact ⟨_, by go_simp, rfl⟩)) ?_
            refine StepsOk.cons (stepOk_pure [] [(4, .int .i64 k)] rfl rfl (by kernel_rfl) (by kernel_rfl) rfl (fun _ => trivial) (fun σ v w h => by simpa [upd] using h) (fun d E w' hk hda hS hc hf => by rintro  e4; exact ⟨_, by go_simp, rfl⟩)) ?_
            refine StepsOk.cons (stepOk_pure [(1, 20), (2, 21)] [] rfl rfl (by kernel_rfl) (by kernel_rfl) rfl (fun _ => trivial) (fun σ v w h => by simpa [upd] using h) (fun d E w' hk hda hS hc hf => by rintro _ q1 rfl e20 _ q2 rfl e21 ; obtain ⟨s0, s1, s2, s3, s4, s5, s6, s7, s8, s9, s10, s11, s12, s13⟩ := CX.out w' (hS.1 (hk 21 (by kernel_rfl))); exact ⟨_, by go_simp, rfl⟩)) ?_
            refine StepsOk.cons (stepOk_pure [(3, 22)] [] rfl rfl (by kernel_rfl) (by kernel_rfl) rfl (fun _ => trivial) (fun σ v w h => by simpa [upd] using h) (fun d E w' hk hda hS hc hf => by rintro _ q3 rfl e22 ; exact ⟨_, by go_simp, rfl⟩)) ?_
            refine StepsOk.cons (stepOk_pure [(4, 23)] [] rfl rfl (by kernel_rfl) (by kernel_rfl) rfl (fun _ => trivial) (fun σ v w h => by simpa [upd] using h) (fun d E w' hk hda hS hc hf => by rintro _ q4 rfl e23 ; obtain ⟨s0, s1, s2, s3, s4, s5, s6, s7, s8, s9, s10, s11, s12, s13⟩ := CX.out w' (hS.1 (hk 21 (by kernel_rfl))); exact ⟨_, by go_simp, rfl⟩)) ?_
            refine StepsOk.cons (stepOk_pure [] [(0, .slice (some ⟨b0, o, none⟩) n cap)] rfl rfl (by kernel_rfl) (by kernel_rfl) rfl (fun _ => trivial) (fun σ v w h => by simpa [upd] using h) (fun d E w' hk hda hS hc hf => by rintro  e0; exact ⟨_, by go_simp, rfl⟩)) ?_
            refine StepsOk.cons (stepOk_pure [] [(4, .int .i64 k)] rfl rfl (by kernel_rfl) (by kernel_rfl) rfl (fun _ => trivial) (fun σ v w h => by simpa [upd] using h) (fun d E w' hk hda hS hc hf => by rintro  e4; exact ⟨_, by go_simp, rfl⟩)) ?_
            refine StepsOk.cons (stepOk_pure [(6, 25), (7, 26)] [] rfl rfl (by kernel_rfl) (by kernel_rfl) rfl (fun _ => trivial) (fun σ v w h => by simpa [upd] using h) (fun d E w' hk hda hS hc hf => by rintro _ q6 rfl e25 _ q7 rfl e26 ; obtain ⟨s0, s1, s2, s3, s4, s5, s6, s7, s8, s9, s10, s11, s12, s13⟩ := CX.out w' (hS.1 (hk 21 (by kernel_rfl))); exact ⟨_, by go_simp, rfl⟩)) ?_
            refine StepsOk.cons (stepOk_pure [(8, 27)] [] rfl rfl (by kernel_rfl) (by kernel_rfl) rfl (fun _ => trivial) (fun σ v w h => by simpa [upd] using h) (fun d E w' hk hda hS hc hf => by rintro _ q8 rfl e27 ; exact ⟨_, by go_simp, rfl⟩)) ?_
            refine StepsOk.cons (stepOk_pure [(9, 28)] [] rfl rfl (by kernel_rfl) (by kernel_rfl) rfl (fun _ => trivial) (fun σ v w h => by simpa [upd] using h) (fun d E w' hk hda hS hc hf => by rintro _ q9 rfl e28 ; obtain ⟨s0, s1, s2, s3, s4, s5, s6, s7, s8, s9, s10, s11, s12, s13⟩ := CX.out w' (hS.1 (hk 21 (by kernel_rfl))); exact ⟨_, by go_simp, rfl⟩)) ?_
            refine StepsOk.cons (stepOk_pure [] [(0, .slice (some ⟨b0, o, none⟩) n cap)] rfl rfl (by kernel_rfl) (by kernel_rfl) rfl (fun _ => trivial) (fun σ v w h => by simpa [upd] using h) (fun d E w' hk hda hS hc hf => by rintro  e0; exact ⟨_, by go_simp, rfl⟩)) ?_
            refine StepsOk.cons (stepOk_pure [] [(4, .int .i64 k)] rfl rfl (by kernel_rfl) (by kernel_rfl) rfl (fun _ => trivial) (fun σ v w h => by simpa [upd] using h) (fun d E w' hk hda hS hc hf => by rintro  e4; exact ⟨_, by go_simp, rfl⟩)) ?_
            refine StepsOk.cons (stepOk_pure [(11, 30), (12, 31)] [] rfl rfl (by kernel_rfl) (by kernel_rfl) rfl (fun _ => trivial) (fun σ v w h => by simpa [upd] using h) (fun d E w' hk hda hS hc hf => by rintro _ q11 rfl e30 _ q12 rfl e31 ; obtain ⟨s0, s1, s2, s3, s4, s5, s6, s7, s8, s9, s10, s11, s12, s13⟩ := CX.out w' (hS.1 (hk 21 (by kernel_rfl))); exact ⟨_, by go_simp, rfl⟩)) ?_
            refine StepsOk.cons (stepOk_pure [(13, 32)] [] rfl rfl (by kernel_rfl) (by kernel_rfl) rfl (fun _ => trivial) (fun σ v w h => by simpa [upd] using h) (fun d E w' hk hda hS hc hf => by rintro _ q13 rfl e32 ; exact ⟨_, by go_simp, rfl⟩)) ?_
            refine StepsOk.cons (stepOk_pure [(14, 33)] [] rfl rfl (by kernel_rfl) (by kernel_rfl) rfl (fun _ => trivial) (fun σ v w h => by simpa [upd] using h) (fun d E w' hk hda hS hc hf => by rintro _ q14 rfl e33 ; obtain ⟨s0, s1, s2, s3, s4, s5, s6, s7, s8, s9, s10, s11, s12, s13⟩ := CX.out w' (hS.1 (hk 21 (by kernel_rfl))); exact ⟨_, by go_simp, rfl⟩)) ?_
            refine StepsOk.cons (stepOk_pure [] [(0, .slice (some ⟨b0, o, none⟩) n cap)] rfl rfl (by kernel_rfl) (by kernel_rfl) rfl (fun _ => trivial) (fun σ v w h => by simpa [upd] using h) (fun d E w' hk hda hS hc hf => by rintro  e0; exact ⟨_, by go_simp, rfl⟩)) ?_
            refine StepsOk.cons (stepOk_pure [] [(4, .int .i64 k)] rfl rfl (by kernel_rfl) (by kernel_rfl) rfl (fun _ => trivial) (fun σ v w h => by simpa [upd] using h) (fun d E w' hk hda hS hc hf => by rintro  e4; exact ⟨_, by go_simp, rfl⟩)) ?_
            refine StepsOk.cons (stepOk_pure [(16, 35), (17, 36)] [] rfl rfl (by kernel_rfl) (by kernel_rfl) rfl (fun _ => trivial) (fun σ v w h => by simpa [upd] using h) (fun d E w' hk hda hS hc hf => by rintro _ q16 rfl e35 _ q17 rfl e36 ; obtain ⟨s0, s1, s2, s3, s4, s5, s6, s7, s8, s9, s10, s11, s12, s13⟩ := CX.out w' (hS.1 (hk 21 (by kernel_rfl))); exact ⟨_, by go_simp, rfl⟩)) ?_
            refine StepsOk.cons (stepOk_pure [(18, 37)] [] rfl rfl (by kernel_rfl) (by kernel_rfl) rfl (fun _ => trivial) (fun σ v w h => by simpa [upd] using h) (fun d E w' hk hda hS hc hf => by rintro _ q18 rfl e37 ; exact ⟨_, by go_simp, rfl⟩)) ?_
            refine StepsOk.cons (stepOk_pure [(19, 38)] [] rfl rfl (by kernel_rfl) (by kernel_rfl) rfl (fun _ => trivial) (fun σ v w h => by simpa [upd] using h) (fun d E w' hk hda hS hc hf => by rintro _ q19 rfl e38 ; obtain ⟨s0, s1, s2, s3, s4, s5, s6, s7, s8, s9, s10, s11, s12, s13⟩ := CX.out w' (hS.1 (hk 21 (by kernel_rfl))); exact ⟨_, by go_simp, rfl⟩)) ?_
            refine StepsOk.cons (stepOk_mk [(0, 19), (5, 24), (10, 29), (15, 34), (20, 39)] [] rfl rfl (by kernel_rfl) (by kernel_rfl) rfl ?_) ?_
            · rintro d a w' hk hda hS _ q0 rfl e19 _ q5 rfl e24 _ q10 rfl e29 _ q15 rfl e34 _ q20 rfl e39 
              first | refine Given.nil (Known.nil ?_) | refine Known.nil ?_
              refine wp_call 20 _ Try.func20 (by kernel_rfl) (by kernel_rfl) _ _ (by rfl) [.pointer (some ⟨p, 0, none⟩), .int .i64 x.client, .int .i64 x.seq, .agg #[.int .i64 x.r.code, .int .i64 x.r.ver, .string x.r.data, .slice x.A vn x.cap], .int .i64 x.at_] (by simp only [List.map_cons, List.map_nil, *]; try rfl) (cC.out _ (hS.1 (hk 21 (by kernel_rfl)))) ?_
              rintro e w1 ⟨rfl, hP⟩
              exact ⟨_, rfl, _, rfl, rfl, trivial, ⟨fun h => by simp [upd] at h, fun _ => hP⟩⟩
            refine StepsOk.cons (stepOk_pure [(21, 40)] [] rfl rfl (by kernel_rfl) (by kernel_rfl) rfl (fun _ => trivial) (fun σ v w h => by simpa [upd] using h) (fun d E w' hk hda hS hc hf => by rintro _ q21 rfl e40 ; exact ⟨_, by go_simp, rfl⟩)) ?_
            exact StepsOk.nil
          case ends =>
            intro σ9 w9 hS9 hA9
            refine Ends.eqv (some 19) (.pointer (some ⟨p, 0, none⟩)) rfl (fun _ h => h) ?_
            refine Ends.eqv (some 20) (.slice (some ⟨b0, o, none⟩) n cap) rfl (fun _ h => h) ?_
            refine Ends.eqv (some 21) (.int .i64 k) rfl (fun _ h => h) ?_
            refine Ends.eqv (some 22) (.pointer (some ⟨b0, o + k * 14, none⟩)) rfl (fun _ h => h) ?_
            refine Ends.eqv (some 23) (.pointer (some ⟨b0, o + k * 14, none⟩)) rfl (fun _ h => h) ?_
            refine Ends.eqv (some 24) (.int .i64 x.client) rfl (fun _ h => h) ?_
            refine Ends.eqv (some 25) (.slice (some ⟨b0, o, none⟩) n cap) rfl (fun _ h => h) ?_
            refine Ends.eqv (some 26) (.int .i64 k) rfl (fun _ h => h) ?_
            refine Ends.eqv (some 27) (.pointer (some ⟨b0, o + k * 14, none⟩)) rfl (fun _ h => h) ?_
            refine Ends.eqv (some 28) (.pointer (some ⟨b0, o + k * 14 + 1, none⟩)) rfl (fun _ h => h) ?_
            refine Ends.eqv (some 29) (.int .i64 x.seq) rfl (fun _ h => h) ?_
            refine Ends.eqv (some 30) (.slice (some ⟨b0, o, none⟩) n cap) rfl (fun _ h => h) ?_
            refine Ends.eqv (some 31) (.int .i64 k) rfl (fun _ h => h) ?_
            refine Ends.eqv (some 32) (.pointer (some ⟨b0, o + k * 14, none⟩)) rfl (fun _ h => h) ?_
            refine Ends.eqv (some 33) (.pointer (some ⟨b0, o + k * 14 + 9, none⟩)) rfl (fun _ h => h) ?_
            refine Ends.eqv (some 34) (.agg #[.int .i64 x.r.code, .int .i64 x.r.ver, .string x.r.data, .slice x.A vn x.cap]) rfl (fun _ h => h) ?_
            refine Ends.eqv (some 35) (.slice (some ⟨b0, o, none⟩) n cap) rfl (fun _ h => h) ?_
            refine Ends.eqv (some 36) (.int .i64 k) rfl (fun _ h => h) ?_
            refine Ends.eqv (some 37) (.pointer (some ⟨b0, o + k * 14, none⟩)) rfl (fun _ h => h) ?_
            refine Ends.eqv (some 38) (.pointer (some ⟨b0, o + k * 14 + 13, none⟩)) rfl (fun _ h => h) ?_
            refine Ends.eqv (some 39) (.int .i64 x.at_) rfl (fun _ h => h) ?_
            refine Ends.eqv (some 40) (.int .i64 E) rfl (fun _ h => h) ?_
            refine Ends.eqv (some 5) (.int .i64 E) rfl (fun _ h => h) ?_
            refine Ends.nil ?_
            have hA9' := hA9
            clear hA9
            simp only [put_lit, put_none, List.set_cons_zero, List.set_cons_succ]
            have hfin := hS9.2 (by have := hA9' 21 (by simp); intro e; rw [e] at this; simp at this)
            clear hS9 hA9'
            go_wp2_with fail
            go_meet
            case rel => exact ⟨⟨E, rfl, hfin⟩, by rw [hb]⟩
      case rest =>
        obtain ⟨WD, rfl⟩ : ∃ W, W = wc := ⟨_, rfl⟩
        obtain ⟨⟨E, rfl, hold, hr⟩, rfl⟩ := hcut
        clear c0 c1 c2 c3 c4 c5 c6 c7 c8 c9 c10 c11 c12 c13 hXV CX
        have stop : st.step x = none → b = false := fun h => by rw [← HB.out]; exact mayP_none hkq HST.out (HX.out ▸ h)
        have STOP := hide stop
        clear stop
        rcases hr with ⟨hE, hn'⟩ | ⟨rfl, s', F', y, hsp, hP2, hF2, hyn⟩
        · have hE1 : (E != 0) = true := by simpa using hE
          have hBF := STOP.out hn'
          subst hBF
          have HOLD := hide hold
          clear hn'
          go_wp2_with fail
          go_quiet (fail)
          go_wp2_with fail
          go_ret
          exact ⟨rfl, HOLD.out.drewN' _⟩
        · obtain ⟨L', hL'⟩ : ∃ z, L ++ [y] = z := ⟨_, rfl⟩
          rw [hL'] at hP2
          have hLL2 : L'.length = k + 1 := by rw [← hL', List.length_append, HLL.out]; rfl
          obtain ⟨Ap, cl, hl0, -, hAp⟩ := hP2.acts
          rw [hLL2] at hl0
          obtain ⟨bl, ol, rfl, hlb, hlc⟩ := hAp.at_ (k := k) (by omega)
          have hyk : L'[k]?.getD default = y := by rw [← hL', ← HLL.out, List.getElem?_concat_length]; rfl
          rw [hyk] at hlc
          have hIV : IntsAt WD y.A y.r.vs := hAp.vs y (by rw [← hL']; simp)
          obtain ⟨ym, hym⟩ : ∃ ym, y.r.vs.length = ym := ⟨_, rfl⟩
          have HYM := hide hym
          have HLL := hide hLL2
          have hp0 : p < WD.heap.size := hP2.lt _ hP2.gF
          have CS := hide (fun (U : World) (h : Old WD U) => (⟨(h.cell (p := ⟨p, 0, none⟩) hp0).trans hl0, ⟨(h.cell (p := ⟨bl, ol + k * 14, none⟩) hlb).trans (hlc 0 _ (by omega) (by first | rfl | (rw [← hym]; rfl))), (h.cell (p := ⟨bl, ol + k * 14 + 1, none⟩) hlb).trans (hlc 1 _ (by omega) (by first | rfl | (rw [← hym]; rfl))), (h.cell (p := ⟨bl, ol + k * 14 + 2, none⟩) hlb).trans (hlc 2 _ (by omega) (by first | rfl | (rw [← hym]; rfl))), (h.cell (p := ⟨bl, ol + k * 14 + 3, none⟩) hlb).trans (hlc 3 _ (by omega) (by first | rfl | (rw [← hym]; rfl))), (h.cell (p := ⟨bl, ol + k * 14 + 4, none⟩) hlb).trans (hlc 4 _ (by omega) (by first | rfl | (rw [← hym]; rfl))), (h.cell (p := ⟨bl, ol + k * 14 + 5, none⟩) hlb).trans (hlc 5 _ (by omega) (by first | rfl | (rw [← hym]; rfl))), (h.cell (p := ⟨bl, ol + k * 14 + 6, none⟩) hlb).trans (hlc 6 _ (by omega) (by first | rfl | (rw [← hym]; rfl))), (h.cell (p := ⟨bl, ol + k * 14 + 7, none⟩) hlb).trans (hlc 7 _ (by omega) (by first | rfl | (rw [← hym]; rfl))), (h.cell (p := ⟨bl, ol + k * 14 + 8, none⟩) hlb).trans (hlc 8 _ (by omega) (by first | rfl | (rw [← hym]; rfl))), (h.cell (p := ⟨bl, ol + k * 14 + 9, none⟩) hlb).trans (hlc 9 _ (by omega) (by first | rfl | (rw [← hym]; rfl))), (h.cell (p := ⟨bl, ol + k * 14 + 10, none⟩) hlb).trans (hlc 10 _ (by omega) (by first | rfl | (rw [← hym]; rfl))), (h.cell (p := ⟨bl, ol + k * 14 + 11, none⟩) hlb).trans (hlc 11 _ (by omega) (by first | rfl | (rw [← hym]; rfl))), (h.cell (p := ⟨bl, ol + k * 14 + 12, none⟩) hlb).trans (hlc 12 _ (by omega) (by first | rfl | (rw [← hym]; rfl))), (h.cell (p := ⟨bl, ol + k * 14 + 13, none⟩) hlb).trans (hlc 13 _ (by omega) (by first | rfl | (rw [← hym]; rfl)))⟩, CA.out U (hold.trans' h)⟩ :
            U.cell? ⟨p, 0, none⟩ = some (.slice (some ⟨bl, ol, none⟩) (k + 1) cl) ∧ (U.cell? ⟨bl, ol + k * 14, none⟩ = some (.int .i64 y.client) ∧ U.cell? ⟨bl, ol + k * 14 + 1, none⟩ = some (.int .i64 y.seq) ∧ U.cell? ⟨bl, ol + k * 14 + 2, none⟩ = some (.bool y.ans) ∧ U.cell? ⟨bl, ol + k * 14 + 3, none⟩ = some (.int .i64 y.q.client) ∧ U.cell? ⟨bl, ol + k * 14 + 4, none⟩ = some (.int .i64 y.q.seq) ∧ U.cell? ⟨bl, ol + k * 14 + 5, none⟩ = some (.int .i64 y.q.kind) ∧ U.cell? ⟨bl, ol + k * 14 + 6, none⟩ = some (.int .i64 y.q.id) ∧ U.cell? ⟨bl, ol + k * 14 + 7, none⟩ = some (.int .i64 y.q.mat) ∧ U.cell? ⟨bl, ol + k * 14 + 8, none⟩ = some (.string y.q.data) ∧ U.cell? ⟨bl, ol + k * 14 + 9, none⟩ = some (.int .i64 y.r.code) ∧ U.cell? ⟨bl, ol + k * 14 + 10, none⟩ = some (.int .i64 y.r.ver) ∧ U.cell? ⟨bl, ol + k * 14 + 11, none⟩ = some (.string y.r.data) ∧ U.cell? ⟨bl, ol + k * 14 + 12, none⟩ = some (.slice y.A ym y.cap) ∧ U.cell? ⟨bl, ol + k * 14 + 13, none⟩ = some (.int .i64 y.at_)) ∧ (U.cell? ⟨b0, o + k * 14, none⟩ = some (.int .i64 x.client) ∧ U.cell? ⟨b0, o + k * 14 + 1, none⟩ = some (.int .i64 x.seq) ∧ U.cell? ⟨b0, o + k * 14 + 2, none⟩ = some (.bool x.ans) ∧ U.cell? ⟨b0, o + k * 14 + 3, none⟩ = some (.int .i64 x.q.client) ∧ U.cell? ⟨b0, o + k * 14 + 4, none⟩ = some (.int .i64 x.q.seq) ∧ U.cell? ⟨b0, o + k * 14 + 5, none⟩ = some (.int .i64 x.q.kind) ∧ U.cell? ⟨b0, o + k * 14 + 6, none⟩ = some (.int .i64 x.q.id) ∧ U.cell? ⟨b0, o + k * 14 + 7, none⟩ = some (.int .i64 x.q.mat) ∧ U.cell? ⟨b0, o + k * 14 + 8, none⟩ = some (.string x.q.data) ∧ U.cell? ⟨b0, o + k * 14 + 9, none⟩ = some (.int .i64 x.r.code) ∧ U.cell? ⟨b0, o + k * 14 + 10, none⟩ = some (.int .i64 x.r.ver) ∧ U.cell? ⟨b0, o + k * 14 + 11, none⟩ = some (.string x.r.data) ∧ U.cell? ⟨b0, o + k * 14 + 12, none⟩ = some (.slice x.A vn x.cap) ∧ U.cell? ⟨b0, o + k * 14 + 13, none⟩ = some (.int .i64 x.at_))))
          have CS := hide (fun (U : World) (h : Old WD U) => (by obtain ⟨p0, ⟨l0, l1, l2, l3, l4, l5, l6, l7, l8, l9, l10, l11, l12, l13⟩, ⟨s0, s1, s2, s3, s4, s5, s6, s7, s8, s9, s10, s11, s12, s13⟩⟩ := CS.out U h; exact ⟨p0, ⟨s0, s1, s2, s3, s4, s5, s6, s7, s8, s9, s10, s11, s12, s13⟩, ⟨l0, l1, l2, l3, l4, l5, l6, l7, l8, l9, l10, l11, l12, l13⟩⟩ :
            U.cell? ⟨p, 0, none⟩ = some (.slice (some ⟨bl, ol, none⟩) (k + 1) cl) ∧ (U.cell? ⟨b0, o + k * 14, none⟩ = some (.int .i64 x.client) ∧ U.cell? ⟨b0, o + k * 14 + 1, none⟩ = some (.int .i64 x.seq) ∧ U.cell? ⟨b0, o + k * 14 + 2, none⟩ = some (.bool x.ans) ∧ U.cell? ⟨b0, o + k * 14 + 3, none⟩ = some (.int .i64 x.q.client) ∧ U.cell? ⟨b0, o + k * 14 + 4, none⟩ = some (.int .i64 x.q.seq) ∧ U.cell? ⟨b0, o + k * 14 + 5, none⟩ = some (.int .i64 x.q.kind) ∧ U.cell? ⟨b0, o + k * 14 + 6, none⟩ = some (.int .i64 x.q.id) ∧ U.cell? ⟨b0, o + k * 14 + 7, none⟩ = some (.int .i64 x.q.mat) ∧ U.cell? ⟨b0, o + k * 14 + 8, none⟩ = some (.string x.q.data) ∧ U.cell? ⟨b0, o + k * 14 + 9, none⟩ = some (.int .i64 x.r.code) ∧ U.cell? ⟨b0, o + k * 14 + 10, none⟩ = some (.int .i64 x.r.ver) ∧ U.cell? ⟨b0, o + k * 14 + 11, none⟩ = some (.string x.r.data) ∧ U.cell? ⟨b0, o + k * 14 + 12, none⟩ = some (.slice x.A vn x.cap) ∧ U.cell? ⟨b0, o + k * 14 + 13, none⟩ = some (.int .i64 x.at_)) ∧ (U.cell? ⟨bl, ol + k * 14, none⟩ = some (.int .i64 y.client) ∧ U.cell? ⟨bl, ol + k * 14 + 1, none⟩ = some (.int .i64 y.seq) ∧ U.cell? ⟨bl, ol + k * 14 + 2, none⟩ = some (.bool y.ans) ∧ U.cell? ⟨bl, ol + k * 14 + 3, none⟩ = some (.int .i64 y.q.client) ∧ U.cell? ⟨bl, ol + k * 14 + 4, none⟩ = some (.int .i64 y.q.seq) ∧ U.cell? ⟨bl, ol + k * 14 + 5, none⟩ = some (.int .i64 y.q.kind) ∧ U.cell? ⟨bl, ol + k * 14 + 6, none⟩ = some (.int .i64 y.q.id) ∧ U.cell? ⟨bl, ol + k * 14 + 7, none⟩ = some (.int .i64 y.q.mat) ∧ U.cell? ⟨bl, ol + k * 14 + 8, none⟩ = some (.string y.q.data) ∧ U.cell? ⟨bl, ol + k * 14 + 9, none⟩ = some (.int .i64 y.r.code) ∧ U.cell? ⟨bl, ol + k * 14 + 10, none⟩ = some (.int .i64 y.r.ver) ∧ U.cell? ⟨bl, ol + k * 14 + 11, none⟩ = some (.string y.r.data) ∧ U.cell? ⟨bl, ol + k * 14 + 12, none⟩ = some (.slice y.A ym y.cap) ∧ U.cell? ⟨bl, ol + k * 14 + 13, none⟩ = some (.int .i64 y.at_))))
          have cS := hide (fun (U : World) (h : Old WD U) => DaSame_any y x ym vn U HYM.out.symm HVN.out.symm (CellsAt.old hIV h) (CellsAt.old HXV.out (hold.trans' h)) (by omega) hvn)
          have HSP := hide hsp
          have HP2 := hide hP2
          have HF2 := hide hF2
          have HOLD := hide hold
          clear hsp hP2 hF2 hold hIV hlc hl0 hym hAp hyk hL'
          have hkk : ¬ ((k : Int) + 1 ≤ (k : Int)) := by omega
          cases hB : x.same y
          · rw [same_comm y x, hB] at cS
            have hBF := STOP.out (by rw [HSP.out, hB]; rfl)
            subst hBF
            go_upto_region 9 with fail
            refine region_steps (R := pick [eqv (.int .i64 0), eqv (.bool false), eqv (.bool false), eqv (.pointer (some ⟨p, 0, none⟩)), eqv (.pointer (some ⟨p, 0, none⟩)), eqv (.pointer (some ⟨p, 0, none⟩)), eqv (.slice (some ⟨bl, ol, none⟩) (k + 1) cl), eqv (.int .i64 k), eqv (.pointer (some ⟨bl, ol + k * 14, none⟩)), eqv (.agg #[.int .i64 y.client, .int .i64 y.seq, .bool y.ans, .int .i64 y.q.client, .int .i64 y.q.seq, .int .i64 y.q.kind, .int .i64 y.q.id, .int .i64 y.q.mat, .string y.q.data, .int .i64 y.r.code, .int .i64 y.r.ver, .string y.r.data, .slice y.A ym y.cap, .int .i64 y.at_]), eqv (.slice (some ⟨b0, o, none⟩) n cap), eqv (.int .i64 k), eqv (.pointer (some ⟨b0, o + k * 14, none⟩)), eqv (.agg #[.int .i64 x.client, .int .i64 x.seq, .bool x.ans, .int .i64 x.q.client, .int .i64 x.q.seq, .int .i64 x.q.kind, .int .i64 x.q.id, .int .i64 x.q.mat, .string x.q.data, .int .i64 x.r.code, .int .i64 x.r.ver, .string x.r.data, .slice x.A vn x.cap, .int .i64 x.at_]), eqv (.bool false), eqv (.bool true), eqv (.bool true)]) (S := fun _ w' => Old WD w') (T := Old) (by kernel_rfl) (by kernel_rfl) (by kernel_rfl) (Stab.pick (Stab.eqv (Stab.eqv (Stab.eqv (Stab.eqv (Stab.eqv (Stab.eqv (Stab.eqv (Stab.eqv (Stab.eqv (Stab.eqv (Stab.eqv (Stab.eqv (Stab.eqv (Stab.eqv (Stab.eqv (Stab.eqv (Stab.eqv (Stab.nil))))))))))))))))))) ((Old.refl' WD).drew') ?steps ?ends
            case steps =>
              refine StepsOk.cons (stepOk_pure [] [(5, .int .i64 0)] rfl rfl (by kernel_rfl) (by kernel_rfl) rfl Old.refl' (fun _ _ _ h => h) (fun d E w' hk hda hS hc hf => by rintro  e5; exact ⟨_, by go_simp, rfl⟩)) ?_
              refine StepsOk.cons (stepOk_pure [(0, 48)] [] rfl rfl (by kernel_rfl) (by kernel_rfl) rfl Old.refl' (fun _ _ _ h => h) (fun d E w' hk hda hS hc hf => by rintro _ q0 rfl e48 ; exact ⟨_, by go_simp, rfl⟩)) ?_
              refine StepsOk.cons (stepOk_pure [(1, 49)] [] rfl rfl (by kernel_rfl) (by kernel_rfl) rfl Old.refl' (fun _ _ _ h => h) (fun d E w' hk hda hS hc hf => by rintro _ q1 rfl e49 ; exact ⟨_, by go_simp, rfl⟩)) ?_
              refine StepsOk.cons (stepOk_pureG 2 50 false rfl rfl (by kernel_rfl) (fun _ _ h => h) [] [(3, .pointer (some ⟨p, 0, none⟩))] (by kernel_rfl) (by kernel_rfl) rfl Old.refl' (fun _ _ _ h => h) (fun d E w' hk hda hS hc hf => by rintro  e3; exact ⟨_, by go_simp, rfl⟩)) ?_
              refine StepsOk.cons (stepOk_pureG 2 50 false rfl rfl (by kernel_rfl) (fun _ _ h => h) [(3, 51)] [] (by kernel_rfl) (by kernel_rfl) rfl Old.refl' (fun _ _ _ h => h) (fun d E w' hk hda hS hc hf => by rintro _ q3 rfl e51 ; exact ⟨_, by go_simp, rfl⟩)) ?_
              refine StepsOk.cons (stepOk_pureG 2 50 false rfl rfl (by kernel_rfl) (fun _ _ h => h) [(4, 52)] [] (by kernel_rfl) (by kernel_rfl) rfl Old.refl' (fun _ _ _ h => h) (fun d E w' hk hda hS hc hf => by rintro _ q4 rfl e52 ; exact ⟨_, by go_simp, rfl⟩)) ?_
              refine StepsOk.cons (stepOk_pureG 2 50 false rfl rfl (by kernel_rfl) (fun _ _ h => h) [(5, 53)] [] (by kernel_rfl) (by kernel_rfl) rfl Old.refl' (fun _ _ _ h => h) (fun d E w' hk hda hS hc hf => by rintro _ q5 rfl e53 ; obtain ⟨p0, ⟨s0, s1, s2, s3, s4, s5, s6, s7, s8, s9, s10, s11, s12, s13⟩, ⟨l0, l1, l2, l3, l4, l5, l6, l7, l8, l9, l10, l11, l12, l13⟩⟩ := CS.out _ hS; exact ⟨_, by go_simp, rfl⟩)) ?_
              refine StepsOk.cons (stepOk_pureG 2 50 false rfl rfl (by kernel_rfl) (fun _ _ h => h) [] [(4, .int .i64 k)] (by kernel_rfl) (by kernel_rfl) rfl Old.refl' (fun _ _ _ h => h) (fun d E w' hk hda hS hc hf => by rintro  e4; exact ⟨_, by go_simp, rfl⟩)) ?_
              refine StepsOk.cons (stepOk_pureG 2 50 false rfl rfl (by kernel_rfl) (fun _ _ h => h) [(6, 54), (7, 55)] [] (by kernel_rfl) (by kernel_rfl) rfl Old.refl' (fun _ _ _ h => h) (fun d E w' hk hda hS hc hf => by rintro _ q6 rfl e54 _ q7 rfl e55 ; obtain ⟨p0, ⟨s0, s1, s2, s3, s4, s5, s6, s7, s8, s9, s10, s11, s12, s13⟩, ⟨l0, l1, l2, l3, l4, l5, l6, l7, l8, l9, l10, l11, l12, l13⟩⟩ := CS.out _ hS; exact ⟨_, by go_simp, rfl⟩)) ?_
              refine StepsOk.cons (stepOk_pureG 2 50 false rfl rfl (by kernel_rfl) (fun _ _ h => h) [(8, 56)] [] (by kernel_rfl) (by kernel_rfl) rfl Old.refl' (fun _ _ _ h => h) (fun d E w' hk hda hS hc hf => by rintro _ q8 rfl e56 ; obtain ⟨p0, ⟨s0, s1, s2, s3, s4, s5, s6, s7, s8, s9, s10, s11, s12, s13⟩, ⟨l0, l1, l2, l3, l4, l5, l6, l7, l8, l9, l10, l11, l12, l13⟩⟩ := CS.out _ hS; exact ⟨_, by go_simp, rfl⟩)) ?_
              refine StepsOk.cons (stepOk_pureG 2 50 false rfl rfl (by kernel_rfl) (fun _ _ h => h) [] [(0, .slice (some ⟨b0, o, none⟩) n cap)] (by kernel_rfl) (by kernel_rfl) rfl Old.refl' (fun _ _ _ h => h) (fun d E w' hk hda hS hc hf => by rintro  e0; exact ⟨_, by go_simp, rfl⟩)) ?_
              refine StepsOk.cons (stepOk_pureG 2 50 false rfl rfl (by kernel_rfl) (fun _ _ h => h) [] [(4, .int .i64 k)] (by kernel_rfl) (by kernel_rfl) rfl Old.refl' (fun _ _ _ h => h) (fun d E w' hk hda hS hc hf => by rintro  e4; exact ⟨_, by go_simp, rfl⟩)) ?_
              refine StepsOk.cons (stepOk_pureG 2 50 false rfl rfl (by kernel_rfl) (fun _ _ h => h) [(10, 58), (11, 59)] [] (by kernel_rfl) (by kernel_rfl) rfl Old.refl' (fun _ _ _ h => h) (fun d E w' hk hda hS hc hf => by rintro _ q10 rfl e58 _ q11 rfl e59 ; obtain ⟨p0, ⟨s0, s1, s2, s3, s4, s5, s6, s7, s8, s9, s10, s11, s12, s13⟩, ⟨l0, l1, l2, l3, l4, l5, l6, l7, l8, l9, l10, l11, l12, l13⟩⟩ := CS.out _ hS; exact ⟨_, by go_simp, rfl⟩)) ?_
              refine StepsOk.cons (stepOk_pureG 2 50 false rfl rfl (by kernel_rfl) (fun _ _ h => h) [(12, 60)] [] (by kernel_rfl) (by kernel_rfl) rfl Old.refl' (fun _ _ _ h => h) (fun d E w' hk hda hS hc hf => by rintro _ q12 rfl e60 ; obtain ⟨p0, ⟨s0, s1, s2, s3, s4, s5, s6, s7, s8, s9, s10, s11, s12, s13⟩, ⟨l0, l1, l2, l3, l4, l5, l6, l7, l8, l9, l10, l11, l12, l13⟩⟩ := CS.out _ hS; exact ⟨_, by go_simp, rfl⟩)) ?_
              refine StepsOk.cons (stepOk_guard 2 50 false rfl rfl (by kernel_rfl) (fun _ _ h => h) [(9, 57), (13, 61)] [] (by kernel_rfl) (by kernel_rfl) rfl ?_) ?_
              · rintro d a w' hk hda hS _ q9 rfl e57 _ q13 rfl e61 
                first | refine Given.nil (Known.nil ?_) | refine Known.nil ?_
                refine wp_call 44 _ Try.func44 (by kernel_rfl) (by kernel_rfl) _ _ (by rfl) [.agg #[.int .i64 y.client, .int .i64 y.seq, .bool y.ans, .int .i64 y.q.client, .int .i64 y.q.seq, .int .i64 y.q.kind, .int .i64 y.q.id, .int .i64 y.q.mat, .string y.q.data, .int .i64 y.r.code, .int .i64 y.r.ver, .string y.r.data, .slice y.A ym y.cap, .int .i64 y.at_], .agg #[.int .i64 x.client, .int .i64 x.seq, .bool x.ans, .int .i64 x.q.client, .int .i64 x.q.seq, .int .i64 x.q.kind, .int .i64 x.q.id, .int .i64 x.q.mat, .string x.q.data, .int .i64 x.r.code, .int .i64 x.r.ver, .string x.r.data, .slice x.A vn x.cap, .int .i64 x.at_]] (by simp only [List.map_cons, List.map_nil, *]; try rfl) (cS.out _ hS) ?_
                rintro e w1 ⟨rfl, f4⟩
                exact ⟨_, rfl, _, rfl, rfl, f4, hS.trans' f4⟩
              refine StepsOk.cons (stepOk_pureG 2 50 false rfl rfl (by kernel_rfl) (fun _ _ h => h) [(14, 62)] [] (by kernel_rfl) (by kernel_rfl) rfl Old.refl' (fun _ _ _ h => h) (fun d E w' hk hda hS hc hf => by rintro _ q14 rfl e62 ; exact ⟨_, by go_simp, rfl⟩)) ?_
              refine StepsOk.cons (stepOk_pure [(2, 50), (15, 63)] [] rfl rfl (by kernel_rfl) (by kernel_rfl) rfl Old.refl' (fun _ _ _ h => h) (fun d E w' hk hda hS hc hf => by rintro _ q2 rfl e50 _ q15 rfl e63 ; exact ⟨_, by go_simp, rfl⟩)) ?_
              exact StepsOk.nil
            case ends =>
              intro σ9 w9 hS9 hA9
              refine Ends.eqv (some 48) (.int .i64 0) rfl (fun _ h => h) ?_
              refine Ends.eqv (some 49) (.bool false) rfl (fun _ h => h) ?_
              refine Ends.eqv (some 50) (.bool false) rfl (fun _ h => h) ?_
              refine Ends.eqv (some 51) (.pointer (some ⟨p, 0, none⟩)) rfl (fun _ h => h) ?_
              refine Ends.eqv (some 52) (.pointer (some ⟨p, 0, none⟩)) rfl (fun _ h => h) ?_
              refine Ends.eqv (some 53) (.pointer (some ⟨p, 0, none⟩)) rfl (fun _ h => h) ?_
              refine Ends.eqv (some 54) (.slice (some ⟨bl, ol, none⟩) (k + 1) cl) rfl (fun _ h => h) ?_
              refine Ends.eqv (some 55) (.int .i64 k) rfl (fun _ h => h) ?_
              refine Ends.eqv (some 56) (.pointer (some ⟨bl, ol + k * 14, none⟩)) rfl (fun _ h => h) ?_
              refine Ends.eqv (some 57) (.agg #[.int .i64 y.client, .int .i64 y.seq, .bool y.ans, .int .i64 y.q.client, .int .i64 y.q.seq, .int .i64 y.q.kind, .int .i64 y.q.id, .int .i64 y.q.mat, .string y.q.data, .int .i64 y.r.code, .int .i64 y.r.ver, .string y.r.data, .slice y.A ym y.cap, .int .i64 y.at_]) rfl (fun _ h => h) ?_
              refine Ends.eqv (some 58) (.slice (some ⟨b0, o, none⟩) n cap) rfl (fun _ h => h) ?_
              refine Ends.eqv (some 59) (.int .i64 k) rfl (fun _ h => h) ?_
              refine Ends.eqv (some 60) (.pointer (some ⟨b0, o + k * 14, none⟩)) rfl (fun _ h => h) ?_
              refine Ends.eqv (some 61) (.agg #[.int .i64 x.client, .int .i64 x.seq, .bool x.ans, .int .i64 x.q.client, .int .i64 x.q.seq, .int .i64 x.q.kind, .int .i64 x.q.id, .int .i64 x.q.mat, .string x.q.data, .int .i64 x.r.code, .int .i64 x.r.ver, .string x.r.data, .slice x.A vn x.cap, .int .i64 x.at_]) rfl (fun _ h => h) ?_
              refine Ends.eqv (some 62) (.bool false) rfl (fun _ h => h) ?_
              refine Ends.eqv (some 63) (.bool true) rfl (fun _ h => h) ?_
              refine Ends.eqv (some 64) (.bool true) rfl (fun _ h => h) ?_
              refine Ends.nil ?_
              clear hA9
              simp only [put_lit, put_none, List.set_cons_zero, List.set_cons_succ]
              go_wp2_with fail
              go_ret
              exact ⟨rfl, HOLD.out.trans' hS9⟩
          · rw [same_comm y x, hB] at cS
            go_upto_region 9 with fail
            refine region_steps (R := pick [eqv (.int .i64 0), eqv (.bool false), eqv (.bool false), eqv (.pointer (some ⟨p, 0, none⟩)), eqv (.pointer (some ⟨p, 0, none⟩)), eqv (.pointer (some ⟨p, 0, none⟩)), eqv (.slice (some ⟨bl, ol, none⟩) (k + 1) cl), eqv (.int .i64 k), eqv (.pointer (some ⟨bl, ol + k * 14, none⟩)), eqv (.agg #[.int .i64 y.client, .int .i64 y.seq, .bool y.ans, .int .i64 y.q.client, .int .i64 y.q.seq, .int .i64 y.q.kind, .int .i64 y.q.id, .int .i64 y.q.mat, .string y.q.data, .int .i64 y.r.code, .int .i64 y.r.ver, .string y.r.data, .slice y.A ym y.cap, .int .i64 y.at_]), eqv (.slice (some ⟨b0, o, none⟩) n cap), eqv (.int .i64 k), eqv (.pointer (some ⟨b0, o + k * 14, none⟩)), eqv (.agg #[.int .i64 x.client, .int .i64 x.seq, .bool x.ans, .int .i64 x.q.client, .int .i64 x.q.seq, .int .i64 x.q.kind, .int .i64 x.q.id, .int .i64 x.q.mat, .string x.q.data, .int .i64 x.r.code, .int .i64 x.r.ver, .string x.r.data, .slice x.A vn x.cap, .int .i64 x.at_]), eqv (.bool true), eqv (.bool false), eqv (.bool false)]) (S := fun _ w' => Old WD w') (T := Old) (by kernel_rfl) (by kernel_rfl) (by kernel_rfl) (Stab.pick (Stab.eqv (Stab.eqv (Stab.eqv (Stab.eqv (Stab.eqv (Stab.eqv (Stab.eqv (Stab.eqv (Stab.eqv (Stab.eqv (Stab.eqv (Stab.eqv (Stab.eqv (Stab.eqv (Stab.eqv (Stab.eqv (Stab.eqv (Stab.nil))))))))))))))))))) ((Old.refl' WD).drew') ?steps ?ends
            case steps =>
              refine StepsOk.cons (stepOk_pure [] [(5, .int .i64 0)] rfl rfl (by kernel_rfl) (by kernel_rfl) rfl Old.refl' (fun _ _ _ h => h) (fun d E w' hk hda hS hc hf => by rintro  e5; exact ⟨_, by go_simp, rfl⟩)) ?_
              refine StepsOk.cons (stepOk_pure [(0, 48)] [] rfl rfl (by kernel_rfl) (by kernel_rfl) rfl Old.refl' (fun _ _ _ h => h) (fun d E w' hk hda hS hc hf => by rintro _ q0 rfl e48 ; exact ⟨_, by go_simp, rfl⟩)) ?_
              refine StepsOk.cons (stepOk_pure [(1, 49)] [] rfl rfl (by kernel_rfl) (by kernel_rfl) rfl Old.refl' (fun _ _ _ h => h) (fun d E w' hk hda hS hc hf => by rintro _ q1 rfl e49 ; exact ⟨_, by go_simp, rfl⟩)) ?_
              refine StepsOk.cons (stepOk_pureG 2 50 false rfl rfl (by kernel_rfl) (fun _ _ h => h) [] [(3, .pointer (some ⟨p, 0, none⟩))] (by kernel_rfl) (by kernel_rfl) rfl Old.refl' (fun _ _ _ h => h) (fun d E w' hk hda hS hc hf => by rintro  e3; exact ⟨_, by go_simp, rfl⟩)) ?_
              refine StepsOk.cons (stepOk_pureG 2 50 false rfl rfl (by kernel_rfl) (fun _ _ h => h) [(3, 51)] [] (by kernel_rfl) (by kernel_rfl) rfl Old.refl' (fun _ _ _ h => h) (fun d E w' hk hda hS hc hf => by rintro _ q3 rfl e51 ; exact ⟨_, by go_simp, rfl⟩)) ?_
              refine StepsOk.cons (stepOk_pureG 2 50 false rfl rfl (by kernel_rfl) (fun _ _ h => h) [(4, 52)] [] (by kernel_rfl) (by kernel_rfl) rfl Old.refl' (fun _ _ _ h => h) (fun d E w' hk hda hS hc hf => by rintro _ q4 rfl e52 ; exact ⟨_, by go_simp, rfl⟩)) ?_
              refine StepsOk.cons (stepOk_pureG 2 50 false rfl rfl (by kernel_rfl) (fun _ _ h => h) [(5, 53)] [] (by kernel_rfl) (by kernel_rfl) rfl Old.refl' (fun _ _ _ h => h) (fun d E w' hk hda hS hc hf => by rintro _ q5 rfl e53 ; obtain ⟨p0, ⟨s0, s1, s2, s3, s4, s5, s6, s7, s8, s9, s10, s11, s12, s13⟩, ⟨l0, l1, l2, l3, l4, l5, l6, l7, l8, l9, l10, l11, l12, l13⟩⟩ := CS.out _ hS; exact ⟨_, by go_simp, rfl⟩)) ?_
              refine StepsOk.cons (stepOk_pureG 2 50 false rfl rfl (by kernel_rfl) (fun _ _ h => h) [] [(4, .int .i64 k)] (by kernel_rfl) (by kernel_rfl) rfl Old.refl' (fun _ _ _ h => h) (fun d E w' hk hda hS hc hf => by rintro  e4; exact ⟨_, by go_simp, rfl⟩)) ?_
              refine StepsOk.cons (stepOk_pureG 2 50 false rfl rfl (by kernel_rfl) (fun _ _ h => h) [(6, 54), (7, 55)] [] (by kernel_rfl) (by kernel_rfl) rfl Old.refl' (fun _ _ _ h => h) (fun d E w' hk hda hS hc hf => by rintro _ q6 rfl e54 _ q7 rfl e55 ; obtain ⟨p0, ⟨s0, s1, s2, s3, s4, s5, s6, s7, s8, s9, s10, s11, s12, s13⟩, ⟨l0, l1, l2, l3, l4, l5, l6, l7, l8, l9, l10, l11, l12, l13⟩⟩ := CS.out _ hS; exact ⟨_, by go_simp, rfl⟩)) ?_
              refine StepsOk.cons (stepOk_pureG 2 50 false rfl rfl (by kernel_rfl) (fun _ _ h => h) [(8, 56)] [] (by kernel_rfl) (by kernel_rfl) rfl Old.refl' (fun _ _ _ h => h) (fun d E w' hk hda hS hc hf => by rintro _ q8 rfl e56 ; obtain ⟨p0, ⟨s0, s1, s2, s3, s4, s5, s6, s7, s8, s9, s10, s11, s12, s13⟩, ⟨l0, l1, l2, l3, l4, l5, l6, l7, l8, l9, l10, l11, l12, l13⟩⟩ := CS.out _ hS; exact ⟨_, by go_simp, rfl⟩)) ?_
              refine StepsOk.cons (stepOk_pureG 2 50 false rfl rfl (by kernel_rfl) (fun _ _ h => h) [] [(0, .slice (some ⟨b0, o, none⟩) n cap)] (by kernel_rfl) (by kernel_rfl) rfl Old.refl' (fun _ _ _ h => h) (fun d E w' hk hda hS hc hf => by rintro  e0; exact ⟨_, by go_simp, rfl⟩)) ?_
              refine StepsOk.cons (stepOk_pureG 2 50 false rfl rfl (by kernel_rfl) (fun _ _ h => h) [] [(4, .int .i64 k)] (by kernel_rfl) (by kernel_rfl) rfl Old.refl' (fun _ _ _ h => h) (fun d E w' hk hda hS hc hf => by rintro  e4; exact ⟨_, by go_simp, rfl⟩)) ?_
              refine StepsOk.cons (stepOk_pureG 2 50 false rfl rfl (by kernel_rfl) (fun _ _ h => h) [(10, 58), (11, 59)] [] (by kernel_rfl) (by kernel_rfl) rfl Old.refl' (fun _ _ _ h => h) (fun d E w' hk hda hS hc hf => by rintro _ q10 rfl e58 _ q11 rfl e59 ; obtain ⟨p0, ⟨s0, s1, s2, s3, s4, s5, s6, s7, s8, s9, s10, s11, s12, s13⟩, ⟨l0, l1, l2, l3, l4, l5, l6, l7, l8, l9, l10, l11, l12, l13⟩⟩ := CS.out _ hS; exact ⟨_, by go_simp, rfl⟩)) ?_
              refine StepsOk.cons (stepOk_pureG 2 50 false rfl rfl (by kernel_rfl) (fun _ _ h => h) [(12, 60)] [] (by kernel_rfl) (by kernel_rfl) rfl Old.refl' (fun _ _ _ h => h) (fun d E w' hk hda hS hc hf => by rintro _ q12 rfl e60 ; obtain ⟨p0, ⟨s0, s1, s2, s3, s4, s5, s6, s7, s8, s9, s10, s11, s12, s13⟩, ⟨l0, l1, l2, l3, l4, l5, l6, l7, l8, l9, l10, l11, l12, l13⟩⟩ := CS.out _ hS; exact ⟨_, by go_simp, rfl⟩)) ?_
              refine StepsOk.cons (stepOk_guard 2 50 false rfl rfl (by kernel_rfl) (fun _ _ h => h) [(9, 57), (13, 61)] [] (by kernel_rfl) (by kernel_rfl) rfl ?_) ?_
              · rintro d a w' hk hda hS _ q9 rfl e57 _ q13 rfl e61 
                first | refine Given.nil (Known.nil ?_) | refine Known.nil ?_
                refine wp_call 44 _ Try.func44 (by kernel_rfl) (by kernel_rfl) _ _ (by rfl) [.agg #[.int .i64 y.client, .int .i64 y.seq, .bool y.ans, .int .i64 y.q.client, .int .i64 y.q.seq, .int .i64 y.q.kind, .int .i64 y.q.id, .int .i64 y.q.mat, .string y.q.data, .int .i64 y.r.code, .int .i64 y.r.ver, .string y.r.data, .slice y.A ym y.cap, .int .i64 y.at_], .agg #[.int .i64 x.client, .int .i64 x.seq, .bool x.ans, .int .i64 x.q.client, .int .i64 x.q.seq, .int .i64 x.q.kind, .int .i64 x.q.id, .int .i64 x.q.mat, .string x.q.data, .int .i64 x.r.code, .int .i64 x.r.ver, .string x.r.data, .slice x.A vn x.cap, .int .i64 x.at_]] (by simp only [List.map_cons, List.map_nil, *]; try rfl) (cS.out _ hS) ?_
                rintro e w1 ⟨rfl, f4⟩
                exact ⟨_, rfl, _, rfl, rfl, f4, hS.trans' f4⟩
              refine StepsOk.cons (stepOk_pureG 2 50 false rfl rfl (by kernel_rfl) (fun _ _ h => h) [(14, 62)] [] (by kernel_rfl) (by kernel_rfl) rfl Old.refl' (fun _ _ _ h => h) (fun d E w' hk hda hS hc hf => by rintro _ q14 rfl e62 ; exact ⟨_, by go_simp, rfl⟩)) ?_
              refine StepsOk.cons (stepOk_pure [(2, 50), (15, 63)] [] rfl rfl (by kernel_rfl) (by kernel_rfl) rfl Old.refl' (fun _ _ _ h => h) (fun d E w' hk hda hS hc hf => by rintro _ q2 rfl e50 _ q15 rfl e63 ; exact ⟨_, by go_simp, rfl⟩)) ?_
              exact StepsOk.nil
            case ends =>
              intro σ9 w9 hS9 hA9
              refine Ends.eqv (some 48) (.int .i64 0) rfl (fun _ h => h) ?_
              refine Ends.eqv (some 49) (.bool false) rfl (fun _ h => h) ?_
              refine Ends.eqv (some 50) (.bool false) rfl (fun _ h => h) ?_
              refine Ends.eqv (some 51) (.pointer (some ⟨p, 0, none⟩)) rfl (fun _ h => h) ?_
              refine Ends.eqv (some 52) (.pointer (some ⟨p, 0, none⟩)) rfl (fun _ h => h) ?_
              refine Ends.eqv (some 53) (.pointer (some ⟨p, 0, none⟩)) rfl (fun _ h => h) ?_
              refine Ends.eqv (some 54) (.slice (some ⟨bl, ol, none⟩) (k + 1) cl) rfl (fun _ h => h) ?_
              refine Ends.eqv (some 55) (.int .i64 k) rfl (fun _ h => h) ?_
              refine Ends.eqv (some 56) (.pointer (some ⟨bl, ol + k * 14, none⟩)) rfl (fun _ h => h) ?_
              refine Ends.eqv (some 57) (.agg #[.int .i64 y.client, .int .i64 y.seq, .bool y.ans, .int .i64 y.q.client, .int .i64 y.q.seq, .int .i64 y.q.kind, .int .i64 y.q.id, .int .i64 y.q.mat, .string y.q.data, .int .i64 y.r.code, .int .i64 y.r.ver, .string y.r.data, .slice y.A ym y.cap, .int .i64 y.at_]) rfl (fun _ h => h) ?_
              refine Ends.eqv (some 58) (.slice (some ⟨b0, o, none⟩) n cap) rfl (fun _ h => h) ?_
              refine Ends.eqv (some 59) (.int .i64 k) rfl (fun _ h => h) ?_
              refine Ends.eqv (some 60) (.pointer (some ⟨b0, o + k * 14, none⟩)) rfl (fun _ h => h) ?_
              refine Ends.eqv (some 61) (.agg #[.int .i64 x.client, .int .i64 x.seq, .bool x.ans, .int .i64 x.q.client, .int .i64 x.q.seq, .int .i64 x.q.kind, .int .i64 x.q.id, .int .i64 x.q.mat, .string x.q.data, .int .i64 x.r.code, .int .i64 x.r.ver, .string x.r.data, .slice x.A vn x.cap, .int .i64 x.at_]) rfl (fun _ h => h) ?_
              refine Ends.eqv (some 62) (.bool true) rfl (fun _ h => h) ?_
              refine Ends.eqv (some 63) (.bool false) rfl (fun _ h => h) ?_
              refine Ends.eqv (some 64) (.bool false) rfl (fun _ h => h) ?_
              refine Ends.nil ?_
              clear hA9
              simp only [put_lit, put_none, List.set_cons_zero, List.set_cons_succ]
              go_wp2_with fail
              go_roundw
              case rel => exact ⟨k + 1, by omega, by go_num, F', s', L', HP2.out.old hS9, HLL.out, HF2.out, HOLD.out.trans' hS9, by rw [List.take_succ_eq_append_getElem hkq, stepsP_snoc, HST.out, HX.out]; exact HSP.out.trans (by rw [hB]; rfl)⟩
              case measure => simp [intOf]; omega
    · obtain rfl : k = n := by omega
      go_wp2_with fail
      go_ret
      have h1 := HST.out
      rw [List.take_of_length_le (by have := HL.out; omega)] at h1
      exact ⟨retb (by rw [← HB.out]; unfold mayP; rw [h1]; rfl), hbel⟩
end Go.Proofs.Ytffahoocbjfdaaa

/- casebookref22.Places. -/
namespace Go.Proofs.Ytffahoocbjfdaaa
open Go.RowKit
set_option maxRecDepth 100000 in
set_option maxHeartbeats 4000000 in
theorem DPlaces_any (A : Option Addr) (n cap : Nat) (l : List ActV) (hl : n = l.length) (hok : Few23 l) (w : World) (hA : ActsAt w A l) :
    Calls Try.prog 15 #[.slice A n cap] w fun e w' => ∃ A' c', e = .returned (.slice A' (plOut l).length c') ∧ IntsAt w' A' (plOut l) ∧ (∀ a, A' = some a → w.heap.size ≤ a.block) ∧ Old w w' := by
  have hn : n ≤ 1000 := by have := hok.n; omega
  obtain ⟨i0, hi, hz0, hz1, hz2⟩ := info_parts info_intP
  have HL := hide hl
  have HA := hide hA
  obtain ⟨b, hb⟩ : ∃ b, mayP l = b := ⟨_, rfl⟩
  have cM := hide (DMay_any A n cap l hl hok b hb w hA)
  have HB := hide hb
  clear hl hok hA hb
  cases b
  · have e : plOut l = [] := by unfold plOut; rw [HB.out]; rfl
    rw [e]
    go_enter Try.func15, Try.ntmps15
    go_wp2_with (go_at_call 28; refine cM.out.mono ?_; rintro e w1 ⟨rfl, hb1⟩)
    go_ret
    exact ⟨none, 0, rfl, CellsAt.nil _ _, (fun a h => by cases h), hb1⟩
  go_enter Try.func15, Try.ntmps15
  go_wp2_with (go_at_call 28; refine cM.out.mono ?_; rintro e w1 ⟨rfl, hb1⟩)
  have kb0 := Bk.new w1 49 #[.int .i64 0, .int .i64 0, .int .i64 0, .int .i64 0]
  have hb2 : Old w (w1.alloc (.cells #[.int .i64 0, .int .i64 0, .int .i64 0, .int .i64 0] 49)) := hb1.alloc' _
  have hbs : (w1.alloc (.cells #[.int .i64 0, .int .i64 0, .int .i64 0, .int .i64 0] 49)).heap.size = w1.heap.size + 1 := by simp
  obtain ⟨pb, hpb⟩ : ∃ x, w1.heap.size = x := ⟨_, rfl⟩
  have hpw : w.heap.size ≤ pb := by rw [← hpb]; exact hb1.size
  generalize hW2 : w1.alloc _ = W2 at kb0 hb2 hbs ⊢
  simp only [hpb] at kb0 hbs ⊢
  clear hpb hW2 hb1
  obtain ⟨base, hbase⟩ : ∃ x, pb + 1 = x := ⟨_, rfl⟩
  go_loopw [3, 5, 6] (fun v g i wr => ∃ k : Nat, k ≤ n ∧ i = .int .i64 k ∧ ∃ V, V = v ∧ Old w wr ∧ base ≤ wr.heap.size ∧ wr.ownsRow base 3 1 V k ((plOutN l k).map (Value.int .i64)) ∧
      (g = .int .i64 (plSt (l.take k)).g ∧ Bk wr pb 49 #[.int .i64 ((plSt (l.take k)).asked 0), .int .i64 ((plSt (l.take k)).asked 1), .int .i64 ((plSt (l.take k)).asked 2), .int .i64 ((plSt (l.take k)).asked 3)])) (fun _ _ i _ => n - (intOf i).toNat)
  case atStart => exact ⟨0, by omega, rfl, _, rfl, hb2, by omega, World.ownsRow_nil _ _ _ _, rfl, kb0⟩
  case round =>
    obtain ⟨k, hk, rfl, V, rfl, hbel, hbz0, hown, rfl, kb⟩ := hrel
    obtain ⟨st, hst⟩ : ∃ s, plSt (l.take k) = s := ⟨_, rfl⟩
    rw [hst] at kb
    simp only [hst]
    have HST := hide hst
    clear hst kb0 hb2 hbs
    by_cases hlt : k < n
    · have hkq : k < l.length := by have := HL.out; omega
      obtain ⟨b0, o, rfl, hb0, hc⟩ := HA.out.at_ (k := k) hkq
      obtain ⟨x, hx⟩ : ∃ x, l[k]?.getD default = x := ⟨_, rfl⟩
      rw [hx] at hc
      have hxx : l[k] = x := by rw [List.getElem?_eq_getElem hkq] at hx; simpa using hx
      have hbd := mayP_b HB.out hkq
      rw [hxx] at hbd
      obtain ⟨c, hxc⟩ : ∃ c : Nat, x.client = (c : Int) := ⟨x.client.toNat, by omega⟩
      have hc4 : c < 4 := by omega
      have hci : (c : Int) < 4 := by omega
      have hcz : (0 : Int) ≤ c := by omega
      have HX := hide hx
      have HXX := hide hxx
      have HXC := hide hxc
      have c0 := (hbel.cell (p := ⟨b0, o + k * 14, none⟩) hb0).trans (hc 0 _ (by omega) rfl)
      have c2 := (hbel.cell (p := ⟨b0, o + k * 14 + 2, none⟩) hb0).trans (hc 2 _ (by omega) rfl)
      have c3 := (hbel.cell (p := ⟨b0, o + k * 14 + 3, none⟩) hb0).trans (hc 3 _ (by omega) rfl)
      have c4 := (hbel.cell (p := ⟨b0, o + k * 14 + 4, none⟩) hb0).trans (hc 4 _ (by omega) rfl)
      have c5 := (hbel.cell (p := ⟨b0, o + k * 14 + 5, none⟩) hb0).trans (hc 5 _ (by omega) rfl)
      have c6 := (hbel.cell (p := ⟨b0, o + k * 14 + 6, none⟩) hb0).trans (hc 6 _ (by omega) rfl)
      have c7 := (hbel.cell (p := ⟨b0, o + k * 14 + 7, none⟩) hb0).trans (hc 7 _ (by omega) rfl)
      have c8 := (hbel.cell (p := ⟨b0, o + k * 14 + 8, none⟩) hb0).trans (hc 8 _ (by omega) rfl)
      have c13 := (hbel.cell (p := ⟨b0, o + k * 14 + 13, none⟩) hb0).trans (hc 13 _ (by omega) rfl)
      have d4 : wr.cell? ⟨b0, o + k * 14 + 3 + 1, none⟩ = _ := c4
      have d5 : wr.cell? ⟨b0, o + k * 14 + 3 + 2, none⟩ = _ := c5
      have d6 : wr.cell? ⟨b0, o + k * 14 + 3 + 3, none⟩ = _ := c6
      have d7 : wr.cell? ⟨b0, o + k * 14 + 3 + 4, none⟩ = _ := c7
      have d8 : wr.cell? ⟨b0, o + k * 14 + 3 + 5, none⟩ = _ := c8
      rw [hxc] at c0
      clear hc hx hxx hxc hbd
      have hb01 : b0 < wr.heap.size := Nat.lt_of_lt_of_le hb0 hbel.size
      have hkI : (k : Int) < n := by omega
      cases hb : x.ans
      · have HAT := hide (show st.at_ x = st.g by unfold PlV.at_; rw [if_neg (by rw [hb]; decide)])
        have HNX := hide (show st.next x = ⟨st.g, fun y => if y = (c : Int) then st.g else st.asked y⟩ by unfold PlV.next; rw [if_neg (by rw [hb]; decide), HXC.out])
        rw [hb] at c2
        have hpbl := kb.lt
        have kbc := asked_get kb hc4
        have kbf := kb.frozen c
        obtain ⟨WZ, hWZ⟩ : ∃ W, wr.setCell ⟨pb, c, none⟩ (.int .i64 st.g) = W := ⟨_, rfl⟩
        have kb9 := asked_set kb hc4 st.g (fun y => if y = (c : Int) then st.g else st.asked y) rfl
        have hown2 : (wr.setCell ⟨pb, c, none⟩ (.int .i64 st.g)).ownsRow base 3 1 V k ((plOutN l k).map (Value.int .i64)) := own_set hown (own_ne hown (show pb < base by omega)) _
        have hbz : base ≤ (wr.setCell ⟨pb, c, none⟩ (.int .i64 st.g)).heap.size := by simpa [World.setCell] using hbz0
        have hoS := Old.setCell' (p := ⟨pb, c, none⟩) hbel hpw (.int .i64 st.g)
        rw [hWZ] at kb9 hown2 hbz hoS
        have hoS := hide hoS
        clear hown kb
        go_wp2_with (at_builtin; refine wpList_append_own _ rfl (.tmp 32) (.tmp 34) 34 rfl base 3 i0 (.int .i64 0) 1 8 Try.underlying34 hi hz0 hz1 hz2 rfl (by decide) V k ((plOutN l k).map (Value.int .i64)) rfl (hown2.alloc _) ⟨WZ.heap.size, 0, none⟩ 1 1 [.int .i64 st.g] rfl rfl (cell_one_new _ _ _) (by simp [Value.oneCell']) (by unfold maxLen; omega) (by omega) (by have := hbz; simp; omega) ?_; intro v' w8 hown' hgrow _; obtain ⟨g', cap', rfl⟩ := ownsRow_succ hown')
        go_roundw
        case rel => exact ⟨k + 1, by omega, by go_num, _, rfl, old_grown (hoS.out.alloc' _) hgrow (hown2.alloc _) (by omega), by have := hgrow.size; simp at this; omega, by rw [plOutN_succ, HST.out, HX.out, HAT.out, List.map_append]; exact hown', by rw [plSt_take hkq, HST.out, HXX.out, HNX.out], by rw [plSt_take hkq, HST.out, HXX.out, HNX.out]; exact (kb9.alloc _).grown hgrow (own_ne hown2 (by omega)).symm⟩
        case measure => simp [intOf]; omega
      · cases hw : Writes x.q.kind
        · obtain ⟨M, hM⟩ : ∃ m, max x.at_ (st.asked c) = m := ⟨_, rfl⟩
          have hM2 : (if x.at_ < st.asked c then st.asked c else x.at_) = M := by rw [max_if]; exact hM
          have HAT := hide (show st.at_ x = M by unfold PlV.at_; rw [if_pos hb, if_neg (by rw [hw]; decide), HXC.out, hM])
          obtain ⟨G, hG⟩ : ∃ g, max st.g M = g := ⟨_, rfl⟩
          have hG2 : (if st.g < M then M else st.g) = G := by rw [max_if]; exact hG
          have HNX := hide (show st.next x = ⟨G, st.asked⟩ by unfold PlV.next; rw [if_pos hb, HAT.out, hG])
          clear hG
          clear hM
          rw [hb] at c2
          have cW := hide (rWrites_at x.q.client x.q.seq x.q.kind x.q.id x.q.mat x.q.data false hw wr)
          go_wp2_with fail
          refine cW.out.mono ?_
          rintro e w9 ⟨rfl, h9⟩
          have hown2 : w9.ownsRow base 3 1 V k ((plOutN l k).map (Value.int .i64)) := own_old hown h9
          have hbz : base ≤ w9.heap.size := Nat.le_trans hbz0 h9.size
          have kb9 := kb.old h9
          have kbc := asked_get kb9 hc4
          have hold9 := hide (hbel.trans' h9)
          clear hown kb
          go_wp2_with (at_builtin; refine wpList_append_own _ rfl (.tmp 53) (.tmp 55) 34 rfl base 3 i0 (.int .i64 0) 1 8 Try.underlying34 hi hz0 hz1 hz2 rfl (by decide) V k ((plOutN l k).map (Value.int .i64)) rfl (hown2.alloc _) ⟨w9.heap.size, 0, none⟩ 1 1 [.int .i64 M] rfl rfl (cell_one_new _ _ _) (by simp [Value.oneCell']) (by unfold maxLen; omega) (by omega) (by have := hbz; simp; omega) ?_; intro v' w8 hown' hgrow _; obtain ⟨g', cap', rfl⟩ := ownsRow_succ hown')
          go_roundw
          case rel => exact ⟨k + 1, by omega, by go_num, _, rfl, old_grown (hold9.out.alloc' _) hgrow (hown2.alloc _) (by omega), by have := hgrow.size; simp at this; omega, by rw [plOutN_succ, HST.out, HX.out, HAT.out, List.map_append]; exact hown', by rw [plSt_take hkq, HST.out, HXX.out, HNX.out], by rw [plSt_take hkq, HST.out, HXX.out, HNX.out]; exact (kb9.alloc _).grown hgrow (own_ne hown2 (by omega)).symm⟩
          case measure => simp [intOf]; omega
        · have HAT := hide (show st.at_ x = x.at_ by unfold PlV.at_; rw [if_pos hb, if_pos hw])
          obtain ⟨G, hG⟩ : ∃ g, max st.g x.at_ = g := ⟨_, rfl⟩
          have hG2 : (if st.g < x.at_ then x.at_ else st.g) = G := by rw [max_if]; exact hG
          have HNX := hide (show st.next x = ⟨G, st.asked⟩ by unfold PlV.next; rw [if_pos hb, HAT.out, hG])
          clear hG
          rw [hb] at c2
          have cW := hide (rWrites_at x.q.client x.q.seq x.q.kind x.q.id x.q.mat x.q.data true hw wr)
          go_wp2_with fail
          refine cW.out.mono ?_
          rintro e w9 ⟨rfl, h9⟩
          have hown2 : w9.ownsRow base 3 1 V k ((plOutN l k).map (Value.int .i64)) := own_old hown h9
          have hbz : base ≤ w9.heap.size := Nat.le_trans hbz0 h9.size
          have kb9 := kb.old h9
          have kbc := asked_get kb9 hc4
          have hold9 := hide (hbel.trans' h9)
          clear hown kb
          go_wp2_with (at_builtin; refine wpList_append_own _ rfl (.tmp 53) (.tmp 55) 34 rfl base 3 i0 (.int .i64 0) 1 8 Try.underlying34 hi hz0 hz1 hz2 rfl (by decide) V k ((plOutN l k).map (Value.int .i64)) rfl (hown2.alloc _) ⟨w9.heap.size, 0, none⟩ 1 1 [.int .i64 x.at_] rfl rfl (cell_one_new _ _ _) (by simp [Value.oneCell']) (by unfold maxLen; omega) (by omega) (by have := hbz; simp; omega) ?_; intro v' w8 hown' hgrow _; obtain ⟨g', cap', rfl⟩ := ownsRow_succ hown')
          go_roundw
          case rel => exact ⟨k + 1, by omega, by go_num, _, rfl, old_grown (hold9.out.alloc' _) hgrow (hown2.alloc _) (by omega), by have := hgrow.size; simp at this; omega, by rw [plOutN_succ, HST.out, HX.out, HAT.out, List.map_append]; exact hown', by rw [plSt_take hkq, HST.out, HXX.out, HNX.out], by rw [plSt_take hkq, HST.out, HXX.out, HNX.out]; exact (kb9.alloc _).grown hgrow (own_ne hown2 (by omega)).symm⟩
          case measure => simp [intOf]; omega
    · obtain rfl : k = n := by omega
      obtain ⟨V, c, rfl, -, -⟩ := own_form hown
      have e : plOut l = plOutN l k := by unfold plOut; rw [HB.out, if_pos rfl, HL.out]
      have E := hide e
      clear e
      have HO := hide (⟨CellsAt.of_own hown, fun a ha => by have := own_new' hown a ha; omega⟩ : IntsAt wr V (plOutN l k) ∧ ∀ a, V = some a → w.heap.size ≤ a.block)
      go_wp2
      go_ret
      exact ⟨V, c, by rw [E.out, plOutN_length]; rfl, by rw [E.out]; exact HO.out.1, HO.out.2, hbel⟩
end Go.Proofs.Ytffahoocbjfdaaa

/- casebookref22.first. -/
namespace Go.Proofs.Ytffahoocbjfdaaa
open Go.RowKit
def okN (qt : Int) (log : List ReqV) (N : Nat) : Bool := (List.range N).all fun i => decide ((runS qt (log.take i)).err (log[i]?.getD default).q = 0)
theorem okN_bad {qt : Int} {log : List ReqV} {N k : Nat} (hk : k < N) (h : (runS qt (log.take k)).err (log[k]?.getD default).q ≠ 0) : okN qt log N = false := by
  unfold okN
  rw [List.all_eq_false]
  exact ⟨k, by simpa using hk, by simpa using h⟩
theorem okN_all {qt : Int} {log : List ReqV} {N : Nat} (h : ∀ i, i < N → (runS qt (log.take i)).err (log[i]?.getD default).q = 0) : okN qt log N = true := by
  unfold okN
  rw [List.all_eq_true]
  intro i hi
  simpa using h i (by simpa using hi)
theorem okLog_okN (qt : Int) (log : List ReqV) : okLog qt log = (decide (1 ≤ qt) && decide (qt ≤ 100) && okN qt log log.length) := rfl
theorem okN_le {qt : Int} {log : List ReqV} {N M : Nat} (h : okN qt log M = true) (hN : N ≤ M) : okN qt log N = true := by
  unfold okN at h ⊢
  rw [List.all_eq_true] at h ⊢
  intro i hi
  exact h i (by simp at hi ⊢; omega)
set_option maxRecDepth 100000 in
set_option maxHeartbeats 4000000 in
theorem DFirst_any (A : Option Addr) (n cap : Nat) (log : List ReqV) (hl : n = log.length) (hn : n ≤ 1000) (N : Nat) (hN : N ≤ n) (qt : Int) (b : Bool) (hb : okN qt log N = b) (w : World) (hQ : ReqsAt w A log) :
    Calls Try.prog 29 #[.slice A n cap, .int .i64 N, .int .i64 qt] w fun e w' => ∃ P, e = .returned (.pointer P) ∧ Old w w' ∧ (b = false → P = none) ∧ (b = true → ∃ g F, P = some ⟨g, 0, none⟩ ∧ SDAt w' g F (runS qt (log.take N)) ∧ ∀ k, F k → w.heap.size ≤ k) := by
  have HL := hide hl
  have HB := hide hb
  have HQ := hide hQ
  clear hl hb hQ
  go_enter Try.func29, Try.ntmps29
  go_wp2_with fail
  obtain ⟨g, hg⟩ : ∃ x, w.heap.size = x := ⟨_, rfl⟩
  obtain ⟨W1, hW1⟩ : ∃ X, w.alloc (.cells (sdCells qt) 61) = X := ⟨_, rfl⟩
  have h1 : SDAt W1 g (fun k => k = g) (StV.new qt) := by rw [← hW1, ← hg]; exact SD_new (Bk.new w 61 (sdCells qt))
  have o1 : Old w W1 := hW1 ▸ (Old.refl' w).alloc' _
  unfold sdCells at hW1
  try rw [hW1]
  simp only [hg]
  have HG := hide hg
  clear hW1 hg
  go_loopw [8] (fun i wr => ∃ k : Nat, k ≤ N ∧ i = .int .i64 k ∧ ∃ F, SDAt wr g F (runS qt (log.take k)) ∧ (∀ b, F b → w.heap.size ≤ b) ∧ Old w wr ∧ ∀ i, i < k → (runS qt (log.take i)).err (log[i]?.getD default).q = 0) (fun i _ => N - (intOf i).toNat)
  case atStart => exact ⟨0, by omega, rfl, _, h1, fun b hb => by rw [hb, ← HG.out]; exact Nat.le_refl _, o1, fun i hi => absurd hi (Nat.not_lt_zero _)⟩
  case round =>
    clear h1 o1
    obtain ⟨k, hk, rfl, F, hS, hF, hbel, hok⟩ := hrel
    have HS := hide hS
    have HF := hide hF
    have HK := hide hok
    clear hS hF hok
    by_cases hlt : k < N
    · have hkq : k < log.length := by have := HL.out; omega
      obtain ⟨b0, o, rfl, hb0, hc⟩ := HQ.out.at5 (k := k) hkq
      obtain ⟨x, hx⟩ : ∃ x, log[k]?.getD default = x := ⟨_, rfl⟩
      rw [hx] at hc
      have HX := hide hx
      have c0 := (hbel.cell (p := ⟨b0, o + k * 6, none⟩) hb0).trans (hc 0 _ (by omega) rfl)
      have c1 := (hbel.cell (p := ⟨b0, o + k * 6 + 1, none⟩) hb0).trans (hc 1 _ (by omega) rfl)
      have c2 := (hbel.cell (p := ⟨b0, o + k * 6 + 2, none⟩) hb0).trans (hc 2 _ (by omega) rfl)
      have c3 := (hbel.cell (p := ⟨b0, o + k * 6 + 3, none⟩) hb0).trans (hc 3 _ (by omega) rfl)
      have c4 := (hbel.cell (p := ⟨b0, o + k * 6 + 4, none⟩) hb0).trans (hc 4 _ (by omega) rfl)
      have c5 := (hbel.cell (p := ⟨b0, o + k * 6 + 5, none⟩) hb0).trans (hc 5 _ (by omega) rfl)
      have hb01 : b0 < wr.heap.size := Nat.lt_of_lt_of_le hb0 hbel.size
      clear hc hx
      have hkn : (k : Int) < n := by omega
      obtain ⟨st, hst⟩ : ∃ s, runS qt (log.take k) = s := ⟨_, rfl⟩
      have HST := hide hst
      have hstn : st.n ≤ 50000 := by have := (runS_ok qt (log.take k)).2.1; rw [hst, List.length_take] at this; omega
      obtain ⟨E, hE⟩ : ∃ E, st.err x.q = E := ⟨_, rfl⟩
      obtain ⟨c0', hc0⟩ : ∃ z, (st.rep x.q).code = z := ⟨_, rfl⟩
      obtain ⟨v0, hv0⟩ : ∃ z, (st.rep x.q).ver = z := ⟨_, rfl⟩
      obtain ⟨d0, hd0⟩ : ∃ z, (st.rep x.q).data = z := ⟨_, rfl⟩
      have cP := hide (SPut_at g F st x.q c0' v0 E d0 _ hc0 hv0 hd0 hE rfl hstn wr (hst ▸ HS.out))
      have HE := hide hE
      have hxx : log[k] = x := by have := HX.out; rw [List.getElem?_eq_getElem hkq] at this; simpa using this
      have HXX := hide hxx
      have HBEL := hide hbel
      clear hst hE hc0 hv0 hd0 hxx hbel
      by_cases h0 : E = 0
      · subst h0
        go_wp2_with (go_at_call 21; refine cP.out.mono ?_; rintro e w2 ⟨⟨Ar, cr, rfl⟩, hF2, hfr⟩)
        obtain ⟨F2, g1, g2⟩ := hF2
        have HN := hide (⟨g1.old ((Old.refl' w2).alloc' (.cells #[.int .i64 c0', .int .i64 v0, .string d0, .slice Ar 0 cr] 43)), fun b hb => (g2 b hb).elim (HF.out b) (fun h => Nat.le_trans HBEL.out.size h), (HBEL.out.fr_new hfr HF.out).alloc' _⟩ : SDAt (w2.alloc (.cells #[.int .i64 c0', .int .i64 v0, .string d0, .slice Ar 0 cr] 43)) g F2 (st.put x.q) ∧ (∀ b, F2 b → w.heap.size ≤ b) ∧ Old w (w2.alloc (.cells #[.int .i64 c0', .int .i64 v0, .string d0, .slice Ar 0 cr] 43)))
        clear g1 g2 hfr
        go_roundw
        case rel => exact ⟨k + 1, by omega, by go_num, F2, by rw [List.take_succ_eq_append_getElem hkq, runS_snoc, HST.out, HXX.out]; exact HN.out.1, HN.out.2.1, HN.out.2.2, fun i hi => by
          by_cases e : i < k
          · exact HK.out i e
          · obtain rfl : i = k := by omega
            rw [HST.out, HX.out]; exact HE.out⟩
        case measure => simp [intOf]; omega
      · have hE1 : (E != 0) = true := by simpa using h0
        have hbF : b = false := by rw [← HB.out]; exact okN_bad hlt (by rw [HST.out, HX.out, HE.out]; exact h0)
        subst hbF
        clear h0
        go_wp2_with (go_at_call 21; refine cP.out.mono ?_; rintro e w2 ⟨⟨Ar, cr, rfl⟩, hF2, hfr⟩)
        go_ret
        exact ⟨rfl, (HBEL.out.fr_new hfr HF.out).alloc' _⟩
    · obtain rfl : k = N := by omega
      have hbT : b = true := by rw [← HB.out]; exact okN_all HK.out
      subst hbT
      go_wp2_with fail
      go_ret
      first | exact ⟨_, rfl, hbel, g, F, rfl, HS.out, HF.out⟩ | exact ⟨_, rfl, hbel, g, rfl, F, HS.out, HF.out⟩ | exact ⟨rfl, hbel, F, HS.out, HF.out⟩
end Go.Proofs.Ytffahoocbjfdaaa
