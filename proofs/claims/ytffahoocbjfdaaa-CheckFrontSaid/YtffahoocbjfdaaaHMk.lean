/- casebooklaw23.made: what lies where. -/
import Derived.Test.YtffahoocbjfdaaaHPdL
import Derived.Test.YtffahoocbjfdaaaHSd
namespace Go.Proofs.Ytffahoocbjfdaaa
open Go.RowKit
theorem mix (own : Nat → Nat) (F : Nat → Prop) (k : Nat) : ∃ own' : Nat → Nat, (∀ b, own b ≠ 0 → own' b = own b) ∧ (∀ b, own b = 0 → F b → own' b = k) ∧ ∀ b, own' b ≠ 0 → own b ≠ 0 ∨ F b := by
  classical
  refine ⟨fun b => if own b ≠ 0 then own b else if F b then k else 0, fun b h => if_pos h, fun b h hF => ?_, fun b h => ?_⟩
  · show (if own b ≠ 0 then own b else if F b then k else 0) = k
    rw [if_neg (by omega), if_pos hF]
  · by_cases h1 : own b ≠ 0
    · exact .inl h1
    · by_cases h2 : F b
      · exact .inr h2
      · exact absurd (show (if own b ≠ 0 then own b else if F b then k else 0) = 0 by rw [if_neg h1, if_neg h2]) h
structure MkV where
  s : PV
  l : List ActV
  st : StV
  log : List ReqV
  seq : Int → Int
  done : Int → Bool
  told : Int → Rep
  at_ : Int → Int
def toldCells (r : Int → Rep) (A : Nat → Option Addr) (ca : Nat → Nat) : Array Value :=
  #[.int .i64 (r 0).code, .int .i64 (r 0).ver, .string (r 0).data, .slice (A 0) (r 0).vs.length (ca 0), .int .i64 (r 1).code, .int .i64 (r 1).ver, .string (r 1).data, .slice (A 1) (r 1).vs.length (ca 1),
    .int .i64 (r 2).code, .int .i64 (r 2).ver, .string (r 2).data, .slice (A 2) (r 2).vs.length (ca 2), .int .i64 (r 3).code, .int .i64 (r 3).ver, .string (r 3).data, .slice (A 3) (r 3).vs.length (ca 3)]
structure MkB (k : Nat) (own : Nat → Nat) (w wr : World) (p g b1 b2 b3 b4 : Nat) (V : Value) (K : MkV) : Prop where
  P : k ≠ 1 → ∃ F, PdAt wr p F K.s K.l ∧ ∀ b, F b → own b = 1
  av : k ≠ 1 → ∀ a ∈ K.l, a.r.vs ≠ [] → ∀ x, a.A = some x → own x.block = 9
  S : k ≠ 2 → ∃ F, SDAt wr g F K.st ∧ ∀ b, F b → own b = 2
  row : k ≠ 4 → wr.ownsRow 0 24 6 V K.log.length (K.log.flatMap ReqV.cells)
  oV : k ≠ 4 → ∀ b, V.ownBlock = some b → own b = 4
  k1 : k ≠ 5 → Bk wr b1 49 #[.int .i64 (K.seq 0), .int .i64 (K.seq 1), .int .i64 (K.seq 2), .int .i64 (K.seq 3)]
  k2 : k ≠ 6 → Bk wr b2 62 #[.bool (K.done 0), .bool (K.done 1), .bool (K.done 2), .bool (K.done 3)]
  k3 : k ≠ 7 → ∃ A ca, Bk wr b3 59 (toldCells K.told A ca) ∧ ∀ c : Nat, c < 4 → IntsAt wr (A c) (K.told c).vs ∧ ((K.told c).vs ≠ [] → ∀ x, A c = some x → own x.block = 3)
  k4 : k ≠ 8 → Bk wr b4 49 #[.int .i64 (K.at_ 0), .int .i64 (K.at_ 1), .int .i64 (K.at_ 2), .int .i64 (K.at_ 3)]
  o1 : own b1 = 5
  o2 : own b2 = 6
  o3 : own b3 = 7
  o4 : own b4 = 8
  op : own p = 1
  og : own g = 2
  lo : ∀ b, own b ≠ 0 → w.heap.size ≤ b ∧ b < wr.heap.size
  old : Old w wr
section
variable {k : Nat} {own own' : Nat → Nat} {w wr w' : World} {p g b1 b2 b3 b4 : Nat} {V : Value} {K : MkV} {S : Nat → Prop}
theorem MkB.fr (h : MkB 0 own w wr p g b1 b2 b3 b4 V K) (hf : Fr S wr w') (hS : ∀ b, b < wr.heap.size → S b → own b = k) (h3 : k ≠ 3) (h9 : k ≠ 9) (h0 : k ≠ 0) : MkB k own w w' p g b1 b2 b3 b4 V K := by
  have lt : ∀ b, own b ≠ 0 → b < wr.heap.size := fun b hb => (h.lo b hb).2
  have ne : ∀ {b j}, own b = j → j ≠ 0 → k ≠ j → ¬ S b := fun {b j} e hj hk hb => hk (by rw [← hS b (lt b (by omega)) hb, e])
  refine ⟨fun hk => ?_, fun hk => h.av (by decide), fun hk => ?_, fun hk => ?_, fun hk => h.oV (by decide), fun hk => ?_, fun hk => ?_, fun hk => ?_, fun hk => ?_, h.o1, h.o2, h.o3, h.o4, h.op, h.og, fun b hb => ⟨(h.lo b hb).1, Nat.lt_of_lt_of_le (h.lo b hb).2 hf.size⟩, ?_⟩
  · obtain ⟨F, h1, h2⟩ := h.P (by decide)
    exact ⟨F, h1.fr hf (fun b hb => ne (h2 b hb) (by decide) hk) (fun a ha hne x hx => ne (h.av (by decide) a ha hne x hx) (by decide) h9), h2⟩
  · obtain ⟨F, h1, h2⟩ := h.S (by decide)
    exact ⟨F, h1.fr hf (fun b hb => ne (h2 b hb) (by decide) hk), h2⟩
  · exact own_fr (h.row (by decide)) hf (fun b hb => ne (h.oV (by decide) b hb) (by decide) hk)
  · exact (h.k1 (by decide)).fr hf (ne h.o1 (by decide) hk)
  · exact (h.k2 (by decide)).fr hf (ne h.o2 (by decide) hk)
  · obtain ⟨A, ca, h1, h2⟩ := h.k3 (by decide)
    refine ⟨A, ca, h1.fr hf (ne h.o3 (by decide) hk), fun c hc => ⟨CellsAt.fr (h2 c hc).1 hf (fun hne x hx => ne ((h2 c hc).2 (by simpa using hne) x hx) (by decide) h3), (h2 c hc).2⟩⟩
  · exact (h.k4 (by decide)).fr hf (ne h.o4 (by decide) hk)
  · refine h.old.fr_new hf (fun b hb => ?_)
    by_cases hl : b < wr.heap.size
    · exact (h.lo b (by rw [hS b hl hb]; exact h0)).1
    · have := h.old.size; omega
theorem MkB.re (h : MkB k own w wr p g b1 b2 b3 b4 V K) (h1 : ∀ b, own b ≠ 0 → own' b = own b) (h2 : ∀ b, own' b ≠ 0 → w.heap.size ≤ b ∧ b < wr.heap.size) : MkB k own' w wr p g b1 b2 b3 b4 V K := by
  have tr : ∀ {b j}, own b = j → j ≠ 0 → own' b = j := fun {b j} e hj => by rw [h1 b (by omega)]; exact e
  refine ⟨fun hk => ?_, fun hk a ha hne x hx => tr (h.av hk a ha hne x hx) (by decide), fun hk => ?_, h.row, fun hk b hb => tr (h.oV hk b hb) (by decide), h.k1, h.k2, fun hk => ?_, h.k4, tr h.o1 (by decide), tr h.o2 (by decide), tr h.o3 (by decide), tr h.o4 (by decide), tr h.op (by decide), tr h.og (by decide), h2, h.old⟩
  · obtain ⟨F, g1, g2⟩ := h.P hk; exact ⟨F, g1, fun b hb => tr (g2 b hb) (by decide)⟩
  · obtain ⟨F, g1, g2⟩ := h.S hk; exact ⟨F, g1, fun b hb => tr (g2 b hb) (by decide)⟩
  · obtain ⟨A, ca, g1, g2⟩ := h.k3 hk
    exact ⟨A, ca, g1, fun c hc => ⟨(g2 c hc).1, fun hne x hx => tr ((g2 c hc).2 hne x hx) (by decide)⟩⟩
theorem MkB.step (h : MkB 0 own w wr p g b1 b2 b3 b4 V K) (ho : Old wr w') : MkB 0 own w w' p g b1 b2 b3 b4 V K := by
  have h1 := h.fr (S := fun _ => False) (k := 10) (Fr.of_old ho) (fun _ _ h => h.elim) (by decide) (by decide) (by decide)
  exact ⟨fun _ => h1.P (by decide), fun _ => h1.av (by decide), fun _ => h1.S (by decide), fun _ => h1.row (by decide), fun _ => h1.oV (by decide), fun _ => h1.k1 (by decide), fun _ => h1.k2 (by decide), fun _ => h1.k3 (by decide), fun _ => h1.k4 (by decide), h1.o1, h1.o2, h1.o3, h1.o4, h1.op, h1.og, h1.lo, h1.old⟩
theorem MkB.ask (h : MkB 0 own w wr p g b1 b2 b3 b4 V K) (m : Nat) (hm : K.l.length = m) (hfew : m ≤ 50000) (q : ReqV) (E : Int) (hE : K.s.askE q = E) (s' : PV) (hs' : K.s.ask q = s') :
    Calls Try.prog 19 #[.pointer (some ⟨p, 0, none⟩), .agg #[.int .i64 q.client, .int .i64 q.seq, .int .i64 q.kind, .int .i64 q.id, .int .i64 q.mat, .string q.data]] wr fun e w' => e = .returned (.int .i64 E) ∧
      (∃ own', MkB 0 own' w w' p g b1 b2 b3 b4 V ⟨s', if E = 0 then K.l ++ [askAct q] else K.l, K.st, K.log, K.seq, K.done, K.told, K.at_⟩) ∧ Fr (fun b => own b = 1) wr w' := by
  obtain ⟨F, h1, h2⟩ := h.P (by decide)
  refine (DAsk_at p F K.s K.l m hm hfew q E hE s' hs' wr h1).mono ?_
  rintro e w' ⟨rfl, ⟨F', g1, g2⟩, g3⟩
  have hf := g3.mono (T := fun b => own b = 1) (fun b _ hb => h2 b hb)
  refine ⟨rfl, ?_, hf⟩
  obtain ⟨own', m1, m2, m3⟩ := mix own F' 1
  have hB := (h.fr hf (fun b _ hb => hb) (by decide) (by decide) (by decide)).re (own' := own') m1 (fun b hb => ?_)
  · refine ⟨own', fun _ => ⟨F', g1, fun b hb => ?_⟩, fun _ a ha hne x hx => ?_, fun _ => hB.S (by decide), fun _ => hB.row (by decide), fun _ => hB.oV (by decide), fun _ => hB.k1 (by decide), fun _ => hB.k2 (by decide), fun _ => hB.k3 (by decide), fun _ => hB.k4 (by decide), hB.o1, hB.o2, hB.o3, hB.o4, hB.op, hB.og, hB.lo, hB.old⟩
    · rcases g2 b hb with hb' | hb'
      · rw [m1 b (by rw [h2 b hb']; decide), h2 b hb']
      · by_cases h0 : own b = 0
        · exact m2 b h0 hb
        · have := (h.lo b h0).2; omega
    · have ha' : a ∈ K.l ∨ a = askAct q := by
        dsimp only at ha
        split at ha
        · simpa using ha
        · exact .inl ha
      rcases ha' with ha' | rfl
      · have h9 := h.av (by decide) a ha' hne x hx
        rw [m1 _ (by rw [h9]; decide), h9]
      · exact absurd rfl hne
  · rcases m3 b hb with hb' | hb'
    · exact ⟨(h.lo b hb').1, Nat.lt_of_lt_of_le (h.lo b hb').2 hf.size⟩
    · refine ⟨?_, g1.lt b hb'⟩
      rcases g2 b hb' with h3 | h3
      · exact (h.lo b (by rw [h2 b h3]; decide)).1
      · have := h.old.size; omega
theorem MkB.ans (h : MkB 0 own w wr p g b1 b2 b3 b4 V K) (m : Nat) (hm : K.l.length = m) (hfew : m ≤ 50000) (c sq at_ : Int) (r : Rep) (A : Option Addr) (vn ca : Nat) (hvn : r.vs.length = vn) (hv : vn ≤ 50000) (q : ReqV) (hq : K.s.wait c = some q) (hE : K.s.ansE c sq at_ = 0) (hI : IntsAt wr A r.vs) :
    Calls Try.prog 20 #[.pointer (some ⟨p, 0, none⟩), .int .i64 c, .int .i64 sq, .agg #[.int .i64 r.code, .int .i64 r.ver, .string r.data, .slice A vn ca], .int .i64 at_] wr fun e w' => e = .returned (.int .i64 0) ∧
      (∃ own' AV cV, MkB 0 own' w w' p g b1 b2 b3 b4 V ⟨K.s.ans c sq at_, K.l ++ [⟨c, sq, true, q, r, AV, cV, at_⟩], K.st, K.log, K.seq, K.done, K.told, K.at_⟩) ∧ Fr (fun b => own b = 1) wr w' := by
  obtain ⟨F, h1, h2⟩ := h.P (by decide)
  refine (DAns_at p F K.s K.l m hm hfew c sq at_ r A vn ca hvn hv 0 hE _ rfl wr h1 hI).mono ?_
  rintro e w' ⟨rfl, ⟨F', l', g1, g2, -, g5⟩, g3⟩
  obtain ⟨q', AV, cV, e1, rfl, g6⟩ := g5 rfl
  obtain rfl : q' = q := by rw [hq] at e1; injection e1 with e1; exact e1.symm
  have hf := g3.mono (T := fun b => own b = 1) (fun b _ hb => h2 b hb)
  refine ⟨rfl, ?_, hf⟩
  obtain ⟨own1, m1, m2, m3⟩ := mix own F' 1
  have hnew : ∀ b, F' b → own b = 0 ∨ own b = 1 := fun b hb => by
    rcases g2 b hb with e | e
    · exact .inr (h2 b e)
    · by_cases h0 : own b = 0
      · exact .inl h0
      · have := (h.lo b h0).2; omega
  have hF1 : ∀ b, F' b → own1 b = 1 := fun b hb => by
    rcases hnew b hb with e | e
    · exact m2 b e hb
    · rw [m1 b (by rw [e]; decide), e]
  obtain ⟨own', n1, n2, n3⟩ := mix own1 (fun b => r.vs ≠ [] ∧ ∃ x, AV = some x ∧ x.block = b) 9
  have hvs := g1.vs _ (List.mem_append.2 (.inr (List.mem_singleton.2 rfl)))
  have hAV : ∀ x, AV = some x → r.vs ≠ [] → x.block < w'.heap.size ∧ wr.heap.size ≤ x.block ∧ ¬ F' x.block := fun x hx hne => by
    refine ⟨?_, g6 x hx, hvs.2 hne x hx⟩
    obtain ⟨b, o, e1, e2, -⟩ := hvs.1 (by simpa using hne)
    have e1' : AV = some ⟨b, o, none⟩ := e1
    rw [e1'] at hx; injection hx with hx; rw [← hx]; exact e2
  have tr : ∀ b, own b ≠ 0 → own' b = own b := fun b hb => by rw [n1 b (by rw [m1 b hb]; exact hb), m1 b hb]
  have hB := (h.fr hf (fun b _ hb => hb) (by decide) (by decide) (by decide)).re (own' := own') tr (fun b hb => ?_)
  · refine ⟨own', AV, cV, fun _ => ⟨F', g1, fun b hb => by rw [n1 b (by rw [hF1 b hb]; decide), hF1 b hb]⟩, fun _ a ha hne x hx => ?_, fun _ => hB.S (by decide), fun _ => hB.row (by decide), fun _ => hB.oV (by decide), fun _ => hB.k1 (by decide), fun _ => hB.k2 (by decide), fun _ => hB.k3 (by decide), fun _ => hB.k4 (by decide), hB.o1, hB.o2, hB.o3, hB.o4, hB.op, hB.og, hB.lo, hB.old⟩
    rcases List.mem_append.1 ha with ha' | ha'
    · have h9 := h.av (by decide) a ha' hne x hx
      rw [tr _ (by rw [h9]; decide), h9]
    · obtain rfl := List.mem_singleton.1 ha'
      obtain ⟨k1, k2, k3⟩ := hAV x hx hne
      refine n2 _ ?_ ⟨hne, x, hx, rfl⟩
      refine Decidable.byContradiction fun h0 => ?_
      rcases m3 _ h0 with h4 | h4
      · have := (h.lo _ h4).2; omega
      · exact k3 h4
  · have hws := h.old.size
    rcases n3 b hb with hb' | ⟨hne, x, hx, rfl⟩
    · rcases m3 b hb' with h4 | h4
      · exact ⟨(h.lo b h4).1, Nat.lt_of_lt_of_le (h.lo b h4).2 hf.size⟩
      · refine ⟨?_, g1.lt b h4⟩
        rcases g2 b h4 with h3 | h3
        · exact (h.lo b (by rw [h2 b h3]; decide)).1
        · omega
    · obtain ⟨k1, k2, k3⟩ := hAV x hx hne
      exact ⟨by omega, k1⟩
theorem MkB.sput (h : MkB 0 own w wr p g b1 b2 b3 b4 V K) (q : Q) (c0 v0 E : Int) (d0 : ByteArray) (s' : StV) (h1 : (K.st.rep q).code = c0) (h2 : (K.st.rep q).ver = v0) (h3 : (K.st.rep q).data = d0) (h4 : K.st.err q = E) (h5 : K.st.put q = s') (hfew : K.st.n ≤ 50000) :
    Calls Try.prog 21 #[.pointer (some ⟨g, 0, none⟩), .agg #[.int .i64 q.client, .int .i64 q.seq, .int .i64 q.kind, .int .i64 q.id, .int .i64 q.mat, .string q.data]] wr fun e w' => (∃ A c, e = .returned (.tuple #[.agg #[.int .i64 c0, .int .i64 v0, .string d0, .slice A 0 c], .int .i64 E])) ∧
      (∃ own', MkB 0 own' w w' p g b1 b2 b3 b4 V ⟨K.s, K.l, s', K.log, K.seq, K.done, K.told, K.at_⟩) ∧ Fr (fun b => own b = 2) wr w' := by
  obtain ⟨F, k1, k2⟩ := h.S (by decide)
  refine (SPut_at g F K.st q c0 v0 E d0 s' h1 h2 h3 h4 h5 hfew wr k1).mono ?_
  rintro e w' ⟨he, ⟨F', g1, g2⟩, g3⟩
  have hf := g3.mono (T := fun b => own b = 2) (fun b _ hb => k2 b hb)
  refine ⟨he, ?_, hf⟩
  obtain ⟨own', m1, m2, m3⟩ := mix own F' 2
  have hB := (h.fr hf (fun b _ hb => hb) (by decide) (by decide) (by decide)).re (own' := own') m1 (fun b hb => ?_)
  · refine ⟨own', fun _ => hB.P (by decide), fun _ => hB.av (by decide), fun _ => ⟨F', g1, fun b hb => ?_⟩, fun _ => hB.row (by decide), fun _ => hB.oV (by decide), fun _ => hB.k1 (by decide), fun _ => hB.k2 (by decide), fun _ => hB.k3 (by decide), fun _ => hB.k4 (by decide), hB.o1, hB.o2, hB.o3, hB.o4, hB.op, hB.og, hB.lo, hB.old⟩
    rcases g2 b hb with hb' | hb'
    · rw [m1 b (by rw [k2 b hb']; decide), k2 b hb']
    · by_cases h0 : own b = 0
      · exact m2 b h0 hb
      · have := (h.lo b h0).2; omega
  · rcases m3 b hb with hb' | hb'
    · exact ⟨(h.lo b hb').1, Nat.lt_of_lt_of_le (h.lo b hb').2 hf.size⟩
    · refine ⟨?_, g1.1.lt b hb'⟩
      rcases g2 b hb' with h3 | h3
      · exact (h.lo b (by rw [k2 b h3]; decide)).1
      · have := h.old.size; omega
theorem MkB.sask (h : MkB 0 own w wr p g b1 b2 b3 b4 V K) (q : Q) (hfew : K.st.n ≤ 50000) (R : Rep) (hR : K.st.ask q = R) (nR : Nat) (hnR : R.vs.length = nR) :
    Calls Try.prog 22 #[.pointer (some ⟨g, 0, none⟩), .agg #[.int .i64 q.client, .int .i64 q.seq, .int .i64 q.kind, .int .i64 q.id, .int .i64 q.mat, .string q.data]] wr fun e w' => ∃ A c, e = .returned (.tuple #[.agg #[.int .i64 R.code, .int .i64 R.ver, .string R.data, .slice A nR c], .int .i64 (if askOk q then 0 else 1)]) ∧ IntsAt w' A R.vs ∧
      (∃ own', MkB 0 own' w w' p g b1 b2 b3 b4 V K ∧ (R.vs ≠ [] → ∀ x, A = some x → own' x.block = 3)) ∧ Old wr w' := by
  subst hR
  obtain ⟨F, k1, k2⟩ := h.S (by decide)
  refine (SAsk_stN g F K.st q hfew nR hnR wr k1).mono ?_
  rintro e w' ⟨A, c, rfl, hI, hA, ho⟩
  refine ⟨A, c, rfl, hI, ?_, ho⟩
  obtain ⟨own', m1, m2, m3⟩ := mix own (fun b => (K.st.ask q).vs ≠ [] ∧ ∃ x, A = some x ∧ x.block = b) 3
  have hlt : (K.st.ask q).vs ≠ [] → ∀ x, A = some x → x.block < w'.heap.size := fun hne x hx => by
    obtain ⟨b, o, e1, e2, -⟩ := hI (by simpa using hne)
    rw [e1] at hx; injection hx with hx; rw [← hx]; exact e2
  refine ⟨own', (h.step ho).re m1 (fun b hb => ?_), fun hne x hx => m2 _ ?_ ⟨hne, x, hx, rfl⟩⟩
  · rcases m3 b hb with hb' | ⟨hne, x, hx, rfl⟩
    · exact ⟨(h.lo b hb').1, Nat.lt_of_lt_of_le (h.lo b hb').2 ho.size⟩
    · have h1 := hA x hx
      have h2 := h.old.size
      exact ⟨by omega, hlt hne x hx⟩
  · refine Decidable.byContradiction fun h0 => ?_
    have h1 := hA x hx
    have := (h.lo _ h0).2
    omega
end
end Go.Proofs.Ytffahoocbjfdaaa

/- casebooklaw23.made in plain Lean: a history of one server, and that it is right. -/
namespace Go.Proofs.Ytffahoocbjfdaaa
open Go.RowKit
structure MvV where
  kind : Int
  client : Int
  q : ReqV
def MvV.c (m : MvV) : Nat := ((IntKind.u64.wrap m.client).tmod 4).toNat
theorem MvV.c_lt (m : MvV) : m.c < 4 := by
  have h0 : 0 ≤ IntKind.u64.wrap m.client := by rw [IntKind.wrap_u64]; omega
  have h2 := Int.emod_lt_of_pos (IntKind.u64.wrap m.client) (show (0 : Int) < 4 by omega)
  have h1 := Int.emod_nonneg (IntKind.u64.wrap m.client) (show (4 : Int) ≠ 0 by omega)
  unfold MvV.c
  rw [Int.tmod_eq_emod_of_nonneg h0]
  omega
theorem MvV.c_eq (m : MvV) : wrap64 ((IntKind.u64.wrap m.client).tmod 4) = (m.c : Int) := by
  have h0 : 0 ≤ IntKind.u64.wrap m.client := by rw [IntKind.wrap_u64]; omega
  have h2 := Int.emod_lt_of_pos (IntKind.u64.wrap m.client) (show (0 : Int) < 4 by omega)
  have h1 := Int.emod_nonneg (IntKind.u64.wrap m.client) (show (4 : Int) ≠ 0 by omega)
  unfold MvV.c
  rw [Int.tmod_eq_emod_of_nonneg h0, IntWalk.wrap64_in _ ⟨by omega, by omega⟩]
  omega
def setF {α : Type} (f : Int → α) (c : Int) (v : α) : Int → α := fun x => if x = c then v else f x
theorem setF_eq {α : Type} (f : Int → α) (c : Int) (v : α) : setF f c v c = v := if_pos rfl
theorem setF_ne {α : Type} {f : Int → α} {c d : Int} {v : α} (h : d ≠ c) : setF f c v d = f d := if_neg h
def MkV.q (K : MkV) (c : Nat) (x : ReqV) : ReqV := ⟨(c : Int), K.seq c + 1, x.kind, x.id, x.mat, x.data⟩
def ansAct (c : Int) (r : ReqV) (R : Rep) (at_ : Int) : ActV := ⟨c, r.seq, true, r, R, none, 0, at_⟩
def MkV.next (K : MkV) (c : Nat) (x : ReqV) : MkV :=
  match K.s.wait c with
  | none => if K.s.askE (K.q c x) = 0 then ⟨K.s.ask (K.q c x), K.l ++ [askAct (K.q c x)], K.st, K.log, setF K.seq c (K.seq c + 1), setF K.done c false, K.told, K.at_⟩ else K
  | some r => if K.done c then ⟨K.s.ans c r.seq (K.at_ c), K.l ++ [ansAct c r (K.told c) (K.at_ c)], K.st, K.log, K.seq, K.done, K.told, K.at_⟩
    else if Writes r.kind then ⟨K.s, K.l, K.st.put r.q, K.log ++ [r], K.seq, setF K.done c true, setF K.told c (K.st.rep r.q), setF K.at_ c (K.st.put r.q).n⟩
    else ⟨K.s, K.l, K.st, K.log, K.seq, setF K.done c true, setF K.told c (K.st.ask r.q), setF K.at_ c K.st.n⟩
def MkV.new (qt : Int) : MkV := ⟨PV.new, [], StV.new qt, [], fun _ => 0, fun _ => false, fun _ => Rep.zero, fun _ => 0⟩
def runM (qt : Int) (ms : List MvV) : MkV := ms.foldl (fun K m => K.next m.c m.q) (MkV.new qt)
theorem runM_snoc (qt : Int) (ms : List MvV) (m : MvV) : runM qt (ms ++ [m]) = (runM qt ms).next m.c m.q := by simp [runM]
theorem ansL_app (l : List ActV) (a : ActV) : ansL (l ++ [a]) (l.length + 1) = ansL l l.length ++ (if a.ans then [(l.length, (plSt l).asked a.client, (plSt l).at_ a)] else []) := by
  have h0 : ansL (l ++ [a]) l.length = ansL l l.length := by
    unfold ansL
    have e : ∀ i ∈ List.range l.length, ((l ++ [a])[i]?.getD default) = (l[i]?.getD default) ∧ (l ++ [a]).take i = l.take i := fun i hi => by
      rw [List.mem_range] at hi
      exact ⟨by rw [List.getElem?_append_left hi], List.take_append_of_le_length (by omega)⟩
    rw [List.filter_congr (q := fun i => (l[i]?.getD default).ans) (fun i hi => by rw [(e i hi).1])]
    refine List.map_congr_left fun i hi => ?_
    obtain ⟨h1, h2⟩ := e i (List.mem_filter.1 hi).1
    rw [h1, h2]
  have hk : l.length < (l ++ [a]).length := by simp
  have hx : (l ++ [a])[l.length] = a := by simp
  have ht : (l ++ [a]).take l.length = l := by simp
  cases ha : a.ans with
  | false => rw [ansL_ask hk hx ha, h0]; simp
  | true => rw [ansL_ans hk hx ha, h0, ht]; simp
theorem plSt_app (l : List ActV) (a : ActV) : plSt (l ++ [a]) = (plSt l).next a := by simp [plSt]
theorem take_app {α : Type} {l t : List α} {k : Nat} (h : k ≤ l.length) : (l ++ t).take k = l.take k := List.take_append_of_le_length h
theorem rightP_mono {qt : Int} {log t : List ReqV} {x : ActV} {ask a : Int} {rd : Bool} (h : rightP qt log x ask a rd = true) (ha : 0 ≤ a) : rightP qt (log ++ t) x ask a rd = true := by
  unfold rightP at h ⊢
  split
  · rename_i hw
    rw [if_pos hw] at h
    simp only [Bool.and_eq_true, decide_eq_true_eq] at h ⊢
    obtain ⟨⟨⟨⟨h1, h2⟩, h3⟩, h4⟩, h5⟩ := h
    rw [List.getElem?_append_left (by omega), take_app (by omega)]
    exact ⟨⟨⟨⟨h1, by simp; omega⟩, h3⟩, h4⟩, h5⟩
  · rename_i hw
    rw [if_neg hw] at h
    rw [Bool.or_eq_true] at h ⊢
    rcases h with h | h
    · exact .inl h
    · right
      simp only [Bool.and_eq_true, decide_eq_true_eq] at h ⊢
      rw [take_app (by omega)]
      exact ⟨by simp; omega, h.2⟩
theorem put_ok {s : StV} {q : Q} (h : s.err q = 0) : s.put q = s.done q ∧ (q.may && Writes q.kind) = true ∧ (s.ss q.client).seq < q.seq := by
  unfold StV.err at h
  by_cases h1 : (q.may && Writes q.kind) = true
  · rw [if_pos h1] at h
    by_cases h2 : (s.ss q.client).seq < q.seq
    · refine ⟨?_, h1, h2⟩
      unfold StV.put StV.may
      rw [h1, decide_eq_true h2]; rfl
    · rw [if_neg h2] at h; exact absurd h (by decide)
  · rw [if_neg h1] at h; exact absurd h (by decide)
theorem err_zero {s : StV} {q : Q} (h1 : (q.may && Writes q.kind) = true) (h2 : (s.ss q.client).seq < q.seq) : s.err q = 0 := by
  unfold StV.err
  rw [if_pos h1, if_pos h2]
def okL (qt : Int) (log : List ReqV) : Prop := ∀ j, j < log.length → (runS qt (log.take j)).err (log[j]?.getD default).q = 0
theorem okL_snoc {qt : Int} {log : List ReqV} {x : ReqV} (h : okL qt log) (hx : (runS qt log).err x.q = 0) : okL qt (log ++ [x]) := fun j hj => by
  by_cases e : j < log.length
  · rw [List.getElem?_append_left e, take_app (by omega)]; exact h j e
  · obtain rfl : j = log.length := by simp at hj; omega
    simpa using hx
theorem okL_pre {qt : Int} {log : List ReqV} {x : ReqV} (h : okL qt (log ++ [x])) : okL qt log ∧ (runS qt log).err x.q = 0 := by
  refine ⟨fun j hj => ?_, ?_⟩
  · have := h j (by simp; omega)
    rwa [List.getElem?_append_left hj, take_app (by omega)] at this
  · have := h log.length (by simp)
    simpa using this
theorem snocInd {α : Type} {P : List α → Prop} (h0 : P []) (hs : ∀ l x, P l → P (l ++ [x])) (l : List α) : P l := by
  have h : ∀ l : List α, P l.reverse := fun l => by
    induction l with
    | nil => exact h0
    | cons x l ih => rw [List.reverse_cons]; exact hs _ _ ih
  have := h l.reverse
  rwa [List.reverse_reverse] at this
theorem runF_f (qt id : Int) : ∀ (log : List ReqV), okL qt log → (runF qt id log).f id = (runS qt log).f id ∧ (runF qt id log).quota = qt ∧ ∀ c, ((runF qt id log).ss c).seq ≤ ((runS qt log).ss c).seq := by
  intro log
  induction log using snocInd with
  | h0 => intro _; exact ⟨rfl, rfl, fun c => Int.le_refl _⟩
  | hs log x ih =>
    intro h
    obtain ⟨h1, h2⟩ := okL_pre h
    obtain ⟨i1, i2, i3⟩ := ih h1
    obtain ⟨p1, p2, p3⟩ := put_ok h2
    rw [runF_snoc, runS_snoc, p1]
    by_cases hx : x.id = id
    · rw [if_pos hx]
      have p3' : ((runF qt id log).ss x.q.client).seq < x.q.seq := by have := i3 x.q.client; omega
      rw [(put_ok (err_zero p2 p3')).1]
      have e : (runF qt id log).doL x.q = (runS qt log).doL x.q := by
        unfold StV.doL
        rw [show x.q.id = id from hx, i1, i2, (runS_ok qt log).2.2]
      refine ⟨?_, i2, fun c => ?_⟩
      · show (if id = x.q.id then _ else _) = (if id = x.q.id then _ else _)
        have hx' : id = x.q.id := hx.symm
        rw [if_pos hx', if_pos hx', e]
      · show (if c = x.q.client then _ else _ : Sess).seq ≤ (if c = x.q.client then _ else _ : Sess).seq
        by_cases hc : c = x.q.client
        · rw [if_pos hc, if_pos hc]; exact Int.le_refl _
        · rw [if_neg hc, if_neg hc]; exact i3 c
    · rw [if_neg hx]
      refine ⟨?_, i2, fun c => ?_⟩
      · show _ = (if id = x.q.id then _ else _)
        rw [if_neg (fun e : id = x.q.id => hx e.symm)]; exact i1
      · show _ ≤ (if c = x.q.client then _ else _ : Sess).seq
        by_cases hc : c = x.q.client
        · rw [if_pos hc]; have := i3 c; rw [hc] at this ⊢; show _ ≤ x.q.seq; omega
        · rw [if_neg hc]; exact i3 c
theorem runF_ask {qt : Int} {log : List ReqV} (h : okL qt log) (q : Q) : (runF qt q.id log).ask q = (runS qt log).ask q := by
  unfold StV.ask
  rw [(runF_f qt q.id log h).1]
def MkV.ans (K : MkV) (c : Int) (r : ReqV) : ActV := ansAct c r (K.told c) (K.at_ c)
structure MkJ (qt : Int) (K : MkV) (i : Nat) : Prop where
  st : K.st = runS qt K.log
  ok : okL qt K.log
  steps : stepsP K.l = some K.s
  n : K.st.n = K.log.length
  ln : K.log.length ≤ i
  ll : K.l.length ≤ i
  sq : ∀ c, 0 ≤ K.seq c ∧ K.seq c ≤ i
  last : ∀ c : Int, K.s.last c = K.seq c
  wait : ∀ c r, K.s.wait c = some r → r.client = c ∧ r.q.may = true ∧ r.seq = K.seq c ∧ 0 ≤ c ∧ c < 4
  ses : ∀ c, (K.st.ss c).seq ≤ K.seq c ∧ ∀ r, K.s.wait c = some r → K.done c = false → (K.st.ss c).seq < r.seq
  tb : ∀ c, 0 ≤ K.at_ c ∧ K.at_ c ≤ (K.log.length : Int) ∧ (K.told c).vs.length ≤ K.log.length
  pl : (0 ≤ (plSt K.l).g ∧ (plSt K.l).g ≤ (K.log.length : Int)) ∧ ∀ c, 0 ≤ (plSt K.l).asked c ∧ (plSt K.l).asked c ≤ (K.log.length : Int)
  rt : ∀ c r, K.s.wait c = some r → K.done c = true → rightP qt K.log (K.ans c r) ((plSt K.l).asked c) (K.at_ c) true = true ∧ (plSt K.l).asked c ≤ K.at_ c
  good : ∀ y ∈ ansL K.l K.l.length, goodA qt K.log K.l true y = true ∧ 0 ≤ y.2.2
  vs : ∀ a ∈ K.l, a.r.vs.length ≤ i
theorem MkJ.new (qt : Int) : MkJ qt (MkV.new qt) 0 := by
  exact ⟨rfl, fun j hj => absurd hj (Nat.not_lt_zero _), rfl, rfl, Nat.le_refl _, Nat.le_refl _, fun c => ⟨Int.le_refl _, Int.le_refl _⟩, fun c => rfl, (fun c r h => by cases h), fun c => ⟨Int.le_refl _, (fun r h => by cases h)⟩, fun c => ⟨Int.le_refl _, Int.le_refl _, Nat.le_refl _⟩, ⟨⟨Int.le_refl _, Int.le_refl _⟩, fun c => ⟨Int.le_refl _, Int.le_refl _⟩⟩, (fun c r h => by cases h), (fun y h => by cases h), (fun a h => by cases h)⟩
theorem goodA_app {qt : Int} {log : List ReqV} {l t : List ActV} {rd : Bool} {y : Nat × Int × Int} (h : y.1 < l.length) : goodA qt log (l ++ t) rd y = goodA qt log l rd y := by
  unfold goodA
  rw [List.getElem?_append_left h]
theorem ansL_lt {l : List ActV} {n : Nat} {y : Nat × Int × Int} (h : y ∈ ansL l n) : y.1 < n := by
  obtain ⟨x, -, h1, -⟩ := ansL_of h; exact h1
theorem runS_few (qt : Int) (log : List ReqV) : ∀ k, ((runS qt log).f k).length ≤ (runS qt log).n := by
  induction log using snocInd with
  | h0 => intro k; exact Nat.le_refl _
  | hs log x ih => rw [runS_snoc]; exact put_fewC _ _ ih
theorem MkJ.next {qt : Int} {K : MkV} {i : Nat} (h : MkJ qt K i) (hi : i ≤ 1000) {c : Nat} (hc : c < 4) (x : ReqV) : MkJ qt (K.next c x) (i + 1) := by
  have hsq : ∀ d, 0 ≤ K.seq d ∧ K.seq d ≤ ((i + 1 : Nat) : Int) := fun d => by have := h.sq d; omega
  unfold MkV.next
  cases hw : K.s.wait c with
  | none =>
    dsimp only
    obtain ⟨q, hq⟩ : ∃ q, K.q c x = q := ⟨_, rfl⟩
    rw [hq]
    have hqc : q.client = (c : Int) := by rw [← hq]; rfl
    have hqs : q.seq = K.seq c + 1 := by rw [← hq]; rfl
    by_cases hE : K.s.askE q = 0
    · rw [if_pos hE]
      have e1 : K.s.ask q = K.s.asked q := by unfold PV.ask; rw [if_pos hE]
      rw [e1]
      have hmay : q.q.may = true := by
        unfold PV.askE at hE
        by_cases hm : q.q.may = true
        · exact hm
        · rw [if_neg hm] at hE; exact absurd hE (by decide)
      have hwt : ∀ d, (K.s.asked q).wait d = if d = (c : Int) then some q else K.s.wait d := fun d => by show (if d = q.client then _ else _) = _; rw [hqc]
      have hpl : plSt (K.l ++ [askAct q]) = ⟨(plSt K.l).g, fun d => if d = (c : Int) then (plSt K.l).g else (plSt K.l).asked d⟩ := by
        rw [plSt_app]
        show (⟨_, fun d => if d = q.client then _ else _⟩ : PlV) = _
        rw [hqc]
      refine ⟨h.st, h.ok, ?_, h.n, Nat.le_succ_of_le h.ln, (by have := h.ll; simp; omega), fun d => ?_, fun d => ?_, fun d r hr => ?_, fun d => ⟨?_, fun r hr hd => ?_⟩, h.tb, ?_, fun d r hr hd => ?_, fun y hy => ?_, fun a ha => ?_⟩
      rotate_right
      · rcases List.mem_append.1 ha with ha | ha
        · exact Nat.le_succ_of_le (h.vs a ha)
        · rw [List.mem_singleton.1 ha]; exact Nat.zero_le _
      · rw [stepsP_snoc, h.steps]
        show PV.step K.s (askAct q) = _
        unfold PV.step
        rw [if_neg (show ¬ (askAct q).ans = true by simp [askAct]), if_pos ⟨hE, rfl, rfl, rfl, by rw [Rep.same_iff]; rfl⟩]
        rfl
      · by_cases e : d = (c : Int)
        · show 0 ≤ setF K.seq c (K.seq c + 1) d ∧ setF K.seq c (K.seq c + 1) d ≤ ((i + 1 : Nat) : Int); rw [e, setF_eq]; have := h.sq c; omega
        · show 0 ≤ setF K.seq c (K.seq c + 1) d ∧ setF K.seq c (K.seq c + 1) d ≤ ((i + 1 : Nat) : Int); rw [setF_ne e]; have := h.sq d; omega
      · show (if d = q.client then q.seq else K.s.last d) = setF K.seq c _ d
        by_cases e : d = (c : Int)
        · rw [e, setF_eq, if_pos hqc.symm, hqs]
        · rw [setF_ne e, if_neg (by rw [hqc]; exact e)]; exact h.last d
      · rw [hwt] at hr
        by_cases e : d = (c : Int)
        · rw [if_pos e] at hr; injection hr with hr; subst hr
          refine ⟨by rw [e, hqc], hmay, ?_, by omega, by omega⟩
          show q.seq = setF K.seq c _ d
          rw [e, setF_eq, hqs]
        · rw [if_neg e] at hr
          obtain ⟨k1, k2, k3, k4, k5⟩ := h.wait d r hr
          refine ⟨k1, k2, ?_, k4, k5⟩
          show r.seq = setF K.seq c _ d
          rw [setF_ne e, k3]
      · show (K.st.ss d).seq ≤ setF K.seq c _ d
        by_cases e : d = (c : Int)
        · rw [e, setF_eq]; have := (h.ses c).1; show _ ≤ K.seq c + 1; omega
        · rw [setF_ne e]; exact (h.ses d).1
      · rw [hwt] at hr
        by_cases e : d = (c : Int)
        · rw [if_pos e] at hr; injection hr with hr; subst hr
          show (K.st.ss d).seq < q.seq
          rw [hqs, e]; have := (h.ses c).1; omega
        · rw [if_neg e] at hr
          have hd' : setF K.done c false d = false := hd
          rw [setF_ne e] at hd'
          exact (h.ses d).2 r hr hd'
      · rw [hpl]
        refine ⟨h.pl.1, fun d => ?_⟩
        show 0 ≤ (if d = (c : Int) then _ else _) ∧ (if d = (c : Int) then _ else _) ≤ _
        by_cases e : d = (c : Int)
        · rw [if_pos e]; exact h.pl.1
        · rw [if_neg e]; exact h.pl.2 d
      · rw [hwt] at hr
        have hd' : setF K.done c false d = true := hd
        by_cases e : d = (c : Int)
        · rw [e, setF_eq] at hd'; cases hd'
        · rw [if_neg e] at hr
          rw [setF_ne e] at hd'
          rw [hpl]
          show rightP qt K.log (K.ans d r) (if d = (c : Int) then _ else _) _ _ = true ∧ (if d = (c : Int) then _ else _) ≤ _
          rw [if_neg e]
          exact h.rt d r hr hd'
      · have hy' : y ∈ ansL K.l K.l.length := by
          have e : (K.l ++ [askAct q]).length = K.l.length + 1 := by simp
          rw [e, ansL_app, if_neg (show ¬ (askAct q).ans = true by simp [askAct]), List.append_nil] at hy
          exact hy
        obtain ⟨g1, g2⟩ := h.good y hy'
        exact ⟨by rw [goodA_app (ansL_lt hy')]; exact g1, g2⟩
    · rw [if_neg hE]
      exact ⟨h.st, h.ok, h.steps, h.n, Nat.le_succ_of_le h.ln, Nat.le_succ_of_le h.ll, hsq, h.last, h.wait, h.ses, h.tb, h.pl, h.rt, h.good, fun a ha => Nat.le_succ_of_le (h.vs a ha)⟩
  | some r =>
    dsimp only
    obtain ⟨w1, w2, w3, w4, w5⟩ := h.wait c r hw
    by_cases hd : K.done c = true
    · rw [if_pos hd]
      obtain ⟨r1, r2⟩ := h.rt c r hw hd
      have hE : K.s.ansE c r.seq (K.at_ c) = 0 := by
        obtain ⟨t1, t2, -⟩ := h.tb c
        have := h.ln
        unfold PV.ansE
        rw [hw, if_neg (by omega)]
        exact if_pos rfl
      have e1 : K.s.ans c r.seq (K.at_ c) = K.s.answered c := by unfold PV.ans; rw [if_pos hE]
      rw [e1]
      have hwt : ∀ d, (K.s.answered c).wait d = if d = (c : Int) then none else K.s.wait d := fun d => rfl
      obtain ⟨a, ha⟩ : ∃ a, ansAct c r (K.told c) (K.at_ c) = a := ⟨_, rfl⟩
      have haa : a.ans = true := by rw [← ha]; rfl
      have hac : a.client = (c : Int) := by rw [← ha]; rfl
      have hat : (plSt K.l).at_ a = K.at_ c := by
        rw [← ha]
        unfold PlV.at_
        rw [if_pos (show (ansAct c r (K.told c) (K.at_ c)).ans = true from rfl)]
        split
        · rfl
        · exact Int.max_eq_left r2
      have hpl : plSt (K.l ++ [a]) = ⟨max (plSt K.l).g (K.at_ c), (plSt K.l).asked⟩ := by
        rw [plSt_app]
        unfold PlV.next
        rw [if_pos haa, hat]
      obtain ⟨t1, t2, t3⟩ := h.tb c
      rw [ha]
      refine ⟨h.st, h.ok, ?_, h.n, Nat.le_succ_of_le h.ln, (by have := h.ll; simp; omega), hsq, h.last, fun d r' hr => ?_, fun d => ⟨(h.ses d).1, fun r' hr hd2 => ?_⟩, h.tb, ?_, fun d r' hr hd2 => ?_, fun y hy => ?_, fun a' ha' => ?_⟩
      rotate_right
      · rcases List.mem_append.1 ha' with ha' | ha'
        · exact Nat.le_succ_of_le (h.vs a' ha')
        · rw [List.mem_singleton.1 ha', ← ha]
          show (K.told c).vs.length ≤ i + 1
          have := h.ln
          omega
      · rw [stepsP_snoc, h.steps]
        show PV.step K.s a = _
        unfold PV.step
        have hiw : K.s.isW c r = true := by
          unfold PV.isW
          rw [hw]
          exact ReqV.eqb_iff.2 rfl
        rw [if_pos haa, ← ha]
        exact if_pos ⟨hE, hiw⟩
      · rw [hwt] at hr
        by_cases e : d = (c : Int)
        · rw [if_pos e] at hr; cases hr
        · rw [if_neg e] at hr; exact h.wait d r' hr
      · rw [hwt] at hr
        by_cases e : d = (c : Int)
        · rw [if_pos e] at hr; cases hr
        · rw [if_neg e] at hr; exact (h.ses d).2 r' hr hd2
      · rw [hpl]
        refine ⟨⟨?_, ?_⟩, h.pl.2⟩
        · show 0 ≤ max (plSt K.l).g (K.at_ c); omega
        · have := h.pl.1.2
          show max (plSt K.l).g (K.at_ c) ≤ (K.log.length : Int); omega
      · rw [hwt] at hr
        by_cases e : d = (c : Int)
        · rw [if_pos e] at hr; cases hr
        · rw [if_neg e] at hr
          rw [hpl]
          exact h.rt d r' hr hd2
      · have e : (K.l ++ [a]).length = K.l.length + 1 := by simp
        rw [e, ansL_app, if_pos haa] at hy
        rcases List.mem_append.1 hy with hy | hy
        · obtain ⟨g1, g2⟩ := h.good y hy
          exact ⟨by rw [goodA_app (ansL_lt hy)]; exact g1, g2⟩
        · obtain rfl := List.mem_singleton.1 hy
          rw [hac, hat]
          refine ⟨?_, t1⟩
          unfold goodA
          simp only [List.getElem?_concat_length, Option.getD_some]
          rw [← ha]
          exact r1
    · have hd' : K.done c = false := by simpa using hd
      rw [if_neg hd]
      have hs1 := (h.ses c).2 r hw hd'
      by_cases hW : Writes r.kind = true
      · rw [if_pos hW]
        have herr : K.st.err r.q = 0 := err_zero (by rw [w2]; exact hW) (by show (K.st.ss r.client).seq < r.seq; rw [w1]; exact hs1)
        obtain ⟨p1, -, -⟩ := put_ok herr
        have hn1 : (K.st.put r.q).n = K.log.length + 1 := by rw [p1]; show K.st.n + 1 = _; rw [h.n]
        have hlen : (K.log ++ [r]).length = K.log.length + 1 := by simp
        refine ⟨?_, okL_snoc h.ok (by rw [← h.st]; exact herr), h.steps, ?_, ?_, Nat.le_succ_of_le h.ll, hsq, h.last, h.wait, fun d => ⟨?_, fun r' hr hd2 => ?_⟩, fun d => ?_, ?_, fun d r' hr hd2 => ?_, fun y hy => ?_, fun a ha => Nat.le_succ_of_le (h.vs a ha)⟩
        · show K.st.put r.q = _; rw [runS_snoc, ← h.st]
        · show (K.st.put r.q).n = (K.log ++ [r]).length; rw [hn1, hlen]
        · show (K.log ++ [r]).length ≤ _; rw [hlen]; have := h.ln; omega
        · show ((K.st.put r.q).ss d).seq ≤ K.seq d
          rw [p1]
          show (if d = r.client then (⟨r.seq, K.st.n + 1, K.st.doRep r.q⟩ : Sess) else K.st.ss d).seq ≤ _
          by_cases e : d = r.client
          · rw [if_pos e]; show r.seq ≤ _; rw [w3, e, w1]; exact Int.le_refl _
          · rw [if_neg e]; exact (h.ses d).1
        · have hd3 : setF K.done c true d = false := hd2
          by_cases e : d = (c : Int)
          · rw [e, setF_eq] at hd3; cases hd3
          · rw [setF_ne e] at hd3
            show ((K.st.put r.q).ss d).seq < _
            rw [p1]
            show (if d = r.client then (⟨r.seq, K.st.n + 1, K.st.doRep r.q⟩ : Sess) else K.st.ss d).seq < _
            rw [if_neg (by rw [w1]; exact e)]
            exact (h.ses d).2 r' hr hd3
        · show 0 ≤ setF K.at_ c ((K.st.put r.q).n : Int) d ∧ setF K.at_ c ((K.st.put r.q).n : Int) d ≤ ((K.log ++ [r]).length : Int) ∧ (setF K.told c (K.st.rep r.q) d).vs.length ≤ (K.log ++ [r]).length
          rw [hlen, hn1]
          by_cases e : d = (c : Int)
          · rw [e, setF_eq, setF_eq, rep_vs]; refine ⟨by omega, by omega, Nat.zero_le _⟩
          · rw [setF_ne e, setF_ne e]; have := h.tb d; refine ⟨by omega, by omega, by omega⟩
        · have hp := h.pl
          have e1 : (plSt K.l).g ≤ ((K.log ++ [r]).length : Int) := by rw [hlen]; omega
          have e2 : ∀ c, (plSt K.l).asked c ≤ ((K.log ++ [r]).length : Int) := fun c => by rw [hlen]; have := (hp.2 c).2; omega
          exact ⟨⟨hp.1.1, e1⟩, fun c => ⟨(hp.2 c).1, e2 c⟩⟩
        · have hd3 : setF K.done c true d = true := hd2
          show rightP qt (K.log ++ [r]) (ansAct d r' (setF K.told c (K.st.rep r.q) d) (setF K.at_ c ((K.st.put r.q).n : Int) d)) ((plSt K.l).asked d) (setF K.at_ c ((K.st.put r.q).n : Int) d) true = true ∧ _ ≤ setF K.at_ c ((K.st.put r.q).n : Int) d
          by_cases e : d = (c : Int)
          · subst e
            have hw' : K.s.wait c = some r' := hr
            rw [hw] at hw'; injection hw' with hw'; subst hw'
            rw [setF_eq, setF_eq, hn1]
            have hask := h.pl.2 c
            refine ⟨?_, (show (plSt K.l).asked c ≤ ((K.log.length + 1 : Nat) : Int) by omega)⟩
            unfold rightP
            have ht : (((K.log.length + 1 : Nat) : Int) - 1).toNat = K.log.length := by omega
            rw [if_pos (show Writes (ansAct c r (K.st.rep r.q) ((K.log.length + 1 : Nat) : Int)).q.kind = true from hW), ht]
            simp only [List.getElem?_concat_length, Option.getD_some, List.take_left', List.take_append_of_le_length (Nat.le_refl K.log.length), List.take_length, Bool.and_eq_true, decide_eq_true_eq, hlen]
            refine ⟨⟨⟨⟨by omega, by omega⟩, by omega⟩, ReqV.eqb_iff.2 rfl⟩, ?_⟩
            rw [Rep.same_iff, ← h.st]
            rfl
          · rw [setF_ne e] at hd3
            rw [setF_ne e, setF_ne e]
            obtain ⟨q1, q2⟩ := h.rt d r' hr hd3
            exact ⟨rightP_mono q1 (h.tb d).1, q2⟩
        · obtain ⟨g1, g2⟩ := h.good y hy
          exact ⟨rightP_mono g1 g2, g2⟩
      · rw [if_neg hW]
        have hvs : (K.st.ask r.q).vs.length ≤ K.log.length := by
          rw [← h.n]
          exact ask_vs_le _ _ _ (by rw [h.st]; exact runS_few qt K.log _)
        refine ⟨h.st, h.ok, h.steps, h.n, Nat.le_succ_of_le h.ln, Nat.le_succ_of_le h.ll, hsq, h.last, h.wait, fun d => ⟨(h.ses d).1, fun r' hr hd2 => ?_⟩, fun d => ?_, h.pl, fun d r' hr hd2 => ?_, h.good, fun a ha => Nat.le_succ_of_le (h.vs a ha)⟩
        · have hd3 : setF K.done c true d = false := hd2
          by_cases e : d = (c : Int)
          · rw [e, setF_eq] at hd3; cases hd3
          · rw [setF_ne e] at hd3
            exact (h.ses d).2 r' hr hd3
        · show 0 ≤ setF K.at_ c (K.st.n : Int) d ∧ setF K.at_ c (K.st.n : Int) d ≤ (K.log.length : Int) ∧ (setF K.told c (K.st.ask r.q) d).vs.length ≤ K.log.length
          by_cases e : d = (c : Int)
          · rw [e, setF_eq, setF_eq, h.n]; exact ⟨by omega, by omega, hvs⟩
          · rw [setF_ne e, setF_ne e]; exact h.tb d
        · have hd3 : setF K.done c true d = true := hd2
          show rightP qt K.log (ansAct d r' (setF K.told c (K.st.ask r.q) d) (setF K.at_ c (K.st.n : Int) d)) ((plSt K.l).asked d) (setF K.at_ c (K.st.n : Int) d) true = true ∧ _ ≤ setF K.at_ c (K.st.n : Int) d
          by_cases e : d = (c : Int)
          · subst e
            have hw' : K.s.wait c = some r' := hr
            rw [hw] at hw'; injection hw' with hw'; subst hw'
            rw [setF_eq, setF_eq, h.n]
            refine ⟨?_, (h.pl.2 c).2⟩
            unfold rightP
            rw [if_neg (show ¬ Writes (ansAct c r (K.st.ask r.q) (K.log.length : Int)).q.kind = true from hW)]
            rw [Int.toNat_natCast, List.take_length]
            show (!true || (decide ((K.log.length : Int) ≤ K.log.length) && (K.st.ask r.q).same ((runF qt r.q.id K.log).ask r.q))) = true
            rw [runF_ask h.ok, ← h.st, (Rep.same_iff _ _).2 rfl]
            simp
          · rw [setF_ne e] at hd3
            rw [setF_ne e, setF_ne e]
            exact h.rt d r' hr hd3
theorem runM_J (qt : Int) : ∀ (ms : List MvV), ms.length ≤ 1000 → MkJ qt (runM qt ms) ms.length := by
  intro ms
  induction ms using snocInd with
  | h0 => intro _; exact MkJ.new qt
  | hs ms m ih =>
    intro hl
    rw [List.length_append] at hl
    rw [runM_snoc, List.length_append]
    exact (ih (by simp at hl; omega)).next (by simp at hl; omega) m.c_lt m.q
end Go.Proofs.Ytffahoocbjfdaaa

/- casebooklaw23.made: what it stores and loads. -/
namespace Go.Proofs.Ytffahoocbjfdaaa
open Go.RowKit
section
variable {own : Nat → Nat} {w wr w' : World} {p g b1 b2 b3 b4 : Nat} {V : Value} {K : MkV}
theorem MkB.far (h : MkB 0 own w wr p g b1 b2 b3 b4 V K) {b : Nat} (hb : own b ≠ 0) {k : Nat} (hk : own b = k) (h3 : k ≠ 3) (h9 : k ≠ 9) (i : Nat) (u : Value) : MkB k own w (wr.setCell ⟨b, i, none⟩ u) p g b1 b2 b3 b4 V K :=
  h.fr (S := fun x => x = b) ((Fr.refl (fun x => x = b) wr).setCell (p := ⟨b, i, none⟩) (.inr rfl) u) (fun x _ e => by rw [e, hk]) h3 h9 (by omega)
theorem MkB.set1 (h : MkB 0 own w wr p g b1 b2 b3 b4 V K) {c : Nat} (hc : c < 4) (v : Int) : MkB 0 own w (wr.setCell ⟨b1, c, none⟩ (.int .i64 v)) p g b1 b2 b3 b4 V ⟨K.s, K.l, K.st, K.log, setF K.seq c v, K.done, K.told, K.at_⟩ := by
  have hB := h.far (b := b1) (by rw [h.o1]; decide) h.o1 (by decide) (by decide) c (.int .i64 v)
  exact ⟨fun _ => hB.P (by decide), fun _ => hB.av (by decide), fun _ => hB.S (by decide), fun _ => hB.row (by decide), fun _ => hB.oV (by decide), fun _ => asked_set (h.k1 (by decide)) hc v _ rfl, fun _ => hB.k2 (by decide), fun _ => hB.k3 (by decide), fun _ => hB.k4 (by decide), hB.o1, hB.o2, hB.o3, hB.o4, hB.op, hB.og, hB.lo, hB.old⟩
theorem MkB.set4 (h : MkB 0 own w wr p g b1 b2 b3 b4 V K) {c : Nat} (hc : c < 4) (v : Int) : MkB 0 own w (wr.setCell ⟨b4, c, none⟩ (.int .i64 v)) p g b1 b2 b3 b4 V ⟨K.s, K.l, K.st, K.log, K.seq, K.done, K.told, setF K.at_ c v⟩ := by
  have hB := h.far (b := b4) (by rw [h.o4]; decide) h.o4 (by decide) (by decide) c (.int .i64 v)
  exact ⟨fun _ => hB.P (by decide), fun _ => hB.av (by decide), fun _ => hB.S (by decide), fun _ => hB.row (by decide), fun _ => hB.oV (by decide), fun _ => hB.k1 (by decide), fun _ => hB.k2 (by decide), fun _ => hB.k3 (by decide), fun _ => asked_set (h.k4 (by decide)) hc v _ rfl, hB.o1, hB.o2, hB.o3, hB.o4, hB.op, hB.og, hB.lo, hB.old⟩
theorem bool_set {w : World} {pb : Nat} {f : Int → Bool} {t : TypeId} (h : Bk w pb t #[.bool (f 0), .bool (f 1), .bool (f 2), .bool (f 3)]) {c : Nat} (hc : c < 4) (v : Bool) :
    Bk (w.setCell ⟨pb, c, none⟩ (.bool v)) pb t #[.bool (setF f c v 0), .bool (setF f c v 1), .bool (setF f c v 2), .bool (setF f c v 3)] := by
  have := h.set_ c (.bool v)
  rcases (by omega : c = 0 ∨ c = 1 ∨ c = 2 ∨ c = 3) with rfl | rfl | rfl | rfl <;> simpa [setF] using this
theorem bool_get {w : World} {pb : Nat} {f : Int → Bool} {t : TypeId} (h : Bk w pb t #[.bool (f 0), .bool (f 1), .bool (f 2), .bool (f 3)]) {c : Nat} (hc : c < 4) : w.cell? ⟨pb, c, none⟩ = some (.bool (f c)) := by
  rw [h.cell]
  rcases (by omega : c = 0 ∨ c = 1 ∨ c = 2 ∨ c = 3) with rfl | rfl | rfl | rfl <;> rfl
theorem MkB.set2 (h : MkB 0 own w wr p g b1 b2 b3 b4 V K) {c : Nat} (hc : c < 4) (v : Bool) : MkB 0 own w (wr.setCell ⟨b2, c, none⟩ (.bool v)) p g b1 b2 b3 b4 V ⟨K.s, K.l, K.st, K.log, K.seq, setF K.done c v, K.told, K.at_⟩ := by
  have hB := h.far (b := b2) (by rw [h.o2]; decide) h.o2 (by decide) (by decide) c (.bool v)
  exact ⟨fun _ => hB.P (by decide), fun _ => hB.av (by decide), fun _ => hB.S (by decide), fun _ => hB.row (by decide), fun _ => hB.oV (by decide), fun _ => hB.k1 (by decide), fun _ => bool_set (h.k2 (by decide)) hc v, fun _ => hB.k3 (by decide), fun _ => hB.k4 (by decide), hB.o1, hB.o2, hB.o3, hB.o4, hB.op, hB.og, hB.lo, hB.old⟩
theorem told_get {t : TypeId} {r : Int → Rep} {A : Nat → Option Addr} {ca : Nat → Nat} (h : Bk w b3 t (toldCells r A ca)) {c : Nat} (hc : c < 4) :
    w.cell? ⟨b3, c * 4, none⟩ = some (.int .i64 (r c).code) ∧ w.cell? ⟨b3, c * 4 + 1, none⟩ = some (.int .i64 (r c).ver) ∧ w.cell? ⟨b3, c * 4 + 2, none⟩ = some (.string (r c).data) ∧ w.cell? ⟨b3, c * 4 + 3, none⟩ = some (.slice (A c) (r c).vs.length (ca c)) := by
  simp only [h.cell]
  rcases (by omega : c = 0 ∨ c = 1 ∨ c = 2 ∨ c = 3) with rfl | rfl | rfl | rfl <;> exact ⟨rfl, rfl, rfl, rfl⟩
theorem told_set {t : TypeId} {r : Int → Rep} {A : Nat → Option Addr} {ca : Nat → Nat} (h : Bk w b3 t (toldCells r A ca)) {c : Nat} (hc : c < 4) (R : Rep) (A' : Option Addr) (c' : Nat) :
    Bk ((((w.setCell ⟨b3, c * 4, none⟩ (.int .i64 R.code)).setCell ⟨b3, c * 4 + 1, none⟩ (.int .i64 R.ver)).setCell ⟨b3, c * 4 + 2, none⟩ (.string R.data)).setCell ⟨b3, c * 4 + 3, none⟩ (.slice A' R.vs.length c')) b3 t (toldCells (setF r c R) (fun x => if x = c then A' else A x) (fun x => if x = c then c' else ca x)) := by
  have := (((h.set_ (c * 4) (.int .i64 R.code)).set_ (c * 4 + 1) (.int .i64 R.ver)).set_ (c * 4 + 2) (.string R.data)).set_ (c * 4 + 3) (.slice A' R.vs.length c')
  rcases (by omega : c = 0 ∨ c = 1 ∨ c = 2 ∨ c = 3) with rfl | rfl | rfl | rfl <;> simpa [setF, toldCells] using this
theorem MkB.set3 (h : MkB 0 own w wr p g b1 b2 b3 b4 V K) {c : Nat} (hc : c < 4) (R : Rep) (A' : Option Addr) (c' : Nat) (hI : IntsAt wr A' R.vs) (hA : R.vs ≠ [] → ∀ x, A' = some x → own x.block = 3) :
    MkB 0 own w ((((wr.setCell ⟨b3, c * 4, none⟩ (.int .i64 R.code)).setCell ⟨b3, c * 4 + 1, none⟩ (.int .i64 R.ver)).setCell ⟨b3, c * 4 + 2, none⟩ (.string R.data)).setCell ⟨b3, c * 4 + 3, none⟩ (.slice A' R.vs.length c')) p g b1 b2 b3 b4 V ⟨K.s, K.l, K.st, K.log, K.seq, K.done, setF K.told c R, K.at_⟩ := by
  obtain ⟨A, ca, h1, h2⟩ := h.k3 (by decide)
  have hs : ∀ {W : World} (i : Nat) (u : Value), Fr (fun k => k = b3) wr W → Fr (fun k => k = b3) wr (W.setCell ⟨b3, i, none⟩ u) := fun i u h => h.setCell (p := ⟨b3, i, none⟩) (.inr rfl) u
  have hf := hs (c * 4 + 3) (.slice A' R.vs.length c') (hs (c * 4 + 2) (.string R.data) (hs (c * 4 + 1) (.int .i64 R.ver) (hs (c * 4) (.int .i64 R.code) (Fr.refl _ wr))))
  have hB := h.fr hf (k := 7) (fun x _ e => by rw [e, h.o3]) (by decide) (by decide) (by decide)
  refine ⟨fun _ => hB.P (by decide), fun _ => hB.av (by decide), fun _ => hB.S (by decide), fun _ => hB.row (by decide), fun _ => hB.oV (by decide), fun _ => hB.k1 (by decide), fun _ => hB.k2 (by decide), fun _ => ⟨_, _, told_set h1 hc R A' c', fun d hd => ?_⟩, fun _ => hB.k4 (by decide), hB.o1, hB.o2, hB.o3, hB.o4, hB.op, hB.og, hB.lo, hB.old⟩
  by_cases e : d = c
  · subst e
    show IntsAt _ (if d = d then A' else A d) (setF K.told d R d).vs ∧ ((setF K.told d R d).vs ≠ [] → ∀ x, (if d = d then A' else A d) = some x → own x.block = 3)
    rw [if_pos rfl, setF_eq]
    refine ⟨CellsAt.fr hI hf (fun hne x hx hS => ?_), hA⟩
    have := hA (by simpa using hne) x hx
    rw [hS, h.o3] at this
    exact absurd this (by decide)
  · show IntsAt _ (if d = c then A' else A d) (setF K.told c R d).vs ∧ ((setF K.told c R d).vs ≠ [] → ∀ x, (if d = c then A' else A d) = some x → own x.block = 3)
    rw [if_neg e, setF_ne (by omega)]
    refine ⟨CellsAt.fr (h2 d hd).1 hf (fun hne x hx hS => ?_), (h2 d hd).2⟩
    have := (h2 d hd).2 (by simpa using hne) x hx
    rw [hS, h.o3] at this
    exact absurd this (by decide)
theorem MkB.app {W1 W2 : World} {A A2 : Option Addr} {ca c2 n : Nat} {q : ReqV} (h : MkB 0 own w wr p g b1 b2 b3 b4 (.slice A n ca) K) (hn : K.log.length = n) (ho : Old wr W1) (h2 : Apps W1 0 24 6 (.slice A n ca) (n + 1) (K.log.flatMap ReqV.cells ++ q.cells) (.slice A2 (n + 1) c2) W2) :
    ∃ own', MkB 0 own' w W2 p g b1 b2 b3 b4 (.slice A2 (n + 1) c2) ⟨K.s, K.l, K.st, K.log ++ [q], K.seq, K.done, K.told, K.at_⟩ := by
  have h1 := h.step ho
  have hf : Fr (fun b => (Value.slice A n ca).ownBlock = some b) W1 W2 := h2.fr (fun k _ hk => hk)
  obtain ⟨own', m1, m2, m3⟩ := mix own (fun b => (Value.slice A2 (n + 1) c2).ownBlock = some b) 4
  have hv2 : ∀ b, (Value.slice A2 (n + 1) c2).ownBlock = some b → own b = 4 ∨ W1.heap.size = b := fun b hb => by
    rcases h2.2.2 with e | e
    · exact .inl (h1.oV (by decide) b (e ▸ hb))
    · rw [hb] at e; injection e with e; exact .inr e.symm
  have hB := (h1.fr hf (k := 4) (fun b _ hb => h1.oV (by decide) b hb) (by decide) (by decide) (by decide)).re (own' := own') m1 (fun b hb => ?_)
  · refine ⟨own', fun _ => hB.P (by decide), fun _ => hB.av (by decide), fun _ => hB.S (by decide), fun _ => ?_, fun _ b hb => ?_, fun _ => hB.k1 (by decide), fun _ => hB.k2 (by decide), fun _ => hB.k3 (by decide), fun _ => hB.k4 (by decide), hB.o1, hB.o2, hB.o3, hB.o4, hB.op, hB.og, hB.lo, hB.old⟩
    · have := h2.own
      show W2.ownsRow 0 24 6 _ (K.log ++ [q]).length ((K.log ++ [q]).flatMap ReqV.cells)
      rw [List.length_append, hn]
      simpa using this
    · rcases hv2 b hb with e | e
      · rw [m1 b (by rw [e]; decide), e]
      · refine m2 b (Decidable.byContradiction fun h0 => ?_) hb
        have := (h1.lo b h0).2; omega
  · rcases m3 b hb with hb' | hb'
    · exact ⟨(h1.lo b hb').1, Nat.lt_of_lt_of_le (h1.lo b hb').2 hf.size⟩
    · have hl : b < W2.heap.size := own_lt8 h2.own hb'
      refine ⟨?_, hl⟩
      rcases hv2 b hb' with e | e
      · exact (h1.lo b (by rw [e]; decide)).1
      · have := h1.old.size; omega
end
end Go.Proofs.Ytffahoocbjfdaaa

/- What made makes is right: plain. -/
namespace Go.Proofs.Ytffahoocbjfdaaa
open Go.RowKit
theorem okLog_of {qt : Int} {log : List ReqV} (hq : 1 ≤ qt ∧ qt ≤ 100) (h : okL qt log) : okLog qt log = true := by
  unfold okLog
  rw [Bool.and_eq_true, Bool.and_eq_true]
  refine ⟨⟨by simpa using hq.1, by simpa using hq.2⟩, ?_⟩
  rw [List.all_eq_true]
  intro j hj
  rw [List.mem_range] at hj
  simpa using h j hj
theorem checkR_good (good : Nat × Int × Int → Bool) : ∀ (ys : List (Nat × Int × Int)) (c : Nat), (∀ y ∈ ys, good y = true) → checkR good c ys = 0
  | [], _, _ => rfl
  | y :: ys, c, h => by
    show (if good y then checkR good (c + 1) ys else _) = 0
    rw [if_pos (h y (by simp))]
    exact checkR_good good ys (c + 1) fun z hz => h z (by simp [hz])
theorem rightP_rd {qt : Int} {log : List ReqV} {x : ActV} {ask a : Int} {rd : Bool} (h : rightP qt log x ask a true = true) : rightP qt log x ask a rd = true := by
  unfold rightP at h ⊢
  split
  · rename_i hw; rw [if_pos hw] at h; exact h
  · rename_i hw
    rw [if_neg hw] at h
    cases rd
    · rfl
    · exact h
theorem MkJ.may {qt : Int} {K : MkV} {i : Nat} (h : MkJ qt K i) : mayP K.l = true := by unfold mayP; rw [h.steps]; rfl
theorem MkJ.check {qt : Int} {K : MkV} {i : Nat} (h : MkJ qt K i) (hq : 1 ≤ qt ∧ qt ≤ 100) (rd : Bool) : checkP K.l K.log qt rd = 0 := by
  unfold checkP
  rw [okLog_of hq h.ok, h.may]
  exact checkR_good _ _ _ fun y hy => rightP_rd (h.good y hy).1
theorem MkJ.few {qt : Int} {K : MkV} {i : Nat} (h : MkJ qt K i) (hi : i ≤ 1000) {l : List ActV} (hl : l.map ActV.nm = K.l) : Few23 l := by
  refine ⟨?_, fun a ha => ?_⟩
  · have h1 := h.ll
    rw [← hl, List.length_map] at h1
    omega
  · have h1 : a.nm ∈ K.l := hl ▸ List.mem_map_of_mem ha
    have h2 := h.vs _ h1
    have h3 : a.nm.r = a.r := rfl
    rw [h3] at h2
    omega
theorem mayP_take {l : List ActV} (h : mayP l = true) (k : Nat) : mayP (l.take k) = true := by
  unfold mayP at h ⊢
  cases e : stepsP (l.take k) with
  | some s => rfl
  | none =>
    have := stepsP_none (l.take k) (l.drop k) e
    rw [List.take_append_drop] at this
    rw [this] at h
    exact h
theorem ansL_take {l : List ActV} {k : Nat} (hk : k ≤ l.length) : ansL (l.take k) k = ansL l k := by
  unfold ansL
  have e : ∀ i ∈ List.range k, ((l.take k)[i]?.getD default) = (l[i]?.getD default) ∧ (l.take k).take i = l.take i := fun i hi => by
    rw [List.mem_range] at hi
    exact ⟨by rw [List.getElem?_take, if_pos hi], by rw [List.take_take, Nat.min_eq_left (by omega)]⟩
  rw [List.filter_congr (q := fun i => (l[i]?.getD default).ans) (fun i hi => by rw [(e i hi).1])]
  refine List.map_congr_left fun i hi => ?_
  obtain ⟨h1, h2⟩ := e i (List.mem_filter.1 hi).1
  rw [h1, h2]
theorem MkJ.pre {qt : Int} {K : MkV} {i : Nat} (h : MkJ qt K i) (hq : 1 ≤ qt ∧ qt ≤ 100) {k : Nat} (hk : k ≤ K.l.length) : checkP (K.l.take k) K.log qt true = 0 := by
  unfold checkP
  rw [okLog_of hq h.ok, mayP_take h.may]
  have hl : (K.l.take k).length = k := by rw [List.length_take]; omega
  rw [hl, ansL_take hk]
  obtain ⟨t, ht⟩ := ansL_pre K.l hk
  refine checkR_good _ _ _ fun y hy => ?_
  have h1 := (h.good y (by rw [ht]; exact List.mem_append.2 (.inl hy))).1
  have h2 := ansL_lt hy
  unfold goodA at h1 ⊢
  rw [List.getElem?_take, if_pos h2]
  exact h1
def rqM (d : ByteArray) : ReqV := ⟨3, 1073741824, 1, 5, 0, d⟩
theorem rqM_may {d : ByteArray} (hd : d.size ≤ 60) : (rqM d).q.may = true := by
  unfold Q.may rqM ReqV.q mayQ mayK
  simp
  omega
theorem MkJ.more {qt : Int} {K : MkV} {i : Nat} (h : MkJ qt K i) (hi : i ≤ 1000) (hq : 1 ≤ qt ∧ qt ≤ 100) {d : ByteArray} (hd : d.size ≤ 60) : checkP K.l (K.log ++ [rqM d]) qt true = 0 := by
  have hok : okL qt (K.log ++ [rqM d]) := okL_snoc h.ok (by
    rw [← h.st]
    refine err_zero (by rw [rqM_may hd]; rfl) ?_
    have h1 := (h.ses 3).1
    have h2 := (h.sq 3).2
    show (K.st.ss 3).seq < 1073741824
    omega)
  unfold checkP
  rw [okLog_of hq hok, h.may]
  exact checkR_good _ _ _ fun y hy => rightP_mono (h.good y hy).1 (h.good y hy).2
end Go.Proofs.Ytffahoocbjfdaaa

/- CheckFalse's law in plain Lean: an answer's reply turned; two neighbours of the log turned. -/
namespace Go.Proofs.Ytffahoocbjfdaaa
open Go.RowKit
def ActV.nr (a : ActV) : ActV := if a.ans then ⟨a.client, a.seq, true, a.q, Rep.zero, none, 0, a.at_⟩ else a
theorem nr_step (s : PV) (a : ActV) : s.step a.nr = s.step a := by
  unfold ActV.nr
  cases h : a.ans with
  | true => unfold PV.step; rw [if_pos rfl, if_pos rfl, if_pos h]
  | false => rfl
theorem nr_next (s : PlV) (a : ActV) : s.next a.nr = s.next a := by
  unfold ActV.nr
  cases h : a.ans with
  | true => unfold PlV.next PlV.at_; rw [if_pos rfl, if_pos rfl, if_pos h, if_pos rfl, if_pos h]
  | false => rfl
theorem nr_at (s : PlV) (a : ActV) : s.at_ a.nr = s.at_ a := by
  unfold ActV.nr
  cases h : a.ans with
  | true => unfold PlV.at_; rw [if_pos rfl, if_pos rfl, if_pos h]
  | false => rfl
theorem nr_ans (a : ActV) : a.nr.ans = a.ans := by unfold ActV.nr; cases h : a.ans <;> simp [h]
theorem nr_client (a : ActV) : a.nr.client = a.client := by unfold ActV.nr; split <;> rfl
theorem foldl_nr {β : Type} {f : β → ActV → β} (hf : ∀ b a, f b a.nr = f b a) : ∀ (l : List ActV) (b : β), (l.map ActV.nr).foldl f b = l.foldl f b
  | [], _ => rfl
  | a :: l, b => by simp only [List.map_cons, List.foldl_cons, hf]; exact foldl_nr hf l _
theorem stepsP_nr (l : List ActV) : stepsP (l.map ActV.nr) = stepsP l := foldl_nr (fun o a => by cases o <;> simp [nr_step]) l _
theorem plSt_nr (l : List ActV) : plSt (l.map ActV.nr) = plSt l := foldl_nr nr_next l _
theorem getD_nr (l : List ActV) (i : Nat) : (l.map ActV.nr)[i]?.getD default = (l[i]?.getD default).nr := by
  rw [List.getElem?_map]
  cases l[i]? <;> rfl
theorem ansL_nr (l : List ActV) (k : Nat) : ansL (l.map ActV.nr) k = ansL l k := by
  unfold ansL
  simp only [getD_nr, ← List.map_take, plSt_nr, nr_ans, nr_client, nr_at]
theorem ansL_nrE {l m : List ActV} (h : l.map ActV.nr = m.map ActV.nr) (k : Nat) : ansL l k = ansL m k := by rw [← ansL_nr l, h, ansL_nr]
theorem mayP_nrE {l m : List ActV} (h : l.map ActV.nr = m.map ActV.nr) : mayP l = mayP m := by unfold mayP; rw [← stepsP_nr l, h, stepsP_nr]
def ansI (l : List ActV) (k : Nat) : List Nat := (List.range k).filter fun i => (l[i]?.getD default).ans
theorem ansI_succ (l : List ActV) (k : Nat) : ansI l (k + 1) = ansI l k ++ (if (l[k]?.getD default).ans then [k] else []) := by
  unfold ansI
  rw [List.range_succ, List.filter_append]
  cases h : (l[k]?.getD default).ans <;> simp [h]
theorem ansI_length (l : List ActV) (k : Nat) : (ansI l k).length ≤ k := by
  unfold ansI
  exact Nat.le_trans (List.length_filter_le _ _) (by simp)
theorem ansL_get (l : List ActV) (k j : Nat) : ((ansL l k)[j]?).map (·.1) = (ansI l k)[j]? := by
  unfold ansL ansI
  rw [List.getElem?_map, Option.map_map]
  cases ((List.range k).filter fun i => (l[i]?.getD default).ans)[j]? <;> rfl
theorem ansI_mem {l : List ActV} {k i : Nat} (h : i ∈ ansI l k) : i < k ∧ (l[i]?.getD default).ans = true := by
  unfold ansI at h
  rw [List.mem_filter, List.mem_range] at h
  exact h
theorem ansI_nodup (l : List ActV) (k : Nat) : (ansI l k).Nodup := List.Pairwise.filter _ List.nodup_range
def ActV.turn (a : ActV) (v : Int) : ActV := ⟨a.client, a.seq, a.ans, a.q, ⟨a.r.code, v, a.r.data, a.r.vs⟩, a.A, a.cap, a.at_⟩
theorem turn_nr {a : ActV} (h : a.ans = true) (v : Int) : (a.turn v).nr = a.nr := by
  unfold ActV.nr ActV.turn
  rw [if_pos h, if_pos h]
theorem set_nr {l : List ActV} {i : Nat} {a : ActV} (hi : l[i]? = some a) (h : a.ans = true) (v : Int) : (l.set i (a.turn v)).map ActV.nr = l.map ActV.nr := by
  refine List.ext_getElem? fun j => ?_
  rw [List.getElem?_map, List.getElem?_map, List.getElem?_set]
  by_cases e : i = j
  · subst e
    rw [if_pos rfl]
    have := (List.getElem?_eq_some_iff.1 hi).1
    rw [if_pos this, hi]
    show some (a.turn v).nr = some a.nr
    rw [turn_nr h]
  · rw [if_neg e]
theorem rightP_turn {qt : Int} {log : List ReqV} {a : ActV} {ask at_ v : Int} (h : rightP qt log a ask at_ true = true) (hv : v ≠ a.r.ver) : rightP qt log (a.turn v) ask at_ true = false := by
  have key : ∀ R : Rep, a.r.same R = true → (a.turn v).r.same R = false := fun R hR => by
    have e := (Rep.same_iff _ _).1 hR
    cases hx : (a.turn v).r.same R with
    | false => rfl
    | true =>
      have e2 := (Rep.same_iff _ _).1 hx
      have e3 : (a.turn v).r.ver = R.ver := by rw [e2]
      exact absurd (e3.trans (by rw [← e])) hv
  unfold rightP at h ⊢
  have hq : (a.turn v).q = a.q := rfl
  rw [hq]
  by_cases hw : Writes a.q.kind = true
  · rw [if_pos hw] at h ⊢
    rw [Bool.and_eq_true] at h
    rw [key _ h.2, Bool.and_false]
  · rw [if_neg hw] at h ⊢
    simp only [Bool.not_true, Bool.false_or, Bool.and_eq_true] at h ⊢
    rw [key _ h.2, Bool.and_false]
theorem checkR_bad (good : Nat × Int × Int → Bool) (ys : List (Nat × Int × Int)) (c k : Nat) (y : Nat × Int × Int) (hk : ys[k]? = some y) (h1 : ∀ j < k, ∀ z, ys[j]? = some z → good z = true) (h2 : good y = false) : checkR good c ys = -(((c + k : Nat) : Int) + 1) := by
  induction ys generalizing c k with
  | nil => simp at hk
  | cons x ys ih =>
    cases k with
    | zero =>
      have e : x = y := by simpa using hk
      subst e
      show (if good x then _ else -((c : Int) + 1)) = _
      rw [h2]
      simp
    | succ k =>
      have hx := h1 0 (by omega) x rfl
      show (if good x then checkR good (c + 1) ys else _) = _
      rw [if_pos hx, ih (c + 1) k (by simpa using hk) (fun j hj z hz => h1 (j + 1) (by omega) z (by simpa using hz))]
      congr 2
      omega
theorem checkR_some (good : Nat × Int × Int → Bool) (ys : List (Nat × Int × Int)) (c k : Nat) (y : Nat × Int × Int) (hk : ys[k]? = some y) (h2 : good y = false) : checkR good c ys < 0 ∧ -(checkR good c ys) ≤ ((c + k + 1 : Nat) : Int) := by
  induction ys generalizing c k with
  | nil => simp at hk
  | cons x ys ih =>
    by_cases hx : good x = true
    · cases k with
      | zero =>
        have e : x = y := by simpa using hk
        rw [e, h2] at hx; cases hx
      | succ k =>
        have e : checkR good c (x :: ys) = checkR good (c + 1) ys := if_pos hx
        rw [e]
        have := ih (c + 1) k (by simpa using hk)
        refine ⟨this.1, by omega⟩
    · have e : checkR good c (x :: ys) = -((c : Int) + 1) := if_neg hx
      rw [e]
      omega
theorem MkJ.turned {qt : Int} {K : MkV} {i : Nat} (h : MkJ qt K i) (hq : 1 ≤ qt ∧ qt ≤ 100) {k n : Nat} {a : ActV} (hk : (ansI K.l K.l.length)[k]? = some n) (ha : K.l[n]? = some a) {v : Int} (hv : v ≠ a.r.ver) :
    checkP (K.l.set n (a.turn v)) K.log qt true = -((k : Int) + 1) := by
  obtain ⟨hn1, hn2⟩ := ansI_mem (List.mem_of_getElem? hk)
  rw [ha] at hn2
  have han : a.ans = true := hn2
  have hnr := set_nr ha han v
  unfold checkP
  rw [okLog_of hq h.ok, mayP_nrE hnr, h.may, List.length_set, ansL_nrE hnr]
  have hy : ∃ y, (ansL K.l K.l.length)[k]? = some y ∧ y.1 = n := by
    have := ansL_get K.l K.l.length k
    rw [hk] at this
    cases hc : (ansL K.l K.l.length)[k]? with
    | none => rw [hc] at this; cases this
    | some y => rw [hc] at this; exact ⟨y, rfl, by simpa using this⟩
  obtain ⟨y, hy1, hy2⟩ := hy
  have hgy := (h.good y (List.mem_of_getElem? hy1)).1
  have := checkR_bad (goodA qt K.log (K.l.set n (a.turn v)) true) (ansL K.l K.l.length) 0 k y hy1 (fun j hj z hz => ?_) ?_
  · simpa using this
  · have hg := (h.good z (List.mem_of_getElem? hz)).1
    have hzn : z.1 ≠ n := fun e => by
      have e1 := ansL_get K.l K.l.length j
      rw [hz] at e1
      have e2 : (ansI K.l K.l.length)[j]? = some n := by rw [← e1]; show some z.1 = _; rw [e]
      have hjl := (List.getElem?_eq_some_iff.1 e2).1
      have hkl := (List.getElem?_eq_some_iff.1 hk).1
      have := (List.getElem_inj (h₀ := hjl) (h₁ := hkl) (ansI_nodup K.l K.l.length)).1 (by rw [(List.getElem?_eq_some_iff.1 e2).2, (List.getElem?_eq_some_iff.1 hk).2])
      omega
    unfold goodA at hg ⊢
    rw [List.getElem?_set_ne (Ne.symm hzn)]
    exact hg
  · unfold goodA at hgy ⊢
    rw [hy2] at hgy ⊢
    rw [List.getElem?_set_self hn1]
    rw [ha] at hgy
    exact rightP_turn hgy hv
def swapL (log : List ReqV) (j : Nat) : List ReqV := (log.set j (log[j + 1]?.getD default)).set (j + 1) (log[j]?.getD default)
theorem swapL_length (log : List ReqV) (j : Nat) : (swapL log j).length = log.length := by simp [swapL]
def sc (j : Nat) (s : Nat × Nat) (a : ActV) : Nat × Nat := if s.2 = 0 then (if a.ans then (s.1 + 1, if Writes a.q.kind && (decide (a.at_ = (j : Int) + 1) || decide (a.at_ = (j : Int) + 2)) then s.1 + 1 else 0) else s) else s
def scL (j : Nat) (l : List ActV) : Nat × Nat := l.foldl (sc j) (0, 0)
theorem scL_snoc (j : Nat) (l : List ActV) (a : ActV) : scL j (l ++ [a]) = sc j (scL j l) a := by simp [scL]
theorem scL_nm (j : Nat) (l : List ActV) : scL j (l.map ActV.nm) = scL j l := foldl_nm (fun _ _ => rfl) l _
theorem scL_spec (j : Nat) (l : List ActV) : ((scL j l).2 = 0 → (scL j l).1 = (ansL l l.length).length) ∧ ((scL j l).2 ≠ 0 → ∃ y a, (ansL l l.length)[(scL j l).2 - 1]? = some y ∧ l[y.1]? = some a ∧ Writes a.q.kind = true ∧ (a.at_ = (j : Int) + 1 ∨ a.at_ = (j : Int) + 2) ∧ y.2.2 = a.at_) := by
  induction l using snocInd with
  | h0 => exact ⟨fun _ => rfl, fun h => absurd rfl h⟩
  | hs l a ih =>
    rw [scL_snoc]
    have hlen : (l ++ [a]).length = l.length + 1 := by simp
    rw [hlen, ansL_app]
    obtain ⟨s, hs⟩ : ∃ s, scL j l = s := ⟨_, rfl⟩
    rw [hs] at ih ⊢
    have old : s.2 ≠ 0 → ∃ y b, (ansL l l.length ++ (if a.ans then [(l.length, (plSt l).asked a.client, (plSt l).at_ a)] else []))[s.2 - 1]? = some y ∧ (l ++ [a])[y.1]? = some b ∧ Writes b.q.kind = true ∧ (b.at_ = (j : Int) + 1 ∨ b.at_ = (j : Int) + 2) ∧ y.2.2 = b.at_ := fun h => by
      obtain ⟨y, b, h1, h2, h3⟩ := ih.2 h
      have hl := (List.getElem?_eq_some_iff.1 h1).1
      have hl2 := (List.getElem?_eq_some_iff.1 h2).1
      exact ⟨y, b, by rw [List.getElem?_append_left hl]; exact h1, by rw [List.getElem?_append_left hl2]; exact h2, h3⟩
    unfold sc
    by_cases h0 : s.2 = 0
    · rw [if_pos h0]
      have hn := ih.1 h0
      cases ha : a.ans with
      | false =>
        rw [if_neg (by simp)]
        refine ⟨fun _ => by simpa using hn, fun h => absurd h0 h⟩
      | true =>
        rw [if_pos rfl, if_pos rfl]
        by_cases hc : (Writes a.q.kind && (decide (a.at_ = (j : Int) + 1) || decide (a.at_ = (j : Int) + 2))) = true
        · rw [if_pos hc]
          refine ⟨fun h => by simp at h, fun _ => ⟨(l.length, (plSt l).asked a.client, (plSt l).at_ a), a, ?_, ?_, ?_⟩⟩
          · show (_ ++ [_])[s.1 + 1 - 1]? = _
            rw [Nat.add_sub_cancel, hn]
            exact List.getElem?_concat_length
          · exact List.getElem?_concat_length
          · rw [Bool.and_eq_true, Bool.or_eq_true, decide_eq_true_eq, decide_eq_true_eq] at hc
            refine ⟨hc.1, hc.2, ?_⟩
            show (plSt l).at_ a = a.at_
            unfold PlV.at_
            rw [if_pos ha, if_pos hc.1]
        · rw [if_neg hc]
          refine ⟨fun _ => by simp [hn], fun h => absurd rfl h⟩
    · rw [if_neg h0]
      exact ⟨fun h => absurd h h0, old⟩
theorem log_ne {qt : Int} {log : List ReqV} (h : okL qt log) {j : Nat} (hj : j + 1 < log.length) : (log[j]?.getD default) ≠ (log[j + 1]?.getD default) := fun e => by
  have h1 := put_ok (h j (by omega))
  have h2 := (put_ok (h (j + 1) hj)).2.2
  have e2 : runS qt (log.take (j + 1)) = (runS qt (log.take j)).done (log[j]?.getD default).q := by
    rw [List.take_succ_eq_append_getElem (by omega), runS_snoc]
    have : log[j]?.getD default = log[j] := by rw [List.getElem?_eq_getElem (by omega)]; rfl
    rw [← this]
    exact h1.1
  rw [e2, ← e] at h2
  have e3 : (((runS qt (log.take j)).done (log[j]?.getD default).q).ss (log[j]?.getD default).q.client).seq = (log[j]?.getD default).q.seq := by
    show (if _ = _ then _ else _ : Sess).seq = _
    rw [if_pos rfl]
  rw [e3] at h2
  omega
theorem swap_get {log : List ReqV} {j : Nat} (hj : j + 1 < log.length) : (swapL log j)[j]?.getD default = log[j + 1]?.getD default ∧ (swapL log j)[j + 1]?.getD default = log[j]?.getD default := by
  unfold swapL
  refine ⟨?_, ?_⟩
  · rw [List.getElem?_set_ne (by omega), List.getElem?_set_self (by omega)]; rfl
  · rw [List.getElem?_set_self (by simp; omega)]; rfl
theorem MkJ.swapped {qt : Int} {K : MkV} {i : Nat} (h : MkJ qt K i) {j : Nat} (hj : j + 1 < K.log.length) {E : Int} (hE : checkP K.l (swapL K.log j) qt false = E) :
    (scL j K.l).2 = 0 ∨ (E < 0 ∧ -E ≤ ((scL j K.l).2 : Int)) ∨ E = 1 := by
  by_cases h0 : (scL j K.l).2 = 0
  · exact .inl h0
  · right
    obtain ⟨y, a, h1, h2, h3, h4, h5⟩ := (scL_spec j K.l).2 h0
    unfold checkP at hE
    by_cases hok : okLog qt (swapL K.log j) = true
    · left
      rw [hok, h.may] at hE
      have hgy := (h.good y (List.mem_of_getElem? h1)).1
      have hbad : goodA qt (swapL K.log j) K.l false y = false := by
        unfold goodA at hgy ⊢
        rw [h2, h5] at hgy
        rw [h2, h5]
        unfold rightP at hgy ⊢
        have hw' : Writes ((some a).getD default).q.kind = true := h3
        rw [if_pos hw'] at hgy ⊢
        simp only [Bool.and_eq_true, decide_eq_true_eq] at hgy
        have hgy4 : ((K.log[(a.at_ - 1).toNat]?.getD default).eqb ((some a).getD default).q) = true := hgy.1.2
        have e4 := ReqV.eqb_iff.1 hgy4
        have hne : ((swapL K.log j)[(a.at_ - 1).toNat]?.getD default).eqb ((some a).getD default).q = false := by
          cases hx : ((swapL K.log j)[(a.at_ - 1).toNat]?.getD default).eqb ((some a).getD default).q with
          | false => rfl
          | true =>
            have e5 := ReqV.eqb_iff.1 hx
            rw [← e4] at e5
            have hd := log_ne h.ok hj
            rcases h4 with h4 | h4
            · have et : (a.at_ - 1).toNat = j := by omega
              rw [et, (swap_get hj).1] at e5
              exact absurd e5.symm hd
            · have et : (a.at_ - 1).toNat = j + 1 := by omega
              rw [et, (swap_get hj).2] at e5
              exact absurd e5 hd
        rw [hne]
        simp
      have := checkR_some (goodA qt (swapL K.log j) K.l false) _ 0 _ y h1 hbad
      rw [show (true && true) = true from rfl, if_pos rfl] at hE
      rw [hE] at this
      refine ⟨this.1, by omega⟩
    · right
      have hok' : okLog qt (swapL K.log j) = false := by simpa using hok
      rw [hok'] at hE
      exact hE.symm
end Go.Proofs.Ytffahoocbjfdaaa
