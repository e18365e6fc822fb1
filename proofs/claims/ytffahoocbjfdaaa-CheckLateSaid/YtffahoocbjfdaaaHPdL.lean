/- A history that a law writes down by the document's P, beside a log of requests. -/
import Derived.Test.YtffahoocbjfdaaaHPdN
import Derived.Test.YtffahoocbjfdaaaHCCw
namespace Go.Proofs.Ytffahoocbjfdaaa
open Go.RowKit

/-! ### where versions lie does not matter -/
def ActV.nm (a : ActV) : ActV := ⟨a.client, a.seq, a.ans, a.q, a.r, none, 0, a.at_⟩
theorem foldl_nm {β : Type} {f : β → ActV → β} (hf : ∀ b a, f b a.nm = f b a) : ∀ (l : List ActV) (b : β), (l.map ActV.nm).foldl f b = l.foldl f b
  | [], _ => rfl
  | a :: l, b => by simp only [List.map_cons, List.foldl_cons, hf]; exact foldl_nm hf l _
theorem stepsP_nm (l : List ActV) : stepsP (l.map ActV.nm) = stepsP l := foldl_nm (fun _ _ => rfl) l _
theorem plSt_nm (l : List ActV) : plSt (l.map ActV.nm) = plSt l := foldl_nm (fun _ _ => rfl) l _
theorem getD_nm (l : List ActV) (i : Nat) : (l.map ActV.nm)[i]?.getD default = (l[i]?.getD default).nm := by
  rw [List.getElem?_map]
  cases l[i]? <;> rfl
theorem ansL_nm (l : List ActV) (k : Nat) : ansL (l.map ActV.nm) k = ansL l k := by
  unfold ansL
  simp only [getD_nm, ← List.map_take, plSt_nm]
  rfl
theorem checkP_nm (l : List ActV) (log : List ReqV) (qt : Int) (rd : Bool) : checkP (l.map ActV.nm) log qt rd = checkP l log qt rd := by
  have hg : goodA qt log (l.map ActV.nm) rd = goodA qt log l rd := by
    funext y
    unfold goodA
    rw [getD_nm]
    rfl
  unfold checkP mayP
  rw [stepsP_nm, hg, ansL_nm, List.length_map]
theorem checkP_eq {l m : List ActV} (h : l.map ActV.nm = m) (log : List ReqV) (qt : Int) (rd : Bool) : checkP l log qt rd = checkP m log qt rd := by rw [← h, checkP_nm]

/-! ### P and a log, side by side -/
structure PL (w wr : World) (p : Nat) (s : PV) (l : List ActV) (V : Value) (n : Nat) (log : List ReqV) : Prop where
  ex : ∃ F, PdAt wr p F s l ∧ (∀ b, F b → w.heap.size ≤ b) ∧ (∀ b, V.ownBlock = some b → ¬ F b ∧ w.heap.size ≤ b)
  row : wr.ownsRow 0 24 6 V n (log.flatMap ReqV.cells)
  off : ∀ a ∈ l, a.r.vs ≠ [] → ∀ x, a.A = some x → V.ownBlock ≠ some x.block
  old : Old w wr
section
variable {w wr w' : World} {p n : Nat} {s : PV} {l : List ActV} {V : Value} {log : List ReqV}
theorem PL.step (h : PL w wr p s l V n log) (hf : Old wr w') : PL w w' p s l V n log := by
  obtain ⟨⟨F, h1, h2, h3⟩, h4, h5, h6⟩ := h
  exact ⟨⟨F, h1.old hf, h2, h3⟩, own_old h4 hf, h5, h6.trans' hf⟩
theorem PL.ask (h : PL w wr p s l V n log) (m : Nat) (hm : l.length = m) (hfew : m ≤ 50000) (q : ReqV) (E : Int) (hE : s.askE q = E) (s' : PV) (hs' : s.ask q = s') :
    Calls Try.prog 19 #[.pointer (some ⟨p, 0, none⟩), .agg #[.int .i64 q.client, .int .i64 q.seq, .int .i64 q.kind, .int .i64 q.id, .int .i64 q.mat, .string q.data]] wr fun e w' => e = .returned (.int .i64 E) ∧ PL w w' p s' (if E = 0 then l ++ [askAct q] else l) V n log := by
  obtain ⟨⟨F, h1, h2, h3⟩, h4, h5, h6⟩ := h
  refine (DAsk_at p F s l m hm hfew q E hE s' hs' wr h1).mono ?_
  rintro e w' ⟨rfl, ⟨F', g1, g2⟩, g3⟩
  refine ⟨rfl, ⟨F', g1, fun b hb => ?_, fun b hb => ⟨fun hF => ?_, (h3 b hb).2⟩⟩, own_fr h4 g3 (fun k hk => (h3 k hk).1), fun a ha hne x hx => ?_, h6.fr_new g3 h2⟩
  · rcases g2 b hb with e | e
    · exact h2 b e
    · have := h6.size; omega
  · rcases g2 b hF with e | e
    · exact (h3 b hb).1 e
    · have := own_lt8 h4 hb; omega
  · split at ha
    · rcases List.mem_append.1 ha with ha | ha
      · exact h5 a ha hne x hx
      · rw [List.mem_singleton.1 ha] at hne; exact absurd rfl hne
    · exact h5 a ha hne x hx
theorem PL.ans (h : PL w wr p s l V n log) (m : Nat) (hm : l.length = m) (hfew : m ≤ 50000) (c sq at_ : Int) (r : Rep) (A : Option Addr) (vn ca : Nat) (hvn : r.vs.length = vn) (hv : vn ≤ 50000) (E : Int) (hE : s.ansE c sq at_ = E) (s' : PV) (hs' : s.ans c sq at_ = s') (hI : IntsAt wr A r.vs) :
    Calls Try.prog 20 #[.pointer (some ⟨p, 0, none⟩), .int .i64 c, .int .i64 sq, .agg #[.int .i64 r.code, .int .i64 r.ver, .string r.data, .slice A vn ca], .int .i64 at_] wr fun e w' => e = .returned (.int .i64 E) ∧
      ∃ l', PL w w' p s' l' V n log ∧ (E ≠ 0 → l' = l) ∧ (E = 0 → ∃ q AV cV, s.wait c = some q ∧ l' = l ++ [⟨c, sq, true, q, r, AV, cV, at_⟩]) := by
  obtain ⟨⟨F, h1, h2, h3⟩, h4, h5, h6⟩ := h
  refine (DAns_at p F s l m hm hfew c sq at_ r A vn ca hvn hv E hE s' hs' wr h1 hI).mono ?_
  rintro e w' ⟨rfl, ⟨F', l', g1, g2, g4, g5⟩, g3⟩
  refine ⟨rfl, l', ⟨⟨F', g1, fun b hb => ?_, fun b hb => ⟨fun hF => ?_, (h3 b hb).2⟩⟩, own_fr h4 g3 (fun k hk => (h3 k hk).1), fun a ha hne x hx => ?_, h6.fr_new g3 h2⟩, g4, fun hz => ?_⟩
  · rcases g2 b hb with e | e
    · exact h2 b e
    · have := h6.size; omega
  · rcases g2 b hF with e | e
    · exact (h3 b hb).1 e
    · have := own_lt8 h4 hb; omega
  · by_cases hz : E = 0
    · obtain ⟨q, AV, cV, -, rfl, g6⟩ := g5 hz
      rcases List.mem_append.1 ha with ha | ha
      · exact h5 a ha hne x hx
      · rw [List.mem_singleton.1 ha] at hx
        have k1 := g6 x hx
        intro e
        have := own_lt8 h4 e
        omega
    · rw [g4 hz] at ha
      exact h5 a ha hne x hx
  · obtain ⟨q, AV, cV, k1, k2, -⟩ := g5 hz
    exact ⟨q, AV, cV, k1, k2⟩
theorem PL.app {w1 W2 : World} {A A2 : Option Addr} {ca c2 : Nat} {q : ReqV} (h : PL w wr p s l (.slice A n ca) n log) (ho : Old wr w1) (h2 : Apps w1 0 24 6 (.slice A n ca) (n + 1) (log.flatMap ReqV.cells ++ q.cells) (.slice A2 (n + 1) c2) W2) :
    PL w W2 p s l (.slice A2 (n + 1) c2) (n + 1) (log ++ [q]) := by
  obtain ⟨⟨F, h1, g2, h3⟩, h4, h5, h6⟩ := h
  have hf : Fr (fun b => (Value.slice A n ca).ownBlock = some b) w1 W2 := h2.fr (fun k _ hk => hk)
  have hs := ho.size
  have hv2 : ∀ b, (Value.slice A2 (n + 1) c2).ownBlock = some b → (Value.slice A n ca).ownBlock = some b ∨ w1.heap.size = b := fun b hb => by
    rcases h2.2.2 with e | e
    · exact .inl (e ▸ hb)
    · rw [hb] at e; injection e with e; exact .inr e.symm
  refine ⟨⟨F, (h1.old ho).fr hf (fun k hk e => (h3 k e).1 hk) (fun a ha hne x hx e => h5 a ha hne x hx e), g2, fun b hb => ?_⟩, by simpa using h2.own, fun a ha hne x hx e => ?_, (h6.trans' ho).fr_new hf (fun b hb => (h3 b hb).2)⟩
  · rcases hv2 b hb with e | e
    · exact h3 b e
    · have := h6.size
      exact ⟨fun hF => by have := h1.lt b hF; omega, by omega⟩
  · rcases hv2 _ e with e | e
    · exact h5 a ha hne x hx e
    · obtain ⟨b', o', e1, e2, -⟩ := (h1.vs a ha).1 (by simpa using hne)
      rw [e1] at hx; injection hx with hx; rw [← hx] at e
      have e' : w1.heap.size = b' := e
      omega
theorem PL.new {w1 : World} (ho : Old w w1) (hb : Bk w1 p 52 pdCells) (hp : w.heap.size ≤ p) : PL w w1 p PV.new [] (.slice none 0 0) 0 [] :=
  ⟨⟨_, Pd_new hb, fun b e => e ▸ hp, fun b hb => (by cases hb)⟩, World.ownsRow_nil _ _ _ _, fun a ha => (by cases ha), ho⟩
theorem PL.acts (h : PL w wr p s l V n log) : ∃ A ca, wr.cell? ⟨p, 0, none⟩ = some (.slice A l.length ca) ∧ l.length ≤ ca ∧ ActsAt wr A l := by
  obtain ⟨⟨F, h1, g2, h3⟩, h4, h5, h6⟩ := h
  exact h1.acts
end
theorem info_Req : (Try.prog.info? 24).map (fun i => (i.zero, i.size, i.bytes)) = some (some (.agg #[.int .i64 0, .int .i64 0, .int .i64 0, .int .i64 0, .int .i64 0, .string { data := #[] }]), 6, 56) := by kernel_rfl

/-! ### CheckStale's history -/
def bx : ByteArray := ⟨#[120]⟩
def rqS (i : Nat) : ReqV := ⟨0, (i : Int) + 1, if i = 0 then 1 else 2, 1, 0, bx⟩
def anS (i : Nat) : ActV := ⟨0, (i : Int) + 1, true, rqS i, ⟨1, (i : Int) + 1, ⟨#[]⟩, []⟩, none, 0, (i : Int) + 1⟩
def pvS : Nat → PV
  | 0 => PV.new
  | j + 1 => ((pvS j).ask (rqS j)).ans 0 ((j : Int) + 1) ((j : Int) + 1)
def acS (j : Nat) : List ActV := (List.range j).flatMap fun i => [askAct (rqS i), anS i]
theorem acS_succ (j : Nat) : acS (j + 1) = acS j ++ [askAct (rqS j), anS j] := by simp [acS, List.range_succ]
def logS (j : Nat) : List ReqV := (List.range j).map rqS
theorem logS_succ (j : Nat) : logS (j + 1) = logS j ++ [rqS j] := by simp [logS, List.range_succ]
theorem pvS_ask : ∀ j < 10, (pvS j).askE (rqS j) = 0 := by decide +kernel
theorem pvS_ans : ∀ j < 10, ((pvS j).ask (rqS j)).ansE 0 ((j : Int) + 1) ((j : Int) + 1) = 0 := by decide +kernel
/-- who reads -/
def rqT : ReqV := ⟨1, 1, 6, 1, 0, ⟨#[]⟩⟩
def reS (o : Nat) : Rep := if o = 0 then ⟨2, 0, ⟨#[]⟩, []⟩ else ⟨1, o, ⟨#[]⟩, (List.range o).map fun i : Nat => (i : Int) + 1⟩
theorem pvS_ask2 : ∀ k < 11, (pvS k).askE rqT = 0 := by decide +kernel
theorem pvS_ans2 : ∀ k < 11, ∀ o : Nat, o < 11 → ((pvS k).ask rqT).ansE 1 1 o = 0 := by decide +kernel
def finS (k o : Nat) : List ActV := acS k ++ [askAct rqT, ⟨1, 1, true, rqT, reS o, none, 0, o⟩]
set_option maxRecDepth 100000 in
theorem stale_law : ∀ k < 11, ∀ o < k, checkP (finS k o) (logS k) 20 true = -((k : Int) + 1) ∧ checkP (finS k o) (logS k) 20 false = 0 := by decide +kernel
end Go.Proofs.Ytffahoocbjfdaaa
