/- casebooklaw23.CheckLate: the walk. -/
import Derived.Test.YtffahoocbjfdaaaHCSt
import Derived.Test.YtffahoocbjfdaaaHBits
namespace Go.Proofs.Ytffahoocbjfdaaa
open Go.RowKit

/-! ### plain -/
def sw (j i : Nat) : Nat := if i = j then j + 1 else if i = j + 1 then j else i
def rqL (i : Nat) : ReqV := ⟨(i : Int) % 4, (i : Int) / 4 + 1, 1, (i : Int), 0, bx⟩
def rqZ : ReqV := ⟨0, 0, 0, 0, 0, ⟨#[]⟩⟩
def anL (j i : Nat) : ActV := ⟨(i : Int) % 4, (i : Int) / 4 + 1, true, rqL i, ⟨1, 1, ⟨#[]⟩, []⟩, none, 0, ((sw j i : Nat) : Int) + 1⟩
def pvL (j : Nat) : Nat → PV
  | 0 => PV.new
  | i + 1 => ((pvL j i).ask (rqL i)).ans ((i : Int) % 4) ((i : Int) / 4 + 1) (((sw j i : Nat) : Int) + 1)
def acL (j i : Nat) : List ActV := (List.range i).flatMap fun i => [askAct (rqL i), anL j i]
theorem acL_succ (j i : Nat) : acL j (i + 1) = acL j i ++ [askAct (rqL i), anL j i] := by simp [acL, List.range_succ]
theorem acL_length (j i : Nat) : (acL j i).length = 2 * i := by
  induction i with
  | zero => rfl
  | succ i ih => rw [acL_succ, List.length_append, ih]; rfl
def logP (K j i : Nat) : List ReqV := (List.range K).map fun p => if sw j p < i then rqL (sw j p) else rqZ
theorem logP_length (K j i : Nat) : (logP K j i).length = K := by simp [logP]
theorem sw_sw (j i : Nat) : sw j (sw j i) = i := by unfold sw; split <;> split <;> (try split) <;> omega
theorem sw_lt {K j i : Nat} (hj : j + 1 < K) (hi : i < K) : sw j i < K := by unfold sw; split <;> (try split) <;> omega
theorem logP_succ {K j i : Nat} (hj : j + 1 < K) (hi : i < K) : logP K j (i + 1) = (logP K j i).set (sw j i) (rqL i) := by
  refine List.ext_getElem (by simp [logP]) fun p h1 h2 => ?_
  rw [List.getElem_set]
  simp only [logP, List.getElem_map, List.getElem_range]
  by_cases e : sw j i = p
  · have : sw j p = i := by rw [← e, sw_sw]
    rw [if_pos e, this, if_pos (by omega)]
  · have : sw j p ≠ i := fun h => e (by rw [← h, sw_sw])
    rw [if_neg e]
    by_cases h : sw j p < i
    · rw [if_pos h, if_pos (by omega)]
    · rw [if_neg h, if_neg (by omega)]
theorem logP_zero (K j : Nat) : logP K j 0 = List.replicate K rqZ := by
  refine List.ext_getElem (by simp [logP]) fun p h1 h2 => ?_
  simp [logP]
theorem made_log {K : Nat} (hK : K ≤ 10) : (madeCells (Value.agg #[.int .i64 0, .int .i64 0, .int .i64 0, .int .i64 0, .int .i64 0, .string { data := #[] }]).cells (K * 6)).toList = (List.replicate K rqZ).flatMap ReqV.cells := by
  rcases (by omega : K = 0 ∨ K = 1 ∨ K = 2 ∨ K = 3 ∨ K = 4 ∨ K = 5 ∨ K = 6 ∨ K = 7 ∨ K = 8 ∨ K = 9 ∨ K = 10) with rfl | rfl | rfl | rfl | rfl | rfl | rfl | rfl | rfl | rfl | rfl <;> kernel_rfl
theorem pvL_ask : ∀ j < 10, ∀ i < 10, (pvL j i).askE (rqL i) = 0 := by decide +kernel
theorem pvL_ans : ∀ j < 10, ∀ i < 10, ((pvL j i).ask (rqL i)).ansE ((i : Int) % 4) ((i : Int) / 4 + 1) (((sw j i : Nat) : Int) + 1) = 0 := by decide +kernel
set_option maxRecDepth 100000 in
theorem late_law : ∀ K < 11, ∀ j < K, j + 1 < K → checkP (acL j K) (logP K j K) 20 true = -((j : Int) + 2) := by decide +kernel
theorem set_c (x : ReqV) (L : List Value) (m t : Nat) (u : Value) : (x.cells ++ L).set ((m + 1) * 6 + t) u = x.cells ++ L.set (m * 6 + t) u := by
  have hc : x.cells.length = 6 := rfl
  rw [List.set_append, if_neg (by omega), hc, show (m + 1) * 6 + t - 6 = m * 6 + t by omega]
theorem set_c0 (x : ReqV) (L : List Value) (m : Nat) (u : Value) : (x.cells ++ L).set ((m + 1) * 6) u = x.cells ++ L.set (m * 6) u := set_c x L m 0 u
theorem set_flat {q : ReqV} : ∀ {l : List ReqV} {m : Nat}, m < l.length →
    ((((((l.flatMap ReqV.cells).set (m * 6) (.int .i64 q.client)).set (m * 6 + 1) (.int .i64 q.seq)).set (m * 6 + 2) (.int .i64 q.kind)).set (m * 6 + 3) (.int .i64 q.id)).set (m * 6 + 4) (.int .i64 q.mat)).set (m * 6 + 5) (.string q.data) = (l.set m q).flatMap ReqV.cells
  | [], _, h => by cases h
  | x :: l, 0, _ => rfl
  | x :: l, m + 1, h => by
    rw [List.set_cons_succ, List.flatMap_cons, List.flatMap_cons, ← set_flat (l := l) (m := m) (by simpa using h)]
    rw [set_c0, set_c, set_c, set_c, set_c, set_c]
theorem rowcells {w : World} {b n ca m : Nat} {log : List ReqV} (h : w.ownsRow 0 24 6 (.slice (some ⟨b, 0, none⟩) n ca) n (log.flatMap ReqV.cells)) (hm : m < log.length) :
    b < w.heap.size ∧ (∃ v, w.cell? ⟨b, m * 6, none⟩ = some v) ∧ (∃ v, w.cell? ⟨b, m * 6 + 1, none⟩ = some v) ∧ (∃ v, w.cell? ⟨b, m * 6 + 2, none⟩ = some v) ∧ (∃ v, w.cell? ⟨b, m * 6 + 3, none⟩ = some v) ∧ (∃ v, w.cell? ⟨b, m * 6 + 4, none⟩ = some v) ∧ (∃ v, w.cell? ⟨b, m * 6 + 5, none⟩ = some v) := by
  have hl : (log.flatMap ReqV.cells).length = log.length * 6 := by
    clear h hm
    induction log with
    | nil => rfl
    | cons x l ih => rw [List.flatMap_cons, List.length_append, ih]; simp [ReqV.cells]; omega
  have hc : ∀ t < 6, ∃ v, w.cell? ⟨b, m * 6 + t, none⟩ = some v := fun t ht => ⟨_, own_cells h _ _ (List.getElem?_eq_getElem (by omega))⟩
  exact ⟨own_lt h, hc 0 (by omega), hc 1 (by omega), hc 2 (by omega), hc 3 (by omega), hc 4 (by omega), hc 5 (by omega)⟩
theorem PL.row_ {w W1 w2 : World} {p K : Nat} {s : PV} {l : List ActV} {log : List ReqV} (h : PL w W1 p s l (.slice none 0 0) 0 []) (hl : l = []) (hr : w2.ownsRow 0 24 6 (.slice (some ⟨W1.heap.size, 0, none⟩) K K) K (log.flatMap ReqV.cells)) (hg : W1.grownBy w2 none) :
    PL w w2 p s l (.slice (some ⟨W1.heap.size, 0, none⟩) K K) K log := by
  obtain ⟨⟨F, h1, g2, h3⟩, h4, h5, h6⟩ := h
  have ho : Old W1 w2 := Fr.old (Fr.of_grown hg (fun k _ e => by cases e))
  refine ⟨⟨F, h1.old ho, g2, fun b hb => ?_⟩, hr, fun a ha => (by rw [hl] at ha; cases ha), h6.trans' ho⟩
  obtain rfl : W1.heap.size = b := by injection hb
  exact ⟨fun hF => by have := h1.lt _ hF; omega, h6.size⟩
/-- beside a block that is held -/
structure PLh (w wr : World) (p : Nat) (s : PV) (l : List ActV) (V : Value) (n : Nat) (log : List ReqV) (b : Nat) (t : TypeId) (cs : Array Value) : Prop where
  ex : ∃ F, PdAt wr p F s l ∧ (∀ b, F b → w.heap.size ≤ b) ∧ (∀ b, V.ownBlock = some b → ¬ F b ∧ w.heap.size ≤ b) ∧ ¬ F b
  row : wr.ownsRow 0 24 6 V n (log.flatMap ReqV.cells)
  off : ∀ a ∈ l, a.r.vs ≠ [] → ∀ x, a.A = some x → V.ownBlock ≠ some x.block
  old : Old w wr
  bk : Bk wr b t cs
  ne : V.ownBlock ≠ some b
section
variable {w wr W2 w' : World} {p n b : Nat} {s : PV} {l : List ActV} {V : Value} {log : List ReqV} {t : TypeId} {cs : Array Value}
theorem PLh.pl (h : PLh w wr p s l V n log b t cs) : PL w wr p s l V n log := by
  obtain ⟨⟨F, h1, h2, h3, -⟩, h4, h5, h6, -, -⟩ := h
  exact ⟨⟨F, h1, h2, h3⟩, h4, h5, h6⟩
theorem PL.held (h : PL w wr p s l V n log) (ho : Old wr W2) (hb : wr.heap.size ≤ b) (hk : Bk W2 b t cs) : PLh w W2 p s l V n log b t cs := by
  obtain ⟨⟨F, h1, h2, h3⟩, h4, h5, h6⟩ := h
  refine ⟨⟨F, h1.old ho, h2, h3, fun hF => ?_⟩, own_old h4 ho, h5, h6.trans' ho, hk, fun e => ?_⟩
  · have := h1.lt b hF; omega
  · have := own_lt8 h4 e; omega
theorem PLh.put6 {wr' : World} {bl ca m : Nat} (h : PLh w wr p s l (.slice (some ⟨bl, 0, none⟩) n ca) n log b t cs) (hm : m < log.length) (q : ReqV)
    (hw : wr' = (((((wr.setCell ⟨bl, m * 6, none⟩ (.int .i64 q.client)).setCell ⟨bl, m * 6 + 1, none⟩ (.int .i64 q.seq)).setCell ⟨bl, m * 6 + 2, none⟩ (.int .i64 q.kind)).setCell ⟨bl, m * 6 + 3, none⟩ (.int .i64 q.id)).setCell ⟨bl, m * 6 + 4, none⟩ (.int .i64 q.mat)).setCell ⟨bl, m * 6 + 5, none⟩ (.string q.data)) :
    PLh w wr' p s l (.slice (some ⟨bl, 0, none⟩) n ca) n (log.set m q) b t cs := by
  obtain ⟨⟨F, h1, g2, h3, h8⟩, h4, h5, h6, h7, h9⟩ := h
  have hf : Fr (fun k => k = bl) wr wr' := by
    rw [hw]
    have hs : ∀ {W : World} (i : Nat) (u : Value), Fr (fun k => k = bl) wr W → Fr (fun k => k = bl) wr (W.setCell ⟨bl, i, none⟩ u) := fun i u h => h.setCell (p := ⟨bl, i, none⟩) (.inr rfl) u
    exact hs _ _ (hs _ _ (hs _ _ (hs _ _ (hs _ _ (hs _ _ (Fr.refl _ _))))))
  obtain ⟨k1, k2⟩ := h3 bl rfl
  refine ⟨⟨F, h1.fr hf (fun k hk e => k1 (e ▸ hk)) (fun a ha hne x hx e => h5 a ha hne x hx (by rw [e]; rfl)), g2, h3, h8⟩, ?_, h5, h6.fr_new hf (fun k e => e ▸ k2), h7.fr hf (fun e => h9 (by rw [e]; rfl)), h9⟩
  rw [hw, ← set_flat hm]
  exact own_store (own_store (own_store (own_store (own_store (own_store h4 _ _) _ _) _ _) _ _) _ _) _ _
theorem PLh.ask (h : PLh w wr p s l V n log b t cs) (m : Nat) (hm : l.length = m) (hfew : m ≤ 50000) (q : ReqV) (E : Int) (hE : s.askE q = E) (s' : PV) (hs' : s.ask q = s') :
    Calls Try.prog 19 #[.pointer (some ⟨p, 0, none⟩), .agg #[.int .i64 q.client, .int .i64 q.seq, .int .i64 q.kind, .int .i64 q.id, .int .i64 q.mat, .string q.data]] wr fun e w' => e = .returned (.int .i64 E) ∧ PLh w w' p s' (if E = 0 then l ++ [askAct q] else l) V n log b t cs := by
  obtain ⟨⟨F, h1, h2, h3, h8⟩, h4, h5, h6, h7, h9⟩ := h
  refine (DAsk_at p F s l m hm hfew q E hE s' hs' wr h1).mono ?_
  rintro e w' ⟨rfl, ⟨F', g1, g2⟩, g3⟩
  refine ⟨rfl, ⟨F', g1, fun b hb => ?_, fun b hb => ⟨fun hF => ?_, (h3 b hb).2⟩, fun hF => ?_⟩, own_fr h4 g3 (fun k hk => (h3 k hk).1), fun a ha hne x hx => ?_, h6.fr_new g3 h2, h7.fr g3 h8, h9⟩
  · rcases g2 b hb with e | e
    · exact h2 b e
    · have := h6.size; omega
  · rcases g2 b hF with e | e
    · exact (h3 b hb).1 e
    · have := own_lt8 h4 hb; omega
  · rcases g2 b hF with e | e
    · exact h8 e
    · have := h7.lt; omega
  · split at ha
    · rcases List.mem_append.1 ha with ha | ha
      · exact h5 a ha hne x hx
      · rw [List.mem_singleton.1 ha] at hne; exact absurd rfl hne
    · exact h5 a ha hne x hx
end
theorem and_three (x : Int) : bits .and .i64 x 3 = x % 4 := by
  show IntKind.i64.wrap (((BitVec.ofInt 64 x &&& BitVec.ofInt 64 3).toNat : Nat) : Int) = x % 4
  rw [BitVec.toNat_and, ofInt_toNat64, ofInt_toNat64, show ((3 : Int) % 18446744073709551616).toNat = 2 ^ 2 - 1 from rfl, Nat.and_two_pow_sub_one_eq_mod]
  rw [IntWalk.i64_in _ (by omega)]
  omega
theorem finL_few {K j : Nat} (hK : K ≤ 10) {l6 : List ActV} (h : l6.map ActV.nm = acL j K) : Few23 l6 := by
  have hl := congrArg List.length h
  rw [List.length_map, acL_length] at hl
  refine ⟨by rw [hl]; omega, fun a ha => ?_⟩
  have h1 : a.nm ∈ acL j K := h ▸ List.mem_map_of_mem ha
  have e : a.nm.r = a.r := rfl
  rw [← e]
  simp only [acL, List.mem_flatMap] at h1
  obtain ⟨i, -, h2⟩ := h1
  simp only [List.mem_cons, List.not_mem_nil, or_false] at h2
  rcases h2 with h2 | h2 <;> rw [h2] <;> simp [askAct, anL, Rep.zero]
set_option maxRecDepth 100000 in
set_option maxHeartbeats 4000000 in
theorem Late_walk (a b : Int) (w : World) :
    Calls Try.prog 8 #[.int .i64 a, .int .i64 b] w fun e w' => e = .returned (.bool true) ∧ Old w w' := by
  obtain ⟨i0, hi0, hz0, hz1, hz2⟩ := info_parts info_Req
  obtain ⟨y, hy, hyl⟩ := umod23 a 9 (by omega) (by omega)
  obtain ⟨M, hM⟩ : ∃ M : Nat, y + 1 = M := ⟨_, rfl⟩
  obtain ⟨K, hK⟩ : ∃ K : Nat, M + 1 = K := ⟨_, rfl⟩
  have hKi : (2 : Int) + (y : Int) = (K : Int) := by omega
  have hKm : (K : Int) - 1 = (M : Int) := by omega
  obtain ⟨j, hj, hjl⟩ := umod23 b M (by omega) (by omega)
  have hK10 : (K : Int) ≤ 10 := by omega
  go_enter Try.func8, Try.ntmps8
  go_upto_region 3 with fail
  simp only [hy, hj]
  have hK10' : K ≤ 10 := by omega
  have hjK : j + 1 < K := by omega
  clear hy hj hKi hKm hyl hjl hK hM
  go_upto_region 4 with fail
  obtain ⟨p, hpz⟩ : ∃ x, w.heap.size = x := ⟨_, rfl⟩
  obtain ⟨W1, hW1⟩ : ∃ X, w.alloc (.cells #[.slice none 0 0, .int .i64 0, .int .i64 0, .int .i64 0, .int .i64 0, .int .i64 0, .int .i64 0, .int .i64 0, .int .i64 0, .int .i64 0, .string { data := #[] }, .int .i64 0, .int .i64 0, .int .i64 0, .int .i64 0, .int .i64 0, .string { data := #[] }, .int .i64 0, .int .i64 0, .int .i64 0, .int .i64 0, .int .i64 0, .string { data := #[] }, .int .i64 0, .int .i64 0, .int .i64 0, .int .i64 0, .int .i64 0, .string { data := #[] }] 52) = X := ⟨_, rfl⟩
  have hp : PL w W1 p (pvL j 0) [] (.slice none 0 0) 0 [] := PL.new (by rw [← hW1]; exact (Old.refl' w).alloc' _) (by rw [← hW1, ← hpz]; exact Bk.new w 52 pdCells) (by omega)
  rw [hW1]
  simp only [hpz]
  clear hW1 hpz
  go_wp2_with (with_reducible refine wpList_make_full _ rfl (.tmp 26) (.tmp 26) 29 rfl 0 24 i0 (.agg #[.int .i64 0, .int .i64 0, .int .i64 0, .int .i64 0, .int .i64 0, .string { data := #[] }]) 6 Try.underlying29 hi0 hz0 hz1 .i64 .i64 (K : Int) (K : Int) K rfl rfl rfl rfl (by rw [hz2]; omega) (by unfold maxLen; omega) (Nat.zero_le _) ?_; intro w2 hrow hgr)
  have hp2 := hp.row_ rfl (by rw [← made_log hK10', ]; exact hrow) hgr
  rw [← logP_zero K j] at hp2
  obtain ⟨bl, hbl⟩ : ∃ x, W1.heap.size = x := ⟨_, rfl⟩
  rw [hbl] at hp2
  simp only [hbl]
  clear hbl hp hrow hgr
  go_loopw [9] (fun iv wr => ∃ i l, i ≤ K ∧ iv = .int .i64 (i : Nat) ∧ l.map ActV.nm = acL j i ∧ PL w wr p (pvL j i) l (.slice (some ⟨bl, 0, none⟩) K K) K (logP K j i)) (fun iv _ => K - (intOf iv).toNat)
  case atStart => exact ⟨0, [], Nat.zero_le _, rfl, rfl, hp2⟩
  case round =>
    clear hp2
    obtain ⟨i, l, hiK, rfl, hln, pr⟩ := hrel
    by_cases hlt : i < K
    · have hi10 : i < 10 := by omega
      have hlm : l.length = 2 * i := by have := congrArg List.length hln; rw [List.length_map] at this; rw [this]; exact acL_length j i
      have hE := pvL_ask j (by omega) i hi10
      have hE2 := pvL_ans j (by omega) i hi10
      have hwt := ask_wait hE
      have hand := and_three (i : Int)
      have hilt : (i : Int) < 10 := by omega
      have cA := hide (fun (W : World) (b3 : Nat) (h : PLh w W p (pvL j i) l (.slice (some ⟨bl, 0, none⟩) K K) K (logP K j (i + 1)) b3 24 #[.int .i64 ((i : Int) % 4), .int .i64 ((i : Int) / 4 + 1), .int .i64 1, .int .i64 (i : Int), .int .i64 0, .string { data := #[120] }]) => h.ask (2 * i) hlm (by omega) (rqL i) 0 hE _ rfl)
      have cB := hide (fun (W : World) (h : PL w W p ((pvL j i).ask (rqL i)) (l ++ [askAct (rqL i)]) (.slice (some ⟨bl, 0, none⟩) K K) K (logP K j (i + 1))) => h.ans (2 * i + 1) (by rw [List.length_append, hlm]; rfl) (by omega) ((i : Int) % 4) ((i : Int) / 4 + 1) (((sw j i : Nat) : Int) + 1) ⟨1, 1, { data := #[] }, []⟩ none 0 0 rfl (by omega) 0 hE2 _ rfl (CellsAt.nil _ _))
      have hF := hide (fun (W : World) (l5 : List ActV) (h : PL w W p (((pvL j i).ask (rqL i)).ans ((i : Int) % 4) ((i : Int) / 4 + 1) (((sw j i : Nat) : Int) + 1)) l5 (.slice (some ⟨bl, 0, none⟩) K K) K (logP K j (i + 1))) (h5 : ∃ q AV cV, ((pvL j i).ask (rqL i)).wait ((i : Int) % 4) = some q ∧ l5 = (l ++ [askAct (rqL i)]) ++ [⟨(i : Int) % 4, (i : Int) / 4 + 1, true, q, ⟨1, 1, { data := #[] }, []⟩, AV, cV, ((sw j i : Nat) : Int) + 1⟩]) =>
        (by
          obtain ⟨q, AV, cV, e1, e2⟩ := h5
          rw [show ((pvL j i).ask (rqL i)).wait ((i : Int) % 4) = some (rqL i) from hwt] at e1
          injection e1 with e1
          subst e1
          refine ⟨i + 1, l5, by omega, by go_num, ?_, h⟩
          rw [e2, acL_succ, ← hln]
          simp [ActV.nm, anL, askAct] : ∃ i' l', i' ≤ K ∧ (Value.int .i64 ((i : Int) + 1)) = .int .i64 (i' : Nat) ∧ l'.map ActV.nm = acL j i' ∧ PL w W p (pvL j i') l' (.slice (some ⟨bl, 0, none⟩) K K) K (logP K j i')))
      clear hln hlm hE hE2 hwt
      go_upto_region 9 with fail
      obtain ⟨b3, hb3⟩ : ∃ x, wr.heap.size = x := ⟨_, rfl⟩
      obtain ⟨W2, hW2⟩ : ∃ X, wr.alloc (.cells #[.int .i64 ((i : Int) % 4), .int .i64 ((i : Int) / 4 + 1), .int .i64 1, .int .i64 (i : Int), .int .i64 0, .string { data := #[120] }] 24) = X := ⟨_, rfl⟩
      have o2 : Old wr W2 := by rw [← hW2]; exact (Old.refl' wr).alloc' _
      have k2 : Bk W2 b3 24 #[.int .i64 ((i : Int) % 4), .int .i64 ((i : Int) / 4 + 1), .int .i64 1, .int .i64 (i : Int), .int .i64 0, .string { data := #[120] }] := by rw [← hW2, ← hb3]; exact Bk.new wr 24 _
      try rw [hb3] at hW2
      simp only [hb3, hW2]
      have hb3' := hide hb3
      clear hW2 hb3
      obtain ⟨x1, hx1⟩ : ∃ x : Nat, (if i = j then j + 2 else i + 1) = x := ⟨_, rfl⟩
      obtain ⟨m, hm⟩ : ∃ x : Nat, sw j i = x := ⟨_, rfl⟩
      have hmK : m < K := hm ▸ sw_lt hjK hlt
      have hxm : (if i = j + 1 then j + 1 else x1) = m + 1 := by rw [← hm, ← hx1]; unfold sw; split <;> split <;> (try split) <;> omega
      rw [hm] at cB hF
      have HX1 := hide hx1
      have HXM := hide hxm
      have HM := hide hm
      clear hx1 hxm hm
      go_upto_if 44 with fail
      go_cut [11] from 44 to 46 (fun v w' => v = .int .i64 (x1 : Nat) ∧ w' = W2)
      case first =>
        by_cases hij : i = j
        · have hb : ((i : Int) == (j : Int)) = true := by simp [hij]
          have e1 := hide (show (j : Int) + 2 = (x1 : Int) by have := HX1.out; rw [if_pos hij] at this; omega)
          clear hij
          go_wp2_with fail
          go_meet
          case rel => exact ⟨by rw [e1.out], rfl⟩
        · have hb : ((i : Int) == (j : Int)) = false := by simp; omega
          have e1 := hide (show (i : Int) + 1 = (x1 : Int) by have := HX1.out; rw [if_neg hij] at this; omega)
          clear hij
          go_wp2_with fail
          go_meet
          case rel => exact ⟨by rw [e1.out], rfl⟩
      case rest =>
        obtain ⟨rfl, rfl⟩ := hcut
        go_upto_if 50 with fail
        go_cut [11] from 50 to 52 (fun v w' => v = .int .i64 ((m : Nat) + 1) ∧ w' = wc)
        case first =>
          by_cases hij : i = j + 1
          · have hb : ((i : Int) == (j : Int) + 1) = true := by simp [hij]
            have e1 := hide (show (j : Int) + 1 = (m : Int) + 1 by have := HXM.out; rw [if_pos hij] at this; omega)
            clear hij
            go_wp2_with fail
            go_meet
            case rel => exact ⟨by rw [e1.out], rfl⟩
          · have hb : ((i : Int) == (j : Int) + 1) = false := by simp; omega
            have e1 := hide (show (x1 : Int) = (m : Int) + 1 by have := HXM.out; rw [if_neg hij] at this; omega)
            clear hij
            go_wp2_with fail
            go_meet
            case rel => exact ⟨by rw [e1.out], rfl⟩
        case rest =>
          obtain ⟨rfl, rfl⟩ := hcut
          obtain ⟨⟨x0, x1, x2, x3, x4, x5⟩, lx⟩ := bk6 k2
          have hml : m < (logP K j i).length := by rw [logP_length]; exact hmK
          obtain ⟨y, ⟨v0, y0⟩, ⟨v1, y1⟩, ⟨v2, y2⟩, ⟨v3, y3⟩, ⟨v4, y4⟩, ⟨v5, y5⟩⟩ := rowcells (pr.step o2).row hml
          have z0 := own_frozen (pr.step o2).row (m * 6)
          have z1 := own_frozen (pr.step o2).row (m * 6 + 1)
          have z2 := own_frozen (pr.step o2).row (m * 6 + 2)
          have z3 := own_frozen (pr.step o2).row (m * 6 + 3)
          have z4 := own_frozen (pr.step o2).row (m * 6 + 4)
          have z5 := own_frozen (pr.step o2).row (m * 6 + 5)
          have pr3 := hide (show PLh w _ p (pvL j i) l (.slice (some ⟨bl, 0, none⟩) K K) K (logP K j (i + 1)) b3 24 #[.int .i64 ((i : Int) % 4), .int .i64 ((i : Int) / 4 + 1), .int .i64 1, .int .i64 (i : Int), .int .i64 0, .string { data := #[120] }] by rw [logP_succ hjK hlt, HM.out]; exact (pr.held o2 (Nat.le_of_eq hb3'.out) k2).put6 hml (rqL i) rfl)
          go_upto_region 15 with fail
          obtain ⟨W3, hW3⟩ : ∃ X, (((((wc.setCell ⟨bl, m * 6, none⟩ (.int .i64 (rqL i).client)).setCell ⟨bl, m * 6 + 1, none⟩ (.int .i64 (rqL i).seq)).setCell ⟨bl, m * 6 + 2, none⟩ (.int .i64 (rqL i).kind)).setCell ⟨bl, m * 6 + 3, none⟩ (.int .i64 (rqL i).id)).setCell ⟨bl, m * 6 + 4, none⟩ (.int .i64 (rqL i).mat)).setCell ⟨bl, m * 6 + 5, none⟩ (.string (rqL i).data) = X := ⟨_, rfl⟩
          have pr4 := pr3.out
          rw [hW3] at pr4
          rw [show (((((wc.setCell ⟨bl, m * 6, none⟩ (.int .i64 ((i : Int) % 4))).setCell ⟨bl, m * 6 + 1, none⟩ (.int .i64 ((i : Int) / 4 + 1))).setCell ⟨bl, m * 6 + 2, none⟩ (.int .i64 1)).setCell ⟨bl, m * 6 + 3, none⟩ (.int .i64 i)).setCell ⟨bl, m * 6 + 4, none⟩ (.int .i64 0)).setCell ⟨bl, m * 6 + 5, none⟩ (.string { data := #[120] }) = W3 from hW3]
          clear hW3 x0 x1 x2 x3 x4 x5 lx y v0 y0 v1 y1 v2 y2 v3 y3 v4 y4 v5 y5 z0 z1 z2 z3 z4 z5 pr3 k2
          obtain ⟨⟨x0, x1, x2, x3, x4, x5⟩, lx⟩ := bk6 pr4.bk
          have P4 := hide (cA.out W3 b3 pr4)
          clear pr4 pr
          go_upto_region 16 with fail
          refine P4.out.mono ?_
          rintro e W4 ⟨rfl, pr4⟩
          rw [if_pos (by trivial)] at pr4
          clear x0 x1 x2 x3 x4 x5 lx
          obtain ⟨⟨x0, x1, x2, x3, x4, x5⟩, lx⟩ := bk6 pr4.bk
          have P5 := hide (cB.out W4 pr4.pl)
          clear pr4
          go_upto_region 7 with fail
          refine P5.out.mono ?_
          rintro e W5 ⟨rfl, l5, pr5, -, hl5⟩
          have hfin := hide (hF.out W5 l5 pr5 (hl5 (by trivial)))
          clear pr5 hl5 x0 x1 x2 x3 x4 x5 lx
          go_wp2_with fail
          go_roundw
          case rel => exact hfin.out
          case measure => simp [intOf]; omega
    · obtain rfl : K = i := by omega
      have hlm : l.length = 2 * K := by have := congrArg List.length hln; rw [List.length_map] at this; rw [this]; exact acL_length j K
      obtain ⟨A6, c6, hc6, hca6, hA6⟩ := pr.acts
      obtain ⟨n6, hn6⟩ : ∃ n, l.length = n := ⟨_, rfl⟩
      rw [hn6] at hc6
      have hQ6 := CellsAt.of_own pr.row
      have hFew := finL_few (K := K) (by omega) hln
      have hLaw := late_law K (by omega) j (by omega) hjK
      have cC := hide (fun (U : World) (h : Old wr U) => Check_any A6 n6 c6 l hn6.symm hFew (some ⟨bl, 0, none⟩) K K (logP K j K) (logP_length K j K).symm (by omega) (Nat.le_refl _) 20 true (-((j : Int) + 2)) ((checkP_eq hln _ _ _).trans hLaw) U (hA6.old h) (hQ6.old h))
      have hp6 : p < wr.heap.size := lt_of_cell hc6
      have HO := hide pr.old
      have HC := hide hc6
      have hjj : (j : Int) ≤ 100 := by omega
      clear hlm hln hn6 hQ6 hA6 hca6 hFew hLaw pr hc6
      go_wp2_with fail
      refine (told23_any _).mono ?_
      rintro e W7 ⟨rfl, b7⟩
      have z0 := (b7.cell (p := ⟨p, 0, none⟩) hp6).trans HC.out
      have z1 : p < W7.heap.size := Nat.lt_of_lt_of_le hp6 b7.size
      go_wp2_with fail
      with_reducible refine (cC.out W7 b7).mono ?_
      rintro e W8 ⟨rfl, b8⟩
      go_wp2_with fail
      go_ret
      exact ⟨by simp, HO.out.trans' (b7.trans' b8)⟩
end Go.Proofs.Ytffahoocbjfdaaa
