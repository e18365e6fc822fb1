/- casebooklaw23.made: the walk. -/
import Derived.Test.YtffahoocbjfdaaaHMk
namespace Go.Proofs.Ytffahoocbjfdaaa
open Go.RowKit
instance : Inhabited MvV := ⟨⟨0, 0, default⟩⟩
def MvV.cells (m : MvV) : List Value := [.int .i64 m.kind, .int .i64 m.client] ++ m.q.cells
def MovesAt (w : World) (A : Option Addr) (ms : List MvV) : Prop := CellsAt w A (ms.flatMap MvV.cells)
theorem mvCells_length (ms : List MvV) : (ms.flatMap MvV.cells).length = ms.length * 8 := by
  induction ms with
  | nil => rfl
  | cons q qs ih =>
    have : q.cells.length = 8 := rfl
    simp only [List.flatMap_cons, List.length_append, List.length_cons, ih, this]
    omega
theorem mvCells_get (ms : List MvV) : ∀ k j, k < ms.length → j < 8 → (ms.flatMap MvV.cells)[k * 8 + j]? = (ms[k]?.getD default).cells[j]? := by
  induction ms with
  | nil => intro k j h; simp at h
  | cons q qs ih =>
    intro k j hk hj
    rw [List.flatMap_cons]
    have hc : q.cells.length = 8 := rfl
    cases k with
    | zero => rw [List.getElem?_append_left (by rw [hc]; omega)]; simp
    | succ k =>
      rw [List.getElem?_append_right (by rw [hc]; omega), hc, show (k + 1) * 8 + j - 8 = k * 8 + j from by omega]
      simpa using ih k j (by simpa using hk) hj
theorem MovesAt.at_ {w : World} {A : Option Addr} {ms : List MvV} (h : MovesAt w A ms) {k : Nat} (hk : k < ms.length) :
    ∃ b o, A = some ⟨b, o, none⟩ ∧ b < w.heap.size ∧ ∀ j u, j < 8 → (ms[k]?.getD default).cells[j]? = some u → w.cell? ⟨b, o + k * 8 + j, none⟩ = some u := by
  obtain ⟨b, o, rfl, hb, hc⟩ := h (fun e => by have := mvCells_length ms; rw [e] at this; simp at this; omega)
  exact ⟨b, o, rfl, hb, fun j u hj hu => by rw [Nat.add_assoc]; exact hc _ _ ((mvCells_get ms k j hk hj).trans hu)⟩
def MkV.nm (K : MkV) : MkV := ⟨K.s, K.l.map ActV.nm, K.st, K.log, K.seq, K.done, K.told, K.at_⟩
theorem MkB.new {w W : World} {p g b1 b2 b3 b4 : Nat} {qt : Int} (hp : Bk W p 52 pdCells) (hg : Bk W g 61 (sdCells qt)) (h1 : Bk W b1 49 #[.int .i64 0, .int .i64 0, .int .i64 0, .int .i64 0]) (h2 : Bk W b2 62 #[.bool false, .bool false, .bool false, .bool false]) (h3 : Bk W b3 59 #[.int .i64 0, .int .i64 0, .string { data := #[] }, .slice none 0 0, .int .i64 0, .int .i64 0, .string { data := #[] }, .slice none 0 0, .int .i64 0, .int .i64 0, .string { data := #[] }, .slice none 0 0, .int .i64 0, .int .i64 0, .string { data := #[] }, .slice none 0 0]) (h4 : Bk W b4 49 #[.int .i64 0, .int .i64 0, .int .i64 0, .int .i64 0])
    (k1 : w.heap.size ≤ p) (k2 : p < g) (k3 : g < b1) (k4 : b1 < b2) (k5 : b2 < b3) (k6 : b3 < b4) (ho : Old w W) : ∃ own, MkB 0 own w W p g b1 b2 b3 b4 (.slice none 0 0) (MkV.new qt) := by
  have l6 := h4.lt
  refine ⟨fun b => if b = p then 1 else if b = g then 2 else if b = b1 then 5 else if b = b2 then 6 else if b = b3 then 7 else if b = b4 then 8 else 0, fun _ => ⟨_, Pd_new hp, fun b e => ?_⟩, (fun _ a ha => by cases ha), fun _ => ⟨_, SD_new hg, fun b e => ?_⟩, fun _ => World.ownsRow_nil _ _ _ _, (fun _ b hb => by cases hb), fun _ => h1, fun _ => h2, fun _ => ⟨fun _ => none, fun _ => 0, h3, fun c hc => ⟨CellsAt.nil _ _, fun h => absurd rfl h⟩⟩, fun _ => h4, ?_, ?_, ?_, ?_, ?_, ?_, fun b hb => ?_, ho⟩
  · show (if b = p then 1 else _) = 1; rw [if_pos e]
  · show (if b = p then 1 else if b = g then 2 else _) = 2; rw [if_neg (by omega), if_pos e]
  · show (if b1 = p then 1 else if b1 = g then 2 else if b1 = b1 then 5 else _) = 5; rw [if_neg (by omega), if_neg (by omega), if_pos rfl]
  · show (if b2 = p then 1 else if b2 = g then 2 else if b2 = b1 then 5 else if b2 = b2 then 6 else _) = 6; rw [if_neg (by omega), if_neg (by omega), if_neg (by omega), if_pos rfl]
  · show (if b3 = p then 1 else if b3 = g then 2 else if b3 = b1 then 5 else if b3 = b2 then 6 else if b3 = b3 then 7 else _) = 7; rw [if_neg (by omega), if_neg (by omega), if_neg (by omega), if_neg (by omega), if_pos rfl]
  · show (if b4 = p then 1 else if b4 = g then 2 else if b4 = b1 then 5 else if b4 = b2 then 6 else if b4 = b3 then 7 else if b4 = b4 then 8 else 0) = 8; rw [if_neg (by omega), if_neg (by omega), if_neg (by omega), if_neg (by omega), if_neg (by omega), if_pos rfl]
  · show (if p = p then 1 else _) = 1; rw [if_pos rfl]
  · show (if g = p then 1 else if g = g then 2 else _) = 2; rw [if_neg (by omega), if_pos rfl]
  · have hb' : (if b = p then 1 else if b = g then 2 else if b = b1 then 5 else if b = b2 then 6 else if b = b3 then 7 else if b = b4 then 8 else 0) ≠ 0 := hb
    by_cases e1 : b = p
    · omega
    by_cases e2 : b = g
    · omega
    by_cases e3 : b = b1
    · omega
    by_cases e4 : b = b2
    · omega
    by_cases e5 : b = b3
    · omega
    by_cases e6 : b = b4
    · omega
    rw [if_neg e1, if_neg e2, if_neg e3, if_neg e4, if_neg e5, if_neg e6] at hb'
    exact absurd rfl hb'
theorem setF_setF {α : Type} (f : Int → α) (c : Int) (a b : α) : setF (setF f c a) c b = setF f c b := by
  funext x
  unfold setF
  split <;> rfl
theorem nextA {K : MkV} {c : Nat} {x : ReqV} (hw : K.s.wait c = none) (hE : K.s.askE (K.q c x) = 0) : K.next c x = ⟨K.s.ask (K.q c x), K.l ++ [askAct (K.q c x)], K.st, K.log, setF K.seq c (K.seq c + 1), setF K.done c false, K.told, K.at_⟩ := by
  unfold MkV.next
  rw [hw]
  exact if_pos hE
theorem nextA' {K : MkV} {c : Nat} {x : ReqV} (hw : K.s.wait c = none) (hE : K.s.askE (K.q c x) ≠ 0) : K.next c x = K := by
  unfold MkV.next
  rw [hw]
  exact if_neg hE
theorem nextC {K : MkV} {c : Nat} {x r : ReqV} (hw : K.s.wait c = some r) (hd : K.done c = true) : K.next c x = ⟨K.s.ans c r.seq (K.at_ c), K.l ++ [ansAct c r (K.told c) (K.at_ c)], K.st, K.log, K.seq, K.done, K.told, K.at_⟩ := by
  unfold MkV.next
  rw [hw]
  exact if_pos hd
theorem nextW {K : MkV} {c : Nat} {x r : ReqV} (hw : K.s.wait c = some r) (hd : K.done c = false) (hW : Writes r.kind = true) : K.next c x = ⟨K.s, K.l, K.st.put r.q, K.log ++ [r], K.seq, setF K.done c true, setF K.told c (K.st.rep r.q), setF K.at_ c (K.st.put r.q).n⟩ := by
  unfold MkV.next
  rw [hw]
  show (if K.done c = true then _ else _) = _
  rw [if_neg (by rw [hd]; decide), if_pos hW]
theorem nextR {K : MkV} {c : Nat} {x r : ReqV} (hw : K.s.wait c = some r) (hd : K.done c = false) (hW : Writes r.kind = false) : K.next c x = ⟨K.s, K.l, K.st, K.log, K.seq, setF K.done c true, setF K.told c (K.st.ask r.q), setF K.at_ c K.st.n⟩ := by
  unfold MkV.next
  rw [hw]
  show (if K.done c = true then _ else _) = _
  rw [if_neg (by rw [hd]; decide), if_neg (by rw [hW]; decide)]
set_option maxRecDepth 100000 in
set_option maxHeartbeats 8000000 in
theorem Made_any (A0 : Option Addr) (n k0 : Nat) (ms : List MvV) (hl : n = ms.length) (hn : n ≤ 100) (qt : Int) (w : World) (hM : MovesAt w A0 ms) :
    Calls Try.prog 10 #[.slice A0 n k0, .int .i64 qt] w fun e w' => ∃ Aa na ca Al nl cl l, e = .returned (.tuple #[.slice Aa na ca, .slice Al nl cl]) ∧ l.map ActV.nm = (runM qt ms).l ∧ na = l.length ∧ na ≤ ca ∧ ActsAt w' Aa l ∧ nl = (runM qt ms).log.length ∧ nl ≤ cl ∧ ReqsAt w' Al (runM qt ms).log ∧ Old w w' := by
  have HL := hide hl
  clear hl
  obtain ⟨i0, hi0, hz0, hz1, hz2⟩ := info_parts info_Req
  go_enter Try.func10, Try.ntmps10
  go_upto_region 8 with fail
  obtain ⟨p, hp⟩ : ∃ x, w.heap.size = x := ⟨_, rfl⟩
  obtain ⟨g, hg⟩ : ∃ x, p + 1 = x := ⟨_, rfl⟩
  obtain ⟨b1, hb1⟩ : ∃ x, g + 1 = x := ⟨_, rfl⟩
  obtain ⟨b2, hb2⟩ : ∃ x, b1 + 1 = x := ⟨_, rfl⟩
  obtain ⟨b3, hb3⟩ : ∃ x, b2 + 1 = x := ⟨_, rfl⟩
  obtain ⟨b4, hb4⟩ : ∃ x, b3 + 1 = x := ⟨_, rfl⟩
  obtain ⟨W1, hW1⟩ : ∃ X, w.alloc (.cells #[.slice none 0 0, .int .i64 0, .int .i64 0, .int .i64 0, .int .i64 0, .int .i64 0, .int .i64 0, .int .i64 0, .int .i64 0, .int .i64 0, .string { data := #[] }, .int .i64 0, .int .i64 0, .int .i64 0, .int .i64 0, .int .i64 0, .string { data := #[] }, .int .i64 0, .int .i64 0, .int .i64 0, .int .i64 0, .int .i64 0, .string { data := #[] }, .int .i64 0, .int .i64 0, .int .i64 0, .int .i64 0, .int .i64 0, .string { data := #[] }] 52) = X := ⟨_, rfl⟩
  have o1 : Old w W1 := hW1 ▸ (Old.refl' w).alloc' _
  have c1 : Bk W1 p 52 pdCells := by rw [← hW1, ← hp]; exact Bk.new w 52 _
  have s1 : W1.heap.size = g := by rw [← hW1, ← hg, ← hp]; simp
  obtain ⟨W2, hW2⟩ : ∃ X, W1.alloc (.cells (sdCells qt) 61) = X := ⟨_, rfl⟩
  have o2 : Old W1 W2 := hW2 ▸ (Old.refl' W1).alloc' _
  have c2 : Bk W2 g 61 (sdCells qt) := by rw [← hW2, ← s1]; exact Bk.new W1 61 _
  have s2 : W2.heap.size = b1 := by rw [← hW2, ← hb1, ← s1]; simp
  obtain ⟨W3, hW3⟩ : ∃ X, W2.alloc (.cells #[.int .i64 0, .int .i64 0, .int .i64 0, .int .i64 0] 49) = X := ⟨_, rfl⟩
  have o3 : Old W2 W3 := hW3 ▸ (Old.refl' W2).alloc' _
  have c3 : Bk W3 b1 49 #[.int .i64 0, .int .i64 0, .int .i64 0, .int .i64 0] := by rw [← hW3, ← s2]; exact Bk.new W2 49 _
  have s3 : W3.heap.size = b2 := by rw [← hW3, ← hb2, ← s2]; simp
  obtain ⟨W4, hW4⟩ : ∃ X, W3.alloc (.cells #[.bool false, .bool false, .bool false, .bool false] 62) = X := ⟨_, rfl⟩
  have o4 : Old W3 W4 := hW4 ▸ (Old.refl' W3).alloc' _
  have c4 : Bk W4 b2 62 #[.bool false, .bool false, .bool false, .bool false] := by rw [← hW4, ← s3]; exact Bk.new W3 62 _
  have s4 : W4.heap.size = b3 := by rw [← hW4, ← hb3, ← s3]; simp
  obtain ⟨W5, hW5⟩ : ∃ X, W4.alloc (.cells #[.int .i64 0, .int .i64 0, .string { data := #[] }, .slice none 0 0, .int .i64 0, .int .i64 0, .string { data := #[] }, .slice none 0 0, .int .i64 0, .int .i64 0, .string { data := #[] }, .slice none 0 0, .int .i64 0, .int .i64 0, .string { data := #[] }, .slice none 0 0] 59) = X := ⟨_, rfl⟩
  have o5 : Old W4 W5 := hW5 ▸ (Old.refl' W4).alloc' _
  have c5 : Bk W5 b3 59 #[.int .i64 0, .int .i64 0, .string { data := #[] }, .slice none 0 0, .int .i64 0, .int .i64 0, .string { data := #[] }, .slice none 0 0, .int .i64 0, .int .i64 0, .string { data := #[] }, .slice none 0 0, .int .i64 0, .int .i64 0, .string { data := #[] }, .slice none 0 0] := by rw [← hW5, ← s4]; exact Bk.new W4 59 _
  have s5 : W5.heap.size = b4 := by rw [← hW5, ← hb4, ← s4]; simp
  obtain ⟨W6, hW6⟩ : ∃ X, W5.alloc (.cells #[.int .i64 0, .int .i64 0, .int .i64 0, .int .i64 0] 49) = X := ⟨_, rfl⟩
  have o6 : Old W5 W6 := hW6 ▸ (Old.refl' W5).alloc' _
  have c6 : Bk W6 b4 49 #[.int .i64 0, .int .i64 0, .int .i64 0, .int .i64 0] := by rw [← hW6, ← s5]; exact Bk.new W5 49 _
  have hMk := MkB.new (w := w) (((((c1.old o2).old o3).old o4).old o5).old o6) ((((c2.old o3).old o4).old o5).old o6) (((c3.old o4).old o5).old o6) ((c4.old o5).old o6) (c5.old o6) c6 (by omega) (by omega) (by omega) (by omega) (by omega) (by omega) (((((o1.trans' o2).trans' o3).trans' o4).trans' o5).trans' o6)
  unfold sdCells at hW2
  simp only [hp, hg, hb1, hb2, hb3, hb4, hW1, hW2, hW3, hW4, hW5, hW6]
  clear hW1 hW2 hW3 hW4 hW5 hW6 o1 o2 o3 o4 o5 o6 c1 c2 c3 c4 c5 c6 s1 s2 s3 s4 s5 hp hg hb1 hb2 hb3 hb4
  obtain ⟨own0, hMk⟩ := hMk
  go_wp2_with fail
  go_loopw [8, 13] (fun lv iv wr => ∃ i own A ca K, i ≤ n ∧ iv = .int .i64 (i : Nat) ∧ lv = .slice A K.log.length ca ∧ MkB 0 own w wr p g b1 b2 b3 b4 (.slice A K.log.length ca) K ∧ K.nm = runM qt (ms.take i)) (fun _ iv _ => n - (intOf iv).toNat)
  case atStart => exact ⟨0, own0, none, 0, MkV.new qt, Nat.zero_le _, rfl, rfl, hMk, rfl⟩
  case round =>
    clear hMk
    obtain ⟨i, own, A, ca, K, hin, rfl, rfl, hB, hK⟩ := hrel
    by_cases hlt : i < n
    · have hkq : i < ms.length := by have := HL.out; omega
      obtain ⟨b0, o0, rfl, hb0, hc⟩ := hM.at_ hkq
      obtain ⟨m, hm⟩ : ∃ x, ms[i]?.getD default = x := ⟨_, rfl⟩
      rw [hm] at hc
      have J := runM_J qt (ms.take i) (by rw [List.length_take]; omega)
      rw [← hK, List.length_take, Nat.min_eq_left (by omega)] at J
      have hNext : runM qt (ms.take (i + 1)) = K.nm.next m.c m.q := by
        have e : ms[i] = m := by rw [List.getElem?_eq_getElem hkq] at hm; simpa using hm
        rw [List.take_succ_eq_append_getElem hkq, runM_snoc, ← hK, e]
      have HN := hide hNext
      clear hNext hK hm
      have hbel := hB.old
      have m1 := (hbel.cell (p := ⟨b0, o0 + i * 8 + 1, none⟩) hb0).trans (hc 1 _ (by omega) rfl)
      have hb01 : b0 < wr.heap.size := Nat.lt_of_lt_of_le hb0 hbel.size
      obtain ⟨c, hcm⟩ : ∃ c, m.c = c := ⟨_, rfl⟩
      have hcu := m.c_eq
      rw [hcm] at hcu
      have hc4 : c < 4 := hcm ▸ m.c_lt
      have hci : (c : Int) < 4 := by omega
      rw [hcm] at HN
      obtain ⟨x, hx⟩ : ∃ x, m.q = x := ⟨_, rfl⟩
      have mq : ∀ j u, j < 6 → x.cells[j]? = some u → wr.cell? ⟨b0, o0 + i * 8 + 2 + j, none⟩ = some u := fun j u hj hu => by
        have e := hc (2 + j) u (by omega) (by show ([Value.int .i64 m.kind, .int .i64 m.client] ++ m.q.cells)[2 + j]? = some u; rw [hx, List.getElem?_append_right (by simp), show 2 + j - [Value.int IntKind.i64 m.kind, .int .i64 m.client].length = j by simp]; exact hu)
        rw [Nat.add_assoc (o0 + i * 8) 2 j]
        exact (hbel.cell (p := ⟨b0, o0 + i * 8 + (2 + j), none⟩) hb0).trans e
      rw [hx] at HN
      have MQ := hide mq
      clear hx hcm hc mq
      have HB := hide hB
      obtain ⟨FP, hP, -⟩ := hB.P (by decide)
      obtain ⟨cs, VP, hPb, hPr, hPc, -⟩ := hP.ex
      obtain ⟨⟨x0, x1, x2, x3, x4, x5⟩, -⟩ := hPc.six hPb hc4
      obtain ⟨r, hr⟩ : ∃ r, wq (K.s.wait c) = r := ⟨_, rfl⟩
      rw [hr] at x0 x1 x2 x3 x4 x5
      have hpl := hPb.lt
      have hwp := hP.wp
      clear hP hPb hPr hPc hB
      have hi100 : (i : Int) < 100 := by omega
      go_upto_region 14 with fail
      simp only [hcu]
      clear hcu m1
      clear x0 x1 x2 x3 x4 x5
      obtain ⟨b15, hb15⟩ : ∃ x, wr.heap.size = x := ⟨_, rfl⟩
      obtain ⟨W1, hW1⟩ : ∃ X, wr.alloc (.cells #[.int .i64 r.client, .int .i64 r.seq, .int .i64 r.kind, .int .i64 r.id, .int .i64 r.mat, .string r.data] 24) = X := ⟨_, rfl⟩
      have o1 : Old wr W1 := hW1 ▸ (Old.refl' wr).alloc' _
      have k15 : Bk W1 b15 24 #[.int .i64 r.client, .int .i64 r.seq, .int .i64 r.kind, .int .i64 r.id, .int .i64 r.mat, .string r.data] := by rw [← hW1, ← hb15]; exact Bk.new wr 24 _
      simp only [hb15, hW1]
      have own15 : own b15 = 0 := Decidable.byContradiction fun h => by have := (HB.out.lo _ h).2; omega
      have HB1 := hide (HB.out.step o1)
      have hs15 : b15 < W1.heap.size := k15.lt
      clear hW1 hb15
      cases hw : K.s.wait c with
      | none =>
        obtain rfl : rq0 = r := by rw [← hr, hw]; rfl
        have e0 : (rq0.seq == 0) = true := rfl
        obtain ⟨⟨x0, x1, x2, x3, x4, x5⟩, lx⟩ := bk6 k15
        have q0 := (o1.cell (p := ⟨b0, o0 + i * 8 + 2, none⟩) hb01).trans (MQ.out 0 _ (by omega) rfl)
        have q1 := (o1.cell (p := ⟨b0, o0 + i * 8 + 2 + 1, none⟩) hb01).trans (MQ.out 1 _ (by omega) rfl)
        have q2 := (o1.cell (p := ⟨b0, o0 + i * 8 + 2 + 2, none⟩) hb01).trans (MQ.out 2 _ (by omega) rfl)
        have q3 := (o1.cell (p := ⟨b0, o0 + i * 8 + 2 + 3, none⟩) hb01).trans (MQ.out 3 _ (by omega) rfl)
        have q4 := (o1.cell (p := ⟨b0, o0 + i * 8 + 2 + 4, none⟩) hb01).trans (MQ.out 4 _ (by omega) rfl)
        have q5 := (o1.cell (p := ⟨b0, o0 + i * 8 + 2 + 5, none⟩) hb01).trans (MQ.out 5 _ (by omega) rfl)
        have hb02 : b0 < W1.heap.size := Nat.lt_of_lt_of_le hb01 o1.size
        have HW := hide hw
        have hlK : K.l.length ≤ 50000 := by have := J.ll; rw [show K.nm.l.length = K.l.length by simp [MkV.nm]] at this; omega
        have hs0 : 0 ≤ K.seq c := (J.sq c).1
        have hs1 : K.seq c ≤ 100 := by have : K.seq c ≤ (i : Int) := (J.sq c).2; omega
        have hwr : IntKind.i64.wrap (K.seq c + 1) = K.seq c + 1 := IntWalk.i64_in _ (by omega)
        clear hw J
        go_upto_region 16 with fail
        clear x0 x1 x2 x3 x4 x5 lx q0 q1 q2 q3 q4 q5
        obtain ⟨b16, hb16⟩ : ∃ x, W1.heap.size = x := ⟨_, rfl⟩
        obtain ⟨W2, hW2⟩ : ∃ X, (W1.alloc (.cells #[.int .i64 x.client, .int .i64 x.seq, .int .i64 x.kind, .int .i64 x.id, .int .i64 x.mat, .string x.data] 24)).drew = X := ⟨_, rfl⟩
        have h016 : Old W1 W2 := hW2 ▸ ((Old.refl' W1).alloc' _).drew'
        have k16 : Bk W2 b16 24 #[.int .i64 x.client, .int .i64 x.seq, .int .i64 x.kind, .int .i64 x.id, .int .i64 x.mat, .string x.data] := by rw [← hW2, ← hb16]; exact (Bk.new W1 24 _).drew
        have hle : W1.heap.size ≤ b16 := by omega
        simp only [hb16]
        clear hb16
        have hZ := hide (fun (U : World) (h : Old W1 U) => asked_get ((HB1.out.k1 (by decide)).old h) hc4)
        have hC0 := fun o1 o2 => cs2_some (cs := #[.int .i64 x.client, .int .i64 x.seq, .int .i64 x.kind, .int .i64 x.id, .int .i64 x.mat, .string x.data]) (a := 0) (b := 1) (u := .int .i64 (c : Nat)) (v := .int .i64 (K.seq c + 1)) (j := 0) rfl o1 o2
        have hC1 := fun o1 o2 => cs2_some (cs := #[.int .i64 x.client, .int .i64 x.seq, .int .i64 x.kind, .int .i64 x.id, .int .i64 x.mat, .string x.data]) (a := 0) (b := 1) (u := .int .i64 (c : Nat)) (v := .int .i64 (K.seq c + 1)) (j := 1) rfl o1 o2
        have hST1 : ∀ (d : Nat → Option Value) (W : World), d 6 = none → Bk W b16 24 (cs2 #[.int .i64 x.client, .int .i64 x.seq, .int .i64 x.kind, .int .i64 x.id, .int .i64 x.mat, .string x.data] 0 1 (.int .i64 (c : Nat)) (.int .i64 (K.seq c + 1)) (d 6) (d 8)) → Bk (W.setCell ⟨b16, 0, none⟩ (.int .i64 (c : Nat))) b16 24 (cs2 #[.int .i64 x.client, .int .i64 x.seq, .int .i64 x.kind, .int .i64 x.id, .int .i64 x.mat, .string x.data] 0 1 (.int .i64 (c : Nat)) (.int .i64 (K.seq c + 1)) (upd d 6 undef 6) (upd d 6 undef 8)) := fun d W h1 h2 => by
          have e1 : upd d 6 undef 6 = some undef := by simp [upd]
          have e2 : upd d 6 undef 8 = d 8 := by simp [upd]
          rw [h1] at h2
          rw [e1, e2, ← cs2_1 (by omega)]
          exact h2.set_ _ _
        have hST2 : ∀ (d : Nat → Option Value) (W : World), d 8 = none → Bk W b16 24 (cs2 #[.int .i64 x.client, .int .i64 x.seq, .int .i64 x.kind, .int .i64 x.id, .int .i64 x.mat, .string x.data] 0 1 (.int .i64 (c : Nat)) (.int .i64 (K.seq c + 1)) (d 6) (d 8)) → Bk (W.setCell ⟨b16, 1, none⟩ (.int .i64 (K.seq c + 1))) b16 24 (cs2 #[.int .i64 x.client, .int .i64 x.seq, .int .i64 x.kind, .int .i64 x.id, .int .i64 x.mat, .string x.data] 0 1 (.int .i64 (c : Nat)) (.int .i64 (K.seq c + 1)) (upd d 8 undef 6) (upd d 8 undef 8)) := fun d W h1 h2 => by
          have e1 : upd d 8 undef 8 = some undef := by simp [upd]
          have e2 : upd d 8 undef 6 = d 6 := by simp [upd]
          rw [h1] at h2
          rw [e1, e2, ← cs2_2]
          exact h2.set_ _ _
        refine region_steps (R := pick [eqv (.int .i64 c), eqv (.int .i64 c), eqv (.pointer (some ⟨b1, c, none⟩)), eqv (.int .i64 (K.seq c)), eqv (.int .i64 (K.seq c + 1)), eqv (.pointer (some ⟨b16, 0, none⟩)), eqv (undef), eqv (.pointer (some ⟨b16, 1, none⟩)), eqv (undef)]) (S := fun σ w' => Old W1 w' ∧ Bk w' b16 24 (cs2 #[.int .i64 x.client, .int .i64 x.seq, .int .i64 x.kind, .int .i64 x.id, .int .i64 x.mat, .string x.data] 0 1 (.int .i64 (c : Nat)) (.int .i64 (K.seq c + 1)) (σ 6) (σ 8))) (T := (fun _ _ => True)) (by kernel_rfl) (by kernel_rfl) (by kernel_rfl) (Stab.pick (Stab.eqv (Stab.eqv (Stab.eqv (Stab.eqv (Stab.eqv (Stab.eqv (Stab.eqv (Stab.eqv (Stab.eqv (Stab.nil))))))))))) ((by rw [hW2]; exact ⟨h016, k16⟩)) ?steps ?ends
        case steps =>
          refine StepsOk.cons (stepOk_pure [] [(14, .int .i64 c)] rfl rfl (by kernel_rfl) (by kernel_rfl) rfl (fun _ => trivial) (fun σ v w h => by simpa [upd] using h) (fun d E w' hk hda hS hc hf => by rintro  e14; exact ⟨_, by go_simp, rfl⟩)) ?_
          refine StepsOk.cons (stepOk_pure [] [(14, .int .i64 c)] rfl rfl (by kernel_rfl) (by kernel_rfl) rfl (fun _ => trivial) (fun σ v w h => by simpa [upd] using h) (fun d E w' hk hda hS hc hf => by rintro  e14; exact ⟨_, by go_simp, rfl⟩)) ?_
          refine StepsOk.cons (stepOk_pure [(1, 67)] [(9, .pointer (some ⟨b1, 0, none⟩))] rfl rfl (by kernel_rfl) (by kernel_rfl) rfl (fun _ => trivial) (fun σ v w h => by simpa [upd] using h) (fun d E w' hk hda hS hc hf => by rintro _ q1 rfl e67 e9; obtain ⟨hO6, hQ6⟩ := hS; have z1 := hZ.out w' hO6; exact ⟨_, by go_simp, rfl⟩)) ?_
          refine StepsOk.cons (stepOk_pure [(2, 68)] [] rfl rfl (by kernel_rfl) (by kernel_rfl) rfl (fun _ => trivial) (fun σ v w h => by simpa [upd] using h) (fun d E w' hk hda hS hc hf => by rintro _ q2 rfl e68 ; obtain ⟨hO6, hQ6⟩ := hS; have z1 := hZ.out w' hO6; exact ⟨_, by go_simp, rfl⟩)) ?_
          refine StepsOk.cons (stepOk_pure [(3, 69)] [] rfl rfl (by kernel_rfl) (by kernel_rfl) rfl (fun _ => trivial) (fun σ v w h => by simpa [upd] using h) (fun d E w' hk hda hS hc hf => by rintro _ q3 rfl e69 ; exact ⟨_, by go_simp, rfl⟩)) ?_
          refine StepsOk.cons (stepOk_pure [] [(16, .pointer (some ⟨b16, 0, none⟩))] rfl rfl (by kernel_rfl) (by kernel_rfl) rfl (fun _ => trivial) (fun σ v w h => by simpa [upd] using h) (fun d E w' hk hda hS hc hf => by rintro  e16; exact ⟨_, by go_simp, rfl⟩)) ?_
          refine StepsOk.cons (stepOk_store [(5, 71), (0, 66)] [] rfl rfl (by kernel_rfl) (by kernel_rfl) rfl (fun d E w' hk hda hS hc hf => by rintro _ q5 rfl e71 _ q0 rfl e66 ; obtain ⟨hO6, hQ6⟩ := hS; have z1 := hZ.out w' hO6; obtain ⟨v0, hv0⟩ := hC0 (d 6) (d 8); have y0 := (hQ6.cell 0).trans hv0; have y1 := hQ6.frozen 0; exact ⟨w'.setCell ⟨b16, 0, none⟩ (.int .i64 (c : Nat)), by go_simp, rfl, trivial, ⟨hO6.setCell' (p := ⟨b16, 0, none⟩) hle _, hST1 _ _ (hk 6 (by kernel_rfl)) hQ6⟩⟩)) ?_
          refine StepsOk.cons (stepOk_pure [] [(16, .pointer (some ⟨b16, 0, none⟩))] rfl rfl (by kernel_rfl) (by kernel_rfl) rfl (fun _ => trivial) (fun σ v w h => by simpa [upd] using h) (fun d E w' hk hda hS hc hf => by rintro  e16; exact ⟨_, by go_simp, rfl⟩)) ?_
          refine StepsOk.cons (stepOk_store [(7, 72), (4, 70)] [] rfl rfl (by kernel_rfl) (by kernel_rfl) rfl (fun d E w' hk hda hS hc hf => by rintro _ q7 rfl e72 _ q4 rfl e70 ; obtain ⟨hO6, hQ6⟩ := hS; have z1 := hZ.out w' hO6; obtain ⟨v0, hv0⟩ := hC1 (d 6) (d 8); have y0 := (hQ6.cell 1).trans hv0; have y1 := hQ6.frozen 1; exact ⟨w'.setCell ⟨b16, 1, none⟩ (.int .i64 (K.seq c + 1)), by go_simp, rfl, trivial, ⟨hO6.setCell' (p := ⟨b16, 1, none⟩) hle _, hST2 _ _ (hk 8 (by kernel_rfl)) hQ6⟩⟩)) ?_
          exact StepsOk.nil
        case ends =>
          intro σ9 w9 hS9 hA9
          refine Ends.eqv (some 66) (.int .i64 c) rfl (fun _ h => h) ?_
          refine Ends.eqv (some 67) (.int .i64 c) rfl (fun _ h => h) ?_
          refine Ends.eqv (some 68) (.pointer (some ⟨b1, c, none⟩)) rfl (fun _ h => h) ?_
          refine Ends.eqv (some 69) (.int .i64 (K.seq c)) rfl (fun _ h => h) ?_
          refine Ends.eqv (some 70) (.int .i64 (K.seq c + 1)) rfl (fun _ h => h) ?_
          refine Ends.eqv (some 71) (.pointer (some ⟨b16, 0, none⟩)) rfl (fun _ h => h) ?_
          refine Ends.eqv none (undef) rfl (fun _ h => h) ?_
          refine Ends.eqv (some 72) (.pointer (some ⟨b16, 1, none⟩)) rfl (fun _ h => h) ?_
          refine Ends.eqv none (undef) rfl (fun _ h => h) ?_
          refine Ends.nil ?_
          have hA9' := hA9
          clear hA9
          simp only [put_lit, put_none, List.set_cons_zero, List.set_cons_succ]
          obtain ⟨hO9, hQ9⟩ := hS9
          obtain ⟨u1, hu1⟩ := Option.isSome_iff_exists.1 (hA9' 6 (by simp))
          obtain ⟨u2, hu2⟩ := Option.isSome_iff_exists.1 (hA9' 8 (by simp))
          rw [hu1, hu2] at hQ9
          have hQ9 : Bk w9 b16 24 #[.int .i64 (c : Nat), .int .i64 (K.seq c + 1), .int .i64 x.kind, .int .i64 x.id, .int .i64 x.mat, .string x.data] := by simpa [cs2] using hQ9
          clear hu1 hu2 hA9' hC0 hC1 hST1 hST2 hZ
          have cA := hide ((HB1.out.step hO9).ask K.l.length rfl hlK (K.q c x) _ rfl _ rfl)
          obtain ⟨⟨x0, x1, x2, x3, x4, x5⟩, lx⟩ := bk6 hQ9
          go_wp2_with fail
          refine cA.out.mono ?_
          rintro e W4 ⟨rfl, hBk, hfr⟩
          clear x0 x1 x2 x3 x4 x5 lx
          by_cases hE : K.s.askE (K.q c x) = 0
          · rw [hE] at hBk
            simp only [hE]
            obtain ⟨own1, hB1⟩ := hBk
            rw [if_pos (by trivial)] at hB1
            have z1 := asked_get (hB1.k1 (by decide)) hc4
            have z2 := bool_get (hB1.k2 (by decide)) hc4
            have z3 := (hB1.k1 (by decide)).frozen c
            have z4 := (hB1.k2 (by decide)).frozen c
            have z5 : b1 < W4.heap.size := (hB1.k1 (by decide)).lt
            have z6 : b2 < W4.heap.size := (hB1.k2 (by decide)).lt
            have z7 : b1 ≠ b2 := fun e => by have h1 := hB1.o1; have h2 := hB1.o2; rw [e, h2] at h1; exact absurd h1 (by decide)
            have hfin := hide ((hB1.set1 hc4 (K.seq c + 1)).set2 hc4 false)
            clear hB1
            go_wp2_with fail
            go_roundw
            case rel => exact ⟨i + 1, own1, A, ca, ⟨K.s.ask (K.q c x), K.l ++ [askAct (K.q c x)], K.st, K.log, setF K.seq c (K.seq c + 1), setF K.done c false, K.told, K.at_⟩, by omega, by go_num, rfl, hfin.out, by rw [HN.out, nextA (K := K.nm) HW.out hE]; simp [MkV.nm, ActV.nm, askAct, MkV.q]⟩
            case measure => simp [intOf]; omega
          · obtain ⟨own1, hB1⟩ := hBk
            rw [if_neg hE] at hB1
            have e2 : K.s.ask (K.q c x) = K.s := by unfold PV.ask; rw [if_neg hE]
            rw [e2] at hB1
            have hE9 : (K.s.askE (K.q c x) == 0) = false := by simpa using hE
            have HB2 := hide hB1
            have HE := hide hE
            clear hB1 hE e2
            go_wp2_with fail
            go_roundw
            case rel =>
              exact ⟨i + 1, own1, A, ca, K, by omega, by go_num, rfl, HB2.out, by rw [HN.out, nextA' (K := K.nm) HW.out HE.out]⟩
            case measure => simp [intOf]; omega
      | some r' =>
        obtain rfl : r' = r := by rw [← hr, hw]; rfl
        by_cases hd : K.done c = true
        · have hr1 : (r'.seq == 0) = false := by have := hwp c r' hw; simp; omega
          obtain ⟨⟨x0, x1, x2, x3, x4, x5⟩, lx⟩ := bk6 k15
          have HW := hide hw
          have hlK : K.l.length ≤ 50000 := by have := J.ll; rw [show K.nm.l.length = K.l.length by simp [MkV.nm]] at this; omega
          have z0 := bool_get (HB1.out.k2 (by decide)) hc4
          have z0f := (HB1.out.k2 (by decide)).frozen c
          have z0l : b2 < W1.heap.size := (HB1.out.k2 (by decide)).lt
          rw [hd] at z0
          have HD := hide hd
          have hE : K.s.ansE c r'.seq (K.at_ c) = 0 := by
            obtain ⟨t1, t2, -⟩ := J.tb c
            have t3 := J.ln
            have t1' : 0 ≤ K.at_ c := t1
            have t2' : K.at_ c ≤ (K.log.length : Int) := t2
            have t3' : K.log.length ≤ i := t3
            unfold PV.ansE
            rw [hw, if_neg (by omega)]
            exact if_pos rfl
          have hv9 : (K.told c).vs.length ≤ 50000 := by
            have t3 := (J.tb c).2.2
            have t3' : (K.told c).vs.length ≤ K.log.length := t3
            have t4 : K.log.length ≤ i := J.ln
            omega
          obtain ⟨At, cat, ht1, ht2⟩ := HB1.out.k3 (by decide)
          have cA := hide (fun (U : World) (h : Old W1 U) => (HB1.out.step h).ans K.l.length rfl hlK c r'.seq (K.at_ c) (K.told c) (At c) (K.told c).vs.length (cat c) rfl hv9 r' HW.out hE (CellsAt.old (ht2 c hc4).1 h))
          have hZ := hide (fun (U : World) (h : Old W1 U) => (⟨(k15.old h).cell 1, (told_get (ht1.old h) hc4).1, (told_get (ht1.old h) hc4).2.1, (told_get (ht1.old h) hc4).2.2.1, (told_get (ht1.old h) hc4).2.2.2, asked_get ((HB1.out.k4 (by decide)).old h) hc4⟩ :
            U.cell? ⟨b15, 1, none⟩ = some (.int .i64 r'.seq) ∧ U.cell? ⟨b3, c * 4, none⟩ = some (.int .i64 (K.told c).code) ∧ U.cell? ⟨b3, c * 4 + 1, none⟩ = some (.int .i64 (K.told c).ver) ∧ U.cell? ⟨b3, c * 4 + 2, none⟩ = some (.string (K.told c).data) ∧ U.cell? ⟨b3, c * 4 + 3, none⟩ = some (.slice (At c) (K.told c).vs.length (cat c)) ∧ U.cell? ⟨b4, c, none⟩ = some (.int .i64 (K.at_ c))))
          clear hw J hd hE hv9 ht1 ht2
          go_upto_region 13 with fail
          clear x0 x1 x2 x3 x4 x5 lx z0 z0f z0l
          refine region_steps (R := pick [eqv (.pointer (some ⟨p, 0, none⟩)), eqv (.int .i64 c), eqv (.pointer (some ⟨b15, 1, none⟩)), eqv (.int .i64 r'.seq), eqv (.int .i64 c), eqv (.pointer (some ⟨b3, c * 4, none⟩)), eqv (.agg #[.int .i64 (K.told c).code, .int .i64 (K.told c).ver, .string (K.told c).data, .slice (At c) (K.told c).vs.length (cat c)]), eqv (.int .i64 c), eqv (.pointer (some ⟨b4, c, none⟩)), eqv (.int .i64 (K.at_ c)), eqv (.int .i64 0)]) (S := fun σ w' => (σ 10 = none → Old W1 w') ∧ (σ 10 ≠ none → ∃ own1 AV cV, MkB 0 own1 w w' p g b1 b2 b3 b4 (.slice A K.log.length ca) ⟨K.s.ans c r'.seq (K.at_ c), K.l ++ [⟨(c : Nat), r'.seq, true, r', K.told c, AV, cV, K.at_ c⟩], K.st, K.log, K.seq, K.done, K.told, K.at_⟩)) (T := (fun _ _ => True)) (by kernel_rfl) (by kernel_rfl) (by kernel_rfl) (Stab.pick (Stab.eqv (Stab.eqv (Stab.eqv (Stab.eqv (Stab.eqv (Stab.eqv (Stab.eqv (Stab.eqv (Stab.eqv (Stab.eqv (Stab.eqv (Stab.nil))))))))))))) (⟨fun _ => (Old.refl' W1).drew', fun h => absurd rfl h⟩) ?steps ?ends
          case steps =>
            refine StepsOk.cons (stepOk_pure [] [(6, .pointer (some ⟨p, 0, none⟩))] rfl rfl (by kernel_rfl) (by kernel_rfl) rfl (fun _ => trivial) (fun σ v w h => by simpa [upd] using h) (fun d E w' hk hda hS hc hf => by rintro  e6; exact ⟨_, by go_simp, rfl⟩)) ?_
            refine StepsOk.cons (stepOk_pure [] [(14, .int .i64 c)] rfl rfl (by kernel_rfl) (by kernel_rfl) rfl (fun _ => trivial) (fun σ v w h => by simpa [upd] using h) (fun d E w' hk hda hS hc hf => by rintro  e14; exact ⟨_, by go_simp, rfl⟩)) ?_
            refine StepsOk.cons (stepOk_pure [] [(15, .pointer (some ⟨b15, 0, none⟩))] rfl rfl (by kernel_rfl) (by kernel_rfl) rfl (fun _ => trivial) (fun σ v w h => by simpa [upd] using h) (fun d E w' hk hda hS hc hf => by rintro  e15; exact ⟨_, by go_simp, rfl⟩)) ?_
            refine StepsOk.cons (stepOk_pure [(2, 48)] [] rfl rfl (by kernel_rfl) (by kernel_rfl) rfl (fun _ => trivial) (fun σ v w h => by simpa [upd] using h) (fun d E w' hk hda hS hc hf => by rintro _ q2 rfl e48 ; obtain ⟨z1, z2, z3, z4, z5, z6⟩ := hZ.out w' (hS.1 (hk 10 (by kernel_rfl))); exact ⟨_, by go_simp, rfl⟩)) ?_
            refine StepsOk.cons (stepOk_pure [] [(14, .int .i64 c)] rfl rfl (by kernel_rfl) (by kernel_rfl) rfl (fun _ => trivial) (fun σ v w h => by simpa [upd] using h) (fun d E w' hk hda hS hc hf => by rintro  e14; exact ⟨_, by go_simp, rfl⟩)) ?_
            refine StepsOk.cons (stepOk_pure [(4, 50)] [(11, .pointer (some ⟨b3, 0, none⟩))] rfl rfl (by kernel_rfl) (by kernel_rfl) rfl (fun _ => trivial) (fun σ v w h => by simpa [upd] using h) (fun d E w' hk hda hS hc hf => by rintro _ q4 rfl e50 e11; obtain ⟨z1, z2, z3, z4, z5, z6⟩ := hZ.out w' (hS.1 (hk 10 (by kernel_rfl))); exact ⟨_, by go_simp, rfl⟩)) ?_
            refine StepsOk.cons (stepOk_pure [(5, 51)] [] rfl rfl (by kernel_rfl) (by kernel_rfl) rfl (fun _ => trivial) (fun σ v w h => by simpa [upd] using h) (fun d E w' hk hda hS hc hf => by rintro _ q5 rfl e51 ; obtain ⟨z1, z2, z3, z4, z5, z6⟩ := hZ.out w' (hS.1 (hk 10 (by kernel_rfl))); exact ⟨_, by go_simp, rfl⟩)) ?_
            refine StepsOk.cons (stepOk_pure [] [(14, .int .i64 c)] rfl rfl (by kernel_rfl) (by kernel_rfl) rfl (fun _ => trivial) (fun σ v w h => by simpa [upd] using h) (fun d E w' hk hda hS hc hf => by rintro  e14; exact ⟨_, by go_simp, rfl⟩)) ?_
            refine StepsOk.cons (stepOk_pure [(7, 53)] [(12, .pointer (some ⟨b4, 0, none⟩))] rfl rfl (by kernel_rfl) (by kernel_rfl) rfl (fun _ => trivial) (fun σ v w h => by simpa [upd] using h) (fun d E w' hk hda hS hc hf => by rintro _ q7 rfl e53 e12; obtain ⟨z1, z2, z3, z4, z5, z6⟩ := hZ.out w' (hS.1 (hk 10 (by kernel_rfl))); exact ⟨_, by go_simp, rfl⟩)) ?_
            refine StepsOk.cons (stepOk_pure [(8, 54)] [] rfl rfl (by kernel_rfl) (by kernel_rfl) rfl (fun _ => trivial) (fun σ v w h => by simpa [upd] using h) (fun d E w' hk hda hS hc hf => by rintro _ q8 rfl e54 ; obtain ⟨z1, z2, z3, z4, z5, z6⟩ := hZ.out w' (hS.1 (hk 10 (by kernel_rfl))); exact ⟨_, by go_simp, rfl⟩)) ?_
            refine StepsOk.cons (stepOk_mk [(0, 46), (1, 47), (3, 49), (6, 52), (9, 55)] [] rfl rfl (by kernel_rfl) (by kernel_rfl) rfl ?_) ?_
            · rintro d a w' hk hda hS _ q0 rfl e46 _ q1 rfl e47 _ q3 rfl e49 _ q6 rfl e52 _ q9 rfl e55 
              first | refine Given.nil (Known.nil ?_) | refine Known.nil ?_
              refine wp_call 20 _ Try.func20 (by kernel_rfl) (by kernel_rfl) _ _ (by rfl) [.pointer (some ⟨p, 0, none⟩), .int .i64 c, .int .i64 r'.seq, .agg #[.int .i64 (K.told c).code, .int .i64 (K.told c).ver, .string (K.told c).data, .slice (At c) (K.told c).vs.length (cat c)], .int .i64 (K.at_ c)] (by simp only [List.map_cons, List.map_nil, *]; try rfl) (cA.out _ (hS.1 (hk 10 (by kernel_rfl)))) ?_
              rintro e w1 ⟨rfl, hP, -⟩
              exact ⟨_, rfl, _, rfl, rfl, trivial, ⟨fun h => by simp [upd] at h, fun _ => hP⟩⟩
            exact StepsOk.nil
          case ends =>
            intro σ9 w9 hS9 hA9
            refine Ends.eqv (some 46) (.pointer (some ⟨p, 0, none⟩)) rfl (fun _ h => h) ?_
            refine Ends.eqv (some 47) (.int .i64 c) rfl (fun _ h => h) ?_
            refine Ends.eqv (some 48) (.pointer (some ⟨b15, 1, none⟩)) rfl (fun _ h => h) ?_
            refine Ends.eqv (some 49) (.int .i64 r'.seq) rfl (fun _ h => h) ?_
            refine Ends.eqv (some 50) (.int .i64 c) rfl (fun _ h => h) ?_
            refine Ends.eqv (some 51) (.pointer (some ⟨b3, c * 4, none⟩)) rfl (fun _ h => h) ?_
            refine Ends.eqv (some 52) (.agg #[.int .i64 (K.told c).code, .int .i64 (K.told c).ver, .string (K.told c).data, .slice (At c) (K.told c).vs.length (cat c)]) rfl (fun _ h => h) ?_
            refine Ends.eqv (some 53) (.int .i64 c) rfl (fun _ h => h) ?_
            refine Ends.eqv (some 54) (.pointer (some ⟨b4, c, none⟩)) rfl (fun _ h => h) ?_
            refine Ends.eqv (some 55) (.int .i64 (K.at_ c)) rfl (fun _ h => h) ?_
            refine Ends.eqv (some 56) (.int .i64 0) rfl (fun _ h => h) ?_
            refine Ends.nil ?_
            have hA9' := hA9
            clear hA9
            simp only [put_lit, put_none, List.set_cons_zero, List.set_cons_succ]
            obtain ⟨own1, AV, cV, hB1⟩ := hS9.2 (by have := hA9' 10 (by simp); intro e; rw [e] at this; simp at this)
            clear hS9 hA9' hZ
            go_wp2_with fail
            go_roundw
            case rel => exact ⟨i + 1, own1, A, ca, ⟨K.s.ans c r'.seq (K.at_ c), K.l ++ [⟨(c : Nat), r'.seq, true, r', K.told c, AV, cV, K.at_ c⟩], K.st, K.log, K.seq, K.done, K.told, K.at_⟩, by omega, by go_num, rfl, hB1, by rw [HN.out, nextC (K := K.nm) HW.out HD.out]; simp [MkV.nm, ActV.nm, ansAct]⟩
            case measure => simp [intOf]; omega
        · have hd : K.done c = false := by simpa using hd
          have hr1 : (r'.seq == 0) = false := by have := hwp c r' hw; simp; omega
          obtain ⟨⟨x0, x1, x2, x3, x4, x5⟩, lx⟩ := bk6 k15
          have HW := hide hw
          have hlK : K.l.length ≤ 50000 := by have := J.ll; rw [show K.nm.l.length = K.l.length by simp [MkV.nm]] at this; omega
          have z0 := bool_get (HB1.out.k2 (by decide)) hc4
          have z0f := (HB1.out.k2 (by decide)).frozen c
          have z0l : b2 < W1.heap.size := (HB1.out.k2 (by decide)).lt
          rw [hd] at z0
          have HD := hide hd
          have hst : K.st.n ≤ 50000 := by
            have t3 : K.log.length ≤ i := J.ln
            have t4 : K.st.n = K.log.length := J.n
            omega
          have hlg : K.log.length ≤ 100 := by have t3 : K.log.length ≤ i := J.ln; omega
          clear hw J hd
          have z4 := asked_get (HB1.out.k4 (by decide)) hc4
          have z4f := (HB1.out.k4 (by decide)).frozen c
          have z4l : b4 < W1.heap.size := (HB1.out.k4 (by decide)).lt
          have z42 : b4 ≠ b2 := fun e => by have h1 := HB1.out.o4; have h2 := HB1.out.o2; rw [e, h2] at h1; exact absurd h1 (by decide)
          have z24 := Ne.symm z42
          obtain ⟨FS, hS, -⟩ := HB1.out.S (by decide)
          have zg := hS.1.n0
          have zgl : g < W1.heap.size := hS.1.lt g hS.1.gF
          have zg2 : g ≠ b2 := fun e => by have h1 := HB1.out.og; have h2 := HB1.out.o2; rw [e, h2] at h1; exact absurd h1 (by decide)
          have zg2' := Ne.symm zg2
          clear hS
          go_upto_region 23 with fail
          obtain ⟨W3, hW3⟩ : ∃ X, (W1.setCell ⟨b2, c, none⟩ (.bool true)).setCell ⟨b4, c, none⟩ (.int .i64 K.st.n) = X := ⟨_, rfl⟩
          have HB3 := hide (hW3 ▸ ((HB1.out.set2 hc4 true).set4 hc4 (K.st.n : Int)))
          have hb215 : b2 ≠ b15 := fun e => by have := HB1.out.o2; rw [e, own15] at this; exact absurd this (by decide)
          have hb415 : b4 ≠ b15 := fun e => by have := HB1.out.o4; rw [e, own15] at this; exact absurd this (by decide)
          have k15b : Bk W3 b15 24 #[.int .i64 r'.client, .int .i64 r'.seq, .int .i64 r'.kind, .int .i64 r'.id, .int .i64 r'.mat, .string r'.data] := hW3 ▸ ((k15.far (p := ⟨b2, c, none⟩) (Ne.symm hb215) _).far (p := ⟨b4, c, none⟩) (Ne.symm hb415) _)
          rw [hW3]
          clear hW3 x0 x1 x2 x3 x4 x5 lx z0 z0f z0l z4 z4f z4l z42 z24 zg zgl zg2 zg2'
          obtain ⟨⟨x0, x1, x2, x3, x4, x5⟩, lx⟩ := bk6 k15b
          by_cases hWr : Writes r'.kind = true
          · have hWr' := hide hWr
            obtain ⟨R, hR⟩ : ∃ R, K.st.rep r'.q = R := ⟨_, rfl⟩
            have hRv : R.vs = [] := by rw [← hR]; exact rep_vs _ _
            obtain ⟨c0', hc0⟩ : ∃ z, (K.st.rep r'.q).code = z := ⟨_, rfl⟩
            obtain ⟨v0, hv0⟩ : ∃ z, (K.st.rep r'.q).ver = z := ⟨_, rfl⟩
            obtain ⟨d0, hd0⟩ : ∃ z, (K.st.rep r'.q).data = z := ⟨_, rfl⟩
            have cP := hide (fun (U : World) (h : Old W3 U) => (HB3.out.step h).sput r'.q c0' v0 _ d0 _ hc0 hv0 hd0 rfl rfl hst)
            rw [hR] at hc0 hv0 hd0
            have HR := hide hR
            go_wp2_with fail
            refine (rWrites_at r'.client r'.seq r'.kind r'.id r'.mat r'.data true hWr W3).mono ?_
            rintro e W4 ⟨rfl, o4⟩
            clear x0 x1 x2 x3 x4 x5 lx
            obtain ⟨⟨x0, x1, x2, x3, x4, x5⟩, lx⟩ := bk6 (k15b.old o4)
            go_wp2_with fail
            refine (cP.out W4 o4).mono ?_
            rintro e W5 ⟨⟨Ar, cr, rfl⟩, ⟨own1, hB5⟩, hfr5⟩
            have hQ4 : Bk W5 b15 24 #[.int .i64 r'.client, .int .i64 r'.seq, .int .i64 r'.kind, .int .i64 r'.id, .int .i64 r'.mat, .string r'.data] := (k15b.old o4).fr hfr5 (by rw [own15]; decide)
            clear x0 x1 x2 x3 x4 x5 lx
            go_upto_region 25 with fail
            obtain ⟨b17, hb17⟩ : ∃ z, W5.heap.size = z := ⟨_, rfl⟩
            obtain ⟨W6, hW6⟩ : ∃ X, W5.alloc (.cells #[.int .i64 c0', .int .i64 v0, .string d0, .slice Ar 0 cr] 43) = X := ⟨_, rfl⟩
            have o6 : Old W5 W6 := hW6 ▸ (Old.refl' W5).alloc' _
            have hR5 : Bk W6 b17 43 #[.int .i64 c0', .int .i64 v0, .string d0, .slice Ar 0 cr] := by rw [← hW6, ← hb17]; exact Bk.new W5 43 _
            have hQ5 := hQ4.old o6
            have hlt17 : ∀ b, own1 b ≠ 0 → b ≠ b17 := fun b hb e => by have := (hB5.lo b hb).2; omega
            have n315 : b3 ≠ b15 := fun e => by have := HB1.out.o3; rw [e, own15] at this; exact absurd this (by decide)
            have n415 : b4 ≠ b15 := fun e => by have := HB1.out.o4; rw [e, own15] at this; exact absurd this (by decide)
            have n317 : b3 ≠ b17 := hlt17 b3 (by rw [hB5.o3]; decide)
            have n417 : b4 ≠ b17 := hlt17 b4 (by rw [hB5.o4]; decide)
            have n315' := Ne.symm n315
            have n415' := Ne.symm n415
            have n317' := Ne.symm n317
            have n417' := Ne.symm n417
            have hM5 := hB5.step o6
            simp only [hb17, hW6]
            clear hW6 hb17 o6 hB5 hQ4
            have hZ := hide (fun (U : World) (a b : Bool) (h : MkB 0 own1 w U p g b1 b2 b3 b4 (.slice A K.log.length ca) ⟨K.s, K.l, K.st.put r'.q, K.log, K.seq, setF K.done c true, if a then setF K.told c R else K.told, if b then setF (setF K.at_ c K.st.n) c (K.st.put r'.q).n else (setF K.at_ c K.st.n)⟩) (h2 : Bk U b17 43 #[.int .i64 c0', .int .i64 v0, .string d0, .slice Ar 0 cr]) => (by
                obtain ⟨F, k1, -⟩ := h.S (by decide)
                obtain ⟨⟨r0, r1, r2, r3⟩, -, -⟩ := bk4 h2
                exact ⟨k1.1.n0, r0, r1, r2, r3⟩ :
              U.cell? ⟨g, 1, none⟩ = some (.int .i64 (K.st.put r'.q).n) ∧ U.cell? ⟨b17, 0, none⟩ = some (.int .i64 c0') ∧ U.cell? ⟨b17, 1, none⟩ = some (.int .i64 v0) ∧ U.cell? ⟨b17, 2, none⟩ = some (.string d0) ∧ U.cell? ⟨b17, 3, none⟩ = some (.slice Ar 0 cr)))
            have hT8 : ∀ (d : Nat → Option Value) (w' : World), d 8 = none → MkB 0 own1 w w' p g b1 b2 b3 b4 (.slice A K.log.length ca) ⟨K.s, K.l, K.st.put r'.q, K.log, K.seq, setF K.done c true, if (d 8).isSome then setF K.told c R else K.told, if (d 10).isSome then setF (setF K.at_ c K.st.n) c (K.st.put r'.q).n else (setF K.at_ c K.st.n)⟩ → MkB 0 own1 w ((((w'.setCell ⟨b3, c * 4, none⟩ (.int .i64 c0')).setCell ⟨b3, c * 4 + 1, none⟩ (.int .i64 v0)).setCell ⟨b3, c * 4 + 2, none⟩ (.string d0)).setCell ⟨b3, c * 4 + 3, none⟩ (.slice Ar 0 cr)) p g b1 b2 b3 b4 (.slice A K.log.length ca) ⟨K.s, K.l, K.st.put r'.q, K.log, K.seq, setF K.done c true, if (upd d 8 undef 8).isSome then setF K.told c R else K.told, if (upd d 8 undef 10).isSome then setF (setF K.at_ c K.st.n) c (K.st.put r'.q).n else (setF K.at_ c K.st.n)⟩ := fun d w' h1 h2 => by
              have e1 : upd d 8 undef 8 = some undef := by simp [upd]
              have e2 : upd d 8 undef 10 = d 10 := by simp [upd]
              rw [h1] at h2
              rw [e1, e2]
              have := h2.set3 hc4 R Ar cr (by rw [hRv]; exact CellsAt.nil _ _) (fun h => absurd hRv h)
              rw [hRv, hc0, hv0, hd0] at this
              simpa using this
            have hT10 : ∀ (d : Nat → Option Value) (w' : World), d 10 = none → MkB 0 own1 w w' p g b1 b2 b3 b4 (.slice A K.log.length ca) ⟨K.s, K.l, K.st.put r'.q, K.log, K.seq, setF K.done c true, if (d 8).isSome then setF K.told c R else K.told, if (d 10).isSome then setF (setF K.at_ c K.st.n) c (K.st.put r'.q).n else (setF K.at_ c K.st.n)⟩ → MkB 0 own1 w (w'.setCell ⟨b4, c, none⟩ (.int .i64 (K.st.put r'.q).n)) p g b1 b2 b3 b4 (.slice A K.log.length ca) ⟨K.s, K.l, K.st.put r'.q, K.log, K.seq, setF K.done c true, if (upd d 10 undef 8).isSome then setF K.told c R else K.told, if (upd d 10 undef 10).isSome then setF (setF K.at_ c K.st.n) c (K.st.put r'.q).n else (setF K.at_ c K.st.n)⟩ := fun d w' h1 h2 => by
              have e1 : upd d 10 undef 10 = some undef := by simp [upd]
              have e2 : upd d 10 undef 8 = d 8 := by simp [upd]
              rw [h1] at h2
              rw [e1, e2]
              have := h2.set4 hc4 ((K.st.put r'.q).n : Int)
              simpa using this
            refine region_steps (R := pick [eqv (.int .i64 c), eqv (.int .i64 c), eqv (.agg #[.int .i64 c0', .int .i64 v0, .string d0, .slice Ar 0 cr]), eqv (.pointer (some ⟨g, 0, none⟩)), eqv (.pointer (some ⟨g, 0, none⟩)), eqv (.pointer (some ⟨g, 1, none⟩)), eqv (.int .i64 (K.st.put r'.q).n), eqv (.pointer (some ⟨b3, c * 4, none⟩)), eqv (undef), eqv (.pointer (some ⟨b4, c, none⟩)), eqv (undef)]) (S := fun σ w' => MkB 0 own1 w w' p g b1 b2 b3 b4 (.slice A K.log.length ca) ⟨K.s, K.l, K.st.put r'.q, K.log, K.seq, setF K.done c true, if (σ 8).isSome then setF K.told c R else K.told, if (σ 10).isSome then setF (setF K.at_ c K.st.n) c (K.st.put r'.q).n else (setF K.at_ c K.st.n)⟩ ∧ Bk w' b17 43 #[.int .i64 c0', .int .i64 v0, .string d0, .slice Ar 0 cr] ∧ Bk w' b15 24 #[.int .i64 r'.client, .int .i64 r'.seq, .int .i64 r'.kind, .int .i64 r'.id, .int .i64 r'.mat, .string r'.data]) (T := (fun _ _ => True)) (by kernel_rfl) (by kernel_rfl) (by kernel_rfl) (Stab.pick (Stab.eqv (Stab.eqv (Stab.eqv (Stab.eqv (Stab.eqv (Stab.eqv (Stab.eqv (Stab.eqv (Stab.eqv (Stab.eqv (Stab.eqv (Stab.nil))))))))))))) (⟨hM5.step (Old.refl' _).drew', hR5.drew, hQ5.drew⟩) ?steps ?ends
            case steps =>
              refine StepsOk.cons (stepOk_pure [] [(14, .int .i64 c)] rfl rfl (by kernel_rfl) (by kernel_rfl) rfl (fun _ => trivial) (fun σ v w h => by simpa [upd] using h) (fun d E w' hk hda hS hc hf => by rintro  e14; exact ⟨_, by go_simp, rfl⟩)) ?_
              refine StepsOk.cons (stepOk_pure [] [(14, .int .i64 c)] rfl rfl (by kernel_rfl) (by kernel_rfl) rfl (fun _ => trivial) (fun σ v w h => by simpa [upd] using h) (fun d E w' hk hda hS hc hf => by rintro  e14; exact ⟨_, by go_simp, rfl⟩)) ?_
              refine StepsOk.cons (stepOk_pure [] [(17, .pointer (some ⟨b17, 0, none⟩))] rfl rfl (by kernel_rfl) (by kernel_rfl) rfl (fun _ => trivial) (fun σ v w h => by simpa [upd] using h) (fun d E w' hk hda hS hc hf => by rintro  e17; obtain ⟨hM6, hR6, hQ6⟩ := hS; obtain ⟨z1, z2, z3, z4, z5⟩ := hZ.out w' _ _ hM6 hR6; exact ⟨_, by go_simp, rfl⟩)) ?_
              refine StepsOk.cons (stepOk_pure [] [(7, .pointer (some ⟨g, 0, none⟩))] rfl rfl (by kernel_rfl) (by kernel_rfl) rfl (fun _ => trivial) (fun σ v w h => by simpa [upd] using h) (fun d E w' hk hda hS hc hf => by rintro  e7; exact ⟨_, by go_simp, rfl⟩)) ?_
              refine StepsOk.cons (stepOk_pure [(3, 108)] [] rfl rfl (by kernel_rfl) (by kernel_rfl) rfl (fun _ => trivial) (fun σ v w h => by simpa [upd] using h) (fun d E w' hk hda hS hc hf => by rintro _ q3 rfl e108 ; exact ⟨_, by go_simp, rfl⟩)) ?_
              refine StepsOk.cons (stepOk_pure [(4, 109)] [] rfl rfl (by kernel_rfl) (by kernel_rfl) rfl (fun _ => trivial) (fun σ v w h => by simpa [upd] using h) (fun d E w' hk hda hS hc hf => by rintro _ q4 rfl e109 ; exact ⟨_, by go_simp, rfl⟩)) ?_
              refine StepsOk.cons (stepOk_pure [(5, 110)] [] rfl rfl (by kernel_rfl) (by kernel_rfl) rfl (fun _ => trivial) (fun σ v w h => by simpa [upd] using h) (fun d E w' hk hda hS hc hf => by rintro _ q5 rfl e110 ; obtain ⟨hM6, hR6, hQ6⟩ := hS; obtain ⟨z1, z2, z3, z4, z5⟩ := hZ.out w' _ _ hM6 hR6; exact ⟨_, by go_simp, rfl⟩)) ?_
              refine StepsOk.cons (stepOk_pure [(0, 105)] [(11, .pointer (some ⟨b3, 0, none⟩))] rfl rfl (by kernel_rfl) (by kernel_rfl) rfl (fun _ => trivial) (fun σ v w h => by simpa [upd] using h) (fun d E w' hk hda hS hc hf => by rintro _ q0 rfl e105 e11; obtain ⟨hM6, hR6, hQ6⟩ := hS; obtain ⟨z1, z2, z3, z4, z5⟩ := hZ.out w' _ _ hM6 hR6; exact ⟨_, by go_simp, rfl⟩)) ?_
              refine StepsOk.cons (stepOk_store [(7, 112), (2, 107)] [] rfl rfl (by kernel_rfl) (by kernel_rfl) rfl (fun d E w' hk hda hS hc hf => by rintro _ q7 rfl e112 _ q2 rfl e107 ; obtain ⟨hM6, hR6, hQ6⟩ := hS; obtain ⟨z1, z2, z3, z4, z5⟩ := hZ.out w' _ _ hM6 hR6; obtain ⟨At6, ca6, hk6, -⟩ := hM6.k3 (by decide); obtain ⟨y0, y1, y2, y3⟩ := told_get hk6 hc4; have f0 := hk6.frozen (c * 4); have f1 := hk6.frozen (c * 4 + 1); have f2 := hk6.frozen (c * 4 + 2); have f3 := hk6.frozen (c * 4 + 3); have f4 := hk6.lt; exact ⟨(((w'.setCell ⟨b3, c * 4, none⟩ (.int .i64 c0')).setCell ⟨b3, c * 4 + 1, none⟩ (.int .i64 v0)).setCell ⟨b3, c * 4 + 2, none⟩ (.string d0)).setCell ⟨b3, c * 4 + 3, none⟩ (.slice Ar 0 cr), by go_simp, rfl, trivial, ⟨hT8 _ _ (hk 8 (by kernel_rfl)) hM6, (((hR6.far (p := ⟨b3, c * 4, none⟩) (by assumption) _).far (p := ⟨b3, c * 4 + 1, none⟩) (by assumption) _).far (p := ⟨b3, c * 4 + 2, none⟩) (by assumption) _).far (p := ⟨b3, c * 4 + 3, none⟩) (by assumption) _, (((hQ6.far (p := ⟨b3, c * 4, none⟩) (by assumption) _).far (p := ⟨b3, c * 4 + 1, none⟩) (by assumption) _).far (p := ⟨b3, c * 4 + 2, none⟩) (by assumption) _).far (p := ⟨b3, c * 4 + 3, none⟩) (by assumption) _⟩⟩)) ?_
              refine StepsOk.cons (stepOk_pure [(1, 106)] [(12, .pointer (some ⟨b4, 0, none⟩))] rfl rfl (by kernel_rfl) (by kernel_rfl) rfl (fun _ => trivial) (fun σ v w h => by simpa [upd] using h) (fun d E w' hk hda hS hc hf => by rintro _ q1 rfl e106 e12; obtain ⟨hM6, hR6, hQ6⟩ := hS; obtain ⟨z1, z2, z3, z4, z5⟩ := hZ.out w' _ _ hM6 hR6; exact ⟨_, by go_simp, rfl⟩)) ?_
              refine StepsOk.cons (stepOk_store [(9, 113), (6, 111)] [] rfl rfl (by kernel_rfl) (by kernel_rfl) rfl (fun d E w' hk hda hS hc hf => by rintro _ q9 rfl e113 _ q6 rfl e111 ; obtain ⟨hM6, hR6, hQ6⟩ := hS; obtain ⟨z1, z2, z3, z4, z5⟩ := hZ.out w' _ _ hM6 hR6; have y0 := asked_get (hM6.k4 (by decide)) hc4; have f0 := (hM6.k4 (by decide)).frozen c; exact ⟨w'.setCell ⟨b4, c, none⟩ (.int .i64 (K.st.put r'.q).n), by go_simp, rfl, trivial, ⟨hT10 _ _ (hk 10 (by kernel_rfl)) hM6, hR6.far (p := ⟨b4, c, none⟩) (by assumption) _, hQ6.far (p := ⟨b4, c, none⟩) (by assumption) _⟩⟩)) ?_
              exact StepsOk.nil
            case ends =>
              intro σ9 w9 hS9 hA9
              refine Ends.eqv (some 105) (.int .i64 c) rfl (fun _ h => h) ?_
              refine Ends.eqv (some 106) (.int .i64 c) rfl (fun _ h => h) ?_
              refine Ends.eqv (some 107) (.agg #[.int .i64 c0', .int .i64 v0, .string d0, .slice Ar 0 cr]) rfl (fun _ h => h) ?_
              refine Ends.eqv (some 108) (.pointer (some ⟨g, 0, none⟩)) rfl (fun _ h => h) ?_
              refine Ends.eqv (some 109) (.pointer (some ⟨g, 0, none⟩)) rfl (fun _ h => h) ?_
              refine Ends.eqv (some 110) (.pointer (some ⟨g, 1, none⟩)) rfl (fun _ h => h) ?_
              refine Ends.eqv (some 111) (.int .i64 (K.st.put r'.q).n) rfl (fun _ h => h) ?_
              refine Ends.eqv (some 112) (.pointer (some ⟨b3, c * 4, none⟩)) rfl (fun _ h => h) ?_
              refine Ends.eqv none (undef) rfl (fun _ h => h) ?_
              refine Ends.eqv (some 113) (.pointer (some ⟨b4, c, none⟩)) rfl (fun _ h => h) ?_
              refine Ends.eqv none (undef) rfl (fun _ h => h) ?_
              refine Ends.nil ?_
              have hA9' := hA9
              clear hA9
              simp only [put_lit, put_none, List.set_cons_zero, List.set_cons_succ]
              obtain ⟨hM9, hR9, hQ9⟩ := hS9
              rw [hA9' 8 (by simp), hA9' 10 (by simp)] at hM9
              simp only [if_true, setF_setF] at hM9
              rw [← HR.out] at hM9
              clear hA9' hZ hT8 hT10
              have hrow := hM9.row (by decide)
              obtain ⟨⟨x0, x1, x2, x3, x4, x5⟩, lx⟩ := bk6 hQ9
              have HM := hide hM9
              have HROW := hide hrow
              clear hM9 hrow
              go_wp2_with (at_builtin; refine wpList_app _ rfl (.tmp 114) (.tmp 116) 29 rfl 0 24 i0 (.agg #[.int .i64 0, .int .i64 0, .int .i64 0, .int .i64 0, .int .i64 0, .string { data := #[] }]) 6 56 Try.underlying29 hi0 hz0 hz1 hz2 rfl (by decide) (.slice A K.log.length ca) K.log.length (K.log.flatMap ReqV.cells) rfl (HROW.out.alloc _) (some ⟨w9.heap.size, 0, none⟩) 1 1 [.int .i64 r'.client, .int .i64 r'.seq, .int .i64 r'.kind, .int .i64 r'.id, .int .i64 r'.mat, .string r'.data] rfl rfl (cells_bk (Bk.new w9 24 #[.int .i64 r'.client, .int .i64 r'.seq, .int .i64 r'.kind, .int .i64 r'.id, .int .i64 r'.mat, .string r'.data])) (by simp [Value.oneCell']) (by unfold maxLen; omega) (by omega) (Nat.zero_le _) (K.log.length + 1) rfl _ rfl ?_; intro A2 c2 W10 h3; have hAp := hide (HM.out.app (q := r') rfl ((Old.refl' w9).alloc' _) h3))
              obtain ⟨own2, hfin⟩ := hAp.out
              have HF := hide hfin
              clear hfin
              go_wp2_with fail
              go_roundw
              case rel => exact ⟨i + 1, own2, A2, c2, ⟨K.s, K.l, K.st.put r'.q, K.log ++ [r'], K.seq, setF K.done c true, setF K.told c (K.st.rep r'.q), setF K.at_ c (K.st.put r'.q).n⟩, by omega, by go_num, by simp, by rw [show (⟨K.s, K.l, K.st.put r'.q, K.log ++ [r'], K.seq, setF K.done c true, setF K.told c (K.st.rep r'.q), setF K.at_ c (K.st.put r'.q).n⟩ : MkV).log.length = K.log.length + 1 by simp]; exact HF.out, by rw [HN.out, nextW (K := K.nm) HW.out HD.out hWr]; rfl⟩
              case measure => simp [intOf]; omega
          · have hWr1 : Writes r'.kind = false := by simpa using hWr
            obtain ⟨R, hR⟩ : ∃ R, K.st.ask r'.q = R := ⟨_, rfl⟩
            obtain ⟨nR, hnR⟩ : ∃ z, R.vs.length = z := ⟨_, rfl⟩
            obtain ⟨ea, hea⟩ : ∃ e : Int, (if askOk r'.q then 0 else 1) = e := ⟨_, rfl⟩
            have cP := hide (fun (U : World) (h : Old W3 U) => (HB3.out.step h).sask r'.q hst R hR nR hnR)
            rw [hea] at cP
            have HR := hide hR
            have HNR := hide hnR
            clear hR hnR hea
            go_wp2_with fail
            refine (rWrites_at r'.client r'.seq r'.kind r'.id r'.mat r'.data false hWr1 W3).mono ?_
            rintro e W4 ⟨rfl, o4⟩
            clear x0 x1 x2 x3 x4 x5 lx
            obtain ⟨⟨x0, x1, x2, x3, x4, x5⟩, lx⟩ := bk6 (k15b.old o4)
            go_wp2_with fail
            refine (cP.out W4 o4).mono ?_
            rintro e W5 ⟨Ar, cr, rfl, hI5, ⟨own1, hB5, hA5⟩, o5⟩
            clear x0 x1 x2 x3 x4 x5 lx
            go_upto_region 28 with fail
            obtain ⟨b17, hb17⟩ : ∃ z, W5.heap.size = z := ⟨_, rfl⟩
            obtain ⟨W6, hW6⟩ : ∃ X, W5.alloc (.cells #[.int .i64 R.code, .int .i64 R.ver, .string R.data, .slice Ar nR cr] 43) = X := ⟨_, rfl⟩
            have o6 : Old W5 W6 := hW6 ▸ (Old.refl' W5).alloc' _
            have hR5 : Bk W6 b17 43 #[.int .i64 R.code, .int .i64 R.ver, .string R.data, .slice Ar nR cr] := by rw [← hW6, ← hb17]; exact Bk.new W5 43 _
            have hM5 := hB5.step o6
            have hI6 : IntsAt W6 Ar R.vs := CellsAt.old hI5 o6
            simp only [hb17, hW6]
            clear hW6 hb17 o6 hB5 hI5
            have hfin := hM5.set3 hc4 R Ar cr hI6 hA5
            rw [HNR.out, ← HR.out] at hfin
            have HF := hide hfin
            obtain ⟨⟨r0, r1, r2, r3⟩, -, rl⟩ := bk4 hR5
            obtain ⟨At6, ca6, hk6, -⟩ := hM5.k3 (by decide)
            obtain ⟨y0, y1, y2, y3⟩ := told_get hk6 hc4
            have f0 := hk6.frozen (c * 4)
            have f1 := hk6.frozen (c * 4 + 1)
            have f2 := hk6.frozen (c * 4 + 2)
            have f3 := hk6.frozen (c * 4 + 3)
            have f4 := hk6.lt
            clear hfin hM5 hk6 hR5 hI6 hA5
            go_wp2_with fail
            go_roundw
            case rel => exact ⟨i + 1, own1, A, ca, ⟨K.s, K.l, K.st, K.log, K.seq, setF K.done c true, setF K.told c (K.st.ask r'.q), setF K.at_ c K.st.n⟩, by omega, by go_num, rfl, (by have := HF.out; rw [HR.out] at this ⊢; exact this), by rw [HN.out, nextR (K := K.nm) HW.out HD.out hWr1]; rfl⟩
            case measure => simp [intOf]; omega
    · obtain rfl : n = i := by omega
      obtain ⟨FP, hP, -⟩ := hB.P (by decide)
      obtain ⟨Ap, cp, hcp, hlp, hap⟩ := hP.acts
      have hpl : p < wr.heap.size := hP.lt p hP.gF
      obtain ⟨nl, hnl⟩ : ∃ z, K.l.length = z := ⟨_, rfl⟩
      obtain ⟨nq, hnq⟩ : ∃ z, K.log.length = z := ⟨_, rfl⟩
      have hrow := hB.row (by decide)
      rw [hnq] at hrow
      obtain ⟨AQ, cQ, eQ, hcQ, -⟩ := own_form hrow
      injection eQ with eQ1 eQ2 eQ3
      have hcQ' : nq ≤ ca := by omega
      have hK2 : K.nm = runM qt ms := by rw [hK, List.take_of_length_le (by have := HL.out; omega)]
      have HEND := hide (show ∃ l : List ActV, l.map ActV.nm = (runM qt ms).l ∧ nl = l.length ∧ nl ≤ cp ∧ ActsAt wr Ap l ∧ nq = (runM qt ms).log.length ∧ ReqsAt wr A (runM qt ms).log ∧ Old w wr from
        ⟨K.l, by rw [← hK2]; rfl, hnl.symm, hnl ▸ hlp, hap, by rw [← hK2]; exact hnq.symm, by rw [← hK2]; exact CellsAt.of_own hrow, hB.old⟩)
      rw [hnl] at hcp
      simp only [hnq]
      clear hB hK hK2 hP hap hrow hnl hnq eQ1 eQ2 eQ3 hcQ hlp
      go_wp2_with fail
      go_ret2
      obtain ⟨l, e1, e2, e3, e4, e5, e6, e7⟩ := HEND.out
      exact ⟨Ap, nl, cp, A, nq, ca, l, rfl, e1, e2, e3, e4, e5, hcQ', e6, e7⟩
end Go.Proofs.Ytffahoocbjfdaaa
