/- casebooklaw9.BagPlays: the walk; the document's L.To. -/
import Derived.Deep.LoopGhost
import Derived.Deep.CutBlock
import Derived.Test.YtjjcdpcnokckiaaBagR
import Derived.Test.YtjjcdpcnokckiaaReg
import Derived.Test.YtjjcdpcnokckiaaRefI
namespace Go.Proofs.Ytjjcdpcnokckiaa
open Go.RowKit

theorem wp_runv {P : Program} {Q : Exit → Act → World → Prop} {K : Act → World → Prop} {o : Oper} {a : Act} {w w' : World} (u : Value) (hr : (execOp a.eval o).run P w = .ok (.value u) w') (h : K (a.put o.dst u) w') : Oper.wp P o a w K Q := by
  unfold Oper.wp
  rw [hr]
  exact h
set_option maxRecDepth 100000 in
set_option maxHeartbeats 1000000 in
theorem RTo (base g : Nat) (ms : List Msg) (who : Int) (hn : ms.length ≤ 100000) (w : World) (h : LAt w base g ms) :
    Calls Try.prog 18 #[.pointer (some ⟨g, 0, none⟩), .int .i64 who] w fun e w' =>
      ∃ A c, e = .returned (.slice A (toL ms who ms.length).length c) ∧ w'.ownsRow w.heap.size 3 1 (.slice A (toL ms who ms.length).length c) (toL ms who ms.length).length ((toL ms who ms.length).map (Value.int .i64)) ∧ Old w w' := by
  obtain ⟨i0, hi, hz0, hz1, hz2⟩ := info_parts info_int
  obtain ⟨n, hN⟩ : ∃ n, n = ms.length := ⟨_, rfl⟩
  rw [← hN] at hn ⊢
  have HN := hide hN
  clear hN
  obtain ⟨Ab, c, hb, ho⟩ := h.row
  rw [← HN.out] at hb ho
  have hg := h.lt
  go_enter Try.func18, Try.ntmps18
  go_wp2
  go_loopw [5, 6] (fun v iv wr => ∃ k : Nat, k ≤ n ∧ iv = .int .i64 k ∧ Old w wr ∧ wr.ownsRow w.heap.size 3 1 v (toL ms who k).length ((toL ms who k).map (Value.int .i64)))
    (fun _ iv _ => n - (intOf iv).toNat)
  case atStart => exact ⟨0, by omega, rfl, Old.refl' w, World.ownsRow_nil _ _ _ _⟩
  case round =>
    obtain ⟨k, hk, rfl, hB, hown⟩ := hrel
    have hle := toL_le ms who k
    obtain ⟨Av, cv, rfl, -, -⟩ := own_form hown
    have d0 := (hB.cell (p := ⟨g, 0, none⟩) hg).trans (hb.cell 0)
    simp at d0
    by_cases hlt : k < n
    · obtain ⟨m, hm⟩ : ∃ m, ms[k]? = some m := ⟨ms[k]'(by rw [← HN.out]; exact hlt), List.getElem?_eq_getElem _⟩
      obtain ⟨ga, c', hb', ho', -, g1, -⟩ := h.at_ hm
      rw [← HN.out] at hb' ho'
      have hga := own_lt ho'
      have d0' := (hB.cell (p := ⟨g, 0, none⟩) hg).trans (hb'.cell 0)
      have d1 := (hB.cell (p := ⟨ga, k * 3 + 1, none⟩) hga).trans g1
      simp at d0'
      have hmd : ms[k]?.getD default = m := by rw [hm]; rfl
      have HM := hide hmd
      obtain ⟨frm, to_, A, mc, bs⟩ := m
      simp only at d1
      clear hm g1 hmd d0
      by_cases he : to_ = who
      · have he' : (to_ == who) = true := by simpa using he
        have HT := hide (toL_yes ms who k (by rw [HM.out]; exact he))
        have HE := hide he
        clear he
        go_wp2_with (at_builtin; refine wpList_app _ rfl (.tmp 26) (.tmp 28) 22 rfl w.heap.size 3 i0 (.int .i64 0) 1 8 Try.underlying22 hi hz0 hz1 hz2 rfl (by decide) _ _ _ rfl (hown.alloc _) (some ⟨wr.heap.size, 0, none⟩) 1 1 [.int .i64 k] rfl rfl (cells_bk (Bk.new wr 3 #[.int .i64 k])) (by simp [Value.oneCell']) (by unfold maxLen; omega) (by omega) (by have := hB.size; simp; omega) _ rfl _ rfl ?_; intro A2 c2 w2 h2)
        go_roundw
        case rel =>
          refine ⟨k + 1, by omega, by go_num, h2.old (hB.alloc' _) (fun j hj => (hown.lt j hj).1), ?_⟩
          rw [HT.out, List.map_append, List.length_append]
          exact h2.own
        case measure => simp [intOf]; omega
      · have he' : (to_ == who) = false := by simpa using he
        have HT := hide (toL_no ms who k (by rw [HM.out]; exact he))
        have HE := hide he
        clear he
        go_wp2
        go_roundw
        case rel =>
          refine ⟨k + 1, by omega, by go_num, hB, ?_⟩
          rw [HT.out]
          exact hown
        case measure => simp [intOf]; omega
    · obtain rfl : k = n := by omega
      go_wp2
      go_ret
      exact ⟨Av, cv, rfl, hown, hB⟩

theorem Ints_same (A B : Option Addr) (n : Nat) (vs : List Int) (ca cb : Nat) (w : World) (ha : IntsAt w A vs) (hb : IntsAt w B vs) (hl : n = vs.length) (hn : n ≤ 1000) :
    Calls Try.prog 17 #[.slice A n ca, .slice B n cb] w fun e w' => e = .returned (.bool true) ∧ Old w w' := by
  have := Ints_any A B n n vs vs ca cb w ha hb hl hl hn hn
  rwa [decide_eq_true rfl] at this
/-- a step of the law: its kind, place, whom from, whom for, where its bytes lie, its bytes -/
structure GOp where
  kd : Int
  K : Int
  fr : Int
  t_ : Int
  A : Option Addr
  c : Nat
  bs : List Int
instance : Inhabited GOp := ⟨⟨0, 0, 0, 0, none, 0, []⟩⟩
def GOp.cells (x : GOp) : List Value := [.int .i64 x.kd, .int .i64 x.K, .int .i64 x.fr, .int .i64 x.t_, .slice x.A x.bs.length x.c]
theorem gopCells_get (l : List GOp) : ∀ k x, l[k]? = some x → (l.flatMap GOp.cells)[k * 5]? = some (.int .i64 x.kd) ∧ (l.flatMap GOp.cells)[k * 5 + 1]? = some (.int .i64 x.K) ∧ (l.flatMap GOp.cells)[k * 5 + 2]? = some (.int .i64 x.fr) ∧
    (l.flatMap GOp.cells)[k * 5 + 3]? = some (.int .i64 x.t_) ∧ (l.flatMap GOp.cells)[k * 5 + 4]? = some (.slice x.A x.bs.length x.c) := by
  induction l with
  | nil => intro k m h; simp at h
  | cons y l ih =>
    intro k m h
    have e : (y :: l).flatMap GOp.cells = .int .i64 y.kd :: .int .i64 y.K :: .int .i64 y.fr :: .int .i64 y.t_ :: .slice y.A y.bs.length y.c :: l.flatMap GOp.cells := rfl
    cases k with
    | zero => simp at h; subst h; simp [e]
    | succ k =>
      have := ih k m (by simpa using h)
      rw [e, show (k + 1) * 5 = k * 5 + 1 + 1 + 1 + 1 + 1 from by omega]
      simpa using this

/-- the bag, the document's row, and a step's block beside them -/
structure Quad (w0 w : World) (gb gx : Nat) (ms ns : List Msg) (o : Nat) (cs : Array Value) : Prop where
  bag : BagAt w w0.heap.size gb ms
  row : LAt w w0.heap.size gx ns
  od : Old w0 w
  bk : Bk w o 43 cs
structure Duo (w0 w : World) (gb gx : Nat) (ms : List Msg) : Prop where
  bag : BagAt w w0.heap.size gb ms
  row : LAt w w0.heap.size gx ms
  od : Old w0 w
section
variable {w0 w w' : World} {gb gx o : Nat} {ms ns ms' : List Msg} {cs : Array Value}
theorem Quad.duo (h : Quad w0 w gb gx ms ms o cs) : Duo w0 w gb gx ms := ⟨h.bag, h.row, h.od⟩
theorem Quad.old (h : Quad w0 w gb gx ms ns o cs) (hf : Old w w') : Quad w0 w' gb gx ms ns o cs := ⟨h.bag.old hf, h.row.old hf, h.od.trans' hf, h.bk.old hf⟩
theorem Duo.old (h : Duo w0 w gb gx ms) (hf : Old w w') : Duo w0 w' gb gx ms := ⟨h.bag.old hf, h.row.old hf, h.od.trans' hf⟩
theorem Duo.of (h : Duo w0 w gb gx ms) (cs : Array Value) : Quad w0 (w.alloc (.cells cs 43)) gb gx ms ms w.heap.size cs := ⟨h.bag.alloc _, h.row.old ((Old.refl' w).alloc' _), h.od.alloc' _, Bk.new w _ _⟩
theorem Quad.byBag (h : Quad w0 w gb gx ms ns o cs) (hb : BagAt w' w0.heap.size gb ms') (hf : FrT BagT w0.heap.size w w') : Quad w0 w' gb gx ms' ns o cs :=
  ⟨hb, h.row.frT hf (by unfold BagT; decide) (by unfold BagT; decide), hf.old h.od, h.bk.frT hf (by unfold BagT; decide)⟩
theorem Quad.byRef (h : Quad w0 w gb gx ms ns o cs) (hr : LAt w' w0.heap.size gx ms') (hf : FrT RefT w0.heap.size w w') : Quad w0 w' gb gx ms ms' o cs :=
  ⟨h.bag.frT hf (by unfold RefT; decide) (by unfold RefT; decide) (by unfold RefT; decide), hr, hf.old h.od, h.bk.frT hf (by unfold RefT; decide)⟩
theorem Duo.byBag (h : Duo w0 w gb gx ms) (hb : BagAt w' w0.heap.size gb ms') (hf : FrT BagT w0.heap.size w w') : BagAt w' w0.heap.size gb ms' ∧ LAt w' w0.heap.size gx ms ∧ Old w0 w' :=
  ⟨hb, h.row.frT hf (by unfold BagT; decide) (by unfold BagT; decide), hf.old h.od⟩
/-- a store into a block of bytes that no message has -/
theorem BagAt.setU8 {base : Nat} (h : BagAt w base gb ms) {q : Nat} {c8 : Array Value} (hc : Bk w q 5 c8) (hne : ∀ m ∈ ms, m.sl.ownBlock ≠ some q) (i : Nat) (u : Value) : BagAt (w.setCell ⟨q, i, none⟩ u) base gb ms := by
  obtain ⟨A, c, hb, ho⟩ := h.row
  have hf : FrT (fun t => t = 5) 0 w (w.setCell ⟨q, i, none⟩ u) := FrT.set_ (T := fun t => t = 5) (FrT.refl w) hc (Nat.zero_le _) rfl i u
  have hq : Fr (fun k => k = q) w (w.setCell ⟨q, i, none⟩ u) := Fr.setCell (S := fun k => k = q) (p := ⟨q, i, none⟩) (Fr.refl _ w) (.inr rfl) u
  exact ⟨⟨A, c, hb.frT hf (by decide), own_frT ho hf (by decide)⟩, fun m hm => own_fr (h.own m hm) hq (fun k hk e => hne m hm (hk.trans (by rw [e]))), h.low⟩
theorem LAt.setU8 {base : Nat} (h : LAt w base gx ns) {q : Nat} {c8 : Array Value} (hc : Bk w q 5 c8) (i : Nat) (u : Value) : LAt (w.setCell ⟨q, i, none⟩ u) base gx ns :=
  h.frT (T := fun t => t = 5) (b := 0) (FrT.set_ (T := fun t => t = 5) (FrT.refl w) hc (Nat.zero_le _) rfl i u) (by decide) (by decide)
theorem Quad.setU8 (h : Quad w0 w gb gx ms ns o cs) {q : Nat} {c8 : Array Value} (hc : Bk w q 5 c8) (hq : w0.heap.size ≤ q) (hne : ∀ m ∈ ms, m.sl.ownBlock ≠ some q) (i : Nat) (u : Value) : Quad w0 (w.setCell ⟨q, i, none⟩ u) gb gx ms ns o cs :=
  ⟨h.bag.setU8 hc hne i u, h.row.setU8 hc i u, h.od.setCell' (p := ⟨q, i, none⟩) hq u, h.bk.far (p := ⟨q, i, none⟩) (Bk.ne_ h.bk hc (by decide)) u⟩
end
theorem toL_others (ms : List Msg) (who : Int) : ∀ n, n ≤ ms.length → (toL ms who n).length + (others who (ms.take n)).length = n
  | 0, _ => by simp [toL, others]
  | n + 1, h => by
    have ih := toL_others ms who n (by omega)
    have hm : ms[n]? = some ms[n] := List.getElem?_eq_getElem _
    rw [others_succ who ms n _ hm]
    have hd : (ms[n]?.getD default) = ms[n] := by rw [hm]; rfl
    by_cases e : ms[n].to_ = who
    · rw [if_pos e, toL_yes ms who n (by rw [hd]; exact e), List.length_append]
      simp; omega
    · rw [if_neg e, toL_no ms who n (by rw [hd]; exact e), List.length_append]
      simp; omega
theorem Len_at (base g : Nat) (ms : List Msg) (n : Nat) (hl : ms.length = n) (hn : n ≤ 100000) (w : World) (h : BagAt w base g ms) :
    Calls Try.prog 12 #[.pointer (some ⟨g, 0, none⟩)] w fun e w' => e = .returned (.int .i64 n) ∧ w = w' := Len_bag base g ms n hl hn w h
/-- the document's row, its slice named -/
theorem LAt.cut {w : World} {base g : Nat} {ms : List Msg} {N : Nat} (h : LAt w base g ms) (hN : ms.length = N) : ∃ A c, Bk w g 41 #[.slice A N c] ∧ w.ownsRow base 45 3 (.slice A N c) N (ms.flatMap Msg.rcells) := by
  subst hN
  exact h.row
theorem LAt.put {w w1 W2 : World} {base g : Nat} {ms : List Msg} {m : Msg} {N : Nat} {A A2 : Option Addr} {c c2 : Nat} (h : LAt w base g ms) (hN : ms.length = N) (hb : Bk w g 41 #[.slice A N c]) (ho : w1.ownsRow base 45 3 (.slice A N c) N (ms.flatMap Msg.rcells)) (hw : Old w w1)
    (h2 : Apps w1 base 45 3 (.slice A N c) (N + 1) (ms.flatMap Msg.rcells ++ m.rcells) (.slice A2 (N + 1) c2) W2) :
    LAt (W2.setCell ⟨g, 0, none⟩ (.slice A2 (N + 1) c2)) base g (ms ++ [m]) ∧ FrT RefT base w (W2.setCell ⟨g, 0, none⟩ (.slice A2 (N + 1) c2)) := by
  have hb2 := h2.bk (hb.old hw) (fun e => own_ne_bk ho (hb.old hw) (by decide) e)
  refine ⟨⟨⟨A2, c2, ?_, ?_⟩, h.low⟩, ?_⟩
  · rw [List.length_append, hN]
    exact hb2.set_ 0 _
  · rw [List.length_append, hN, List.flatMap_append, show [m].flatMap Msg.rcells = m.rcells by simp]
    exact own_set h2.own (own_ne_bk h2.own hb2 (by decide)) _
  · exact (((FrT.of_old hw).trans (h2.frT ho (.inr rfl) (Nat.le_refl _)))).set_ hb2 h.low (.inl rfl) 0 _

set_option maxRecDepth 100000 in
set_option maxHeartbeats 16000000 in
theorem BPlays_walk (A0 : Option Addr) (n c0 : Nat) (l : List GOp) (hl : n = l.length) (hn : n ≤ 9223372036854775807) (w : World) (h0 : CellsAt w A0 (l.flatMap GOp.cells)) (hok : ∀ x ∈ l, CellsAt w x.A (u8s x.bs)) :
    Calls Try.prog 5 #[.slice A0 n c0] w fun e w' => e = .returned (.bool true) ∧ Old w w' := by
  have HL := hide hl
  have HOK := hide hok
  clear hl hok
  obtain ⟨i0, hi, hz0, hz1, hz2⟩ := info_parts info_u8
  obtain ⟨j0, hj, hjz0, hjz1, hjz2⟩ := info_parts info_M
  have hduo : Duo w ((w.alloc (.cells #[.slice none 0 0] 55)).alloc (.cells #[.slice none 0 0] 41)) w.heap.size (w.heap.size + 1) [] :=
    ⟨(New_bagAt w (Nat.le_refl _)).alloc _, ⟨⟨none, 0, bk_new1 w (.cells #[.slice none 0 0] 55) 41 _, World.ownsRow_nil _ _ _ _⟩, by omega⟩, ((Old.refl' w).alloc' _).alloc' _⟩
  obtain ⟨gb, hgb⟩ : ∃ g, g = w.heap.size := ⟨_, rfl⟩
  obtain ⟨gx, hgx⟩ : ∃ g, g = w.heap.size + 1 := ⟨_, rfl⟩
  go_enter Try.func5, Try.ntmps5
  go_wp2_with (go_at_call 7; refine (New_bag _).mono ?_; rintro e w' ⟨rfl, rfl⟩)
  simp only [← hgx] at hduo ⊢
  simp only [← hgb] at hduo ⊢
  clear hgx hgb
  go_loopg [5] n (fun gk iv wr => ∃ (k : Nat) (ms : List Msg), gk = n - k ∧ k ≤ n ∧ k ≤ 80 ∧ iv = .int .i64 k ∧ Duo w wr gb gx ms ∧ ms.length ≤ k ∧ ∀ m ∈ ms, m.bs.length ≤ 100)
  case atStart => exact ⟨0, [], by omega, by omega, by omega, rfl, hduo, by simp, by simp⟩
  case round =>
    clear hduo
    obtain ⟨k, ms, rfl, hk, hk1, rfl, tw, hlen, hsh⟩ := hrel
    have HSH := hide hsh
    clear hsh
    by_cases hgo : k < n ∧ k < 80
    · obtain ⟨hlt, hlt1⟩ := hgo
      obtain ⟨x, hx⟩ : ∃ x, l[k]? = some x := ⟨l[k]'(by rw [← HL.out]; exact hlt), List.getElem?_eq_getElem _⟩
      obtain ⟨g0, g1, g2, g3, g4⟩ := gopCells_get l k x hx
      obtain ⟨b0, o0, rfl, hb0, hc⟩ := h0 (fun e => by rw [e] at g0; simp at g0)
      have d0 := (tw.od.cell (p := ⟨b0, o0 + k * 5, none⟩) hb0).trans (hc _ _ g0)
      have d1 := (tw.od.cell (p := ⟨b0, o0 + (k * 5 + 1), none⟩) hb0).trans (hc _ _ g1)
      have d2 := (tw.od.cell (p := ⟨b0, o0 + (k * 5 + 2), none⟩) hb0).trans (hc _ _ g2)
      have d3 := (tw.od.cell (p := ⟨b0, o0 + (k * 5 + 3), none⟩) hb0).trans (hc _ _ g3)
      have d4 := (tw.od.cell (p := ⟨b0, o0 + (k * 5 + 4), none⟩) hb0).trans (hc _ _ g4)
      rw [← Nat.add_assoc] at d1 d2 d3 d4
      have hB0 := HOK.out x (List.mem_of_getElem? hx)
      obtain ⟨kd, K, fr, t_, A, c, bs⟩ := x
      obtain ⟨nb, hnb⟩ : ∃ nb, bs.length = nb := ⟨_, rfl⟩
      simp only [hnb] at d0 d1 d2 d3 d4 hB0
      have HNB := hide hnb
      have HB0 := hide hB0
      clear hx g0 g1 g2 g3 g4 hc hB0 hnb
      by_cases hbig : 100 < nb
      · have hbig' : (100 : Int) < nb := by omega
        go_wp2_with fail
        refine (told9_any _).mono ?_
        rintro e w9 ⟨rfl, f9⟩
        have o9 := ((tw.old ((Old.refl' wr).alloc' (.cells #[.int .i64 kd, .int .i64 K, .int .i64 fr, .int .i64 t_, .slice A nb c] 43))).old f9).od
        go_wp2_with fail
        go_ret
        exact ⟨rfl, o9⟩
      have hsm : ¬ (100 : Int) < nb := by omega
      have qd := Duo.of tw #[.int .i64 kd, .int .i64 K, .int .i64 fr, .int .i64 t_, .slice A nb c]
      go_upto_block 2 with fail
      clear d0 d1 d2 d3 d4
      obtain ⟨o, ho⟩ : ∃ o, wr.heap.size = o := ⟨_, rfl⟩
      rw [ho] at qd
      simp only [ho]
      obtain ⟨W, hW⟩ : ∃ W, wr.alloc (.cells #[.int .i64 kd, .int .i64 K, .int .i64 fr, .int .i64 t_, .slice A nb c] 43) = W := ⟨_, rfl⟩
      rw [hW] at qd ⊢
      clear hW tw ho
      have ob : ∀ U, Bk U o 43 #[.int .i64 kd, .int .i64 K, .int .i64 fr, .int .i64 t_, .slice A nb c] → U.cell? ⟨o, 0, none⟩ = some (.int .i64 kd) ∧ U.cell? ⟨o, 1, none⟩ = some (.int .i64 K) ∧ U.cell? ⟨o, 2, none⟩ = some (.int .i64 fr) ∧ U.cell? ⟨o, 3, none⟩ = some (.int .i64 t_) ∧ U.cell? ⟨o, 4, none⟩ = some (.slice A nb c) := fun U hU => ⟨hU.cell 0, hU.cell 1, hU.cell 2, hU.cell 3, hU.cell 4⟩
      obtain ⟨e0, e1, e2, e3, e4⟩ := ob _ qd.bk
      have lo := qd.bk.lt
      obtain ⟨N, hN⟩ : ∃ N, ms.length = N := ⟨_, rfl⟩
      have HN := hide hN
      rw [hN] at hlen
      go_cut [5] from 34 to 290 (fun iv w' => iv = .int .i64 k ∧ ∃ ms', Duo w w' gb gx ms' ∧ ms'.length ≤ k + 1 ∧ ∀ m ∈ ms', m.bs.length ≤ 100)
      case first =>
        by_cases k0 : kd = 0
        · as_aux_lemma =>
          subst k0
          clear hN
          -- the copy of its bytes
          have eB := CellsAt.old HB0.out qd.od
          go_wp2_with (at_builtin; refine wpList_app _ rfl (.tmp 102) (.tmp 104) 28 rfl W.heap.size 5 i0 (.int .u8 0) 1 1 Try.underlying28 hi hz0 hz1 hz2 rfl (by decide) (.slice (some ⟨W.heap.size, 0, none⟩) 0 0) 0 [] rfl (World.ownsRow_made W #[] 0 (Nat.le_refl _) (by decide) rfl) A nb c (u8s bs) rfl (by simp [HNB.out]) (CellsAt.alloc eB _) (by simp [Value.oneCell']) (by unfold maxLen; omega) (by omega) (by simp) nb (Nat.zero_add _) (u8s bs) (List.nil_append _) ?_; intro Am cm w1 h1)
          have o1 : Old W w1 := h1.old ((Old.refl' W).alloc' _) (fun k hk => by simp [Value.ownBlock] at hk; omega)
          have own1 := h1.own
          clear h1 eB e0 e1 e2 e3 e4
          have q1 := qd.old o1
          obtain ⟨e0, e1, e2, e3, e4⟩ := ob _ q1.bk
          have lo1 := q1.bk.lt
          obtain ⟨AL, cL, bkX, -⟩ := q1.row.cut HN.out
          have g0 : w1.cell? ⟨gx, 0, none⟩ = some (.slice AL N cL) := bkX.cell 0
          obtain ⟨P6, hP6⟩ : ∃ P : World → Prop, P = fun W' => (∃ A' c', BagAt W' w.heap.size gb (ms ++ [⟨fr, t_, A', c', bs⟩]) ∧ ∀ k, (Value.slice A' nb c').ownBlock = some k → w1.heap.size ≤ k) ∧ FrT BagT w.heap.size w1 W' := ⟨_, rfl⟩
          have cAdd := hide ((Add_bagN w.heap.size gb ms (by have := HN.out; omega) fr t_ Am nb cm bs HNB.out.symm (by omega) w1.drew q1.bag.drew (CellsAt.drew (CellsAt.of_own own1))).mono (fun e w' (h : _ ∧ _ ∧ _) => (by
            obtain ⟨h1, ⟨A', c', h2, h3⟩, h4⟩ := h
            rw [HN.out] at h1
            exact ⟨h1, by rw [hP6]; exact ⟨⟨A', c', h2, by rw [HNB.out] at h3; exact h3⟩, (FrT.of_old (Old.refl' w1).drew').trans h4⟩⟩ : e = .returned (.int .i64 N) ∧ P6 w')))
          have CX := hide (fun W' (h : P6 W') => (by
            rw [hP6] at h
            obtain ⟨-, hf⟩ := h
            exact ⟨(bkX.frT hf (by unfold BagT; decide)).cell 0, (ob _ (q1.bk.frT hf (by unfold BagT; decide))).2.2.1, (ob _ (q1.bk.frT hf (by unfold BagT; decide))).2.2.2.1⟩ : W'.cell? ⟨gx, 0, none⟩ = some (.slice AL N cL) ∧ W'.cell? ⟨o, 2, none⟩ = some (.int .i64 fr) ∧ W'.cell? ⟨o, 3, none⟩ = some (.int .i64 t_)))
          have HP6 := hide hP6
          clear hP6
          refine region_steps (R := pick [eqv (.pointer (some ⟨gb, 0, none⟩)), eqv (.pointer (some ⟨o, 2, none⟩)), eqv (.int .i64 fr), eqv (.pointer (some ⟨o, 3, none⟩)), eqv (.int .i64 t_), eqv (.slice Am nb cm), eqv (.int .i64 N), eqv (.pointer (some ⟨gx, 0, none⟩)), eqv (.pointer (some ⟨gx, 0, none⟩)), eqv (.pointer (some ⟨gx, 0, none⟩)), eqv (.slice AL N cL), eqv (.int .i64 N), eqv (.bool false)]) (S := fun σ w' => (w'.cell? ⟨gx, 0, none⟩ = some (.slice AL N cL) ∧ w'.cell? ⟨o, 2, none⟩ = some (.int .i64 fr) ∧ w'.cell? ⟨o, 3, none⟩ = some (.int .i64 t_)) ∧ (σ 6 = none → w' = w1.drew) ∧ (σ 6 ≠ none → P6 w')) (T := (fun _ _ => True)) (by kernel_rfl) (by kernel_rfl) (by kernel_rfl) (Stab.pick (Stab.eqv (Stab.eqv (Stab.eqv (Stab.eqv (Stab.eqv (Stab.eqv (Stab.eqv (Stab.eqv (Stab.eqv (Stab.eqv (Stab.eqv (Stab.eqv (Stab.eqv (Stab.nil))))))))))))))) (⟨⟨g0, e2, e3⟩, fun _ => rfl, fun h => absurd rfl h⟩) ?steps ?ends
          case steps =>
            refine StepsOk.cons (stepOk_pure [] [(3, .pointer (some ⟨gb, 0, none⟩))] rfl rfl (by kernel_rfl) (by kernel_rfl) rfl (fun _ => trivial) (fun σ v w h => by simpa [upd] using h) (fun d E w' hk hda hS hc hf => by rintro  e3; exact ⟨_, by go_simp, rfl⟩)) ?_
            refine StepsOk.cons (stepOk_pure [] [(6, .pointer (some ⟨o, 0, none⟩))] rfl rfl (by kernel_rfl) (by kernel_rfl) rfl (fun _ => trivial) (fun σ v w h => by simpa [upd] using h) (fun d E w' hk hda hS hc hf => by rintro  e6; exact ⟨_, by go_simp, rfl⟩)) ?_
            refine StepsOk.cons (stepOk_pure [(1, 107)] [] rfl rfl (by kernel_rfl) (by kernel_rfl) rfl (fun _ => trivial) (fun σ v w h => by simpa [upd] using h) (fun d E w' hk hda hS hc hf => by rintro _ q1 rfl e107 ; obtain ⟨⟨s0, s1, s2⟩, -, -⟩ := hS; exact ⟨_, by go_simp, rfl⟩)) ?_
            refine StepsOk.cons (stepOk_pure [] [(6, .pointer (some ⟨o, 0, none⟩))] rfl rfl (by kernel_rfl) (by kernel_rfl) rfl (fun _ => trivial) (fun σ v w h => by simpa [upd] using h) (fun d E w' hk hda hS hc hf => by rintro  e6; exact ⟨_, by go_simp, rfl⟩)) ?_
            refine StepsOk.cons (stepOk_pure [(3, 109)] [] rfl rfl (by kernel_rfl) (by kernel_rfl) rfl (fun _ => trivial) (fun σ v w h => by simpa [upd] using h) (fun d E w' hk hda hS hc hf => by rintro _ q3 rfl e109 ; obtain ⟨⟨s0, s1, s2⟩, -, -⟩ := hS; exact ⟨_, by go_simp, rfl⟩)) ?_
            refine StepsOk.cons (stepOk_pure [] [(7, .slice Am nb cm)] rfl rfl (by kernel_rfl) (by kernel_rfl) rfl (fun _ => trivial) (fun σ v w h => by simpa [upd] using h) (fun d E w' hk hda hS hc hf => by rintro  e7; exact ⟨_, by go_simp, rfl⟩)) ?_
            refine StepsOk.cons (stepOk_mk [(0, 106), (2, 108), (4, 110), (5, 111)] [] rfl rfl (by kernel_rfl) (by kernel_rfl) rfl ?_) ?_
            · rintro d a w' hk hda hS _ q0 rfl e106 _ q2 rfl e108 _ q4 rfl e110 _ q5 rfl e111 
              first | refine Given.nil (Known.nil ?_) | refine Known.nil ?_
              obtain rfl := hS.2.1 (hk 6 (by kernel_rfl))
              refine wp_call 9 _ Try.func9 (by kernel_rfl) (by kernel_rfl) _ _ (by rfl) [.pointer (some ⟨gb, 0, none⟩), .int .i64 fr, .int .i64 t_, .slice Am nb cm] (by simp only [List.map_cons, List.map_nil, *]; try rfl) (cAdd.out) ?_
              rintro e w1 ⟨rfl, hp⟩
              exact ⟨_, rfl, _, rfl, rfl, trivial, ⟨CX.out _ hp, fun h => by simp [upd] at h, fun _ => hp⟩⟩
            refine StepsOk.cons (stepOk_pure [] [(4, .pointer (some ⟨gx, 0, none⟩))] rfl rfl (by kernel_rfl) (by kernel_rfl) rfl (fun _ => trivial) (fun σ v w h => by simpa [upd] using h) (fun d E w' hk hda hS hc hf => by rintro  e4; exact ⟨_, by go_simp, rfl⟩)) ?_
            refine StepsOk.cons (stepOk_pure [(7, 113)] [] rfl rfl (by kernel_rfl) (by kernel_rfl) rfl (fun _ => trivial) (fun σ v w h => by simpa [upd] using h) (fun d E w' hk hda hS hc hf => by rintro _ q7 rfl e113 ; exact ⟨_, by go_simp, rfl⟩)) ?_
            refine StepsOk.cons (stepOk_pure [(8, 114)] [] rfl rfl (by kernel_rfl) (by kernel_rfl) rfl (fun _ => trivial) (fun σ v w h => by simpa [upd] using h) (fun d E w' hk hda hS hc hf => by rintro _ q8 rfl e114 ; exact ⟨_, by go_simp, rfl⟩)) ?_
            refine StepsOk.cons (stepOk_pure [(9, 115)] [] rfl rfl (by kernel_rfl) (by kernel_rfl) rfl (fun _ => trivial) (fun σ v w h => by simpa [upd] using h) (fun d E w' hk hda hS hc hf => by rintro _ q9 rfl e115 ; obtain ⟨⟨s0, s1, s2⟩, -, -⟩ := hS; exact ⟨_, by go_simp, rfl⟩)) ?_
            refine StepsOk.cons (stepOk_pure [(10, 116)] [] rfl rfl (by kernel_rfl) (by kernel_rfl) rfl (fun _ => trivial) (fun σ v w h => by simpa [upd] using h) (fun d E w' hk hda hS hc hf => by rintro _ q10 rfl e116 ; exact ⟨_, by go_simp, rfl⟩)) ?_
            refine StepsOk.cons (stepOk_pure [(6, 112), (11, 117)] [] rfl rfl (by kernel_rfl) (by kernel_rfl) rfl (fun _ => trivial) (fun σ v w h => by simpa [upd] using h) (fun d E w' hk hda hS hc hf => by rintro _ q6 rfl e112 _ q11 rfl e117 ; exact ⟨_, by go_simp, rfl⟩)) ?_
            exact StepsOk.nil
          case ends =>
            intro σ9 w9 hS9 hA9
            refine Ends.eqv (some 106) (.pointer (some ⟨gb, 0, none⟩)) rfl (fun _ h => h) ?_
            refine Ends.eqv (some 107) (.pointer (some ⟨o, 2, none⟩)) rfl (fun _ h => h) ?_
            refine Ends.eqv (some 108) (.int .i64 fr) rfl (fun _ h => h) ?_
            refine Ends.eqv (some 109) (.pointer (some ⟨o, 3, none⟩)) rfl (fun _ h => h) ?_
            refine Ends.eqv (some 110) (.int .i64 t_) rfl (fun _ h => h) ?_
            refine Ends.eqv (some 111) (.slice Am nb cm) rfl (fun _ h => h) ?_
            refine Ends.eqv (some 112) (.int .i64 N) rfl (fun _ h => h) ?_
            refine Ends.eqv (some 113) (.pointer (some ⟨gx, 0, none⟩)) rfl (fun _ h => h) ?_
            refine Ends.eqv (some 114) (.pointer (some ⟨gx, 0, none⟩)) rfl (fun _ h => h) ?_
            refine Ends.eqv (some 115) (.pointer (some ⟨gx, 0, none⟩)) rfl (fun _ h => h) ?_
            refine Ends.eqv (some 116) (.slice AL N cL) rfl (fun _ h => h) ?_
            refine Ends.eqv (some 117) (.int .i64 N) rfl (fun _ h => h) ?_
            refine Ends.eqv (some 118) (.bool false) rfl (fun _ h => h) ?_
            refine Ends.nil ?_
            have hA9' := hA9
            clear hA9
            simp only [put_lit, put_none, List.set_cons_zero, List.set_cons_succ]
            have hp := hS9.2.2 (by have := hA9' 6 (by simp); intro e; rw [e] at this; simp at this)
            clear hS9 hA9'
            rw [HP6.out] at hp
            obtain ⟨⟨A', c', hb', hnew⟩, hf'⟩ := hp
            have q9 : Quad w w9 gb gx (ms ++ [⟨fr, t_, A', c', bs⟩]) ms o _ := q1.byBag hb' hf'
            have own9 := own_frT own1 hf' (by unfold BagT; decide)
            have hsep : ∀ m ∈ ms ++ [(⟨fr, t_, A', c', bs⟩ : Msg)], ∀ q, (Value.slice Am nb cm).ownBlock = some q → m.sl.ownBlock ≠ some q := fun m hm q hq e => by
              have hq1 := own1.lt q hq
              rcases List.mem_append.1 hm with hm | hm
              · have := ((qd.bag.own m hm).lt q e).2; omega
              · obtain rfl : m = ⟨fr, t_, A', c', bs⟩ := by simpa using hm
                have := hnew q (by rw [← HNB.out]; exact e)
                omega
            have HSEP := hide hsep
            have hWs := qd.od.size
            clear hsep cAdd CX hf' hb' hnew bkX g0 e0 e1 e2 e3 e4
            obtain ⟨Wq, rfl⟩ : ∃ U, U = w9 := ⟨_, rfl⟩
            go_wp2_with fail
            go_loopw [8] (fun iv wr => ∃ j : Nat, j ≤ nb ∧ iv = .int .i64 j ∧ Quad w wr gb gx (ms ++ [⟨fr, t_, A', c', bs⟩]) ms o #[.int .i64 0, .int .i64 K, .int .i64 fr, .int .i64 t_, .slice A nb c] ∧ ∃ xs, wr.ownsRow W.heap.size 5 1 (.slice Am nb cm) nb xs ∧ ∀ u ∈ xs, ∃ y, u = .int .u8 y) (fun iv _ => nb - (intOf iv).toNat)
            case atStart => exact ⟨0, by omega, rfl, q9, _, own9, fun u hu => by obtain ⟨y, _, rfl⟩ := List.mem_map.1 hu; exact ⟨y, rfl⟩⟩
            case round =>
              clear q9 own9
              obtain ⟨j, hj', rfl, qa, xs, hown, hu8⟩ := hrel
              by_cases hjl : j < nb
              · obtain ⟨gm, cap, e', _, _⟩ := hown.form (by omega)
                injection e' with e1' _ e3'
                subst e1' e3'
                have hxl : j < xs.length := by have := hown.1; omega
                obtain ⟨y, hy⟩ := hu8 _ (List.getElem_mem hxl)
                have g0 := own_cells hown j _ (by rw [List.getElem?_eq_getElem hxl, hy])
                have z0 := own_frozen hown j
                obtain ⟨hbl, -, -, cur, hbk, -, -⟩ := own_some hown
                have lg := own_lt hown
                have QA := hide qa
                have HO := hide hown
                have HU := hide hu8
                have HBK := hide hbk
                clear qa hown hu8 hbk hy
                go_wp2_with fail
                go_roundw
                case rel => exact ⟨j + 1, by omega, by go_num, QA.out.setU8 HBK.out (by omega) (fun m hm => HSEP.out m hm gm rfl) _ _, _, own_store HO.out j _, fun u hu => by
                  rcases List.mem_or_eq_of_mem_set hu with h | rfl
                  · exact HU.out u h
                  · exact ⟨_, rfl⟩⟩
                case measure => simp [intOf]; omega
              · clear hown hu8
                obtain ⟨wa, rfl⟩ : ∃ U, U = wr := ⟨_, rfl⟩
                obtain ⟨e0, e1, e2, e3, e4⟩ := ob _ qa.bk
                have lo2 := qa.bk.lt
                have eB := CellsAt.old HB0.out qa.od
                obtain ⟨AL, cL, bkX0, ownX0⟩ := qa.row.cut HN.out
                have hlen' : (ms ++ [(⟨fr, t_, A', c', bs⟩ : Msg)]).length ≤ k + 1 := by rw [List.length_append, HN.out]; simp; omega
                have hsh' : ∀ m ∈ ms ++ [(⟨fr, t_, A', c', bs⟩ : Msg)], m.bs.length ≤ 100 := fun m hm => by
                  rcases List.mem_append.1 hm with hm | hm
                  · exact HSH.out m hm
                  · obtain rfl : m = ⟨fr, t_, A', c', bs⟩ := by simpa using hm
                    show bs.length ≤ 100
                    rw [HNB.out]; omega
                have g0 : wa.cell? ⟨gx, 0, none⟩ = some (.slice AL N cL) := bkX0.cell 0
                have bkX : Bk wa.drew gx 41 #[.slice AL N cL] := bkX0.drew
                have ownX : wa.drew.ownsRow w.heap.size 45 3 (.slice AL N cL) N (ms.flatMap Msg.rcells) := own_old ownX0 (Old.refl' wa).drew'
                have hWD : w.heap.size ≤ wa.drew.heap.size := qa.od.size
                have CS := hide (fun (U : World) (h : Old wa.drew U) => (⟨((bkX.old h).cell 0 : _), (ob _ ((qa.bk.drew).old h)).2.2.1, (ob _ ((qa.bk.drew).old h)).2.2.2.1, (ob _ ((qa.bk.drew).old h)).2.2.2.2, CellsAt.old (CellsAt.drew eB) h⟩ :
                  U.cell? ⟨gx, 0, none⟩ = some (.slice AL N cL) ∧ U.cell? ⟨o, 2, none⟩ = some (.int .i64 fr) ∧ U.cell? ⟨o, 3, none⟩ = some (.int .i64 t_) ∧ U.cell? ⟨o, 4, none⟩ = some (.slice A nb c) ∧ CellsAt U A (u8s bs)))
                have hAPP := fun (A2 : Option Addr) (c2 : Nat) (W2 : World) (h2 : Apps (wa.drew.alloc (.cells #[.int .i64 fr, .int .i64 t_, .string (strOfNums bs)] 45)) w.heap.size 45 3 (.slice AL N cL) (N + 1) (ms.flatMap Msg.rcells ++ [.int .i64 fr, .int .i64 t_, .string (strOfNums bs)]) (.slice A2 (N + 1) c2) W2) => (by
                  obtain ⟨hl, hf⟩ := LAt.put (m := ⟨fr, t_, A', c', bs⟩) (qa.row.old (Old.refl' wa).drew') HN.out bkX (ownX.alloc _) ((Old.refl' _).alloc' _) h2
                  exact ((qa.old (Old.refl' wa).drew').byRef hl hf).duo : Duo w (W2.setCell ⟨gx, 0, none⟩ (.slice A2 (N + 1) c2)) gb gx (ms ++ [⟨fr, t_, A', c', bs⟩]))
                have CQ := hide qa
                clear qa bkX0 ownX0
                obtain ⟨WD, hWDe⟩ : ∃ U, wa.drew = U := ⟨_, rfl⟩
                simp only [hWDe] at bkX ownX hWD CS hAPP
                obtain ⟨Fin, hFin⟩ : ∃ F : World → Prop, F = fun U => Duo w U gb gx (ms ++ [⟨fr, t_, A', c', bs⟩]) := ⟨_, rfl⟩
                simp only [← congrFun hFin] at hAPP
                go_wp2_with fail
                refine region_steps (R := pick [eqv (.pointer (some ⟨gx, 0, none⟩)), eqv (.pointer (some ⟨gx, 0, none⟩)), eqv (.pointer (some ⟨gx, 0, none⟩)), eqv (.pointer (some ⟨gx, 0, none⟩)), eqv (.slice AL N cL), eqv (.pointer (some ⟨o, 2, none⟩)), eqv (.int .i64 fr), eqv (.pointer (some ⟨o, 3, none⟩)), eqv (.int .i64 t_), eqv (.pointer (some ⟨o, 4, none⟩)), eqv (.slice A nb c), eqv (.string (strOfNums bs)), eqv (.agg #[.int .i64 fr, .int .i64 t_, .string (strOfNums bs)]), eqv (.slice (some ⟨WD.heap.size, 0, none⟩) 1 1), fun v w' => ∃ A2 c2, v = .slice A2 (N + 1) c2, eqv (.pointer (some ⟨gx, 0, none⟩)), eqv (.pointer (some ⟨gx, 0, none⟩)), eqv (undef)]) (S := fun σ w' => (σ 17 ≠ none → Fin w') ∧ (σ 17 = none → σ 14 ≠ none → ∃ A2 c2, σ 14 = some (.slice A2 (N + 1) c2) ∧ Apps (WD.alloc (.cells #[.int .i64 fr, .int .i64 t_, .string (strOfNums bs)] 45)) w.heap.size 45 3 (.slice AL N cL) (N + 1) (ms.flatMap Msg.rcells ++ [.int .i64 fr, .int .i64 t_, .string (strOfNums bs)]) (.slice A2 (N + 1) c2) w') ∧ (σ 17 = none → σ 14 = none → σ 13 ≠ none → w' = (WD.alloc (.cells #[.int .i64 fr, .int .i64 t_, .string (strOfNums bs)] 45))) ∧ (σ 17 = none → σ 14 = none → σ 13 = none → w' = WD)) (T := (fun _ _ => True)) (by kernel_rfl) (by kernel_rfl) (by kernel_rfl) (Stab.pick (Stab.eqv (Stab.eqv (Stab.eqv (Stab.eqv (Stab.eqv (Stab.eqv (Stab.eqv (Stab.eqv (Stab.eqv (Stab.eqv (Stab.eqv (Stab.eqv (Stab.eqv (Stab.eqv (Stab.cons (fun _ _ _ _ h => h) (Stab.eqv (Stab.eqv (Stab.eqv (Stab.nil)))))))))))))))))))) (⟨fun h => absurd rfl h, fun _ h => absurd rfl h, fun _ _ h => absurd rfl h, fun _ _ _ => hWDe⟩) ?steps ?ends
                case steps =>
                  refine StepsOk.cons (stepOk_pure [] [(4, .pointer (some ⟨gx, 0, none⟩))] rfl rfl (by kernel_rfl) (by kernel_rfl) rfl (fun _ => trivial) (fun σ v w h => by simpa [upd] using h) (fun d E w' hk hda hS hc hf => by rintro  e4; exact ⟨_, by go_simp, rfl⟩)) ?_
                  refine StepsOk.cons (stepOk_pure [] [(4, .pointer (some ⟨gx, 0, none⟩))] rfl rfl (by kernel_rfl) (by kernel_rfl) rfl (fun _ => trivial) (fun σ v w h => by simpa [upd] using h) (fun d E w' hk hda hS hc hf => by rintro  e4; exact ⟨_, by go_simp, rfl⟩)) ?_
                  refine StepsOk.cons (stepOk_pure [(1, 132)] [] rfl rfl (by kernel_rfl) (by kernel_rfl) rfl (fun _ => trivial) (fun σ v w h => by simpa [upd] using h) (fun d E w' hk hda hS hc hf => by rintro _ q1 rfl e132 ; exact ⟨_, by go_simp, rfl⟩)) ?_
                  refine StepsOk.cons (stepOk_pure [(2, 133)] [] rfl rfl (by kernel_rfl) (by kernel_rfl) rfl (fun _ => trivial) (fun σ v w h => by simpa [upd] using h) (fun d E w' hk hda hS hc hf => by rintro _ q2 rfl e133 ; exact ⟨_, by go_simp, rfl⟩)) ?_
                  refine StepsOk.cons (stepOk_pure [(3, 134)] [] rfl rfl (by kernel_rfl) (by kernel_rfl) rfl (fun _ => trivial) (fun σ v w h => by simpa [upd] using h) (fun d E w' hk hda hS hc hf => by rintro _ q3 rfl e134 ; obtain ⟨s0, s1, s2, s3, s4⟩ := CS.out w' ((Classical.em (d 13 = none)).elim (fun h13 => by rw [hS.2.2.2 (hk 17 (by kernel_rfl)) (hk 14 (by kernel_rfl)) h13]; exact Old.refl' _) (fun h13 => by rw [hS.2.2.1 (hk 17 (by kernel_rfl)) (hk 14 (by kernel_rfl)) h13]; exact (Old.refl' _).alloc' _)); exact ⟨_, by go_simp, rfl⟩)) ?_
                  refine StepsOk.cons (stepOk_pure [] [(6, .pointer (some ⟨o, 0, none⟩))] rfl rfl (by kernel_rfl) (by kernel_rfl) rfl (fun _ => trivial) (fun σ v w h => by simpa [upd] using h) (fun d E w' hk hda hS hc hf => by rintro  e6; exact ⟨_, by go_simp, rfl⟩)) ?_
                  refine StepsOk.cons (stepOk_pure [(5, 136)] [] rfl rfl (by kernel_rfl) (by kernel_rfl) rfl (fun _ => trivial) (fun σ v w h => by simpa [upd] using h) (fun d E w' hk hda hS hc hf => by rintro _ q5 rfl e136 ; obtain ⟨s0, s1, s2, s3, s4⟩ := CS.out w' ((Classical.em (d 13 = none)).elim (fun h13 => by rw [hS.2.2.2 (hk 17 (by kernel_rfl)) (hk 14 (by kernel_rfl)) h13]; exact Old.refl' _) (fun h13 => by rw [hS.2.2.1 (hk 17 (by kernel_rfl)) (hk 14 (by kernel_rfl)) h13]; exact (Old.refl' _).alloc' _)); exact ⟨_, by go_simp, rfl⟩)) ?_
                  refine StepsOk.cons (stepOk_pure [] [(6, .pointer (some ⟨o, 0, none⟩))] rfl rfl (by kernel_rfl) (by kernel_rfl) rfl (fun _ => trivial) (fun σ v w h => by simpa [upd] using h) (fun d E w' hk hda hS hc hf => by rintro  e6; exact ⟨_, by go_simp, rfl⟩)) ?_
                  refine StepsOk.cons (stepOk_pure [(7, 138)] [] rfl rfl (by kernel_rfl) (by kernel_rfl) rfl (fun _ => trivial) (fun σ v w h => by simpa [upd] using h) (fun d E w' hk hda hS hc hf => by rintro _ q7 rfl e138 ; obtain ⟨s0, s1, s2, s3, s4⟩ := CS.out w' ((Classical.em (d 13 = none)).elim (fun h13 => by rw [hS.2.2.2 (hk 17 (by kernel_rfl)) (hk 14 (by kernel_rfl)) h13]; exact Old.refl' _) (fun h13 => by rw [hS.2.2.1 (hk 17 (by kernel_rfl)) (hk 14 (by kernel_rfl)) h13]; exact (Old.refl' _).alloc' _)); exact ⟨_, by go_simp, rfl⟩)) ?_
                  refine StepsOk.cons (stepOk_pure [] [(6, .pointer (some ⟨o, 0, none⟩))] rfl rfl (by kernel_rfl) (by kernel_rfl) rfl (fun _ => trivial) (fun σ v w h => by simpa [upd] using h) (fun d E w' hk hda hS hc hf => by rintro  e6; exact ⟨_, by go_simp, rfl⟩)) ?_
                  refine StepsOk.cons (stepOk_pure [(9, 140)] [] rfl rfl (by kernel_rfl) (by kernel_rfl) rfl (fun _ => trivial) (fun σ v w h => by simpa [upd] using h) (fun d E w' hk hda hS hc hf => by rintro _ q9 rfl e140 ; obtain ⟨s0, s1, s2, s3, s4⟩ := CS.out w' ((Classical.em (d 13 = none)).elim (fun h13 => by rw [hS.2.2.2 (hk 17 (by kernel_rfl)) (hk 14 (by kernel_rfl)) h13]; exact Old.refl' _) (fun h13 => by rw [hS.2.2.1 (hk 17 (by kernel_rfl)) (hk 14 (by kernel_rfl)) h13]; exact (Old.refl' _).alloc' _)); exact ⟨_, by go_simp, rfl⟩)) ?_
                  refine StepsOk.cons (stepOk_pure [(10, 141)] [] rfl rfl (by kernel_rfl) (by kernel_rfl) rfl (fun _ => trivial) (fun σ v w h => by simpa [upd] using h) (fun d E w' hk hda hS hc hf => by rintro _ q10 rfl e141 ; obtain ⟨s0, s1, s2, s3, s4⟩ := CS.out w' ((Classical.em (d 13 = none)).elim (fun h13 => by rw [hS.2.2.2 (hk 17 (by kernel_rfl)) (hk 14 (by kernel_rfl)) h13]; exact Old.refl' _) (fun h13 => by rw [hS.2.2.1 (hk 17 (by kernel_rfl)) (hk 14 (by kernel_rfl)) h13]; exact (Old.refl' _).alloc' _)); have hs := run_str nb c HNB.out s4; exact ⟨_, by go_simp, rfl⟩)) ?_
                  refine StepsOk.cons (stepOk_pure [(6, 137), (8, 139), (11, 142)] [] rfl rfl (by kernel_rfl) (by kernel_rfl) rfl (fun _ => trivial) (fun σ v w h => by simpa [upd] using h) (fun d E w' hk hda hS hc hf => by rintro _ q6 rfl e137 _ q8 rfl e139 _ q11 rfl e142 ; exact ⟨_, by go_simp, rfl⟩)) ?_
                  refine StepsOk.cons (stepOk_mk [(12, 143)] [] rfl rfl (by kernel_rfl) (by kernel_rfl) rfl ?_) ?_
                  · rintro d a w' hk hda hS _ q12 rfl e143 
                    first | refine Given.nil (Known.nil ?_) | refine Known.nil ?_
                    obtain rfl := (hS.2.2.2 (hk 17 (by kernel_rfl)) (hk 14 (by kernel_rfl)) (hk 13 (by kernel_rfl))).symm
                    refine wp_runv (w' := (WD.alloc (.cells #[.int .i64 fr, .int .i64 t_, .string (strOfNums bs)] 45))) (.slice (some ⟨WD.heap.size, 0, none⟩) 1 1) (by revert e143; generalize a.eval = E; intro e143; go_simp) ⟨_, rfl, rfl, trivial, ?_⟩
                    exact ⟨fun h => absurd (hk 17 (by kernel_rfl)) (by simpa [upd] using h), fun _ h => absurd (hk 14 (by kernel_rfl)) (by simpa [upd] using h), fun _ _ _ => rfl, fun _ _ h => by simp [upd] at h⟩
                  refine StepsOk.cons (stepOk_mk [(4, 135), (13, 144)] [] rfl rfl (by kernel_rfl) (by kernel_rfl) rfl ?_) ?_
                  · rintro d a w' hk hda hS _ q4 rfl e135 _ q13 rfl e144 
                    first | refine Given.nil (Known.nil ?_) | refine Known.nil ?_
                    obtain rfl := hS.2.2.1 (hk 17 (by kernel_rfl)) (hk 14 (by kernel_rfl)) (by rw [q13]; simp)
                    refine wp_app _ (.tmp 135) (.tmp 144) 39 rfl w.heap.size 45 j0 (.agg #[.int .i64 0, .int .i64 0, .string { data := #[] }]) 3 32 Try.underlying39 hj hjz0 hjz1 hjz2 rfl (by decide) (.slice AL N cL) N (ms.flatMap Msg.rcells) e135 (ownX.alloc _) (some ⟨WD.heap.size, 0, none⟩) 1 1 [.int .i64 fr, .int .i64 t_, .string (strOfNums bs)] e144 rfl (cells_bk (Bk.new WD 45 #[.int .i64 fr, .int .i64 t_, .string (strOfNums bs)])) (by simp [Value.oneCell']) (by unfold maxLen; omega) (by omega) (by have := hWD; simp; omega) (N + 1) rfl _ rfl ?_
                    intro A2 c2 W2 h2
                    exact ⟨_, rfl, ⟨A2, c2, rfl⟩, trivial, fun h => absurd (hk 17 (by kernel_rfl)) (by simpa [upd] using h), fun _ _ => ⟨A2, c2, by simp [upd], h2⟩, fun _ h => by simp [upd] at h, fun _ h => by simp [upd] at h⟩
                  refine StepsOk.cons (stepOk_pure [(0, 131)] [] rfl rfl (by kernel_rfl) (by kernel_rfl) rfl (fun _ => trivial) (fun σ v w h => by simpa [upd] using h) (fun d E w' hk hda hS hc hf => by rintro _ q0 rfl e131 ; exact ⟨_, by go_simp, rfl⟩)) ?_
                  refine StepsOk.cons (stepOk_pure [(15, 146)] [] rfl rfl (by kernel_rfl) (by kernel_rfl) rfl (fun _ => trivial) (fun σ v w h => by simpa [upd] using h) (fun d E w' hk hda hS hc hf => by rintro _ q15 rfl e146 ; exact ⟨_, by go_simp, rfl⟩)) ?_
                  refine StepsOk.cons (stepOk_store [(16, 147), (14, 145)] [] rfl rfl (by kernel_rfl) (by kernel_rfl) rfl (fun d E w' hk hda hS hc hf => by rintro _ q16 rfl e147 _ q14 ⟨A2, c2, rfl⟩ e145 ; obtain ⟨A3, c3, e14, h2⟩ := hS.2.1 (hk 17 (by kernel_rfl)) (by rw [q14]; simp); rw [q14] at e14; injection e14 with e14; injection e14 with e14a _ e14b; subst e14a e14b; have hG2 := h2.bk (bkX.alloc _) (fun e => own_ne_bk ownX bkX (by decide) e); have y0 := hG2.cell 0; have y1 := hG2.frozen 0; simp at y0; exact ⟨w'.setCell ⟨gx, 0, none⟩ (.slice A2 (N + 1) c2), by go_simp, rfl, trivial, ⟨fun _ => hAPP _ _ _ h2, fun h => by simp [upd] at h, fun h => by simp [upd] at h, fun h => by simp [upd] at h⟩⟩)) ?_
                  exact StepsOk.nil
                case ends =>
                  intro σ9 w9 hS9 hA9
                  refine Ends.eqv (some 131) (.pointer (some ⟨gx, 0, none⟩)) rfl (fun _ h => h) ?_
                  refine Ends.eqv (some 132) (.pointer (some ⟨gx, 0, none⟩)) rfl (fun _ h => h) ?_
                  refine Ends.eqv (some 133) (.pointer (some ⟨gx, 0, none⟩)) rfl (fun _ h => h) ?_
                  refine Ends.eqv (some 134) (.pointer (some ⟨gx, 0, none⟩)) rfl (fun _ h => h) ?_
                  refine Ends.eqv (some 135) (.slice AL N cL) rfl (fun _ h => h) ?_
                  refine Ends.eqv (some 136) (.pointer (some ⟨o, 2, none⟩)) rfl (fun _ h => h) ?_
                  refine Ends.eqv (some 137) (.int .i64 fr) rfl (fun _ h => h) ?_
                  refine Ends.eqv (some 138) (.pointer (some ⟨o, 3, none⟩)) rfl (fun _ h => h) ?_
                  refine Ends.eqv (some 139) (.int .i64 t_) rfl (fun _ h => h) ?_
                  refine Ends.eqv (some 140) (.pointer (some ⟨o, 4, none⟩)) rfl (fun _ h => h) ?_
                  refine Ends.eqv (some 141) (.slice A nb c) rfl (fun _ h => h) ?_
                  refine Ends.eqv (some 142) (.string (strOfNums bs)) rfl (fun _ h => h) ?_
                  refine Ends.eqv (some 143) (.agg #[.int .i64 fr, .int .i64 t_, .string (strOfNums bs)]) rfl (fun _ h => h) ?_
                  refine Ends.eqv (some 144) (.slice (some ⟨WD.heap.size, 0, none⟩) 1 1) rfl (fun _ h => h) ?_
                  refine Ends.ex (some 145) rfl ?_
                  rintro _ p14 ⟨A2, c2, rfl⟩
                  refine Ends.eqv (some 146) (.pointer (some ⟨gx, 0, none⟩)) rfl (fun _ h => h) ?_
                  refine Ends.eqv (some 147) (.pointer (some ⟨gx, 0, none⟩)) rfl (fun _ h => h) ?_
                  refine Ends.eqv none (undef) rfl (fun _ h => h) ?_
                  refine Ends.nil ?_
                  have hA9' := hA9
                  clear hA9
                  simp only [put_lit, put_none, List.set_cons_zero, List.set_cons_succ]
                  have hfin := hS9.1 (by have := hA9' 17 (by simp); intro e; rw [e] at this; simp at this)
                  clear hS9 hA9'
                  rw [hFin] at hfin
                  have HFIN := hide hfin
                  clear hfin
                  go_wp2_with fail
                  go_meet
                  case rel => exact ⟨rfl, _, HFIN.out, hlen', hsh'⟩
        have e0k : (kd == 0) = false := by simpa using k0
        by_cases k1 : kd = 1
        · as_aux_lemma =>
          subst k1
          by_cases hr : 0 ≤ K ∧ K < N
          · obtain ⟨kk, rfl⟩ : ∃ j : Nat, K = j := ⟨K.toNat, by omega⟩
            have hkk : kk < N := by omega
            obtain ⟨m, hm⟩ : ∃ m, ms[kk]? = some m := ⟨ms[kk]'(by rw [HN.out]; exact hkk), List.getElem?_eq_getElem _⟩
            have ownm := qd.bag.own m (List.mem_of_getElem? hm)
            have hsh' : ∀ x ∈ ms.eraseIdx kk, x.bs.length ≤ 100 := fun x hx => HSH.out x (List.mem_of_mem_eraseIdx hx)
            have hlen' : (ms.eraseIdx kk).length ≤ k + 1 := by rw [List.length_eraseIdx]; have := HN.out; split <;> omega
            obtain ⟨mf, mt, mA, mc, mbs⟩ := m
            obtain ⟨mn, hmn⟩ : ∃ n, mbs.length = n := ⟨_, rfl⟩
            have cT := Take_yes w.heap.size gb kk ms _ hm (by rw [HN.out]; omega) W qd.bag
            have cR := fun (U : World) (h : LAt U w.heap.size gx ms) => RTake_yes w.heap.size gx kk ms _ hm (by rw [HN.out]; omega) U h
            simp only [Msg.sl, hmn] at cT ownm cR
            have CT := hide cT
            have CR := hide cR
            have HMN := hide hmn
            clear cT cR hmn hm hN
            go_wp2_with fail
            refine CT.out.mono ?_
            rintro e w2 ⟨rfl, hb2, f2⟩
            have q2 := qd.byBag hb2 f2
            have own2 := own_frT ownm f2 (by unfold BagT; decide)
            clear e0 e1 e2 e3 e4 ownm hb2 f2
            obtain ⟨-, e1, -, -, -⟩ := ob _ q2.bk
            have lo2 := q2.bk.lt
            go_wp2_with fail
            refine (CR.out _ q2.row).mono ?_
            rintro e w3 ⟨rfl, hr3, f3⟩
            have q3 := q2.byRef hr3 f3
            have own3 := own_frT own2 f3 (by unfold RefT; decide)
            have hs := run_str (bs := mbs) mn mc HMN.out (CellsAt.alloc (CellsAt.of_own own3) (.cells #[.int .i64 mf, .int .i64 mt, .string (strOfNums mbs)] 45))
            have hfin := hide (q3.old ((Old.refl' w3).alloc' (.cells #[.int .i64 mf, .int .i64 mt, .string (strOfNums mbs)] 45))).duo
            obtain ⟨SM, hSM⟩ : ∃ S, strOfNums mbs = S := ⟨_, rfl⟩
            rw [hSM] at hs hfin
            simp only [hSM]
            clear q2 q3 own2 own3 hr3 f3 e1 hSM
            go_wp2_with fail
            go_meet
            case rel => exact ⟨rfl, _, hfin.out, hlen', hsh'⟩
          · have hr' : K < 0 ∨ (ms.length : Int) ≤ K := by rw [HN.out]; omega
            have CT := hide (Take_no w.heap.size gb K ms hr' (by rw [HN.out]; omega) W qd.bag)
            have CR := hide (RTake_no w.heap.size gx K ms hr' (by rw [HN.out]; omega) W qd.row)
            clear hr' hN
            go_wp2_with fail
            refine CT.out.mono ?_
            rintro e w2 ⟨rfl, rfl⟩
            go_wp2_with fail
            refine CR.out.mono ?_
            rintro e w3 ⟨rfl, f3⟩
            have hs : (convert 28 9 (.slice none 0 0)).run Try.prog (w3.alloc (.cells #[.int .i64 0, .int .i64 0, .string { data := #[] }] 45)) = .ok (.string { data := #[] }) (w3.alloc (.cells #[.int .i64 0, .int .i64 0, .string { data := #[] }] 45)) := run_str (bs := []) 0 0 rfl (CellsAt.nil _ _)
            have hfin := hide (qd.old (f3.alloc' (.cells #[.int .i64 0, .int .i64 0, .string { data := #[] }] 45))).duo
            clear e0 e1 e2 e3 e4
            go_wp2_with fail
            go_meet
            case rel => exact ⟨rfl, ms, hfin.out, by rw [HN.out]; omega, HSH.out⟩
        have e1k : (kd == 1) = false := by simpa using k1
        by_cases k2 : kd = 2
        · as_aux_lemma =>
          subst k2
          by_cases hr : 0 ≤ K ∧ K < N
          · obtain ⟨kk, rfl⟩ : ∃ j : Nat, K = j := ⟨K.toNat, by omega⟩
            have hkk : kk < N := by omega
            obtain ⟨m, hm⟩ : ∃ m, ms[kk]? = some m := ⟨ms[kk]'(by rw [HN.out]; exact hkk), List.getElem?_eq_getElem _⟩
            have hmb := HSH.out m (List.mem_of_getElem? hm)
            have CD := hide (Double_yes w.heap.size gb kk ms m hm (by rw [HN.out]; omega) (by omega) W qd.bag)
            have HM := hide hm
            have hk0 : (0 : Int) ≤ (kk : Int) := by omega
            have hk1' : (kk : Int) < (N : Int) := by omega
            clear hN hm
            go_wp2_with fail
            refine CD.out.mono ?_
            rintro e wa ⟨rfl, ⟨A', c', hb2⟩, f2⟩
            have qa := qd.byBag hb2 f2
            obtain ⟨ga, cL, bkX0, ownX0, m0, m1, m2⟩ := qa.row.at_ HM.out
            rw [HN.out] at bkX0 ownX0
            clear e0 e1 e2 e3 e4 hb2 f2
            obtain ⟨-, e1, -, -, -⟩ := ob _ qa.bk
            have lo2 := qa.bk.lt
            have hgal := own_lt ownX0
            have hgxl := bkX0.lt
            have hlen' : (ms ++ [(⟨m.frm, m.to_, A', c', m.bs⟩ : Msg)]).length ≤ k + 1 := by rw [List.length_append, HN.out]; simp; omega
            have hsh' : ∀ x ∈ ms ++ [(⟨m.frm, m.to_, A', c', m.bs⟩ : Msg)], x.bs.length ≤ 100 := fun x hx => by
              rcases List.mem_append.1 hx with hx | hx
              · exact HSH.out x hx
              · obtain rfl : x = ⟨m.frm, m.to_, A', c', m.bs⟩ := by simpa using hx
                exact hmb
            have g0 : wa.cell? ⟨gx, 0, none⟩ = some (.slice (some ⟨ga, 0, none⟩) N cL) := bkX0.cell 0
            go_wp2_with fail
            refine region_steps (R := pick [eqv (.int .i64 0), eqv (.bool true), eqv (.pointer (some ⟨o, 1, none⟩)), eqv (.int .i64 kk), eqv (.bool true), eqv (.bool true), eqv (.pointer (some ⟨o, 1, none⟩)), eqv (.int .i64 kk), eqv (.pointer (some ⟨gx, 0, none⟩)), eqv (.pointer (some ⟨gx, 0, none⟩)), eqv (.pointer (some ⟨gx, 0, none⟩)), eqv (.slice (some ⟨ga, 0, none⟩) N cL), eqv (.int .i64 N), eqv (.bool true), eqv (.bool true), eqv (.bool false), eqv (.bool false), eqv (.int .i64 0), eqv (.bool false), eqv (.bool false), eqv (undef), eqv (undef), eqv (.bool false), eqv (.bool false)]) (S := fun _ w' => w' = wa.drew) (T := (fun a b => a = b)) (by kernel_rfl) (by kernel_rfl) (by kernel_rfl) (Stab.pick (Stab.eqv (Stab.eqv (Stab.eqv (Stab.eqv (Stab.eqv (Stab.eqv (Stab.eqv (Stab.eqv (Stab.eqv (Stab.eqv (Stab.eqv (Stab.eqv (Stab.eqv (Stab.eqv (Stab.eqv (Stab.eqv (Stab.eqv (Stab.eqv (Stab.eqv (Stab.eqv (Stab.eqv (Stab.eqv (Stab.eqv (Stab.eqv (Stab.nil)))))))))))))))))))))))))) (rfl) ?steps ?ends
            case steps =>
              refine StepsOk.cons (stepOk_pure [] [(15, .int .i64 0)] rfl rfl (by kernel_rfl) (by kernel_rfl) rfl (fun _ => rfl) (fun _ _ _ h => h) (fun d E w' hk hda hS hc hf => by rintro  e15; exact ⟨_, by go_simp, rfl⟩)) ?_
              refine StepsOk.cons (stepOk_pure [(0, 203)] [] rfl rfl (by kernel_rfl) (by kernel_rfl) rfl (fun _ => rfl) (fun _ _ _ h => h) (fun d E w' hk hda hS hc hf => by rintro _ q0 rfl e203 ; exact ⟨_, by go_simp, rfl⟩)) ?_
              refine StepsOk.cons (stepOk_pure [] [(6, .pointer (some ⟨o, 0, none⟩))] rfl rfl (by kernel_rfl) (by kernel_rfl) rfl (fun _ => rfl) (fun _ _ _ h => h) (fun d E w' hk hda hS hc hf => by rintro  e6; exact ⟨_, by go_simp, rfl⟩)) ?_
              refine StepsOk.cons (stepOk_pure [(2, 205)] [] rfl rfl (by kernel_rfl) (by kernel_rfl) rfl (fun _ => rfl) (fun _ _ _ h => h) (fun d E w' hk hda hS hc hf => by rintro _ q2 rfl e205 ; obtain rfl := hS; exact ⟨_, by go_simp, rfl⟩)) ?_
              refine StepsOk.cons (stepOk_pure [(3, 206)] [] rfl rfl (by kernel_rfl) (by kernel_rfl) rfl (fun _ => rfl) (fun _ _ _ h => h) (fun d E w' hk hda hS hc hf => by rintro _ q3 rfl e206 ; exact ⟨_, by go_simp, rfl⟩)) ?_
              refine StepsOk.cons (stepOk_pure [(4, 207)] [] rfl rfl (by kernel_rfl) (by kernel_rfl) rfl (fun _ => rfl) (fun _ _ _ h => h) (fun d E w' hk hda hS hc hf => by rintro _ q4 rfl e207 ; exact ⟨_, by go_simp, rfl⟩)) ?_
              refine StepsOk.cons (stepOk_pureG 5 208 true rfl rfl (by kernel_rfl) (fun _ _ h => h) [] [(6, .pointer (some ⟨o, 0, none⟩))] (by kernel_rfl) (by kernel_rfl) rfl (fun _ => rfl) (fun _ _ _ h => h) (fun d E w' hk hda hS hc hf => by rintro  e6; exact ⟨_, by go_simp, rfl⟩)) ?_
              refine StepsOk.cons (stepOk_pureG 5 208 true rfl rfl (by kernel_rfl) (fun _ _ h => h) [(6, 209)] [] (by kernel_rfl) (by kernel_rfl) rfl (fun _ => rfl) (fun _ _ _ h => h) (fun d E w' hk hda hS hc hf => by rintro _ q6 rfl e209 ; obtain rfl := hS; exact ⟨_, by go_simp, rfl⟩)) ?_
              refine StepsOk.cons (stepOk_pureG 5 208 true rfl rfl (by kernel_rfl) (fun _ _ h => h) [] [(4, .pointer (some ⟨gx, 0, none⟩))] (by kernel_rfl) (by kernel_rfl) rfl (fun _ => rfl) (fun _ _ _ h => h) (fun d E w' hk hda hS hc hf => by rintro  e4; exact ⟨_, by go_simp, rfl⟩)) ?_
              refine StepsOk.cons (stepOk_pureG 5 208 true rfl rfl (by kernel_rfl) (fun _ _ h => h) [(8, 211)] [] (by kernel_rfl) (by kernel_rfl) rfl (fun _ => rfl) (fun _ _ _ h => h) (fun d E w' hk hda hS hc hf => by rintro _ q8 rfl e211 ; exact ⟨_, by go_simp, rfl⟩)) ?_
              refine StepsOk.cons (stepOk_pureG 5 208 true rfl rfl (by kernel_rfl) (fun _ _ h => h) [(9, 212)] [] (by kernel_rfl) (by kernel_rfl) rfl (fun _ => rfl) (fun _ _ _ h => h) (fun d E w' hk hda hS hc hf => by rintro _ q9 rfl e212 ; exact ⟨_, by go_simp, rfl⟩)) ?_
              refine StepsOk.cons (stepOk_pureG 5 208 true rfl rfl (by kernel_rfl) (fun _ _ h => h) [(10, 213)] [] (by kernel_rfl) (by kernel_rfl) rfl (fun _ => rfl) (fun _ _ _ h => h) (fun d E w' hk hda hS hc hf => by rintro _ q10 rfl e213 ; obtain rfl := hS; exact ⟨_, by go_simp, rfl⟩)) ?_
              refine StepsOk.cons (stepOk_pureG 5 208 true rfl rfl (by kernel_rfl) (fun _ _ h => h) [(11, 214)] [] (by kernel_rfl) (by kernel_rfl) rfl (fun _ => rfl) (fun _ _ _ h => h) (fun d E w' hk hda hS hc hf => by rintro _ q11 rfl e214 ; exact ⟨_, by go_simp, rfl⟩)) ?_
              refine StepsOk.cons (stepOk_pureG 5 208 true rfl rfl (by kernel_rfl) (fun _ _ h => h) [(7, 210), (12, 215)] [] (by kernel_rfl) (by kernel_rfl) rfl (fun _ => rfl) (fun _ _ _ h => h) (fun d E w' hk hda hS hc hf => by rintro _ q7 rfl e210 _ q12 rfl e215 ; exact ⟨_, by go_simp, rfl⟩)) ?_
              refine StepsOk.cons (stepOk_pure [(5, 208), (13, 216)] [] rfl rfl (by kernel_rfl) (by kernel_rfl) rfl (fun _ => rfl) (fun _ _ _ h => h) (fun d E w' hk hda hS hc hf => by rintro _ q5 rfl e208 _ q13 rfl e216 ; exact ⟨_, by go_simp, rfl⟩)) ?_
              refine StepsOk.cons (stepOk_pure [(1, 204), (14, 217)] [] rfl rfl (by kernel_rfl) (by kernel_rfl) rfl (fun _ => rfl) (fun _ _ _ h => h) (fun d E w' hk hda hS hc hf => by rintro _ q1 rfl e204 _ q14 rfl e217 ; exact ⟨_, by go_simp, rfl⟩)) ?_
              refine StepsOk.cons (stepOk_pure [(15, 218)] [] rfl rfl (by kernel_rfl) (by kernel_rfl) rfl (fun _ => rfl) (fun _ _ _ h => h) (fun d E w' hk hda hS hc hf => by rintro _ q15 rfl e218 ; exact ⟨_, by go_simp, rfl⟩)) ?_
              refine StepsOk.cons (stepOk_pureG 16 219 false rfl rfl (by kernel_rfl) (fun _ _ h => h) [] [(15, .int .i64 0)] (by kernel_rfl) (by kernel_rfl) rfl (fun _ => rfl) (fun _ _ _ h => h) (fun d E w' hk hda hS hc hf => by rintro  e15; exact ⟨_, by go_simp, rfl⟩)) ?_
              refine StepsOk.cons (stepOk_pureG 16 219 false rfl rfl (by kernel_rfl) (fun _ _ h => h) [(17, 220)] [] (by kernel_rfl) (by kernel_rfl) rfl (fun _ => rfl) (fun _ _ _ h => h) (fun d E w' hk hda hS hc hf => by rintro _ q17 rfl e220 ; exact ⟨_, by go_simp, rfl⟩)) ?_
              refine StepsOk.cons (stepOk_pureG 16 219 false rfl rfl (by kernel_rfl) (fun _ _ h => h) [(18, 221)] [] (by kernel_rfl) (by kernel_rfl) rfl (fun _ => rfl) (fun _ _ _ h => h) (fun d E w' hk hda hS hc hf => by rintro _ q18 rfl e221 ; exact ⟨_, by go_simp, rfl⟩)) ?_
              refine StepsOk.cons (stepOk_skip 19 222 false rfl rfl (by kernel_rfl) (fun _ => rfl) (fun _ _ _ h => h) (fun _ _ h => h) (fun _ => rfl)) ?_
              refine StepsOk.cons (stepOk_skip 19 222 false rfl rfl (by kernel_rfl) (fun _ => rfl) (fun _ _ _ h => h) (fun _ _ h => h) (fun _ => rfl)) ?_
              refine StepsOk.cons (stepOk_pureG 16 219 false rfl rfl (by kernel_rfl) (fun _ _ h => h) [(19, 222), (21, 224)] [] (by kernel_rfl) (by kernel_rfl) rfl (fun _ => rfl) (fun _ _ _ h => h) (fun d E w' hk hda hS hc hf => by rintro _ q19 rfl e222 _ q21 rfl e224 ; exact ⟨_, by go_simp, rfl⟩)) ?_
              refine StepsOk.cons (stepOk_pure [(16, 219), (22, 225)] [] rfl rfl (by kernel_rfl) (by kernel_rfl) rfl (fun _ => rfl) (fun _ _ _ h => h) (fun d E w' hk hda hS hc hf => by rintro _ q16 rfl e219 _ q22 rfl e225 ; exact ⟨_, by go_simp, rfl⟩)) ?_
              exact StepsOk.nil
            case ends =>
              intro σ9 w9 hS9 hA9
              refine Ends.eqv (some 203) (.int .i64 0) rfl (fun _ h => h) ?_
              refine Ends.eqv (some 204) (.bool true) rfl (fun _ h => h) ?_
              refine Ends.eqv (some 205) (.pointer (some ⟨o, 1, none⟩)) rfl (fun _ h => h) ?_
              refine Ends.eqv (some 206) (.int .i64 kk) rfl (fun _ h => h) ?_
              refine Ends.eqv (some 207) (.bool true) rfl (fun _ h => h) ?_
              refine Ends.eqv (some 208) (.bool true) rfl (fun _ h => h) ?_
              refine Ends.eqv (some 209) (.pointer (some ⟨o, 1, none⟩)) rfl (fun _ h => h) ?_
              refine Ends.eqv (some 210) (.int .i64 kk) rfl (fun _ h => h) ?_
              refine Ends.eqv (some 211) (.pointer (some ⟨gx, 0, none⟩)) rfl (fun _ h => h) ?_
              refine Ends.eqv (some 212) (.pointer (some ⟨gx, 0, none⟩)) rfl (fun _ h => h) ?_
              refine Ends.eqv (some 213) (.pointer (some ⟨gx, 0, none⟩)) rfl (fun _ h => h) ?_
              refine Ends.eqv (some 214) (.slice (some ⟨ga, 0, none⟩) N cL) rfl (fun _ h => h) ?_
              refine Ends.eqv (some 215) (.int .i64 N) rfl (fun _ h => h) ?_
              refine Ends.eqv (some 216) (.bool true) rfl (fun _ h => h) ?_
              refine Ends.eqv (some 217) (.bool true) rfl (fun _ h => h) ?_
              refine Ends.eqv (some 218) (.bool false) rfl (fun _ h => h) ?_
              refine Ends.eqv (some 219) (.bool false) rfl (fun _ h => h) ?_
              refine Ends.eqv (some 220) (.int .i64 0) rfl (fun _ h => h) ?_
              refine Ends.eqv (some 221) (.bool false) rfl (fun _ h => h) ?_
              refine Ends.eqv (some 222) (.bool false) rfl (fun _ h => h) ?_
              refine Ends.eqv (some 223) (undef) rfl (fun _ h => h) ?_
              refine Ends.eqv (some 224) (undef) rfl (fun _ h => h) ?_
              refine Ends.eqv (some 225) (.bool false) rfl (fun _ h => h) ?_
              refine Ends.eqv (some 226) (.bool false) rfl (fun _ h => h) ?_
              refine Ends.nil ?_
              clear hA9
              simp only [put_lit, put_none, List.set_cons_zero, List.set_cons_succ]
              have hO9 : Old wa w9 := hS9 ▸ (Old.refl' wa).drew'
              have bkX : Bk w9.drew gx 41 #[.slice (some ⟨ga, 0, none⟩) N cL] := bkX0.old hO9.drew'
              have ownX : w9.drew.ownsRow w.heap.size 45 3 (.slice (some ⟨ga, 0, none⟩) N cL) N (ms.flatMap Msg.rcells) := own_old ownX0 hO9.drew'
              have hWD : w.heap.size ≤ w9.drew.heap.size := (qa.old hO9.drew').od.size
              have CS := hide (fun (U : World) (h : Old w9.drew U) => (⟨(bkX.old h).cell 0, (ob _ (qa.bk.old (hO9.drew'.trans' h))).2.1, ((hO9.drew'.trans' h).cell (p := ⟨ga, kk * 3, none⟩) hgal).trans m0, ((hO9.drew'.trans' h).cell (p := ⟨ga, kk * 3 + 1, none⟩) hgal).trans m1, ((hO9.drew'.trans' h).cell (p := ⟨ga, kk * 3 + 2, none⟩) hgal).trans m2⟩ :
                U.cell? ⟨gx, 0, none⟩ = some (.slice (some ⟨ga, 0, none⟩) N cL) ∧ U.cell? ⟨o, 1, none⟩ = some (.int .i64 kk) ∧ U.cell? ⟨ga, kk * 3, none⟩ = some (.int .i64 m.frm) ∧ U.cell? ⟨ga, kk * 3 + 1, none⟩ = some (.int .i64 m.to_) ∧ U.cell? ⟨ga, kk * 3 + 2, none⟩ = some (.string (strOfNums m.bs))))
              have hAPP := fun (A2 : Option Addr) (c2 : Nat) (W2 : World) (h2 : Apps (w9.drew.alloc (.cells #[.int .i64 m.frm, .int .i64 m.to_, .string (strOfNums m.bs)] 45)) w.heap.size 45 3 (.slice (some ⟨ga, 0, none⟩) N cL) (N + 1) (ms.flatMap Msg.rcells ++ [.int .i64 m.frm, .int .i64 m.to_, .string (strOfNums m.bs)]) (.slice A2 (N + 1) c2) W2) => (by
                obtain ⟨hl, hf⟩ := LAt.put (m := ⟨m.frm, m.to_, A', c', m.bs⟩) ((qa.row.old hO9.drew')) HN.out bkX (ownX.alloc _) ((Old.refl' _).alloc' _) h2
                exact ((qa.old hO9.drew').byRef hl hf).duo : Duo w (W2.setCell ⟨gx, 0, none⟩ (.slice A2 (N + 1) c2)) gb gx (ms ++ [⟨m.frm, m.to_, A', c', m.bs⟩]))
              clear bkX0 ownX0 m0 m1 m2 g0 e1 qd
              have QA := hide qa
              clear qa hS9
              obtain ⟨WD, hWDe⟩ : ∃ U, w9.drew = U := ⟨_, rfl⟩
              simp only [hWDe] at bkX ownX hWD CS hAPP
              obtain ⟨Fin, hFin⟩ : ∃ F : World → Prop, F = fun U => Duo w U gb gx (ms ++ [⟨m.frm, m.to_, A', c', m.bs⟩]) := ⟨_, rfl⟩
              simp only [← congrFun hFin] at hAPP
              obtain ⟨mf, hmf⟩ : ∃ x, m.frm = x := ⟨_, rfl⟩
              obtain ⟨mt, hmt⟩ : ∃ x, m.to_ = x := ⟨_, rfl⟩
              obtain ⟨SM, hSM⟩ : ∃ x, strOfNums m.bs = x := ⟨_, rfl⟩
              simp only [hmf, hmt, hSM] at CS hAPP
              clear hmf hmt hSM
              go_wp2_with fail
              refine region_steps (R := pick [eqv (.pointer (some ⟨gx, 0, none⟩)), eqv (.pointer (some ⟨gx, 0, none⟩)), eqv (.pointer (some ⟨gx, 0, none⟩)), eqv (.pointer (some ⟨gx, 0, none⟩)), eqv (.slice (some ⟨ga, 0, none⟩) N cL), eqv (.pointer (some ⟨gx, 0, none⟩)), eqv (.pointer (some ⟨gx, 0, none⟩)), eqv (.pointer (some ⟨gx, 0, none⟩)), eqv (.slice (some ⟨ga, 0, none⟩) N cL), eqv (.pointer (some ⟨o, 1, none⟩)), eqv (.int .i64 kk), eqv (.pointer (some ⟨ga, kk * 3, none⟩)), eqv (.agg #[.int .i64 mf, .int .i64 mt, .string SM]), eqv (.slice (some ⟨WD.heap.size, 0, none⟩) 1 1), fun v w' => ∃ A2 c2, v = .slice A2 (N + 1) c2, eqv (.pointer (some ⟨gx, 0, none⟩)), eqv (.pointer (some ⟨gx, 0, none⟩)), eqv (undef)]) (S := fun σ w' => (σ 17 ≠ none → Fin w') ∧ (σ 17 = none → σ 14 ≠ none → ∃ A2 c2, σ 14 = some (.slice A2 (N + 1) c2) ∧ Apps (WD.alloc (.cells #[.int .i64 mf, .int .i64 mt, .string SM] 45)) w.heap.size 45 3 (.slice (some ⟨ga, 0, none⟩) N cL) (N + 1) (ms.flatMap Msg.rcells ++ [.int .i64 mf, .int .i64 mt, .string SM]) (.slice A2 (N + 1) c2) w') ∧ (σ 17 = none → σ 14 = none → σ 13 ≠ none → w' = (WD.alloc (.cells #[.int .i64 mf, .int .i64 mt, .string SM] 45))) ∧ (σ 17 = none → σ 14 = none → σ 13 = none → w' = WD)) (T := (fun _ _ => True)) (by kernel_rfl) (by kernel_rfl) (by kernel_rfl) (Stab.pick (Stab.eqv (Stab.eqv (Stab.eqv (Stab.eqv (Stab.eqv (Stab.eqv (Stab.eqv (Stab.eqv (Stab.eqv (Stab.eqv (Stab.eqv (Stab.eqv (Stab.eqv (Stab.eqv (Stab.cons (fun _ _ _ _ h => h) (Stab.eqv (Stab.eqv (Stab.eqv (Stab.nil)))))))))))))))))))) (⟨fun h => absurd rfl h, fun _ h => absurd rfl h, fun _ _ h => absurd rfl h, fun _ _ _ => hWDe⟩) ?steps ?ends
              case steps =>
                refine StepsOk.cons (stepOk_pure [] [(4, .pointer (some ⟨gx, 0, none⟩))] rfl rfl (by kernel_rfl) (by kernel_rfl) rfl (fun _ => trivial) (fun σ v w h => by simpa [upd] using h) (fun d E w' hk hda hS hc hf => by rintro  e4; exact ⟨_, by go_simp, rfl⟩)) ?_
                refine StepsOk.cons (stepOk_pure [] [(4, .pointer (some ⟨gx, 0, none⟩))] rfl rfl (by kernel_rfl) (by kernel_rfl) rfl (fun _ => trivial) (fun σ v w h => by simpa [upd] using h) (fun d E w' hk hda hS hc hf => by rintro  e4; exact ⟨_, by go_simp, rfl⟩)) ?_
                refine StepsOk.cons (stepOk_pure [(1, 230)] [] rfl rfl (by kernel_rfl) (by kernel_rfl) rfl (fun _ => trivial) (fun σ v w h => by simpa [upd] using h) (fun d E w' hk hda hS hc hf => by rintro _ q1 rfl e230 ; exact ⟨_, by go_simp, rfl⟩)) ?_
                refine StepsOk.cons (stepOk_pure [(2, 231)] [] rfl rfl (by kernel_rfl) (by kernel_rfl) rfl (fun _ => trivial) (fun σ v w h => by simpa [upd] using h) (fun d E w' hk hda hS hc hf => by rintro _ q2 rfl e231 ; exact ⟨_, by go_simp, rfl⟩)) ?_
                refine StepsOk.cons (stepOk_pure [(3, 232)] [] rfl rfl (by kernel_rfl) (by kernel_rfl) rfl (fun _ => trivial) (fun σ v w h => by simpa [upd] using h) (fun d E w' hk hda hS hc hf => by rintro _ q3 rfl e232 ; obtain ⟨s0, s1, s2, s3, s4⟩ := CS.out w' ((Classical.em (d 13 = none)).elim (fun h13 => by rw [hS.2.2.2 (hk 17 (by kernel_rfl)) (hk 14 (by kernel_rfl)) h13]; exact Old.refl' _) (fun h13 => by rw [hS.2.2.1 (hk 17 (by kernel_rfl)) (hk 14 (by kernel_rfl)) h13]; exact (Old.refl' _).alloc' _)); exact ⟨_, by go_simp, rfl⟩)) ?_
                refine StepsOk.cons (stepOk_pure [] [(4, .pointer (some ⟨gx, 0, none⟩))] rfl rfl (by kernel_rfl) (by kernel_rfl) rfl (fun _ => trivial) (fun σ v w h => by simpa [upd] using h) (fun d E w' hk hda hS hc hf => by rintro  e4; exact ⟨_, by go_simp, rfl⟩)) ?_
                refine StepsOk.cons (stepOk_pure [(5, 234)] [] rfl rfl (by kernel_rfl) (by kernel_rfl) rfl (fun _ => trivial) (fun σ v w h => by simpa [upd] using h) (fun d E w' hk hda hS hc hf => by rintro _ q5 rfl e234 ; exact ⟨_, by go_simp, rfl⟩)) ?_
                refine StepsOk.cons (stepOk_pure [(6, 235)] [] rfl rfl (by kernel_rfl) (by kernel_rfl) rfl (fun _ => trivial) (fun σ v w h => by simpa [upd] using h) (fun d E w' hk hda hS hc hf => by rintro _ q6 rfl e235 ; exact ⟨_, by go_simp, rfl⟩)) ?_
                refine StepsOk.cons (stepOk_pure [(7, 236)] [] rfl rfl (by kernel_rfl) (by kernel_rfl) rfl (fun _ => trivial) (fun σ v w h => by simpa [upd] using h) (fun d E w' hk hda hS hc hf => by rintro _ q7 rfl e236 ; obtain ⟨s0, s1, s2, s3, s4⟩ := CS.out w' ((Classical.em (d 13 = none)).elim (fun h13 => by rw [hS.2.2.2 (hk 17 (by kernel_rfl)) (hk 14 (by kernel_rfl)) h13]; exact Old.refl' _) (fun h13 => by rw [hS.2.2.1 (hk 17 (by kernel_rfl)) (hk 14 (by kernel_rfl)) h13]; exact (Old.refl' _).alloc' _)); exact ⟨_, by go_simp, rfl⟩)) ?_
                refine StepsOk.cons (stepOk_pure [] [(6, .pointer (some ⟨o, 0, none⟩))] rfl rfl (by kernel_rfl) (by kernel_rfl) rfl (fun _ => trivial) (fun σ v w h => by simpa [upd] using h) (fun d E w' hk hda hS hc hf => by rintro  e6; exact ⟨_, by go_simp, rfl⟩)) ?_
                refine StepsOk.cons (stepOk_pure [(9, 238)] [] rfl rfl (by kernel_rfl) (by kernel_rfl) rfl (fun _ => trivial) (fun σ v w h => by simpa [upd] using h) (fun d E w' hk hda hS hc hf => by rintro _ q9 rfl e238 ; obtain ⟨s0, s1, s2, s3, s4⟩ := CS.out w' ((Classical.em (d 13 = none)).elim (fun h13 => by rw [hS.2.2.2 (hk 17 (by kernel_rfl)) (hk 14 (by kernel_rfl)) h13]; exact Old.refl' _) (fun h13 => by rw [hS.2.2.1 (hk 17 (by kernel_rfl)) (hk 14 (by kernel_rfl)) h13]; exact (Old.refl' _).alloc' _)); exact ⟨_, by go_simp, rfl⟩)) ?_
                refine StepsOk.cons (stepOk_pure [(8, 237), (10, 239)] [] rfl rfl (by kernel_rfl) (by kernel_rfl) rfl (fun _ => trivial) (fun σ v w h => by simpa [upd] using h) (fun d E w' hk hda hS hc hf => by rintro _ q8 rfl e237 _ q10 rfl e239 ; obtain ⟨s0, s1, s2, s3, s4⟩ := CS.out w' ((Classical.em (d 13 = none)).elim (fun h13 => by rw [hS.2.2.2 (hk 17 (by kernel_rfl)) (hk 14 (by kernel_rfl)) h13]; exact Old.refl' _) (fun h13 => by rw [hS.2.2.1 (hk 17 (by kernel_rfl)) (hk 14 (by kernel_rfl)) h13]; exact (Old.refl' _).alloc' _)); exact ⟨_, by go_simp, rfl⟩)) ?_
                refine StepsOk.cons (stepOk_pure [(11, 240)] [] rfl rfl (by kernel_rfl) (by kernel_rfl) rfl (fun _ => trivial) (fun σ v w h => by simpa [upd] using h) (fun d E w' hk hda hS hc hf => by rintro _ q11 rfl e240 ; obtain ⟨s0, s1, s2, s3, s4⟩ := CS.out w' ((Classical.em (d 13 = none)).elim (fun h13 => by rw [hS.2.2.2 (hk 17 (by kernel_rfl)) (hk 14 (by kernel_rfl)) h13]; exact Old.refl' _) (fun h13 => by rw [hS.2.2.1 (hk 17 (by kernel_rfl)) (hk 14 (by kernel_rfl)) h13]; exact (Old.refl' _).alloc' _)); exact ⟨_, by go_simp, rfl⟩)) ?_
                refine StepsOk.cons (stepOk_mk [(12, 241)] [] rfl rfl (by kernel_rfl) (by kernel_rfl) rfl ?_) ?_
                · rintro d a w' hk hda hS _ q12 rfl e241 
                  first | refine Given.nil (Known.nil ?_) | refine Known.nil ?_
                  obtain rfl := (hS.2.2.2 (hk 17 (by kernel_rfl)) (hk 14 (by kernel_rfl)) (hk 13 (by kernel_rfl))).symm
                  refine wp_runv (w' := (WD.alloc (.cells #[.int .i64 mf, .int .i64 mt, .string SM] 45))) (.slice (some ⟨WD.heap.size, 0, none⟩) 1 1) (by revert e241; generalize a.eval = E; intro e241; go_simp) ⟨_, rfl, rfl, trivial, ?_⟩
                  exact ⟨fun h => absurd (hk 17 (by kernel_rfl)) (by simpa [upd] using h), fun _ h => absurd (hk 14 (by kernel_rfl)) (by simpa [upd] using h), fun _ _ _ => rfl, fun _ _ h => by simp [upd] at h⟩
                refine StepsOk.cons (stepOk_mk [(4, 233), (13, 242)] [] rfl rfl (by kernel_rfl) (by kernel_rfl) rfl ?_) ?_
                · rintro d a w' hk hda hS _ q4 rfl e233 _ q13 rfl e242 
                  first | refine Given.nil (Known.nil ?_) | refine Known.nil ?_
                  obtain rfl := hS.2.2.1 (hk 17 (by kernel_rfl)) (hk 14 (by kernel_rfl)) (by rw [q13]; simp)
                  refine wp_app _ (.tmp 233) (.tmp 242) 39 rfl w.heap.size 45 j0 (.agg #[.int .i64 0, .int .i64 0, .string { data := #[] }]) 3 32 Try.underlying39 hj hjz0 hjz1 hjz2 rfl (by decide) (.slice (some ⟨ga, 0, none⟩) N cL) N (ms.flatMap Msg.rcells) e233 (ownX.alloc _) (some ⟨WD.heap.size, 0, none⟩) 1 1 [.int .i64 mf, .int .i64 mt, .string SM] e242 rfl (cells_bk (Bk.new WD 45 #[.int .i64 mf, .int .i64 mt, .string SM])) (by simp [Value.oneCell']) (by unfold maxLen; omega) (by omega) (by have := hWD; simp; omega) (N + 1) rfl _ rfl ?_
                  intro A2 c2 W2 h2
                  exact ⟨_, rfl, ⟨A2, c2, rfl⟩, trivial, fun h => absurd (hk 17 (by kernel_rfl)) (by simpa [upd] using h), fun _ _ => ⟨A2, c2, by simp [upd], h2⟩, fun _ h => by simp [upd] at h, fun _ h => by simp [upd] at h⟩
                refine StepsOk.cons (stepOk_pure [(0, 229)] [] rfl rfl (by kernel_rfl) (by kernel_rfl) rfl (fun _ => trivial) (fun σ v w h => by simpa [upd] using h) (fun d E w' hk hda hS hc hf => by rintro _ q0 rfl e229 ; exact ⟨_, by go_simp, rfl⟩)) ?_
                refine StepsOk.cons (stepOk_pure [(15, 244)] [] rfl rfl (by kernel_rfl) (by kernel_rfl) rfl (fun _ => trivial) (fun σ v w h => by simpa [upd] using h) (fun d E w' hk hda hS hc hf => by rintro _ q15 rfl e244 ; exact ⟨_, by go_simp, rfl⟩)) ?_
                refine StepsOk.cons (stepOk_store [(16, 245), (14, 243)] [] rfl rfl (by kernel_rfl) (by kernel_rfl) rfl (fun d E w' hk hda hS hc hf => by rintro _ q16 rfl e245 _ q14 ⟨A2, c2, rfl⟩ e243 ; obtain ⟨A3, c3, e14, h2⟩ := hS.2.1 (hk 17 (by kernel_rfl)) (by rw [q14]; simp); rw [q14] at e14; injection e14 with e14; injection e14 with e14a _ e14b; subst e14a e14b; have hG2 := h2.bk (bkX.alloc _) (fun e => own_ne_bk ownX bkX (by decide) e); have y0 := hG2.cell 0; have y1 := hG2.frozen 0; simp at y0; exact ⟨w'.setCell ⟨gx, 0, none⟩ (.slice A2 (N + 1) c2), by go_simp, rfl, trivial, ⟨fun _ => hAPP _ _ _ h2, fun h => by simp [upd] at h, fun h => by simp [upd] at h, fun h => by simp [upd] at h⟩⟩)) ?_
                exact StepsOk.nil
              case ends =>
                intro σ9 w9 hS9 hA9
                refine Ends.eqv (some 229) (.pointer (some ⟨gx, 0, none⟩)) rfl (fun _ h => h) ?_
                refine Ends.eqv (some 230) (.pointer (some ⟨gx, 0, none⟩)) rfl (fun _ h => h) ?_
                refine Ends.eqv (some 231) (.pointer (some ⟨gx, 0, none⟩)) rfl (fun _ h => h) ?_
                refine Ends.eqv (some 232) (.pointer (some ⟨gx, 0, none⟩)) rfl (fun _ h => h) ?_
                refine Ends.eqv (some 233) (.slice (some ⟨ga, 0, none⟩) N cL) rfl (fun _ h => h) ?_
                refine Ends.eqv (some 234) (.pointer (some ⟨gx, 0, none⟩)) rfl (fun _ h => h) ?_
                refine Ends.eqv (some 235) (.pointer (some ⟨gx, 0, none⟩)) rfl (fun _ h => h) ?_
                refine Ends.eqv (some 236) (.pointer (some ⟨gx, 0, none⟩)) rfl (fun _ h => h) ?_
                refine Ends.eqv (some 237) (.slice (some ⟨ga, 0, none⟩) N cL) rfl (fun _ h => h) ?_
                refine Ends.eqv (some 238) (.pointer (some ⟨o, 1, none⟩)) rfl (fun _ h => h) ?_
                refine Ends.eqv (some 239) (.int .i64 kk) rfl (fun _ h => h) ?_
                refine Ends.eqv (some 240) (.pointer (some ⟨ga, kk * 3, none⟩)) rfl (fun _ h => h) ?_
                refine Ends.eqv (some 241) (.agg #[.int .i64 mf, .int .i64 mt, .string SM]) rfl (fun _ h => h) ?_
                refine Ends.eqv (some 242) (.slice (some ⟨WD.heap.size, 0, none⟩) 1 1) rfl (fun _ h => h) ?_
                refine Ends.ex (some 243) rfl ?_
                rintro _ p14 ⟨A2, c2, rfl⟩
                refine Ends.eqv (some 244) (.pointer (some ⟨gx, 0, none⟩)) rfl (fun _ h => h) ?_
                refine Ends.eqv (some 245) (.pointer (some ⟨gx, 0, none⟩)) rfl (fun _ h => h) ?_
                refine Ends.eqv none (undef) rfl (fun _ h => h) ?_
                refine Ends.nil ?_
                have hA9' := hA9
                clear hA9
                simp only [put_lit, put_none, List.set_cons_zero, List.set_cons_succ]
                have hfin := hS9.1 (by have := hA9' 17 (by simp); intro e; rw [e] at this; simp at this)
                clear hS9 hA9'
                rw [hFin] at hfin
                have HFIN := hide hfin
                clear hfin
                go_wp2_with fail
                go_meet
                case rel => exact ⟨rfl, _, HFIN.out, hlen', hsh'⟩
          · have hr' : K < 0 ∨ (ms.length : Int) ≤ K := by rw [HN.out]; omega
            have CT := hide (Double_no w.heap.size gb K ms hr' (by rw [HN.out]; omega) W qd.bag)
            obtain ⟨AL, cL, bkX, -⟩ := qd.row.cut HN.out
            have g0 : W.cell? ⟨gx, 0, none⟩ = some (.slice AL N cL) := bkX.cell 0
            have hfin := hide (qd.old (Old.refl' W).drew').duo
            clear hr' hN
            go_wp2_with fail
            refine CT.out.mono ?_
            rintro e w2 ⟨rfl, rfl⟩
            by_cases hk0 : 0 ≤ K
            · have hk1' : ¬ K < (N : Int) := by omega
              have hk1'' : decide (K < (N : Int)) = false := by simpa using hk1'
              go_wp2_with fail
              refine region_steps (R := pick [eqv (.int .i64 5), eqv (.bool false), eqv (.pointer (some ⟨o, 1, none⟩)), eqv (.int .i64 K), eqv (.bool true), eqv (.bool true), eqv (.pointer (some ⟨o, 1, none⟩)), eqv (.int .i64 K), eqv (.pointer (some ⟨gx, 0, none⟩)), eqv (.pointer (some ⟨gx, 0, none⟩)), eqv (.pointer (some ⟨gx, 0, none⟩)), eqv (.slice AL N cL), eqv (.int .i64 N), eqv (.bool false), eqv (.bool false), eqv (.bool false), eqv (.bool false), eqv (.int .i64 5), eqv (.bool true), eqv (.bool true), eqv (.int .i64 5), eqv (.bool false), eqv (.bool false), eqv (.bool false)]) (S := fun _ w' => w' = W.drew) (T := (fun a b => a = b)) (by kernel_rfl) (by kernel_rfl) (by kernel_rfl) (Stab.pick (Stab.eqv (Stab.eqv (Stab.eqv (Stab.eqv (Stab.eqv (Stab.eqv (Stab.eqv (Stab.eqv (Stab.eqv (Stab.eqv (Stab.eqv (Stab.eqv (Stab.eqv (Stab.eqv (Stab.eqv (Stab.eqv (Stab.eqv (Stab.eqv (Stab.eqv (Stab.eqv (Stab.eqv (Stab.eqv (Stab.eqv (Stab.eqv (Stab.nil)))))))))))))))))))))))))) (rfl) ?steps ?ends
              case steps =>
                refine StepsOk.cons (stepOk_pure [] [(15, .int .i64 5)] rfl rfl (by kernel_rfl) (by kernel_rfl) rfl (fun _ => rfl) (fun _ _ _ h => h) (fun d E w' hk hda hS hc hf => by rintro  e15; exact ⟨_, by go_simp, rfl⟩)) ?_
                refine StepsOk.cons (stepOk_pure [(0, 203)] [] rfl rfl (by kernel_rfl) (by kernel_rfl) rfl (fun _ => rfl) (fun _ _ _ h => h) (fun d E w' hk hda hS hc hf => by rintro _ q0 rfl e203 ; exact ⟨_, by go_simp, rfl⟩)) ?_
                refine StepsOk.cons (stepOk_pure [] [(6, .pointer (some ⟨o, 0, none⟩))] rfl rfl (by kernel_rfl) (by kernel_rfl) rfl (fun _ => rfl) (fun _ _ _ h => h) (fun d E w' hk hda hS hc hf => by rintro  e6; exact ⟨_, by go_simp, rfl⟩)) ?_
                refine StepsOk.cons (stepOk_pure [(2, 205)] [] rfl rfl (by kernel_rfl) (by kernel_rfl) rfl (fun _ => rfl) (fun _ _ _ h => h) (fun d E w' hk hda hS hc hf => by rintro _ q2 rfl e205 ; obtain rfl := hS; exact ⟨_, by go_simp, rfl⟩)) ?_
                refine StepsOk.cons (stepOk_pure [(3, 206)] [] rfl rfl (by kernel_rfl) (by kernel_rfl) rfl (fun _ => rfl) (fun _ _ _ h => h) (fun d E w' hk hda hS hc hf => by rintro _ q3 rfl e206 ; exact ⟨_, by go_simp, rfl⟩)) ?_
                refine StepsOk.cons (stepOk_pure [(4, 207)] [] rfl rfl (by kernel_rfl) (by kernel_rfl) rfl (fun _ => rfl) (fun _ _ _ h => h) (fun d E w' hk hda hS hc hf => by rintro _ q4 rfl e207 ; exact ⟨_, by go_simp, rfl⟩)) ?_
                refine StepsOk.cons (stepOk_pureG 5 208 true rfl rfl (by kernel_rfl) (fun _ _ h => h) [] [(6, .pointer (some ⟨o, 0, none⟩))] (by kernel_rfl) (by kernel_rfl) rfl (fun _ => rfl) (fun _ _ _ h => h) (fun d E w' hk hda hS hc hf => by rintro  e6; exact ⟨_, by go_simp, rfl⟩)) ?_
                refine StepsOk.cons (stepOk_pureG 5 208 true rfl rfl (by kernel_rfl) (fun _ _ h => h) [(6, 209)] [] (by kernel_rfl) (by kernel_rfl) rfl (fun _ => rfl) (fun _ _ _ h => h) (fun d E w' hk hda hS hc hf => by rintro _ q6 rfl e209 ; obtain rfl := hS; exact ⟨_, by go_simp, rfl⟩)) ?_
                refine StepsOk.cons (stepOk_pureG 5 208 true rfl rfl (by kernel_rfl) (fun _ _ h => h) [] [(4, .pointer (some ⟨gx, 0, none⟩))] (by kernel_rfl) (by kernel_rfl) rfl (fun _ => rfl) (fun _ _ _ h => h) (fun d E w' hk hda hS hc hf => by rintro  e4; exact ⟨_, by go_simp, rfl⟩)) ?_
                refine StepsOk.cons (stepOk_pureG 5 208 true rfl rfl (by kernel_rfl) (fun _ _ h => h) [(8, 211)] [] (by kernel_rfl) (by kernel_rfl) rfl (fun _ => rfl) (fun _ _ _ h => h) (fun d E w' hk hda hS hc hf => by rintro _ q8 rfl e211 ; exact ⟨_, by go_simp, rfl⟩)) ?_
                refine StepsOk.cons (stepOk_pureG 5 208 true rfl rfl (by kernel_rfl) (fun _ _ h => h) [(9, 212)] [] (by kernel_rfl) (by kernel_rfl) rfl (fun _ => rfl) (fun _ _ _ h => h) (fun d E w' hk hda hS hc hf => by rintro _ q9 rfl e212 ; exact ⟨_, by go_simp, rfl⟩)) ?_
                refine StepsOk.cons (stepOk_pureG 5 208 true rfl rfl (by kernel_rfl) (fun _ _ h => h) [(10, 213)] [] (by kernel_rfl) (by kernel_rfl) rfl (fun _ => rfl) (fun _ _ _ h => h) (fun d E w' hk hda hS hc hf => by rintro _ q10 rfl e213 ; obtain rfl := hS; exact ⟨_, by go_simp, rfl⟩)) ?_
                refine StepsOk.cons (stepOk_pureG 5 208 true rfl rfl (by kernel_rfl) (fun _ _ h => h) [(11, 214)] [] (by kernel_rfl) (by kernel_rfl) rfl (fun _ => rfl) (fun _ _ _ h => h) (fun d E w' hk hda hS hc hf => by rintro _ q11 rfl e214 ; exact ⟨_, by go_simp, rfl⟩)) ?_
                refine StepsOk.cons (stepOk_pureG 5 208 true rfl rfl (by kernel_rfl) (fun _ _ h => h) [(7, 210), (12, 215)] [] (by kernel_rfl) (by kernel_rfl) rfl (fun _ => rfl) (fun _ _ _ h => h) (fun d E w' hk hda hS hc hf => by rintro _ q7 rfl e210 _ q12 rfl e215 ; exact ⟨_, by go_simp, rfl⟩)) ?_
                refine StepsOk.cons (stepOk_pure [(5, 208), (13, 216)] [] rfl rfl (by kernel_rfl) (by kernel_rfl) rfl (fun _ => rfl) (fun _ _ _ h => h) (fun d E w' hk hda hS hc hf => by rintro _ q5 rfl e208 _ q13 rfl e216 ; exact ⟨_, by go_simp, rfl⟩)) ?_
                refine StepsOk.cons (stepOk_pure [(1, 204), (14, 217)] [] rfl rfl (by kernel_rfl) (by kernel_rfl) rfl (fun _ => rfl) (fun _ _ _ h => h) (fun d E w' hk hda hS hc hf => by rintro _ q1 rfl e204 _ q14 rfl e217 ; exact ⟨_, by go_simp, rfl⟩)) ?_
                refine StepsOk.cons (stepOk_pure [(15, 218)] [] rfl rfl (by kernel_rfl) (by kernel_rfl) rfl (fun _ => rfl) (fun _ _ _ h => h) (fun d E w' hk hda hS hc hf => by rintro _ q15 rfl e218 ; exact ⟨_, by go_simp, rfl⟩)) ?_
                refine StepsOk.cons (stepOk_pureG 16 219 false rfl rfl (by kernel_rfl) (fun _ _ h => h) [] [(15, .int .i64 5)] (by kernel_rfl) (by kernel_rfl) rfl (fun _ => rfl) (fun _ _ _ h => h) (fun d E w' hk hda hS hc hf => by rintro  e15; exact ⟨_, by go_simp, rfl⟩)) ?_
                refine StepsOk.cons (stepOk_pureG 16 219 false rfl rfl (by kernel_rfl) (fun _ _ h => h) [(17, 220)] [] (by kernel_rfl) (by kernel_rfl) rfl (fun _ => rfl) (fun _ _ _ h => h) (fun d E w' hk hda hS hc hf => by rintro _ q17 rfl e220 ; exact ⟨_, by go_simp, rfl⟩)) ?_
                refine StepsOk.cons (stepOk_pureG 16 219 false rfl rfl (by kernel_rfl) (fun _ _ h => h) [(18, 221)] [] (by kernel_rfl) (by kernel_rfl) rfl (fun _ => rfl) (fun _ _ _ h => h) (fun d E w' hk hda hS hc hf => by rintro _ q18 rfl e221 ; exact ⟨_, by go_simp, rfl⟩)) ?_
                refine StepsOk.cons (stepOk_pureG 19 222 true rfl rfl (by kernel_rfl) (fun _ _ h => h) [] [(15, .int .i64 5)] (by kernel_rfl) (by kernel_rfl) rfl (fun _ => rfl) (fun _ _ _ h => h) (fun d E w' hk hda hS hc hf => by rintro  e15; exact ⟨_, by go_simp, rfl⟩)) ?_
                refine StepsOk.cons (stepOk_pureG 19 222 true rfl rfl (by kernel_rfl) (fun _ _ h => h) [(20, 223)] [] (by kernel_rfl) (by kernel_rfl) rfl (fun _ => rfl) (fun _ _ _ h => h) (fun d E w' hk hda hS hc hf => by rintro _ q20 rfl e223 ; exact ⟨_, by go_simp, rfl⟩)) ?_
                refine StepsOk.cons (stepOk_pureG 16 219 false rfl rfl (by kernel_rfl) (fun _ _ h => h) [(19, 222), (21, 224)] [] (by kernel_rfl) (by kernel_rfl) rfl (fun _ => rfl) (fun _ _ _ h => h) (fun d E w' hk hda hS hc hf => by rintro _ q19 rfl e222 _ q21 rfl e224 ; exact ⟨_, by go_simp, rfl⟩)) ?_
                refine StepsOk.cons (stepOk_pure [(16, 219), (22, 225)] [] rfl rfl (by kernel_rfl) (by kernel_rfl) rfl (fun _ => rfl) (fun _ _ _ h => h) (fun d E w' hk hda hS hc hf => by rintro _ q16 rfl e219 _ q22 rfl e225 ; exact ⟨_, by go_simp, rfl⟩)) ?_
                exact StepsOk.nil
              case ends =>
                intro σ9 w9 hS9 hA9
                refine Ends.eqv (some 203) (.int .i64 5) rfl (fun _ h => h) ?_
                refine Ends.eqv (some 204) (.bool false) rfl (fun _ h => h) ?_
                refine Ends.eqv (some 205) (.pointer (some ⟨o, 1, none⟩)) rfl (fun _ h => h) ?_
                refine Ends.eqv (some 206) (.int .i64 K) rfl (fun _ h => h) ?_
                refine Ends.eqv (some 207) (.bool true) rfl (fun _ h => h) ?_
                refine Ends.eqv (some 208) (.bool true) rfl (fun _ h => h) ?_
                refine Ends.eqv (some 209) (.pointer (some ⟨o, 1, none⟩)) rfl (fun _ h => h) ?_
                refine Ends.eqv (some 210) (.int .i64 K) rfl (fun _ h => h) ?_
                refine Ends.eqv (some 211) (.pointer (some ⟨gx, 0, none⟩)) rfl (fun _ h => h) ?_
                refine Ends.eqv (some 212) (.pointer (some ⟨gx, 0, none⟩)) rfl (fun _ h => h) ?_
                refine Ends.eqv (some 213) (.pointer (some ⟨gx, 0, none⟩)) rfl (fun _ h => h) ?_
                refine Ends.eqv (some 214) (.slice AL N cL) rfl (fun _ h => h) ?_
                refine Ends.eqv (some 215) (.int .i64 N) rfl (fun _ h => h) ?_
                refine Ends.eqv (some 216) (.bool false) rfl (fun _ h => h) ?_
                refine Ends.eqv (some 217) (.bool false) rfl (fun _ h => h) ?_
                refine Ends.eqv (some 218) (.bool false) rfl (fun _ h => h) ?_
                refine Ends.eqv (some 219) (.bool false) rfl (fun _ h => h) ?_
                refine Ends.eqv (some 220) (.int .i64 5) rfl (fun _ h => h) ?_
                refine Ends.eqv (some 221) (.bool true) rfl (fun _ h => h) ?_
                refine Ends.eqv (some 222) (.bool true) rfl (fun _ h => h) ?_
                refine Ends.eqv (some 223) (.int .i64 5) rfl (fun _ h => h) ?_
                refine Ends.eqv (some 224) (.bool false) rfl (fun _ h => h) ?_
                refine Ends.eqv (some 225) (.bool false) rfl (fun _ h => h) ?_
                refine Ends.eqv (some 226) (.bool false) rfl (fun _ h => h) ?_
                refine Ends.nil ?_
                clear hA9
                simp only [put_lit, put_none, List.set_cons_zero, List.set_cons_succ]
                obtain rfl := hS9
                go_wp2_with fail
                go_meet
                case rel => exact ⟨rfl, ms, hfin.out, by rw [HN.out]; omega, HSH.out⟩
            · have hk0' : decide (0 ≤ K) = false := by simpa using hk0
              go_wp2_with fail
              refine region_steps (R := pick [eqv (.int .i64 5), eqv (.bool false), eqv (.pointer (some ⟨o, 1, none⟩)), eqv (.int .i64 K), eqv (.bool false), eqv (.bool false), eqv (undef), eqv (undef), eqv (undef), eqv (undef), eqv (undef), eqv (undef), eqv (undef), eqv (undef), eqv (.bool false), eqv (.bool false), eqv (.bool false), eqv (.int .i64 5), eqv (.bool true), eqv (.bool true), eqv (.int .i64 5), eqv (.bool false), eqv (.bool false), eqv (.bool false)]) (S := fun _ w' => w' = W.drew) (T := (fun a b => a = b)) (by kernel_rfl) (by kernel_rfl) (by kernel_rfl) (Stab.pick (Stab.eqv (Stab.eqv (Stab.eqv (Stab.eqv (Stab.eqv (Stab.eqv (Stab.eqv (Stab.eqv (Stab.eqv (Stab.eqv (Stab.eqv (Stab.eqv (Stab.eqv (Stab.eqv (Stab.eqv (Stab.eqv (Stab.eqv (Stab.eqv (Stab.eqv (Stab.eqv (Stab.eqv (Stab.eqv (Stab.eqv (Stab.eqv (Stab.nil)))))))))))))))))))))))))) (rfl) ?steps ?ends
              case steps =>
                refine StepsOk.cons (stepOk_pure [] [(15, .int .i64 5)] rfl rfl (by kernel_rfl) (by kernel_rfl) rfl (fun _ => rfl) (fun _ _ _ h => h) (fun d E w' hk hda hS hc hf => by rintro  e15; exact ⟨_, by go_simp, rfl⟩)) ?_
                refine StepsOk.cons (stepOk_pure [(0, 203)] [] rfl rfl (by kernel_rfl) (by kernel_rfl) rfl (fun _ => rfl) (fun _ _ _ h => h) (fun d E w' hk hda hS hc hf => by rintro _ q0 rfl e203 ; exact ⟨_, by go_simp, rfl⟩)) ?_
                refine StepsOk.cons (stepOk_pure [] [(6, .pointer (some ⟨o, 0, none⟩))] rfl rfl (by kernel_rfl) (by kernel_rfl) rfl (fun _ => rfl) (fun _ _ _ h => h) (fun d E w' hk hda hS hc hf => by rintro  e6; exact ⟨_, by go_simp, rfl⟩)) ?_
                refine StepsOk.cons (stepOk_pure [(2, 205)] [] rfl rfl (by kernel_rfl) (by kernel_rfl) rfl (fun _ => rfl) (fun _ _ _ h => h) (fun d E w' hk hda hS hc hf => by rintro _ q2 rfl e205 ; obtain rfl := hS; exact ⟨_, by go_simp, rfl⟩)) ?_
                refine StepsOk.cons (stepOk_pure [(3, 206)] [] rfl rfl (by kernel_rfl) (by kernel_rfl) rfl (fun _ => rfl) (fun _ _ _ h => h) (fun d E w' hk hda hS hc hf => by rintro _ q3 rfl e206 ; exact ⟨_, by go_simp, rfl⟩)) ?_
                refine StepsOk.cons (stepOk_pure [(4, 207)] [] rfl rfl (by kernel_rfl) (by kernel_rfl) rfl (fun _ => rfl) (fun _ _ _ h => h) (fun d E w' hk hda hS hc hf => by rintro _ q4 rfl e207 ; exact ⟨_, by go_simp, rfl⟩)) ?_
                refine StepsOk.cons (stepOk_skip 5 208 false rfl rfl (by kernel_rfl) (fun _ => rfl) (fun _ _ _ h => h) (fun _ _ h => h) (fun _ => rfl)) ?_
                refine StepsOk.cons (stepOk_skip 5 208 false rfl rfl (by kernel_rfl) (fun _ => rfl) (fun _ _ _ h => h) (fun _ _ h => h) (fun _ => rfl)) ?_
                refine StepsOk.cons (stepOk_skip 5 208 false rfl rfl (by kernel_rfl) (fun _ => rfl) (fun _ _ _ h => h) (fun _ _ h => h) (fun _ => rfl)) ?_
                refine StepsOk.cons (stepOk_skip 5 208 false rfl rfl (by kernel_rfl) (fun _ => rfl) (fun _ _ _ h => h) (fun _ _ h => h) (fun _ => rfl)) ?_
                refine StepsOk.cons (stepOk_skip 5 208 false rfl rfl (by kernel_rfl) (fun _ => rfl) (fun _ _ _ h => h) (fun _ _ h => h) (fun _ => rfl)) ?_
                refine StepsOk.cons (stepOk_skip 5 208 false rfl rfl (by kernel_rfl) (fun _ => rfl) (fun _ _ _ h => h) (fun _ _ h => h) (fun _ => rfl)) ?_
                refine StepsOk.cons (stepOk_skip 5 208 false rfl rfl (by kernel_rfl) (fun _ => rfl) (fun _ _ _ h => h) (fun _ _ h => h) (fun _ => rfl)) ?_
                refine StepsOk.cons (stepOk_skip 5 208 false rfl rfl (by kernel_rfl) (fun _ => rfl) (fun _ _ _ h => h) (fun _ _ h => h) (fun _ => rfl)) ?_
                refine StepsOk.cons (stepOk_pure [(5, 208), (13, 216)] [] rfl rfl (by kernel_rfl) (by kernel_rfl) rfl (fun _ => rfl) (fun _ _ _ h => h) (fun d E w' hk hda hS hc hf => by rintro _ q5 rfl e208 _ q13 rfl e216 ; exact ⟨_, by go_simp, rfl⟩)) ?_
                refine StepsOk.cons (stepOk_pure [(1, 204), (14, 217)] [] rfl rfl (by kernel_rfl) (by kernel_rfl) rfl (fun _ => rfl) (fun _ _ _ h => h) (fun d E w' hk hda hS hc hf => by rintro _ q1 rfl e204 _ q14 rfl e217 ; exact ⟨_, by go_simp, rfl⟩)) ?_
                refine StepsOk.cons (stepOk_pure [(15, 218)] [] rfl rfl (by kernel_rfl) (by kernel_rfl) rfl (fun _ => rfl) (fun _ _ _ h => h) (fun d E w' hk hda hS hc hf => by rintro _ q15 rfl e218 ; exact ⟨_, by go_simp, rfl⟩)) ?_
                refine StepsOk.cons (stepOk_pureG 16 219 false rfl rfl (by kernel_rfl) (fun _ _ h => h) [] [(15, .int .i64 5)] (by kernel_rfl) (by kernel_rfl) rfl (fun _ => rfl) (fun _ _ _ h => h) (fun d E w' hk hda hS hc hf => by rintro  e15; exact ⟨_, by go_simp, rfl⟩)) ?_
                refine StepsOk.cons (stepOk_pureG 16 219 false rfl rfl (by kernel_rfl) (fun _ _ h => h) [(17, 220)] [] (by kernel_rfl) (by kernel_rfl) rfl (fun _ => rfl) (fun _ _ _ h => h) (fun d E w' hk hda hS hc hf => by rintro _ q17 rfl e220 ; exact ⟨_, by go_simp, rfl⟩)) ?_
                refine StepsOk.cons (stepOk_pureG 16 219 false rfl rfl (by kernel_rfl) (fun _ _ h => h) [(18, 221)] [] (by kernel_rfl) (by kernel_rfl) rfl (fun _ => rfl) (fun _ _ _ h => h) (fun d E w' hk hda hS hc hf => by rintro _ q18 rfl e221 ; exact ⟨_, by go_simp, rfl⟩)) ?_
                refine StepsOk.cons (stepOk_pureG 19 222 true rfl rfl (by kernel_rfl) (fun _ _ h => h) [] [(15, .int .i64 5)] (by kernel_rfl) (by kernel_rfl) rfl (fun _ => rfl) (fun _ _ _ h => h) (fun d E w' hk hda hS hc hf => by rintro  e15; exact ⟨_, by go_simp, rfl⟩)) ?_
                refine StepsOk.cons (stepOk_pureG 19 222 true rfl rfl (by kernel_rfl) (fun _ _ h => h) [(20, 223)] [] (by kernel_rfl) (by kernel_rfl) rfl (fun _ => rfl) (fun _ _ _ h => h) (fun d E w' hk hda hS hc hf => by rintro _ q20 rfl e223 ; exact ⟨_, by go_simp, rfl⟩)) ?_
                refine StepsOk.cons (stepOk_pureG 16 219 false rfl rfl (by kernel_rfl) (fun _ _ h => h) [(19, 222), (21, 224)] [] (by kernel_rfl) (by kernel_rfl) rfl (fun _ => rfl) (fun _ _ _ h => h) (fun d E w' hk hda hS hc hf => by rintro _ q19 rfl e222 _ q21 rfl e224 ; exact ⟨_, by go_simp, rfl⟩)) ?_
                refine StepsOk.cons (stepOk_pure [(16, 219), (22, 225)] [] rfl rfl (by kernel_rfl) (by kernel_rfl) rfl (fun _ => rfl) (fun _ _ _ h => h) (fun d E w' hk hda hS hc hf => by rintro _ q16 rfl e219 _ q22 rfl e225 ; exact ⟨_, by go_simp, rfl⟩)) ?_
                exact StepsOk.nil
              case ends =>
                intro σ9 w9 hS9 hA9
                refine Ends.eqv (some 203) (.int .i64 5) rfl (fun _ h => h) ?_
                refine Ends.eqv (some 204) (.bool false) rfl (fun _ h => h) ?_
                refine Ends.eqv (some 205) (.pointer (some ⟨o, 1, none⟩)) rfl (fun _ h => h) ?_
                refine Ends.eqv (some 206) (.int .i64 K) rfl (fun _ h => h) ?_
                refine Ends.eqv (some 207) (.bool false) rfl (fun _ h => h) ?_
                refine Ends.eqv (some 208) (.bool false) rfl (fun _ h => h) ?_
                refine Ends.eqv (some 209) (undef) rfl (fun _ h => h) ?_
                refine Ends.eqv (some 210) (undef) rfl (fun _ h => h) ?_
                refine Ends.eqv (some 211) (undef) rfl (fun _ h => h) ?_
                refine Ends.eqv (some 212) (undef) rfl (fun _ h => h) ?_
                refine Ends.eqv (some 213) (undef) rfl (fun _ h => h) ?_
                refine Ends.eqv (some 214) (undef) rfl (fun _ h => h) ?_
                refine Ends.eqv (some 215) (undef) rfl (fun _ h => h) ?_
                refine Ends.eqv (some 216) (undef) rfl (fun _ h => h) ?_
                refine Ends.eqv (some 217) (.bool false) rfl (fun _ h => h) ?_
                refine Ends.eqv (some 218) (.bool false) rfl (fun _ h => h) ?_
                refine Ends.eqv (some 219) (.bool false) rfl (fun _ h => h) ?_
                refine Ends.eqv (some 220) (.int .i64 5) rfl (fun _ h => h) ?_
                refine Ends.eqv (some 221) (.bool true) rfl (fun _ h => h) ?_
                refine Ends.eqv (some 222) (.bool true) rfl (fun _ h => h) ?_
                refine Ends.eqv (some 223) (.int .i64 5) rfl (fun _ h => h) ?_
                refine Ends.eqv (some 224) (.bool false) rfl (fun _ h => h) ?_
                refine Ends.eqv (some 225) (.bool false) rfl (fun _ h => h) ?_
                refine Ends.eqv (some 226) (.bool false) rfl (fun _ h => h) ?_
                refine Ends.nil ?_
                clear hA9
                simp only [put_lit, put_none, List.set_cons_zero, List.set_cons_succ]
                obtain rfl := hS9
                go_wp2_with fail
                go_meet
                case rel => exact ⟨rfl, ms, hfin.out, by rw [HN.out]; omega, HSH.out⟩
        have e2k : (kd == 2) = false := by simpa using k2
        by_cases k3 : kd = 3
        · as_aux_lemma =>
          subst k3
          by_cases hr : 0 ≤ K ∧ K < N
          · obtain ⟨kk, rfl⟩ : ∃ j : Nat, K = j := ⟨K.toNat, by omega⟩
            have hkk : kk < N := by omega
            obtain ⟨m, hm⟩ : ∃ m, ms[kk]? = some m := ⟨ms[kk]'(by rw [HN.out]; exact hkk), List.getElem?_eq_getElem _⟩
            have hsh' : ∀ x ∈ ms.eraseIdx kk, x.bs.length ≤ 100 := fun x hx => HSH.out x (List.mem_of_mem_eraseIdx hx)
            have hlen' : (ms.eraseIdx kk).length ≤ k + 1 := by rw [List.length_eraseIdx]; have := HN.out; split <;> omega
            have CT := hide (Drop_yes w.heap.size gb kk ms _ hm (by rw [HN.out]; omega) W qd.bag)
            have CR := hide (fun (U : World) (h : LAt U w.heap.size gx ms) => RTake_yes w.heap.size gx kk ms _ hm (by rw [HN.out]; omega) U h)
            clear hm hN
            go_wp2_with fail
            refine CT.out.mono ?_
            rintro e w2 ⟨rfl, hb2, f2⟩
            have q2 := qd.byBag hb2 f2
            clear e0 e1 e2 e3 e4 hb2 f2
            obtain ⟨-, e1, -, -, -⟩ := ob _ q2.bk
            have lo2 := q2.bk.lt
            go_wp2_with fail
            refine (CR.out _ q2.row).mono ?_
            rintro e w3 ⟨rfl, hr3, f3⟩
            have q3 := q2.byRef hr3 f3
            have hfin := hide (fun o => (q3.old ((Old.refl' w3).alloc' o)).duo)
            clear q2 q3 hr3 f3 e1
            go_wp2_with fail
            go_meet
            case rel => exact ⟨rfl, _, hfin.out _, hlen', hsh'⟩
          · have hr' : K < 0 ∨ (ms.length : Int) ≤ K := by rw [HN.out]; omega
            have CT := hide (Drop_no w.heap.size gb K ms hr' (by rw [HN.out]; omega) W qd.bag)
            have CR := hide (RTake_no w.heap.size gx K ms hr' (by rw [HN.out]; omega) W qd.row)
            clear hr' hN
            go_wp2_with fail
            refine CT.out.mono ?_
            rintro e w2 ⟨rfl, rfl⟩
            go_wp2_with fail
            refine CR.out.mono ?_
            rintro e w3 ⟨rfl, f3⟩
            have hfin := hide (fun o => (qd.old (f3.alloc' o)).duo)
            clear e0 e1 e2 e3 e4
            go_wp2_with fail
            go_meet
            case rel => exact ⟨rfl, ms, hfin.out _, by rw [HN.out]; omega, HSH.out⟩
        have e3k : (kd == 3) = false := by simpa using k3
        obtain ⟨TL, hTL⟩ : ∃ L, toL ms t_ N = L := ⟨_, rfl⟩
        obtain ⟨NT, hNT⟩ : ∃ L, TL.length = L := ⟨_, rfl⟩
        have hTN := toL_others ms t_ N (by rw [HN.out]; omega)
        rw [hTL, hNT, List.take_of_length_le (by rw [HN.out]; omega)] at hTN
        have cT1 := hide (fun (U : World) (h : Old W U) => (To_bag w.heap.size gb ms t_ (by rw [HN.out]; omega) U (qd.bag.old h)).mono (fun e w' (he : _) => (by
          obtain ⟨Aa, ca, h1, h2, h3⟩ := he
          rw [HN.out, hTL, hNT] at h1 h2
          exact ⟨Aa, ca, h1, CellsAt.of_own h2, h3⟩ : ∃ Aa ca, e = .returned (.slice Aa NT ca) ∧ IntsAt w' Aa TL ∧ Old U w')))
        have cT2 := hide (fun (U : World) (h : Old W U) => (RTo w.heap.size gx ms t_ (by rw [HN.out]; omega) U (qd.row.old h)).mono (fun e w' (he : _) => (by
          obtain ⟨Aa, ca, h1, h2, h3⟩ := he
          rw [HN.out, hTL, hNT] at h1 h2
          exact ⟨Aa, ca, h1, CellsAt.of_own h2, h3⟩ : ∃ Aa ca, e = .returned (.slice Aa NT ca) ∧ IntsAt w' Aa TL ∧ Old U w')))
        have HNT := hide hNT
        have HNTB := hide (show NT ≤ 1000 by omega)
        have HTN := hide hTN
        clear hTL hNT hTN
        by_cases k4 : kd = 4
        · as_aux_lemma =>
          subst k4
          have E3 := hide (fun (U : World) (h : Old W U) => (ob _ (qd.bk.old h)).2.2.2.1)
          clear hN
          go_wp2_with fail
          refine region_steps (R := pick [eqv (.pointer (some ⟨gb, 0, none⟩)), eqv (.pointer (some ⟨o, 3, none⟩)), eqv (.int .i64 t_), fun v w' => ∃ Aa ca, v = .slice Aa NT ca ∧ IntsAt w' Aa TL, eqv (.pointer (some ⟨gx, 0, none⟩)), eqv (.pointer (some ⟨o, 3, none⟩)), eqv (.int .i64 t_), fun v w' => ∃ Ab cb, v = .slice Ab NT cb ∧ IntsAt w' Ab TL, eqv (.bool true), eqv (.bool false)]) (S := fun _ w' => Old W w') (T := Old) (by kernel_rfl) (by kernel_rfl) (by kernel_rfl) (Stab.pick (Stab.eqv (Stab.eqv (Stab.eqv (Stab.cons (fun v w1 w2 hT h => by obtain ⟨Aa, ca, e, hi⟩ := h; exact ⟨Aa, ca, e, CellsAt.old hi hT⟩) (Stab.eqv (Stab.eqv (Stab.eqv (Stab.cons (fun v w1 w2 hT h => by obtain ⟨Aa, ca, e, hi⟩ := h; exact ⟨Aa, ca, e, CellsAt.old hi hT⟩) (Stab.eqv (Stab.eqv (Stab.nil)))))))))))) ((Old.refl' _).drew') ?steps ?ends
          case steps =>
            refine StepsOk.cons (stepOk_pure [] [(3, .pointer (some ⟨gb, 0, none⟩))] rfl rfl (by kernel_rfl) (by kernel_rfl) rfl Old.refl' (fun _ _ _ h => h) (fun d E w' hk hda hS hc hf => by rintro  e3; exact ⟨_, by go_simp, rfl⟩)) ?_
            refine StepsOk.cons (stepOk_pure [] [(6, .pointer (some ⟨o, 0, none⟩))] rfl rfl (by kernel_rfl) (by kernel_rfl) rfl Old.refl' (fun _ _ _ h => h) (fun d E w' hk hda hS hc hf => by rintro  e6; exact ⟨_, by go_simp, rfl⟩)) ?_
            refine StepsOk.cons (stepOk_pure [(1, 274)] [] rfl rfl (by kernel_rfl) (by kernel_rfl) rfl Old.refl' (fun _ _ _ h => h) (fun d E w' hk hda hS hc hf => by rintro _ q1 rfl e274 ; obtain e3 := E3.out _ hS; exact ⟨_, by go_simp, rfl⟩)) ?_
            refine StepsOk.cons (stepOk_mk [(0, 273), (2, 275)] [] rfl rfl (by kernel_rfl) (by kernel_rfl) rfl ?_) ?_
            · rintro d a w' hk hda hS _ q0 rfl e273 _ q2 rfl e275 
              first | refine Given.nil (Known.nil ?_) | refine Known.nil ?_
              refine wp_call 13 _ Try.func13 (by kernel_rfl) (by kernel_rfl) _ _ (by rfl) [.pointer (some ⟨gb, 0, none⟩), .int .i64 t_] (by simp only [List.map_cons, List.map_nil, *]; try rfl) (cT1.out _ hS) ?_
              rintro e w1 ⟨Aa, ca, rfl, ia, hb⟩
              exact ⟨_, rfl, _, rfl, ⟨Aa, ca, rfl, ia⟩, hb, hS.trans' hb⟩
            refine StepsOk.cons (stepOk_pure [] [(4, .pointer (some ⟨gx, 0, none⟩))] rfl rfl (by kernel_rfl) (by kernel_rfl) rfl Old.refl' (fun _ _ _ h => h) (fun d E w' hk hda hS hc hf => by rintro  e4; exact ⟨_, by go_simp, rfl⟩)) ?_
            refine StepsOk.cons (stepOk_pure [] [(6, .pointer (some ⟨o, 0, none⟩))] rfl rfl (by kernel_rfl) (by kernel_rfl) rfl Old.refl' (fun _ _ _ h => h) (fun d E w' hk hda hS hc hf => by rintro  e6; exact ⟨_, by go_simp, rfl⟩)) ?_
            refine StepsOk.cons (stepOk_pure [(5, 278)] [] rfl rfl (by kernel_rfl) (by kernel_rfl) rfl Old.refl' (fun _ _ _ h => h) (fun d E w' hk hda hS hc hf => by rintro _ q5 rfl e278 ; obtain e3 := E3.out _ hS; exact ⟨_, by go_simp, rfl⟩)) ?_
            refine StepsOk.cons (stepOk_mk [(4, 277), (6, 279)] [] rfl rfl (by kernel_rfl) (by kernel_rfl) rfl ?_) ?_
            · rintro d a w' hk hda hS _ q4 rfl e277 _ q6 rfl e279 
              first | refine Given.nil (Known.nil ?_) | refine Known.nil ?_
              refine wp_call 18 _ Try.func18 (by kernel_rfl) (by kernel_rfl) _ _ (by rfl) [.pointer (some ⟨gx, 0, none⟩), .int .i64 t_] (by simp only [List.map_cons, List.map_nil, *]; try rfl) (cT2.out _ hS) ?_
              rintro e w1 ⟨Ab, cb, rfl, ib, hb⟩
              exact ⟨_, rfl, _, rfl, ⟨Ab, cb, rfl, ib⟩, hb, hS.trans' hb⟩
            refine StepsOk.cons (stepOk_mk [(3, 276), (7, 280)] [] rfl rfl (by kernel_rfl) (by kernel_rfl) rfl ?_) ?_
            · rintro d a w' hk hda hS _ q3 ⟨Aa, ca, rfl, ia⟩ e276 _ q7 ⟨Ab, cb, rfl, ib⟩ e280 
              first | refine Given.nil (Known.nil ?_) | refine Known.nil ?_
              refine wp_call 17 _ Try.func17 (by kernel_rfl) (by kernel_rfl) _ _ (by rfl) [.slice Aa NT ca, .slice Ab NT cb] (by simp only [List.map_cons, List.map_nil, *]; try rfl) (Ints_same Aa Ab NT TL ca cb _ ia ib HNT.out.symm HNTB.out) ?_
              rintro e w1 ⟨rfl, hb⟩
              exact ⟨_, rfl, _, rfl, rfl, hb, hS.trans' hb⟩
            refine StepsOk.cons (stepOk_pure [(8, 281)] [] rfl rfl (by kernel_rfl) (by kernel_rfl) rfl Old.refl' (fun _ _ _ h => h) (fun d E w' hk hda hS hc hf => by rintro _ q8 rfl e281 ; exact ⟨_, by go_simp, rfl⟩)) ?_
            exact StepsOk.nil
          case ends =>
            intro σ9 w9 hS9 hA9
            refine Ends.eqv (some 273) (.pointer (some ⟨gb, 0, none⟩)) rfl (fun _ h => h) ?_
            refine Ends.eqv (some 274) (.pointer (some ⟨o, 3, none⟩)) rfl (fun _ h => h) ?_
            refine Ends.eqv (some 275) (.int .i64 t_) rfl (fun _ h => h) ?_
            refine Ends.ex (some 276) rfl ?_
            rintro _ p3 ⟨Aa, ca, rfl, ia⟩
            refine Ends.eqv (some 277) (.pointer (some ⟨gx, 0, none⟩)) rfl (fun _ h => h) ?_
            refine Ends.eqv (some 278) (.pointer (some ⟨o, 3, none⟩)) rfl (fun _ h => h) ?_
            refine Ends.eqv (some 279) (.int .i64 t_) rfl (fun _ h => h) ?_
            refine Ends.ex (some 280) rfl ?_
            rintro _ p7 ⟨Ab, cb, rfl, ib⟩
            refine Ends.eqv (some 281) (.bool true) rfl (fun _ h => h) ?_
            refine Ends.eqv (some 282) (.bool false) rfl (fun _ h => h) ?_
            refine Ends.nil ?_
            clear hA9
            simp only [put_lit, put_none, List.set_cons_zero, List.set_cons_succ]
            have hfin := hide (qd.old hS9).duo
            clear hS9
            go_wp2_with fail
            go_meet
            case rel => exact ⟨rfl, ms, hfin.out, by rw [HN.out]; omega, HSH.out⟩
        have e4k : (kd == 4) = false := by simpa using k4
        as_aux_lemma =>
        go_wp2_with fail
        refine (cT2.out _ (Old.refl' W)).mono ?_
        rintro e wt ⟨At, ct, rfl, -, ft⟩
        have qt := qd.old ft
        have HQT := hide qt
        have hsh' : ∀ x ∈ others t_ ms, x.bs.length ≤ 100 := fun x hx => HSH.out x (List.mem_filter.1 hx).1
        have hlen' : (others t_ ms).length ≤ k + 1 := by have := others_le t_ ms; rw [HN.out] at this; omega
        obtain ⟨nO, hnO⟩ : ∃ x, (others t_ ms).length = x := ⟨_, rfl⟩
        obtain ⟨AL, cL, bkX, ownX⟩ := qt.row.cut HN.out
        have HBX := hide bkX
        have HNO := hide hnO
        clear e0 e1 e2 e3 e4 bkX ownX hnO hN
        go_wp2_with fail
        go_loopw [20, 21] (fun v iv wr => ∃ j : Nat, j ≤ N ∧ iv = .int .i64 j ∧ Old wt wr ∧ wr.ownsRow wt.heap.size 45 3 v (others t_ (ms.take j)).length ((others t_ (ms.take j)).flatMap Msg.rcells)) (fun _ iv _ => N - (intOf iv).toNat)
        case atStart => exact ⟨0, by omega, rfl, Old.refl' wt, by rw [List.take_zero]; exact World.ownsRow_nil _ _ _ _⟩
        case round =>
          clear qt
          obtain ⟨j, hjN, rfl, hB, hown⟩ := hrel
          obtain ⟨Av, cv, rfl, -, -⟩ := own_form hown
          have hol : (others t_ (ms.take j)).length ≤ j := Nat.le_trans (others_le _ _) (by rw [List.length_take]; omega)
          have q9 := HQT.out.old hB
          obtain ⟨-, -, -, e3, -⟩ := ob _ q9.bk
          have lo3 := q9.bk.lt
          by_cases hjl : j < N
          · obtain ⟨m, hm⟩ : ∃ m, ms[j]? = some m := ⟨ms[j]'(by rw [HN.out]; exact hjl), List.getElem?_eq_getElem _⟩
            obtain ⟨ga, cL', bkX', ownX', m0, m1, m2⟩ := q9.row.at_ hm
            rw [HN.out] at bkX' ownX'
            have g0 : wr.cell? ⟨gx, 0, none⟩ = some (.slice (some ⟨ga, 0, none⟩) N cL') := bkX'.cell 0
            have hgl := bkX'.lt
            have hgal := own_lt ownX'
            have hsucc := others_succ t_ ms j m hm
            obtain ⟨mf, mt, mA, mc, mbs⟩ := m
            simp only at m0 m1 m2 hsucc
            obtain ⟨SM, hSM⟩ : ∃ x, strOfNums mbs = x := ⟨_, rfl⟩
            rw [hSM] at m2
            have HSUC := hide hsucc
            have HSM := hide hSM
            clear hm bkX' ownX' hsucc hSM q9
            obtain ⟨cL, rfl⟩ : ∃ x, x = cL' := ⟨_, rfl⟩
            have hjl' : (j : Int) < (N : Int) := by omega
            by_cases he : mt = t_
            · have he' : (mt != t_) = false := by simpa using he
              have HE := hide he
              have HO := hide hown
              clear he hown
              go_wp2_with fail
              refine region_steps (R := pick [eqv (.pointer (some ⟨gx, 0, none⟩)), eqv (.pointer (some ⟨gx, 0, none⟩)), eqv (.pointer (some ⟨gx, 0, none⟩)), eqv (.slice (some ⟨ga, 0, none⟩) N cL), eqv (.int .i64 j), eqv (.pointer (some ⟨ga, j * 3, none⟩)), eqv (.pointer (some ⟨ga, j * 3 + 1, none⟩)), eqv (.int .i64 mt), eqv (.pointer (some ⟨o, 3, none⟩)), eqv (.int .i64 t_), eqv (.bool false)]) (S := fun _ w' => w' = wr.drew) (T := (fun a b => a = b)) (by kernel_rfl) (by kernel_rfl) (by kernel_rfl) (Stab.pick (Stab.eqv (Stab.eqv (Stab.eqv (Stab.eqv (Stab.eqv (Stab.eqv (Stab.eqv (Stab.eqv (Stab.eqv (Stab.eqv (Stab.eqv (Stab.nil))))))))))))) (rfl) ?steps ?ends
              case steps =>
                refine StepsOk.cons (stepOk_pure [] [(4, .pointer (some ⟨gx, 0, none⟩))] rfl rfl (by kernel_rfl) (by kernel_rfl) rfl (fun _ => rfl) (fun _ _ _ h => h) (fun d E w' hk hda hS hc hf => by rintro  e4; exact ⟨_, by go_simp, rfl⟩)) ?_
                refine StepsOk.cons (stepOk_pure [(0, 69)] [] rfl rfl (by kernel_rfl) (by kernel_rfl) rfl (fun _ => rfl) (fun _ _ _ h => h) (fun d E w' hk hda hS hc hf => by rintro _ q0 rfl e69 ; exact ⟨_, by go_simp, rfl⟩)) ?_
                refine StepsOk.cons (stepOk_pure [(1, 70)] [] rfl rfl (by kernel_rfl) (by kernel_rfl) rfl (fun _ => rfl) (fun _ _ _ h => h) (fun d E w' hk hda hS hc hf => by rintro _ q1 rfl e70 ; exact ⟨_, by go_simp, rfl⟩)) ?_
                refine StepsOk.cons (stepOk_pure [(2, 71)] [] rfl rfl (by kernel_rfl) (by kernel_rfl) rfl (fun _ => rfl) (fun _ _ _ h => h) (fun d E w' hk hda hS hc hf => by rintro _ q2 rfl e71 ; obtain rfl := hS; exact ⟨_, by go_simp, rfl⟩)) ?_
                refine StepsOk.cons (stepOk_pure [] [(21, .int .i64 j)] rfl rfl (by kernel_rfl) (by kernel_rfl) rfl (fun _ => rfl) (fun _ _ _ h => h) (fun d E w' hk hda hS hc hf => by rintro  e21; exact ⟨_, by go_simp, rfl⟩)) ?_
                refine StepsOk.cons (stepOk_pure [(3, 72), (4, 73)] [] rfl rfl (by kernel_rfl) (by kernel_rfl) rfl (fun _ => rfl) (fun _ _ _ h => h) (fun d E w' hk hda hS hc hf => by rintro _ q3 rfl e72 _ q4 rfl e73 ; obtain rfl := hS; exact ⟨_, by go_simp, rfl⟩)) ?_
                refine StepsOk.cons (stepOk_pure [(5, 74)] [] rfl rfl (by kernel_rfl) (by kernel_rfl) rfl (fun _ => rfl) (fun _ _ _ h => h) (fun d E w' hk hda hS hc hf => by rintro _ q5 rfl e74 ; exact ⟨_, by go_simp, rfl⟩)) ?_
                refine StepsOk.cons (stepOk_pure [(6, 75)] [] rfl rfl (by kernel_rfl) (by kernel_rfl) rfl (fun _ => rfl) (fun _ _ _ h => h) (fun d E w' hk hda hS hc hf => by rintro _ q6 rfl e75 ; obtain rfl := hS; exact ⟨_, by go_simp, rfl⟩)) ?_
                refine StepsOk.cons (stepOk_pure [] [(6, .pointer (some ⟨o, 0, none⟩))] rfl rfl (by kernel_rfl) (by kernel_rfl) rfl (fun _ => rfl) (fun _ _ _ h => h) (fun d E w' hk hda hS hc hf => by rintro  e6; exact ⟨_, by go_simp, rfl⟩)) ?_
                refine StepsOk.cons (stepOk_pure [(8, 77)] [] rfl rfl (by kernel_rfl) (by kernel_rfl) rfl (fun _ => rfl) (fun _ _ _ h => h) (fun d E w' hk hda hS hc hf => by rintro _ q8 rfl e77 ; obtain rfl := hS; exact ⟨_, by go_simp, rfl⟩)) ?_
                refine StepsOk.cons (stepOk_pure [(7, 76), (9, 78)] [] rfl rfl (by kernel_rfl) (by kernel_rfl) rfl (fun _ => rfl) (fun _ _ _ h => h) (fun d E w' hk hda hS hc hf => by rintro _ q7 rfl e76 _ q9 rfl e78 ; exact ⟨_, by go_simp, rfl⟩)) ?_
                exact StepsOk.nil
              case ends =>
                intro σ9 w9 hS9 hA9
                refine Ends.eqv (some 69) (.pointer (some ⟨gx, 0, none⟩)) rfl (fun _ h => h) ?_
                refine Ends.eqv (some 70) (.pointer (some ⟨gx, 0, none⟩)) rfl (fun _ h => h) ?_
                refine Ends.eqv (some 71) (.pointer (some ⟨gx, 0, none⟩)) rfl (fun _ h => h) ?_
                refine Ends.eqv (some 72) (.slice (some ⟨ga, 0, none⟩) N cL) rfl (fun _ h => h) ?_
                refine Ends.eqv (some 73) (.int .i64 j) rfl (fun _ h => h) ?_
                refine Ends.eqv (some 74) (.pointer (some ⟨ga, j * 3, none⟩)) rfl (fun _ h => h) ?_
                refine Ends.eqv (some 75) (.pointer (some ⟨ga, j * 3 + 1, none⟩)) rfl (fun _ h => h) ?_
                refine Ends.eqv (some 76) (.int .i64 mt) rfl (fun _ h => h) ?_
                refine Ends.eqv (some 77) (.pointer (some ⟨o, 3, none⟩)) rfl (fun _ h => h) ?_
                refine Ends.eqv (some 78) (.int .i64 t_) rfl (fun _ h => h) ?_
                refine Ends.eqv (some 79) (.bool false) rfl (fun _ h => h) ?_
                refine Ends.nil ?_
                clear hA9
                simp only [put_lit, put_none, List.set_cons_zero, List.set_cons_succ]
                obtain rfl := hS9
                go_wp2_with fail
                go_roundw
                case rel => exact ⟨j + 1, by omega, by go_num, hB.drew', by rw [HSUC.out, if_pos HE.out]; exact own_old HO.out (Old.refl' _).drew'⟩
                case measure => simp [intOf]; omega
            · have he' : (mt != t_) = true := by simpa using he
              have HE := hide he
              have HO := hide hown
              clear he hown
              go_wp2_with fail
              refine region_steps (R := pick [eqv (.pointer (some ⟨gx, 0, none⟩)), eqv (.pointer (some ⟨gx, 0, none⟩)), eqv (.pointer (some ⟨gx, 0, none⟩)), eqv (.slice (some ⟨ga, 0, none⟩) N cL), eqv (.int .i64 j), eqv (.pointer (some ⟨ga, j * 3, none⟩)), eqv (.pointer (some ⟨ga, j * 3 + 1, none⟩)), eqv (.int .i64 mt), eqv (.pointer (some ⟨o, 3, none⟩)), eqv (.int .i64 t_), eqv (.bool true)]) (S := fun _ w' => w' = wr.drew) (T := (fun a b => a = b)) (by kernel_rfl) (by kernel_rfl) (by kernel_rfl) (Stab.pick (Stab.eqv (Stab.eqv (Stab.eqv (Stab.eqv (Stab.eqv (Stab.eqv (Stab.eqv (Stab.eqv (Stab.eqv (Stab.eqv (Stab.eqv (Stab.nil))))))))))))) (rfl) ?steps ?ends
              case steps =>
                refine StepsOk.cons (stepOk_pure [] [(4, .pointer (some ⟨gx, 0, none⟩))] rfl rfl (by kernel_rfl) (by kernel_rfl) rfl (fun _ => rfl) (fun _ _ _ h => h) (fun d E w' hk hda hS hc hf => by rintro  e4; exact ⟨_, by go_simp, rfl⟩)) ?_
                refine StepsOk.cons (stepOk_pure [(0, 69)] [] rfl rfl (by kernel_rfl) (by kernel_rfl) rfl (fun _ => rfl) (fun _ _ _ h => h) (fun d E w' hk hda hS hc hf => by rintro _ q0 rfl e69 ; exact ⟨_, by go_simp, rfl⟩)) ?_
                refine StepsOk.cons (stepOk_pure [(1, 70)] [] rfl rfl (by kernel_rfl) (by kernel_rfl) rfl (fun _ => rfl) (fun _ _ _ h => h) (fun d E w' hk hda hS hc hf => by rintro _ q1 rfl e70 ; exact ⟨_, by go_simp, rfl⟩)) ?_
                refine StepsOk.cons (stepOk_pure [(2, 71)] [] rfl rfl (by kernel_rfl) (by kernel_rfl) rfl (fun _ => rfl) (fun _ _ _ h => h) (fun d E w' hk hda hS hc hf => by rintro _ q2 rfl e71 ; obtain rfl := hS; exact ⟨_, by go_simp, rfl⟩)) ?_
                refine StepsOk.cons (stepOk_pure [] [(21, .int .i64 j)] rfl rfl (by kernel_rfl) (by kernel_rfl) rfl (fun _ => rfl) (fun _ _ _ h => h) (fun d E w' hk hda hS hc hf => by rintro  e21; exact ⟨_, by go_simp, rfl⟩)) ?_
                refine StepsOk.cons (stepOk_pure [(3, 72), (4, 73)] [] rfl rfl (by kernel_rfl) (by kernel_rfl) rfl (fun _ => rfl) (fun _ _ _ h => h) (fun d E w' hk hda hS hc hf => by rintro _ q3 rfl e72 _ q4 rfl e73 ; obtain rfl := hS; exact ⟨_, by go_simp, rfl⟩)) ?_
                refine StepsOk.cons (stepOk_pure [(5, 74)] [] rfl rfl (by kernel_rfl) (by kernel_rfl) rfl (fun _ => rfl) (fun _ _ _ h => h) (fun d E w' hk hda hS hc hf => by rintro _ q5 rfl e74 ; exact ⟨_, by go_simp, rfl⟩)) ?_
                refine StepsOk.cons (stepOk_pure [(6, 75)] [] rfl rfl (by kernel_rfl) (by kernel_rfl) rfl (fun _ => rfl) (fun _ _ _ h => h) (fun d E w' hk hda hS hc hf => by rintro _ q6 rfl e75 ; obtain rfl := hS; exact ⟨_, by go_simp, rfl⟩)) ?_
                refine StepsOk.cons (stepOk_pure [] [(6, .pointer (some ⟨o, 0, none⟩))] rfl rfl (by kernel_rfl) (by kernel_rfl) rfl (fun _ => rfl) (fun _ _ _ h => h) (fun d E w' hk hda hS hc hf => by rintro  e6; exact ⟨_, by go_simp, rfl⟩)) ?_
                refine StepsOk.cons (stepOk_pure [(8, 77)] [] rfl rfl (by kernel_rfl) (by kernel_rfl) rfl (fun _ => rfl) (fun _ _ _ h => h) (fun d E w' hk hda hS hc hf => by rintro _ q8 rfl e77 ; obtain rfl := hS; exact ⟨_, by go_simp, rfl⟩)) ?_
                refine StepsOk.cons (stepOk_pure [(7, 76), (9, 78)] [] rfl rfl (by kernel_rfl) (by kernel_rfl) rfl (fun _ => rfl) (fun _ _ _ h => h) (fun d E w' hk hda hS hc hf => by rintro _ q7 rfl e76 _ q9 rfl e78 ; exact ⟨_, by go_simp, rfl⟩)) ?_
                exact StepsOk.nil
              case ends =>
                intro σ9 w9 hS9 hA9
                refine Ends.eqv (some 69) (.pointer (some ⟨gx, 0, none⟩)) rfl (fun _ h => h) ?_
                refine Ends.eqv (some 70) (.pointer (some ⟨gx, 0, none⟩)) rfl (fun _ h => h) ?_
                refine Ends.eqv (some 71) (.pointer (some ⟨gx, 0, none⟩)) rfl (fun _ h => h) ?_
                refine Ends.eqv (some 72) (.slice (some ⟨ga, 0, none⟩) N cL) rfl (fun _ h => h) ?_
                refine Ends.eqv (some 73) (.int .i64 j) rfl (fun _ h => h) ?_
                refine Ends.eqv (some 74) (.pointer (some ⟨ga, j * 3, none⟩)) rfl (fun _ h => h) ?_
                refine Ends.eqv (some 75) (.pointer (some ⟨ga, j * 3 + 1, none⟩)) rfl (fun _ h => h) ?_
                refine Ends.eqv (some 76) (.int .i64 mt) rfl (fun _ h => h) ?_
                refine Ends.eqv (some 77) (.pointer (some ⟨o, 3, none⟩)) rfl (fun _ h => h) ?_
                refine Ends.eqv (some 78) (.int .i64 t_) rfl (fun _ h => h) ?_
                refine Ends.eqv (some 79) (.bool true) rfl (fun _ h => h) ?_
                refine Ends.nil ?_
                clear hA9
                simp only [put_lit, put_none, List.set_cons_zero, List.set_cons_succ]
                obtain rfl := hS9
                have hown := own_old HO.out (Old.refl' wr).drew'
                have hBs := hB.size
                go_wp2_with (at_builtin; refine wpList_app _ rfl (.tmp 80) (.tmp 88) 39 rfl wt.heap.size 45 j0 (.agg #[.int .i64 0, .int .i64 0, .string { data := #[] }]) 3 32 Try.underlying39 hj hjz0 hjz1 hjz2 rfl (by decide) _ _ _ rfl (hown.alloc _) (some ⟨wr.drew.heap.size, 0, none⟩) 1 1 [.int .i64 mf, .int .i64 mt, .string SM] rfl rfl (cells_bk (Bk.new wr.drew 45 #[.int .i64 mf, .int .i64 mt, .string SM])) (by simp [Value.oneCell']) (by unfold maxLen; omega) (by omega) (by simp; omega) _ rfl _ rfl ?_; intro A2 c2 w2 h2)
                go_roundw
                case rel =>
                  refine ⟨j + 1, by omega, by go_num, h2.old (hB.drew'.alloc' _) (fun q hq => (hown.lt q hq).1), ?_⟩
                  rw [HSUC.out, if_neg HE.out, List.length_append, List.flatMap_append]
                  have e9 : [(⟨mf, mt, mA, mc, mbs⟩ : Msg)].flatMap Msg.rcells = [.int .i64 mf, .int .i64 mt, .string SM] := by rw [← HSM.out]; rfl
                  rw [e9]
                  exact h2.own
                case measure => simp [intOf]; omega
          · obtain rfl : j = N := by omega
            rw [List.take_of_length_le (by rw [HN.out]; omega), HNO.out] at hown
            rw [List.take_of_length_le (by rw [HN.out]; omega), HNO.out]
            have bk9 := HBX.out.old hB
            have g0 := bk9.cell 0
            have z0 := bk9.frozen 0
            simp at g0
            have hgl := bk9.lt
            obtain ⟨U, hU⟩ : ∃ U, wr.setCell ⟨gx, 0, none⟩ (.slice Av nO cv) = U := ⟨_, rfl⟩
            have hLU : LAt U w.heap.size gx (others t_ ms) := by
              refine ⟨⟨Av, cv, ?_, ?_⟩, q9.row.low⟩
              · rw [HNO.out, ← hU]; exact bk9.set_ 0 _
              · rw [HNO.out, ← hU]; exact own_mono (own_set hown (own_ne_bk hown bk9 (by decide)) _) (HQT.out.od.size)
            have hFU : FrT RefT w.heap.size wr U := hU ▸ (FrT.refl wr).set_ bk9 q9.row.low (.inl rfl) 0 _
            have qU := q9.byRef hLU hFU
            have CL := hide ((Lose_bag w.heap.size gb ms t_ _ nO HN.out HNO.out (by omega) U qU.bag).mono (fun e w' (h : _ ∧ _ ∧ _) => (by
              obtain ⟨h1, h2, h3⟩ := h
              have he : ((j : Int) - nO) = NT := by have := HTN.out; rw [HNO.out] at this; omega
              rw [he] at h1
              exact ⟨h1, (qU.byBag h2 h3).duo⟩ : e = .returned (.int .i64 NT) ∧ Duo w w' gb gx (others t_ ms))))
            have hog : ¬ o = gx := Bk.ne_ q9.bk bk9 (by decide)
            have hgo : ¬ gx = o := fun e => hog e.symm
            obtain ⟨-, -, -, e3', -⟩ := ob _ qU.bk
            have HOWN := hide hown
            clear hown hLU hFU qU bk9 q9
            go_wp2_with fail
            refine CL.out.mono ?_
            rintro e w7 ⟨rfl, duo7⟩
            have hfin := hide duo7
            clear duo7
            go_wp2_with fail
            go_meet
            case rel => exact ⟨rfl, _, hfin.out, hlen', hsh'⟩
      case rest =>
        as_aux_lemma =>
        clear e0 e1 e2 e3 e4 qd hlen hN
        clear HN HSH N ms
        obtain ⟨rfl, ms, tw, hlen, hsh⟩ := hcut
        have HSH := hide hsh
        clear hsh
        obtain ⟨N, hN⟩ : ∃ N, ms.length = N := ⟨_, rfl⟩
        obtain ⟨AL, cL, bkX, -⟩ := tw.row.cut hN
        have g0 : wc.cell? ⟨gx, 0, none⟩ = some (.slice AL N cL) := bkX.cell 0
        have cLen := hide (Len_bag w.heap.size gb ms N hN (by omega) wc.drew tw.bag.drew)
        have HTW := hide (tw.old (Old.refl' wc).drew')
        have HLE := hide hlen
        clear tw bkX hN hlen
        go_wp2_with fail
        refine region_steps (R := pick [eqv (.pointer (some ⟨gb, 0, none⟩)), eqv (.int .i64 N), eqv (.pointer (some ⟨gx, 0, none⟩)), eqv (.pointer (some ⟨gx, 0, none⟩)), eqv (.pointer (some ⟨gx, 0, none⟩)), eqv (.slice AL N cL), eqv (.int .i64 N), eqv (.bool false)]) (S := fun _ w' => w' = wc.drew) (T := (fun a b => a = b)) (by kernel_rfl) (by kernel_rfl) (by kernel_rfl) (Stab.pick (Stab.eqv (Stab.eqv (Stab.eqv (Stab.eqv (Stab.eqv (Stab.eqv (Stab.eqv (Stab.eqv (Stab.nil)))))))))) (rfl) ?steps ?ends
        case steps =>
          refine StepsOk.cons (stepOk_pure [] [(3, .pointer (some ⟨gb, 0, none⟩))] rfl rfl (by kernel_rfl) (by kernel_rfl) rfl (fun _ => rfl) (fun _ _ _ h => h) (fun d E w' hk hda hS hc hf => by rintro  e3; exact ⟨_, by go_simp, rfl⟩)) ?_
          refine StepsOk.cons (stepOk_mk [(0, 283)] [] rfl rfl (by kernel_rfl) (by kernel_rfl) rfl ?_) ?_
          · rintro d a w' hk hda hS _ q0 rfl e283 
            first | refine Given.nil (Known.nil ?_) | refine Known.nil ?_
            refine wp_call 12 _ Try.func12 (by kernel_rfl) (by kernel_rfl) _ _ (by rfl) [.pointer (some ⟨gb, 0, none⟩)] (by simp only [List.map_cons, List.map_nil, *]; try rfl) (by rw [hS]; exact cLen.out) ?_
            rintro e w1 ⟨rfl, h1⟩
            exact ⟨_, rfl, _, rfl, rfl, hS.trans h1, h1.symm⟩
          refine StepsOk.cons (stepOk_pure [] [(4, .pointer (some ⟨gx, 0, none⟩))] rfl rfl (by kernel_rfl) (by kernel_rfl) rfl (fun _ => rfl) (fun _ _ _ h => h) (fun d E w' hk hda hS hc hf => by rintro  e4; exact ⟨_, by go_simp, rfl⟩)) ?_
          refine StepsOk.cons (stepOk_pure [(2, 285)] [] rfl rfl (by kernel_rfl) (by kernel_rfl) rfl (fun _ => rfl) (fun _ _ _ h => h) (fun d E w' hk hda hS hc hf => by rintro _ q2 rfl e285 ; exact ⟨_, by go_simp, rfl⟩)) ?_
          refine StepsOk.cons (stepOk_pure [(3, 286)] [] rfl rfl (by kernel_rfl) (by kernel_rfl) rfl (fun _ => rfl) (fun _ _ _ h => h) (fun d E w' hk hda hS hc hf => by rintro _ q3 rfl e286 ; exact ⟨_, by go_simp, rfl⟩)) ?_
          refine StepsOk.cons (stepOk_pure [(4, 287)] [] rfl rfl (by kernel_rfl) (by kernel_rfl) rfl (fun _ => rfl) (fun _ _ _ h => h) (fun d E w' hk hda hS hc hf => by rintro _ q4 rfl e287 ; obtain rfl := hS; exact ⟨_, by go_simp, rfl⟩)) ?_
          refine StepsOk.cons (stepOk_pure [(5, 288)] [] rfl rfl (by kernel_rfl) (by kernel_rfl) rfl (fun _ => rfl) (fun _ _ _ h => h) (fun d E w' hk hda hS hc hf => by rintro _ q5 rfl e288 ; exact ⟨_, by go_simp, rfl⟩)) ?_
          refine StepsOk.cons (stepOk_pure [(1, 284), (6, 289)] [] rfl rfl (by kernel_rfl) (by kernel_rfl) rfl (fun _ => rfl) (fun _ _ _ h => h) (fun d E w' hk hda hS hc hf => by rintro _ q1 rfl e284 _ q6 rfl e289 ; exact ⟨_, by go_simp, rfl⟩)) ?_
          exact StepsOk.nil
        case ends =>
          intro σ9 w9 hS9 hA9
          refine Ends.eqv (some 283) (.pointer (some ⟨gb, 0, none⟩)) rfl (fun _ h => h) ?_
          refine Ends.eqv (some 284) (.int .i64 N) rfl (fun _ h => h) ?_
          refine Ends.eqv (some 285) (.pointer (some ⟨gx, 0, none⟩)) rfl (fun _ h => h) ?_
          refine Ends.eqv (some 286) (.pointer (some ⟨gx, 0, none⟩)) rfl (fun _ h => h) ?_
          refine Ends.eqv (some 287) (.pointer (some ⟨gx, 0, none⟩)) rfl (fun _ h => h) ?_
          refine Ends.eqv (some 288) (.slice AL N cL) rfl (fun _ h => h) ?_
          refine Ends.eqv (some 289) (.int .i64 N) rfl (fun _ h => h) ?_
          refine Ends.eqv (some 290) (.bool false) rfl (fun _ h => h) ?_
          refine Ends.nil ?_
          clear hA9
          simp only [put_lit, put_none, List.set_cons_zero, List.set_cons_succ]
          obtain rfl := hS9
          go_wp2_with fail
          go_roundg (n - (k + 1))
          case measure => omega
          case rel => exact ⟨k + 1, _, rfl, by omega, by omega, by go_num, HTW.out, HLE.out, HSH.out⟩
    · have hc : k = n ∨ (k < n ∧ k = 80) := by omega
      rcases hc with rfl | ⟨hkn, rfl⟩
      all_goals
        obtain ⟨Wz, rfl⟩ : ∃ U, U = wr := ⟨_, rfl⟩
        go_wp2_with fail
        go_loopg [22] ms.length (fun gk iv wr => ∃ (j : Nat) (ms : List Msg), gk = ms.length ∧ iv = .int .i64 j ∧ Duo w wr gb gx ms ∧ ms.length + j ≤ 80 ∧ ∀ m ∈ ms, m.bs.length ≤ 100)
        case atStart => exact ⟨0, ms, rfl, rfl, tw, by omega, HSH.out⟩
        case round =>
          clear tw HSH hlen
          clear ms
          obtain ⟨j, ms, rfl, rfl, tw, hlen, hsh⟩ := hrel
          have HSH := hide hsh
          clear hsh
          cases ms with
          | cons m ms =>
            obtain ⟨N, hN⟩ : ∃ N, ms.length = N := ⟨_, rfl⟩
            obtain ⟨AL, cL, bkX, -⟩ := tw.row.cut (N := N + 1) (by rw [List.length_cons, hN])
            have g0 : wr.cell? ⟨gx, 0, none⟩ = some (.slice AL ((N + 1 : Nat)) cL) := bkX.cell 0
            have hNpos : (0 : Int) < ((N + 1 : Nat) : Int) := by omega
            have hlen1 : N + 1 + j ≤ 80 := by rw [← hN]; simpa using hlen
            have ownm := tw.bag.own m (by simp)
            obtain ⟨mf, mt, mA, mc, mbs⟩ := m
            obtain ⟨mn, hmn⟩ : ∃ n, mbs.length = n := ⟨_, rfl⟩
            have cT : Calls Try.prog 11 #[.pointer (some ⟨gb, 0, none⟩), .int .i64 0] wr _ := Take_yes w.heap.size gb 0 _ ⟨mf, mt, mA, mc, mbs⟩ rfl (by simp; omega) wr tw.bag
            have cR : ∀ (U : World) (h : LAt U w.heap.size gx (⟨mf, mt, mA, mc, mbs⟩ :: ms)), Calls Try.prog 15 #[.pointer (some ⟨gx, 0, none⟩), .int .i64 0] U _ := fun U h => RTake_yes w.heap.size gx 0 _ ⟨mf, mt, mA, mc, mbs⟩ rfl (by simp; omega) U h
            simp only [Msg.sl, hmn, List.eraseIdx_zero, List.tail_cons] at cT ownm cR
            have CT := hide cT
            have CR := hide cR
            have HMN := hide hmn
            have HTW := hide tw
            have HN := hide hN
            clear cT cR hmn tw bkX hlen hN
            go_wp2_with fail
            refine CT.out.mono ?_
            rintro e w2 ⟨rfl, hb2, f2⟩
            obtain ⟨b2, r2, d2⟩ := HTW.out.byBag hb2 f2
            have own2 := own_frT ownm f2 (by unfold BagT; decide)
            clear ownm hb2 f2 g0
            go_wp2_with fail
            refine (CR.out _ r2).mono ?_
            rintro e w3 ⟨rfl, hr3, f3⟩
            have tw3 : Duo w w3 gb gx ms := ⟨b2.frT f3 (by unfold RefT; decide) (by unfold RefT; decide) (by unfold RefT; decide), hr3, f3.old d2⟩
            have own3 := own_frT own2 f3 (by unfold RefT; decide)
            have hs := run_str (bs := mbs) mn mc HMN.out (CellsAt.alloc (CellsAt.of_own own3) (.cells #[.int .i64 mf, .int .i64 mt, .string (strOfNums mbs)] 45))
            have hfin := hide (tw3.old ((Old.refl' w3).alloc' (.cells #[.int .i64 mf, .int .i64 mt, .string (strOfNums mbs)] 45)))
            obtain ⟨SM, hSM⟩ : ∃ S, strOfNums mbs = S := ⟨_, rfl⟩
            rw [hSM] at hs hfin
            simp only [hSM]
            clear tw3 own2 own3 hr3 f3 b2 r2 d2 hSM
            go_wp2_with fail
            go_roundg ms.length
            case measure => simp
            case rel => exact ⟨j + 1, ms, rfl, by go_num, hfin.out, by rw [HN.out]; omega, fun x hx => HSH.out x (by simp [hx])⟩
          | nil =>
            obtain ⟨AL, cL, bkX, -⟩ := tw.row.cut (N := 0) rfl
            have g0 : wr.cell? ⟨gx, 0, none⟩ = some (.slice AL 0 cL) := bkX.cell 0
            have CL := hide (fun (U : World) (h : Old wr U) => Len_bag w.heap.size gb [] 0 rfl (by omega) U (tw.bag.old h))
            have hod := tw.od
            clear tw bkX
            go_wp2_with fail
            refine (told9_any _).mono ?_
            rintro e w9 ⟨rfl, f9⟩
            go_wp2_with fail
            refine (CL.out _ f9).mono ?_
            rintro e w8 ⟨rfl, rfl⟩
            have o9 := hod.trans' f9
            go_wp2_with fail
            go_ret
            exact ⟨rfl, o9⟩
end Go.Proofs.Ytjjcdpcnokckiaa
