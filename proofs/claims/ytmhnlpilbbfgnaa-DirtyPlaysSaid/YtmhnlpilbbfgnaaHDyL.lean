/- casebooklaw19.told; a log beside cells that are held. -/
import Derived.Test.YtmhnlpilbbfgnaaHDyI
import Derived.Test.YtmhnlpilbbfgnaaHLi
namespace Go.Proofs.Ytmhnlpilbbfgnaa
open Go.RowKit

theorem LOne.hold {w wr w' : World} {g : Nat} {l : LnV} {D : Held} (h : LOne w wr g l D) (hf : Old wr w') {b : Nat} {t : TypeId} {cs : Array Value} (hb : Bk w' b t cs) (hn : wr.heap.size ≤ b) : LOne w w' g l ((b, t, cs) :: D) := by
  obtain ⟨F, h1, h2, h3, h4⟩ := h
  refine ⟨F, h1.old hf, h2, h3.trans' hf, fun d hd => ?_⟩
  rcases List.mem_cons.1 hd with rfl | hd
  · exact ⟨hb, fun e => by have := h1.lt _ e; simp only at this; omega⟩
  · exact ⟨(h4 d hd).1.old hf, (h4 d hd).2⟩
/-- beside cells that the log's own steps don't touch -/
def LOneC (w wr : World) (g : Nat) (l : LnV) (D : Held) (A : Option Addr) (cs : List Value) : Prop := ∃ F, LnAt wr g F l ∧ (∀ k, F k → w.heap.size ≤ k) ∧ Old w wr ∧ (∀ d ∈ D, Bk wr d.1 d.2.1 d.2.2 ∧ ¬ F d.1) ∧ CellsAt wr A cs ∧ (cs ≠ [] → ∀ a, A = some a → ¬ F a.block)
section
variable {w wr w' : World} {g : Nat} {l : LnV} {D : Held} {A : Option Addr} {cs : List Value}
theorem LOne.cells (h : LOne w wr g l D) (hf : Old wr w') (hc : CellsAt w' A cs) (hn : ∀ a, A = some a → wr.heap.size ≤ a.block) : LOneC w w' g l D A cs := by
  obtain ⟨F, h1, h2, h3, h4⟩ := h
  exact ⟨F, h1.old hf, h2, h3.trans' hf, fun d hd => ⟨(h4 d hd).1.old hf, (h4 d hd).2⟩, hc, fun _ a ha e => by have := h1.lt _ e; have := hn a ha; omega⟩
theorem LOneC.one (h : LOneC w wr g l D A cs) : LOne w wr g l D := by obtain ⟨F, h1, h2, h3, h4, h5, h6⟩ := h; exact ⟨F, h1, h2, h3, h4⟩
theorem LOneC.c (h : LOneC w wr g l D A cs) : CellsAt wr A cs := by obtain ⟨F, h1, h2, h3, h4, h5, h6⟩ := h; exact h5
theorem LOneC.old (h : LOneC w wr g l D A cs) (hf : Old wr w') : LOneC w w' g l D A cs := by
  obtain ⟨F, h1, h2, h3, h4, h5, h6⟩ := h
  exact ⟨F, h1.old hf, h2, h3.trans' hf, fun d hd => ⟨(h4 d hd).1.old hf, (h4 d hd).2⟩, CellsAt.old h5 hf, h6⟩
theorem LOneC.alloc (h : LOneC w wr g l D A cs) (xs : Array Value) (t : TypeId) : LOneC w (wr.alloc (.cells xs t)) g l ((wr.heap.size, t, xs) :: D) A cs := by
  obtain ⟨F, h1, h2, h3, h4, h5, h6⟩ := h
  refine ⟨F, h1.old ((Old.refl' wr).alloc' _), h2, h3.alloc' _, fun d hd => ?_, CellsAt.alloc h5 _, h6⟩
  rcases List.mem_cons.1 hd with rfl | hd
  · exact ⟨Bk.new wr t xs, fun e => by have := h1.lt _ e; simp only at this; omega⟩
  · exact ⟨(h4 d hd).1.alloc _, (h4 d hd).2⟩
theorem LOneC.com (h : LOneC w wr g l D A cs) (n : Int) (E : Int) (l' : LnV) (hE : (if (l.k : Int) ≤ n ∧ n ≤ l.qs.length then (0 : Int) else 6) = E) (hl : (if (l.k : Int) ≤ n ∧ n ≤ l.qs.length then l.commit n.toNat else l) = l') (hfew : l.qs.length ≤ 50000) :
    Calls Try.prog 17 #[.pointer (some ⟨g, 0, none⟩), .int .i64 n] wr fun e w' => e = .returned (.int .i64 E) ∧ LOneC w w' g l' D A cs := by
  obtain ⟨F, h1, h2, h3, h4, h5, h6⟩ := h
  refine (LCom_at g F l n E l' hE hl hfew wr h1).mono fun e w' ⟨he, hs, hf⟩ => ⟨he, ?_⟩
  obtain ⟨F', a1, a2⟩ := hs
  refine ⟨F', a1, fun k hk => ?_, Old.fr_new h3 hf h2, fun d hd => ⟨(h4 d hd).1.fr hf (h4 d hd).2, fun e => ?_⟩, CellsAt.fr h5 hf h6, fun hcs a ha e => ?_⟩
  · rcases a2 k hk with h | h
    · exact h2 k h
    · exact Nat.le_trans h3.size h
  · rcases a2 _ e with h | h
    · exact (h4 d hd).2 h
    · have := (h4 d hd).1.lt; omega
  · obtain ⟨b, o, rfl, hb, hc⟩ := h5 hcs
    injection ha with ha
    subst ha
    rcases a2 _ e with h | h
    · exact h6 hcs _ rfl h
    · simp only at h; omega
end

def qD : ReqV := ⟨0, 1, 1, 3, 0, { data := #[120] }⟩
def qDr : ReqV := ⟨1, 1, 4, 3, 0, ByteArray.empty⟩
def lD1 : LnV := (LnV.new 5).put qD
def lD2 : LnV := lD1.commit 1
theorem lD_at : (LnV.new 5).at_ qD = 1 := by decide +kernel
theorem lD_err : (LnV.new 5).err qD = 0 := by decide +kernel
theorem lD_len : lD1.qs.length = 1 := by decide +kernel
theorem lD_k : lD1.k = 0 := by decide +kernel
theorem lD_dirty : dirtyL lD1 = [3] := by decide +kernel
theorem lD_E1 : lD1.dE qDr = 4 := by decide +kernel
theorem lD_A1 : lD1.dA qDr = 0 := by decide +kernel
theorem lD_V1 : (lD1.dR qDr).vs.length = 0 := by decide +kernel
theorem lD_C1 : (lD1.dR qDr).code = 0 := by decide +kernel
theorem lD_W1 : (lD1.dR qDr).ver = 0 := by decide +kernel
theorem lD_D1 : (lD1.dR qDr).data = ByteArray.empty := by decide +kernel
theorem lD_E2 : lD2.dE qDr = 0 := by decide +kernel
theorem lD_A2 : lD2.dA qDr = 1 := by decide +kernel
theorem lD_V2 : (lD2.dR qDr).vs.length = 0 := by decide +kernel
theorem lD_C2 : (lD2.dR qDr).code = 1 := by decide +kernel
theorem lD_W2 : (lD2.dR qDr).ver = 1 := by decide +kernel
theorem lD_D2 : (lD2.dR qDr).data = { data := #[120] } := by decide +kernel
theorem lD_cl3 : lD2.clean 3 = true := by decide +kernel
theorem lD_len2 : lD2.qs.length = 1 := lD_len

set_option maxRecDepth 100000 in
set_option maxHeartbeats 4000000 in
theorem told19_any (w : World) : Calls Try.prog 34 #[] w fun e w' => e = .returned (.bool true) ∧ Old w w' := by
  have cP1 := hide (fun (D : Held) (g : Nat) (W : World) (h : LOne w W g (LnV.new 5) D) => h.put 0 rfl (by omega) qD 1 0 lD1 (by rw [lD_at]; rfl) lD_err rfl)
  have cD := hide (fun (D : Held) (g : Nat) (W : World) (h : LOne w W g lD1 D) => h.at_.elim fun F hF => Dirty_ln g F lD1 [3] lD_dirty 1 rfl W hF)
  have cR1 := hide (fun (D : Held) (g : Nat) (W : World) (h : LOne w W g lD1 D) => h.at_.elim fun F hF => by have := DRead_at g F lD1 qDr _ rfl 0 lD_V1 0 4 (by rw [lD_A1]; rfl) lD_E1 (by rw [lD_len]; omega) W hF; rw [lD_C1, lD_W1, lD_D1] at this; exact this)
  have cC1 := hide (fun (D : Held) (g : Nat) (W : World) (h : LOne w W g lD1 D) => h.com 1 0 lD2 (by rw [lD_k, lD_len]; rfl) (by rw [lD_k, lD_len]; rfl) (by rw [lD_len]; omega))
  have cR2 := hide (fun (D : Held) (g : Nat) (W : World) (h : LOne w W g lD2 D) => h.at_.elim fun F hF => by have := DRead_at g F lD2 qDr _ rfl 0 lD_V2 1 0 (by rw [lD_A2]; rfl) lD_E2 (by rw [lD_len2]; omega) W hF; rw [lD_C2, lD_W2, lD_D2] at this; exact this)
  have cK := hide (fun (D : Held) (g : Nat) (W : World) (h : LOne w W g lD2 D) => h.at_.elim fun F hF => Clean_ln g 3 true F lD2 lD_cl3 W hF)
  have cK9 := hide (fun (g : Nat) (W : World) => Clean_out (some ⟨g, 0, none⟩) 99 (.inr (by omega)) W)
  have cKn := hide (fun (W : World) => Clean_out none 3 (.inl rfl) W)
  have cN := hide (LOne.new (D := []) 5 (by omega) (Old.refl' w) (fun d hd => by simp at hd))
  simp only [qD, qDr] at cP1 cR1 cR2
  go_enter Try.func34, Try.ntmps34
  go_wp2_with fail
  refine cN.out.mono ?_
  rintro e w1 ⟨g, rfl, p1, -⟩
  go_wp2_with fail
  refine (cP1.out _ g _ p1).mono ?_
  rintro e w2 ⟨rfl, p2⟩
  clear p1
  go_wp2_with fail
  refine (cD.out _ g _ p2).mono ?_
  rintro e w3 ⟨A3, c3, rfl, i3, ⟨base, hbase, hrow⟩, b3⟩
  obtain ⟨b, o, rfl, hlt, hcell⟩ := i3.at_ (k := 0) (by simp)
  obtain ⟨hbb, cs, hbk⟩ := own_blk hrow (k := b) rfl
  have hcs : cs[o]? = some (.int .i64 3) := (hbk.cell o).symm.trans hcell
  have p3 := (p2.hold b3 hbk (Nat.le_trans hbase hbb)).alloc #[.int .i64 1, .int .i64 1, .int .i64 4, .int .i64 3, .int .i64 0, .string ByteArray.empty] 23
  clear i3 hrow hcell hlt p2 b3
  obtain ⟨⟨x0, x1, x2, x3, x4, x5⟩, l3⟩ := bk6 (p3.held List.mem_cons_self)
  go_wp2_with fail
  refine (cR1.out _ g _ p3).mono ?_
  rintro e w4 ⟨A4, c4, rfl, -, -, b4⟩
  have p4 := (p3.old b4).alloc #[.int .i64 0, .int .i64 0, .string ByteArray.empty, .slice A4 0 c4] 32
  clear x0 x1 x2 x3 x4 x5 l3 p3 b4
  go_wp2_with fail
  refine (cC1.out _ g _ p4).mono ?_
  rintro e w6 ⟨rfl, p6⟩
  obtain ⟨⟨x0, x1, x2, x3, x4, x5⟩, l3⟩ := bk6 (p6.held (List.mem_cons_of_mem _ List.mem_cons_self))
  clear p4
  go_wp2_with fail
  refine (cR2.out _ g _ p6).mono ?_
  rintro e w7 ⟨A7, c7, rfl, -, -, b7⟩
  have p8 := (p6.old b7).alloc #[.int .i64 1, .int .i64 1, .string { data := #[120] }, .slice A7 0 c7] 32
  clear x0 x1 x2 x3 x4 x5 l3 p6 b7
  obtain ⟨⟨y0, y1, y2, y3⟩, -, ly⟩ := bk4 (p8.held List.mem_cons_self)
  have z0 := ((p8.held (List.mem_cons_of_mem _ (List.mem_cons_of_mem _ (List.mem_cons_of_mem _ List.mem_cons_self)))).cell o).trans hcs
  simp only at z0
  go_wp2_with (first
    | (go_at_call 37; (with_reducible refine (cK.out _ g _ p8).mono ?_); rintro e wl ⟨rfl, rfl⟩)
    | (go_at_call 37; (with_reducible refine (cK9.out g _).mono ?_); rintro e wl ⟨rfl, rfl⟩)
    | (go_at_call 37; (with_reducible refine (cKn.out _).mono ?_); rintro e wl ⟨rfl, rfl⟩))
  go_ret
  exact ⟨rfl, p8.o⟩
end Go.Proofs.Ytmhnlpilbbfgnaa
