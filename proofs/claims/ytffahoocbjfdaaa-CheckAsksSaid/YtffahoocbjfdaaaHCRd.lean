/- check.model.read. -/
import Derived.Test.YtffahoocbjfdaaaHCMo
namespace Go.Proofs.Ytffahoocbjfdaaa
open Go.RowKit
def runF (qt id : Int) (log : List ReqV) : StV := log.foldl (fun s x => if x.id = id then s.put x.q else s) (StV.new qt)
theorem runF_snoc (qt id : Int) (log : List ReqV) (x : ReqV) : runF qt id (log ++ [x]) = if x.id = id then (runF qt id log).put x.q else runF qt id log := by simp [runF]
theorem runF_n (qt id : Int) (log : List ReqV) : (runF qt id log).n ≤ log.length := by
  unfold runF
  suffices h : ∀ (l : List ReqV) (s : StV), (l.foldl (fun s x => if x.id = id then s.put x.q else s) s).n ≤ s.n + l.length by
    have := h log (StV.new qt); have e : (StV.new qt).n = 0 := rfl; omega
  intro l
  induction l with
  | nil => intro s; exact Nat.le_refl _
  | cons q l ih =>
    intro s
    have := ih (if q.id = id then s.put q.q else s)
    have h1 := (put_n s q.q).1
    simp only [List.foldl_cons, List.length_cons]
    split at this <;> rename_i hh <;> simp only [hh, if_true, if_false] at * <;> omega
structure RdAt (w wr : World) (g bq bz : Nat) (q : ReqV) (s : StV) : Prop where
  old : Old w wr
  kq : Bk wr bq 24 #[.int .i64 q.client, .int .i64 q.seq, .int .i64 q.kind, .int .i64 q.id, .int .i64 q.mat, .string q.data]
  kz : Bk wr bz 43 #[.int .i64 0, .int .i64 0, .string { data := #[] }, .slice none 0 0]
  st : ∃ F, StAt wr g F s ∧ ∀ j, F j → w.heap.size ≤ j ∧ j ≠ bq ∧ j ≠ bz
theorem RdAt.put {w wr w' : World} {g bq bz : Nat} {q : ReqV} {s s' : StV} {F : Nat → Prop} (h : RdAt w wr g bq bz q s) (hs : StAt wr g F s) (hF : ∀ j, F j → w.heap.size ≤ j ∧ j ≠ bq ∧ j ≠ bz) {wa : World} (ha : Old wr wa) (hs' : ∃ F', StAt w' g F' s' ∧ ∀ j, F' j → F j ∨ wa.heap.size ≤ j) (hf : Fr F wa w') : RdAt w w' g bq bz q s' := by
  obtain ⟨F', h1, h2⟩ := hs'
  have l1 := h.kq.lt
  have l2 := h.kz.lt
  have l3 := ha.size
  have l4 := h.old.size
  refine ⟨(h.old.trans' ha).fr_new hf (fun j hj => (hF j hj).1), (h.kq.old ha).fr hf (fun e => (hF _ e).2.1 rfl), (h.kz.old ha).fr hf (fun e => (hF _ e).2.2 rfl), F', h1, fun j hj => ?_⟩
  rcases h2 j hj with h3 | h3
  · exact hF j h3
  · refine ⟨?_, ?_, ?_⟩ <;> omega
theorem RdAt.old' {w wr w' : World} {g bq bz : Nat} {q : ReqV} {s : StV} (h : RdAt w wr g bq bz q s) (ha : Old wr w') : RdAt w w' g bq bz q s := by
  obtain ⟨h1, h2, h3, F, h4, h5⟩ := h
  exact ⟨h1.trans' ha, h2.old ha, h3.old ha, F, h4.old ha, h5⟩
set_option maxRecDepth 100000 in
set_option maxHeartbeats 4000000 in
theorem Read_any (m : Nat) (A : Option Addr) (n cap : Nat) (log : List ReqV) (hl : n = log.length) (hn : n ≤ 1000) (hcap : n ≤ cap) (qt : Int) (hq : 1 ≤ qt ∧ qt ≤ 100) (V : Value) (kk : Nat) (q : ReqV) (N : Nat) (hN : N ≤ n) (R : Rep) (hR : (runF qt q.id (log.take N)).ask q.q = R) (nR : Nat) (hnR : R.vs.length = nR)
    (w : World) (hM : MdAt w m A n cap qt log V kk) (hQ : ReqsAt w A log) :
    Calls Try.prog 42 #[.pointer (some ⟨m, 0, none⟩), .agg #[.int .i64 q.client, .int .i64 q.seq, .int .i64 q.kind, .int .i64 q.id, .int .i64 q.mat, .string q.data], .int .i64 N] w fun e w' => ∃ A' c, e = .returned (.agg #[.int .i64 R.code, .int .i64 R.ver, .string R.data, .slice A' nR c]) ∧ IntsAt w' A' R.vs ∧ Old w w' := by
  have HL := hide hl
  have HR := hide hR
  have HNR := hide hnR
  have hNi : (N : Int) ≤ n := by omega
  have hNc : (N : Int) ≤ cap := by omega
  have hNc2 : N ≤ cap := by omega
  have hN0 : (0 : Int) ≤ N := by omega
  have o0 : Old w ((w.alloc (.cells #[.int .i64 q.client, .int .i64 q.seq, .int .i64 q.kind, .int .i64 q.id, .int .i64 q.mat, .string q.data] 24)).alloc (.cells #[.int .i64 0, .int .i64 0, .string { data := #[] }, .slice none 0 0] 43)) := ((Old.refl' w).alloc' _).alloc' _
  obtain ⟨⟨m0, m1, m2⟩, ml⟩ := bk3 (hM.bk.old o0)
  have kq0 := (Bk.new w 24 #[.int .i64 q.client, .int .i64 q.seq, .int .i64 q.kind, .int .i64 q.id, .int .i64 q.mat, .string q.data]).alloc (.cells #[.int .i64 0, .int .i64 0, .string { data := #[] }, .slice none 0 0] 43)
  have kz0 := Bk.new (w.alloc (.cells #[.int .i64 q.client, .int .i64 q.seq, .int .i64 q.kind, .int .i64 q.id, .int .i64 q.mat, .string q.data] 24)) 43 #[.int .i64 0, .int .i64 0, .string { data := #[] }, .slice none 0 0]
  simp only [World.size_alloc] at kz0
  obtain ⟨W0, hW0⟩ : ∃ W, (w.alloc (.cells #[.int .i64 q.client, .int .i64 q.seq, .int .i64 q.kind, .int .i64 q.id, .int .i64 q.mat, .string q.data] 24)).alloc (.cells #[.int .i64 0, .int .i64 0, .string { data := #[] }, .slice none 0 0] 43) = W := ⟨_, rfl⟩
  rw [hW0] at o0 m0 m1 m2 ml kq0 kz0
  have cN := hide (New_st qt hq W0)
  have hM0 := hM.bk
  clear hl hR hnR hM
  go_enter Try.func42, Try.ntmps42
  go_wp2_with (go_at_call 34; refine cN.out.mono ?_; rintro e w1 ⟨rfl, hSt, hb1⟩; obtain ⟨⟨x0, x1, x2⟩, xl⟩ := bk3 (hM0.old (o0.trans' hb1)))
  obtain ⟨bq, hbq⟩ : ∃ x, w.heap.size = x := ⟨_, rfl⟩
  obtain ⟨g, hg⟩ : ∃ x, W0.heap.size = x := ⟨_, rfl⟩
  have hz : W0.heap.size = w.heap.size + 2 := by rw [← hW0]; simp
  have h0 : RdAt w w1 g bq (bq + 1) q (runF qt q.id (log.take 0)) := ⟨o0.trans' hb1, hbq ▸ kq0.old hb1, hbq ▸ kz0.old hb1, _, hg ▸ hSt, fun j hj => by
    have hj : j = g := by first | exact hj | (rw [← hg]; exact hj)
    refine ⟨?_, ?_, ?_⟩ <;> omega⟩
  have HBQ := hide hbq
  simp only [hbq, hg]
  clear m0 m1 m2 ml kq0 kz0 hW0 cN hM0 x0 x1 x2 xl hSt hb1 hbq hg hz o0
  go_loopw [28] (fun i wr => ∃ k : Nat, k ≤ N ∧ i = .int .i64 k ∧ RdAt w wr g bq (bq + 1) q (runF qt q.id (log.take k))) (fun i _ => N - (intOf i).toNat)
  case atStart => exact ⟨0, by omega, rfl, h0⟩
  case round =>
    obtain ⟨k, hk, rfl, hRd⟩ := hrel
    clear h0
    obtain ⟨F, hSt, hF⟩ := hRd.st
    obtain ⟨⟨q0, q1, q2, q3, q4, q5⟩, ql⟩ := bk6 hRd.kq
    obtain ⟨st, hst⟩ : ∃ s, runF qt q.id (log.take k) = s := ⟨_, rfl⟩
    rw [hst] at hRd hSt
    have hstn : st.n ≤ 50000 := by have := runF_n qt q.id (log.take k); rw [hst, List.length_take] at this; omega
    have HST := hide hst
    clear hst
    by_cases hlt : k < N
    · have hkq : k < log.length := by have := HL.out; omega
      obtain ⟨b0, o, rfl, hb0, hc⟩ := hQ.at5 (k := k) hkq
      obtain ⟨x, hx⟩ : ∃ x, log[k]?.getD default = x := ⟨_, rfl⟩
      rw [hx] at hc
      have hbel := hRd.old
      have c0 := (hbel.cell (p := ⟨b0, o + k * 6, none⟩) hb0).trans (hc 0 _ (by omega) rfl)
      have c1 := (hbel.cell (p := ⟨b0, o + k * 6 + 1, none⟩) hb0).trans (hc 1 _ (by omega) rfl)
      have c2 := (hbel.cell (p := ⟨b0, o + k * 6 + 2, none⟩) hb0).trans (hc 2 _ (by omega) rfl)
      have c3 := (hbel.cell (p := ⟨b0, o + k * 6 + 3, none⟩) hb0).trans (hc 3 _ (by omega) rfl)
      have c4 := (hbel.cell (p := ⟨b0, o + k * 6 + 4, none⟩) hb0).trans (hc 4 _ (by omega) rfl)
      have c5 := (hbel.cell (p := ⟨b0, o + k * 6 + 5, none⟩) hb0).trans (hc 5 _ (by omega) rfl)
      have hb01 : b0 < wr.heap.size := Nat.lt_of_lt_of_le hb0 hbel.size
      have hxx : log[k] = x := by rw [List.getElem?_eq_getElem hkq] at hx; simpa using hx
      have HX := hide hxx
      obtain ⟨WA, hWA⟩ : ∃ W, wr.alloc (.cells #[.int .i64 x.client, .int .i64 x.seq, .int .i64 x.kind, .int .i64 x.id, .int .i64 x.mat, .string x.data] 24) = W := ⟨_, rfl⟩
      have hOA : Old wr WA := by rw [← hWA]; exact (Old.refl' wr).alloc' _
      have kA : Bk WA wr.heap.size 24 #[.int .i64 x.client, .int .i64 x.seq, .int .i64 x.kind, .int .i64 x.id, .int .i64 x.mat, .string x.data] := by rw [← hWA]; exact Bk.new wr 24 _
      obtain ⟨⟨x0, x1, x2, x3, x4, x5⟩, xl⟩ := bk6 kA
      have q3' := (hOA.cell (p := ⟨bq, 3, none⟩) ql).trans q3
      have ql' : bq < WA.heap.size := Nat.lt_of_lt_of_le ql hOA.size
      have cP := hide (Put_at g F st x.q _ _ _ _ _ rfl rfl rfl rfl rfl hstn WA (hSt.old hOA))
      have HRD := hide hRd
      have HOA := hide hOA
      have HF := hide hF
      have HSTT := hide hSt
      clear hx hc hRd hbel hOA kA hSt hF q0 q1 q2 q3 q4 q5 ql
      by_cases hid : x.id = q.id
      · have E1 : (x.id == q.id) = true := by simpa using hid
        have HID := hide hid
        clear hid
        go_wp2_with (go_at_call 35; refine cP.out.mono ?_; rintro e w2 ⟨⟨Ar, cr, rfl⟩, hF2, hfr⟩)
        go_roundw
        case rel => exact ⟨k + 1, by omega, by go_num, by rw [List.take_succ_eq_append_getElem hkq, runF_snoc, HX.out, if_pos HID.out, HST.out]; exact HRD.out.put HSTT.out HF.out HOA.out hF2 hfr⟩
        case measure => simp [intOf]; omega
      · have E1 : (x.id == q.id) = false := by simpa using hid
        go_wp2
        go_roundw
        case rel => exact ⟨k + 1, by omega, by go_num, by rw [List.take_succ_eq_append_getElem hkq, runF_snoc, HX.out, if_neg hid, HST.out]; exact HRD.out.old' HOA.out⟩
        case measure => simp [intOf]; omega
    · obtain rfl : k = N := by omega
      have hR : st.ask q.q = R := by rw [← HST.out]; exact HR.out
      have cA := hide (by have := Ask_stN g F st q.q hstn nR (by rw [hR]; exact HNR.out) wr hSt; rw [hR] at this; exact this : Calls Try.prog 53 #[.pointer (some ⟨g, 0, none⟩), .agg #[.int .i64 q.client, .int .i64 q.seq, .int .i64 q.kind, .int .i64 q.id, .int .i64 q.mat, .string q.data]] wr _)
      obtain ⟨ea, hea⟩ : ∃ e : Int, (if askOk q.q then 0 else 1) = e := ⟨_, rfl⟩
      rw [hea] at cA
      clear hea
      have hold := hRd.old
      have hkz := hRd.kz
      have hbq2 := HBQ.out
      clear hRd hSt hF
      go_wp2_with (go_at_call 53; refine cA.out.mono ?_; rintro e w2 ⟨A', c, rfl, hI, hnw, h2⟩; have kz2 := (hkz.old h2).alloc (.cells #[.int .i64 R.code, .int .i64 R.ver, .string R.data, .slice A' nR c] 43); obtain ⟨⟨z0, z1, z2, z3⟩, ⟨zf0, zf1, zf2, zf3⟩, zl⟩ := bk4 kz2)
      have hne : ∀ a, A' = some a → a.block ≠ bq + 1 := fun a ha => by have := hnw a ha; have := hkz.lt; omega
      refine bodyPost_ret (v := .agg #[.int .i64 R.code, .int .i64 R.ver, .string R.data, .slice A' nR c]) ?_ rfl ⟨A', c, rfl, ?_, ?_⟩
      · simp [results, Try.results42, go_sem, z0, z1, z2, z3]
      · exact (((CellsAt.alloc hI _).set_ (p := ⟨bq + 1, 0, none⟩) hne _ |>.set_ (p := ⟨bq + 1, 1, none⟩) hne _).set_ (p := ⟨bq + 1, 2, none⟩) hne _).set_ (p := ⟨bq + 1, 3, none⟩) hne _
      · exact Old.setCell' (Old.setCell' (Old.setCell' (Old.setCell' ((hold.trans' h2).alloc' _) (show w.heap.size ≤ bq + 1 by omega) _) (show w.heap.size ≤ bq + 1 by omega) _) (show w.heap.size ≤ bq + 1 by omega) _) (show w.heap.size ≤ bq + 1 by omega) _
end Go.Proofs.Ytffahoocbjfdaaa
