/- check.newModel. -/
import Derived.Test.YtffahoocbjfdaaaHCPl
namespace Go.Proofs.Ytffahoocbjfdaaa
open Go.RowKit
def okLog (qt : Int) (log : List ReqV) : Bool := decide (1 ≤ qt) && decide (qt ≤ 100) && (List.range log.length).all fun i => decide ((runS qt (log.take i)).err (log[i]?.getD default).q = 0)
def repsN (qt : Int) (log : List ReqV) (k : Nat) : List Rep := (List.range k).map fun i => (runS qt (log.take i)).rep (log[i]?.getD default).q
theorem repsN_succ (qt : Int) (log : List ReqV) (k : Nat) : repsN qt log (k + 1) = repsN qt log k ++ [(runS qt (log.take k)).rep (log[k]?.getD default).q] := by simp [repsN, List.range_succ]
def repCells (r : Rep × Option Addr × Nat) : List Value := [.int .i64 r.1.code, .int .i64 r.1.ver, .string r.1.data, .slice r.2.1 0 r.2.2]
structure MdAt (w : World) (m : Nat) (A : Option Addr) (n cap : Nat) (qt : Int) (log : List ReqV) (V : Value) (k : Nat) : Prop where
  bk : Bk w m 84 #[.slice A n cap, .int .i64 qt, V]
  row : ∃ rs : List (Rep × Option Addr × Nat), w.ownsRow 0 43 4 V k (rs.flatMap repCells) ∧ rs.map Prod.fst = repsN qt log k
theorem MdAt.fr {w w' : World} {m : Nat} {A : Option Addr} {n cap : Nat} {qt : Int} {log : List ReqV} {V : Value} {k : Nat} {S : Nat → Prop} (h : MdAt w m A n cap qt log V k) (hf : Fr S w w') (hm : ¬ S m) (hv : ∀ b, V.ownBlock = some b → ¬ S b) : MdAt w' m A n cap qt log V k := by
  obtain ⟨h1, rs, h2, h3⟩ := h
  exact ⟨h1.fr hf hm, rs, own_fr h2 hf hv, h3⟩
theorem MdAt.old {w w' : World} {m : Nat} {A : Option Addr} {n cap : Nat} {qt : Int} {log : List ReqV} {V : Value} {k : Nat} (h : MdAt w m A n cap qt log V k) (hf : Old w w') : MdAt w' m A n cap qt log V k := h.fr (S := fun _ => False) (Fr.of_old hf) id (fun _ _ => id)
theorem bk3 {w : World} {b : Nat} {t : TypeId} {u0 u1 u2 : Value} (h : Bk w b t #[u0, u1, u2]) : (w.cell? ⟨b, 0, none⟩ = some u0 ∧ w.cell? ⟨b, 1, none⟩ = some u1 ∧ w.cell? ⟨b, 2, none⟩ = some u2) ∧ b < w.heap.size := ⟨⟨h.cell 0, h.cell 1, h.cell 2⟩, h.lt⟩
theorem okLog_bad {qt : Int} {log : List ReqV} {k : Nat} (hk : k < log.length) (h : (runS qt (log.take k)).err (log[k]?.getD default).q ≠ 0) : okLog qt log = false := by
  unfold okLog
  rw [Bool.and_eq_false_iff]
  right
  rw [List.all_eq_false]
  exact ⟨k, by simpa using hk, by simpa using h⟩
theorem info_Rep : (Try.prog.info? 43).map (fun i => (i.zero, i.size, i.bytes)) = some (some (.agg #[.int .i64 0, .int .i64 0, .string { data := #[] }, .slice none 0 0]), 4, 56) := by kernel_rfl
set_option maxRecDepth 100000 in
set_option maxHeartbeats 2000000 in
theorem NewModel_bad (A : Option Addr) (n cap : Nat) (log : List ReqV) (hl : n = log.length) (hn : n ≤ 1000) (qt : Int) (hq : ¬ (1 ≤ qt ∧ qt ≤ 100)) (w : World) (hQ : ReqsAt w A log) :
    Calls Try.prog 23 #[.slice A n cap, .int .i64 qt] w fun e w' => ∃ P, e = .returned (.tuple #[.pointer P, .bool false]) ∧ Old w w' := by
  have cN := hide (New_no qt hq w)
  have hWW : Old w (w.alloc (.cells #[.slice A n cap, .int .i64 qt, .slice none 0 0] 84)) := (Old.refl' w).alloc' _
  cases n with
  | zero =>
    clear hl hq hQ
    go_enter Try.func23, Try.ntmps23
    go_wp2_with (go_at_call 34; refine cN.out.mono ?_; rintro e w1 ⟨rfl, rfl⟩)
    go_loopw [7, 24] (fun e i wr => e = .int .i64 1 ∧ i = .int .i64 0 ∧ wr = w.alloc (.cells #[.slice A 0 cap, .int .i64 qt, .slice none 0 0] 84)) (fun _ _ _ => 0)
    case atStart => exact ⟨rfl, rfl, rfl⟩
    case round =>
      obtain ⟨rfl, rfl, rfl⟩ := hrel
      go_wp2
      go_ret2
      exact ⟨_, rfl, hWW⟩
  | succ n =>
    obtain ⟨b0, o, rfl, hb0, hc⟩ := hQ.at5 (k := 0) (by omega)
    obtain ⟨x, hx⟩ : ∃ x, log[0]?.getD default = x := ⟨_, rfl⟩
    rw [hx] at hc
    have c0 := hWW.cell (p := ⟨b0, o, none⟩) hb0 |>.trans (by simpa using hc 0 _ (by omega) rfl)
    have c1 := (hWW.cell (p := ⟨b0, o + 1, none⟩) hb0).trans (by simpa using hc 1 _ (by omega) rfl)
    have c2 := (hWW.cell (p := ⟨b0, o + 2, none⟩) hb0).trans (by simpa using hc 2 _ (by omega) rfl)
    have c3 := (hWW.cell (p := ⟨b0, o + 3, none⟩) hb0).trans (by simpa using hc 3 _ (by omega) rfl)
    have c4 := (hWW.cell (p := ⟨b0, o + 4, none⟩) hb0).trans (by simpa using hc 4 _ (by omega) rfl)
    have c5 := (hWW.cell (p := ⟨b0, o + 5, none⟩) hb0).trans (by simpa using hc 5 _ (by omega) rfl)
    have hb1 : b0 < (w.alloc (.cells #[.slice (some ⟨b0, o, none⟩) (n + 1) cap, .int .i64 qt, .slice none 0 0] 84)).heap.size := Nat.lt_of_lt_of_le hb0 hWW.size
    have cP := hide (fun (W : World) => (Put_arg none x.q (fun h => absurd rfl h) W : Calls Try.prog 35 #[.pointer none, .agg #[.int .i64 x.client, .int .i64 x.seq, .int .i64 x.kind, .int .i64 x.id, .int .i64 x.mat, .string x.data]] W _))
    clear hx hc hl hq hQ
    generalize hWX : w.alloc (.cells #[.slice (some ⟨b0, o, none⟩) (n + 1) cap, .int .i64 qt, .slice none 0 0] 84) = WX at *
    go_enter Try.func23, Try.ntmps23
    go_wp2_with (go_at_call 34; refine cN.out.mono ?_; rintro e w1 ⟨rfl, rfl⟩)
    go_loopw [7, 24] (fun e i wr => e = .int .i64 1 ∧ i = .int .i64 0 ∧ wr = WX) (fun _ _ _ => 0)
    case atStart => exact ⟨rfl, rfl, rfl⟩
    case round =>
      obtain ⟨rfl, rfl, rfl⟩ := hrel
      have hn1 : (0 : Int) < ((n + 1 : Nat) : Int) := by omega
      go_wp2_with (go_at_call 35; refine (cP.out _).mono ?_; rintro e w2 ⟨rfl, h2⟩)
      go_ret2
      exact ⟨_, rfl, (hWW.trans' ((Old.refl' _).alloc' _ |>.trans' h2)).alloc' _⟩
theorem bk_app {w w1 W2 : World} {p off n ca c2 size : Nat} {t E : TypeId} {cs : Array Value} {A A2 : Option Addr} {xs ys : List Value} (hb : Bk w p t cs) (hr : w.ownsRow 0 E size (.slice A n ca) n xs) (hne : (Value.slice A n ca).ownBlock ≠ some p) (ho : Old w w1)
    (h2 : Apps w1 0 E size (.slice A n ca) (n + 1) ys (.slice A2 (n + 1) c2) W2) :
    Bk (W2.setCell ⟨p, off, none⟩ (.slice A2 (n + 1) c2)) p t (cs.setIfInBounds off (.slice A2 (n + 1) c2)) ∧ (W2.setCell ⟨p, off, none⟩ (.slice A2 (n + 1) c2)).ownsRow 0 E size (.slice A2 (n + 1) c2) (n + 1) ys ∧
    Fr (fun b => b = p ∨ (Value.slice A n ca).ownBlock = some b) w (W2.setCell ⟨p, off, none⟩ (.slice A2 (n + 1) c2)) ∧
    (∀ b, (Value.slice A2 (n + 1) c2).ownBlock = some b → (Value.slice A n ca).ownBlock = some b ∨ w.heap.size ≤ b) := by
  have hs := ho.size
  have hp := hb.lt
  have hf : Fr (fun b => (Value.slice A n ca).ownBlock = some b) w1 W2 := h2.fr (fun k _ hk => hk)
  have hv2 : ∀ b, (Value.slice A2 (n + 1) c2).ownBlock = some b → (Value.slice A n ca).ownBlock = some b ∨ w1.heap.size = b := fun b hb => by
    rcases h2.2.2 with e | e
    · exact .inl (e ▸ hb)
    · rw [hb] at e; injection e with e; exact .inr e.symm
  refine ⟨((hb.old ho).fr hf hne).set_ off _, own_set h2.own (fun e => ?_) _, ?_, fun b hb => ?_⟩
  · rcases hv2 _ e with e | e
    · exact hne e
    · have : w1.heap.size = p := e
      omega
  · exact Fr.setCell (p := ⟨p, off, none⟩) ((Fr.of_old ho).trans (hf.mono fun k _ hk => .inr hk)) (.inr (.inl rfl)) _
  · rcases hv2 b hb with e | e
    · exact .inl e
    · right; omega
theorem rep_vs (st : StV) (q : Q) : (st.rep q).vs = [] := by
  unfold StV.rep
  split
  · rename_i h
    unfold StV.may at h
    simp only [Bool.and_eq_true] at h
    exact doRep_vs h.1.2
  · rfl
structure NmAt (w wr : World) (g m : Nat) (A : Option Addr) (n cap : Nat) (qt : Int) (log : List ReqV) (k : Nat) : Prop where
  old : Old w wr
  md : ∃ V F, MdAt wr m A n cap qt log V k ∧ StAt wr g F (runS qt (log.take k)) ∧ (∀ j, F j → w.heap.size ≤ j ∧ j ≠ m ∧ V.ownBlock ≠ some j) ∧ ∀ j, V.ownBlock = some j → w.heap.size ≤ j
  ok : ∀ i, i < k → (runS qt (log.take i)).err (log[i]?.getD default).q = 0
set_option maxRecDepth 100000 in
set_option maxHeartbeats 4000000 in
theorem NewModel_good (A : Option Addr) (n cap : Nat) (log : List ReqV) (hl : n = log.length) (hn : n ≤ 1000) (qt : Int) (hq : 1 ≤ qt ∧ qt ≤ 100) (b : Bool) (hb : okLog qt log = b) (w : World) (hQ : ReqsAt w A log) :
    Calls Try.prog 23 #[.slice A n cap, .int .i64 qt] w fun e w' => ∃ P, e = .returned (.tuple #[.pointer P, .bool b]) ∧ Old w w' ∧ (b = true → ∃ m V, P = some ⟨m, 0, none⟩ ∧ MdAt w' m A n cap qt log V n) := by
  obtain ⟨j0, hj0, hj00, hj01, hj02⟩ := info_parts info_Rep
  have cN := hide (New_st qt hq w)
  have HL := hide hl
  have HB := hide hb
  have HQT := hide hq
  clear hl hb hq
  go_enter Try.func23, Try.ntmps23
  go_wp2_with (go_at_call 34; refine cN.out.mono ?_; rintro e w1 ⟨rfl, hSt, hb1⟩)
  obtain ⟨g, hg⟩ : ∃ x, w.heap.size = x := ⟨_, rfl⟩
  obtain ⟨m, hm⟩ : ∃ x, w1.heap.size = x := ⟨_, rfl⟩
  have HG := hide hg
  have hgm : g < m := by have := hSt.lt w.heap.size rfl; omega
  have h0 : NmAt w (w1.alloc (.cells #[.slice A n cap, .int .i64 qt, .slice none 0 0] 84)) g m A n cap qt log 0 := by
    refine ⟨hb1.alloc' _, ⟨.slice none 0 0, _, ⟨hm ▸ Bk.new w1 84 _, [], World.ownsRow_nil _ _ _ _, rfl⟩, hg ▸ hSt.old ((Old.refl' _).alloc' _), fun j hj => ?_, fun j hj => by simp [Value.ownBlock] at hj⟩, fun i hi => absurd hi (by omega)⟩
    have hj : j = g := by first | exact hj | (rw [← hg]; exact hj)
    exact ⟨by omega, by omega, by simp [Value.ownBlock]⟩
  simp only [hg, hm]
  clear hSt hg hm hb1
  go_loopw [7, 24] (fun e i wr => ∃ k : Nat, k ≤ n ∧ i = .int .i64 k ∧ e = .int .i64 0 ∧ NmAt w wr g m A n cap qt log k) (fun _ i _ => n - (intOf i).toNat)
  case atStart => exact ⟨0, by omega, rfl, rfl, h0⟩
  case round =>
    obtain ⟨k, hk, rfl, rfl, hN⟩ := hrel
    clear h0
    by_cases hlt : k < n
    · have hkq : k < log.length := by have := HL.out; omega
      obtain ⟨b0, o, rfl, hb0, hc⟩ := hQ.at5 (k := k) hkq
      obtain ⟨x, hx⟩ : ∃ x, log[k]?.getD default = x := ⟨_, rfl⟩
      rw [hx] at hc
      have hbel := hN.old
      have c0 := (hbel.cell (p := ⟨b0, o + k * 6, none⟩) hb0).trans (hc 0 _ (by omega) rfl)
      have c1 := (hbel.cell (p := ⟨b0, o + k * 6 + 1, none⟩) hb0).trans (hc 1 _ (by omega) rfl)
      have c2 := (hbel.cell (p := ⟨b0, o + k * 6 + 2, none⟩) hb0).trans (hc 2 _ (by omega) rfl)
      have c3 := (hbel.cell (p := ⟨b0, o + k * 6 + 3, none⟩) hb0).trans (hc 3 _ (by omega) rfl)
      have c4 := (hbel.cell (p := ⟨b0, o + k * 6 + 4, none⟩) hb0).trans (hc 4 _ (by omega) rfl)
      have c5 := (hbel.cell (p := ⟨b0, o + k * 6 + 5, none⟩) hb0).trans (hc 5 _ (by omega) rfl)
      have hb01 : b0 < wr.heap.size := Nat.lt_of_lt_of_le hb0 hbel.size
      have HX := hide hx
      clear hx hc
      obtain ⟨V, F, hMd, hSt, hF, hVn⟩ := hN.md
      have hOK := hN.ok
      obtain ⟨st, hst⟩ : ∃ s, runS qt (log.take k) = s := ⟨_, rfl⟩
      rw [hst] at hSt
      have hstn : st.n ≤ 50000 := by have := (runS_ok qt (log.take k)).2.1; rw [hst, List.length_take] at this; omega
      obtain ⟨bK, rs, hrow, hrs⟩ := hMd
      obtain ⟨VA, vc, rfl, -, -⟩ := own_form hrow
      obtain ⟨WA, hWA⟩ : ∃ W, wr.alloc (.cells #[.int .i64 x.client, .int .i64 x.seq, .int .i64 x.kind, .int .i64 x.id, .int .i64 x.mat, .string x.data] 24) = W := ⟨_, rfl⟩
      have hOA : Old wr WA := by rw [← hWA]; exact (Old.refl' wr).alloc' _
      have kA : Bk WA wr.heap.size 24 #[.int .i64 x.client, .int .i64 x.seq, .int .i64 x.kind, .int .i64 x.id, .int .i64 x.mat, .string x.data] := by rw [← hWA]; exact Bk.new wr 24 _
      obtain ⟨⟨x0, x1, x2, x3, x4, x5⟩, xl⟩ := bk6 kA
      obtain ⟨E, hE⟩ : ∃ E, st.err x.q = E := ⟨_, rfl⟩
      obtain ⟨c0', hc0⟩ : ∃ c, (st.rep x.q).code = c := ⟨_, rfl⟩
      obtain ⟨v0, hv0⟩ : ∃ c, (st.rep x.q).ver = c := ⟨_, rfl⟩
      obtain ⟨d0, hd0⟩ : ∃ c, (st.rep x.q).data = c := ⟨_, rfl⟩
      have cP := hide (Put_at g F st x.q c0' v0 E d0 _ hc0 hv0 hd0 hE rfl hstn WA (hSt.old hOA))
      have hE3 : E = 0 ∨ E = 1 ∨ E = 9 := by
        rw [← hE]; unfold StV.err
        split
        · split
          · exact .inl rfl
          · exact .inr (.inr rfl)
        · exact .inr (.inl rfl)
      have HE := hide hE
      have HST := hide hst
      have hrep : st.rep x.q = ⟨c0', v0, d0, []⟩ := by
        rw [← hc0, ← hv0, ← hd0]
        have := rep_vs st x.q
        cases hr : st.rep x.q
        rw [hr] at this
        simp only at this
        rw [this]
      have HREP := hide hrep
      have hmS : ¬ F m := fun h => (hF m h).2.1 rfl
      have hVS : ∀ b, (Value.slice VA k vc).ownBlock = some b → ¬ F b := fun b hb h => (hF b h).2.2 hb
      have hwm : w.heap.size ≤ m := by have := HG.out; omega
      have hFN := hide (fun j (h : F j) => (hF j h).1)
      have HFF := hide hF
      have HVN := hide hVn
      have HOK := hide hOK
      have HOA := hide hOA
      have HBEL := hide hbel
      have HROW := hide hrow
      have HBK := hide bK
      have HRS := hide hrs
      have HMS := hide hmS
      have HVS := hide hVS
      have hml := bK.lt
      clear hN hSt hst hE hc0 hv0 hd0 hrep hF hVn hOK hmS hVS hbel hrow bK hrs hOA kA
      rcases hE3 with rfl | hE3
      · -- put
        have PRE : ∀ (A' : Option Addr) (c' : Nat) (w2 : World), (∃ F', StAt w2 g F' (st.put x.q) ∧ ∀ j, F' j → F j ∨ WA.heap.size ≤ j) → Fr F WA w2 → ∀ (W9 : World) (A3 : Option Addr) (c3 : Nat),
            Bk W9 m 84 ((#[.slice (some ⟨b0, o, none⟩) n cap, .int .i64 qt, .slice VA k vc] : Array Value).setIfInBounds 2 (.slice A3 (k + 1) c3)) → W9.ownsRow 0 43 4 (.slice A3 (k + 1) c3) (k + 1) (rs.flatMap repCells ++ [.int .i64 c0', .int .i64 v0, .string d0, .slice A' 0 c']) →
            Fr (fun b => b = m ∨ (Value.slice VA k vc).ownBlock = some b) (w2.alloc (.cells #[.int .i64 c0', .int .i64 v0, .string d0, .slice A' 0 c'] 43)).drew W9 →
            (∀ b, (Value.slice A3 (k + 1) c3).ownBlock = some b → (Value.slice VA k vc).ownBlock = some b ∨ (w2.alloc (.cells #[.int .i64 c0', .int .i64 v0, .string d0, .slice A' 0 c'] 43)).drew.heap.size ≤ b) →
            NmAt w W9 g m (some ⟨b0, o, none⟩) n cap qt log (k + 1) := fun A' c' w2 ⟨F', hS', hF'⟩ hfr W9 A3 c3 hb9 hr9 hf9 hn9 => by
          have h2z : WA.heap.size ≤ w2.heap.size := hfr.size
          have hwz := HOA.out.size
          have o2 : Old w w2 := (HBEL.out.trans' HOA.out).fr_new hfr (fun j hj => hFN.out j hj)
          have oD : Old w2 (w2.alloc (.cells #[.int .i64 c0', .int .i64 v0, .string d0, .slice A' 0 c'] 43)).drew := ((Old.refl' w2).alloc' _).drew'
          have hDz := oD.size
          have hvl : ∀ b, (Value.slice VA k vc).ownBlock = some b → b < wr.heap.size := fun b hb => own_lt8 HROW.out hb
          refine ⟨(o2.trans' oD).fr_new hf9 (fun j hj => ?_), ⟨_, F', ⟨by simpa using hb9, rs ++ [(⟨c0', v0, d0, []⟩, A', c')], by rw [List.flatMap_append]; simpa [repCells] using hr9, ?_⟩, ?_, fun j hj => ?_, fun j hj => ?_⟩, fun i hi => ?_⟩
          · rcases hj with rfl | hj
            · exact hwm
            · exact HVN.out j hj
          · rw [List.map_append, HRS.out, repsN_succ, HST.out, HX.out, HREP.out]; rfl
          · rw [List.take_succ_eq_append_getElem hkq, runS_snoc, HST.out]
            have e : log[k] = x := by have := HX.out; rw [List.getElem?_eq_getElem hkq] at this; simpa using this
            rw [e]
            refine (hS'.old oD).fr hf9 (fun j hj hs => ?_)
            have h1 := hS'.lt j hj
            rcases hF' j hj with h | h
            · rcases hs with rfl | hs
              · exact HMS.out h
              · exact HVS.out j hs h
            · rcases hs with rfl | hs
              · omega
              · have := hvl j hs; omega
          · have h1 := hS'.lt j hj
            refine ⟨?_, ?_, fun hs => ?_⟩
            · rcases hF' j hj with h | h
              · exact hFN.out j h
              · have := HBEL.out.size; omega
            · rintro rfl
              rcases hF' j hj with h | h
              · exact HMS.out h
              · omega
            · rcases hn9 j hs with h2 | h2
              · rcases hF' j hj with h | h
                · exact HVS.out j h2 h
                · have := hvl j h2; omega
              · omega
          · rcases hn9 j hj with h2 | h2
            · exact HVN.out j h2
            · have := o2.size; omega
          · by_cases e : i < k
            · exact HOK.out i e
            · obtain rfl : i = k := by omega
              rw [HST.out, HX.out]; exact HE.out
        have PRE := hide PRE
        go_upto_region 10 with (go_at_call 35; refine cP.out.mono ?_; rintro e w2 ⟨⟨Ar, cr, rfl⟩, hF2, hfr⟩)
        have END := hide (PRE.out Ar cr w2 hF2 hfr)
        have hB2 : Bk w2 m 84 #[.slice (some ⟨b0, o, none⟩) n cap, .int .i64 qt, .slice VA k vc] := (HBK.out.old HOA.out).fr hfr HMS.out
        have hR2 := own_fr (own_old HROW.out HOA.out) hfr HVS.out
        have oD : Old w2 (w2.alloc (.cells #[.int .i64 c0', .int .i64 v0, .string d0, .slice Ar 0 cr] 43)).drew := ((Old.refl' w2).alloc' _).drew'
        have kR : Bk (w2.alloc (.cells #[.int .i64 c0', .int .i64 v0, .string d0, .slice Ar 0 cr] 43)).drew w2.heap.size 43 #[.int .i64 c0', .int .i64 v0, .string d0, .slice Ar 0 cr] := (Bk.new w2 43 _).drew
        obtain ⟨br, hbr⟩ : ∃ x, w2.heap.size = x := ⟨_, rfl⟩
        rw [hbr] at kR
        obtain ⟨xs, hxs⟩ : ∃ x, rs.flatMap repCells = x := ⟨_, rfl⟩
        rw [hxs] at END hR2
        have bkX := hB2.old oD
        have ownX := own_old hR2 oD
        obtain ⟨WD, hWDe⟩ : ∃ W, (w2.alloc (.cells #[.int .i64 c0', .int .i64 v0, .string d0, .slice Ar 0 cr] 43)).drew = W := ⟨_, rfl⟩
        rw [hWDe] at bkX ownX kR END
        have hNE : (Value.slice VA k vc).ownBlock ≠ some m := own_ne_bk ownX bkX (by decide)
        have hX1 : (#[.slice (some ⟨b0, o, none⟩) n cap, .int .i64 qt, .slice VA k vc] : Array Value)[2]? = some (.slice VA k vc) := rfl
        have CS := hide (fun (U : World) (h : Old WD U) => (⟨(bkX.old h).cell 2, (kR.old h).cell 0, (kR.old h).cell 1, (kR.old h).cell 2, (kR.old h).cell 3⟩ :
          U.cell? ⟨m, 2, none⟩ = some (.slice VA k vc) ∧ U.cell? ⟨br, 0, none⟩ = some (.int .i64 c0') ∧ U.cell? ⟨br, 1, none⟩ = some (.int .i64 v0) ∧ U.cell? ⟨br, 2, none⟩ = some (.string d0) ∧ U.cell? ⟨br, 3, none⟩ = some (.slice Ar 0 cr)))
        obtain ⟨Fin, hFin⟩ : ∃ F : World → Prop, F = fun U => ∃ A3 c3, Bk U m 84 ((#[.slice (some ⟨b0, o, none⟩) n cap, .int .i64 qt, .slice VA k vc] : Array Value).setIfInBounds 2 (.slice A3 (k + 1) c3)) ∧ U.ownsRow 0 43 4 (.slice A3 (k + 1) c3) (k + 1) (xs ++ [.int .i64 c0', .int .i64 v0, .string d0, .slice Ar 0 cr]) ∧
          Fr (fun b => b = m ∨ (Value.slice VA k vc).ownBlock = some b) WD U ∧ (∀ b, (Value.slice A3 (k + 1) c3).ownBlock = some b → (Value.slice VA k vc).ownBlock = some b ∨ WD.heap.size ≤ b) := ⟨_, rfl⟩
        have hAPP := fun (A3 : Option Addr) (c3 : Nat) (W3 : World) (h3 : Apps (WD.alloc (.cells #[.int .i64 c0', .int .i64 v0, .string d0, .slice Ar 0 cr] 43)) 0 43 4 (.slice VA k vc) (k + 1) (xs ++ [.int .i64 c0', .int .i64 v0, .string d0, .slice Ar 0 cr]) (.slice A3 (k + 1) c3) W3) => (by
          rw [hFin]
          exact ⟨A3, c3, bk_app bkX ownX hNE ((Old.refl' WD).alloc' _) h3⟩ : Fin (W3.setCell ⟨m, 2, none⟩ (.slice A3 (k + 1) c3)))
        simp only [hbr]
        clear hB2 hR2 oD kR x0 x1 x2 x3 x4 x5 c0 c1 c2 c3 c4 c5 hfr hF2 hbr
        refine region_steps (R := pick [eqv (.pointer (some ⟨m, 0, none⟩)), eqv (.pointer (some ⟨m, 0, none⟩)), eqv (.pointer (some ⟨m, 0, none⟩)), eqv (.pointer (some ⟨m, 2, none⟩)), eqv (.slice VA k vc), eqv (.agg #[.int .i64 c0', .int .i64 v0, .string d0, .slice Ar 0 cr]), eqv (.slice (some ⟨WD.heap.size, 0, none⟩) 1 1), fun v w' => ∃ A2 c2, v = .slice A2 (k + 1) c2, eqv (.pointer (some ⟨m, 0, none⟩)), eqv (.pointer (some ⟨m, 2, none⟩)), eqv (undef)]) (S := fun σ w' => (σ 10 ≠ none → Fin w') ∧ (σ 10 = none → σ 7 ≠ none → ∃ A2 c2, σ 7 = some (.slice A2 (k + 1) c2) ∧ Apps (WD.alloc (.cells #[.int .i64 c0', .int .i64 v0, .string d0, .slice Ar 0 cr] 43)) 0 43 4 (.slice VA k vc) (k + 1) (xs ++ [.int .i64 c0', .int .i64 v0, .string d0, .slice Ar 0 cr]) (.slice A2 (k + 1) c2) w') ∧ (σ 10 = none → σ 7 = none → σ 6 ≠ none → w' = (WD.alloc (.cells #[.int .i64 c0', .int .i64 v0, .string d0, .slice Ar 0 cr] 43))) ∧ (σ 10 = none → σ 7 = none → σ 6 = none → w' = WD)) (T := (fun _ _ => True)) (by kernel_rfl) (by kernel_rfl) (by kernel_rfl) (Stab.pick (Stab.eqv (Stab.eqv (Stab.eqv (Stab.eqv (Stab.eqv (Stab.eqv (Stab.eqv (Stab.cons (fun _ _ _ _ h => h) (Stab.eqv (Stab.eqv (Stab.eqv (Stab.nil))))))))))))) (⟨fun h => absurd rfl h, fun _ h => absurd rfl h, fun _ _ h => absurd rfl h, fun _ _ _ => hWDe⟩) ?steps ?ends
        case steps =>
          refine StepsOk.cons (stepOk_pure [] [(8, .pointer (some ⟨m, 0, none⟩))] rfl rfl (by kernel_rfl) (by kernel_rfl) rfl (fun _ => trivial) (fun σ v w h => by simpa [upd] using h) (fun d E w' hk hda hS hc hf => by rintro  e8; exact ⟨_, by go_simp, rfl⟩)) ?_
          refine StepsOk.cons (stepOk_pure [] [(8, .pointer (some ⟨m, 0, none⟩))] rfl rfl (by kernel_rfl) (by kernel_rfl) rfl (fun _ => trivial) (fun σ v w h => by simpa [upd] using h) (fun d E w' hk hda hS hc hf => by rintro  e8; exact ⟨_, by go_simp, rfl⟩)) ?_
          refine StepsOk.cons (stepOk_pure [(1, 40)] [] rfl rfl (by kernel_rfl) (by kernel_rfl) rfl (fun _ => trivial) (fun σ v w h => by simpa [upd] using h) (fun d E w' hk hda hS hc hf => by rintro _ q1 rfl e40 ; exact ⟨_, by go_simp, rfl⟩)) ?_
          refine StepsOk.cons (stepOk_pure [(2, 41)] [] rfl rfl (by kernel_rfl) (by kernel_rfl) rfl (fun _ => trivial) (fun σ v w h => by simpa [upd] using h) (fun d E w' hk hda hS hc hf => by rintro _ q2 rfl e41 ; exact ⟨_, by go_simp, rfl⟩)) ?_
          refine StepsOk.cons (stepOk_pure [(3, 42)] [] rfl rfl (by kernel_rfl) (by kernel_rfl) rfl (fun _ => trivial) (fun σ v w h => by simpa [upd] using h) (fun d E w' hk hda hS hc hf => by rintro _ q3 rfl e42 ; obtain ⟨t0, y0, y1, y2, y3⟩ := CS.out w' ((Classical.em (d 6 = none)).elim (fun h13 => by rw [hS.2.2.2 (hk 10 (by kernel_rfl)) (hk 7 (by kernel_rfl)) h13]; exact Old.refl' _) (fun h13 => by rw [hS.2.2.1 (hk 10 (by kernel_rfl)) (hk 7 (by kernel_rfl)) h13]; exact (Old.refl' _).alloc' _)); exact ⟨_, by go_simp, rfl⟩)) ?_
          refine StepsOk.cons (stepOk_pure [] [(11, .pointer (some ⟨br, 0, none⟩))] rfl rfl (by kernel_rfl) (by kernel_rfl) rfl (fun _ => trivial) (fun σ v w h => by simpa [upd] using h) (fun d E w' hk hda hS hc hf => by rintro  e11; obtain ⟨t0, y0, y1, y2, y3⟩ := CS.out w' ((Classical.em (d 6 = none)).elim (fun h13 => by rw [hS.2.2.2 (hk 10 (by kernel_rfl)) (hk 7 (by kernel_rfl)) h13]; exact Old.refl' _) (fun h13 => by rw [hS.2.2.1 (hk 10 (by kernel_rfl)) (hk 7 (by kernel_rfl)) h13]; exact (Old.refl' _).alloc' _)); exact ⟨_, by go_simp, rfl⟩)) ?_
          refine StepsOk.cons (stepOk_mk [(5, 44)] [] rfl rfl (by kernel_rfl) (by kernel_rfl) rfl ?_) ?_
          · rintro d a w' hk hda hS _ q5 rfl e44 
            first | refine Given.nil (Known.nil ?_) | refine Known.nil ?_
            obtain rfl := (hS.2.2.2 (hk 10 (by kernel_rfl)) (hk 7 (by kernel_rfl)) (hk 6 (by kernel_rfl))).symm
            refine wp_runv (w' := (WD.alloc (.cells #[.int .i64 c0', .int .i64 v0, .string d0, .slice Ar 0 cr] 43))) (.slice (some ⟨WD.heap.size, 0, none⟩) 1 1) (by revert e44; generalize a.eval = E; intro e44; go_simp) ⟨_, rfl, rfl, trivial, ?_⟩
            exact ⟨fun h => absurd (hk 10 (by kernel_rfl)) (by simpa [upd] using h), fun _ h => absurd (hk 7 (by kernel_rfl)) (by simpa [upd] using h), fun _ _ _ => rfl, fun _ _ h => by simp [upd] at h⟩
          refine StepsOk.cons (stepOk_mk [(4, 43), (6, 45)] [] rfl rfl (by kernel_rfl) (by kernel_rfl) rfl ?_) ?_
          · rintro d a w' hk hda hS _ q4 rfl e43 _ q6 rfl e45 
            first | refine Given.nil (Known.nil ?_) | refine Known.nil ?_
            obtain rfl := hS.2.2.1 (hk 10 (by kernel_rfl)) (hk 7 (by kernel_rfl)) (by rw [q6]; simp)
            refine wp_app _ (.tmp 43) (.tmp 45) 82 rfl 0 43 j0 (.agg #[.int .i64 0, .int .i64 0, .string { data := #[] }, .slice none 0 0]) 4 56 Try.underlying82 hj0 hj00 hj01 hj02 rfl (by decide) (.slice VA k vc) k (xs) e43 (ownX.alloc _) (some ⟨WD.heap.size, 0, none⟩) 1 1 [.int .i64 c0', .int .i64 v0, .string d0, .slice Ar 0 cr] e45 rfl (cells_bk (Bk.new WD 43 #[.int .i64 c0', .int .i64 v0, .string d0, .slice Ar 0 cr])) (by simp [Value.oneCell']) (by unfold maxLen; omega) (by omega) (Nat.zero_le _) (k + 1) rfl _ rfl ?_
            intro A2 c2 W2 h2
            exact ⟨_, rfl, ⟨A2, c2, rfl⟩, trivial, fun h => absurd (hk 10 (by kernel_rfl)) (by simpa [upd] using h), fun _ _ => ⟨A2, c2, by simp [upd], h2⟩, fun _ h => by simp [upd] at h, fun _ h => by simp [upd] at h⟩
          refine StepsOk.cons (stepOk_pure [(0, 39)] [] rfl rfl (by kernel_rfl) (by kernel_rfl) rfl (fun _ => trivial) (fun σ v w h => by simpa [upd] using h) (fun d E w' hk hda hS hc hf => by rintro _ q0 rfl e39 ; exact ⟨_, by go_simp, rfl⟩)) ?_
          refine StepsOk.cons (stepOk_pure [(8, 47)] [] rfl rfl (by kernel_rfl) (by kernel_rfl) rfl (fun _ => trivial) (fun σ v w h => by simpa [upd] using h) (fun d E w' hk hda hS hc hf => by rintro _ q8 rfl e47 ; exact ⟨_, by go_simp, rfl⟩)) ?_
          refine StepsOk.cons (stepOk_store [(9, 48), (7, 46)] [] rfl rfl (by kernel_rfl) (by kernel_rfl) rfl (fun d E w' hk hda hS hc hf => by rintro _ q9 rfl e48 _ q7 ⟨A2, c2, rfl⟩ e46 ; obtain ⟨A3, c3, e14, h2⟩ := hS.2.1 (hk 10 (by kernel_rfl)) (by rw [q7]; simp); rw [q7] at e14; injection e14 with e14; injection e14 with e14a _ e14b; subst e14a e14b; have hG2 := h2.bk (bkX.alloc _) hNE; have y0 := (hG2.cell 2).trans hX1; have y1 := hG2.frozen 2; exact ⟨w'.setCell ⟨m, 2, none⟩ (.slice A2 (k + 1) c2), by go_simp, rfl, trivial, ⟨fun _ => hAPP _ _ _ h2, fun h => by simp [upd] at h, fun h => by simp [upd] at h, fun h => by simp [upd] at h⟩⟩)) ?_
          exact StepsOk.nil
        case ends =>
          intro σ9 w9 hS9 hA9
          refine Ends.eqv (some 39) (.pointer (some ⟨m, 0, none⟩)) rfl (fun _ h => h) ?_
          refine Ends.eqv (some 40) (.pointer (some ⟨m, 0, none⟩)) rfl (fun _ h => h) ?_
          refine Ends.eqv (some 41) (.pointer (some ⟨m, 0, none⟩)) rfl (fun _ h => h) ?_
          refine Ends.eqv (some 42) (.pointer (some ⟨m, 2, none⟩)) rfl (fun _ h => h) ?_
          refine Ends.eqv (some 43) (.slice VA k vc) rfl (fun _ h => h) ?_
          refine Ends.eqv (some 44) (.agg #[.int .i64 c0', .int .i64 v0, .string d0, .slice Ar 0 cr]) rfl (fun _ h => h) ?_
          refine Ends.eqv (some 45) (.slice (some ⟨WD.heap.size, 0, none⟩) 1 1) rfl (fun _ h => h) ?_
          refine Ends.ex (some 46) rfl ?_
          rintro _ p7 ⟨A2, c2, rfl⟩
          refine Ends.eqv (some 47) (.pointer (some ⟨m, 0, none⟩)) rfl (fun _ h => h) ?_
          refine Ends.eqv (some 48) (.pointer (some ⟨m, 2, none⟩)) rfl (fun _ h => h) ?_
          refine Ends.eqv none (undef) rfl (fun _ h => h) ?_
          refine Ends.nil ?_
          have hA9' := hA9
          clear hA9
          simp only [put_lit, put_none, List.set_cons_zero, List.set_cons_succ]
          have hfin := hS9.1 (by have := hA9' 10 (by simp); intro e; rw [e] at this; simp at this)
          clear hS9 hA9'
          rw [hFin] at hfin
          obtain ⟨A3, c3, hBK3, hROW3, hFR3, hNW3⟩ := hfin
          clear CS hAPP bkX ownX hNE hFin
          go_wp2_with fail
          go_roundw
          case rel => exact ⟨k + 1, by omega, by go_num, rfl, END.out w9 A3 c3 hBK3 hROW3 hFR3 hNW3⟩
          case measure => simp [intOf]; omega
      · have hbF : b = false := by rw [← HB.out]; exact okLog_bad hkq (by rw [HST.out, HX.out, HE.out]; omega)
        subst hbF
        rcases hE3 with rfl | rfl
        all_goals
          go_wp2_with (go_at_call 35; refine cP.out.mono ?_; rintro e w2 ⟨⟨Ar, cr, rfl⟩, hF2, hfr⟩)
          go_ret2
          exact ⟨_, rfl, ((HBEL.out.trans' HOA.out).fr_new hfr (fun j hj => hFN.out j hj)).alloc' _, fun h => by cases h⟩
    · obtain rfl : k = n := by omega
      have hbT : b = true := by
        rw [← HB.out]
        unfold okLog
        have h1 := HQT.out
        rw [Bool.and_eq_true, Bool.and_eq_true]
        refine ⟨⟨by simpa using h1.1, by simpa using h1.2⟩, ?_⟩
        rw [List.all_eq_true]
        intro i hi
        simpa using hN.ok i (by rw [List.mem_range] at hi; have := HL.out; omega)
      subst hbT
      obtain ⟨V, F, hMd, -⟩ := hN.md
      have HMD := hide hMd
      have HOLD := hide hN.old
      clear hN hMd
      go_wp2
      go_ret2
      first | exact ⟨_, rfl, HOLD.out, fun _ => ⟨m, V, rfl, HMD.out⟩⟩ | exact ⟨_, rfl, HOLD.out, m, rfl, V, HMD.out⟩ | exact ⟨_, rfl, HOLD.out, m, V, rfl, HMD.out⟩
theorem NewModel_any (A : Option Addr) (n cap : Nat) (log : List ReqV) (hl : n = log.length) (hn : n ≤ 1000) (qt : Int) (b : Bool) (hb : okLog qt log = b) (w : World) (hQ : ReqsAt w A log) :
    Calls Try.prog 23 #[.slice A n cap, .int .i64 qt] w fun e w' => ∃ P, e = .returned (.tuple #[.pointer P, .bool b]) ∧ Old w w' ∧ (b = true → ∃ m V, P = some ⟨m, 0, none⟩ ∧ MdAt w' m A n cap qt log V n) := by
  by_cases hq : 1 ≤ qt ∧ qt ≤ 100
  · exact NewModel_good A n cap log hl hn qt hq b hb w hQ
  · have e : b = false := by rw [← hb]; unfold okLog; by_cases h1 : 1 ≤ qt <;> by_cases h2 : qt ≤ 100 <;> simp [h1, h2]; exact absurd ⟨h1, h2⟩ hq
    subst e
    exact (NewModel_bad A n cap log hl hn qt hq w hQ).mono fun e w' ⟨P, h1, h2⟩ => ⟨P, h1, h2, fun h => by cases h⟩
end Go.Proofs.Ytffahoocbjfdaaa
