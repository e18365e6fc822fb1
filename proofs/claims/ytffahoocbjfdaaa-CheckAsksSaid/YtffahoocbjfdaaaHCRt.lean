/- check.model.right. -/
import Derived.Test.YtffahoocbjfdaaaHCRd
namespace Go.Proofs.Ytffahoocbjfdaaa
open Go.RowKit
section
variable {P : Program} {Q : Exit → Act → World → Prop} {l : List Oper} {a0 : Act} {R : Nat → Value → World → Prop} {S : (Nat → Option Value) → World → Prop} {T : World → World → Prop}
theorem stepOk_skipU {k : Nat} {o : Oper} (g : Nat) (t : Tmp) (c : Bool) (hg : o.guard = some (g, c)) (ho : l[k]? = some o) (hd : depsB l o a0.tmps.size [(g, t)] = true) (hT : ∀ w, T w w) (hS : ∀ σ v w, S σ w → S (upd σ k v) w)
    (hR : ∀ v w, R g v w → v = undef) (hk : ∀ w, R k undef w) : StepOk P Q l a0 R S T k o := by
  intro σ a w hdk hda hS1 hj _ _
  have hw : Region.wanted o (yielded l.toArray a.tmps) = false := by
    unfold depsB at hd
    simp only [List.all_cons, List.all_nil, Bool.and_true, Bool.and_eq_true] at hd
    obtain ⟨⟨h1, h2⟩, h3⟩ := hd
    cases hog : l[g]? with
    | none => rw [hog] at h2; cases h2
    | some og =>
      rw [hog] at h2
      obtain ⟨v, hs⟩ := Option.isSome_iff_exists.1 (waits_of hda g h1)
      obtain ⟨hR1, hv⟩ := hj g v (List.getElem?_eq_some_iff.1 hog).1 hs
      have hv' := hv og t hog (by simpa using h2) (by simpa using h3)
      have h2' : og.dst = some t := by simpa using h2
      rw [hR v w hR1] at hv'
      simp [Region.wanted, hg, yielded, hog, h2', hv', undef]
  unfold Go.wpOp
  simp only [List.getElem?_toArray, ho, hw, Bool.false_eq_true, if_false]
  exact ⟨undef, rfl, hk w, hT w, hS σ _ w hS1⟩
end
def rightP (qt : Int) (log : List ReqV) (x : ActV) (ask a : Int) (rd : Bool) : Bool :=
  if Writes x.q.kind then decide (1 ≤ a) && decide (a ≤ (log.length : Int)) && decide (ask < a) && (log[(a - 1).toNat]?.getD default).eqb x.q && x.r.same ((runS qt (log.take (a - 1).toNat)).rep (log[(a - 1).toNat]?.getD default).q)
  else !rd || (decide (a ≤ (log.length : Int)) && x.r.same ((runF qt x.q.id (log.take a.toNat)).ask x.q.q))
theorem repCells_length (rs : List (Rep × Option Addr × Nat)) : (rs.flatMap repCells).length = rs.length * 4 := by
  induction rs with
  | nil => rfl
  | cons q l ih =>
    have : (repCells q).length = 4 := rfl
    simp only [List.flatMap_cons, List.length_append, List.length_cons, ih, this]
    omega
theorem repCells_get (rs : List (Rep × Option Addr × Nat)) : ∀ k j, (h : k < rs.length) → j < 4 → (rs.flatMap repCells)[k * 4 + j]? = (repCells rs[k])[j]? := by
  induction rs with
  | nil => intro k j h; simp at h
  | cons q l ih =>
    intro k j hk hj
    rw [List.flatMap_cons]
    have hc : (repCells q).length = 4 := rfl
    cases k with
    | zero => rw [List.getElem?_append_left (by rw [hc]; omega)]; simp
    | succ k =>
      rw [List.getElem?_append_right (by rw [hc]; omega), hc, show (k + 1) * 4 + j - 4 = k * 4 + j from by omega]
      simpa using ih k j (by simpa using hk) hj
theorem MdAt.rep {w : World} {m : Nat} {A : Option Addr} {n cap : Nat} {qt : Int} {log : List ReqV} {V : Value} {M : Nat} (h : MdAt w m A n cap qt log V n) (hM : M < n) (hl : n = log.length) :
    ∃ br ro vc A4 c4, V = .slice (some ⟨br, ro, none⟩) n vc ∧ br < w.heap.size ∧ ∀ R, (runS qt (log.take M)).rep (log[M]?.getD default).q = R → w.cell? ⟨br, ro + M * 4, none⟩ = some (.int .i64 R.code) ∧ w.cell? ⟨br, ro + M * 4 + 1, none⟩ = some (.int .i64 R.ver) ∧ w.cell? ⟨br, ro + M * 4 + 2, none⟩ = some (.string R.data) ∧ w.cell? ⟨br, ro + M * 4 + 3, none⟩ = some (.slice A4 0 c4) := by
  obtain ⟨-, rs, h1, h2⟩ := h
  obtain ⟨VA, vc, rfl, -, -⟩ := own_form h1
  have hlen : rs.length = n := by have := congrArg List.length h2; simpa [repsN] using this
  have hne : rs.flatMap repCells ≠ [] := fun e => by have := repCells_length rs; rw [e] at this; simp at this; omega
  obtain ⟨br, ro, rfl, hb, hc⟩ := CellsAt.of_own h1 hne
  have hMr : M < rs.length := by omega
  have hr : rs[M].1 = (runS qt (log.take M)).rep (log[M]?.getD default).q := by
    have e : (rs.map Prod.fst)[M]? = some rs[M].1 := by rw [List.getElem?_map, List.getElem?_eq_getElem hMr]; rfl
    rw [h2] at e
    simp [repsN, List.getElem?_range hM] at e
    exact e.symm
  refine ⟨br, ro, vc, rs[M].2.1, rs[M].2.2, rfl, hb, fun R hR => ?_⟩
  rw [← hR, ← hr]
  have key : ∀ j u, j < 4 → (repCells rs[M])[j]? = some u → w.cell? ⟨br, ro + M * 4 + j, none⟩ = some u := fun j u hj hu => by
    have := hc (M * 4 + j) u ((repCells_get rs M j hMr hj).trans hu)
    rwa [← Nat.add_assoc] at this
  exact ⟨key 0 _ (by omega) rfl, key 1 _ (by omega) rfl, key 2 _ (by omega) rfl, key 3 _ (by omega) rfl⟩
theorem askR_lenC (vs : List Ver) (k m : Int) : (askR vs k m).vs.length ≤ vs.length := by
  unfold askR
  repeat' split
  all_goals simp [histL_length]
theorem ask_vs_le (s : StV) (q : Q) (n : Nat) (h : (s.f q.id).length ≤ n) : (s.ask q).vs.length ≤ n := by
  unfold StV.ask
  split
  · exact Nat.le_trans (askR_lenC _ _ _) h
  · exact Nat.zero_le _
theorem doL_oneC (vs : List Ver) (k m quota : Int) (d : ByteArray) : (doL vs k m quota d).length ≤ vs.length + 1 := by
  unfold doL doR
  split <;> (repeat' split) <;> simp
theorem put_fewC (s : StV) (q : Q) (h : ∀ k, (s.f k).length ≤ s.n) : ∀ k, ((s.put q).f k).length ≤ (s.put q).n := by
  intro k
  unfold StV.put
  split
  · show (if k = q.id then s.doL q else s.f k).length ≤ s.n + 1
    split
    · have := doL_oneC (s.f q.id) q.kind q.mat s.quota q.data
      have := h q.id
      unfold StV.doL
      omega
    · have := h k; omega
  · exact h k
theorem runF_few (qt id : Int) (log : List ReqV) : ∀ i, ((runF qt id log).f i).length ≤ (runF qt id log).n := by
  unfold runF
  suffices h : ∀ (l : List ReqV) (s : StV), (∀ k, (s.f k).length ≤ s.n) → ∀ k, ((l.foldl (fun s x => if x.id = id then s.put x.q else s) s).f k).length ≤ (l.foldl (fun s x => if x.id = id then s.put x.q else s) s).n from h log _ (fun k => by simp [StV.new])
  intro l
  induction l with
  | nil => intro s h; exact h
  | cons q l ih => intro s h; simp only [List.foldl_cons]; split; exact ih _ (put_fewC s q.q h); exact ih _ h
set_option maxRecDepth 100000 in
set_option maxHeartbeats 8000000 in
theorem Right_any (m : Nat) (A : Option Addr) (n cap : Nat) (log : List ReqV) (hl : n = log.length) (hn : n ≤ 1000) (hcap : n ≤ cap) (qt : Int) (hq : 1 ≤ qt ∧ qt ≤ 100) (V : Value) (x : ActV) (vn : Nat) (hvn : x.r.vs.length = vn) (hv : vn ≤ 1000) (ask a : Int) (ha : 0 ≤ a) (ha2 : a ≤ 1073741824) (rd b : Bool)
    (hb : rightP qt log x ask a rd = b) (w : World) (hM : MdAt w m A n cap qt log V n) (hQ : ReqsAt w A log) (hI : IntsAt w x.A x.r.vs) :
    Calls Try.prog 26 #[.pointer (some ⟨m, 0, none⟩), .agg #[.int .i64 x.client, .int .i64 x.seq, .bool x.ans, .int .i64 x.q.client, .int .i64 x.q.seq, .int .i64 x.q.kind, .int .i64 x.q.id, .int .i64 x.q.mat, .string x.q.data, .int .i64 x.r.code, .int .i64 x.r.ver, .string x.r.data, .slice x.A vn x.cap, .int .i64 x.at_], .int .i64 ask, .int .i64 a, .bool rd] w fun e w' => e = .returned (.bool b) ∧ Old w w' := by
  obtain ⟨pl, rfl⟩ : ∃ pl, pl = a := ⟨_, rfl⟩
  obtain ⟨WB, hWB⟩ : ∃ W, w.alloc (.cells #[.int .i64 x.client, .int .i64 x.seq, .bool x.ans, .int .i64 x.q.client, .int .i64 x.q.seq, .int .i64 x.q.kind, .int .i64 x.q.id, .int .i64 x.q.mat, .string x.q.data, .int .i64 x.r.code, .int .i64 x.r.ver, .string x.r.data, .slice x.A vn x.cap, .int .i64 x.at_] 45) = W := ⟨_, rfl⟩
  obtain ⟨bx, hbx⟩ : ∃ x, w.heap.size = x := ⟨_, rfl⟩
  have hO : Old w WB := by rw [← hWB]; exact (Old.refl' w).alloc' _
  have kx : Bk WB bx 45 #[.int .i64 x.client, .int .i64 x.seq, .bool x.ans, .int .i64 x.q.client, .int .i64 x.q.seq, .int .i64 x.q.kind, .int .i64 x.q.id, .int .i64 x.q.mat, .string x.q.data, .int .i64 x.r.code, .int .i64 x.r.ver, .string x.r.data, .slice x.A vn x.cap, .int .i64 x.at_] := by rw [← hWB, ← hbx]; exact Bk.new w 45 _
  have km := hM.bk.old hO
  have hMB := hM.old hO
  have hQB : ReqsAt WB A log := CellsAt.old hQ hO
  have hIB := CellsAt.old hI hO
  obtain ⟨⟨k0, k1, k2, k3, k4, k5, k6, k7, k8, k9, k10, k11, k12, k13⟩, kl⟩ := bk14 kx
  have CS := hide (fun (U : World) (h : Old WB U) => (⟨(bk14 (kx.old h)).1, (bk3 (km.old h)).1⟩ : _ ∧ _))
  have HO := hide hO
  have HVN := hide hvn
  have HL := hide hl
  clear hM hQ hI hO hvn kx hl
  cases hw : Writes x.q.kind
  · have cW := hide (iWrites_at x.q.client x.q.seq x.q.kind x.q.id x.q.mat x.q.data false hw WB)
    have hb' : (!rd || (decide (pl ≤ (log.length : Int)) && x.r.same ((runF qt x.q.id (log.take pl.toNat)).ask x.q.q))) = b := by unfold rightP at hb; rwa [if_neg (by rw [hw]; decide)] at hb
    clear hb
    cases rd
    · have HFIN := hide (show true = b from by rw [← hb']; rfl)
      clear hb' hw
      go_enter Try.func26, Try.ntmps26
      go_upto_region 2 with (go_at_call 27; refine (cW.out).mono ?_; rintro e w1 ⟨rfl, h1⟩)
      refine region_steps (R := pick [eqv (.bool false), eqv (.bool true), eqv (.bool true), eqv (undef), eqv (undef), eqv (undef), eqv (undef), eqv (undef), eqv (undef), eqv (undef), eqv (undef), eqv (undef), eqv (undef), eqv (undef), eqv (undef), eqv (undef), eqv (undef), eqv (undef), eqv (undef), eqv (undef), eqv (.bool true), eqv (.bool true)]) (S := fun _ w' => Old WB w') (T := Old) (by kernel_rfl) (by kernel_rfl) (by kernel_rfl) (Stab.pick (Stab.eqv (Stab.eqv (Stab.eqv (Stab.eqv (Stab.eqv (Stab.eqv (Stab.eqv (Stab.eqv (Stab.eqv (Stab.eqv (Stab.eqv (Stab.eqv (Stab.eqv (Stab.eqv (Stab.eqv (Stab.eqv (Stab.eqv (Stab.eqv (Stab.eqv (Stab.eqv (Stab.eqv (Stab.eqv (Stab.nil)))))))))))))))))))))))) (h1.drew') ?steps ?ends
      case steps =>
        refine StepsOk.cons (stepOk_pure [] [(4, .bool false)] rfl rfl (by kernel_rfl) (by kernel_rfl) rfl Old.refl' (fun _ _ _ h => h) (fun d E w' hk hda hS hc hf => by rintro  e4; exact ⟨_, by go_simp, rfl⟩)) ?_
        refine StepsOk.cons (stepOk_pure [(0, 15)] [] rfl rfl (by kernel_rfl) (by kernel_rfl) rfl Old.refl' (fun _ _ _ h => h) (fun d E w' hk hda hS hc hf => by rintro _ q0 rfl e15 ; exact ⟨_, by go_simp, rfl⟩)) ?_
        refine StepsOk.cons (stepOk_pure [(1, 16)] [] rfl rfl (by kernel_rfl) (by kernel_rfl) rfl Old.refl' (fun _ _ _ h => h) (fun d E w' hk hda hS hc hf => by rintro _ q1 rfl e16 ; exact ⟨_, by go_simp, rfl⟩)) ?_
        refine StepsOk.cons (stepOk_skip 2 17 true rfl rfl (by kernel_rfl) Old.refl' (fun _ _ _ h => h) (fun _ _ h => h) (fun _ => rfl)) ?_
        refine StepsOk.cons (stepOk_skip 2 17 true rfl rfl (by kernel_rfl) Old.refl' (fun _ _ _ h => h) (fun _ _ h => h) (fun _ => rfl)) ?_
        refine StepsOk.cons (stepOk_skip 2 17 true rfl rfl (by kernel_rfl) Old.refl' (fun _ _ _ h => h) (fun _ _ h => h) (fun _ => rfl)) ?_
        refine StepsOk.cons (stepOk_skip 2 17 true rfl rfl (by kernel_rfl) Old.refl' (fun _ _ _ h => h) (fun _ _ h => h) (fun _ => rfl)) ?_
        refine StepsOk.cons (stepOk_skip 2 17 true rfl rfl (by kernel_rfl) Old.refl' (fun _ _ _ h => h) (fun _ _ h => h) (fun _ => rfl)) ?_
        refine StepsOk.cons (stepOk_skip 2 17 true rfl rfl (by kernel_rfl) Old.refl' (fun _ _ _ h => h) (fun _ _ h => h) (fun _ => rfl)) ?_
        refine StepsOk.cons (stepOk_skip 2 17 true rfl rfl (by kernel_rfl) Old.refl' (fun _ _ _ h => h) (fun _ _ h => h) (fun _ => rfl)) ?_
        refine StepsOk.cons (stepOk_skip 2 17 true rfl rfl (by kernel_rfl) Old.refl' (fun _ _ _ h => h) (fun _ _ h => h) (fun _ => rfl)) ?_
        refine StepsOk.cons (stepOk_skipU 10 25 true rfl rfl (by kernel_rfl) Old.refl' (fun _ _ _ h => h) (fun _ _ h => h) (fun _ => rfl)) ?_
        refine StepsOk.cons (stepOk_skipU 10 25 true rfl rfl (by kernel_rfl) Old.refl' (fun _ _ _ h => h) (fun _ _ h => h) (fun _ => rfl)) ?_
        refine StepsOk.cons (stepOk_skipU 10 25 true rfl rfl (by kernel_rfl) Old.refl' (fun _ _ _ h => h) (fun _ _ h => h) (fun _ => rfl)) ?_
        refine StepsOk.cons (stepOk_skipU 10 25 true rfl rfl (by kernel_rfl) Old.refl' (fun _ _ _ h => h) (fun _ _ h => h) (fun _ => rfl)) ?_
        refine StepsOk.cons (stepOk_skipU 10 25 true rfl rfl (by kernel_rfl) Old.refl' (fun _ _ _ h => h) (fun _ _ h => h) (fun _ => rfl)) ?_
        refine StepsOk.cons (stepOk_skipU 10 25 true rfl rfl (by kernel_rfl) Old.refl' (fun _ _ _ h => h) (fun _ _ h => h) (fun _ => rfl)) ?_
        refine StepsOk.cons (stepOk_skipU 10 25 true rfl rfl (by kernel_rfl) Old.refl' (fun _ _ _ h => h) (fun _ _ h => h) (fun _ => rfl)) ?_
        refine StepsOk.cons (stepOk_skipU 10 25 true rfl rfl (by kernel_rfl) Old.refl' (fun _ _ _ h => h) (fun _ _ h => h) (fun _ => rfl)) ?_
        refine StepsOk.cons (stepOk_skip 2 17 true rfl rfl (by kernel_rfl) Old.refl' (fun _ _ _ h => h) (fun _ _ h => h) (fun _ => rfl)) ?_
        refine StepsOk.cons (stepOk_pure [(2, 17), (19, 34)] [] rfl rfl (by kernel_rfl) (by kernel_rfl) rfl Old.refl' (fun _ _ _ h => h) (fun d E w' hk hda hS hc hf => by rintro _ q2 rfl e17 _ q19 rfl e34 ; exact ⟨_, by go_simp, rfl⟩)) ?_
        refine StepsOk.cons (stepOk_pure [(20, 35)] [] rfl rfl (by kernel_rfl) (by kernel_rfl) rfl Old.refl' (fun _ _ _ h => h) (fun d E w' hk hda hS hc hf => by rintro _ q20 rfl e35 ; exact ⟨_, by go_simp, rfl⟩)) ?_
        exact StepsOk.nil
      case ends =>
        intro σ9 w9 hS9 hA9
        refine Ends.eqv (some 15) (.bool false) rfl (fun _ h => h) ?_
        refine Ends.eqv (some 16) (.bool true) rfl (fun _ h => h) ?_
        refine Ends.eqv (some 17) (.bool true) rfl (fun _ h => h) ?_
        refine Ends.eqv (some 18) (undef) rfl (fun _ h => h) ?_
        refine Ends.eqv (some 19) (undef) rfl (fun _ h => h) ?_
        refine Ends.eqv (some 20) (undef) rfl (fun _ h => h) ?_
        refine Ends.eqv (some 21) (undef) rfl (fun _ h => h) ?_
        refine Ends.eqv (some 22) (undef) rfl (fun _ h => h) ?_
        refine Ends.eqv (some 23) (undef) rfl (fun _ h => h) ?_
        refine Ends.eqv (some 24) (undef) rfl (fun _ h => h) ?_
        refine Ends.eqv (some 25) (undef) rfl (fun _ h => h) ?_
        refine Ends.eqv (some 26) (undef) rfl (fun _ h => h) ?_
        refine Ends.eqv (some 27) (undef) rfl (fun _ h => h) ?_
        refine Ends.eqv (some 28) (undef) rfl (fun _ h => h) ?_
        refine Ends.eqv (some 29) (undef) rfl (fun _ h => h) ?_
        refine Ends.eqv (some 30) (undef) rfl (fun _ h => h) ?_
        refine Ends.eqv (some 31) (undef) rfl (fun _ h => h) ?_
        refine Ends.eqv (some 32) (undef) rfl (fun _ h => h) ?_
        refine Ends.eqv (some 33) (undef) rfl (fun _ h => h) ?_
        refine Ends.eqv (some 34) (undef) rfl (fun _ h => h) ?_
        refine Ends.eqv (some 35) (.bool true) rfl (fun _ h => h) ?_
        refine Ends.eqv (some 10) (.bool true) rfl (fun _ h => h) ?_
        refine Ends.nil ?_
        clear hA9
        simp only [put_lit, put_none, List.set_cons_zero, List.set_cons_succ]
        have o9 := hS9
        clear hS9
        go_wp2_with fail
        go_ret
        first | exact ⟨retb HFIN.out, HO.out.trans' o9⟩ | exact ⟨rfl, HO.out.trans' o9⟩
    · by_cases han : pl ≤ (n : Int)
      · obtain ⟨N, rfl⟩ : ∃ N : Nat, pl = N := ⟨pl.toNat, by omega⟩
        obtain ⟨R, hR⟩ : ∃ R, (runF qt x.q.id (log.take N)).ask x.q.q = R := ⟨_, rfl⟩
        obtain ⟨nR, hnR⟩ : ∃ k, R.vs.length = k := ⟨_, rfl⟩
        have hnR2 : nR ≤ 1000 := by
          rw [← hnR, ← hR]
          have h1 := runF_n qt x.q.id (log.take N)
          rw [List.length_take] at h1
          exact ask_vs_le _ _ _ (Nat.le_trans (runF_few qt x.q.id (log.take N) _) (by omega))
        have cR := hide (fun (U : World) (h : Old WB U) => Read_any m A n cap log HL.out hn hcap qt hq V n x.q N (by omega) R hR nR hnR U (hMB.old h) (CellsAt.old hQB h))
        have HFIN := hide (show x.r.same R = b from by rw [← hb', ← HL.out, Int.toNat_natCast, hR]; simp [han])
        have cS := hide (fun (U : World) (h : Old WB U) (A4 : Option Addr) (c4 : Nat) (i4 : IntsAt U A4 R.vs) => by have := PSame_any x.r R x.A A4 vn nR x.cap c4 U (CellsAt.old hIB h) i4 HVN.out.symm hnR.symm hv hnR2; rw [HFIN.out] at this; exact this)
        have HFIN := hide (rfl : b = b)
        clear hb' hw hR hnR
        obtain ⟨pl, haN⟩ : ∃ pl : Int, pl = N := ⟨_, rfl⟩
        rw [← haN] at han cR ha ha2
        simp only [← haN]
        clear haN
        go_enter Try.func26, Try.ntmps26
        go_upto_region 2 with (go_at_call 27; refine (cW.out).mono ?_; rintro e w1 ⟨rfl, h1⟩)
        refine region_steps (R := pick [eqv (.bool true), eqv (.bool false), eqv (.bool false), eqv (.int .i64 pl), eqv (.pointer (some ⟨m, 0, none⟩)), eqv (.pointer (some ⟨m, 0, none⟩)), eqv (.pointer (some ⟨m, 0, none⟩)), eqv (.slice A n cap), eqv (.int .i64 n), eqv (.bool true), eqv (.bool true), eqv (.pointer (some ⟨bx, 9, none⟩)), eqv (.agg #[.int .i64 x.r.code, .int .i64 x.r.ver, .string x.r.data, .slice x.A vn x.cap]), eqv (.pointer (some ⟨m, 0, none⟩)), eqv (.pointer (some ⟨bx, 3, none⟩)), eqv (.agg #[.int .i64 x.q.client, .int .i64 x.q.seq, .int .i64 x.q.kind, .int .i64 x.q.id, .int .i64 x.q.mat, .string x.q.data]), eqv (.int .i64 pl), fun v w' => ∃ A4 c4, v = .agg #[.int .i64 R.code, .int .i64 R.ver, .string R.data, .slice A4 nR c4] ∧ IntsAt w' A4 R.vs, eqv (.bool b), eqv (.bool b), eqv (.bool b), eqv (.bool b)]) (S := fun _ w' => Old WB w') (T := Old) (by kernel_rfl) (by kernel_rfl) (by kernel_rfl) (Stab.pick (Stab.eqv (Stab.eqv (Stab.eqv (Stab.eqv (Stab.eqv (Stab.eqv (Stab.eqv (Stab.eqv (Stab.eqv (Stab.eqv (Stab.eqv (Stab.eqv (Stab.eqv (Stab.eqv (Stab.eqv (Stab.eqv (Stab.eqv (Stab.cons (fun v w w' ht ⟨A, c, h, i⟩ => ⟨A, c, h, i.old ht⟩) (Stab.eqv (Stab.eqv (Stab.eqv (Stab.eqv (Stab.nil)))))))))))))))))))))))) (h1.drew') ?steps ?ends
        case steps =>
          refine StepsOk.cons (stepOk_pure [] [(4, .bool true)] rfl rfl (by kernel_rfl) (by kernel_rfl) rfl Old.refl' (fun _ _ _ h => h) (fun d E w' hk hda hS hc hf => by rintro  e4; exact ⟨_, by go_simp, rfl⟩)) ?_
          refine StepsOk.cons (stepOk_pure [(0, 15)] [] rfl rfl (by kernel_rfl) (by kernel_rfl) rfl Old.refl' (fun _ _ _ h => h) (fun d E w' hk hda hS hc hf => by rintro _ q0 rfl e15 ; exact ⟨_, by go_simp, rfl⟩)) ?_
          refine StepsOk.cons (stepOk_pure [(1, 16)] [] rfl rfl (by kernel_rfl) (by kernel_rfl) rfl Old.refl' (fun _ _ _ h => h) (fun d E w' hk hda hS hc hf => by rintro _ q1 rfl e16 ; exact ⟨_, by go_simp, rfl⟩)) ?_
          refine StepsOk.cons (stepOk_pureG 2 17 false rfl rfl (by kernel_rfl) (fun _ _ h => h) [] [(3, .int .i64 pl)] (by kernel_rfl) (by kernel_rfl) rfl Old.refl' (fun _ _ _ h => h) (fun d E w' hk hda hS hc hf => by rintro  e3; exact ⟨_, by go_simp, rfl⟩)) ?_
          refine StepsOk.cons (stepOk_pureG 2 17 false rfl rfl (by kernel_rfl) (fun _ _ h => h) [] [(0, .pointer (some ⟨m, 0, none⟩))] (by kernel_rfl) (by kernel_rfl) rfl Old.refl' (fun _ _ _ h => h) (fun d E w' hk hda hS hc hf => by rintro  e0; exact ⟨_, by go_simp, rfl⟩)) ?_
          refine StepsOk.cons (stepOk_pureG 2 17 false rfl rfl (by kernel_rfl) (fun _ _ h => h) [(4, 19)] [] (by kernel_rfl) (by kernel_rfl) rfl Old.refl' (fun _ _ _ h => h) (fun d E w' hk hda hS hc hf => by rintro _ q4 rfl e19 ; exact ⟨_, by go_simp, rfl⟩)) ?_
          refine StepsOk.cons (stepOk_pureG 2 17 false rfl rfl (by kernel_rfl) (fun _ _ h => h) [(5, 20)] [] (by kernel_rfl) (by kernel_rfl) rfl Old.refl' (fun _ _ _ h => h) (fun d E w' hk hda hS hc hf => by rintro _ q5 rfl e20 ; exact ⟨_, by go_simp, rfl⟩)) ?_
          refine StepsOk.cons (stepOk_pureG 2 17 false rfl rfl (by kernel_rfl) (fun _ _ h => h) [(6, 21)] [] (by kernel_rfl) (by kernel_rfl) rfl Old.refl' (fun _ _ _ h => h) (fun d E w' hk hda hS hc hf => by rintro _ q6 rfl e21 ; obtain ⟨⟨s0, s1, s2, s3, s4, s5, s6, s7, s8, s9, s10, s11, s12, s13⟩, ⟨g0, g1, g2⟩⟩ := CS.out _ hS; exact ⟨_, by go_simp, rfl⟩)) ?_
          refine StepsOk.cons (stepOk_pureG 2 17 false rfl rfl (by kernel_rfl) (fun _ _ h => h) [(7, 22)] [] (by kernel_rfl) (by kernel_rfl) rfl Old.refl' (fun _ _ _ h => h) (fun d E w' hk hda hS hc hf => by rintro _ q7 rfl e22 ; exact ⟨_, by go_simp, rfl⟩)) ?_
          refine StepsOk.cons (stepOk_pureG 2 17 false rfl rfl (by kernel_rfl) (fun _ _ h => h) [(3, 18), (8, 23)] [] (by kernel_rfl) (by kernel_rfl) rfl Old.refl' (fun _ _ _ h => h) (fun d E w' hk hda hS hc hf => by rintro _ q3 rfl e18 _ q8 rfl e23 ; exact ⟨_, by go_simp, rfl⟩)) ?_
          refine StepsOk.cons (stepOk_pureG 2 17 false rfl rfl (by kernel_rfl) (fun _ _ h => h) [(9, 24)] [] (by kernel_rfl) (by kernel_rfl) rfl Old.refl' (fun _ _ _ h => h) (fun d E w' hk hda hS hc hf => by rintro _ q9 rfl e24 ; exact ⟨_, by go_simp, rfl⟩)) ?_
          refine StepsOk.cons (stepOk_pureG 10 25 true rfl rfl (by kernel_rfl) (fun _ _ h => h) [] [(6, .pointer (some ⟨bx, 0, none⟩))] (by kernel_rfl) (by kernel_rfl) rfl Old.refl' (fun _ _ _ h => h) (fun d E w' hk hda hS hc hf => by rintro  e6; exact ⟨_, by go_simp, rfl⟩)) ?_
          refine StepsOk.cons (stepOk_pureG 10 25 true rfl rfl (by kernel_rfl) (fun _ _ h => h) [(11, 26)] [] (by kernel_rfl) (by kernel_rfl) rfl Old.refl' (fun _ _ _ h => h) (fun d E w' hk hda hS hc hf => by rintro _ q11 rfl e26 ; obtain ⟨⟨s0, s1, s2, s3, s4, s5, s6, s7, s8, s9, s10, s11, s12, s13⟩, ⟨g0, g1, g2⟩⟩ := CS.out _ hS; exact ⟨_, by go_simp, rfl⟩)) ?_
          refine StepsOk.cons (stepOk_pureG 10 25 true rfl rfl (by kernel_rfl) (fun _ _ h => h) [] [(0, .pointer (some ⟨m, 0, none⟩))] (by kernel_rfl) (by kernel_rfl) rfl Old.refl' (fun _ _ _ h => h) (fun d E w' hk hda hS hc hf => by rintro  e0; exact ⟨_, by go_simp, rfl⟩)) ?_
          refine StepsOk.cons (stepOk_pureG 10 25 true rfl rfl (by kernel_rfl) (fun _ _ h => h) [] [(6, .pointer (some ⟨bx, 0, none⟩))] (by kernel_rfl) (by kernel_rfl) rfl Old.refl' (fun _ _ _ h => h) (fun d E w' hk hda hS hc hf => by rintro  e6; exact ⟨_, by go_simp, rfl⟩)) ?_
          refine StepsOk.cons (stepOk_pureG 10 25 true rfl rfl (by kernel_rfl) (fun _ _ h => h) [(14, 29)] [] (by kernel_rfl) (by kernel_rfl) rfl Old.refl' (fun _ _ _ h => h) (fun d E w' hk hda hS hc hf => by rintro _ q14 rfl e29 ; obtain ⟨⟨s0, s1, s2, s3, s4, s5, s6, s7, s8, s9, s10, s11, s12, s13⟩, ⟨g0, g1, g2⟩⟩ := CS.out _ hS; exact ⟨_, by go_simp, rfl⟩)) ?_
          refine StepsOk.cons (stepOk_pureG 10 25 true rfl rfl (by kernel_rfl) (fun _ _ h => h) [] [(3, .int .i64 pl)] (by kernel_rfl) (by kernel_rfl) rfl Old.refl' (fun _ _ _ h => h) (fun d E w' hk hda hS hc hf => by rintro  e3; exact ⟨_, by go_simp, rfl⟩)) ?_
          refine StepsOk.cons (stepOk_guard 10 25 true rfl rfl (by kernel_rfl) (fun _ _ h => h) [(13, 28), (15, 30), (16, 31)] [] (by kernel_rfl) (by kernel_rfl) rfl ?_) ?_
          · rintro d a w' hk hda hS _ q13 rfl e28 _ q15 rfl e30 _ q16 rfl e31 
            first | refine Given.nil (Known.nil ?_) | refine Known.nil ?_
            refine wp_call 42 _ Try.func42 (by kernel_rfl) (by kernel_rfl) _ _ (by rfl) [.pointer (some ⟨m, 0, none⟩), .agg #[.int .i64 x.q.client, .int .i64 x.q.seq, .int .i64 x.q.kind, .int .i64 x.q.id, .int .i64 x.q.mat, .string x.q.data], .int .i64 pl] (by simp only [List.map_cons, List.map_nil, *]; try rfl) (cR.out _ hS) ?_
            rintro e w1 ⟨A4, c4, rfl, i4, f4⟩
            exact ⟨_, rfl, _, rfl, ⟨A4, c4, rfl, i4⟩, f4, hS.trans' f4⟩
          refine StepsOk.cons (stepOk_guard 10 25 true rfl rfl (by kernel_rfl) (fun _ _ h => h) [(12, 27), (17, 32)] [] (by kernel_rfl) (by kernel_rfl) rfl ?_) ?_
          · rintro d a w' hk hda hS _ q12 rfl e27 _ q17 ⟨A4, c4, rfl, i4⟩ e32 
            first | refine Given.nil (Known.nil ?_) | refine Known.nil ?_
            refine wp_call 41 _ Try.func41 (by kernel_rfl) (by kernel_rfl) _ _ (by rfl) [.agg #[.int .i64 x.r.code, .int .i64 x.r.ver, .string x.r.data, .slice x.A vn x.cap], .agg #[.int .i64 R.code, .int .i64 R.ver, .string R.data, .slice A4 nR c4]] (by simp only [List.map_cons, List.map_nil, *]; try rfl) (cS.out _ hS _ _ i4) ?_
            rintro e w1 ⟨rfl, f4⟩
            exact ⟨_, rfl, _, rfl, rfl, f4, hS.trans' f4⟩
          refine StepsOk.cons (stepOk_pureG 2 17 false rfl rfl (by kernel_rfl) (fun _ _ h => h) [(10, 25), (18, 33)] [] (by kernel_rfl) (by kernel_rfl) rfl Old.refl' (fun _ _ _ h => h) (fun d E w' hk hda hS hc hf => by rintro _ q10 rfl e25 _ q18 rfl e33 ; exact ⟨_, by go_simp, rfl⟩)) ?_
          refine StepsOk.cons (stepOk_pure [(2, 17), (19, 34)] [] rfl rfl (by kernel_rfl) (by kernel_rfl) rfl Old.refl' (fun _ _ _ h => h) (fun d E w' hk hda hS hc hf => by rintro _ q2 rfl e17 _ q19 rfl e34 ; exact ⟨_, by go_simp, rfl⟩)) ?_
          refine StepsOk.cons (stepOk_pure [(20, 35)] [] rfl rfl (by kernel_rfl) (by kernel_rfl) rfl Old.refl' (fun _ _ _ h => h) (fun d E w' hk hda hS hc hf => by rintro _ q20 rfl e35 ; exact ⟨_, by go_simp, rfl⟩)) ?_
          exact StepsOk.nil
        case ends =>
          intro σ9 w9 hS9 hA9
          refine Ends.eqv (some 15) (.bool true) rfl (fun _ h => h) ?_
          refine Ends.eqv (some 16) (.bool false) rfl (fun _ h => h) ?_
          refine Ends.eqv (some 17) (.bool false) rfl (fun _ h => h) ?_
          refine Ends.eqv (some 18) (.int .i64 pl) rfl (fun _ h => h) ?_
          refine Ends.eqv (some 19) (.pointer (some ⟨m, 0, none⟩)) rfl (fun _ h => h) ?_
          refine Ends.eqv (some 20) (.pointer (some ⟨m, 0, none⟩)) rfl (fun _ h => h) ?_
          refine Ends.eqv (some 21) (.pointer (some ⟨m, 0, none⟩)) rfl (fun _ h => h) ?_
          refine Ends.eqv (some 22) (.slice A n cap) rfl (fun _ h => h) ?_
          refine Ends.eqv (some 23) (.int .i64 n) rfl (fun _ h => h) ?_
          refine Ends.eqv (some 24) (.bool true) rfl (fun _ h => h) ?_
          refine Ends.eqv (some 25) (.bool true) rfl (fun _ h => h) ?_
          refine Ends.eqv (some 26) (.pointer (some ⟨bx, 9, none⟩)) rfl (fun _ h => h) ?_
          refine Ends.eqv (some 27) (.agg #[.int .i64 x.r.code, .int .i64 x.r.ver, .string x.r.data, .slice x.A vn x.cap]) rfl (fun _ h => h) ?_
          refine Ends.eqv (some 28) (.pointer (some ⟨m, 0, none⟩)) rfl (fun _ h => h) ?_
          refine Ends.eqv (some 29) (.pointer (some ⟨bx, 3, none⟩)) rfl (fun _ h => h) ?_
          refine Ends.eqv (some 30) (.agg #[.int .i64 x.q.client, .int .i64 x.q.seq, .int .i64 x.q.kind, .int .i64 x.q.id, .int .i64 x.q.mat, .string x.q.data]) rfl (fun _ h => h) ?_
          refine Ends.eqv (some 31) (.int .i64 pl) rfl (fun _ h => h) ?_
          refine Ends.ex (some 32) rfl ?_
          rintro _ p17 ⟨A4, c4, rfl, i4⟩
          refine Ends.eqv (some 33) (.bool b) rfl (fun _ h => h) ?_
          refine Ends.eqv (some 34) (.bool b) rfl (fun _ h => h) ?_
          refine Ends.eqv (some 35) (.bool b) rfl (fun _ h => h) ?_
          refine Ends.eqv (some 10) (.bool b) rfl (fun _ h => h) ?_
          refine Ends.nil ?_
          clear hA9
          simp only [put_lit, put_none, List.set_cons_zero, List.set_cons_succ]
          have o9 := hS9
          clear hS9
          go_wp2_with fail
          go_ret
          first | exact ⟨retb HFIN.out, HO.out.trans' o9⟩ | exact ⟨rfl, HO.out.trans' o9⟩
      · have HFIN := hide (show false = b from by rw [← hb', ← HL.out]; simp [han])
        clear hb' hw
        go_enter Try.func26, Try.ntmps26
        go_upto_region 2 with (go_at_call 27; refine (cW.out).mono ?_; rintro e w1 ⟨rfl, h1⟩)
        refine region_steps (R := pick [eqv (.bool true), eqv (.bool false), eqv (.bool false), eqv (.int .i64 pl), eqv (.pointer (some ⟨m, 0, none⟩)), eqv (.pointer (some ⟨m, 0, none⟩)), eqv (.pointer (some ⟨m, 0, none⟩)), eqv (.slice A n cap), eqv (.int .i64 n), eqv (.bool false), eqv (.bool false), eqv (undef), eqv (undef), eqv (undef), eqv (undef), eqv (undef), eqv (undef), eqv (undef), eqv (undef), eqv (.bool false), eqv (.bool false), eqv (.bool false)]) (S := fun _ w' => Old WB w') (T := Old) (by kernel_rfl) (by kernel_rfl) (by kernel_rfl) (Stab.pick (Stab.eqv (Stab.eqv (Stab.eqv (Stab.eqv (Stab.eqv (Stab.eqv (Stab.eqv (Stab.eqv (Stab.eqv (Stab.eqv (Stab.eqv (Stab.eqv (Stab.eqv (Stab.eqv (Stab.eqv (Stab.eqv (Stab.eqv (Stab.eqv (Stab.eqv (Stab.eqv (Stab.eqv (Stab.eqv (Stab.nil)))))))))))))))))))))))) (h1.drew') ?steps ?ends
        case steps =>
          refine StepsOk.cons (stepOk_pure [] [(4, .bool true)] rfl rfl (by kernel_rfl) (by kernel_rfl) rfl Old.refl' (fun _ _ _ h => h) (fun d E w' hk hda hS hc hf => by rintro  e4; exact ⟨_, by go_simp, rfl⟩)) ?_
          refine StepsOk.cons (stepOk_pure [(0, 15)] [] rfl rfl (by kernel_rfl) (by kernel_rfl) rfl Old.refl' (fun _ _ _ h => h) (fun d E w' hk hda hS hc hf => by rintro _ q0 rfl e15 ; exact ⟨_, by go_simp, rfl⟩)) ?_
          refine StepsOk.cons (stepOk_pure [(1, 16)] [] rfl rfl (by kernel_rfl) (by kernel_rfl) rfl Old.refl' (fun _ _ _ h => h) (fun d E w' hk hda hS hc hf => by rintro _ q1 rfl e16 ; exact ⟨_, by go_simp, rfl⟩)) ?_
          refine StepsOk.cons (stepOk_pureG 2 17 false rfl rfl (by kernel_rfl) (fun _ _ h => h) [] [(3, .int .i64 pl)] (by kernel_rfl) (by kernel_rfl) rfl Old.refl' (fun _ _ _ h => h) (fun d E w' hk hda hS hc hf => by rintro  e3; exact ⟨_, by go_simp, rfl⟩)) ?_
          refine StepsOk.cons (stepOk_pureG 2 17 false rfl rfl (by kernel_rfl) (fun _ _ h => h) [] [(0, .pointer (some ⟨m, 0, none⟩))] (by kernel_rfl) (by kernel_rfl) rfl Old.refl' (fun _ _ _ h => h) (fun d E w' hk hda hS hc hf => by rintro  e0; exact ⟨_, by go_simp, rfl⟩)) ?_
          refine StepsOk.cons (stepOk_pureG 2 17 false rfl rfl (by kernel_rfl) (fun _ _ h => h) [(4, 19)] [] (by kernel_rfl) (by kernel_rfl) rfl Old.refl' (fun _ _ _ h => h) (fun d E w' hk hda hS hc hf => by rintro _ q4 rfl e19 ; exact ⟨_, by go_simp, rfl⟩)) ?_
          refine StepsOk.cons (stepOk_pureG 2 17 false rfl rfl (by kernel_rfl) (fun _ _ h => h) [(5, 20)] [] (by kernel_rfl) (by kernel_rfl) rfl Old.refl' (fun _ _ _ h => h) (fun d E w' hk hda hS hc hf => by rintro _ q5 rfl e20 ; exact ⟨_, by go_simp, rfl⟩)) ?_
          refine StepsOk.cons (stepOk_pureG 2 17 false rfl rfl (by kernel_rfl) (fun _ _ h => h) [(6, 21)] [] (by kernel_rfl) (by kernel_rfl) rfl Old.refl' (fun _ _ _ h => h) (fun d E w' hk hda hS hc hf => by rintro _ q6 rfl e21 ; obtain ⟨⟨s0, s1, s2, s3, s4, s5, s6, s7, s8, s9, s10, s11, s12, s13⟩, ⟨g0, g1, g2⟩⟩ := CS.out _ hS; exact ⟨_, by go_simp, rfl⟩)) ?_
          refine StepsOk.cons (stepOk_pureG 2 17 false rfl rfl (by kernel_rfl) (fun _ _ h => h) [(7, 22)] [] (by kernel_rfl) (by kernel_rfl) rfl Old.refl' (fun _ _ _ h => h) (fun d E w' hk hda hS hc hf => by rintro _ q7 rfl e22 ; exact ⟨_, by go_simp, rfl⟩)) ?_
          refine StepsOk.cons (stepOk_pureG 2 17 false rfl rfl (by kernel_rfl) (fun _ _ h => h) [(3, 18), (8, 23)] [] (by kernel_rfl) (by kernel_rfl) rfl Old.refl' (fun _ _ _ h => h) (fun d E w' hk hda hS hc hf => by rintro _ q3 rfl e18 _ q8 rfl e23 ; exact ⟨_, by go_simp, rfl⟩)) ?_
          refine StepsOk.cons (stepOk_pureG 2 17 false rfl rfl (by kernel_rfl) (fun _ _ h => h) [(9, 24)] [] (by kernel_rfl) (by kernel_rfl) rfl Old.refl' (fun _ _ _ h => h) (fun d E w' hk hda hS hc hf => by rintro _ q9 rfl e24 ; exact ⟨_, by go_simp, rfl⟩)) ?_
          refine StepsOk.cons (stepOk_skip 10 25 false rfl rfl (by kernel_rfl) Old.refl' (fun _ _ _ h => h) (fun _ _ h => h) (fun _ => rfl)) ?_
          refine StepsOk.cons (stepOk_skip 10 25 false rfl rfl (by kernel_rfl) Old.refl' (fun _ _ _ h => h) (fun _ _ h => h) (fun _ => rfl)) ?_
          refine StepsOk.cons (stepOk_skip 10 25 false rfl rfl (by kernel_rfl) Old.refl' (fun _ _ _ h => h) (fun _ _ h => h) (fun _ => rfl)) ?_
          refine StepsOk.cons (stepOk_skip 10 25 false rfl rfl (by kernel_rfl) Old.refl' (fun _ _ _ h => h) (fun _ _ h => h) (fun _ => rfl)) ?_
          refine StepsOk.cons (stepOk_skip 10 25 false rfl rfl (by kernel_rfl) Old.refl' (fun _ _ _ h => h) (fun _ _ h => h) (fun _ => rfl)) ?_
          refine StepsOk.cons (stepOk_skip 10 25 false rfl rfl (by kernel_rfl) Old.refl' (fun _ _ _ h => h) (fun _ _ h => h) (fun _ => rfl)) ?_
          refine StepsOk.cons (stepOk_skip 10 25 false rfl rfl (by kernel_rfl) Old.refl' (fun _ _ _ h => h) (fun _ _ h => h) (fun _ => rfl)) ?_
          refine StepsOk.cons (stepOk_skip 10 25 false rfl rfl (by kernel_rfl) Old.refl' (fun _ _ _ h => h) (fun _ _ h => h) (fun _ => rfl)) ?_
          refine StepsOk.cons (stepOk_pureG 2 17 false rfl rfl (by kernel_rfl) (fun _ _ h => h) [(10, 25), (18, 33)] [] (by kernel_rfl) (by kernel_rfl) rfl Old.refl' (fun _ _ _ h => h) (fun d E w' hk hda hS hc hf => by rintro _ q10 rfl e25 _ q18 rfl e33 ; exact ⟨_, by go_simp, rfl⟩)) ?_
          refine StepsOk.cons (stepOk_pure [(2, 17), (19, 34)] [] rfl rfl (by kernel_rfl) (by kernel_rfl) rfl Old.refl' (fun _ _ _ h => h) (fun d E w' hk hda hS hc hf => by rintro _ q2 rfl e17 _ q19 rfl e34 ; exact ⟨_, by go_simp, rfl⟩)) ?_
          refine StepsOk.cons (stepOk_pure [(20, 35)] [] rfl rfl (by kernel_rfl) (by kernel_rfl) rfl Old.refl' (fun _ _ _ h => h) (fun d E w' hk hda hS hc hf => by rintro _ q20 rfl e35 ; exact ⟨_, by go_simp, rfl⟩)) ?_
          exact StepsOk.nil
        case ends =>
          intro σ9 w9 hS9 hA9
          refine Ends.eqv (some 15) (.bool true) rfl (fun _ h => h) ?_
          refine Ends.eqv (some 16) (.bool false) rfl (fun _ h => h) ?_
          refine Ends.eqv (some 17) (.bool false) rfl (fun _ h => h) ?_
          refine Ends.eqv (some 18) (.int .i64 pl) rfl (fun _ h => h) ?_
          refine Ends.eqv (some 19) (.pointer (some ⟨m, 0, none⟩)) rfl (fun _ h => h) ?_
          refine Ends.eqv (some 20) (.pointer (some ⟨m, 0, none⟩)) rfl (fun _ h => h) ?_
          refine Ends.eqv (some 21) (.pointer (some ⟨m, 0, none⟩)) rfl (fun _ h => h) ?_
          refine Ends.eqv (some 22) (.slice A n cap) rfl (fun _ h => h) ?_
          refine Ends.eqv (some 23) (.int .i64 n) rfl (fun _ h => h) ?_
          refine Ends.eqv (some 24) (.bool false) rfl (fun _ h => h) ?_
          refine Ends.eqv (some 25) (.bool false) rfl (fun _ h => h) ?_
          refine Ends.eqv (some 26) (undef) rfl (fun _ h => h) ?_
          refine Ends.eqv (some 27) (undef) rfl (fun _ h => h) ?_
          refine Ends.eqv (some 28) (undef) rfl (fun _ h => h) ?_
          refine Ends.eqv (some 29) (undef) rfl (fun _ h => h) ?_
          refine Ends.eqv (some 30) (undef) rfl (fun _ h => h) ?_
          refine Ends.eqv (some 31) (undef) rfl (fun _ h => h) ?_
          refine Ends.eqv (some 32) (undef) rfl (fun _ h => h) ?_
          refine Ends.eqv (some 33) (undef) rfl (fun _ h => h) ?_
          refine Ends.eqv (some 34) (.bool false) rfl (fun _ h => h) ?_
          refine Ends.eqv (some 35) (.bool false) rfl (fun _ h => h) ?_
          refine Ends.eqv (some 10) (.bool false) rfl (fun _ h => h) ?_
          refine Ends.nil ?_
          clear hA9
          simp only [put_lit, put_none, List.set_cons_zero, List.set_cons_succ]
          have o9 := hS9
          clear hS9
          go_wp2_with fail
          go_ret
          first | exact ⟨retb HFIN.out, HO.out.trans' o9⟩ | exact ⟨rfl, HO.out.trans' o9⟩
  · have cW := hide (iWrites_at x.q.client x.q.seq x.q.kind x.q.id x.q.mat x.q.data true hw WB)
    have hb' : (decide (1 ≤ pl) && decide (pl ≤ (log.length : Int)) && decide (ask < pl) && (log[(pl - 1).toNat]?.getD default).eqb x.q && x.r.same ((runS qt (log.take (pl - 1).toNat)).rep (log[(pl - 1).toNat]?.getD default).q)) = b := by unfold rightP at hb; rwa [if_pos hw] at hb
    rw [← HL.out] at hb'
    clear hb hw
    by_cases h1a : 1 ≤ pl
    · by_cases han : pl ≤ (n : Int)
      · obtain ⟨M, hM⟩ : ∃ M : Nat, pl - 1 = M := ⟨(pl - 1).toNat, by omega⟩
        have hMn : M < n := by omega
        have hMi : (M : Int) < n := by omega
        have hMz : (0 : Int) ≤ M := by omega
        have hMw : IntKind.i64.wrap (M : Int) = (M : Int) := IntWalk.i64_in _ (by omega)
        obtain ⟨y, hy⟩ : ∃ y, log[M]?.getD default = y := ⟨_, rfl⟩
        obtain ⟨R, hR⟩ : ∃ R, (runS qt (log.take M)).rep y.q = R := ⟨_, rfl⟩
        rw [hM, Int.toNat_natCast, hy, hR] at hb'
        obtain ⟨b0, o, rfl, hb0, hc⟩ := hQB.at5 (k := M) (by have := HL.out; omega)
        rw [hy] at hc
        obtain ⟨br, ro, vc, A4, c4, rfl, hbr, hrep⟩ := hMB.rep hMn HL.out
        obtain ⟨z0, z1, z2, z3⟩ := hrep R (by rw [hy]; exact hR)
        have y0 := hc 0 _ (by omega) rfl
        have y1 := hc 1 _ (by omega) rfl
        have y2 := hc 2 _ (by omega) rfl
        have y3 := hc 3 _ (by omega) rfl
        have y4 := hc 4 _ (by omega) rfl
        have y5 := hc 5 _ (by omega) rfl
        have CS2 := hide (fun (U : World) (h : Old WB U) => (⟨(CS.out U h).1, (CS.out U h).2, ⟨(h.cell (p := ⟨b0, o + M * 6, none⟩) hb0).trans y0, (h.cell (p := ⟨b0, o + M * 6 + 1, none⟩) hb0).trans y1, (h.cell (p := ⟨b0, o + M * 6 + 2, none⟩) hb0).trans y2, (h.cell (p := ⟨b0, o + M * 6 + 3, none⟩) hb0).trans y3, (h.cell (p := ⟨b0, o + M * 6 + 4, none⟩) hb0).trans y4, (h.cell (p := ⟨b0, o + M * 6 + 5, none⟩) hb0).trans y5⟩,
          (h.cell (p := ⟨br, ro + M * 4, none⟩) hbr).trans z0, (h.cell (p := ⟨br, ro + M * 4 + 1, none⟩) hbr).trans z1, (h.cell (p := ⟨br, ro + M * 4 + 2, none⟩) hbr).trans z2, (h.cell (p := ⟨br, ro + M * 4 + 3, none⟩) hbr).trans z3⟩ :
          _ ∧ _ ∧ (U.cell? ⟨b0, o + M * 6, none⟩ = some (.int .i64 y.client) ∧ U.cell? ⟨b0, o + M * 6 + 1, none⟩ = some (.int .i64 y.seq) ∧ U.cell? ⟨b0, o + M * 6 + 2, none⟩ = some (.int .i64 y.kind) ∧ U.cell? ⟨b0, o + M * 6 + 3, none⟩ = some (.int .i64 y.id) ∧ U.cell? ⟨b0, o + M * 6 + 4, none⟩ = some (.int .i64 y.mat) ∧ U.cell? ⟨b0, o + M * 6 + 5, none⟩ = some (.string y.data)) ∧
          U.cell? ⟨br, ro + M * 4, none⟩ = some (.int .i64 R.code) ∧ U.cell? ⟨br, ro + M * 4 + 1, none⟩ = some (.int .i64 R.ver) ∧ U.cell? ⟨br, ro + M * 4 + 2, none⟩ = some (.string R.data) ∧ U.cell? ⟨br, ro + M * 4 + 3, none⟩ = some (.slice A4 0 c4)))
        have hRv : R.vs = [] := by rw [← hR]; exact rep_vs _ _
        have HRV := hide hRv
        clear y0 y1 y2 y3 y4 y5 z0 z1 z2 z3 hc hrep hy hR hRv hQB hMB
        by_cases hak : ask < pl
        · cases hE : y.eqb x.q
          · have cQ := hide (fun (U : World) => by have := PSameReq_any y x.q U; rw [hE] at this; exact this)
            have HFIN := hide (show false = b from by rw [← hb', hE]; simp)
            clear hb' hE
            go_enter Try.func26, Try.ntmps26
            go_upto_region 3 with (go_at_call 27; refine (cW.out).mono ?_; rintro e w1 ⟨rfl, h1⟩)
            refine region_steps (R := pick [eqv (.int .i64 pl), eqv (.bool true), eqv (.bool true), eqv (.int .i64 pl), eqv (.pointer (some ⟨m, 0, none⟩)), eqv (.pointer (some ⟨m, 0, none⟩)), eqv (.pointer (some ⟨m, 0, none⟩)), eqv (.slice (some ⟨b0, o, none⟩) n cap), eqv (.int .i64 n), eqv (.bool true), eqv (.bool true), eqv (.bool true), eqv (.int .i64 pl), eqv (.int .i64 ask), eqv (.bool true), eqv (.bool true), eqv (.bool true), eqv (.pointer (some ⟨m, 0, none⟩)), eqv (.pointer (some ⟨m, 0, none⟩)), eqv (.pointer (some ⟨m, 0, none⟩)), eqv (.slice (some ⟨b0, o, none⟩) n cap), eqv (.int .i64 pl), eqv (.int .i64 M), eqv (.pointer (some ⟨b0, o + M * 6, none⟩)), eqv (.agg #[.int .i64 y.client, .int .i64 y.seq, .int .i64 y.kind, .int .i64 y.id, .int .i64 y.mat, .string y.data]), eqv (.pointer (some ⟨bx, 3, none⟩)), eqv (.agg #[.int .i64 x.q.client, .int .i64 x.q.seq, .int .i64 x.q.kind, .int .i64 x.q.id, .int .i64 x.q.mat, .string x.q.data]), eqv (.bool false), eqv (.bool false), eqv (.bool false), eqv (undef), eqv (undef), eqv (undef), eqv (undef), eqv (undef), eqv (undef), eqv (undef), eqv (undef), eqv (undef), eqv (undef), eqv (undef), eqv (.bool false), eqv (.bool false)]) (S := fun _ w' => Old WB w') (T := Old) (by kernel_rfl) (by kernel_rfl) (by kernel_rfl) (Stab.pick (Stab.eqv (Stab.eqv (Stab.eqv (Stab.eqv (Stab.eqv (Stab.eqv (Stab.eqv (Stab.eqv (Stab.eqv (Stab.eqv (Stab.eqv (Stab.eqv (Stab.eqv (Stab.eqv (Stab.eqv (Stab.eqv (Stab.eqv (Stab.eqv (Stab.eqv (Stab.eqv (Stab.eqv (Stab.eqv (Stab.eqv (Stab.eqv (Stab.eqv (Stab.eqv (Stab.eqv (Stab.eqv (Stab.eqv (Stab.eqv (Stab.eqv (Stab.eqv (Stab.eqv (Stab.eqv (Stab.eqv (Stab.eqv (Stab.eqv (Stab.eqv (Stab.eqv (Stab.eqv (Stab.eqv (Stab.eqv (Stab.eqv (Stab.nil))))))))))))))))))))))))))))))))))))))))))))) (h1.drew') ?steps ?ends
            case steps =>
              refine StepsOk.cons (stepOk_pure [] [(3, .int .i64 pl)] rfl rfl (by kernel_rfl) (by kernel_rfl) rfl Old.refl' (fun _ _ _ h => h) (fun d E w' hk hda hS hc hf => by rintro  e3; exact ⟨_, by go_simp, rfl⟩)) ?_
              refine StepsOk.cons (stepOk_pure [(0, 36)] [] rfl rfl (by kernel_rfl) (by kernel_rfl) rfl Old.refl' (fun _ _ _ h => h) (fun d E w' hk hda hS hc hf => by rintro _ q0 rfl e36 ; exact ⟨_, by go_simp, rfl⟩)) ?_
              refine StepsOk.cons (stepOk_pure [(1, 37)] [] rfl rfl (by kernel_rfl) (by kernel_rfl) rfl Old.refl' (fun _ _ _ h => h) (fun d E w' hk hda hS hc hf => by rintro _ q1 rfl e37 ; exact ⟨_, by go_simp, rfl⟩)) ?_
              refine StepsOk.cons (stepOk_pureG 2 38 true rfl rfl (by kernel_rfl) (fun _ _ h => h) [] [(3, .int .i64 pl)] (by kernel_rfl) (by kernel_rfl) rfl Old.refl' (fun _ _ _ h => h) (fun d E w' hk hda hS hc hf => by rintro  e3; exact ⟨_, by go_simp, rfl⟩)) ?_
              refine StepsOk.cons (stepOk_pureG 2 38 true rfl rfl (by kernel_rfl) (fun _ _ h => h) [] [(0, .pointer (some ⟨m, 0, none⟩))] (by kernel_rfl) (by kernel_rfl) rfl Old.refl' (fun _ _ _ h => h) (fun d E w' hk hda hS hc hf => by rintro  e0; exact ⟨_, by go_simp, rfl⟩)) ?_
              refine StepsOk.cons (stepOk_pureG 2 38 true rfl rfl (by kernel_rfl) (fun _ _ h => h) [(4, 40)] [] (by kernel_rfl) (by kernel_rfl) rfl Old.refl' (fun _ _ _ h => h) (fun d E w' hk hda hS hc hf => by rintro _ q4 rfl e40 ; exact ⟨_, by go_simp, rfl⟩)) ?_
              refine StepsOk.cons (stepOk_pureG 2 38 true rfl rfl (by kernel_rfl) (fun _ _ h => h) [(5, 41)] [] (by kernel_rfl) (by kernel_rfl) rfl Old.refl' (fun _ _ _ h => h) (fun d E w' hk hda hS hc hf => by rintro _ q5 rfl e41 ; exact ⟨_, by go_simp, rfl⟩)) ?_
              refine StepsOk.cons (stepOk_pureG 2 38 true rfl rfl (by kernel_rfl) (fun _ _ h => h) [(6, 42)] [] (by kernel_rfl) (by kernel_rfl) rfl Old.refl' (fun _ _ _ h => h) (fun d E w' hk hda hS hc hf => by rintro _ q6 rfl e42 ; obtain ⟨⟨s0, s1, s2, s3, s4, s5, s6, s7, s8, s9, s10, s11, s12, s13⟩, ⟨g0, g1, g2⟩, ⟨y0, y1, y2, y3, y4, y5⟩, ⟨z0, z1, z2, z3⟩⟩ := CS2.out _ hS; exact ⟨_, by go_simp, rfl⟩)) ?_
              refine StepsOk.cons (stepOk_pureG 2 38 true rfl rfl (by kernel_rfl) (fun _ _ h => h) [(7, 43)] [] (by kernel_rfl) (by kernel_rfl) rfl Old.refl' (fun _ _ _ h => h) (fun d E w' hk hda hS hc hf => by rintro _ q7 rfl e43 ; exact ⟨_, by go_simp, rfl⟩)) ?_
              refine StepsOk.cons (stepOk_pureG 2 38 true rfl rfl (by kernel_rfl) (fun _ _ h => h) [(3, 39), (8, 44)] [] (by kernel_rfl) (by kernel_rfl) rfl Old.refl' (fun _ _ _ h => h) (fun d E w' hk hda hS hc hf => by rintro _ q3 rfl e39 _ q8 rfl e44 ; exact ⟨_, by go_simp, rfl⟩)) ?_
              refine StepsOk.cons (stepOk_pure [(2, 38), (9, 45)] [] rfl rfl (by kernel_rfl) (by kernel_rfl) rfl Old.refl' (fun _ _ _ h => h) (fun d E w' hk hda hS hc hf => by rintro _ q2 rfl e38 _ q9 rfl e45 ; exact ⟨_, by go_simp, rfl⟩)) ?_
              refine StepsOk.cons (stepOk_pure [(10, 46)] [] rfl rfl (by kernel_rfl) (by kernel_rfl) rfl Old.refl' (fun _ _ _ h => h) (fun d E w' hk hda hS hc hf => by rintro _ q10 rfl e46 ; exact ⟨_, by go_simp, rfl⟩)) ?_
              refine StepsOk.cons (stepOk_pureG 11 47 true rfl rfl (by kernel_rfl) (fun _ _ h => h) [] [(3, .int .i64 pl)] (by kernel_rfl) (by kernel_rfl) rfl Old.refl' (fun _ _ _ h => h) (fun d E w' hk hda hS hc hf => by rintro  e3; exact ⟨_, by go_simp, rfl⟩)) ?_
              refine StepsOk.cons (stepOk_pureG 11 47 true rfl rfl (by kernel_rfl) (fun _ _ h => h) [] [(2, .int .i64 ask)] (by kernel_rfl) (by kernel_rfl) rfl Old.refl' (fun _ _ _ h => h) (fun d E w' hk hda hS hc hf => by rintro  e2; exact ⟨_, by go_simp, rfl⟩)) ?_
              refine StepsOk.cons (stepOk_pureG 11 47 true rfl rfl (by kernel_rfl) (fun _ _ h => h) [(12, 48), (13, 49)] [] (by kernel_rfl) (by kernel_rfl) rfl Old.refl' (fun _ _ _ h => h) (fun d E w' hk hda hS hc hf => by rintro _ q12 rfl e48 _ q13 rfl e49 ; exact ⟨_, by go_simp, rfl⟩)) ?_
              refine StepsOk.cons (stepOk_pure [(11, 47), (14, 50)] [] rfl rfl (by kernel_rfl) (by kernel_rfl) rfl Old.refl' (fun _ _ _ h => h) (fun d E w' hk hda hS hc hf => by rintro _ q11 rfl e47 _ q14 rfl e50 ; exact ⟨_, by go_simp, rfl⟩)) ?_
              refine StepsOk.cons (stepOk_pure [(15, 51)] [] rfl rfl (by kernel_rfl) (by kernel_rfl) rfl Old.refl' (fun _ _ _ h => h) (fun d E w' hk hda hS hc hf => by rintro _ q15 rfl e51 ; exact ⟨_, by go_simp, rfl⟩)) ?_
              refine StepsOk.cons (stepOk_pureG 16 52 true rfl rfl (by kernel_rfl) (fun _ _ h => h) [] [(0, .pointer (some ⟨m, 0, none⟩))] (by kernel_rfl) (by kernel_rfl) rfl Old.refl' (fun _ _ _ h => h) (fun d E w' hk hda hS hc hf => by rintro  e0; exact ⟨_, by go_simp, rfl⟩)) ?_
              refine StepsOk.cons (stepOk_pureG 16 52 true rfl rfl (by kernel_rfl) (fun _ _ h => h) [(17, 53)] [] (by kernel_rfl) (by kernel_rfl) rfl Old.refl' (fun _ _ _ h => h) (fun d E w' hk hda hS hc hf => by rintro _ q17 rfl e53 ; exact ⟨_, by go_simp, rfl⟩)) ?_
              refine StepsOk.cons (stepOk_pureG 16 52 true rfl rfl (by kernel_rfl) (fun _ _ h => h) [(18, 54)] [] (by kernel_rfl) (by kernel_rfl) rfl Old.refl' (fun _ _ _ h => h) (fun d E w' hk hda hS hc hf => by rintro _ q18 rfl e54 ; exact ⟨_, by go_simp, rfl⟩)) ?_
              refine StepsOk.cons (stepOk_pureG 16 52 true rfl rfl (by kernel_rfl) (fun _ _ h => h) [(19, 55)] [] (by kernel_rfl) (by kernel_rfl) rfl Old.refl' (fun _ _ _ h => h) (fun d E w' hk hda hS hc hf => by rintro _ q19 rfl e55 ; obtain ⟨⟨s0, s1, s2, s3, s4, s5, s6, s7, s8, s9, s10, s11, s12, s13⟩, ⟨g0, g1, g2⟩, ⟨y0, y1, y2, y3, y4, y5⟩, ⟨z0, z1, z2, z3⟩⟩ := CS2.out _ hS; exact ⟨_, by go_simp, rfl⟩)) ?_
              refine StepsOk.cons (stepOk_pureG 16 52 true rfl rfl (by kernel_rfl) (fun _ _ h => h) [] [(3, .int .i64 pl)] (by kernel_rfl) (by kernel_rfl) rfl Old.refl' (fun _ _ _ h => h) (fun d E w' hk hda hS hc hf => by rintro  e3; exact ⟨_, by go_simp, rfl⟩)) ?_
              refine StepsOk.cons (stepOk_pureG 16 52 true rfl rfl (by kernel_rfl) (fun _ _ h => h) [(21, 57)] [] (by kernel_rfl) (by kernel_rfl) rfl Old.refl' (fun _ _ _ h => h) (fun d E w' hk hda hS hc hf => by rintro _ q21 rfl e57 ; exact ⟨_, by go_simp, rfl⟩)) ?_
              refine StepsOk.cons (stepOk_pureG 16 52 true rfl rfl (by kernel_rfl) (fun _ _ h => h) [(20, 56), (22, 58)] [] (by kernel_rfl) (by kernel_rfl) rfl Old.refl' (fun _ _ _ h => h) (fun d E w' hk hda hS hc hf => by rintro _ q20 rfl e56 _ q22 rfl e58 ; obtain ⟨⟨s0, s1, s2, s3, s4, s5, s6, s7, s8, s9, s10, s11, s12, s13⟩, ⟨g0, g1, g2⟩, ⟨y0, y1, y2, y3, y4, y5⟩, ⟨z0, z1, z2, z3⟩⟩ := CS2.out _ hS; exact ⟨_, by go_simp, rfl⟩)) ?_
              refine StepsOk.cons (stepOk_pureG 16 52 true rfl rfl (by kernel_rfl) (fun _ _ h => h) [(23, 59)] [] (by kernel_rfl) (by kernel_rfl) rfl Old.refl' (fun _ _ _ h => h) (fun d E w' hk hda hS hc hf => by rintro _ q23 rfl e59 ; obtain ⟨⟨s0, s1, s2, s3, s4, s5, s6, s7, s8, s9, s10, s11, s12, s13⟩, ⟨g0, g1, g2⟩, ⟨y0, y1, y2, y3, y4, y5⟩, ⟨z0, z1, z2, z3⟩⟩ := CS2.out _ hS; exact ⟨_, by go_simp, rfl⟩)) ?_
              refine StepsOk.cons (stepOk_pureG 16 52 true rfl rfl (by kernel_rfl) (fun _ _ h => h) [] [(6, .pointer (some ⟨bx, 0, none⟩))] (by kernel_rfl) (by kernel_rfl) rfl Old.refl' (fun _ _ _ h => h) (fun d E w' hk hda hS hc hf => by rintro  e6; exact ⟨_, by go_simp, rfl⟩)) ?_
              refine StepsOk.cons (stepOk_pureG 16 52 true rfl rfl (by kernel_rfl) (fun _ _ h => h) [(25, 61)] [] (by kernel_rfl) (by kernel_rfl) rfl Old.refl' (fun _ _ _ h => h) (fun d E w' hk hda hS hc hf => by rintro _ q25 rfl e61 ; obtain ⟨⟨s0, s1, s2, s3, s4, s5, s6, s7, s8, s9, s10, s11, s12, s13⟩, ⟨g0, g1, g2⟩, ⟨y0, y1, y2, y3, y4, y5⟩, ⟨z0, z1, z2, z3⟩⟩ := CS2.out _ hS; exact ⟨_, by go_simp, rfl⟩)) ?_
              refine StepsOk.cons (stepOk_guard 16 52 true rfl rfl (by kernel_rfl) (fun _ _ h => h) [(24, 60), (26, 62)] [] (by kernel_rfl) (by kernel_rfl) rfl ?_) ?_
              · rintro d a w' hk hda hS _ q24 rfl e60 _ q26 rfl e62 
                first | refine Given.nil (Known.nil ?_) | refine Known.nil ?_
                refine wp_call 43 _ Try.func43 (by kernel_rfl) (by kernel_rfl) _ _ (by rfl) [.agg #[.int .i64 y.client, .int .i64 y.seq, .int .i64 y.kind, .int .i64 y.id, .int .i64 y.mat, .string y.data], .agg #[.int .i64 x.q.client, .int .i64 x.q.seq, .int .i64 x.q.kind, .int .i64 x.q.id, .int .i64 x.q.mat, .string x.q.data]] (by simp only [List.map_cons, List.map_nil, *]; try rfl) (cQ.out _) ?_
                rintro e w1 ⟨rfl, f4⟩
                exact ⟨_, rfl, _, rfl, rfl, f4, hS.trans' f4⟩
              refine StepsOk.cons (stepOk_pure [(16, 52), (27, 63)] [] rfl rfl (by kernel_rfl) (by kernel_rfl) rfl Old.refl' (fun _ _ _ h => h) (fun d E w' hk hda hS hc hf => by rintro _ q16 rfl e52 _ q27 rfl e63 ; exact ⟨_, by go_simp, rfl⟩)) ?_
              refine StepsOk.cons (stepOk_pure [(28, 64)] [] rfl rfl (by kernel_rfl) (by kernel_rfl) rfl Old.refl' (fun _ _ _ h => h) (fun d E w' hk hda hS hc hf => by rintro _ q28 rfl e64 ; exact ⟨_, by go_simp, rfl⟩)) ?_
              refine StepsOk.cons (stepOk_skip 29 65 false rfl rfl (by kernel_rfl) Old.refl' (fun _ _ _ h => h) (fun _ _ h => h) (fun _ => rfl)) ?_
              refine StepsOk.cons (stepOk_skip 29 65 false rfl rfl (by kernel_rfl) Old.refl' (fun _ _ _ h => h) (fun _ _ h => h) (fun _ => rfl)) ?_
              refine StepsOk.cons (stepOk_skip 29 65 false rfl rfl (by kernel_rfl) Old.refl' (fun _ _ _ h => h) (fun _ _ h => h) (fun _ => rfl)) ?_
              refine StepsOk.cons (stepOk_skip 29 65 false rfl rfl (by kernel_rfl) Old.refl' (fun _ _ _ h => h) (fun _ _ h => h) (fun _ => rfl)) ?_
              refine StepsOk.cons (stepOk_skip 29 65 false rfl rfl (by kernel_rfl) Old.refl' (fun _ _ _ h => h) (fun _ _ h => h) (fun _ => rfl)) ?_
              refine StepsOk.cons (stepOk_skip 29 65 false rfl rfl (by kernel_rfl) Old.refl' (fun _ _ _ h => h) (fun _ _ h => h) (fun _ => rfl)) ?_
              refine StepsOk.cons (stepOk_skip 29 65 false rfl rfl (by kernel_rfl) Old.refl' (fun _ _ _ h => h) (fun _ _ h => h) (fun _ => rfl)) ?_
              refine StepsOk.cons (stepOk_skip 29 65 false rfl rfl (by kernel_rfl) Old.refl' (fun _ _ _ h => h) (fun _ _ h => h) (fun _ => rfl)) ?_
              refine StepsOk.cons (stepOk_skip 29 65 false rfl rfl (by kernel_rfl) Old.refl' (fun _ _ _ h => h) (fun _ _ h => h) (fun _ => rfl)) ?_
              refine StepsOk.cons (stepOk_skip 29 65 false rfl rfl (by kernel_rfl) Old.refl' (fun _ _ _ h => h) (fun _ _ h => h) (fun _ => rfl)) ?_
              refine StepsOk.cons (stepOk_skip 29 65 false rfl rfl (by kernel_rfl) Old.refl' (fun _ _ _ h => h) (fun _ _ h => h) (fun _ => rfl)) ?_
              refine StepsOk.cons (stepOk_pure [(29, 65), (40, 76)] [] rfl rfl (by kernel_rfl) (by kernel_rfl) rfl Old.refl' (fun _ _ _ h => h) (fun d E w' hk hda hS hc hf => by rintro _ q29 rfl e65 _ q40 rfl e76 ; exact ⟨_, by go_simp, rfl⟩)) ?_
              refine StepsOk.cons (stepOk_pure [(41, 77)] [] rfl rfl (by kernel_rfl) (by kernel_rfl) rfl Old.refl' (fun _ _ _ h => h) (fun d E w' hk hda hS hc hf => by rintro _ q41 rfl e77 ; exact ⟨_, by go_simp, rfl⟩)) ?_
              exact StepsOk.nil
            case ends =>
              intro σ9 w9 hS9 hA9
              refine Ends.eqv (some 36) (.int .i64 pl) rfl (fun _ h => h) ?_
              refine Ends.eqv (some 37) (.bool true) rfl (fun _ h => h) ?_
              refine Ends.eqv (some 38) (.bool true) rfl (fun _ h => h) ?_
              refine Ends.eqv (some 39) (.int .i64 pl) rfl (fun _ h => h) ?_
              refine Ends.eqv (some 40) (.pointer (some ⟨m, 0, none⟩)) rfl (fun _ h => h) ?_
              refine Ends.eqv (some 41) (.pointer (some ⟨m, 0, none⟩)) rfl (fun _ h => h) ?_
              refine Ends.eqv (some 42) (.pointer (some ⟨m, 0, none⟩)) rfl (fun _ h => h) ?_
              refine Ends.eqv (some 43) (.slice (some ⟨b0, o, none⟩) n cap) rfl (fun _ h => h) ?_
              refine Ends.eqv (some 44) (.int .i64 n) rfl (fun _ h => h) ?_
              refine Ends.eqv (some 45) (.bool true) rfl (fun _ h => h) ?_
              refine Ends.eqv (some 46) (.bool true) rfl (fun _ h => h) ?_
              refine Ends.eqv (some 47) (.bool true) rfl (fun _ h => h) ?_
              refine Ends.eqv (some 48) (.int .i64 pl) rfl (fun _ h => h) ?_
              refine Ends.eqv (some 49) (.int .i64 ask) rfl (fun _ h => h) ?_
              refine Ends.eqv (some 50) (.bool true) rfl (fun _ h => h) ?_
              refine Ends.eqv (some 51) (.bool true) rfl (fun _ h => h) ?_
              refine Ends.eqv (some 52) (.bool true) rfl (fun _ h => h) ?_
              refine Ends.eqv (some 53) (.pointer (some ⟨m, 0, none⟩)) rfl (fun _ h => h) ?_
              refine Ends.eqv (some 54) (.pointer (some ⟨m, 0, none⟩)) rfl (fun _ h => h) ?_
              refine Ends.eqv (some 55) (.pointer (some ⟨m, 0, none⟩)) rfl (fun _ h => h) ?_
              refine Ends.eqv (some 56) (.slice (some ⟨b0, o, none⟩) n cap) rfl (fun _ h => h) ?_
              refine Ends.eqv (some 57) (.int .i64 pl) rfl (fun _ h => h) ?_
              refine Ends.eqv (some 58) (.int .i64 M) rfl (fun _ h => h) ?_
              refine Ends.eqv (some 59) (.pointer (some ⟨b0, o + M * 6, none⟩)) rfl (fun _ h => h) ?_
              refine Ends.eqv (some 60) (.agg #[.int .i64 y.client, .int .i64 y.seq, .int .i64 y.kind, .int .i64 y.id, .int .i64 y.mat, .string y.data]) rfl (fun _ h => h) ?_
              refine Ends.eqv (some 61) (.pointer (some ⟨bx, 3, none⟩)) rfl (fun _ h => h) ?_
              refine Ends.eqv (some 62) (.agg #[.int .i64 x.q.client, .int .i64 x.q.seq, .int .i64 x.q.kind, .int .i64 x.q.id, .int .i64 x.q.mat, .string x.q.data]) rfl (fun _ h => h) ?_
              refine Ends.eqv (some 63) (.bool false) rfl (fun _ h => h) ?_
              refine Ends.eqv (some 64) (.bool false) rfl (fun _ h => h) ?_
              refine Ends.eqv (some 65) (.bool false) rfl (fun _ h => h) ?_
              refine Ends.eqv (some 66) (undef) rfl (fun _ h => h) ?_
              refine Ends.eqv (some 67) (undef) rfl (fun _ h => h) ?_
              refine Ends.eqv (some 68) (undef) rfl (fun _ h => h) ?_
              refine Ends.eqv (some 69) (undef) rfl (fun _ h => h) ?_
              refine Ends.eqv (some 70) (undef) rfl (fun _ h => h) ?_
              refine Ends.eqv (some 71) (undef) rfl (fun _ h => h) ?_
              refine Ends.eqv (some 72) (undef) rfl (fun _ h => h) ?_
              refine Ends.eqv (some 73) (undef) rfl (fun _ h => h) ?_
              refine Ends.eqv (some 74) (undef) rfl (fun _ h => h) ?_
              refine Ends.eqv (some 75) (undef) rfl (fun _ h => h) ?_
              refine Ends.eqv (some 76) (undef) rfl (fun _ h => h) ?_
              refine Ends.eqv (some 77) (.bool false) rfl (fun _ h => h) ?_
              refine Ends.eqv (some 10) (.bool false) rfl (fun _ h => h) ?_
              refine Ends.nil ?_
              clear hA9
              simp only [put_lit, put_none, List.set_cons_zero, List.set_cons_succ]
              have o9 := hS9
              clear hS9
              go_wp2_with fail
              go_ret
              first | exact ⟨retb HFIN.out, HO.out.trans' o9⟩ | exact ⟨rfl, HO.out.trans' o9⟩
          · have cQ := hide (fun (U : World) => by have := PSameReq_any y x.q U; rw [hE] at this; exact this)
            have HFIN := hide (show x.r.same R = b from by rw [← hb', hE]; have hanl : pl ≤ (log.length : Int) := (by rw [← HL.out]; exact han); simp [h1a, han, hanl, hak])
            have cS := hide (fun (U : World) (h : Old WB U) => by have := PSame_any x.r R x.A A4 vn 0 x.cap c4 U (CellsAt.old hIB h) (by rw [HRV.out]; exact CellsAt.nil _ _) HVN.out.symm (by rw [HRV.out]; rfl) hv (by omega); rw [HFIN.out] at this; exact this)
            have HFIN := hide (rfl : b = b)
            clear hb' hE
            go_enter Try.func26, Try.ntmps26
            go_upto_region 3 with (go_at_call 27; refine (cW.out).mono ?_; rintro e w1 ⟨rfl, h1⟩)
            refine region_steps (R := pick [eqv (.int .i64 pl), eqv (.bool true), eqv (.bool true), eqv (.int .i64 pl), eqv (.pointer (some ⟨m, 0, none⟩)), eqv (.pointer (some ⟨m, 0, none⟩)), eqv (.pointer (some ⟨m, 0, none⟩)), eqv (.slice (some ⟨b0, o, none⟩) n cap), eqv (.int .i64 n), eqv (.bool true), eqv (.bool true), eqv (.bool true), eqv (.int .i64 pl), eqv (.int .i64 ask), eqv (.bool true), eqv (.bool true), eqv (.bool true), eqv (.pointer (some ⟨m, 0, none⟩)), eqv (.pointer (some ⟨m, 0, none⟩)), eqv (.pointer (some ⟨m, 0, none⟩)), eqv (.slice (some ⟨b0, o, none⟩) n cap), eqv (.int .i64 pl), eqv (.int .i64 M), eqv (.pointer (some ⟨b0, o + M * 6, none⟩)), eqv (.agg #[.int .i64 y.client, .int .i64 y.seq, .int .i64 y.kind, .int .i64 y.id, .int .i64 y.mat, .string y.data]), eqv (.pointer (some ⟨bx, 3, none⟩)), eqv (.agg #[.int .i64 x.q.client, .int .i64 x.q.seq, .int .i64 x.q.kind, .int .i64 x.q.id, .int .i64 x.q.mat, .string x.q.data]), eqv (.bool true), eqv (.bool true), eqv (.bool true), eqv (.pointer (some ⟨bx, 9, none⟩)), eqv (.agg #[.int .i64 x.r.code, .int .i64 x.r.ver, .string x.r.data, .slice x.A vn x.cap]), eqv (.pointer (some ⟨m, 0, none⟩)), eqv (.pointer (some ⟨m, 0, none⟩)), eqv (.pointer (some ⟨m, 2, none⟩)), eqv (.slice (some ⟨br, ro, none⟩) n vc), eqv (.int .i64 pl), eqv (.int .i64 M), eqv (.pointer (some ⟨br, ro + M * 4, none⟩)), eqv (.agg #[.int .i64 R.code, .int .i64 R.ver, .string R.data, .slice A4 0 c4]), eqv (.bool b), eqv (.bool b), eqv (.bool b)]) (S := fun _ w' => Old WB w') (T := Old) (by kernel_rfl) (by kernel_rfl) (by kernel_rfl) (Stab.pick (Stab.eqv (Stab.eqv (Stab.eqv (Stab.eqv (Stab.eqv (Stab.eqv (Stab.eqv (Stab.eqv (Stab.eqv (Stab.eqv (Stab.eqv (Stab.eqv (Stab.eqv (Stab.eqv (Stab.eqv (Stab.eqv (Stab.eqv (Stab.eqv (Stab.eqv (Stab.eqv (Stab.eqv (Stab.eqv (Stab.eqv (Stab.eqv (Stab.eqv (Stab.eqv (Stab.eqv (Stab.eqv (Stab.eqv (Stab.eqv (Stab.eqv (Stab.eqv (Stab.eqv (Stab.eqv (Stab.eqv (Stab.eqv (Stab.eqv (Stab.eqv (Stab.eqv (Stab.eqv (Stab.eqv (Stab.eqv (Stab.eqv (Stab.nil))))))))))))))))))))))))))))))))))))))))))))) (h1.drew') ?steps ?ends
            case steps =>
              refine StepsOk.cons (stepOk_pure [] [(3, .int .i64 pl)] rfl rfl (by kernel_rfl) (by kernel_rfl) rfl Old.refl' (fun _ _ _ h => h) (fun d E w' hk hda hS hc hf => by rintro  e3; exact ⟨_, by go_simp, rfl⟩)) ?_
              refine StepsOk.cons (stepOk_pure [(0, 36)] [] rfl rfl (by kernel_rfl) (by kernel_rfl) rfl Old.refl' (fun _ _ _ h => h) (fun d E w' hk hda hS hc hf => by rintro _ q0 rfl e36 ; exact ⟨_, by go_simp, rfl⟩)) ?_
              refine StepsOk.cons (stepOk_pure [(1, 37)] [] rfl rfl (by kernel_rfl) (by kernel_rfl) rfl Old.refl' (fun _ _ _ h => h) (fun d E w' hk hda hS hc hf => by rintro _ q1 rfl e37 ; exact ⟨_, by go_simp, rfl⟩)) ?_
              refine StepsOk.cons (stepOk_pureG 2 38 true rfl rfl (by kernel_rfl) (fun _ _ h => h) [] [(3, .int .i64 pl)] (by kernel_rfl) (by kernel_rfl) rfl Old.refl' (fun _ _ _ h => h) (fun d E w' hk hda hS hc hf => by rintro  e3; exact ⟨_, by go_simp, rfl⟩)) ?_
              refine StepsOk.cons (stepOk_pureG 2 38 true rfl rfl (by kernel_rfl) (fun _ _ h => h) [] [(0, .pointer (some ⟨m, 0, none⟩))] (by kernel_rfl) (by kernel_rfl) rfl Old.refl' (fun _ _ _ h => h) (fun d E w' hk hda hS hc hf => by rintro  e0; exact ⟨_, by go_simp, rfl⟩)) ?_
              refine StepsOk.cons (stepOk_pureG 2 38 true rfl rfl (by kernel_rfl) (fun _ _ h => h) [(4, 40)] [] (by kernel_rfl) (by kernel_rfl) rfl Old.refl' (fun _ _ _ h => h) (fun d E w' hk hda hS hc hf => by rintro _ q4 rfl e40 ; exact ⟨_, by go_simp, rfl⟩)) ?_
              refine StepsOk.cons (stepOk_pureG 2 38 true rfl rfl (by kernel_rfl) (fun _ _ h => h) [(5, 41)] [] (by kernel_rfl) (by kernel_rfl) rfl Old.refl' (fun _ _ _ h => h) (fun d E w' hk hda hS hc hf => by rintro _ q5 rfl e41 ; exact ⟨_, by go_simp, rfl⟩)) ?_
              refine StepsOk.cons (stepOk_pureG 2 38 true rfl rfl (by kernel_rfl) (fun _ _ h => h) [(6, 42)] [] (by kernel_rfl) (by kernel_rfl) rfl Old.refl' (fun _ _ _ h => h) (fun d E w' hk hda hS hc hf => by rintro _ q6 rfl e42 ; obtain ⟨⟨s0, s1, s2, s3, s4, s5, s6, s7, s8, s9, s10, s11, s12, s13⟩, ⟨g0, g1, g2⟩, ⟨y0, y1, y2, y3, y4, y5⟩, ⟨z0, z1, z2, z3⟩⟩ := CS2.out _ hS; exact ⟨_, by go_simp, rfl⟩)) ?_
              refine StepsOk.cons (stepOk_pureG 2 38 true rfl rfl (by kernel_rfl) (fun _ _ h => h) [(7, 43)] [] (by kernel_rfl) (by kernel_rfl) rfl Old.refl' (fun _ _ _ h => h) (fun d E w' hk hda hS hc hf => by rintro _ q7 rfl e43 ; exact ⟨_, by go_simp, rfl⟩)) ?_
              refine StepsOk.cons (stepOk_pureG 2 38 true rfl rfl (by kernel_rfl) (fun _ _ h => h) [(3, 39), (8, 44)] [] (by kernel_rfl) (by kernel_rfl) rfl Old.refl' (fun _ _ _ h => h) (fun d E w' hk hda hS hc hf => by rintro _ q3 rfl e39 _ q8 rfl e44 ; exact ⟨_, by go_simp, rfl⟩)) ?_
              refine StepsOk.cons (stepOk_pure [(2, 38), (9, 45)] [] rfl rfl (by kernel_rfl) (by kernel_rfl) rfl Old.refl' (fun _ _ _ h => h) (fun d E w' hk hda hS hc hf => by rintro _ q2 rfl e38 _ q9 rfl e45 ; exact ⟨_, by go_simp, rfl⟩)) ?_
              refine StepsOk.cons (stepOk_pure [(10, 46)] [] rfl rfl (by kernel_rfl) (by kernel_rfl) rfl Old.refl' (fun _ _ _ h => h) (fun d E w' hk hda hS hc hf => by rintro _ q10 rfl e46 ; exact ⟨_, by go_simp, rfl⟩)) ?_
              refine StepsOk.cons (stepOk_pureG 11 47 true rfl rfl (by kernel_rfl) (fun _ _ h => h) [] [(3, .int .i64 pl)] (by kernel_rfl) (by kernel_rfl) rfl Old.refl' (fun _ _ _ h => h) (fun d E w' hk hda hS hc hf => by rintro  e3; exact ⟨_, by go_simp, rfl⟩)) ?_
              refine StepsOk.cons (stepOk_pureG 11 47 true rfl rfl (by kernel_rfl) (fun _ _ h => h) [] [(2, .int .i64 ask)] (by kernel_rfl) (by kernel_rfl) rfl Old.refl' (fun _ _ _ h => h) (fun d E w' hk hda hS hc hf => by rintro  e2; exact ⟨_, by go_simp, rfl⟩)) ?_
              refine StepsOk.cons (stepOk_pureG 11 47 true rfl rfl (by kernel_rfl) (fun _ _ h => h) [(12, 48), (13, 49)] [] (by kernel_rfl) (by kernel_rfl) rfl Old.refl' (fun _ _ _ h => h) (fun d E w' hk hda hS hc hf => by rintro _ q12 rfl e48 _ q13 rfl e49 ; exact ⟨_, by go_simp, rfl⟩)) ?_
              refine StepsOk.cons (stepOk_pure [(11, 47), (14, 50)] [] rfl rfl (by kernel_rfl) (by kernel_rfl) rfl Old.refl' (fun _ _ _ h => h) (fun d E w' hk hda hS hc hf => by rintro _ q11 rfl e47 _ q14 rfl e50 ; exact ⟨_, by go_simp, rfl⟩)) ?_
              refine StepsOk.cons (stepOk_pure [(15, 51)] [] rfl rfl (by kernel_rfl) (by kernel_rfl) rfl Old.refl' (fun _ _ _ h => h) (fun d E w' hk hda hS hc hf => by rintro _ q15 rfl e51 ; exact ⟨_, by go_simp, rfl⟩)) ?_
              refine StepsOk.cons (stepOk_pureG 16 52 true rfl rfl (by kernel_rfl) (fun _ _ h => h) [] [(0, .pointer (some ⟨m, 0, none⟩))] (by kernel_rfl) (by kernel_rfl) rfl Old.refl' (fun _ _ _ h => h) (fun d E w' hk hda hS hc hf => by rintro  e0; exact ⟨_, by go_simp, rfl⟩)) ?_
              refine StepsOk.cons (stepOk_pureG 16 52 true rfl rfl (by kernel_rfl) (fun _ _ h => h) [(17, 53)] [] (by kernel_rfl) (by kernel_rfl) rfl Old.refl' (fun _ _ _ h => h) (fun d E w' hk hda hS hc hf => by rintro _ q17 rfl e53 ; exact ⟨_, by go_simp, rfl⟩)) ?_
              refine StepsOk.cons (stepOk_pureG 16 52 true rfl rfl (by kernel_rfl) (fun _ _ h => h) [(18, 54)] [] (by kernel_rfl) (by kernel_rfl) rfl Old.refl' (fun _ _ _ h => h) (fun d E w' hk hda hS hc hf => by rintro _ q18 rfl e54 ; exact ⟨_, by go_simp, rfl⟩)) ?_
              refine StepsOk.cons (stepOk_pureG 16 52 true rfl rfl (by kernel_rfl) (fun _ _ h => h) [(19, 55)] [] (by kernel_rfl) (by kernel_rfl) rfl Old.refl' (fun _ _ _ h => h) (fun d E w' hk hda hS hc hf => by rintro _ q19 rfl e55 ; obtain ⟨⟨s0, s1, s2, s3, s4, s5, s6, s7, s8, s9, s10, s11, s12, s13⟩, ⟨g0, g1, g2⟩, ⟨y0, y1, y2, y3, y4, y5⟩, ⟨z0, z1, z2, z3⟩⟩ := CS2.out _ hS; exact ⟨_, by go_simp, rfl⟩)) ?_
              refine StepsOk.cons (stepOk_pureG 16 52 true rfl rfl (by kernel_rfl) (fun _ _ h => h) [] [(3, .int .i64 pl)] (by kernel_rfl) (by kernel_rfl) rfl Old.refl' (fun _ _ _ h => h) (fun d E w' hk hda hS hc hf => by rintro  e3; exact ⟨_, by go_simp, rfl⟩)) ?_
              refine StepsOk.cons (stepOk_pureG 16 52 true rfl rfl (by kernel_rfl) (fun _ _ h => h) [(21, 57)] [] (by kernel_rfl) (by kernel_rfl) rfl Old.refl' (fun _ _ _ h => h) (fun d E w' hk hda hS hc hf => by rintro _ q21 rfl e57 ; exact ⟨_, by go_simp, rfl⟩)) ?_
              refine StepsOk.cons (stepOk_pureG 16 52 true rfl rfl (by kernel_rfl) (fun _ _ h => h) [(20, 56), (22, 58)] [] (by kernel_rfl) (by kernel_rfl) rfl Old.refl' (fun _ _ _ h => h) (fun d E w' hk hda hS hc hf => by rintro _ q20 rfl e56 _ q22 rfl e58 ; obtain ⟨⟨s0, s1, s2, s3, s4, s5, s6, s7, s8, s9, s10, s11, s12, s13⟩, ⟨g0, g1, g2⟩, ⟨y0, y1, y2, y3, y4, y5⟩, ⟨z0, z1, z2, z3⟩⟩ := CS2.out _ hS; exact ⟨_, by go_simp, rfl⟩)) ?_
              refine StepsOk.cons (stepOk_pureG 16 52 true rfl rfl (by kernel_rfl) (fun _ _ h => h) [(23, 59)] [] (by kernel_rfl) (by kernel_rfl) rfl Old.refl' (fun _ _ _ h => h) (fun d E w' hk hda hS hc hf => by rintro _ q23 rfl e59 ; obtain ⟨⟨s0, s1, s2, s3, s4, s5, s6, s7, s8, s9, s10, s11, s12, s13⟩, ⟨g0, g1, g2⟩, ⟨y0, y1, y2, y3, y4, y5⟩, ⟨z0, z1, z2, z3⟩⟩ := CS2.out _ hS; exact ⟨_, by go_simp, rfl⟩)) ?_
              refine StepsOk.cons (stepOk_pureG 16 52 true rfl rfl (by kernel_rfl) (fun _ _ h => h) [] [(6, .pointer (some ⟨bx, 0, none⟩))] (by kernel_rfl) (by kernel_rfl) rfl Old.refl' (fun _ _ _ h => h) (fun d E w' hk hda hS hc hf => by rintro  e6; exact ⟨_, by go_simp, rfl⟩)) ?_
              refine StepsOk.cons (stepOk_pureG 16 52 true rfl rfl (by kernel_rfl) (fun _ _ h => h) [(25, 61)] [] (by kernel_rfl) (by kernel_rfl) rfl Old.refl' (fun _ _ _ h => h) (fun d E w' hk hda hS hc hf => by rintro _ q25 rfl e61 ; obtain ⟨⟨s0, s1, s2, s3, s4, s5, s6, s7, s8, s9, s10, s11, s12, s13⟩, ⟨g0, g1, g2⟩, ⟨y0, y1, y2, y3, y4, y5⟩, ⟨z0, z1, z2, z3⟩⟩ := CS2.out _ hS; exact ⟨_, by go_simp, rfl⟩)) ?_
              refine StepsOk.cons (stepOk_guard 16 52 true rfl rfl (by kernel_rfl) (fun _ _ h => h) [(24, 60), (26, 62)] [] (by kernel_rfl) (by kernel_rfl) rfl ?_) ?_
              · rintro d a w' hk hda hS _ q24 rfl e60 _ q26 rfl e62 
                first | refine Given.nil (Known.nil ?_) | refine Known.nil ?_
                refine wp_call 43 _ Try.func43 (by kernel_rfl) (by kernel_rfl) _ _ (by rfl) [.agg #[.int .i64 y.client, .int .i64 y.seq, .int .i64 y.kind, .int .i64 y.id, .int .i64 y.mat, .string y.data], .agg #[.int .i64 x.q.client, .int .i64 x.q.seq, .int .i64 x.q.kind, .int .i64 x.q.id, .int .i64 x.q.mat, .string x.q.data]] (by simp only [List.map_cons, List.map_nil, *]; try rfl) (cQ.out _) ?_
                rintro e w1 ⟨rfl, f4⟩
                exact ⟨_, rfl, _, rfl, rfl, f4, hS.trans' f4⟩
              refine StepsOk.cons (stepOk_pure [(16, 52), (27, 63)] [] rfl rfl (by kernel_rfl) (by kernel_rfl) rfl Old.refl' (fun _ _ _ h => h) (fun d E w' hk hda hS hc hf => by rintro _ q16 rfl e52 _ q27 rfl e63 ; exact ⟨_, by go_simp, rfl⟩)) ?_
              refine StepsOk.cons (stepOk_pure [(28, 64)] [] rfl rfl (by kernel_rfl) (by kernel_rfl) rfl Old.refl' (fun _ _ _ h => h) (fun d E w' hk hda hS hc hf => by rintro _ q28 rfl e64 ; exact ⟨_, by go_simp, rfl⟩)) ?_
              refine StepsOk.cons (stepOk_pureG 29 65 true rfl rfl (by kernel_rfl) (fun _ _ h => h) [] [(6, .pointer (some ⟨bx, 0, none⟩))] (by kernel_rfl) (by kernel_rfl) rfl Old.refl' (fun _ _ _ h => h) (fun d E w' hk hda hS hc hf => by rintro  e6; exact ⟨_, by go_simp, rfl⟩)) ?_
              refine StepsOk.cons (stepOk_pureG 29 65 true rfl rfl (by kernel_rfl) (fun _ _ h => h) [(30, 66)] [] (by kernel_rfl) (by kernel_rfl) rfl Old.refl' (fun _ _ _ h => h) (fun d E w' hk hda hS hc hf => by rintro _ q30 rfl e66 ; obtain ⟨⟨s0, s1, s2, s3, s4, s5, s6, s7, s8, s9, s10, s11, s12, s13⟩, ⟨g0, g1, g2⟩, ⟨y0, y1, y2, y3, y4, y5⟩, ⟨z0, z1, z2, z3⟩⟩ := CS2.out _ hS; exact ⟨_, by go_simp, rfl⟩)) ?_
              refine StepsOk.cons (stepOk_pureG 29 65 true rfl rfl (by kernel_rfl) (fun _ _ h => h) [] [(0, .pointer (some ⟨m, 0, none⟩))] (by kernel_rfl) (by kernel_rfl) rfl Old.refl' (fun _ _ _ h => h) (fun d E w' hk hda hS hc hf => by rintro  e0; exact ⟨_, by go_simp, rfl⟩)) ?_
              refine StepsOk.cons (stepOk_pureG 29 65 true rfl rfl (by kernel_rfl) (fun _ _ h => h) [(32, 68)] [] (by kernel_rfl) (by kernel_rfl) rfl Old.refl' (fun _ _ _ h => h) (fun d E w' hk hda hS hc hf => by rintro _ q32 rfl e68 ; exact ⟨_, by go_simp, rfl⟩)) ?_
              refine StepsOk.cons (stepOk_pureG 29 65 true rfl rfl (by kernel_rfl) (fun _ _ h => h) [(33, 69)] [] (by kernel_rfl) (by kernel_rfl) rfl Old.refl' (fun _ _ _ h => h) (fun d E w' hk hda hS hc hf => by rintro _ q33 rfl e69 ; exact ⟨_, by go_simp, rfl⟩)) ?_
              refine StepsOk.cons (stepOk_pureG 29 65 true rfl rfl (by kernel_rfl) (fun _ _ h => h) [(34, 70)] [] (by kernel_rfl) (by kernel_rfl) rfl Old.refl' (fun _ _ _ h => h) (fun d E w' hk hda hS hc hf => by rintro _ q34 rfl e70 ; obtain ⟨⟨s0, s1, s2, s3, s4, s5, s6, s7, s8, s9, s10, s11, s12, s13⟩, ⟨g0, g1, g2⟩, ⟨y0, y1, y2, y3, y4, y5⟩, ⟨z0, z1, z2, z3⟩⟩ := CS2.out _ hS; exact ⟨_, by go_simp, rfl⟩)) ?_
              refine StepsOk.cons (stepOk_pureG 29 65 true rfl rfl (by kernel_rfl) (fun _ _ h => h) [] [(3, .int .i64 pl)] (by kernel_rfl) (by kernel_rfl) rfl Old.refl' (fun _ _ _ h => h) (fun d E w' hk hda hS hc hf => by rintro  e3; exact ⟨_, by go_simp, rfl⟩)) ?_
              refine StepsOk.cons (stepOk_pureG 29 65 true rfl rfl (by kernel_rfl) (fun _ _ h => h) [(36, 72)] [] (by kernel_rfl) (by kernel_rfl) rfl Old.refl' (fun _ _ _ h => h) (fun d E w' hk hda hS hc hf => by rintro _ q36 rfl e72 ; exact ⟨_, by go_simp, rfl⟩)) ?_
              refine StepsOk.cons (stepOk_pureG 29 65 true rfl rfl (by kernel_rfl) (fun _ _ h => h) [(35, 71), (37, 73)] [] (by kernel_rfl) (by kernel_rfl) rfl Old.refl' (fun _ _ _ h => h) (fun d E w' hk hda hS hc hf => by rintro _ q35 rfl e71 _ q37 rfl e73 ; obtain ⟨⟨s0, s1, s2, s3, s4, s5, s6, s7, s8, s9, s10, s11, s12, s13⟩, ⟨g0, g1, g2⟩, ⟨y0, y1, y2, y3, y4, y5⟩, ⟨z0, z1, z2, z3⟩⟩ := CS2.out _ hS; exact ⟨_, by go_simp, rfl⟩)) ?_
              refine StepsOk.cons (stepOk_pureG 29 65 true rfl rfl (by kernel_rfl) (fun _ _ h => h) [(38, 74)] [] (by kernel_rfl) (by kernel_rfl) rfl Old.refl' (fun _ _ _ h => h) (fun d E w' hk hda hS hc hf => by rintro _ q38 rfl e74 ; obtain ⟨⟨s0, s1, s2, s3, s4, s5, s6, s7, s8, s9, s10, s11, s12, s13⟩, ⟨g0, g1, g2⟩, ⟨y0, y1, y2, y3, y4, y5⟩, ⟨z0, z1, z2, z3⟩⟩ := CS2.out _ hS; exact ⟨_, by go_simp, rfl⟩)) ?_
              refine StepsOk.cons (stepOk_guard 29 65 true rfl rfl (by kernel_rfl) (fun _ _ h => h) [(31, 67), (39, 75)] [] (by kernel_rfl) (by kernel_rfl) rfl ?_) ?_
              · rintro d a w' hk hda hS _ q31 rfl e67 _ q39 rfl e75 
                first | refine Given.nil (Known.nil ?_) | refine Known.nil ?_
                refine wp_call 41 _ Try.func41 (by kernel_rfl) (by kernel_rfl) _ _ (by rfl) [.agg #[.int .i64 x.r.code, .int .i64 x.r.ver, .string x.r.data, .slice x.A vn x.cap], .agg #[.int .i64 R.code, .int .i64 R.ver, .string R.data, .slice A4 0 c4]] (by simp only [List.map_cons, List.map_nil, *]; try rfl) (cS.out _ hS) ?_
                rintro e w1 ⟨rfl, f4⟩
                exact ⟨_, rfl, _, rfl, rfl, f4, hS.trans' f4⟩
              refine StepsOk.cons (stepOk_pure [(29, 65), (40, 76)] [] rfl rfl (by kernel_rfl) (by kernel_rfl) rfl Old.refl' (fun _ _ _ h => h) (fun d E w' hk hda hS hc hf => by rintro _ q29 rfl e65 _ q40 rfl e76 ; exact ⟨_, by go_simp, rfl⟩)) ?_
              refine StepsOk.cons (stepOk_pure [(41, 77)] [] rfl rfl (by kernel_rfl) (by kernel_rfl) rfl Old.refl' (fun _ _ _ h => h) (fun d E w' hk hda hS hc hf => by rintro _ q41 rfl e77 ; exact ⟨_, by go_simp, rfl⟩)) ?_
              exact StepsOk.nil
            case ends =>
              intro σ9 w9 hS9 hA9
              refine Ends.eqv (some 36) (.int .i64 pl) rfl (fun _ h => h) ?_
              refine Ends.eqv (some 37) (.bool true) rfl (fun _ h => h) ?_
              refine Ends.eqv (some 38) (.bool true) rfl (fun _ h => h) ?_
              refine Ends.eqv (some 39) (.int .i64 pl) rfl (fun _ h => h) ?_
              refine Ends.eqv (some 40) (.pointer (some ⟨m, 0, none⟩)) rfl (fun _ h => h) ?_
              refine Ends.eqv (some 41) (.pointer (some ⟨m, 0, none⟩)) rfl (fun _ h => h) ?_
              refine Ends.eqv (some 42) (.pointer (some ⟨m, 0, none⟩)) rfl (fun _ h => h) ?_
              refine Ends.eqv (some 43) (.slice (some ⟨b0, o, none⟩) n cap) rfl (fun _ h => h) ?_
              refine Ends.eqv (some 44) (.int .i64 n) rfl (fun _ h => h) ?_
              refine Ends.eqv (some 45) (.bool true) rfl (fun _ h => h) ?_
              refine Ends.eqv (some 46) (.bool true) rfl (fun _ h => h) ?_
              refine Ends.eqv (some 47) (.bool true) rfl (fun _ h => h) ?_
              refine Ends.eqv (some 48) (.int .i64 pl) rfl (fun _ h => h) ?_
              refine Ends.eqv (some 49) (.int .i64 ask) rfl (fun _ h => h) ?_
              refine Ends.eqv (some 50) (.bool true) rfl (fun _ h => h) ?_
              refine Ends.eqv (some 51) (.bool true) rfl (fun _ h => h) ?_
              refine Ends.eqv (some 52) (.bool true) rfl (fun _ h => h) ?_
              refine Ends.eqv (some 53) (.pointer (some ⟨m, 0, none⟩)) rfl (fun _ h => h) ?_
              refine Ends.eqv (some 54) (.pointer (some ⟨m, 0, none⟩)) rfl (fun _ h => h) ?_
              refine Ends.eqv (some 55) (.pointer (some ⟨m, 0, none⟩)) rfl (fun _ h => h) ?_
              refine Ends.eqv (some 56) (.slice (some ⟨b0, o, none⟩) n cap) rfl (fun _ h => h) ?_
              refine Ends.eqv (some 57) (.int .i64 pl) rfl (fun _ h => h) ?_
              refine Ends.eqv (some 58) (.int .i64 M) rfl (fun _ h => h) ?_
              refine Ends.eqv (some 59) (.pointer (some ⟨b0, o + M * 6, none⟩)) rfl (fun _ h => h) ?_
              refine Ends.eqv (some 60) (.agg #[.int .i64 y.client, .int .i64 y.seq, .int .i64 y.kind, .int .i64 y.id, .int .i64 y.mat, .string y.data]) rfl (fun _ h => h) ?_
              refine Ends.eqv (some 61) (.pointer (some ⟨bx, 3, none⟩)) rfl (fun _ h => h) ?_
              refine Ends.eqv (some 62) (.agg #[.int .i64 x.q.client, .int .i64 x.q.seq, .int .i64 x.q.kind, .int .i64 x.q.id, .int .i64 x.q.mat, .string x.q.data]) rfl (fun _ h => h) ?_
              refine Ends.eqv (some 63) (.bool true) rfl (fun _ h => h) ?_
              refine Ends.eqv (some 64) (.bool true) rfl (fun _ h => h) ?_
              refine Ends.eqv (some 65) (.bool true) rfl (fun _ h => h) ?_
              refine Ends.eqv (some 66) (.pointer (some ⟨bx, 9, none⟩)) rfl (fun _ h => h) ?_
              refine Ends.eqv (some 67) (.agg #[.int .i64 x.r.code, .int .i64 x.r.ver, .string x.r.data, .slice x.A vn x.cap]) rfl (fun _ h => h) ?_
              refine Ends.eqv (some 68) (.pointer (some ⟨m, 0, none⟩)) rfl (fun _ h => h) ?_
              refine Ends.eqv (some 69) (.pointer (some ⟨m, 0, none⟩)) rfl (fun _ h => h) ?_
              refine Ends.eqv (some 70) (.pointer (some ⟨m, 2, none⟩)) rfl (fun _ h => h) ?_
              refine Ends.eqv (some 71) (.slice (some ⟨br, ro, none⟩) n vc) rfl (fun _ h => h) ?_
              refine Ends.eqv (some 72) (.int .i64 pl) rfl (fun _ h => h) ?_
              refine Ends.eqv (some 73) (.int .i64 M) rfl (fun _ h => h) ?_
              refine Ends.eqv (some 74) (.pointer (some ⟨br, ro + M * 4, none⟩)) rfl (fun _ h => h) ?_
              refine Ends.eqv (some 75) (.agg #[.int .i64 R.code, .int .i64 R.ver, .string R.data, .slice A4 0 c4]) rfl (fun _ h => h) ?_
              refine Ends.eqv (some 76) (.bool b) rfl (fun _ h => h) ?_
              refine Ends.eqv (some 77) (.bool b) rfl (fun _ h => h) ?_
              refine Ends.eqv (some 10) (.bool b) rfl (fun _ h => h) ?_
              refine Ends.nil ?_
              clear hA9
              simp only [put_lit, put_none, List.set_cons_zero, List.set_cons_succ]
              have o9 := hS9
              clear hS9
              go_wp2_with fail
              go_ret
              first | exact ⟨retb HFIN.out, HO.out.trans' o9⟩ | exact ⟨rfl, HO.out.trans' o9⟩
        · have HFIN := hide (show false = b from by rw [← hb']; simp [hak])
          clear hb'
          go_enter Try.func26, Try.ntmps26
          go_upto_region 3 with (go_at_call 27; refine (cW.out).mono ?_; rintro e w1 ⟨rfl, h1⟩)
          refine region_steps (R := pick [eqv (.int .i64 pl), eqv (.bool true), eqv (.bool true), eqv (.int .i64 pl), eqv (.pointer (some ⟨m, 0, none⟩)), eqv (.pointer (some ⟨m, 0, none⟩)), eqv (.pointer (some ⟨m, 0, none⟩)), eqv (.slice (some ⟨b0, o, none⟩) n cap), eqv (.int .i64 n), eqv (.bool true), eqv (.bool true), eqv (.bool true), eqv (.int .i64 pl), eqv (.int .i64 ask), eqv (.bool false), eqv (.bool false), eqv (.bool false), eqv (undef), eqv (undef), eqv (undef), eqv (undef), eqv (undef), eqv (undef), eqv (undef), eqv (undef), eqv (undef), eqv (undef), eqv (undef), eqv (.bool false), eqv (.bool false), eqv (undef), eqv (undef), eqv (undef), eqv (undef), eqv (undef), eqv (undef), eqv (undef), eqv (undef), eqv (undef), eqv (undef), eqv (undef), eqv (.bool false), eqv (.bool false)]) (S := fun _ w' => Old WB w') (T := Old) (by kernel_rfl) (by kernel_rfl) (by kernel_rfl) (Stab.pick (Stab.eqv (Stab.eqv (Stab.eqv (Stab.eqv (Stab.eqv (Stab.eqv (Stab.eqv (Stab.eqv (Stab.eqv (Stab.eqv (Stab.eqv (Stab.eqv (Stab.eqv (Stab.eqv (Stab.eqv (Stab.eqv (Stab.eqv (Stab.eqv (Stab.eqv (Stab.eqv (Stab.eqv (Stab.eqv (Stab.eqv (Stab.eqv (Stab.eqv (Stab.eqv (Stab.eqv (Stab.eqv (Stab.eqv (Stab.eqv (Stab.eqv (Stab.eqv (Stab.eqv (Stab.eqv (Stab.eqv (Stab.eqv (Stab.eqv (Stab.eqv (Stab.eqv (Stab.eqv (Stab.eqv (Stab.eqv (Stab.eqv (Stab.nil))))))))))))))))))))))))))))))))))))))))))))) (h1.drew') ?steps ?ends
          case steps =>
            refine StepsOk.cons (stepOk_pure [] [(3, .int .i64 pl)] rfl rfl (by kernel_rfl) (by kernel_rfl) rfl Old.refl' (fun _ _ _ h => h) (fun d E w' hk hda hS hc hf => by rintro  e3; exact ⟨_, by go_simp, rfl⟩)) ?_
            refine StepsOk.cons (stepOk_pure [(0, 36)] [] rfl rfl (by kernel_rfl) (by kernel_rfl) rfl Old.refl' (fun _ _ _ h => h) (fun d E w' hk hda hS hc hf => by rintro _ q0 rfl e36 ; exact ⟨_, by go_simp, rfl⟩)) ?_
            refine StepsOk.cons (stepOk_pure [(1, 37)] [] rfl rfl (by kernel_rfl) (by kernel_rfl) rfl Old.refl' (fun _ _ _ h => h) (fun d E w' hk hda hS hc hf => by rintro _ q1 rfl e37 ; exact ⟨_, by go_simp, rfl⟩)) ?_
            refine StepsOk.cons (stepOk_pureG 2 38 true rfl rfl (by kernel_rfl) (fun _ _ h => h) [] [(3, .int .i64 pl)] (by kernel_rfl) (by kernel_rfl) rfl Old.refl' (fun _ _ _ h => h) (fun d E w' hk hda hS hc hf => by rintro  e3; exact ⟨_, by go_simp, rfl⟩)) ?_
            refine StepsOk.cons (stepOk_pureG 2 38 true rfl rfl (by kernel_rfl) (fun _ _ h => h) [] [(0, .pointer (some ⟨m, 0, none⟩))] (by kernel_rfl) (by kernel_rfl) rfl Old.refl' (fun _ _ _ h => h) (fun d E w' hk hda hS hc hf => by rintro  e0; exact ⟨_, by go_simp, rfl⟩)) ?_
            refine StepsOk.cons (stepOk_pureG 2 38 true rfl rfl (by kernel_rfl) (fun _ _ h => h) [(4, 40)] [] (by kernel_rfl) (by kernel_rfl) rfl Old.refl' (fun _ _ _ h => h) (fun d E w' hk hda hS hc hf => by rintro _ q4 rfl e40 ; exact ⟨_, by go_simp, rfl⟩)) ?_
            refine StepsOk.cons (stepOk_pureG 2 38 true rfl rfl (by kernel_rfl) (fun _ _ h => h) [(5, 41)] [] (by kernel_rfl) (by kernel_rfl) rfl Old.refl' (fun _ _ _ h => h) (fun d E w' hk hda hS hc hf => by rintro _ q5 rfl e41 ; exact ⟨_, by go_simp, rfl⟩)) ?_
            refine StepsOk.cons (stepOk_pureG 2 38 true rfl rfl (by kernel_rfl) (fun _ _ h => h) [(6, 42)] [] (by kernel_rfl) (by kernel_rfl) rfl Old.refl' (fun _ _ _ h => h) (fun d E w' hk hda hS hc hf => by rintro _ q6 rfl e42 ; obtain ⟨⟨s0, s1, s2, s3, s4, s5, s6, s7, s8, s9, s10, s11, s12, s13⟩, ⟨g0, g1, g2⟩, ⟨y0, y1, y2, y3, y4, y5⟩, ⟨z0, z1, z2, z3⟩⟩ := CS2.out _ hS; exact ⟨_, by go_simp, rfl⟩)) ?_
            refine StepsOk.cons (stepOk_pureG 2 38 true rfl rfl (by kernel_rfl) (fun _ _ h => h) [(7, 43)] [] (by kernel_rfl) (by kernel_rfl) rfl Old.refl' (fun _ _ _ h => h) (fun d E w' hk hda hS hc hf => by rintro _ q7 rfl e43 ; exact ⟨_, by go_simp, rfl⟩)) ?_
            refine StepsOk.cons (stepOk_pureG 2 38 true rfl rfl (by kernel_rfl) (fun _ _ h => h) [(3, 39), (8, 44)] [] (by kernel_rfl) (by kernel_rfl) rfl Old.refl' (fun _ _ _ h => h) (fun d E w' hk hda hS hc hf => by rintro _ q3 rfl e39 _ q8 rfl e44 ; exact ⟨_, by go_simp, rfl⟩)) ?_
            refine StepsOk.cons (stepOk_pure [(2, 38), (9, 45)] [] rfl rfl (by kernel_rfl) (by kernel_rfl) rfl Old.refl' (fun _ _ _ h => h) (fun d E w' hk hda hS hc hf => by rintro _ q2 rfl e38 _ q9 rfl e45 ; exact ⟨_, by go_simp, rfl⟩)) ?_
            refine StepsOk.cons (stepOk_pure [(10, 46)] [] rfl rfl (by kernel_rfl) (by kernel_rfl) rfl Old.refl' (fun _ _ _ h => h) (fun d E w' hk hda hS hc hf => by rintro _ q10 rfl e46 ; exact ⟨_, by go_simp, rfl⟩)) ?_
            refine StepsOk.cons (stepOk_pureG 11 47 true rfl rfl (by kernel_rfl) (fun _ _ h => h) [] [(3, .int .i64 pl)] (by kernel_rfl) (by kernel_rfl) rfl Old.refl' (fun _ _ _ h => h) (fun d E w' hk hda hS hc hf => by rintro  e3; exact ⟨_, by go_simp, rfl⟩)) ?_
            refine StepsOk.cons (stepOk_pureG 11 47 true rfl rfl (by kernel_rfl) (fun _ _ h => h) [] [(2, .int .i64 ask)] (by kernel_rfl) (by kernel_rfl) rfl Old.refl' (fun _ _ _ h => h) (fun d E w' hk hda hS hc hf => by rintro  e2; exact ⟨_, by go_simp, rfl⟩)) ?_
            refine StepsOk.cons (stepOk_pureG 11 47 true rfl rfl (by kernel_rfl) (fun _ _ h => h) [(12, 48), (13, 49)] [] (by kernel_rfl) (by kernel_rfl) rfl Old.refl' (fun _ _ _ h => h) (fun d E w' hk hda hS hc hf => by rintro _ q12 rfl e48 _ q13 rfl e49 ; exact ⟨_, by go_simp, rfl⟩)) ?_
            refine StepsOk.cons (stepOk_pure [(11, 47), (14, 50)] [] rfl rfl (by kernel_rfl) (by kernel_rfl) rfl Old.refl' (fun _ _ _ h => h) (fun d E w' hk hda hS hc hf => by rintro _ q11 rfl e47 _ q14 rfl e50 ; exact ⟨_, by go_simp, rfl⟩)) ?_
            refine StepsOk.cons (stepOk_pure [(15, 51)] [] rfl rfl (by kernel_rfl) (by kernel_rfl) rfl Old.refl' (fun _ _ _ h => h) (fun d E w' hk hda hS hc hf => by rintro _ q15 rfl e51 ; exact ⟨_, by go_simp, rfl⟩)) ?_
            refine StepsOk.cons (stepOk_skip 16 52 false rfl rfl (by kernel_rfl) Old.refl' (fun _ _ _ h => h) (fun _ _ h => h) (fun _ => rfl)) ?_
            refine StepsOk.cons (stepOk_skip 16 52 false rfl rfl (by kernel_rfl) Old.refl' (fun _ _ _ h => h) (fun _ _ h => h) (fun _ => rfl)) ?_
            refine StepsOk.cons (stepOk_skip 16 52 false rfl rfl (by kernel_rfl) Old.refl' (fun _ _ _ h => h) (fun _ _ h => h) (fun _ => rfl)) ?_
            refine StepsOk.cons (stepOk_skip 16 52 false rfl rfl (by kernel_rfl) Old.refl' (fun _ _ _ h => h) (fun _ _ h => h) (fun _ => rfl)) ?_
            refine StepsOk.cons (stepOk_skip 16 52 false rfl rfl (by kernel_rfl) Old.refl' (fun _ _ _ h => h) (fun _ _ h => h) (fun _ => rfl)) ?_
            refine StepsOk.cons (stepOk_skip 16 52 false rfl rfl (by kernel_rfl) Old.refl' (fun _ _ _ h => h) (fun _ _ h => h) (fun _ => rfl)) ?_
            refine StepsOk.cons (stepOk_skip 16 52 false rfl rfl (by kernel_rfl) Old.refl' (fun _ _ _ h => h) (fun _ _ h => h) (fun _ => rfl)) ?_
            refine StepsOk.cons (stepOk_skip 16 52 false rfl rfl (by kernel_rfl) Old.refl' (fun _ _ _ h => h) (fun _ _ h => h) (fun _ => rfl)) ?_
            refine StepsOk.cons (stepOk_skip 16 52 false rfl rfl (by kernel_rfl) Old.refl' (fun _ _ _ h => h) (fun _ _ h => h) (fun _ => rfl)) ?_
            refine StepsOk.cons (stepOk_skip 16 52 false rfl rfl (by kernel_rfl) Old.refl' (fun _ _ _ h => h) (fun _ _ h => h) (fun _ => rfl)) ?_
            refine StepsOk.cons (stepOk_skip 16 52 false rfl rfl (by kernel_rfl) Old.refl' (fun _ _ _ h => h) (fun _ _ h => h) (fun _ => rfl)) ?_
            refine StepsOk.cons (stepOk_pure [(16, 52), (27, 63)] [] rfl rfl (by kernel_rfl) (by kernel_rfl) rfl Old.refl' (fun _ _ _ h => h) (fun d E w' hk hda hS hc hf => by rintro _ q16 rfl e52 _ q27 rfl e63 ; exact ⟨_, by go_simp, rfl⟩)) ?_
            refine StepsOk.cons (stepOk_pure [(28, 64)] [] rfl rfl (by kernel_rfl) (by kernel_rfl) rfl Old.refl' (fun _ _ _ h => h) (fun d E w' hk hda hS hc hf => by rintro _ q28 rfl e64 ; exact ⟨_, by go_simp, rfl⟩)) ?_
            refine StepsOk.cons (stepOk_skip 29 65 false rfl rfl (by kernel_rfl) Old.refl' (fun _ _ _ h => h) (fun _ _ h => h) (fun _ => rfl)) ?_
            refine StepsOk.cons (stepOk_skip 29 65 false rfl rfl (by kernel_rfl) Old.refl' (fun _ _ _ h => h) (fun _ _ h => h) (fun _ => rfl)) ?_
            refine StepsOk.cons (stepOk_skip 29 65 false rfl rfl (by kernel_rfl) Old.refl' (fun _ _ _ h => h) (fun _ _ h => h) (fun _ => rfl)) ?_
            refine StepsOk.cons (stepOk_skip 29 65 false rfl rfl (by kernel_rfl) Old.refl' (fun _ _ _ h => h) (fun _ _ h => h) (fun _ => rfl)) ?_
            refine StepsOk.cons (stepOk_skip 29 65 false rfl rfl (by kernel_rfl) Old.refl' (fun _ _ _ h => h) (fun _ _ h => h) (fun _ => rfl)) ?_
            refine StepsOk.cons (stepOk_skip 29 65 false rfl rfl (by kernel_rfl) Old.refl' (fun _ _ _ h => h) (fun _ _ h => h) (fun _ => rfl)) ?_
            refine StepsOk.cons (stepOk_skip 29 65 false rfl rfl (by kernel_rfl) Old.refl' (fun _ _ _ h => h) (fun _ _ h => h) (fun _ => rfl)) ?_
            refine StepsOk.cons (stepOk_skip 29 65 false rfl rfl (by kernel_rfl) Old.refl' (fun _ _ _ h => h) (fun _ _ h => h) (fun _ => rfl)) ?_
            refine StepsOk.cons (stepOk_skip 29 65 false rfl rfl (by kernel_rfl) Old.refl' (fun _ _ _ h => h) (fun _ _ h => h) (fun _ => rfl)) ?_
            refine StepsOk.cons (stepOk_skip 29 65 false rfl rfl (by kernel_rfl) Old.refl' (fun _ _ _ h => h) (fun _ _ h => h) (fun _ => rfl)) ?_
            refine StepsOk.cons (stepOk_skip 29 65 false rfl rfl (by kernel_rfl) Old.refl' (fun _ _ _ h => h) (fun _ _ h => h) (fun _ => rfl)) ?_
            refine StepsOk.cons (stepOk_pure [(29, 65), (40, 76)] [] rfl rfl (by kernel_rfl) (by kernel_rfl) rfl Old.refl' (fun _ _ _ h => h) (fun d E w' hk hda hS hc hf => by rintro _ q29 rfl e65 _ q40 rfl e76 ; exact ⟨_, by go_simp, rfl⟩)) ?_
            refine StepsOk.cons (stepOk_pure [(41, 77)] [] rfl rfl (by kernel_rfl) (by kernel_rfl) rfl Old.refl' (fun _ _ _ h => h) (fun d E w' hk hda hS hc hf => by rintro _ q41 rfl e77 ; exact ⟨_, by go_simp, rfl⟩)) ?_
            exact StepsOk.nil
          case ends =>
            intro σ9 w9 hS9 hA9
            refine Ends.eqv (some 36) (.int .i64 pl) rfl (fun _ h => h) ?_
            refine Ends.eqv (some 37) (.bool true) rfl (fun _ h => h) ?_
            refine Ends.eqv (some 38) (.bool true) rfl (fun _ h => h) ?_
            refine Ends.eqv (some 39) (.int .i64 pl) rfl (fun _ h => h) ?_
            refine Ends.eqv (some 40) (.pointer (some ⟨m, 0, none⟩)) rfl (fun _ h => h) ?_
            refine Ends.eqv (some 41) (.pointer (some ⟨m, 0, none⟩)) rfl (fun _ h => h) ?_
            refine Ends.eqv (some 42) (.pointer (some ⟨m, 0, none⟩)) rfl (fun _ h => h) ?_
            refine Ends.eqv (some 43) (.slice (some ⟨b0, o, none⟩) n cap) rfl (fun _ h => h) ?_
            refine Ends.eqv (some 44) (.int .i64 n) rfl (fun _ h => h) ?_
            refine Ends.eqv (some 45) (.bool true) rfl (fun _ h => h) ?_
            refine Ends.eqv (some 46) (.bool true) rfl (fun _ h => h) ?_
            refine Ends.eqv (some 47) (.bool true) rfl (fun _ h => h) ?_
            refine Ends.eqv (some 48) (.int .i64 pl) rfl (fun _ h => h) ?_
            refine Ends.eqv (some 49) (.int .i64 ask) rfl (fun _ h => h) ?_
            refine Ends.eqv (some 50) (.bool false) rfl (fun _ h => h) ?_
            refine Ends.eqv (some 51) (.bool false) rfl (fun _ h => h) ?_
            refine Ends.eqv (some 52) (.bool false) rfl (fun _ h => h) ?_
            refine Ends.eqv (some 53) (undef) rfl (fun _ h => h) ?_
            refine Ends.eqv (some 54) (undef) rfl (fun _ h => h) ?_
            refine Ends.eqv (some 55) (undef) rfl (fun _ h => h) ?_
            refine Ends.eqv (some 56) (undef) rfl (fun _ h => h) ?_
            refine Ends.eqv (some 57) (undef) rfl (fun _ h => h) ?_
            refine Ends.eqv (some 58) (undef) rfl (fun _ h => h) ?_
            refine Ends.eqv (some 59) (undef) rfl (fun _ h => h) ?_
            refine Ends.eqv (some 60) (undef) rfl (fun _ h => h) ?_
            refine Ends.eqv (some 61) (undef) rfl (fun _ h => h) ?_
            refine Ends.eqv (some 62) (undef) rfl (fun _ h => h) ?_
            refine Ends.eqv (some 63) (undef) rfl (fun _ h => h) ?_
            refine Ends.eqv (some 64) (.bool false) rfl (fun _ h => h) ?_
            refine Ends.eqv (some 65) (.bool false) rfl (fun _ h => h) ?_
            refine Ends.eqv (some 66) (undef) rfl (fun _ h => h) ?_
            refine Ends.eqv (some 67) (undef) rfl (fun _ h => h) ?_
            refine Ends.eqv (some 68) (undef) rfl (fun _ h => h) ?_
            refine Ends.eqv (some 69) (undef) rfl (fun _ h => h) ?_
            refine Ends.eqv (some 70) (undef) rfl (fun _ h => h) ?_
            refine Ends.eqv (some 71) (undef) rfl (fun _ h => h) ?_
            refine Ends.eqv (some 72) (undef) rfl (fun _ h => h) ?_
            refine Ends.eqv (some 73) (undef) rfl (fun _ h => h) ?_
            refine Ends.eqv (some 74) (undef) rfl (fun _ h => h) ?_
            refine Ends.eqv (some 75) (undef) rfl (fun _ h => h) ?_
            refine Ends.eqv (some 76) (undef) rfl (fun _ h => h) ?_
            refine Ends.eqv (some 77) (.bool false) rfl (fun _ h => h) ?_
            refine Ends.eqv (some 10) (.bool false) rfl (fun _ h => h) ?_
            refine Ends.nil ?_
            clear hA9
            simp only [put_lit, put_none, List.set_cons_zero, List.set_cons_succ]
            have o9 := hS9
            clear hS9
            go_wp2_with fail
            go_ret
            first | exact ⟨retb HFIN.out, HO.out.trans' o9⟩ | exact ⟨rfl, HO.out.trans' o9⟩
      · have HFIN := hide (show false = b from by rw [← hb']; simp [han])
        clear hb'
        go_enter Try.func26, Try.ntmps26
        go_upto_region 3 with (go_at_call 27; refine (cW.out).mono ?_; rintro e w1 ⟨rfl, h1⟩)
        refine region_steps (R := pick [eqv (.int .i64 pl), eqv (.bool true), eqv (.bool true), eqv (.int .i64 pl), eqv (.pointer (some ⟨m, 0, none⟩)), eqv (.pointer (some ⟨m, 0, none⟩)), eqv (.pointer (some ⟨m, 0, none⟩)), eqv (.slice A n cap), eqv (.int .i64 n), eqv (.bool false), eqv (.bool false), eqv (.bool false), eqv (undef), eqv (undef), eqv (undef), eqv (.bool false), eqv (.bool false), eqv (undef), eqv (undef), eqv (undef), eqv (undef), eqv (undef), eqv (undef), eqv (undef), eqv (undef), eqv (undef), eqv (undef), eqv (undef), eqv (.bool false), eqv (.bool false), eqv (undef), eqv (undef), eqv (undef), eqv (undef), eqv (undef), eqv (undef), eqv (undef), eqv (undef), eqv (undef), eqv (undef), eqv (undef), eqv (.bool false), eqv (.bool false)]) (S := fun _ w' => Old WB w') (T := Old) (by kernel_rfl) (by kernel_rfl) (by kernel_rfl) (Stab.pick (Stab.eqv (Stab.eqv (Stab.eqv (Stab.eqv (Stab.eqv (Stab.eqv (Stab.eqv (Stab.eqv (Stab.eqv (Stab.eqv (Stab.eqv (Stab.eqv (Stab.eqv (Stab.eqv (Stab.eqv (Stab.eqv (Stab.eqv (Stab.eqv (Stab.eqv (Stab.eqv (Stab.eqv (Stab.eqv (Stab.eqv (Stab.eqv (Stab.eqv (Stab.eqv (Stab.eqv (Stab.eqv (Stab.eqv (Stab.eqv (Stab.eqv (Stab.eqv (Stab.eqv (Stab.eqv (Stab.eqv (Stab.eqv (Stab.eqv (Stab.eqv (Stab.eqv (Stab.eqv (Stab.eqv (Stab.eqv (Stab.eqv (Stab.nil))))))))))))))))))))))))))))))))))))))))))))) (h1.drew') ?steps ?ends
        case steps =>
          refine StepsOk.cons (stepOk_pure [] [(3, .int .i64 pl)] rfl rfl (by kernel_rfl) (by kernel_rfl) rfl Old.refl' (fun _ _ _ h => h) (fun d E w' hk hda hS hc hf => by rintro  e3; exact ⟨_, by go_simp, rfl⟩)) ?_
          refine StepsOk.cons (stepOk_pure [(0, 36)] [] rfl rfl (by kernel_rfl) (by kernel_rfl) rfl Old.refl' (fun _ _ _ h => h) (fun d E w' hk hda hS hc hf => by rintro _ q0 rfl e36 ; exact ⟨_, by go_simp, rfl⟩)) ?_
          refine StepsOk.cons (stepOk_pure [(1, 37)] [] rfl rfl (by kernel_rfl) (by kernel_rfl) rfl Old.refl' (fun _ _ _ h => h) (fun d E w' hk hda hS hc hf => by rintro _ q1 rfl e37 ; exact ⟨_, by go_simp, rfl⟩)) ?_
          refine StepsOk.cons (stepOk_pureG 2 38 true rfl rfl (by kernel_rfl) (fun _ _ h => h) [] [(3, .int .i64 pl)] (by kernel_rfl) (by kernel_rfl) rfl Old.refl' (fun _ _ _ h => h) (fun d E w' hk hda hS hc hf => by rintro  e3; exact ⟨_, by go_simp, rfl⟩)) ?_
          refine StepsOk.cons (stepOk_pureG 2 38 true rfl rfl (by kernel_rfl) (fun _ _ h => h) [] [(0, .pointer (some ⟨m, 0, none⟩))] (by kernel_rfl) (by kernel_rfl) rfl Old.refl' (fun _ _ _ h => h) (fun d E w' hk hda hS hc hf => by rintro  e0; exact ⟨_, by go_simp, rfl⟩)) ?_
          refine StepsOk.cons (stepOk_pureG 2 38 true rfl rfl (by kernel_rfl) (fun _ _ h => h) [(4, 40)] [] (by kernel_rfl) (by kernel_rfl) rfl Old.refl' (fun _ _ _ h => h) (fun d E w' hk hda hS hc hf => by rintro _ q4 rfl e40 ; exact ⟨_, by go_simp, rfl⟩)) ?_
          refine StepsOk.cons (stepOk_pureG 2 38 true rfl rfl (by kernel_rfl) (fun _ _ h => h) [(5, 41)] [] (by kernel_rfl) (by kernel_rfl) rfl Old.refl' (fun _ _ _ h => h) (fun d E w' hk hda hS hc hf => by rintro _ q5 rfl e41 ; exact ⟨_, by go_simp, rfl⟩)) ?_
          refine StepsOk.cons (stepOk_pureG 2 38 true rfl rfl (by kernel_rfl) (fun _ _ h => h) [(6, 42)] [] (by kernel_rfl) (by kernel_rfl) rfl Old.refl' (fun _ _ _ h => h) (fun d E w' hk hda hS hc hf => by rintro _ q6 rfl e42 ; obtain ⟨⟨s0, s1, s2, s3, s4, s5, s6, s7, s8, s9, s10, s11, s12, s13⟩, ⟨g0, g1, g2⟩⟩ := CS.out _ hS; exact ⟨_, by go_simp, rfl⟩)) ?_
          refine StepsOk.cons (stepOk_pureG 2 38 true rfl rfl (by kernel_rfl) (fun _ _ h => h) [(7, 43)] [] (by kernel_rfl) (by kernel_rfl) rfl Old.refl' (fun _ _ _ h => h) (fun d E w' hk hda hS hc hf => by rintro _ q7 rfl e43 ; exact ⟨_, by go_simp, rfl⟩)) ?_
          refine StepsOk.cons (stepOk_pureG 2 38 true rfl rfl (by kernel_rfl) (fun _ _ h => h) [(3, 39), (8, 44)] [] (by kernel_rfl) (by kernel_rfl) rfl Old.refl' (fun _ _ _ h => h) (fun d E w' hk hda hS hc hf => by rintro _ q3 rfl e39 _ q8 rfl e44 ; exact ⟨_, by go_simp, rfl⟩)) ?_
          refine StepsOk.cons (stepOk_pure [(2, 38), (9, 45)] [] rfl rfl (by kernel_rfl) (by kernel_rfl) rfl Old.refl' (fun _ _ _ h => h) (fun d E w' hk hda hS hc hf => by rintro _ q2 rfl e38 _ q9 rfl e45 ; exact ⟨_, by go_simp, rfl⟩)) ?_
          refine StepsOk.cons (stepOk_pure [(10, 46)] [] rfl rfl (by kernel_rfl) (by kernel_rfl) rfl Old.refl' (fun _ _ _ h => h) (fun d E w' hk hda hS hc hf => by rintro _ q10 rfl e46 ; exact ⟨_, by go_simp, rfl⟩)) ?_
          refine StepsOk.cons (stepOk_skip 11 47 false rfl rfl (by kernel_rfl) Old.refl' (fun _ _ _ h => h) (fun _ _ h => h) (fun _ => rfl)) ?_
          refine StepsOk.cons (stepOk_skip 11 47 false rfl rfl (by kernel_rfl) Old.refl' (fun _ _ _ h => h) (fun _ _ h => h) (fun _ => rfl)) ?_
          refine StepsOk.cons (stepOk_skip 11 47 false rfl rfl (by kernel_rfl) Old.refl' (fun _ _ _ h => h) (fun _ _ h => h) (fun _ => rfl)) ?_
          refine StepsOk.cons (stepOk_pure [(11, 47), (14, 50)] [] rfl rfl (by kernel_rfl) (by kernel_rfl) rfl Old.refl' (fun _ _ _ h => h) (fun d E w' hk hda hS hc hf => by rintro _ q11 rfl e47 _ q14 rfl e50 ; exact ⟨_, by go_simp, rfl⟩)) ?_
          refine StepsOk.cons (stepOk_pure [(15, 51)] [] rfl rfl (by kernel_rfl) (by kernel_rfl) rfl Old.refl' (fun _ _ _ h => h) (fun d E w' hk hda hS hc hf => by rintro _ q15 rfl e51 ; exact ⟨_, by go_simp, rfl⟩)) ?_
          refine StepsOk.cons (stepOk_skip 16 52 false rfl rfl (by kernel_rfl) Old.refl' (fun _ _ _ h => h) (fun _ _ h => h) (fun _ => rfl)) ?_
          refine StepsOk.cons (stepOk_skip 16 52 false rfl rfl (by kernel_rfl) Old.refl' (fun _ _ _ h => h) (fun _ _ h => h) (fun _ => rfl)) ?_
          refine StepsOk.cons (stepOk_skip 16 52 false rfl rfl (by kernel_rfl) Old.refl' (fun _ _ _ h => h) (fun _ _ h => h) (fun _ => rfl)) ?_
          refine StepsOk.cons (stepOk_skip 16 52 false rfl rfl (by kernel_rfl) Old.refl' (fun _ _ _ h => h) (fun _ _ h => h) (fun _ => rfl)) ?_
          refine StepsOk.cons (stepOk_skip 16 52 false rfl rfl (by kernel_rfl) Old.refl' (fun _ _ _ h => h) (fun _ _ h => h) (fun _ => rfl)) ?_
          refine StepsOk.cons (stepOk_skip 16 52 false rfl rfl (by kernel_rfl) Old.refl' (fun _ _ _ h => h) (fun _ _ h => h) (fun _ => rfl)) ?_
          refine StepsOk.cons (stepOk_skip 16 52 false rfl rfl (by kernel_rfl) Old.refl' (fun _ _ _ h => h) (fun _ _ h => h) (fun _ => rfl)) ?_
          refine StepsOk.cons (stepOk_skip 16 52 false rfl rfl (by kernel_rfl) Old.refl' (fun _ _ _ h => h) (fun _ _ h => h) (fun _ => rfl)) ?_
          refine StepsOk.cons (stepOk_skip 16 52 false rfl rfl (by kernel_rfl) Old.refl' (fun _ _ _ h => h) (fun _ _ h => h) (fun _ => rfl)) ?_
          refine StepsOk.cons (stepOk_skip 16 52 false rfl rfl (by kernel_rfl) Old.refl' (fun _ _ _ h => h) (fun _ _ h => h) (fun _ => rfl)) ?_
          refine StepsOk.cons (stepOk_skip 16 52 false rfl rfl (by kernel_rfl) Old.refl' (fun _ _ _ h => h) (fun _ _ h => h) (fun _ => rfl)) ?_
          refine StepsOk.cons (stepOk_pure [(16, 52), (27, 63)] [] rfl rfl (by kernel_rfl) (by kernel_rfl) rfl Old.refl' (fun _ _ _ h => h) (fun d E w' hk hda hS hc hf => by rintro _ q16 rfl e52 _ q27 rfl e63 ; exact ⟨_, by go_simp, rfl⟩)) ?_
          refine StepsOk.cons (stepOk_pure [(28, 64)] [] rfl rfl (by kernel_rfl) (by kernel_rfl) rfl Old.refl' (fun _ _ _ h => h) (fun d E w' hk hda hS hc hf => by rintro _ q28 rfl e64 ; exact ⟨_, by go_simp, rfl⟩)) ?_
          refine StepsOk.cons (stepOk_skip 29 65 false rfl rfl (by kernel_rfl) Old.refl' (fun _ _ _ h => h) (fun _ _ h => h) (fun _ => rfl)) ?_
          refine StepsOk.cons (stepOk_skip 29 65 false rfl rfl (by kernel_rfl) Old.refl' (fun _ _ _ h => h) (fun _ _ h => h) (fun _ => rfl)) ?_
          refine StepsOk.cons (stepOk_skip 29 65 false rfl rfl (by kernel_rfl) Old.refl' (fun _ _ _ h => h) (fun _ _ h => h) (fun _ => rfl)) ?_
          refine StepsOk.cons (stepOk_skip 29 65 false rfl rfl (by kernel_rfl) Old.refl' (fun _ _ _ h => h) (fun _ _ h => h) (fun _ => rfl)) ?_
          refine StepsOk.cons (stepOk_skip 29 65 false rfl rfl (by kernel_rfl) Old.refl' (fun _ _ _ h => h) (fun _ _ h => h) (fun _ => rfl)) ?_
          refine StepsOk.cons (stepOk_skip 29 65 false rfl rfl (by kernel_rfl) Old.refl' (fun _ _ _ h => h) (fun _ _ h => h) (fun _ => rfl)) ?_
          refine StepsOk.cons (stepOk_skip 29 65 false rfl rfl (by kernel_rfl) Old.refl' (fun _ _ _ h => h) (fun _ _ h => h) (fun _ => rfl)) ?_
          refine StepsOk.cons (stepOk_skip 29 65 false rfl rfl (by kernel_rfl) Old.refl' (fun _ _ _ h => h) (fun _ _ h => h) (fun _ => rfl)) ?_
          refine StepsOk.cons (stepOk_skip 29 65 false rfl rfl (by kernel_rfl) Old.refl' (fun _ _ _ h => h) (fun _ _ h => h) (fun _ => rfl)) ?_
          refine StepsOk.cons (stepOk_skip 29 65 false rfl rfl (by kernel_rfl) Old.refl' (fun _ _ _ h => h) (fun _ _ h => h) (fun _ => rfl)) ?_
          refine StepsOk.cons (stepOk_skip 29 65 false rfl rfl (by kernel_rfl) Old.refl' (fun _ _ _ h => h) (fun _ _ h => h) (fun _ => rfl)) ?_
          refine StepsOk.cons (stepOk_pure [(29, 65), (40, 76)] [] rfl rfl (by kernel_rfl) (by kernel_rfl) rfl Old.refl' (fun _ _ _ h => h) (fun d E w' hk hda hS hc hf => by rintro _ q29 rfl e65 _ q40 rfl e76 ; exact ⟨_, by go_simp, rfl⟩)) ?_
          refine StepsOk.cons (stepOk_pure [(41, 77)] [] rfl rfl (by kernel_rfl) (by kernel_rfl) rfl Old.refl' (fun _ _ _ h => h) (fun d E w' hk hda hS hc hf => by rintro _ q41 rfl e77 ; exact ⟨_, by go_simp, rfl⟩)) ?_
          exact StepsOk.nil
        case ends =>
          intro σ9 w9 hS9 hA9
          refine Ends.eqv (some 36) (.int .i64 pl) rfl (fun _ h => h) ?_
          refine Ends.eqv (some 37) (.bool true) rfl (fun _ h => h) ?_
          refine Ends.eqv (some 38) (.bool true) rfl (fun _ h => h) ?_
          refine Ends.eqv (some 39) (.int .i64 pl) rfl (fun _ h => h) ?_
          refine Ends.eqv (some 40) (.pointer (some ⟨m, 0, none⟩)) rfl (fun _ h => h) ?_
          refine Ends.eqv (some 41) (.pointer (some ⟨m, 0, none⟩)) rfl (fun _ h => h) ?_
          refine Ends.eqv (some 42) (.pointer (some ⟨m, 0, none⟩)) rfl (fun _ h => h) ?_
          refine Ends.eqv (some 43) (.slice A n cap) rfl (fun _ h => h) ?_
          refine Ends.eqv (some 44) (.int .i64 n) rfl (fun _ h => h) ?_
          refine Ends.eqv (some 45) (.bool false) rfl (fun _ h => h) ?_
          refine Ends.eqv (some 46) (.bool false) rfl (fun _ h => h) ?_
          refine Ends.eqv (some 47) (.bool false) rfl (fun _ h => h) ?_
          refine Ends.eqv (some 48) (undef) rfl (fun _ h => h) ?_
          refine Ends.eqv (some 49) (undef) rfl (fun _ h => h) ?_
          refine Ends.eqv (some 50) (undef) rfl (fun _ h => h) ?_
          refine Ends.eqv (some 51) (.bool false) rfl (fun _ h => h) ?_
          refine Ends.eqv (some 52) (.bool false) rfl (fun _ h => h) ?_
          refine Ends.eqv (some 53) (undef) rfl (fun _ h => h) ?_
          refine Ends.eqv (some 54) (undef) rfl (fun _ h => h) ?_
          refine Ends.eqv (some 55) (undef) rfl (fun _ h => h) ?_
          refine Ends.eqv (some 56) (undef) rfl (fun _ h => h) ?_
          refine Ends.eqv (some 57) (undef) rfl (fun _ h => h) ?_
          refine Ends.eqv (some 58) (undef) rfl (fun _ h => h) ?_
          refine Ends.eqv (some 59) (undef) rfl (fun _ h => h) ?_
          refine Ends.eqv (some 60) (undef) rfl (fun _ h => h) ?_
          refine Ends.eqv (some 61) (undef) rfl (fun _ h => h) ?_
          refine Ends.eqv (some 62) (undef) rfl (fun _ h => h) ?_
          refine Ends.eqv (some 63) (undef) rfl (fun _ h => h) ?_
          refine Ends.eqv (some 64) (.bool false) rfl (fun _ h => h) ?_
          refine Ends.eqv (some 65) (.bool false) rfl (fun _ h => h) ?_
          refine Ends.eqv (some 66) (undef) rfl (fun _ h => h) ?_
          refine Ends.eqv (some 67) (undef) rfl (fun _ h => h) ?_
          refine Ends.eqv (some 68) (undef) rfl (fun _ h => h) ?_
          refine Ends.eqv (some 69) (undef) rfl (fun _ h => h) ?_
          refine Ends.eqv (some 70) (undef) rfl (fun _ h => h) ?_
          refine Ends.eqv (some 71) (undef) rfl (fun _ h => h) ?_
          refine Ends.eqv (some 72) (undef) rfl (fun _ h => h) ?_
          refine Ends.eqv (some 73) (undef) rfl (fun _ h => h) ?_
          refine Ends.eqv (some 74) (undef) rfl (fun _ h => h) ?_
          refine Ends.eqv (some 75) (undef) rfl (fun _ h => h) ?_
          refine Ends.eqv (some 76) (undef) rfl (fun _ h => h) ?_
          refine Ends.eqv (some 77) (.bool false) rfl (fun _ h => h) ?_
          refine Ends.eqv (some 10) (.bool false) rfl (fun _ h => h) ?_
          refine Ends.nil ?_
          clear hA9
          simp only [put_lit, put_none, List.set_cons_zero, List.set_cons_succ]
          have o9 := hS9
          clear hS9
          go_wp2_with fail
          go_ret
          first | exact ⟨retb HFIN.out, HO.out.trans' o9⟩ | exact ⟨rfl, HO.out.trans' o9⟩
    · have HFIN := hide (show false = b from by rw [← hb']; simp [h1a])
      clear hb'
      go_enter Try.func26, Try.ntmps26
      go_upto_region 3 with (go_at_call 27; refine (cW.out).mono ?_; rintro e w1 ⟨rfl, h1⟩)
      refine region_steps (R := pick [eqv (.int .i64 pl), eqv (.bool false), eqv (.bool false), eqv (undef), eqv (undef), eqv (undef), eqv (undef), eqv (undef), eqv (undef), eqv (undef), eqv (.bool false), eqv (.bool false), eqv (undef), eqv (undef), eqv (undef), eqv (.bool false), eqv (.bool false), eqv (undef), eqv (undef), eqv (undef), eqv (undef), eqv (undef), eqv (undef), eqv (undef), eqv (undef), eqv (undef), eqv (undef), eqv (undef), eqv (.bool false), eqv (.bool false), eqv (undef), eqv (undef), eqv (undef), eqv (undef), eqv (undef), eqv (undef), eqv (undef), eqv (undef), eqv (undef), eqv (undef), eqv (undef), eqv (.bool false), eqv (.bool false)]) (S := fun _ w' => Old WB w') (T := Old) (by kernel_rfl) (by kernel_rfl) (by kernel_rfl) (Stab.pick (Stab.eqv (Stab.eqv (Stab.eqv (Stab.eqv (Stab.eqv (Stab.eqv (Stab.eqv (Stab.eqv (Stab.eqv (Stab.eqv (Stab.eqv (Stab.eqv (Stab.eqv (Stab.eqv (Stab.eqv (Stab.eqv (Stab.eqv (Stab.eqv (Stab.eqv (Stab.eqv (Stab.eqv (Stab.eqv (Stab.eqv (Stab.eqv (Stab.eqv (Stab.eqv (Stab.eqv (Stab.eqv (Stab.eqv (Stab.eqv (Stab.eqv (Stab.eqv (Stab.eqv (Stab.eqv (Stab.eqv (Stab.eqv (Stab.eqv (Stab.eqv (Stab.eqv (Stab.eqv (Stab.eqv (Stab.eqv (Stab.eqv (Stab.nil))))))))))))))))))))))))))))))))))))))))))))) (h1.drew') ?steps ?ends
      case steps =>
        refine StepsOk.cons (stepOk_pure [] [(3, .int .i64 pl)] rfl rfl (by kernel_rfl) (by kernel_rfl) rfl Old.refl' (fun _ _ _ h => h) (fun d E w' hk hda hS hc hf => by rintro  e3; exact ⟨_, by go_simp, rfl⟩)) ?_
        refine StepsOk.cons (stepOk_pure [(0, 36)] [] rfl rfl (by kernel_rfl) (by kernel_rfl) rfl Old.refl' (fun _ _ _ h => h) (fun d E w' hk hda hS hc hf => by rintro _ q0 rfl e36 ; exact ⟨_, by go_simp, rfl⟩)) ?_
        refine StepsOk.cons (stepOk_pure [(1, 37)] [] rfl rfl (by kernel_rfl) (by kernel_rfl) rfl Old.refl' (fun _ _ _ h => h) (fun d E w' hk hda hS hc hf => by rintro _ q1 rfl e37 ; exact ⟨_, by go_simp, rfl⟩)) ?_
        refine StepsOk.cons (stepOk_skip 2 38 false rfl rfl (by kernel_rfl) Old.refl' (fun _ _ _ h => h) (fun _ _ h => h) (fun _ => rfl)) ?_
        refine StepsOk.cons (stepOk_skip 2 38 false rfl rfl (by kernel_rfl) Old.refl' (fun _ _ _ h => h) (fun _ _ h => h) (fun _ => rfl)) ?_
        refine StepsOk.cons (stepOk_skip 2 38 false rfl rfl (by kernel_rfl) Old.refl' (fun _ _ _ h => h) (fun _ _ h => h) (fun _ => rfl)) ?_
        refine StepsOk.cons (stepOk_skip 2 38 false rfl rfl (by kernel_rfl) Old.refl' (fun _ _ _ h => h) (fun _ _ h => h) (fun _ => rfl)) ?_
        refine StepsOk.cons (stepOk_skip 2 38 false rfl rfl (by kernel_rfl) Old.refl' (fun _ _ _ h => h) (fun _ _ h => h) (fun _ => rfl)) ?_
        refine StepsOk.cons (stepOk_skip 2 38 false rfl rfl (by kernel_rfl) Old.refl' (fun _ _ _ h => h) (fun _ _ h => h) (fun _ => rfl)) ?_
        refine StepsOk.cons (stepOk_skip 2 38 false rfl rfl (by kernel_rfl) Old.refl' (fun _ _ _ h => h) (fun _ _ h => h) (fun _ => rfl)) ?_
        refine StepsOk.cons (stepOk_pure [(2, 38), (9, 45)] [] rfl rfl (by kernel_rfl) (by kernel_rfl) rfl Old.refl' (fun _ _ _ h => h) (fun d E w' hk hda hS hc hf => by rintro _ q2 rfl e38 _ q9 rfl e45 ; exact ⟨_, by go_simp, rfl⟩)) ?_
        refine StepsOk.cons (stepOk_pure [(10, 46)] [] rfl rfl (by kernel_rfl) (by kernel_rfl) rfl Old.refl' (fun _ _ _ h => h) (fun d E w' hk hda hS hc hf => by rintro _ q10 rfl e46 ; exact ⟨_, by go_simp, rfl⟩)) ?_
        refine StepsOk.cons (stepOk_skip 11 47 false rfl rfl (by kernel_rfl) Old.refl' (fun _ _ _ h => h) (fun _ _ h => h) (fun _ => rfl)) ?_
        refine StepsOk.cons (stepOk_skip 11 47 false rfl rfl (by kernel_rfl) Old.refl' (fun _ _ _ h => h) (fun _ _ h => h) (fun _ => rfl)) ?_
        refine StepsOk.cons (stepOk_skip 11 47 false rfl rfl (by kernel_rfl) Old.refl' (fun _ _ _ h => h) (fun _ _ h => h) (fun _ => rfl)) ?_
        refine StepsOk.cons (stepOk_pure [(11, 47), (14, 50)] [] rfl rfl (by kernel_rfl) (by kernel_rfl) rfl Old.refl' (fun _ _ _ h => h) (fun d E w' hk hda hS hc hf => by rintro _ q11 rfl e47 _ q14 rfl e50 ; exact ⟨_, by go_simp, rfl⟩)) ?_
        refine StepsOk.cons (stepOk_pure [(15, 51)] [] rfl rfl (by kernel_rfl) (by kernel_rfl) rfl Old.refl' (fun _ _ _ h => h) (fun d E w' hk hda hS hc hf => by rintro _ q15 rfl e51 ; exact ⟨_, by go_simp, rfl⟩)) ?_
        refine StepsOk.cons (stepOk_skip 16 52 false rfl rfl (by kernel_rfl) Old.refl' (fun _ _ _ h => h) (fun _ _ h => h) (fun _ => rfl)) ?_
        refine StepsOk.cons (stepOk_skip 16 52 false rfl rfl (by kernel_rfl) Old.refl' (fun _ _ _ h => h) (fun _ _ h => h) (fun _ => rfl)) ?_
        refine StepsOk.cons (stepOk_skip 16 52 false rfl rfl (by kernel_rfl) Old.refl' (fun _ _ _ h => h) (fun _ _ h => h) (fun _ => rfl)) ?_
        refine StepsOk.cons (stepOk_skip 16 52 false rfl rfl (by kernel_rfl) Old.refl' (fun _ _ _ h => h) (fun _ _ h => h) (fun _ => rfl)) ?_
        refine StepsOk.cons (stepOk_skip 16 52 false rfl rfl (by kernel_rfl) Old.refl' (fun _ _ _ h => h) (fun _ _ h => h) (fun _ => rfl)) ?_
        refine StepsOk.cons (stepOk_skip 16 52 false rfl rfl (by kernel_rfl) Old.refl' (fun _ _ _ h => h) (fun _ _ h => h) (fun _ => rfl)) ?_
        refine StepsOk.cons (stepOk_skip 16 52 false rfl rfl (by kernel_rfl) Old.refl' (fun _ _ _ h => h) (fun _ _ h => h) (fun _ => rfl)) ?_
        refine StepsOk.cons (stepOk_skip 16 52 false rfl rfl (by kernel_rfl) Old.refl' (fun _ _ _ h => h) (fun _ _ h => h) (fun _ => rfl)) ?_
        refine StepsOk.cons (stepOk_skip 16 52 false rfl rfl (by kernel_rfl) Old.refl' (fun _ _ _ h => h) (fun _ _ h => h) (fun _ => rfl)) ?_
        refine StepsOk.cons (stepOk_skip 16 52 false rfl rfl (by kernel_rfl) Old.refl' (fun _ _ _ h => h) (fun _ _ h => h) (fun _ => rfl)) ?_
        refine StepsOk.cons (stepOk_skip 16 52 false rfl rfl (by kernel_rfl) Old.refl' (fun _ _ _ h => h) (fun _ _ h => h) (fun _ => rfl)) ?_
        refine StepsOk.cons (stepOk_pure [(16, 52), (27, 63)] [] rfl rfl (by kernel_rfl) (by kernel_rfl) rfl Old.refl' (fun _ _ _ h => h) (fun d E w' hk hda hS hc hf => by rintro _ q16 rfl e52 _ q27 rfl e63 ; exact ⟨_, by go_simp, rfl⟩)) ?_
        refine StepsOk.cons (stepOk_pure [(28, 64)] [] rfl rfl (by kernel_rfl) (by kernel_rfl) rfl Old.refl' (fun _ _ _ h => h) (fun d E w' hk hda hS hc hf => by rintro _ q28 rfl e64 ; exact ⟨_, by go_simp, rfl⟩)) ?_
        refine StepsOk.cons (stepOk_skip 29 65 false rfl rfl (by kernel_rfl) Old.refl' (fun _ _ _ h => h) (fun _ _ h => h) (fun _ => rfl)) ?_
        refine StepsOk.cons (stepOk_skip 29 65 false rfl rfl (by kernel_rfl) Old.refl' (fun _ _ _ h => h) (fun _ _ h => h) (fun _ => rfl)) ?_
        refine StepsOk.cons (stepOk_skip 29 65 false rfl rfl (by kernel_rfl) Old.refl' (fun _ _ _ h => h) (fun _ _ h => h) (fun _ => rfl)) ?_
        refine StepsOk.cons (stepOk_skip 29 65 false rfl rfl (by kernel_rfl) Old.refl' (fun _ _ _ h => h) (fun _ _ h => h) (fun _ => rfl)) ?_
        refine StepsOk.cons (stepOk_skip 29 65 false rfl rfl (by kernel_rfl) Old.refl' (fun _ _ _ h => h) (fun _ _ h => h) (fun _ => rfl)) ?_
        refine StepsOk.cons (stepOk_skip 29 65 false rfl rfl (by kernel_rfl) Old.refl' (fun _ _ _ h => h) (fun _ _ h => h) (fun _ => rfl)) ?_
        refine StepsOk.cons (stepOk_skip 29 65 false rfl rfl (by kernel_rfl) Old.refl' (fun _ _ _ h => h) (fun _ _ h => h) (fun _ => rfl)) ?_
        refine StepsOk.cons (stepOk_skip 29 65 false rfl rfl (by kernel_rfl) Old.refl' (fun _ _ _ h => h) (fun _ _ h => h) (fun _ => rfl)) ?_
        refine StepsOk.cons (stepOk_skip 29 65 false rfl rfl (by kernel_rfl) Old.refl' (fun _ _ _ h => h) (fun _ _ h => h) (fun _ => rfl)) ?_
        refine StepsOk.cons (stepOk_skip 29 65 false rfl rfl (by kernel_rfl) Old.refl' (fun _ _ _ h => h) (fun _ _ h => h) (fun _ => rfl)) ?_
        refine StepsOk.cons (stepOk_skip 29 65 false rfl rfl (by kernel_rfl) Old.refl' (fun _ _ _ h => h) (fun _ _ h => h) (fun _ => rfl)) ?_
        refine StepsOk.cons (stepOk_pure [(29, 65), (40, 76)] [] rfl rfl (by kernel_rfl) (by kernel_rfl) rfl Old.refl' (fun _ _ _ h => h) (fun d E w' hk hda hS hc hf => by rintro _ q29 rfl e65 _ q40 rfl e76 ; exact ⟨_, by go_simp, rfl⟩)) ?_
        refine StepsOk.cons (stepOk_pure [(41, 77)] [] rfl rfl (by kernel_rfl) (by kernel_rfl) rfl Old.refl' (fun _ _ _ h => h) (fun d E w' hk hda hS hc hf => by rintro _ q41 rfl e77 ; exact ⟨_, by go_simp, rfl⟩)) ?_
        exact StepsOk.nil
      case ends =>
        intro σ9 w9 hS9 hA9
        refine Ends.eqv (some 36) (.int .i64 pl) rfl (fun _ h => h) ?_
        refine Ends.eqv (some 37) (.bool false) rfl (fun _ h => h) ?_
        refine Ends.eqv (some 38) (.bool false) rfl (fun _ h => h) ?_
        refine Ends.eqv (some 39) (undef) rfl (fun _ h => h) ?_
        refine Ends.eqv (some 40) (undef) rfl (fun _ h => h) ?_
        refine Ends.eqv (some 41) (undef) rfl (fun _ h => h) ?_
        refine Ends.eqv (some 42) (undef) rfl (fun _ h => h) ?_
        refine Ends.eqv (some 43) (undef) rfl (fun _ h => h) ?_
        refine Ends.eqv (some 44) (undef) rfl (fun _ h => h) ?_
        refine Ends.eqv (some 45) (undef) rfl (fun _ h => h) ?_
        refine Ends.eqv (some 46) (.bool false) rfl (fun _ h => h) ?_
        refine Ends.eqv (some 47) (.bool false) rfl (fun _ h => h) ?_
        refine Ends.eqv (some 48) (undef) rfl (fun _ h => h) ?_
        refine Ends.eqv (some 49) (undef) rfl (fun _ h => h) ?_
        refine Ends.eqv (some 50) (undef) rfl (fun _ h => h) ?_
        refine Ends.eqv (some 51) (.bool false) rfl (fun _ h => h) ?_
        refine Ends.eqv (some 52) (.bool false) rfl (fun _ h => h) ?_
        refine Ends.eqv (some 53) (undef) rfl (fun _ h => h) ?_
        refine Ends.eqv (some 54) (undef) rfl (fun _ h => h) ?_
        refine Ends.eqv (some 55) (undef) rfl (fun _ h => h) ?_
        refine Ends.eqv (some 56) (undef) rfl (fun _ h => h) ?_
        refine Ends.eqv (some 57) (undef) rfl (fun _ h => h) ?_
        refine Ends.eqv (some 58) (undef) rfl (fun _ h => h) ?_
        refine Ends.eqv (some 59) (undef) rfl (fun _ h => h) ?_
        refine Ends.eqv (some 60) (undef) rfl (fun _ h => h) ?_
        refine Ends.eqv (some 61) (undef) rfl (fun _ h => h) ?_
        refine Ends.eqv (some 62) (undef) rfl (fun _ h => h) ?_
        refine Ends.eqv (some 63) (undef) rfl (fun _ h => h) ?_
        refine Ends.eqv (some 64) (.bool false) rfl (fun _ h => h) ?_
        refine Ends.eqv (some 65) (.bool false) rfl (fun _ h => h) ?_
        refine Ends.eqv (some 66) (undef) rfl (fun _ h => h) ?_
        refine Ends.eqv (some 67) (undef) rfl (fun _ h => h) ?_
        refine Ends.eqv (some 68) (undef) rfl (fun _ h => h) ?_
        refine Ends.eqv (some 69) (undef) rfl (fun _ h => h) ?_
        refine Ends.eqv (some 70) (undef) rfl (fun _ h => h) ?_
        refine Ends.eqv (some 71) (undef) rfl (fun _ h => h) ?_
        refine Ends.eqv (some 72) (undef) rfl (fun _ h => h) ?_
        refine Ends.eqv (some 73) (undef) rfl (fun _ h => h) ?_
        refine Ends.eqv (some 74) (undef) rfl (fun _ h => h) ?_
        refine Ends.eqv (some 75) (undef) rfl (fun _ h => h) ?_
        refine Ends.eqv (some 76) (undef) rfl (fun _ h => h) ?_
        refine Ends.eqv (some 77) (.bool false) rfl (fun _ h => h) ?_
        refine Ends.eqv (some 10) (.bool false) rfl (fun _ h => h) ?_
        refine Ends.nil ?_
        clear hA9
        simp only [put_lit, put_none, List.set_cons_zero, List.set_cons_succ]
        have o9 := hS9
        clear hS9
        go_wp2_with fail
        go_ret
        first | exact ⟨retb HFIN.out, HO.out.trans' o9⟩ | exact ⟨rfl, HO.out.trans' o9⟩
end Go.Proofs.Ytffahoocbjfdaaa
