/- casebookref18.L: the document's log in memory; Seq, Last, Find, Clean. -/
import Derived.Test.YtmhnlpilbbfgnaaHDy
import Derived.Test.YtmhnlpilbbfgnaaHLi
namespace Go.Proofs.Ytmhnlpilbbfgnaa
open Go.RowKit

structure XlAt (w : World) (x : Nat) (F : Nat → Prop) (l : LnV) : Prop where
  ex : ∃ A c, Bk w x 60 #[.int .i64 l.quota, .slice A l.qs.length c, .int .i64 l.k] ∧ ReqsAt w A l.qs ∧ (l.qs ≠ [] → ∀ a, A = some a → F a.block ∧ a.block ≠ x)
  gF : F x
  lt : ∀ k, F k → k < w.heap.size
structure XlSee (w : World) (x : Nat) (l : LnV) (N : Nat) (A : Option Addr) (ca : Nat) : Prop where
  xl : x < w.heap.size
  c0 : w.cell? ⟨x, 0, none⟩ = some (.int .i64 l.quota)
  c1 : w.cell? ⟨x, 1, none⟩ = some (.slice A N ca)
  c2 : w.cell? ⟨x, 2, none⟩ = some (.int .i64 l.k)
  f1 : w.frozen? ⟨x, 1, none⟩ = false
  f2 : w.frozen? ⟨x, 2, none⟩ = false
  row : ReqsAt w A l.qs
section
variable {w w' : World} {x : Nat} {F S : Nat → Prop} {l : LnV}
theorem XlAt.see (h : XlAt w x F l) {n : Nat} (hn : l.qs.length = n) : ∃ A ca, XlSee w x l n A ca := by
  subst hn
  obtain ⟨A, c, hb, hr, hf⟩ := h.ex
  have c0 := hb.cell 0
  have c1 := hb.cell 1
  have c2 := hb.cell 2
  simp at c0 c1 c2
  exact ⟨A, c, hb.lt, c0, c1, c2, hb.frozen 1, hb.frozen 2, hr⟩
theorem reqs_ne {qs : List ReqV} (h : qs.flatMap ReqV.cells ≠ []) : qs ≠ [] := fun e => h (by rw [e]; rfl)
theorem XlAt.fr (h : XlAt w x F l) (hf : Fr S w w') (hS : ∀ k, F k → ¬ S k) : XlAt w' x F l := by
  obtain ⟨A, c, hb, hr, hA⟩ := h.ex
  exact ⟨⟨A, c, hb.fr hf (hS x h.gF), CellsAt.fr hr hf (fun hn a ha => hS _ (hA (reqs_ne hn) a ha).1), hA⟩, h.gF, fun k hk => Nat.lt_of_lt_of_le (h.lt k hk) hf.size⟩
theorem XlAt.old (h : XlAt w x F l) (hf : Old w w') : XlAt w' x F l := h.fr (S := fun _ => False) (Fr.of_old hf) (fun _ _ h => h)
theorem Xl_new {quota : Int} (h : Bk w x 60 #[.int .i64 quota, .slice none 0 0, .int .i64 0]) : XlAt w x (fun k => k = x) (LnV.new quota) :=
  ⟨⟨none, 0, h, CellsAt.nil _ _, fun hn => absurd rfl hn⟩, rfl, fun k hk => by rw [hk]; exact h.lt⟩
/-- x.Commit = n -/
theorem XlAt.com (h : XlAt w x F l) (n : Nat) : XlAt (w.setCell ⟨x, 2, none⟩ (.int .i64 n)) x F (l.commit n) := by
  obtain ⟨A, c, hb, hr, hA⟩ := h.ex
  refine ⟨⟨A, c, hb.set_ 2 _, ?_, hA⟩, h.gF, fun k hk => by have := h.lt k hk; simpa using this⟩
  by_cases hq : l.qs = []
  · show CellsAt _ _ (l.qs.flatMap ReqV.cells)
    rw [hq]; exact CellsAt.nil _ _
  · exact CellsAt.set_ hr (fun a ha => (hA hq a ha).2) _
end

set_option maxRecDepth 100000 in
set_option maxHeartbeats 1000000 in
theorem XSeq_any (x : Nat) (F : Nat → Prop) (l : LnV) (hfew : l.qs.length ≤ 50000) (c : Int) (w : World) (h : XlAt w x F l) :
    Calls Try.prog 61 #[.pointer (some ⟨x, 0, none⟩), .int .i64 c] w fun e w' => e = .returned (.int .i64 (lastSeq l.qs c)) ∧ w = w' := by
  obtain ⟨A, ca, hs⟩ := h.see rfl
  have hxl := hs.xl
  have c1 := hs.c1
  have hrow := hs.row
  obtain ⟨N, hN⟩ : ∃ N, l.qs.length = N := ⟨_, rfl⟩
  rw [hN] at c1
  have HN := hide hN
  clear h hs hN
  rw [HN.out] at hfew
  go_enter Try.func61, Try.ntmps61
  go_wp2_with fail
  go_loopw [5, 6] (fun nv iv wr => ∃ j : Nat, j ≤ N ∧ iv = .int .i64 j ∧ nv = .int .i64 (lastSeq (l.qs.take j) c) ∧ w = wr) (fun _ iv _ => N - (intOf iv).toNat)
  case atStart => exact ⟨0, Nat.zero_le _, rfl, rfl, rfl⟩
  case round =>
    obtain ⟨j, hj, rfl, rfl, rfl⟩ := hrel
    by_cases hlt : j < N
    · have hjq : j < l.qs.length := by have := HN.out; omega
      obtain ⟨b, o, rfl, hb, hc⟩ := hrow.at5 (k := j) hjq
      have hgd : l.qs[j]?.getD default = l.qs[j] := by rw [List.getElem?_eq_getElem hjq]; rfl
      obtain ⟨q, hq⟩ : ∃ q, l.qs[j] = q := ⟨_, rfl⟩
      rw [hgd, hq] at hc
      have x0 : w.cell? ⟨b, o + j * 6, none⟩ = some (.int .i64 q.client) := hc 0 _ (by omega) rfl
      have x1 : w.cell? ⟨b, o + j * 6 + 1, none⟩ = some (.int .i64 q.seq) := hc 1 _ (by omega) rfl
      have x3 : w.cell? ⟨b, o + j * 6 + 3, none⟩ = some (.int .i64 q.id) := hc 3 _ (by omega) rfl
      have HT := hide (show lastSeq (l.qs.take (j + 1)) c = if q.client = c then q.seq else lastSeq (l.qs.take j) c by rw [List.take_succ_eq_append_getElem hjq, lastSeq_snoc, hq])
      obtain ⟨v0, hv0⟩ : ∃ v, lastSeq (l.qs.take j) c = v := ⟨_, rfl⟩
      have HV := hide hv0
      simp only [hv0]
      clear hc hgd hq hv0
      by_cases hh : q.client = c
      · have HH := hide hh
        have q1 : (q.client == c) = true := by simpa using hh
        clear hh
        go_wp2_with fail
        go_roundw
        case rel => exact ⟨j + 1, by omega, by go_num, by rw [HT.out, if_pos HH.out], by trivial⟩
        case measure => simp [intOf]; omega
      · have HH := hide hh
        have q1 : (q.client == c) = false := by simpa using hh
        clear hh
        go_wp2_with fail
        go_roundw
        case rel => exact ⟨j + 1, by omega, by go_num, by rw [HT.out, if_neg HH.out, HV.out], by trivial⟩
        case measure => simp [intOf]; omega
    · obtain rfl : j = N := by omega
      have HV := hide (show lastSeq (l.qs.take j) c = lastSeq l.qs c by rw [List.take_of_length_le (by rw [HN.out]; exact Nat.le_refl _)])
      obtain ⟨v0, hv0⟩ : ∃ v, lastSeq (l.qs.take j) c = v := ⟨_, rfl⟩
      have HV0 := hide hv0
      simp only [hv0]
      clear hv0
      go_wp2_with fail
      go_ret
      exact ⟨by rw [← HV.out, HV0.out]; rfl, rfl⟩
set_option maxRecDepth 100000 in
set_option maxHeartbeats 1000000 in
theorem XLast_any (x : Nat) (F : Nat → Prop) (l : LnV) (hfew : l.qs.length ≤ 50000) (c : Int) (w : World) (h : XlAt w x F l) :
    Calls Try.prog 62 #[.pointer (some ⟨x, 0, none⟩), .int .i64 c] w fun e w' => e = .returned (.int .i64 ((lastAt l.qs c : Int))) ∧ w = w' := by
  obtain ⟨A, ca, hs⟩ := h.see rfl
  have hxl := hs.xl
  have c1 := hs.c1
  have hrow := hs.row
  obtain ⟨N, hN⟩ : ∃ N, l.qs.length = N := ⟨_, rfl⟩
  rw [hN] at c1
  have HN := hide hN
  clear h hs hN
  rw [HN.out] at hfew
  go_enter Try.func62, Try.ntmps62
  go_wp2_with fail
  go_loopw [5, 6] (fun nv iv wr => ∃ j : Nat, j ≤ N ∧ iv = .int .i64 j ∧ nv = .int .i64 ((lastAt (l.qs.take j) c : Int)) ∧ w = wr) (fun _ iv _ => N - (intOf iv).toNat)
  case atStart => exact ⟨0, Nat.zero_le _, rfl, rfl, rfl⟩
  case round =>
    obtain ⟨j, hj, rfl, rfl, rfl⟩ := hrel
    by_cases hlt : j < N
    · have hjq : j < l.qs.length := by have := HN.out; omega
      obtain ⟨b, o, rfl, hb, hc⟩ := hrow.at5 (k := j) hjq
      have hgd : l.qs[j]?.getD default = l.qs[j] := by rw [List.getElem?_eq_getElem hjq]; rfl
      obtain ⟨q, hq⟩ : ∃ q, l.qs[j] = q := ⟨_, rfl⟩
      rw [hgd, hq] at hc
      have x0 : w.cell? ⟨b, o + j * 6, none⟩ = some (.int .i64 q.client) := hc 0 _ (by omega) rfl
      have x1 : w.cell? ⟨b, o + j * 6 + 1, none⟩ = some (.int .i64 q.seq) := hc 1 _ (by omega) rfl
      have x3 : w.cell? ⟨b, o + j * 6 + 3, none⟩ = some (.int .i64 q.id) := hc 3 _ (by omega) rfl
      have HT := hide (show (lastAt (l.qs.take (j + 1)) c : Int) = if q.id = c then ((j : Int) + 1) else (lastAt (l.qs.take j) c : Int) by rw [List.take_succ_eq_append_getElem hjq, lastAt_snoc, hq, List.length_take, Nat.min_eq_left (by omega)]; split <;> simp)
      obtain ⟨v0, hv0⟩ : ∃ v, (lastAt (l.qs.take j) c : Int) = v := ⟨_, rfl⟩
      have HV := hide hv0
      simp only [hv0]
      clear hc hgd hq hv0
      by_cases hh : q.id = c
      · have HH := hide hh
        have q1 : (q.id == c) = true := by simpa using hh
        clear hh
        go_wp2_with fail
        go_roundw
        case rel => exact ⟨j + 1, by omega, by go_num, by first | rw [HT.out, if_pos HH.out] | (rw [HT.out, if_pos HH.out]; go_num), by trivial⟩
        case measure => simp [intOf]; omega
      · have HH := hide hh
        have q1 : (q.id == c) = false := by simpa using hh
        clear hh
        go_wp2_with fail
        go_roundw
        case rel => exact ⟨j + 1, by omega, by go_num, by rw [HT.out, if_neg HH.out, HV.out], by trivial⟩
        case measure => simp [intOf]; omega
    · obtain rfl : j = N := by omega
      have HV := hide (show (lastAt (l.qs.take j) c : Int) = (lastAt l.qs c : Int) by rw [List.take_of_length_le (by rw [HN.out]; exact Nat.le_refl _)])
      obtain ⟨v0, hv0⟩ : ∃ v, (lastAt (l.qs.take j) c : Int) = v := ⟨_, rfl⟩
      have HV0 := hide hv0
      simp only [hv0]
      clear hv0
      go_wp2_with fail
      go_ret
      exact ⟨by rw [← HV.out, HV0.out]; rfl, rfl⟩
set_option maxRecDepth 100000 in
set_option maxHeartbeats 1000000 in
theorem XFind_any (x : Nat) (F : Nat → Prop) (l : LnV) (hfew : l.qs.length ≤ 50000) (c s : Int) (w : World) (h : XlAt w x F l) :
    Calls Try.prog 60 #[.pointer (some ⟨x, 0, none⟩), .int .i64 c, .int .i64 s] w fun e w' => e = .returned (.tuple #[.int .i64 (findR l.qs c s), .bool (decide (findR l.qs c s ≠ 0))]) ∧ w = w' := by
  obtain ⟨A, ca, hs⟩ := h.see rfl
  have hxl := hs.xl
  have c1 := hs.c1
  have hrow := hs.row
  obtain ⟨N, hN⟩ : ∃ N, l.qs.length = N := ⟨_, rfl⟩
  rw [hN] at c1
  have HN := hide hN
  clear h hs hN
  rw [HN.out] at hfew
  go_enter Try.func60, Try.ntmps60
  go_wp2_with fail
  go_loopw [8] (fun iv wr => ∃ j : Nat, j ≤ N ∧ iv = .int .i64 j ∧ (∀ i y, i < j → l.qs[i]? = some y → hitQ c s y = false) ∧ w = wr) (fun iv _ => N - (intOf iv).toNat)
  case atStart => exact ⟨0, Nat.zero_le _, rfl, fun i y hi => absurd hi (Nat.not_lt_zero _), rfl⟩
  case round =>
    obtain ⟨j, hj, rfl, hno, rfl⟩ := hrel
    by_cases hlt : j < N
    · have hjq : j < l.qs.length := by have := HN.out; omega
      obtain ⟨b, o, rfl, hb, hc⟩ := hrow.at5 (k := j) hjq
      have hgd : l.qs[j]?.getD default = l.qs[j] := by rw [List.getElem?_eq_getElem hjq]; rfl
      obtain ⟨q, hq⟩ : ∃ q, l.qs[j] = q := ⟨_, rfl⟩
      rw [hgd, hq] at hc
      have x0 : w.cell? ⟨b, o + j * 6, none⟩ = some (.int .i64 q.client) := hc 0 _ (by omega) rfl
      have x1 : w.cell? ⟨b, o + j * 6 + 1, none⟩ = some (.int .i64 q.seq) := hc 1 _ (by omega) rfl
      have hqj : l.qs[j]? = some q := by rw [List.getElem?_eq_getElem hjq, hq]
      have HQJ := hide hqj
      have HNO := hide hno
      have hmiss := hide (fun (hf : hitQ c s q = false) i y (hi : i < j + 1) (hy : l.qs[i]? = some y) => (by
        by_cases e : i = j
        · subst e; rw [HQJ.out] at hy; injection hy with hy; rw [← hy]; exact hf
        · exact HNO.out i y (by omega) hy : hitQ c s y = false))
      clear hc hgd hq hno hqj
      by_cases h1 : q.client = c
      · by_cases h2 : q.seq = s
        · have HR := hide (findR_some HQJ.out (show hitQ c s q = true by unfold hitQ; rw [decide_eq_true h1, decide_eq_true h2]; rfl) HNO.out)
          have q1 : (q.client == c) = true := by simpa using h1
          have q2 : (q.seq == s) = true := by simpa using h2
          clear h1 h2
          go_wp2_with fail
          refine bodyPost_ret (v := .tuple #[.int .i64 ((j : Int) + 1), .bool true]) ?_ rfl ⟨?_, rfl⟩
          · simp [results, Try.results60, go_sem, *]
          · rw [HR.out]; simp
        · have HM := hide (hmiss.out (by unfold hitQ; rw [decide_eq_false h2, Bool.and_false]))
          have q1 : (q.client == c) = true := by simpa using h1
          have q2 : (q.seq == s) = false := by simpa using h2
          clear h1 h2
          go_wp2_with fail
          go_roundw
          case rel => exact ⟨j + 1, by omega, by go_num, HM.out, by trivial⟩
          case measure => simp [intOf]; omega
      · have HM := hide (hmiss.out (by unfold hitQ; rw [decide_eq_false h1]; rfl))
        have q1 : (q.client == c) = false := by simpa using h1
        clear h1
        go_wp2_with fail
        go_roundw
        case rel => exact ⟨j + 1, by omega, by go_num, HM.out, by trivial⟩
        case measure => simp [intOf]; omega
    · obtain rfl : j = N := by omega
      have hz : findR l.qs c s = 0 := findR_none fun y hy => by
        obtain ⟨i, hi, hiy⟩ := List.mem_iff_getElem.1 hy
        exact hno i y (by have := HN.out; omega) (by rw [List.getElem?_eq_getElem hi, hiy])
      have HZ := hide hz
      clear hz hno
      go_wp2_with fail
      refine bodyPost_ret (v := .tuple #[.int .i64 0, .bool false]) ?_ rfl ⟨?_, rfl⟩
      · simp [results, Try.results60, go_sem, *]
      · rw [HZ.out]; rfl
set_option maxRecDepth 100000 in
set_option maxHeartbeats 1000000 in
theorem XClean_any (x : Nat) (F : Nat → Prop) (l : LnV) (hfew : l.qs.length ≤ 50000) (c : Int) (v : Bool) (hv : l.clean c = v) (w : World) (h : XlAt w x F l) :
    Calls Try.prog 39 #[.pointer (some ⟨x, 0, none⟩), .int .i64 c] w fun e w' => e = .returned (.bool v) ∧ Old w w' := by
  obtain ⟨m, hm⟩ : ∃ m, lastAt l.qs c = m := ⟨_, rfl⟩
  obtain ⟨k, hk⟩ : ∃ k, l.k = k := ⟨_, rfl⟩
  have cL := hide (fun (W : World) (hW : Old w W) => by have := XLast_any x F l hfew c W (h.old hW); rw [hm] at this; exact this)
  have hX := hide (fun (W : World) (hW : Old w W) => (by obtain ⟨A, ca, hs⟩ := (h.old hW).see rfl; have := hs.c2; rwa [hk] at this : W.cell? ⟨x, 2, none⟩ = some (.int .i64 k)))
  unfold LnV.clean at hv
  rw [hm, hk] at hv
  have HV := hide hv
  clear h hm hk hv hfew
  by_cases h0 : 0 ≤ c
  · by_cases h1 : c ≤ 31
    · have hvv : decide (m ≤ k) = v := by rw [← HV.out, decide_eq_true h0, decide_eq_true h1]; rfl
      have HVV := hide hvv
      clear hvv
      go_enter Try.func39, Try.ntmps39
      go_wp2_with fail
      refine region_steps (R := pick [eqv (.int .i64 c), eqv (.bool true), eqv (.bool true), eqv (.int .i64 c), eqv (.bool true), eqv (.bool true), eqv (.bool true), eqv (.pointer (some ⟨x, 0, none⟩)), eqv (.int .i64 c), eqv (.int .i64 m), eqv (.pointer (some ⟨x, 0, none⟩)), eqv (.pointer (some ⟨x, 0, none⟩)), eqv (.pointer (some ⟨x, 2, none⟩)), eqv (.int .i64 k), eqv (.bool (decide (m ≤ k))), eqv (.bool (decide (m ≤ k))), eqv (.bool (decide (m ≤ k)))]) (S := fun _ w' => Old w w') (T := Old) (by kernel_rfl) (by kernel_rfl) (by kernel_rfl) (Stab.pick (Stab.eqv (Stab.eqv (Stab.eqv (Stab.eqv (Stab.eqv (Stab.eqv (Stab.eqv (Stab.eqv (Stab.eqv (Stab.eqv (Stab.eqv (Stab.eqv (Stab.eqv (Stab.eqv (Stab.eqv (Stab.eqv (Stab.eqv (Stab.nil))))))))))))))))))) ((Old.refl' _).drew') ?steps ?ends
      case steps =>
        refine StepsOk.cons (stepOk_pure [] [(1, .int .i64 c)] rfl rfl (by kernel_rfl) (by kernel_rfl) rfl Old.refl' (fun _ _ _ h => h) (fun d E w' hk hda hS hc hf => by rintro  e1; exact ⟨_, by go_simp, rfl⟩)) ?_
        refine StepsOk.cons (stepOk_pure [(0, 5)] [] rfl rfl (by kernel_rfl) (by kernel_rfl) rfl Old.refl' (fun _ _ _ h => h) (fun d E w' hk hda hS hc hf => by rintro _ q0 rfl e5 ; exact ⟨_, by go_simp, rfl⟩)) ?_
        refine StepsOk.cons (stepOk_pure [(1, 6)] [] rfl rfl (by kernel_rfl) (by kernel_rfl) rfl Old.refl' (fun _ _ _ h => h) (fun d E w' hk hda hS hc hf => by rintro _ q1 rfl e6 ; exact ⟨_, by go_simp, rfl⟩)) ?_
        refine StepsOk.cons (stepOk_pureG 2 7 true rfl rfl (by kernel_rfl) (fun _ _ h => h) [] [(1, .int .i64 c)] (by kernel_rfl) (by kernel_rfl) rfl Old.refl' (fun _ _ _ h => h) (fun d E w' hk hda hS hc hf => by rintro  e1; exact ⟨_, by go_simp, rfl⟩)) ?_
        refine StepsOk.cons (stepOk_pureG 2 7 true rfl rfl (by kernel_rfl) (fun _ _ h => h) [(3, 8)] [] (by kernel_rfl) (by kernel_rfl) rfl Old.refl' (fun _ _ _ h => h) (fun d E w' hk hda hS hc hf => by rintro _ q3 rfl e8 ; exact ⟨_, by go_simp, rfl⟩)) ?_
        refine StepsOk.cons (stepOk_pure [(2, 7), (4, 9)] [] rfl rfl (by kernel_rfl) (by kernel_rfl) rfl Old.refl' (fun _ _ _ h => h) (fun d E w' hk hda hS hc hf => by rintro _ q2 rfl e7 _ q4 rfl e9 ; exact ⟨_, by go_simp, rfl⟩)) ?_
        refine StepsOk.cons (stepOk_pure [(5, 10)] [] rfl rfl (by kernel_rfl) (by kernel_rfl) rfl Old.refl' (fun _ _ _ h => h) (fun d E w' hk hda hS hc hf => by rintro _ q5 rfl e10 ; exact ⟨_, by go_simp, rfl⟩)) ?_
        refine StepsOk.cons (stepOk_pureG 6 11 true rfl rfl (by kernel_rfl) (fun _ _ h => h) [] [(0, .pointer (some ⟨x, 0, none⟩))] (by kernel_rfl) (by kernel_rfl) rfl Old.refl' (fun _ _ _ h => h) (fun d E w' hk hda hS hc hf => by rintro  e0; exact ⟨_, by go_simp, rfl⟩)) ?_
        refine StepsOk.cons (stepOk_pureG 6 11 true rfl rfl (by kernel_rfl) (fun _ _ h => h) [] [(1, .int .i64 c)] (by kernel_rfl) (by kernel_rfl) rfl Old.refl' (fun _ _ _ h => h) (fun d E w' hk hda hS hc hf => by rintro  e1; exact ⟨_, by go_simp, rfl⟩)) ?_
        refine StepsOk.cons (stepOk_guard 6 11 true rfl rfl (by kernel_rfl) (fun _ _ h => h) [(7, 12), (8, 13)] [] (by kernel_rfl) (by kernel_rfl) rfl ?_) ?_
        · rintro d a w' hk hda hS _ q7 rfl e12 _ q8 rfl e13 
          first | refine Given.nil (Known.nil ?_) | refine Known.nil ?_
          refine wp_call 62 _ Try.func62 (by kernel_rfl) (by kernel_rfl) _ _ (by rfl) [.pointer (some ⟨x, 0, none⟩), .int .i64 c] (by simp only [List.map_cons, List.map_nil, *]; try rfl) (cL.out _ hS) ?_
          rintro e w1 ⟨rfl, rfl⟩
          exact ⟨_, rfl, _, rfl, rfl, Old.refl' _, hS⟩
        refine StepsOk.cons (stepOk_pureG 6 11 true rfl rfl (by kernel_rfl) (fun _ _ h => h) [] [(0, .pointer (some ⟨x, 0, none⟩))] (by kernel_rfl) (by kernel_rfl) rfl Old.refl' (fun _ _ _ h => h) (fun d E w' hk hda hS hc hf => by rintro  e0; exact ⟨_, by go_simp, rfl⟩)) ?_
        refine StepsOk.cons (stepOk_pureG 6 11 true rfl rfl (by kernel_rfl) (fun _ _ h => h) [(10, 15)] [] (by kernel_rfl) (by kernel_rfl) rfl Old.refl' (fun _ _ _ h => h) (fun d E w' hk hda hS hc hf => by rintro _ q10 rfl e15 ; exact ⟨_, by go_simp, rfl⟩)) ?_
        refine StepsOk.cons (stepOk_pureG 6 11 true rfl rfl (by kernel_rfl) (fun _ _ h => h) [(11, 16)] [] (by kernel_rfl) (by kernel_rfl) rfl Old.refl' (fun _ _ _ h => h) (fun d E w' hk hda hS hc hf => by rintro _ q11 rfl e16 ; exact ⟨_, by go_simp, rfl⟩)) ?_
        refine StepsOk.cons (stepOk_pureG 6 11 true rfl rfl (by kernel_rfl) (fun _ _ h => h) [(12, 17)] [] (by kernel_rfl) (by kernel_rfl) rfl Old.refl' (fun _ _ _ h => h) (fun d E w' hk hda hS hc hf => by rintro _ q12 rfl e17 ; obtain t2 := hX.out _ hS; exact ⟨_, by go_simp, rfl⟩)) ?_
        refine StepsOk.cons (stepOk_pureG 6 11 true rfl rfl (by kernel_rfl) (fun _ _ h => h) [(9, 14), (13, 18)] [] (by kernel_rfl) (by kernel_rfl) rfl Old.refl' (fun _ _ _ h => h) (fun d E w' hk hda hS hc hf => by rintro _ q9 rfl e14 _ q13 rfl e18 ; exact ⟨_, by go_simp, rfl⟩)) ?_
        refine StepsOk.cons (stepOk_pure [(6, 11), (14, 19)] [] rfl rfl (by kernel_rfl) (by kernel_rfl) rfl Old.refl' (fun _ _ _ h => h) (fun d E w' hk hda hS hc hf => by rintro _ q6 rfl e11 _ q14 rfl e19 ; exact ⟨_, by go_simp, rfl⟩)) ?_
        refine StepsOk.cons (stepOk_pure [(15, 20)] [] rfl rfl (by kernel_rfl) (by kernel_rfl) rfl Old.refl' (fun _ _ _ h => h) (fun d E w' hk hda hS hc hf => by rintro _ q15 rfl e20 ; exact ⟨_, by go_simp, rfl⟩)) ?_
        exact StepsOk.nil
      case ends =>
        intro σ9 w9 hS9 hA9
        refine Ends.eqv (some 5) (.int .i64 c) rfl (fun _ h => h) ?_
        refine Ends.eqv (some 6) (.bool true) rfl (fun _ h => h) ?_
        refine Ends.eqv (some 7) (.bool true) rfl (fun _ h => h) ?_
        refine Ends.eqv (some 8) (.int .i64 c) rfl (fun _ h => h) ?_
        refine Ends.eqv (some 9) (.bool true) rfl (fun _ h => h) ?_
        refine Ends.eqv (some 10) (.bool true) rfl (fun _ h => h) ?_
        refine Ends.eqv (some 11) (.bool true) rfl (fun _ h => h) ?_
        refine Ends.eqv (some 12) (.pointer (some ⟨x, 0, none⟩)) rfl (fun _ h => h) ?_
        refine Ends.eqv (some 13) (.int .i64 c) rfl (fun _ h => h) ?_
        refine Ends.eqv (some 14) (.int .i64 m) rfl (fun _ h => h) ?_
        refine Ends.eqv (some 15) (.pointer (some ⟨x, 0, none⟩)) rfl (fun _ h => h) ?_
        refine Ends.eqv (some 16) (.pointer (some ⟨x, 0, none⟩)) rfl (fun _ h => h) ?_
        refine Ends.eqv (some 17) (.pointer (some ⟨x, 2, none⟩)) rfl (fun _ h => h) ?_
        refine Ends.eqv (some 18) (.int .i64 k) rfl (fun _ h => h) ?_
        refine Ends.eqv (some 19) (.bool (decide (m ≤ k))) rfl (fun _ h => h) ?_
        refine Ends.eqv (some 20) (.bool (decide (m ≤ k))) rfl (fun _ h => h) ?_
        refine Ends.eqv (some 4) (.bool (decide (m ≤ k))) rfl (fun _ h => h) ?_
        refine Ends.nil ?_
        clear hA9
        simp only [put_lit, put_none, List.set_cons_zero, List.set_cons_succ]
        have o9 := hS9
        clear hS9
        go_wp2_with fail
        go_ret
        exact ⟨by rw [← HVV.out]; rfl, o9⟩
    · have hvv : v = false := by rw [← HV.out, decide_eq_false h1, Bool.and_false]; rfl
      subst hvv
      go_enter Try.func39, Try.ntmps39
      go_wp2_with fail
      refine region_steps (R := pick [eqv (.int .i64 c), eqv (.bool true), eqv (.bool true), eqv (.int .i64 c), eqv (.bool false), eqv (.bool false), eqv (.bool false), eqv (undef), eqv (undef), eqv (undef), eqv (undef), eqv (undef), eqv (undef), eqv (undef), eqv (undef), eqv (.bool false), eqv (.bool false)]) (S := fun _ w' => Old w w') (T := Old) (by kernel_rfl) (by kernel_rfl) (by kernel_rfl) (Stab.pick (Stab.eqv (Stab.eqv (Stab.eqv (Stab.eqv (Stab.eqv (Stab.eqv (Stab.eqv (Stab.eqv (Stab.eqv (Stab.eqv (Stab.eqv (Stab.eqv (Stab.eqv (Stab.eqv (Stab.eqv (Stab.eqv (Stab.eqv (Stab.nil))))))))))))))))))) ((Old.refl' _).drew') ?steps ?ends
      case steps =>
        refine StepsOk.cons (stepOk_pure [] [(1, .int .i64 c)] rfl rfl (by kernel_rfl) (by kernel_rfl) rfl Old.refl' (fun _ _ _ h => h) (fun d E w' hk hda hS hc hf => by rintro  e1; exact ⟨_, by go_simp, rfl⟩)) ?_
        refine StepsOk.cons (stepOk_pure [(0, 5)] [] rfl rfl (by kernel_rfl) (by kernel_rfl) rfl Old.refl' (fun _ _ _ h => h) (fun d E w' hk hda hS hc hf => by rintro _ q0 rfl e5 ; exact ⟨_, by go_simp, rfl⟩)) ?_
        refine StepsOk.cons (stepOk_pure [(1, 6)] [] rfl rfl (by kernel_rfl) (by kernel_rfl) rfl Old.refl' (fun _ _ _ h => h) (fun d E w' hk hda hS hc hf => by rintro _ q1 rfl e6 ; exact ⟨_, by go_simp, rfl⟩)) ?_
        refine StepsOk.cons (stepOk_pureG 2 7 true rfl rfl (by kernel_rfl) (fun _ _ h => h) [] [(1, .int .i64 c)] (by kernel_rfl) (by kernel_rfl) rfl Old.refl' (fun _ _ _ h => h) (fun d E w' hk hda hS hc hf => by rintro  e1; exact ⟨_, by go_simp, rfl⟩)) ?_
        refine StepsOk.cons (stepOk_pureG 2 7 true rfl rfl (by kernel_rfl) (fun _ _ h => h) [(3, 8)] [] (by kernel_rfl) (by kernel_rfl) rfl Old.refl' (fun _ _ _ h => h) (fun d E w' hk hda hS hc hf => by rintro _ q3 rfl e8 ; exact ⟨_, by go_simp, rfl⟩)) ?_
        refine StepsOk.cons (stepOk_pure [(2, 7), (4, 9)] [] rfl rfl (by kernel_rfl) (by kernel_rfl) rfl Old.refl' (fun _ _ _ h => h) (fun d E w' hk hda hS hc hf => by rintro _ q2 rfl e7 _ q4 rfl e9 ; exact ⟨_, by go_simp, rfl⟩)) ?_
        refine StepsOk.cons (stepOk_pure [(5, 10)] [] rfl rfl (by kernel_rfl) (by kernel_rfl) rfl Old.refl' (fun _ _ _ h => h) (fun d E w' hk hda hS hc hf => by rintro _ q5 rfl e10 ; exact ⟨_, by go_simp, rfl⟩)) ?_
        refine StepsOk.cons (stepOk_skip 6 11 false rfl rfl (by kernel_rfl) Old.refl' (fun _ _ _ h => h) (fun _ _ h => h) (fun _ => rfl)) ?_
        refine StepsOk.cons (stepOk_skip 6 11 false rfl rfl (by kernel_rfl) Old.refl' (fun _ _ _ h => h) (fun _ _ h => h) (fun _ => rfl)) ?_
        refine StepsOk.cons (stepOk_skip 6 11 false rfl rfl (by kernel_rfl) Old.refl' (fun _ _ _ h => h) (fun _ _ h => h) (fun _ => rfl)) ?_
        refine StepsOk.cons (stepOk_skip 6 11 false rfl rfl (by kernel_rfl) Old.refl' (fun _ _ _ h => h) (fun _ _ h => h) (fun _ => rfl)) ?_
        refine StepsOk.cons (stepOk_skip 6 11 false rfl rfl (by kernel_rfl) Old.refl' (fun _ _ _ h => h) (fun _ _ h => h) (fun _ => rfl)) ?_
        refine StepsOk.cons (stepOk_skip 6 11 false rfl rfl (by kernel_rfl) Old.refl' (fun _ _ _ h => h) (fun _ _ h => h) (fun _ => rfl)) ?_
        refine StepsOk.cons (stepOk_skip 6 11 false rfl rfl (by kernel_rfl) Old.refl' (fun _ _ _ h => h) (fun _ _ h => h) (fun _ => rfl)) ?_
        refine StepsOk.cons (stepOk_skip 6 11 false rfl rfl (by kernel_rfl) Old.refl' (fun _ _ _ h => h) (fun _ _ h => h) (fun _ => rfl)) ?_
        refine StepsOk.cons (stepOk_pure [(6, 11), (14, 19)] [] rfl rfl (by kernel_rfl) (by kernel_rfl) rfl Old.refl' (fun _ _ _ h => h) (fun d E w' hk hda hS hc hf => by rintro _ q6 rfl e11 _ q14 rfl e19 ; exact ⟨_, by go_simp, rfl⟩)) ?_
        refine StepsOk.cons (stepOk_pure [(15, 20)] [] rfl rfl (by kernel_rfl) (by kernel_rfl) rfl Old.refl' (fun _ _ _ h => h) (fun d E w' hk hda hS hc hf => by rintro _ q15 rfl e20 ; exact ⟨_, by go_simp, rfl⟩)) ?_
        exact StepsOk.nil
      case ends =>
        intro σ9 w9 hS9 hA9
        refine Ends.eqv (some 5) (.int .i64 c) rfl (fun _ h => h) ?_
        refine Ends.eqv (some 6) (.bool true) rfl (fun _ h => h) ?_
        refine Ends.eqv (some 7) (.bool true) rfl (fun _ h => h) ?_
        refine Ends.eqv (some 8) (.int .i64 c) rfl (fun _ h => h) ?_
        refine Ends.eqv (some 9) (.bool false) rfl (fun _ h => h) ?_
        refine Ends.eqv (some 10) (.bool false) rfl (fun _ h => h) ?_
        refine Ends.eqv (some 11) (.bool false) rfl (fun _ h => h) ?_
        refine Ends.eqv (some 12) (undef) rfl (fun _ h => h) ?_
        refine Ends.eqv (some 13) (undef) rfl (fun _ h => h) ?_
        refine Ends.eqv (some 14) (undef) rfl (fun _ h => h) ?_
        refine Ends.eqv (some 15) (undef) rfl (fun _ h => h) ?_
        refine Ends.eqv (some 16) (undef) rfl (fun _ h => h) ?_
        refine Ends.eqv (some 17) (undef) rfl (fun _ h => h) ?_
        refine Ends.eqv (some 18) (undef) rfl (fun _ h => h) ?_
        refine Ends.eqv (some 19) (undef) rfl (fun _ h => h) ?_
        refine Ends.eqv (some 20) (.bool false) rfl (fun _ h => h) ?_
        refine Ends.eqv (some 4) (.bool false) rfl (fun _ h => h) ?_
        refine Ends.nil ?_
        clear hA9
        simp only [put_lit, put_none, List.set_cons_zero, List.set_cons_succ]
        have o9 := hS9
        clear hS9
        go_wp2_with fail
        go_ret
        exact ⟨rfl, o9⟩
  · have hvv : v = false := by rw [← HV.out, decide_eq_false h0]; rfl
    subst hvv
    go_enter Try.func39, Try.ntmps39
    go_wp2_with fail
    refine region_steps (R := pick [eqv (.int .i64 c), eqv (.bool false), eqv (.bool false), eqv (undef), eqv (undef), eqv (.bool false), eqv (.bool false), eqv (undef), eqv (undef), eqv (undef), eqv (undef), eqv (undef), eqv (undef), eqv (undef), eqv (undef), eqv (.bool false), eqv (.bool false)]) (S := fun _ w' => Old w w') (T := Old) (by kernel_rfl) (by kernel_rfl) (by kernel_rfl) (Stab.pick (Stab.eqv (Stab.eqv (Stab.eqv (Stab.eqv (Stab.eqv (Stab.eqv (Stab.eqv (Stab.eqv (Stab.eqv (Stab.eqv (Stab.eqv (Stab.eqv (Stab.eqv (Stab.eqv (Stab.eqv (Stab.eqv (Stab.eqv (Stab.nil))))))))))))))))))) ((Old.refl' _).drew') ?steps ?ends
    case steps =>
      refine StepsOk.cons (stepOk_pure [] [(1, .int .i64 c)] rfl rfl (by kernel_rfl) (by kernel_rfl) rfl Old.refl' (fun _ _ _ h => h) (fun d E w' hk hda hS hc hf => by rintro  e1; exact ⟨_, by go_simp, rfl⟩)) ?_
      refine StepsOk.cons (stepOk_pure [(0, 5)] [] rfl rfl (by kernel_rfl) (by kernel_rfl) rfl Old.refl' (fun _ _ _ h => h) (fun d E w' hk hda hS hc hf => by rintro _ q0 rfl e5 ; exact ⟨_, by go_simp, rfl⟩)) ?_
      refine StepsOk.cons (stepOk_pure [(1, 6)] [] rfl rfl (by kernel_rfl) (by kernel_rfl) rfl Old.refl' (fun _ _ _ h => h) (fun d E w' hk hda hS hc hf => by rintro _ q1 rfl e6 ; exact ⟨_, by go_simp, rfl⟩)) ?_
      refine StepsOk.cons (stepOk_skip 2 7 false rfl rfl (by kernel_rfl) Old.refl' (fun _ _ _ h => h) (fun _ _ h => h) (fun _ => rfl)) ?_
      refine StepsOk.cons (stepOk_skip 2 7 false rfl rfl (by kernel_rfl) Old.refl' (fun _ _ _ h => h) (fun _ _ h => h) (fun _ => rfl)) ?_
      refine StepsOk.cons (stepOk_pure [(2, 7), (4, 9)] [] rfl rfl (by kernel_rfl) (by kernel_rfl) rfl Old.refl' (fun _ _ _ h => h) (fun d E w' hk hda hS hc hf => by rintro _ q2 rfl e7 _ q4 rfl e9 ; exact ⟨_, by go_simp, rfl⟩)) ?_
      refine StepsOk.cons (stepOk_pure [(5, 10)] [] rfl rfl (by kernel_rfl) (by kernel_rfl) rfl Old.refl' (fun _ _ _ h => h) (fun d E w' hk hda hS hc hf => by rintro _ q5 rfl e10 ; exact ⟨_, by go_simp, rfl⟩)) ?_
      refine StepsOk.cons (stepOk_skip 6 11 false rfl rfl (by kernel_rfl) Old.refl' (fun _ _ _ h => h) (fun _ _ h => h) (fun _ => rfl)) ?_
      refine StepsOk.cons (stepOk_skip 6 11 false rfl rfl (by kernel_rfl) Old.refl' (fun _ _ _ h => h) (fun _ _ h => h) (fun _ => rfl)) ?_
      refine StepsOk.cons (stepOk_skip 6 11 false rfl rfl (by kernel_rfl) Old.refl' (fun _ _ _ h => h) (fun _ _ h => h) (fun _ => rfl)) ?_
      refine StepsOk.cons (stepOk_skip 6 11 false rfl rfl (by kernel_rfl) Old.refl' (fun _ _ _ h => h) (fun _ _ h => h) (fun _ => rfl)) ?_
      refine StepsOk.cons (stepOk_skip 6 11 false rfl rfl (by kernel_rfl) Old.refl' (fun _ _ _ h => h) (fun _ _ h => h) (fun _ => rfl)) ?_
      refine StepsOk.cons (stepOk_skip 6 11 false rfl rfl (by kernel_rfl) Old.refl' (fun _ _ _ h => h) (fun _ _ h => h) (fun _ => rfl)) ?_
      refine StepsOk.cons (stepOk_skip 6 11 false rfl rfl (by kernel_rfl) Old.refl' (fun _ _ _ h => h) (fun _ _ h => h) (fun _ => rfl)) ?_
      refine StepsOk.cons (stepOk_skip 6 11 false rfl rfl (by kernel_rfl) Old.refl' (fun _ _ _ h => h) (fun _ _ h => h) (fun _ => rfl)) ?_
      refine StepsOk.cons (stepOk_pure [(6, 11), (14, 19)] [] rfl rfl (by kernel_rfl) (by kernel_rfl) rfl Old.refl' (fun _ _ _ h => h) (fun d E w' hk hda hS hc hf => by rintro _ q6 rfl e11 _ q14 rfl e19 ; exact ⟨_, by go_simp, rfl⟩)) ?_
      refine StepsOk.cons (stepOk_pure [(15, 20)] [] rfl rfl (by kernel_rfl) (by kernel_rfl) rfl Old.refl' (fun _ _ _ h => h) (fun d E w' hk hda hS hc hf => by rintro _ q15 rfl e20 ; exact ⟨_, by go_simp, rfl⟩)) ?_
      exact StepsOk.nil
    case ends =>
      intro σ9 w9 hS9 hA9
      refine Ends.eqv (some 5) (.int .i64 c) rfl (fun _ h => h) ?_
      refine Ends.eqv (some 6) (.bool false) rfl (fun _ h => h) ?_
      refine Ends.eqv (some 7) (.bool false) rfl (fun _ h => h) ?_
      refine Ends.eqv (some 8) (undef) rfl (fun _ h => h) ?_
      refine Ends.eqv (some 9) (undef) rfl (fun _ h => h) ?_
      refine Ends.eqv (some 10) (.bool false) rfl (fun _ h => h) ?_
      refine Ends.eqv (some 11) (.bool false) rfl (fun _ h => h) ?_
      refine Ends.eqv (some 12) (undef) rfl (fun _ h => h) ?_
      refine Ends.eqv (some 13) (undef) rfl (fun _ h => h) ?_
      refine Ends.eqv (some 14) (undef) rfl (fun _ h => h) ?_
      refine Ends.eqv (some 15) (undef) rfl (fun _ h => h) ?_
      refine Ends.eqv (some 16) (undef) rfl (fun _ h => h) ?_
      refine Ends.eqv (some 17) (undef) rfl (fun _ h => h) ?_
      refine Ends.eqv (some 18) (undef) rfl (fun _ h => h) ?_
      refine Ends.eqv (some 19) (undef) rfl (fun _ h => h) ?_
      refine Ends.eqv (some 20) (.bool false) rfl (fun _ h => h) ?_
      refine Ends.eqv (some 4) (.bool false) rfl (fun _ h => h) ?_
      refine Ends.nil ?_
      clear hA9
      simp only [put_lit, put_none, List.set_cons_zero, List.set_cons_succ]
      have o9 := hS9
      clear hS9
      go_wp2_with fail
      go_ret
      exact ⟨rfl, o9⟩
end Go.Proofs.Ytmhnlpilbbfgnaa
