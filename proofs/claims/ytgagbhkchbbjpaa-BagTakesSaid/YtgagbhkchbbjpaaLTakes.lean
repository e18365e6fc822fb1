/- casebooklaw9.BagTakes: the walk. -/
import Derived.Outline
import Derived.Laws.OwnMore
import Derived.Test.YtgagbhkchbbjpaaBagT
import Derived.Test.YtgagbhkchbbjpaaOpenB
namespace Go.Proofs.Ytgagbhkchbbjpaa
open Go.RowKit

theorem umodN (x K : Int) (h : 0 < K) (hK : K ≤ 4611686018427387904) : ∃ y : Nat, wrap64 ((IntKind.u64.wrap x).tmod K) = (y : Int) ∧ (y : Int) < K := by
  have h0 : 0 ≤ IntKind.u64.wrap x := by rw [IntKind.wrap_u64]; omega
  rw [Int.tmod_eq_emod_of_nonneg h0]
  have h1 := Int.emod_nonneg (IntKind.u64.wrap x) (show K ≠ 0 by omega)
  have h2 := Int.emod_lt_of_pos (IntKind.u64.wrap x) h
  rw [IntWalk.wrap64_in _ ⟨by omega, by omega⟩]
  exact ⟨(IntKind.u64.wrap x % K).toNat, by omega, by omega⟩

/-- how many messages are from j -/
def cntOf (ms : List Msg) (j : Nat) : Int := ((ms.filter fun m => decide (m.frm = (j : Int))).length : Nat)
theorem cntOf_snoc (ms : List Msg) (m : Msg) (j : Nat) : cntOf (ms ++ [m]) j = cntOf ms j + if m.frm = j then 1 else 0 := by
  unfold cntOf
  rw [List.filter_append, List.length_append]
  by_cases h : m.frm = (j : Int) <;> simp [h]
theorem cntOf_erase (ms : List Msg) (k : Nat) (m : Msg) (hm : ms[k]? = some m) (j : Nat) : cntOf (ms.eraseIdx k) j = cntOf ms j - if m.frm = j then 1 else 0 := by
  have hlt := (List.getElem?_eq_some_iff.1 hm).1
  have hk : ms[k] = m := (List.getElem?_eq_some_iff.1 hm).2
  have hs : ms = ms.take k ++ m :: ms.drop (k + 1) := by rw [← hk, ← List.drop_eq_getElem_cons hlt, List.take_append_drop]
  rw [List.eraseIdx_eq_take_drop_succ]
  unfold cntOf
  conv => rhs; rw [hs]
  rw [List.filter_append, List.filter_append, List.length_append, List.length_append]
  by_cases h : m.frm = (j : Int) <;> simp [h] <;> omega
theorem cntOf_none (ms : List Msg) (j : Nat) (h : ∀ m ∈ ms, m.frm ≠ j) : cntOf ms j = 0 := by
  unfold cntOf
  rw [List.filter_eq_nil_iff.2 (fun m hm => by simpa using h m hm)]
  rfl
theorem cntOf_pos (ms : List Msg) (k : Nat) (m : Msg) (hm : ms[k]? = some m) (j : Nat) (hj : m.frm = j) : 0 < cntOf ms j := by
  unfold cntOf
  have : m ∈ ms.filter fun m => decide (m.frm = (j : Int)) := List.mem_filter.2 ⟨List.mem_of_getElem? hm, by simpa using hj⟩
  have := List.length_pos_of_mem this
  omega
theorem cntOf_le (ms : List Msg) (j : Nat) : 0 ≤ cntOf ms j ∧ cntOf ms j ≤ ms.length := by
  unfold cntOf
  have := List.length_filter_le (fun m => decide (m.frm = (j : Int))) ms
  omega
def cnts (n : Nat) (ms : List Msg) : List Int := (List.range n).map (cntOf ms)
theorem cnts_set (n : Nat) (ms ms' : List Msg) (j : Nat) (v : Int) (hv : cntOf ms' j = v) (ho : ∀ i, i ≠ j → cntOf ms' i = cntOf ms i) : (cnts n ms).set j v = cnts n ms' := by
  apply List.ext_getElem?
  intro i
  rw [List.getElem?_set]
  unfold cnts
  simp only [List.length_map, List.length_range, List.getElem?_map]
  by_cases h : j = i
  · subst h
    by_cases hn : j < n
    · simp [hn, hv]
    · simp [hn]
  · rw [if_neg h]
    by_cases hn : i < n
    · simp [hn, ho i (fun e => h e.symm)]
    · simp [hn]
theorem cnts_get (n : Nat) (ms : List Msg) (j : Nat) (hj : j < n) : ((cnts n ms).map (Value.int .i64))[j]? = some (.int .i64 (cntOf ms j)) := by simp [cnts, hj]
theorem cnts_nil (n : Nat) : List.replicate n (Value.int .i64 0) = (cnts n []).map (Value.int .i64) := by
  apply List.ext_getElem?
  intro i
  by_cases h : i < n
  · simp [cnts, h, cntOf]
  · simp [cnts, h]

/-- each message is whole: from a place before k, for whom that place says, its byte the place -/
def Good (tos : List Int) (k : Nat) (ms : List Msg) : Prop := ∀ m ∈ ms, ∃ j : Nat, j < k ∧ m.frm = j ∧ m.to_ = tos[j]?.getD 0 ∧ m.bs = [(j : Int)]
theorem Good.mono {tos : List Int} {k l : Nat} {ms : List Msg} (h : Good tos k ms) (hl : k ≤ l) : Good tos l ms := fun m hm => by
  obtain ⟨j, hj, r⟩ := h m hm
  exact ⟨j, by omega, r⟩
theorem Good.snoc {tos : List Int} {k : Nat} {ms : List Msg} (h : Good tos k ms) (m : Msg) (hm : ∃ j : Nat, j < k ∧ m.frm = j ∧ m.to_ = tos[j]?.getD 0 ∧ m.bs = [(j : Int)]) : Good tos k (ms ++ [m]) := fun x hx => by
  rcases List.mem_append.1 hx with hx | hx
  · exact h x hx
  · obtain rfl : x = m := by simpa using hx
    exact hm
theorem Good.erase {tos : List Int} {k : Nat} {ms : List Msg} (h : Good tos k ms) (i : Nat) : Good tos k (ms.eraseIdx i) := fun m hm => h m (List.mem_of_mem_eraseIdx hm)
theorem Good.fresh {tos : List Int} {k : Nat} {ms : List Msg} (h : Good tos k ms) : ∀ m ∈ ms, m.frm ≠ k := fun m hm e => by
  obtain ⟨j, hj, h1, _⟩ := h m hm
  omega

/-- the law's own types -/
def LawT (t : TypeId) : Prop := t = 73 ∨ t = 76 ∨ t = 3
theorem bag_law (t : TypeId) (h : BagT t) : LawT t := by rcases h with h | h <;> simp [LawT, h]

theorem BagAt.setInt {w : World} {base g : Nat} {ms : List Msg} (h : BagAt w base g ms) {q : Nat} {cs : Array Value} (hc : Bk w q 3 cs) (i : Nat) (u : Value) : BagAt (w.setCell ⟨q, i, none⟩ u) base g ms :=
  h.frT (T := fun t => t = 3) (b := 0) (FrT.set_ (T := fun t => t = 3) (FrT.refl w) hc (Nat.zero_le _) rfl i u) (by decide) (by decide) (by decide)
theorem bools_at {w : World} {A : Option Addr} {bs : List Bool} (h : CellsAt w A (bs.map Value.bool)) {k : Nat} (hk : k < bs.length) :
    ∃ b o, A = some ⟨b, o, none⟩ ∧ b < w.heap.size ∧ w.cell? ⟨b, o + k, none⟩ = some (.bool (bs[k]?.getD false)) := by
  obtain ⟨b, o, rfl, hb, hc⟩ := h (fun e => by have : bs = [] := by simpa using e
                                               subst this; simp at hk)
  refine ⟨b, o, rfl, hb, hc k _ ?_⟩
  rw [List.getElem?_map, List.getElem?_eq_getElem hk]
  rfl

set_option maxRecDepth 100000 in
set_option maxHeartbeats 4000000 in
theorem Takes_walk (A0 A1 A2 : Option Addr) (n c0 n1 c1 n2 c2 : Nat) (tos : List Int) (tw : List Bool) (ord : List Int) (hl : n = tos.length) (hl1 : n1 = tw.length) (hl2 : n2 = ord.length) (hn : n ≤ 9223372036854775807) (hn1 : n1 ≤ 9223372036854775807) (hn2 : n2 ≤ 9223372036854775807)
    (w : World) (h0 : IntsAt w A0 tos) (h1 : CellsAt w A1 (tw.map Value.bool)) (h2 : IntsAt w A2 ord) :
    Calls Try.prog 3 #[.slice A0 n c0, .slice A1 n1 c1, .slice A2 n2 c2] w fun e w' => e = .returned (.bool true) ∧ Old w w' := by
  have HL := hide hl
  have HL1 := hide hl1
  have HL2 := hide hl2
  clear hl hl1 hl2
  obtain ⟨i0, hi, hz0, hz1, hz2⟩ := info_parts info_int
  have hlow : ∀ {A : Option Addr} {cs : List Value}, CellsAt w A cs → cs ≠ [] → ∀ a, A = some a → a.block < w.heap.size := fun hc hne a ha => by
    obtain ⟨b, o, e, hb, _⟩ := hc hne
    rw [ha] at e; cases e; exact hb
  by_cases h30 : 30 < n
  · go_enter Try.func3, Try.ntmps3
    go_wp2_with (first | (go_at_call 11; refine (New_bag _).mono ?_; rintro e w' ⟨rfl, rfl⟩) | (go_at_call 12; refine (told9_any _).mono ?_; rintro e w9 ⟨rfl, hb9⟩))
    go_ret
    exact ⟨rfl, ((Old.refl' w).alloc' _).trans' hb9⟩
  · have h30' : decide ((30 : Int) < (n : Int)) = false := by simp; omega
    have hbag := New_bagAt w (Nat.le_refl w.heap.size)
    go_enter Try.func3, Try.ntmps3
    go_wp2_with
      (first
        | (go_at_call 11; refine (New_bag _).mono ?_; rintro e w' ⟨rfl, rfl⟩)
        | (at_make; refine wpList_make_full _ rfl (.tmp 25) (.tmp 25) 22 rfl (w.heap.size + 1) 3 i0 (.int .i64 0) 1 Try.underlying22 hi hz0 hz1 .i64 .i64 n n n rfl rfl rfl rfl (by rw [hz2]; omega) (by unfold maxLen; omega) (by simp) ?_; intro w1 hown1 hgr1))
    have hB1 : Old w w1 := (((Old.refl' w).alloc' (.cells #[.slice none 0 0] 73)).grown hgr1 (by simp) (fun k e => by cases e))
    have hbag1 : BagAt w1 w.heap.size w.heap.size [] := hbag.old ⟨hgr1.os, hgr1.tape, hgr1.output, hgr1.size, fun k hk => hgr1.block k hk (by simp)⟩
    rw [Nat.mul_one, show (Value.int .i64 0).cells = #[.int .i64 0] from rfl, toList_madeCells_one, cnts_nil] at hown1
    have hown1' := own_mono hown1 (b := w.heap.size) (by omega)
    rw [World.size_alloc] at hown1'
    clear hown1 hgr1 hbag
    go_loopw [9, 10] (fun av iv wr => ∃ (k : Nat) (ms : List Msg), k ≤ n ∧ iv = .int .i64 k ∧ av = .int .i64 ms.length ∧ ms.length ≤ 2 * k ∧ Old w wr ∧ BagAt wr w.heap.size w.heap.size ms ∧
        wr.ownsRow w.heap.size 3 1 (.slice (some ⟨w.heap.size + 1, 0, none⟩) n n) n ((cnts n ms).map (Value.int .i64)) ∧ Good tos k ms)
      (fun _ iv _ => n - (intOf iv).toNat)
    case atStart => exact ⟨0, [], by omega, rfl, rfl, by simp, hB1, hbag1, hown1', fun _ h => by simp at h⟩
    case round =>
      clear hbag1 hown1' hB1
      obtain ⟨k, ms, hk, rfl, rfl, hle, hB, hbag, hown, hG⟩ := hrel
      obtain ⟨N, hN⟩ : ∃ N, ms.length = N := ⟨_, rfl⟩
      have HN := hide hN
      rw [hN] at hle
      simp only [hN]
      clear hN
      by_cases hlt : k < n
      · obtain ⟨b0, o0, rfl, hb0, g0⟩ := h0.at_ (k := k) (by have := HL.out; omega)
        have d0 := (hB.cell (p := ⟨b0, o0 + k, none⟩) hb0).trans g0
        obtain ⟨x, hx⟩ : ∃ x, tos[k]?.getD 0 = x := ⟨_, rfl⟩
        rw [hx] at d0
        have HX := hide hx
        have hu8 : IntKind.u8.wrap (k : Int) = (k : Int) := by simp [IntKind.wrap_u8]; omega
        clear g0 hx
        have cA := hide (by have := Add_bag w.heap.size w.heap.size ms (by rw [HN.out]; omega) k x (some ⟨wr.heap.size, 0, none⟩) 1 1 [(k : Int)] rfl (by omega) _ (hbag.alloc (.cells #[.int .u8 (k : Int)] 5)) (cells_bk (Bk.new wr 5 #[.int .u8 (k : Int)])); rw [HN.out] at this; exact this)
        go_wp2_with fail
        refine cA.out.mono ?_
        rintro e w2 ⟨rfl, ⟨A', c', b2⟩, f2⟩
        have hB2 : Old w w2 := FrT.old f2 (hB.alloc' _)
        have hown2 := own_frT (hown.alloc (.cells #[.int .u8 (k : Int)] 5)) f2 (by unfold BagT; decide)
        have x0 := own_cells hown2 k _ (cnts_get n ms k hlt)
        have y0 := own_frozen hown2 k
        obtain ⟨_, _, _, cur, hcur, _, _⟩ := own_some hown2
        have b3 := b2.setInt hcur k (.int .i64 1)
        have hB3 : Old w (w2.setCell ⟨w.heap.size + 1, k, none⟩ (.int .i64 1)) := hB2.setCell' (by simp) _
        have hown3 := own_store hown2 k (.int .i64 1)
        have hcn : cntOf ms k = 0 := cntOf_none ms k hG.fresh
        have hG3 : Good tos (k + 1) (ms ++ [⟨k, x, A', c', [(k : Int)]⟩]) := (hG.mono (by omega)).snoc _ ⟨k, by omega, rfl, HX.out.symm, rfl⟩
        rw [show ((cnts n ms).map (Value.int .i64)).set k (.int .i64 1) = (cnts n (ms ++ [⟨k, x, A', c', [(k : Int)]⟩])).map (Value.int .i64) from by
          rw [← List.map_set, cnts_set n ms (ms ++ [⟨k, x, A', c', [(k : Int)]⟩]) k 1 (by rw [cntOf_snoc, hcn]; simp) (fun i hi => by rw [cntOf_snoc, if_neg (by simp; omega)]; omega)]] at hown3
        have hc1 : cntOf (ms ++ [⟨k, x, A', c', [(k : Int)]⟩]) k = 1 := by rw [cntOf_snoc, hcn]; simp
        have HC1 := hide hc1
        have HG3 := hide hG3
        obtain ⟨ms3, hms3⟩ : ∃ l, l = ms ++ [⟨k, x, A', c', [(k : Int)]⟩] := ⟨_, rfl⟩
        have hat3 : ms3[N]? = some ⟨k, x, A', c', [(k : Int)]⟩ := by rw [hms3, List.getElem?_append_right (by rw [HN.out]; exact Nat.le_refl _), HN.out, Nat.sub_self]; rfl
        have hlen3 : ms3.length = N + 1 := by rw [hms3, List.length_append, HN.out]; rfl
        rw [← hms3] at b3 hown3 HC1 HG3
        have HL3 := hide hlen3
        have HAT := hide hat3
        clear hcn hG3 hc1 hms3 hat3 hlen3 hG
        by_cases htw : k < n1
        · obtain ⟨b1', o1', rfl, hbb1, g1⟩ := bools_at h1 (k := k) (by have := HL1.out; omega)
          have d1 := (hB3.cell (p := ⟨b1', o1' + k, none⟩) hbb1).trans g1
          obtain ⟨t, ht⟩ : ∃ t, tw[k]?.getD false = t := ⟨_, rfl⟩
          rw [ht] at d1
          clear ht g1
          cases t
          · go_wp2_with fail
            go_roundw
            case rel => exact ⟨k + 1, ms3, by omega, by go_num, by rw [HL3.out]; go_num, by rw [HL3.out]; omega, hB3, b3, hown3, HG3.out⟩
            case measure => simp [intOf]; omega
          · have cD := hide (Double_yes w.heap.size w.heap.size N ms3 _ HAT.out (by rw [HL3.out]; omega) (by simp) _ b3)
            go_wp2_with fail
            refine cD.out.mono ?_
            rintro e w4 ⟨rfl, ⟨A4, c4, b4⟩, f4⟩
            have hB4 : Old w w4 := FrT.old f4 hB3
            have hown4 := own_frT hown3 f4 (by unfold BagT; decide)
            have x4 := own_cells hown4 k _ (cnts_get n ms3 k hlt)
            have y4 := own_frozen hown4 k
            obtain ⟨_, _, _, cur4, hcur4, _, _⟩ := own_some hown4
            have b5 := b4.setInt hcur4 k (.int .i64 2)
            have hown5 := own_store hown4 k (.int .i64 2)
            rw [show ((cnts n ms3).map (Value.int .i64)).set k (.int .i64 2) = (cnts n (ms3 ++ [⟨k, x, A4, c4, [(k : Int)]⟩])).map (Value.int .i64) from by
              rw [← List.map_set, cnts_set n ms3 (ms3 ++ [⟨k, x, A4, c4, [(k : Int)]⟩]) k 2 (by rw [cntOf_snoc, HC1.out]; simp) (fun i hi => by rw [cntOf_snoc, if_neg (by simp; omega)]; omega)]] at hown5
            go_wp2_with fail
            go_roundw
            case rel => exact ⟨k + 1, ms3 ++ [⟨k, x, A4, c4, [(k : Int)]⟩], by omega, by go_num, by rw [show (ms3 ++ [(⟨k, x, A4, c4, [(k : Int)]⟩ : Msg)]).length = N + 2 from by simp [HL3.out]]; go_num, by rw [show (ms3 ++ [(⟨k, x, A4, c4, [(k : Int)]⟩ : Msg)]).length = N + 2 from by simp [HL3.out]]; omega, hB4.setCell' (by simp) _, b5, hown5, HG3.out.snoc _ ⟨k, by omega, rfl, HX.out.symm, rfl⟩⟩
            case measure => simp [intOf]; omega
        · go_wp2_with fail
          go_roundw
          case rel => exact ⟨k + 1, ms3, by omega, by go_num, by rw [HL3.out]; go_num, by rw [HL3.out]; omega, hB3, b3, hown3, HG3.out⟩
          case measure => simp [intOf]; omega
      · obtain rfl : k = n := by omega
        clear hlt hk
        obtain ⟨wo, rfl⟩ : ∃ wo : World, wo = wr := ⟨_, rfl⟩
        have hN60 : N ≤ 60 := by omega
        clear hle
        go_wp2_with fail
        go_loopw [9, 11] (fun av iv wr => ∃ (i : Nat) (ms : List Msg), iv = .int .i64 i ∧ av = .int .i64 ms.length ∧ i + ms.length ≤ 60 ∧ Old w wr ∧ BagAt wr w.heap.size w.heap.size ms ∧
            wr.ownsRow w.heap.size 3 1 (.slice (some ⟨w.heap.size + 1, 0, none⟩) k k) k ((cnts k ms).map (Value.int .i64)) ∧ Good tos k ms)
          (fun av _ _ => (intOf av).toNat)
        case atStart => exact ⟨0, ms, rfl, by rw [HN.out], by rw [HN.out]; omega, hB, hbag, hown, hG⟩
        case round =>
          clear hbag hown hB hG HN hN60
          obtain ⟨i, ms, rfl, rfl, hle, hB, hbag, hown, hG⟩ := hrel
          obtain ⟨N, hN⟩ : ∃ N, ms.length = N := ⟨_, rfl⟩
          have HN := hide hN
          rw [hN] at hle
          simp only [hN]
          clear hN
          by_cases hz : N = 0
          · subst hz
            go_wp2_with (go_at_call 12; refine (told9_any _).mono ?_; rintro e w9 ⟨rfl, hb9⟩)
            go_ret
            exact ⟨rfl, hB.trans' hb9⟩
          · have hz' : decide (0 < (N : Int)) = true := by simp; omega
            obtain ⟨N, rfl⟩ : ∃ N', N = N' + 1 := ⟨N - 1, by omega⟩
            clear hz
            have hz0 : (((N + 1 : Nat) : Int) == 0) = false := by rw [beq_eq_false_iff_ne]; omega
            have hz1 : (((N : Int) + 1) == 0) = false := by rw [beq_eq_false_iff_ne]; omega
            by_cases hio : i < n2
            · obtain ⟨b2, o2, rfl, hb2, g2⟩ := h2.at_ (k := i) (by have := HL2.out; omega)
              have d2 := (hB.cell (p := ⟨b2, o2 + i, none⟩) hb2).trans g2
              obtain ⟨o, ho⟩ : ∃ o, ord[i]?.getD 0 = o := ⟨_, rfl⟩
              rw [ho] at d2
              clear ho g2
              obtain ⟨y, hy, hyl⟩ := umodN o ((N : Int) + 1) (by omega) (by omega)
              go_wp2_with fail
              simp only [hy]
              clear hy
              obtain ⟨m, hm⟩ : ∃ m, ms[y]? = some m := ⟨ms[y]'(by rw [HN.out]; omega), List.getElem?_eq_getElem _⟩
              obtain ⟨j, hj, hm1, hm2, hm3⟩ := hG m (List.mem_of_getElem? hm)
              have hmem := List.mem_of_getElem? hm
              obtain ⟨frm, to_, A, mc, bs⟩ := m
              simp only at hm1 hm2 hm3
              subst hm1 hm3
              obtain ⟨b3, o3, e3, hb3, g3⟩ := h0.at_ (k := j) (by have := HL.out; omega)
              rw [← hm2] at g3
              cases e3
              clear hm2
              obtain ⟨C, hC⟩ : ∃ C, cntOf ms j = C := ⟨_, rfl⟩
              have hC0 : 0 < C := by rw [← hC]; exact cntOf_pos ms y _ hm j rfl
              have hC1 : C ≤ 60 := by have := (cntOf_le ms j).2; rw [hC, HN.out] at this; omega
              have hCb : (C == 0) = false := by rw [beq_eq_false_iff_ne]; omega
              have cT := hide (Take_yes w.heap.size w.heap.size y ms _ hm (by rw [HN.out]; omega) _ hbag)
              have HCC := hide hC
              have hE : ∀ i, cntOf (ms.eraseIdx y) i = cntOf ms i - if (j : Int) = i then 1 else 0 := fun i => cntOf_erase ms y _ hm i
              have HE := hide hE
              have hlen : (ms.eraseIdx y).length = N := by rw [List.length_eraseIdx, if_pos (by rw [HN.out]; omega), HN.out]; rfl
              have HLEN := hide hlen
              clear hC hm hE hlen
              refine cT.out.mono ?_
              rintro e w3 ⟨rfl, b3', f3⟩
              have hB3 : Old w w3 := FrT.old f3 hB
              have hown3 := own_frT hown f3 (by unfold BagT; decide)
              have x3 := own_cells hown3 j _ (cnts_get k ms j hj)
              rw [HCC.out] at x3
              have y3 := own_frozen hown3 j
              obtain ⟨_, _, _, cur3, hcur3, _, _⟩ := own_some hown3
              have z3 := (hB3.cell (p := ⟨b3, o3 + j, none⟩) hb3).trans g3
              have hm0 : w3.ownsRow w.heap.size 5 1 (.slice A 1 mc) 1 [.int .u8 (j : Int)] := own_frT (hbag.own _ hmem) f3 (by unfold BagT; decide)
              obtain ⟨bm, om, eA, hbm, hcm⟩ := (CellsAt.of_own hm0) (by simp)
              subst eA
              have q3 := hcm 0 _ rfl
              rw [Nat.add_zero] at q3
              have b6 := b3'.setInt hcur3 j (.int .i64 (C - 1))
              have hB6 : Old w (w3.setCell ⟨w.heap.size + 1, j, none⟩ (.int .i64 (C - 1))) := hB3.setCell' (by simp) _
              have hown6 := own_store hown3 j (.int .i64 (C - 1))
              rw [show ((cnts k ms).map (Value.int .i64)).set j (.int .i64 (C - 1)) = (cnts k (ms.eraseIdx y)).map (Value.int .i64) from by
                rw [← List.map_set, cnts_set k ms (ms.eraseIdx y) j (C - 1) (by rw [HE.out, HCC.out, if_pos rfl]) (fun i hi => by rw [HE.out, if_neg (by omega)]; omega)]] at hown6
              have cN := hide (Len_bag w.heap.size w.heap.size (ms.eraseIdx y) N HLEN.out (by omega) _ b6)
              have HG := hide (hG.erase y)
              simp only [Msg.sl, List.length_cons, List.length_nil, Nat.zero_add]
              clear b3' hown3 hm0 hcm hmem cT hG hbag hown hB
              go_wp2_with (go_at_call 16; refine cN.out.mono ?_; rintro e w7 ⟨rfl, rfl⟩)
              go_roundw
              case rel => exact ⟨i + 1, ms.eraseIdx y, by go_num, by rw [HLEN.out], by rw [HLEN.out]; omega, hB6, b6, hown6, HG.out⟩
              case measure => simp [intOf]
            · have hio' : decide ((i : Int) < (n2 : Int)) = false := by simp; omega
              go_wp2_with fail
              obtain ⟨m, hm⟩ : ∃ m, ms[0]? = some m := ⟨ms[0]'(by rw [HN.out]; omega), List.getElem?_eq_getElem _⟩
              obtain ⟨j, hj, hm1, hm2, hm3⟩ := hG m (List.mem_of_getElem? hm)
              have hmem := List.mem_of_getElem? hm
              obtain ⟨frm, to_, A, mc, bs⟩ := m
              simp only at hm1 hm2 hm3
              subst hm1 hm3
              obtain ⟨b3, o3, e3, hb3, g3⟩ := h0.at_ (k := j) (by have := HL.out; omega)
              rw [← hm2] at g3
              cases e3
              clear hm2
              obtain ⟨C, hC⟩ : ∃ C, cntOf ms j = C := ⟨_, rfl⟩
              have hC0 : 0 < C := by rw [← hC]; exact cntOf_pos ms 0 _ hm j rfl
              have hC1 : C ≤ 60 := by have := (cntOf_le ms j).2; rw [hC, HN.out] at this; omega
              have hCb : (C == 0) = false := by rw [beq_eq_false_iff_ne]; omega
              have cT := hide (Take_yes w.heap.size w.heap.size 0 ms _ hm (by rw [HN.out]; omega) _ hbag)
              have HCC := hide hC
              have hE : ∀ i, cntOf (ms.eraseIdx 0) i = cntOf ms i - if (j : Int) = i then 1 else 0 := fun i => cntOf_erase ms 0 _ hm i
              have HE := hide hE
              have hlen : (ms.eraseIdx 0).length = N := by rw [List.length_eraseIdx, if_pos (by rw [HN.out]; omega), HN.out]; rfl
              have HLEN := hide hlen
              clear hC hm hE hlen
              refine cT.out.mono ?_
              rintro e w3 ⟨rfl, b3', f3⟩
              have hB3 : Old w w3 := FrT.old f3 hB
              have hown3 := own_frT hown f3 (by unfold BagT; decide)
              have x3 := own_cells hown3 j _ (cnts_get k ms j hj)
              rw [HCC.out] at x3
              have y3 := own_frozen hown3 j
              obtain ⟨_, _, _, cur3, hcur3, _, _⟩ := own_some hown3
              have z3 := (hB3.cell (p := ⟨b3, o3 + j, none⟩) hb3).trans g3
              have hm0 : w3.ownsRow w.heap.size 5 1 (.slice A 1 mc) 1 [.int .u8 (j : Int)] := own_frT (hbag.own _ hmem) f3 (by unfold BagT; decide)
              obtain ⟨bm, om, eA, hbm, hcm⟩ := (CellsAt.of_own hm0) (by simp)
              subst eA
              have q3 := hcm 0 _ rfl
              rw [Nat.add_zero] at q3
              have b6 := b3'.setInt hcur3 j (.int .i64 (C - 1))
              have hB6 : Old w (w3.setCell ⟨w.heap.size + 1, j, none⟩ (.int .i64 (C - 1))) := hB3.setCell' (by simp) _
              have hown6 := own_store hown3 j (.int .i64 (C - 1))
              rw [show ((cnts k ms).map (Value.int .i64)).set j (.int .i64 (C - 1)) = (cnts k (ms.eraseIdx 0)).map (Value.int .i64) from by
                rw [← List.map_set, cnts_set k ms (ms.eraseIdx 0) j (C - 1) (by rw [HE.out, HCC.out, if_pos rfl]) (fun i hi => by rw [HE.out, if_neg (by omega)]; omega)]] at hown6
              have cN := hide (Len_bag w.heap.size w.heap.size (ms.eraseIdx 0) N HLEN.out (by omega) _ b6)
              have HG := hide (hG.erase 0)
              simp only [Msg.sl, List.length_cons, List.length_nil, Nat.zero_add]
              clear b3' hown3 hm0 hcm hmem cT hG hbag hown hB
              go_wp2_with (go_at_call 16; refine cN.out.mono ?_; rintro e w7 ⟨rfl, rfl⟩)
              go_roundw
              case rel => exact ⟨i + 1, ms.eraseIdx 0, by go_num, by rw [HLEN.out], by rw [HLEN.out]; omega, hB6, b6, hown6, HG.out⟩
              case measure => simp [intOf]
end Go.Proofs.Ytgagbhkchbbjpaa
