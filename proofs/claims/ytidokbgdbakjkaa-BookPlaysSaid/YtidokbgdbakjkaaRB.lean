/- The document's table (casebookref4.B): at, Get, From, Back. -/
import Derived.Test.YtidokbgdbakjkaaBkB
import Derived.Test.YtidokbgdbakjkaaTabW
namespace Go.Proofs.Ytidokbgdbakjkaa
open Go.RowKit

set_option maxRecDepth 100000 in
set_option maxHeartbeats 1000000 in
theorem Rat (base g p : Nat) (S : Nat → Prop) (ks us : List Int) (key : Int) (hp : plc ks key = p) (hn : ks.length ≤ 99999) (w : World) (h : BookAt w base g S ks us) :
    Calls Try.prog 30 #[.pointer (some ⟨g, 0, none⟩), .int .i64 key] w fun e w' => e = .returned (.int .i64 p) ∧ w = w' := by
  have hri := h.rise
  have hpl := plc_place hri key
  rw [hp] at hpl
  obtain ⟨hi, hlo, hhi⟩ := hpl
  obtain ⟨n, hN⟩ : ∃ n, ks.length = n := ⟨_, rfl⟩
  obtain ⟨A, ck, B, cv, h, -⟩ := h
  have k0 := h.k0
  have hK : IntsAt w A ks := CellsAt.of_own h.ko
  rw [hN] at k0 hi hn
  have HN := hide hN
  have HLO := hide hlo
  have HHI := hide hhi
  clear hN hlo hhi hp hri h
  go_enter Try.func30, Try.ntmps30
  go_wp2
  go_loopw [5] (fun iv wr => ∃ j : Nat, j ≤ p ∧ iv = .int .i64 j ∧ w = wr) (fun iv _ => p - (intOf iv).toNat)
  case atStart => exact ⟨0, by omega, rfl, rfl⟩
  case round =>
    obtain ⟨j, hj, rfl, rfl⟩ := hrel
    by_cases hlt : j < p
    · obtain ⟨b0, o0, rfl, hb0, g0⟩ := hK.at_ (k := j) (by have := HN.out; omega)
      have hx := HLO.out j hlt
      obtain ⟨x, hX⟩ : ∃ x, ks[j]?.getD 0 = x := ⟨_, rfl⟩
      rw [hX] at g0 hx
      have hjn : j < n := by omega
      clear hX
      go_wp2
      go_roundw
      case rel => exact ⟨j + 1, by omega, by go_num, trivial⟩
      case measure => simp [intOf]; omega
    · obtain rfl : j = p := by omega
      by_cases hjn : j < n
      · obtain ⟨b0, o0, rfl, hb0, g0⟩ := hK.at_ (k := j) (by have := HN.out; omega)
        have hx := HHI.out j (Nat.le_refl _) (by have := HN.out; omega)
        obtain ⟨x, hX⟩ : ∃ x, ks[j]?.getD 0 = x := ⟨_, rfl⟩
        rw [hX] at g0 hx
        have hx' : ¬ (x < key) := by omega
        clear hX
        go_wp2
        go_ret
        exact ⟨rfl, rfl⟩
      · go_wp2
        go_ret
        exact ⟨rfl, rfl⟩

set_option maxRecDepth 100000 in
set_option maxHeartbeats 1000000 in
theorem RGet (base g : Nat) (S : Nat → Prop) (ks us : List Int) (key : Int) (hn : ks.length ≤ 99999) (w : World) (h : BookAt w base g S ks us) :
    Calls Try.prog 19 #[.pointer (some ⟨g, 0, none⟩), .int .i64 key] w fun e w' => e = .returned (.tuple #[.int .i64 (getV ks us key), .bool (decide (key ∈ ks))]) ∧ w = w' := by
  obtain ⟨p, hp⟩ : ∃ p, plc ks key = p := ⟨_, rfl⟩
  have cA := hide (Rat base g p S ks us key hp hn w h)
  have hri := h.rise
  have hul := h.len
  have hpl := plc_place hri key
  have hfo := found_iff hri hpl
  rw [hp] at hfo
  have hple := hpl.1
  rw [hp] at hple
  obtain ⟨n, hN⟩ : ∃ n, ks.length = n := ⟨_, rfl⟩
  obtain ⟨A, ck, B, cv, h, -⟩ := h
  have k0 := h.k0
  have v0 := h.v0
  have hK : IntsAt w A ks := CellsAt.of_own h.ko
  have hV : IntsAt w B us := CellsAt.of_own h.vo
  rw [hN] at k0 v0 hn hfo hple
  have HN := hide hN
  by_cases hm : key ∈ ks
  · rw [decide_eq_true hm] at hfo ⊢
    have hg : getV ks us key = us[p]?.getD 0 := by unfold getV; rw [if_pos hm, hp]
    rw [hg]
    simp only [Bool.and_eq_true, decide_eq_true_eq] at hfo
    obtain ⟨h1, h2⟩ := hfo
    obtain ⟨b0, o0, rfl, hb0, g0⟩ := hK.at_ (k := p) (by have := HN.out; omega)
    obtain ⟨b1, o1, rfl, hb1, g1⟩ := hV.at_ (k := p) (by have := HN.out; omega)
    rw [h2] at g0
    obtain ⟨y, hY⟩ : ∃ y, us[p]?.getD 0 = y := ⟨_, rfl⟩
    rw [hY] at g1 ⊢
    clear hY hg hp hpl hri hm hN h h2 hK hV
    go_enter Try.func19, Try.ntmps19
    go_wp2_with (go_at_call 30; refine cA.out.mono ?_; rintro e w1 ⟨rfl, rfl⟩)
    go_ret2
    exact ⟨rfl, rfl⟩
  · rw [decide_eq_false hm] at hfo ⊢
    have hg : getV ks us key = 0 := by unfold getV; rw [if_neg hm]
    rw [hg]
    by_cases hpn : p < n
    · obtain ⟨b0, o0, rfl, hb0, g0⟩ := hK.at_ (k := p) (by have := HN.out; omega)
      obtain ⟨x, hX⟩ : ∃ x, ks[p]?.getD 0 = x := ⟨_, rfl⟩
      rw [hX] at g0 hfo
      have hxk : ¬ (x = key) := by simpa [hpn] using hfo
      have hxk' : (x == key) = false := by simpa using hxk
      clear hX hg hp hpl hri hm hN h hfo hK hV
      go_enter Try.func19, Try.ntmps19
      go_wp2_with (go_at_call 30; refine cA.out.mono ?_; rintro e w1 ⟨rfl, rfl⟩)
      go_ret2
      exact ⟨rfl, rfl⟩
    · clear hg hp hpl hri hm hN h hfo hK hV
      go_enter Try.func19, Try.ntmps19
      go_wp2_with (go_at_call 30; refine cA.out.mono ?_; rintro e w1 ⟨rfl, rfl⟩)
      go_ret2
      exact ⟨rfl, rfl⟩

set_option maxRecDepth 100000 in
set_option maxHeartbeats 2000000 in
theorem RFrom (base g : Nat) (S : Nat → Prop) (ks us : List Int) (key m : Int) (L : List Int) (r : Nat) (hL : fromL ks key m = L) (hr : L.length = r) (hk : ks.length ≤ 99999) (w : World) (h : BookAt w base g S ks us) :
    Calls Try.prog 20 #[.pointer (some ⟨g, 0, none⟩), .int .i64 key, .int .i64 m] w fun e w' => ∃ A' c', e = .returned (.slice A' r c') ∧ IntsAt w' A' L ∧ Old w w' := by
  obtain ⟨i0, hi, hz0, hz1, hz2⟩ := info_parts info_int'
  obtain ⟨p, hp⟩ : ∃ p, plc ks key = p := ⟨_, rfl⟩
  have cA := hide (Rat base g p S ks us key hp hk w h)
  have hpl := (plc_place h.rise key).1
  have hgl := (h.foot h.self).2
  obtain ⟨n, hN⟩ : ∃ n, ks.length = n := ⟨_, rfl⟩
  obtain ⟨A, ck, B, cv, h, -⟩ := h
  have k0 := h.k0
  have hK : IntsAt w A ks := CellsAt.of_own h.ko
  unfold fromL at hL
  rw [hp] at hpl hL
  rw [hN] at k0 hk hpl
  have HN := hide hN
  have HL := hide hL
  have HR := hide hr
  clear hN hp hL hr h
  go_enter Try.func20, Try.ntmps20
  go_wp2_with (go_at_call 30; refine cA.out.mono ?_; rintro e w1 ⟨rfl, rfl⟩)
  go_loopw [7, 8] (fun v iv wr => ∃ j : Nat, p ≤ j ∧ j ≤ n ∧ ((j : Int) - p ≤ m ∨ j = p) ∧ iv = .int .i64 j ∧ Old w wr ∧ wr.ownsRow w.heap.size 3 1 v (j - p) (((ks.drop p).take (j - p)).map (Value.int .i64)))
    (fun _ iv _ => n - (intOf iv).toNat)
  case atStart => exact ⟨p, Nat.le_refl _, hpl, .inr rfl, rfl, Old.refl' w, by rw [Nat.sub_self, List.take_zero]; exact World.ownsRow_nil _ _ _ _⟩
  case round =>
    obtain ⟨j, hpj, hjn, hjm, rfl, hB, hown⟩ := hrel
    obtain ⟨Av, cv, rfl, -, -⟩ := own_form hown
    have d0 := (hB.cell (p := ⟨g, 0, none⟩) hgl).trans k0
    have hex : (j < n ∧ (j : Int) - p < m) ∨ ¬ (j < n ∧ (j : Int) - p < m) := Classical.em _
    have hc : ((j - p : Nat) : Int) = (j : Int) - p := by omega
    obtain ⟨q, hq⟩ : ∃ q, j - p = q := ⟨_, rfl⟩
    rw [hq] at hown hc ⊢
    rcases hex with ⟨hlt, hm⟩ | hex
    · obtain ⟨b0, o0, rfl, hb0, g0⟩ := hK.at_ (k := j) (by have := HN.out; omega)
      have g1 := (hB.cell (p := ⟨b0, o0 + j, none⟩) hb0).trans g0
      obtain ⟨x, hx⟩ : ∃ x, ks[j]?.getD 0 = x := ⟨_, rfl⟩
      rw [hx] at g1
      have hsn : (ks.drop p).take (q + 1) = (ks.drop p).take q ++ [x] := by
        rw [List.take_succ_eq_append_getElem (by rw [List.length_drop, HN.out]; omega), List.getElem_drop]
        have : p + q = j := by omega
        simp only [this]
        rw [← hx, List.getElem?_eq_getElem (by rw [HN.out]; exact hlt)]
        rfl
      have HS := hide hsn
      have hqm : (q : Int) < m := by omega
      have hq1 : q ≤ 99999 := by omega
      have HQ := hide hq
      clear hx hsn g0 hc hm hjm hq
      go_wp2_with (at_builtin; refine wpList_app _ rfl (.tmp 27) (.tmp 35) 22 rfl w.heap.size 3 i0 (.int .i64 0) 1 8 Try.underlying22 hi hz0 hz1 hz2 rfl (by decide) _ _ _ rfl (hown.alloc _) (some ⟨wr.heap.size, 0, none⟩) 1 1 [.int .i64 x] rfl rfl (cells_bk (Bk.new wr 3 #[.int .i64 x])) (by simp [Value.oneCell']) (by unfold maxLen; omega) (by omega) (by have := hB.size; simp; omega) _ rfl _ rfl ?_; intro A2 c2 w2 h2)
      go_roundw
      case rel =>
        have hqq := HQ.out
        refine ⟨j + 1, by omega, by omega, .inl (by omega), by go_num, h2.old (hB.alloc' _) (fun j hj => (hown.lt j hj).1), ?_⟩
        rw [show j + 1 - p = q + 1 from by omega, HS.out, List.map_append]
        exact h2.own
      case measure => simp [intOf]; omega
    · have hfin : (ks.drop p).take q = L := by
        rw [← HL.out]
        rcases Classical.em (j < n) with h1 | h1
        · have h2 : ¬ ((j : Int) - p < m) := fun e => hex ⟨h1, e⟩
          rcases hjm with h3 | h3
          · rw [show m.toNat = q from by omega]
          · rw [show m.toNat = 0 from by omega, show q = 0 from by omega]
        · rw [List.take_of_length_le (by rw [List.length_drop, HN.out]; omega), List.take_of_length_le (by rw [List.length_drop, HN.out]; omega)]
      have hql : q = r := by
        rw [← HR.out, ← hfin, List.length_take, List.length_drop, HN.out]
        omega
      rw [hfin] at hown
      have HO := hide (CellsAt.of_own hown : IntsAt wr Av L)
      clear hfin hown
      subst hql
      by_cases h1 : j < n
      · have h2 : ¬ ((q : Int) < m) := fun e => hex ⟨h1, by omega⟩
        clear hex hjm hc hq
        go_wp2
        go_ret
        first | exact ⟨Av, cv, rfl, HO.out, hB⟩ | exact ⟨Av, ⟨cv, rfl⟩, HO.out, hB⟩
      · clear hex hjm hc hq
        go_wp2
        go_ret
        first | exact ⟨Av, cv, rfl, HO.out, hB⟩ | exact ⟨Av, ⟨cv, rfl⟩, HO.out, hB⟩

set_option maxRecDepth 100000 in
set_option maxHeartbeats 2000000 in
theorem RBack (base g : Nat) (S : Nat → Prop) (ks us : List Int) (key m : Int) (L : List Int) (r : Nat) (hL : backLk ks key m = L) (hr : L.length = r) (hk : ks.length ≤ 99999) (w : World) (h : BookAt w base g S ks us) :
    Calls Try.prog 22 #[.pointer (some ⟨g, 0, none⟩), .int .i64 key, .int .i64 m] w fun e w' => ∃ A' c', e = .returned (.slice A' r c') ∧ IntsAt w' A' L ∧ Old w w' := by
  obtain ⟨i0, hi, hz0, hz1, hz2⟩ := info_parts info_int'
  have hri := h.rise
  obtain ⟨hpl, hlo, hhi⟩ := plc_place hri key
  have hfo := found_iff hri (plc_place hri key)
  unfold backLk at hL
  obtain ⟨t, hT⟩ : ∃ t, topOf (plc ks key) (decide (key ∈ ks)) = t := ⟨_, rfl⟩
  rw [hT] at hL
  have htn : t ≤ ks.length := by
    rw [← hT]
    unfold topOf
    by_cases hm : key ∈ ks
    · simp [hm] at hfo ⊢; omega
    · simp [hm]; omega
  have hle : ∀ j, j < t → ks[j]?.getD 0 ≤ key := fun j hj => by
    by_cases hjp : j < plc ks key
    · exact Int.le_of_lt (hlo j hjp)
    · by_cases hm : key ∈ ks
      · have h2 := (plc_lt hri hm).2
        rw [← hT] at hj
        simp [topOf, hm] at hj
        rw [show j = plc ks key from by omega, h2]
        exact Int.le_refl _
      · rw [← hT] at hj
        simp [topOf, hm] at hj
        omega
  have hgt : ∀ j, t ≤ j → j < ks.length → ¬ (ks[j]?.getD 0 ≤ key) := fun j hj hjn hc => by
    rw [← hT] at hj
    have h1 : plc ks key ≤ j := by unfold topOf at hj; split at hj <;> omega
    have h2 := hhi j h1 hjn
    have h3 : ks[j]?.getD 0 = key := by omega
    have hm : key ∈ ks := by
      rw [List.getElem?_eq_getElem hjn] at h3
      simp only [Option.getD_some] at h3
      exact h3 ▸ List.getElem_mem hjn
    simp [topOf, hm] at hj
    obtain ⟨h4, h5⟩ := plc_lt hri hm
    have h6 := List.pairwise_iff_getElem.1 hri (plc ks key) j h4 hjn (by omega)
    rw [List.getElem?_eq_getElem h4] at h5
    rw [List.getElem?_eq_getElem hjn] at h3
    simp at h3 h5
    omega
  have hgl := (h.foot h.self).2
  obtain ⟨n, hN⟩ : ∃ n, ks.length = n := ⟨_, rfl⟩
  obtain ⟨A, ck, B, cv, h, -⟩ := h
  have k0 := h.k0
  have hK : IntsAt w A ks := CellsAt.of_own h.ko
  rw [hN] at k0 hk htn hgt
  have HN := hide hN
  have HL := hide hL
  have HR := hide hr
  have HLE := hide hle
  have HGT := hide hgt
  clear hN hL hr h hT hpl hlo hhi hfo hle hgt hri
  go_enter Try.func22, Try.ntmps22
  go_wp2
  go_loopw [7, 8] (fun v iv wr => ∃ j q : Nat, j ≤ n ∧ q = t - j ∧ ((q : Int) ≤ m ∨ q = 0) ∧ iv = .int .i64 ((j : Int) - 1) ∧ Old w wr ∧ wr.ownsRow w.heap.size 3 1 v q ((((ks.take t).drop j).reverse).map (Value.int .i64)))
    (fun _ iv _ => (intOf iv + 1).toNat)
  case atStart => exact ⟨n, 0, Nat.le_refl _, by omega, .inr rfl, rfl, Old.refl' w, by rw [List.drop_of_length_le (by rw [List.length_take]; omega)]; exact World.ownsRow_nil _ _ _ _⟩
  case round =>
    obtain ⟨j, q, hjn, hq, hqm, rfl, hB, hown⟩ := hrel
    obtain ⟨Av, cv, rfl, -, -⟩ := own_form hown
    have d0 := (hB.cell (p := ⟨g, 0, none⟩) hgl).trans k0
    have hlt : (ks.take t).length = t := by rw [List.length_take, HN.out]; omega
    by_cases hex : 0 < j ∧ (q : Int) < m
    · obtain ⟨hj0, hm⟩ := hex
      obtain ⟨b0, o0, rfl, hb0, g0⟩ := hK.at_ (k := j - 1) (by have := HN.out; omega)
      have g1 := (hB.cell (p := ⟨b0, o0 + (j - 1), none⟩) hb0).trans g0
      have hi' : ((j : Int) - 1).toNat = j - 1 := by omega
      have hi1 : (0 : Int) ≤ (j : Int) - 1 := by omega
      have hi2 : (j : Int) - 1 < n := by omega
      by_cases hjt : j ≤ t
      · have hx1 := HLE.out (j - 1) (by omega)
        obtain ⟨x, hx⟩ : ∃ x, ks[j - 1]?.getD 0 = x := ⟨_, rfl⟩
        rw [hx] at g1 hx1
        have hsn : ((ks.take t).drop (j - 1)).reverse = ((ks.take t).drop j).reverse ++ [x] := by
          rw [List.drop_eq_getElem_cons (by rw [hlt]; omega), List.reverse_cons, show j - 1 + 1 = j from by omega, List.getElem_take, ← hx, List.getElem?_eq_getElem (by rw [HN.out]; omega)]
          rfl
        have HS := hide hsn
        have HQ := hide hq
        have hq1 : q ≤ 99999 := by omega
        clear hx hsn g0 hqm hlt hq
        go_wp2_with (at_builtin; refine wpList_app _ rfl (.tmp 34) (.tmp 42) 22 rfl w.heap.size 3 i0 (.int .i64 0) 1 8 Try.underlying22 hi hz0 hz1 hz2 rfl (by decide) _ _ _ rfl (hown.alloc _) (some ⟨wr.heap.size, 0, none⟩) 1 1 [.int .i64 x] rfl rfl (cells_bk (Bk.new wr 3 #[.int .i64 x])) (by simp [Value.oneCell']) (by unfold maxLen; omega) (by omega) (by have := hB.size; simp; omega) _ rfl _ rfl ?_; intro A2 c2 w2 h2)
        go_roundw
        case rel =>
          have hqq := HQ.out
          refine ⟨j - 1, q + 1, by omega, by omega, .inl (by omega), by go_num, h2.old (hB.alloc' _) (fun j hj => (hown.lt j hj).1), ?_⟩
          rw [HS.out, List.map_append]
          exact h2.own
        case measure => simp [intOf]; omega
      · have hx1 := HGT.out (j - 1) (by omega) (by omega)
        obtain ⟨x, hx⟩ : ∃ x, ks[j - 1]?.getD 0 = x := ⟨_, rfl⟩
        rw [hx] at g1 hx1
        have he : ((ks.take t).drop (j - 1)) = ((ks.take t).drop j) := by
          rw [List.drop_of_length_le (by rw [hlt]; omega), List.drop_of_length_le (by rw [hlt]; omega)]
        have HE := hide he
        have HQ := hide hq
        clear hx g0 hqm hlt hq he
        go_wp2
        go_roundw
        case rel =>
          have hqq := HQ.out
          refine ⟨j - 1, q, by omega, by omega, .inr (by omega), by go_num, hB, ?_⟩
          rw [HE.out]
          exact hown
        case measure => simp [intOf]; omega
    · have hfin : ((ks.take t).drop j).reverse = L := by
        rw [← HL.out]
        have hsp : (ks.take t).reverse = ((ks.take t).drop j).reverse ++ ((ks.take t).take j).reverse := by
          rw [← List.reverse_append, List.take_append_drop]
        rcases Nat.eq_zero_or_pos j with h1 | h1
        · subst h1
          rw [List.drop_zero]
          exact (List.take_of_length_le (by rw [List.length_reverse, hlt]; omega)).symm
        · have h2 : ¬ ((q : Int) < m) := fun e => hex ⟨h1, e⟩
          have hql : (((ks.take t).drop j).reverse).length = m.toNat := by
            rw [List.length_reverse, List.length_drop, hlt]
            omega
          rw [hsp, List.take_left' hql]
      have hql : q = r := by
        rw [← HR.out, ← hfin, List.length_reverse, List.length_drop, hlt]
        omega
      rw [hfin] at hown
      have HO := hide (CellsAt.of_own hown : IntsAt wr Av L)
      clear hfin hown hlt
      subst hql
      by_cases h1 : 0 < j
      · have h2 : ¬ ((q : Int) < m) := fun e => hex ⟨h1, e⟩
        have h3 : (0 : Int) ≤ (j : Int) - 1 := by omega
        clear hex hqm hq
        go_wp2
        go_ret
        first | exact ⟨Av, cv, rfl, HO.out, hB⟩ | exact ⟨Av, ⟨cv, rfl⟩, HO.out, hB⟩
      · obtain rfl : j = 0 := by omega
        clear hex hqm hq
        go_wp2
        go_ret
        first | exact ⟨Av, cv, rfl, HO.out, hB⟩ | exact ⟨Av, ⟨cv, rfl⟩, HO.out, hB⟩
end Go.Proofs.Ytidokbgdbakjkaa
