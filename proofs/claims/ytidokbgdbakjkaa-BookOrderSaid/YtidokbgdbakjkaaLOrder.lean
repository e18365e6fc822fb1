/- casebooklaw6.BookOrder: the walk. -/
import Derived.Test.YtidokbgdbakjkaaBkT
import Derived.BigQuiet
namespace Go.Proofs.Ytidokbgdbakjkaa
open Go.RowKit

/-- one book, made since w0 -/
def One (w0 w : World) (g : Nat) (ks us : List Int) : Prop := ∃ S, BookAt w w0.heap.size g S ks us ∧ Old w0 w

section
variable {w0 w w' : World} {g : Nat} {ks us : List Int}
theorem One.o (h : One w0 w g ks us) : Old w0 w := h.choose_spec.2
theorem One.rise (h : One w0 w g ks us) : ks.Pairwise (· < ·) := h.choose_spec.1.rise
theorem One.old (h : One w0 w g ks us) (hf : Old w w') : One w0 w' g ks us := by
  obtain ⟨S, a, o⟩ := h
  exact ⟨S, a.old hf, o.trans' hf⟩
theorem One.drewN (h : One w0 w g ks us) (n : Nat) : One w0 (w.drewN n) g ks us := h.old ((Old.refl' w).drewN' n)
theorem One.put (key v : Int) (h : One w0 w g ks us) (hn : ks.length ≤ 99999) :
    Calls Try.prog 9 #[.pointer (some ⟨g, 0, none⟩), .int .i64 key, .int .i64 v] w fun e w' => (∃ r f, e = .returned (.tuple #[.int .i64 r, .bool f])) ∧ One w0 w' g (putK ks key) (putV ks us key v) := by
  obtain ⟨S, a, o⟩ := h
  refine (PutB w0.heap.size g S ks us key v hn w a).mono ?_
  rintro e w' ⟨rfl, ⟨S', a', -⟩, hf⟩
  exact ⟨⟨_, _, rfl⟩, S', a', a.kept hf o⟩
theorem One.get (key : Int) (f : Bool) (h4 : decide (key ∈ ks) = f) (h : One w0 w g ks us) (hn : ks.length ≤ 99999) :
    Calls Try.prog 12 #[.pointer (some ⟨g, 0, none⟩), .int .i64 key] w fun e w' => e = .returned (.tuple #[.int .i64 (getV ks us key), .bool f]) ∧ w = w' := by
  subst h4
  obtain ⟨S, a, o⟩ := h
  exact GetB w0.heap.size g S ks us key hn w a
theorem One.keys (n : Nat) (hl : ks.length = n) (h : One w0 w g ks us) (hk : n ≤ 99999) :
    Calls Try.prog 11 #[.pointer (some ⟨g, 0, none⟩)] w fun e w' => ∃ A' c', e = .returned (.slice A' n c') ∧ IntsAt w' A' ks ∧ Old w w' := by
  obtain ⟨S, a, o⟩ := h
  refine (KeysB w0.heap.size g S ks us n hl hk w a).mono ?_
  rintro e w' ⟨A', c', rfl, ho, hb⟩
  exact ⟨A', c', rfl, CellsAt.of_own ho, hb⟩
theorem One.from_ (key n : Int) (L : List Int) (r : Nat) (hL : fromL ks key n = L) (hr : L.length = r) (hn : n ≤ 9223372036854775807) (hk : ks.length ≤ 99999) (h : One w0 w g ks us) :
    Calls Try.prog 14 #[.pointer (some ⟨g, 0, none⟩), .int .i64 key, .int .i64 n] w fun e w' => ∃ A' c', e = .returned (.slice A' r c') ∧ IntsAt w' A' L ∧ Old w w' := by
  obtain ⟨S, a, o⟩ := h
  refine (FromB w0.heap.size g S ks us key n L r hL hr hn hk w a).mono ?_
  rintro e w' ⟨A', c', rfl, ho, hb⟩
  exact ⟨A', c', rfl, CellsAt.of_own ho, hb⟩
theorem One.back (key n : Int) (L : List Int) (r : Nat) (hL : backLk ks key n = L) (hr : L.length = r) (hn : n ≤ 9223372036854775807) (hk : ks.length ≤ 99999) (h : One w0 w g ks us) :
    Calls Try.prog 21 #[.pointer (some ⟨g, 0, none⟩), .int .i64 key, .int .i64 n] w fun e w' => ∃ A' c', e = .returned (.slice A' r c') ∧ IntsAt w' A' L ∧ Old w w' := by
  obtain ⟨S, a, o⟩ := h
  refine (BackB w0.heap.size g S ks us key n L r hL hr hn hk w a).mono ?_
  rintro e w' ⟨A', c', rfl, ho, hb⟩
  exact ⟨A', c', rfl, CellsAt.of_own ho, hb⟩
theorem One_new (w : World) : One w (w.alloc (.cells #[.slice none 0 0, .slice none 0 0] 48)) w.heap.size [] [] :=
  ⟨_, NewB w (Nat.le_refl _), (Old.refl' w).alloc' _⟩
end

/-- what From and Back give of a rising row -/
theorem ends {ks : List Int} (hr : ks.Pairwise (· < ·)) (hn : ks.length ≤ 100) (at_ : Int) :
    ∃ U D, fromL ks at_ 1000 = U ∧ backLk ks at_ 1000 = D ∧ (∀ i, i < U.length → at_ ≤ U[i]?.getD 0) ∧ (∀ i, i + 1 < U.length → U[i]?.getD 0 < U[i + 1]?.getD 0) ∧ (∀ i, i < D.length → D[i]?.getD 0 ≤ at_) ∧ (∀ i, i + 1 < D.length → D[i + 1]?.getD 0 < D[i]?.getD 0) ∧
      U.length + D.length = ks.length + (if at_ ∈ ks then 1 else 0) ∧ (fromL ks at_ 1).length = min 1 U.length := by
  have hp := plc_place hr at_
  obtain ⟨h1, h2, h3⟩ := hp
  have hf := found_iff hr (plc_place hr at_)
  obtain ⟨p, hP⟩ : ∃ p, plc ks at_ = p := ⟨_, rfl⟩
  unfold fromL backLk
  rw [hP] at h1 h2 h3 hf ⊢
  obtain ⟨t, hT⟩ : ∃ t, topOf p (decide (at_ ∈ ks)) = t := ⟨_, rfl⟩
  rw [hT]
  have htp : t = p + (if at_ ∈ ks then 1 else 0) := by
    rw [← hT]
    unfold topOf
    by_cases hm : at_ ∈ ks <;> simp [hm]
  have htn : t ≤ ks.length := by
    by_cases hm : at_ ∈ ks
    · simp [hm] at hf htp; omega
    · simp [hm] at htp; omega
  have htop : ∀ j, j < t → ks[j]?.getD 0 ≤ at_ := fun j hj => by
    by_cases hjp : j < p
    · exact Int.le_of_lt (h2 j hjp)
    · by_cases hm : at_ ∈ ks
      · simp [hm] at hf htp
        have : j = p := by omega
        rw [this, hf.2]; exact Int.le_refl _
      · simp [hm] at htp; omega
  have hup : ∀ i, i + 1 < ks.length → ks[i]?.getD 0 < ks[i + 1]?.getD 0 := fun i hi => by
    rw [List.getElem?_eq_getElem hi, List.getElem?_eq_getElem (by omega)]
    exact List.pairwise_iff_getElem.1 hr i (i + 1) (by omega) hi (by omega)
  have e1 : (ks.drop p).take (1000 : Int).toNat = ks.drop p := List.take_of_length_le (by rw [List.length_drop]; show _ ≤ 1000; omega)
  have e2 : (ks.take t).reverse.take (1000 : Int).toNat = (ks.take t).reverse := List.take_of_length_le (by rw [List.length_reverse, List.length_take]; show _ ≤ 1000; omega)
  have hlt : (ks.take t).length = t := by rw [List.length_take]; omega
  have hrev : ∀ i, i < t → (ks.take t).reverse[i]?.getD 0 = ks[t - 1 - i]?.getD 0 := fun i hi => by
    rw [List.getElem?_reverse (by rw [hlt]; exact hi), hlt, List.getElem?_take_of_lt (by omega)]
  refine ⟨ks.drop p, (ks.take t).reverse, e1, e2, fun i hi => ?_, fun i hi => ?_, fun i hi => ?_, fun i hi => ?_, ?_, ?_⟩
  · rw [List.length_drop] at hi
    rw [List.getElem?_drop]
    exact h3 (p + i) (by omega) (by omega)
  · rw [List.length_drop] at hi
    rw [List.getElem?_drop, List.getElem?_drop]
    exact hup (p + i) (by omega)
  · rw [List.length_reverse, hlt] at hi
    rw [hrev i hi]
    exact htop _ (by omega)
  · rw [List.length_reverse, hlt] at hi
    rw [hrev i (by omega), hrev (i + 1) hi]
    have := hup (t - 1 - (i + 1)) (by omega)
    rwa [show t - 1 - (i + 1) + 1 = t - 1 - i from by omega] at this
  · rw [List.length_drop, List.length_reverse, hlt]
    omega
  · rw [List.length_take]
    rfl

set_option maxRecDepth 100000 in
set_option maxHeartbeats 4000000 in
theorem Order_walk (A0 : Option Addr) (n c0 : Nat) (l : List Int) (at_ : Int) (hl : n = l.length) (hn : n ≤ 9223372036854775807) (w : World) (h0 : IntsAt w A0 l) :
    Calls Try.prog 5 #[.slice A0 n c0, .int .i64 at_] w fun e w' => e = .returned (.bool true) ∧ Old w w' := by
  have HL := hide hl
  clear hl
  have hone := One_new w
  go_enter Try.func5, Try.ntmps5
  go_wp2_with (go_at_call 7; refine (BNew _).mono ?_; rintro e w' ⟨rfl, rfl⟩)
  go_loopw [6] (fun iv wr => ∃ (k : Nat) (ks us : List Int), k ≤ n ∧ k ≤ 100 ∧ iv = .int .i64 k ∧ One w wr w.heap.size ks us ∧ ks.length ≤ k) (fun iv _ => n - (intOf iv).toNat)
  case atStart => exact ⟨0, [], [], by omega, by omega, rfl, hone, by simp⟩
  case round =>
    clear hone
    obtain ⟨k, ks, us, hk, hk1, rfl, ht, hlen⟩ := hrel
    by_cases hgo : k < n ∧ k < 100
    · obtain ⟨hlt, hlt1⟩ := hgo
      obtain ⟨b0, o0, rfl, hb0, g0⟩ := h0.at_ (k := k) (by have := HL.out; omega)
      have d0 := (ht.o.cell (p := ⟨b0, o0 + k, none⟩) hb0).trans g0
      obtain ⟨x, hx⟩ : ∃ x, l[k]?.getD 0 = x := ⟨_, rfl⟩
      rw [hx] at d0
      have l1 := len_putK ht.rise x
      clear hx g0
      go_wp2_with fail
      refine (ht.put x k (by omega)).mono ?_
      rintro e w2 ⟨⟨r1, f1, rfl⟩, t2⟩
      go_wp2_with fail
      go_roundw
      case rel =>
        refine ⟨k + 1, _, _, by omega, by omega, by go_num, t2, ?_⟩
        rw [l1]; split <;> omega
      case measure => simp [intOf]; omega
    · have hcond : (decide ((k : Int) < (n : Int)) && decide ((k : Int) < 100)) = false := by simp; omega
      have hc : k = n ∨ (k < n ∧ k = 100) := by omega
      obtain ⟨N, hN⟩ : ∃ N, ks.length = N := ⟨_, rfl⟩
      have hr := ht.rise
      obtain ⟨U, D, eU, eD, u1, u2, d1, d2, hsum, hmin⟩ := ends hr (by omega) at_
      have hK : ∀ i, i + 1 < N → ks[i]?.getD 0 < ks[i + 1]?.getD 0 := fun i hi => by
        rw [← hN] at hi
        rw [List.getElem?_eq_getElem hi, List.getElem?_eq_getElem (by omega)]
        exact List.pairwise_iff_getElem.1 hr i (i + 1) (by omega) hi (by omega)
      have hN100 : N ≤ 100 := by omega
      have HK := hide hK
      have H1 := hide u1
      have H2 := hide u2
      have H3 := hide d1
      have H4 := hide d2
      have HEU := hide eU
      have HED := hide eD
      have HMIN := hide hmin
      obtain ⟨f, hf⟩ : ∃ f, decide (at_ ∈ ks) = f := ⟨_, rfl⟩
      obtain ⟨p, hp⟩ : ∃ p, U.length = p := ⟨_, rfl⟩
      obtain ⟨q, hq⟩ : ∃ p, D.length = p := ⟨_, rfl⟩
      have hsum' : p + q = N + (if f then 1 else 0) := by
        rw [← hp, ← hq, ← hN, hsum, ← hf]
        simp
      have HN := hide hN
      have HP := hide hp
      have HQ := hide hq
      have HF := hide hf
      clear hK u1 u2 d1 d2 eU eD hmin hsum hr hlen hN hp hq hf
      rcases hc with rfl | ⟨hkn, rfl⟩
      all_goals
        go_wp2_with fail
        refine (ht.keys N HN.out (by have := HN.out; omega)).mono ?_
        rintro e w2 ⟨A2, c2, rfl, i2, f2⟩
        have t2 := ht.old f2
        clear ht f2
        go_wp2_with fail
        go_loopw [8] (fun iv wr => ∃ j : Nat, 1 ≤ j ∧ iv = .int .i64 j ∧ One w wr w.heap.size ks us ∧ IntsAt wr A2 ks) (fun iv _ => N - (intOf iv).toNat)
        case atStart => exact ⟨1, by omega, rfl, t2, i2⟩
        case round =>
          clear t2 i2
          obtain ⟨j, hj, rfl, ht, i2⟩ := hrel
          by_cases hlt : j < N
          · obtain ⟨b0, o0, rfl, hb0, g0⟩ := i2.at_ (k := j - 1) (by have := HN.out; omega)
            obtain ⟨b1, o1, e1, hb1, g1⟩ := i2.at_ (k := j) (by have := HN.out; omega)
            injection e1 with e1
            injection e1 with e1 e2
            subst e1 e2
            have hxy := HK.out (j - 1) (by omega)
            rw [show j - 1 + 1 = j from by omega] at hxy
            obtain ⟨x, hx⟩ : ∃ x, ks[j - 1]?.getD 0 = x := ⟨_, rfl⟩
            obtain ⟨y, hy⟩ : ∃ x, ks[j]?.getD 0 = x := ⟨_, rfl⟩
            rw [hx] at g0 hxy
            rw [hy] at g1 hxy
            have hge : decide (y ≤ x) = false := by simp; omega
            have hz : IntKind.i64.wrap ((j : Int) - 1) = (j : Int) - 1 := IntWalk.i64_in _ (by omega)
            have hi : ((j : Int) - 1).toNat = j - 1 := by omega
            have hi0 : (0 : Int) ≤ (j : Int) - 1 := by omega
            have hi1 : (j : Int) - 1 < N := by omega
            have hi2 : (0 : Int) ≤ (j : Int) := by omega
            have hi3 : (j : Int) < N := by omega
            clear hx hy
            go_wp2_with fail
            go_quiet (fail)
            go_wp2_with fail
            go_roundw
            case rel => exact ⟨j + 1, by omega, by go_num, ht.drewN _, CellsAt.drewN i2 _⟩
            case measure => simp [intOf]; omega
          · have hlt' : decide ((j : Int) < (N : Int)) = false := by simp; omega
            go_wp2_with fail
            refine (ht.from_ at_ 1000 U p HEU.out HP.out (by omega) (by have := HN.out; omega)).mono ?_
            rintro e w3 ⟨A3, c3, rfl, i3, f3⟩
            have t3 := ht.old f3
            go_wp2_with fail
            refine (t3.back at_ 1000 D q HED.out HQ.out (by omega) (by have := HN.out; omega)).mono ?_
            rintro e w4 ⟨A4, c4, rfl, i4, f4⟩
            have t4 := t3.old f4
            have i3' := i3.old f4
            clear ht t3 f3 f4 i3 i2
            go_wp2_with fail
            refine (t4.get at_ f HF.out (by have := HN.out; omega)).mono ?_
            rintro e w5 ⟨rfl, rfl⟩
            cases f
            all_goals
              simp only [if_true, if_false, Bool.false_eq_true] at hsum'
              have hpq : (p : Int) + q ≤ 1000 := by omega
              go_wp2_with fail
              go_loopw [14] (fun iv wr => ∃ j : Nat, j ≤ p ∧ iv = .int .i64 j ∧ One w wr w.heap.size ks us ∧ IntsAt wr A3 U ∧ IntsAt wr A4 D) (fun iv _ => p - (intOf iv).toNat)
              case atStart => exact ⟨0, by omega, rfl, t4, i3', i4⟩
              case round =>
                clear t4 i3' i4
                obtain ⟨j, hj, rfl, ht, i3, i4⟩ := hrel
                by_cases hlt : j < p
                · obtain ⟨b1, o1, rfl, hb1, g1⟩ := i3.at_ (k := j) (by have := HP.out; omega)
                  have hb := H1.out j (by rw [HP.out]; exact hlt)
                  obtain ⟨y, hy⟩ : ∃ x, U[j]?.getD 0 = x := ⟨_, rfl⟩
                  rw [hy] at g1 hb
                  have hi2 : (0 : Int) ≤ (j : Int) := by omega
                  have hi3 : (j : Int) < p := by omega
                  by_cases hj0 : j = 0
                  · subst hj0
                    rw [Nat.add_zero] at g1
                    clear hy
                    go_wp2_with fail
                    have hge : ¬ (y < at_) := by omega
                    go_quiet (fail)
                    go_wp2_with fail
                    go_roundw
                    case rel => exact ⟨0 + 1, by omega, by go_num, ht.drewN _, CellsAt.drewN i3 _, CellsAt.drewN i4 _⟩
                    case measure => simp [intOf]; omega
                  · obtain ⟨b0, o0, e1, hb0, g0⟩ := i3.at_ (k := j - 1) (by have := HP.out; omega)
                    injection e1 with e1
                    injection e1 with e1 e2
                    subst e1 e2
                    have hxy := H2.out (j - 1) (by rw [HP.out]; omega)
                    rw [show j - 1 + 1 = j from by omega, hy] at hxy
                    obtain ⟨x, hx⟩ : ∃ x, U[j - 1]?.getD 0 = x := ⟨_, rfl⟩
                    rw [hx] at g0 hxy
                    have hxy' : decide (y ≤ x) = false := by simp; omega
                    have hz : IntKind.i64.wrap ((j : Int) - 1) = (j : Int) - 1 := IntWalk.i64_in _ (by omega)
                    have hi : ((j : Int) - 1).toNat = j - 1 := by omega
                    have hi0 : (0 : Int) ≤ (j : Int) - 1 := by omega
                    have hi1 : (j : Int) - 1 < p := by omega
                    have hj1 : 0 < j := by omega
                    clear hx hy
                    go_wp2_with fail
                    have hge : ¬ (y < at_) := by omega
                    go_quiet (fail)
                    go_wp2_with fail
                    go_roundw
                    case rel => exact ⟨j + 1, by omega, by go_num, ht.drewN _, CellsAt.drewN i3 _, CellsAt.drewN i4 _⟩
                    case measure => simp [intOf]; omega
                · obtain rfl : j = p := by omega
                  go_wp2_with fail
                  go_loopw [15] (fun iv wr => ∃ i : Nat, i ≤ q ∧ iv = .int .i64 i ∧ One w wr w.heap.size ks us ∧ IntsAt wr A4 D) (fun iv _ => q - (intOf iv).toNat)
                  case atStart => exact ⟨0, by omega, rfl, ht, i4⟩
                  case round =>
                    clear ht i3 i4
                    obtain ⟨i, hi', rfl, ht, i4⟩ := hrel
                    by_cases hlt : i < q
                    · obtain ⟨b1, o1, rfl, hb1, g1⟩ := i4.at_ (k := i) (by have := HQ.out; omega)
                      have hb := H3.out i (by rw [HQ.out]; exact hlt)
                      obtain ⟨y, hy⟩ : ∃ x, D[i]?.getD 0 = x := ⟨_, rfl⟩
                      rw [hy] at g1 hb
                      have hi2 : (0 : Int) ≤ (i : Int) := by omega
                      have hi3 : (i : Int) < q := by omega
                      by_cases hj0 : i = 0
                      · subst hj0
                        rw [Nat.add_zero] at g1
                        clear hy
                        go_wp2_with fail
                        have hge : ¬ (at_ < y) := by omega
                        go_quiet (fail)
                        go_wp2_with fail
                        go_roundw
                        case rel => exact ⟨0 + 1, by omega, by go_num, ht.drewN _, CellsAt.drewN i4 _⟩
                        case measure => simp [intOf]; omega
                      · obtain ⟨b0, o0, e1, hb0, g0⟩ := i4.at_ (k := i - 1) (by have := HQ.out; omega)
                        injection e1 with e1
                        injection e1 with e1 e2
                        subst e1 e2
                        have hxy := H4.out (i - 1) (by rw [HQ.out]; omega)
                        rw [show i - 1 + 1 = i from by omega, hy] at hxy
                        obtain ⟨x, hx⟩ : ∃ x, D[i - 1]?.getD 0 = x := ⟨_, rfl⟩
                        rw [hx] at g0 hxy
                        have hxy' : decide (x ≤ y) = false := by simp; omega
                        have hz : IntKind.i64.wrap ((i : Int) - 1) = (i : Int) - 1 := IntWalk.i64_in _ (by omega)
                        have hi : ((i : Int) - 1).toNat = i - 1 := by omega
                        have hi0 : (0 : Int) ≤ (i : Int) - 1 := by omega
                        have hi1 : (i : Int) - 1 < q := by omega
                        have hj1 : 0 < i := by omega
                        clear hx hy
                        go_wp2_with fail
                        have hge : ¬ (at_ < y) := by omega
                        go_quiet (fail)
                        go_wp2_with fail
                        go_roundw
                        case rel => exact ⟨i + 1, by omega, by go_num, ht.drewN _, CellsAt.drewN i4 _⟩
                        case measure => simp [intOf]; omega
                    · obtain rfl : i = q := by omega
                      have hmin := HMIN.out
                      rw [HP.out] at hmin
                      obtain ⟨F1, hF1⟩ : ∃ F, fromL ks at_ 1 = F := ⟨_, rfl⟩
                      rw [hF1] at hmin
                      obtain ⟨r1, hr1⟩ : ∃ r, F1.length = r := ⟨_, rfl⟩
                      rw [hr1] at hmin
                      have h00 : fromL ks at_ 0 = [] := by simp [fromL]
                      have h01 : backLk ks at_ (-1) = [] := by simp [backLk]
                      have hL99 : ks.length ≤ 99999 := by have := HN.out; omega
                      have hsN : (j : Int) + i = N ∨ (j : Int) + i - 1 = N := by omega
                      go_wp2_with fail
                      refine (told6_any _).mono ?_
                      rintro e w9 ⟨rfl, f9⟩
                      have t9 := ht.old f9
                      go_wp2_with fail
                      refine (t9.from_ at_ 0 [] 0 h00 rfl (by omega) hL99).mono ?_
                      rintro e w6 ⟨A6, c6, rfl, -, f6⟩
                      have t6 := t9.old f6
                      go_wp2_with fail
                      refine (t6.back at_ (-1) [] 0 h01 rfl (by omega) hL99).mono ?_
                      rintro e w7 ⟨A7, c7, rfl, -, f7⟩
                      have t7 := t6.old f7
                      go_wp2_with fail
                      refine (t7.from_ at_ 1 F1 r1 hF1 hr1 (by omega) hL99).mono ?_
                      rintro e w8 ⟨A8, c8, rfl, -, f8⟩
                      have o8 := (t7.old f8).o
                      clear ht i4 f9 t9 f6 t6 f7 t7 f8
                      by_cases hj0 : j = 0
                      · have hr0 : r1 = 0 := by omega
                        clear hmin
                        subst hj0 hr0
                        go_wp2_with fail
                        go_ret
                        exact ⟨rfl, o8⟩
                      · have hr0 : r1 = 1 := by omega
                        clear hmin
                        subst hr0
                        have hj1 : ¬ ((j : Int) < 1) := by omega
                        have hj2 : (1 : Int) ≤ (j : Int) := by omega
                        go_wp2_with fail
                        go_ret
                        exact ⟨rfl, o8⟩
end Go.Proofs.Ytidokbgdbakjkaa
