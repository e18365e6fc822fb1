/- casebooklaw6.BookSets: firsts, two books, the walk. -/
import Derived.Test.YtidokbgdbakjkaaBkT
import Derived.Test.YtidokbgdbakjkaaRefI
namespace Go.Proofs.Ytidokbgdbakjkaa
open Go.RowKit

/-- two books that do not meet -/
def Two (w0 w : World) (ga gb : Nat) (ka ua kb ub : List Int) : Prop :=
  ∃ Sa Sb, BookAt w w0.heap.size ga Sa ka ua ∧ BookAt w w0.heap.size gb Sb kb ub ∧ (∀ k, Sa k → ¬ Sb k) ∧ Old w0 w

section
variable {w0 w w' : World} {ga gb : Nat} {ka ua kb ub : List Int}
theorem Two.symm (h : Two w0 w ga gb ka ua kb ub) : Two w0 w gb ga kb ub ka ua := by
  obtain ⟨Sa, Sb, a, b, d, o⟩ := h
  exact ⟨Sb, Sa, b, a, fun k h1 h2 => d k h2 h1, o⟩
theorem Two.o (h : Two w0 w ga gb ka ua kb ub) : Old w0 w := by
  obtain ⟨Sa, Sb, a, b, d, o⟩ := h
  exact o
theorem Two.rise (h : Two w0 w ga gb ka ua kb ub) : ka.Pairwise (· < ·) := by
  obtain ⟨Sa, Sb, a, b, d, o⟩ := h
  exact a.rise
theorem Two.old (h : Two w0 w ga gb ka ua kb ub) (hf : Old w w') : Two w0 w' ga gb ka ua kb ub := by
  obtain ⟨Sa, Sb, a, b, d, o⟩ := h
  exact ⟨Sa, Sb, a.old hf, b.old hf, d, o.trans' hf⟩
theorem Two.put (key v : Int) (h : Two w0 w ga gb ka ua kb ub) (hn : ka.length ≤ 99999) :
    Calls Try.prog 9 #[.pointer (some ⟨ga, 0, none⟩), .int .i64 key, .int .i64 v] w fun e w' => (∃ r f, e = .returned (.tuple #[.int .i64 r, .bool f])) ∧ Two w0 w' ga gb (putK ka key) (putV ka ua key v) kb ub := by
  obtain ⟨Sa, Sb, a, b, d, o⟩ := h
  refine (PutB w0.heap.size ga Sa ka ua key v hn w a).mono ?_
  rintro e w' ⟨rfl, ⟨S', a', hn'⟩, hf⟩
  refine ⟨⟨_, _, rfl⟩, S', Sb, a', b.fr hf (fun k h1 h2 => d k h2 h1), fun k h1 h2 => ?_, a.kept hf o⟩
  rcases hn' k h1 with h3 | h3
  · exact d k h3 h2
  · have := (b.foot h2).2; omega
theorem Two.del (key : Int) (f : Bool) (h4 : decide (key ∈ ka) = f) (h : Two w0 w ga gb ka ua kb ub) (hn : ka.length ≤ 99999) :
    Calls Try.prog 13 #[.pointer (some ⟨ga, 0, none⟩), .int .i64 key] w fun e w' => e = .returned (.bool f) ∧ Two w0 w' ga gb (delR ka ka key) (delR ka ua key) kb ub := by
  subst h4
  obtain ⟨Sa, Sb, a, b, d, o⟩ := h
  refine (DelB w0.heap.size ga Sa ka ua key hn w a).mono ?_
  rintro e w' ⟨rfl, ⟨S', a', hn'⟩, hf⟩
  refine ⟨rfl, S', Sb, a', b.fr hf (fun k h1 h2 => d k h2 h1), fun k h1 h2 => ?_, a.kept hf o⟩
  rcases hn' k h1 with h3 | h3
  · exact d k h3 h2
  · have := (b.foot h2).2; omega
theorem Two.get (key : Int) (f : Bool) (h4 : decide (key ∈ ka) = f) (h : Two w0 w ga gb ka ua kb ub) (hn : ka.length ≤ 99999) :
    Calls Try.prog 12 #[.pointer (some ⟨ga, 0, none⟩), .int .i64 key] w fun e w' => e = .returned (.tuple #[.int .i64 (getV ka ua key), .bool f]) ∧ w = w' := by
  subst h4
  obtain ⟨Sa, Sb, a, b, d, o⟩ := h
  exact GetB w0.heap.size ga Sa ka ua key hn w a
theorem Two.keys (n : Nat) (hl : ka.length = n) (h : Two w0 w ga gb ka ua kb ub) (hk : n ≤ 99999) :
    Calls Try.prog 11 #[.pointer (some ⟨ga, 0, none⟩)] w fun e w' => ∃ A' c', e = .returned (.slice A' n c') ∧ IntsAt w' A' ka ∧ Old w w' := by
  obtain ⟨Sa, Sb, a, b, d, o⟩ := h
  refine (KeysB w0.heap.size ga Sa ka ua n hl hk w a).mono ?_
  rintro e w' ⟨A', c', rfl, ho, hb⟩
  exact ⟨A', c', rfl, CellsAt.of_own ho, hb⟩
theorem Two.len (n : Nat) (hl : ka.length = n) (h : Two w0 w ga gb ka ua kb ub) :
    Calls Try.prog 16 #[.pointer (some ⟨ga, 0, none⟩)] w fun e w' => e = .returned (.int .i64 n) ∧ w = w' := by
  obtain ⟨Sa, Sb, a, b, d, o⟩ := h
  exact LenB w0.heap.size ga Sa ka ua n hl w a
theorem Two.from_ (key n : Int) (L : List Int) (r : Nat) (hL : fromL ka key n = L) (hr : L.length = r) (hn : n ≤ 9223372036854775807) (hk : ka.length ≤ 99999) (h : Two w0 w ga gb ka ua kb ub) :
    Calls Try.prog 14 #[.pointer (some ⟨ga, 0, none⟩), .int .i64 key, .int .i64 n] w fun e w' => ∃ A' c', e = .returned (.slice A' r c') ∧ IntsAt w' A' L ∧ Old w w' := by
  obtain ⟨Sa, Sb, a, b, d, o⟩ := h
  refine (FromB w0.heap.size ga Sa ka ua key n L r hL hr hn hk w a).mono ?_
  rintro e w' ⟨A', c', rfl, ho, hb⟩
  exact ⟨A', c', rfl, CellsAt.of_own ho, hb⟩
theorem Two_new (w : World) : Two w ((w.alloc (.cells #[.slice none 0 0, .slice none 0 0] 48)).alloc (.cells #[.slice none 0 0, .slice none 0 0] 48)) w.heap.size (w.heap.size + 1) [] [] [] [] := by
  have b := NewB (w.alloc (.cells #[.slice none 0 0, .slice none 0 0] 48)) (base := w.heap.size) (by simp)
  rw [World.size_alloc] at b
  exact ⟨_, _, (NewB w (Nat.le_refl _)).alloc _, b, fun k h1 h2 => by subst h1; omega, ((Old.refl' w).alloc' _).alloc' _⟩
end

theorem Ints_same (A B : Option Addr) (n : Nat) (vs : List Int) (ca cb : Nat) (w : World) (ha : IntsAt w A vs) (hb : IntsAt w B vs) (hl : n = vs.length) (hn : n ≤ 1000) :
    Calls Try.prog 10 #[.slice A n ca, .slice B n cb] w fun e w' => e = .returned (.bool true) ∧ Old w w' := by
  have := Ints_any A B n n vs vs ca cb w ha hb hl hl hn hn
  rwa [decide_eq_true rfl] at this

/-- those from the least place on -/
def fstL (l : List Int) : List Int := l.filter fun x => decide (-4611686018427387904 ≤ x)
theorem fstL_succ (l : List Int) (k : Nat) (hk : k < l.length) : fstL (l.take (k + 1)) = if -4611686018427387904 ≤ l[k]?.getD 0 then fstL (l.take k) ++ [l[k]?.getD 0] else fstL (l.take k) := by
  unfold fstL
  rw [List.take_succ_eq_append_getElem hk, List.filter_append, List.getElem?_eq_getElem hk]
  simp only [Option.getD_some]
  by_cases h : -4611686018427387904 ≤ l[k] <;> simp [h]
theorem fstL_le (l : List Int) : (fstL l).length ≤ l.length := List.length_filter_le _ _

theorem from_fst {ks : List Int} (hr : ks.Pairwise (· < ·)) (hn : ks.length ≤ 100) : fromL ks (-4611686018427387904) 100 = fstL ks := by
  have e : ks.drop (plc ks (-4611686018427387904)) = fstL ks := by
    clear hn
    induction ks with
    | nil => rfl
    | cons k ks ih =>
      rw [List.pairwise_cons] at hr
      by_cases h : k < -4611686018427387904
      · have h' : ¬ (-4611686018427387904 ≤ k) := by omega
        have := ih hr.2
        unfold plc fstL at this ⊢
        simp only [List.takeWhile_cons, h, decide_true, if_true, List.length_cons, List.drop_succ_cons, List.filter_cons, h', decide_false, Bool.false_eq_true, if_false]
        exact this
      · have h' : -4611686018427387904 ≤ k := by omega
        have hall : fstL ks = ks := by
          unfold fstL
          rw [List.filter_eq_self]
          intro x hx
          have := hr.1 x hx
          simp
          omega
        unfold plc
        simp only [List.takeWhile_cons, h, decide_false, Bool.false_eq_true, if_false, List.length_nil, List.drop_zero]
        unfold fstL at hall ⊢
        simp only [List.filter_cons, h', decide_true, if_true, hall]
  unfold fromL
  rw [e]
  apply List.take_of_length_le
  have := fstL_le ks
  simp
  omega

set_option maxRecDepth 100000 in
set_option maxHeartbeats 1000000 in
theorem firsts_any (A0 : Option Addr) (n c0 : Nat) (l : List Int) (hl : n = l.length) (hn : n ≤ 100000) (w : World) (h0 : IntsAt w A0 l) :
    Calls Try.prog 15 #[.slice A0 n c0] w fun e w' => ∃ A c, e = .returned (.slice A (fstL l).length c) ∧ IntsAt w' A (fstL l) ∧ Old w w' := by
  obtain ⟨i0, hi, hz0, hz1, hz2⟩ := info_parts info_int'
  have HL := hide hl
  clear hl
  go_enter Try.func15, Try.ntmps15
  go_wp2
  go_loopw [3, 4] (fun v iv wr => ∃ k : Nat, k ≤ n ∧ iv = .int .i64 k ∧ Old w wr ∧ wr.ownsRow w.heap.size 3 1 v (fstL (l.take k)).length ((fstL (l.take k)).map (Value.int .i64)))
    (fun _ iv _ => n - (intOf iv).toNat)
  case atStart => exact ⟨0, by omega, rfl, Old.refl' w, World.ownsRow_nil _ _ _ _⟩
  case round =>
    obtain ⟨k, hk, rfl, hB, hown⟩ := hrel
    have hle := fstL_le (l.take k)
    rw [List.length_take] at hle
    obtain ⟨Av, cv, rfl, -, -⟩ := own_form hown
    by_cases hlt : k < n
    · obtain ⟨b0, o0, rfl, hb0, g0⟩ := h0.at_ (k := k) (by have := HL.out; omega)
      have d0 := (hB.cell (p := ⟨b0, o0 + k, none⟩) hb0).trans g0
      have hs := fstL_succ l k (by rw [← HL.out]; exact hlt)
      obtain ⟨x, hx⟩ : ∃ x, l[k]?.getD 0 = x := ⟨_, rfl⟩
      rw [hx] at d0 hs
      have HS := hide hs
      clear hx g0 hs
      by_cases he : -4611686018427387904 ≤ x
      · have hS := HS.out
        rw [if_pos he] at hS
        have HT := hide hS
        clear hS HS
        have he' : decide (-4611686018427387904 ≤ x) = true := by simpa using he
        have HE := hide he
        clear he
        go_wp2_with (at_builtin; refine wpList_app _ rfl (.tmp 16) (.tmp 21) 22 rfl w.heap.size 3 i0 (.int .i64 0) 1 8 Try.underlying22 hi hz0 hz1 hz2 rfl (by decide) _ _ _ rfl (hown.alloc _) (some ⟨wr.heap.size, 0, none⟩) 1 1 [.int .i64 x] rfl rfl (cells_bk (Bk.new wr 3 #[.int .i64 x])) (by simp [Value.oneCell']) (by unfold maxLen; omega) (by omega) (by have := hB.size; simp; omega) _ rfl _ rfl ?_; intro A2 c2 w2 h2)
        go_roundw
        case rel =>
          refine ⟨k + 1, by omega, by go_num, h2.old (hB.alloc' _) (fun j hj => (hown.lt j hj).1), ?_⟩
          rw [HT.out, List.map_append, List.length_append]
          exact h2.own
        case measure => simp [intOf]; omega
      · have hS := HS.out
        rw [if_neg he] at hS
        have HT := hide hS
        clear hS HS
        have he' : decide (-4611686018427387904 ≤ x) = false := by simpa using he
        have HE := hide he
        clear he
        go_wp2
        go_roundw
        case rel =>
          refine ⟨k + 1, by omega, by go_num, hB, ?_⟩
          rw [HT.out]
          exact hown
        case measure => simp [intOf]; omega
    · obtain rfl : k = n := by omega
      have ht : l.take k = l := List.take_of_length_le (by rw [← HL.out]; exact Nat.le_refl _)
      rw [ht] at hown
      simp only [ht]
      go_wp2
      go_ret
      exact ⟨Av, cv, rfl, CellsAt.of_own hown, hB⟩

set_option maxRecDepth 100000 in
set_option maxHeartbeats 4000000 in
theorem Sets_walk (A0 : Option Addr) (n c0 : Nat) (l : List Int) (B0 : Option Addr) (m d0 : Nat) (out : List Int) (hl : n = l.length) (hn : n ≤ 9223372036854775807) (hlo : m = out.length) (hm : m ≤ 9223372036854775807) (w : World) (h0 : IntsAt w A0 l) (h1 : IntsAt w B0 out) :
    Calls Try.prog 3 #[.slice A0 n c0, .slice B0 m d0] w fun e w' => e = .returned (.bool true) ∧ Old w w' := by
  have HL := hide hl
  have HM := hide hlo
  clear hl hlo
  by_cases h60 : 60 < n
  · go_enter Try.func3, Try.ntmps3
    go_wp2_with (first | (go_at_call 7; refine (BNew _).mono ?_; rintro e w' ⟨rfl, rfl⟩) | (go_at_call 8; refine (told6_any _).mono ?_; rintro e w9 ⟨rfl, hb9⟩))
    go_ret
    exact ⟨rfl, (((Old.refl' w).alloc' _).alloc' _).trans' hb9⟩
  · have h60' : decide ((60 : Int) < (n : Int)) = false := by simp; omega
    by_cases hm60 : 60 < m
    · go_enter Try.func3, Try.ntmps3
      go_wp2_with (first | (go_at_call 7; refine (BNew _).mono ?_; rintro e w' ⟨rfl, rfl⟩) | (go_at_call 8; refine (told6_any _).mono ?_; rintro e w9 ⟨rfl, hb9⟩))
      go_ret
      exact ⟨rfl, (((Old.refl' w).alloc' _).alloc' _).trans' hb9⟩
    · have hm60' : decide ((60 : Int) < (m : Int)) = false := by simp; omega
      have htwo := Two_new w
      go_enter Try.func3, Try.ntmps3
      go_wp2_with (go_at_call 7; refine (BNew _).mono ?_; rintro e w' ⟨rfl, rfl⟩)
      go_loopw [7] (fun iv wr => ∃ (k : Nat) (ka ua kb ub : List Int), k ≤ n ∧ iv = .int .i64 k ∧ Two w wr w.heap.size (w.heap.size + 1) ka ua kb ub ∧ (ka.length ≤ k ∧ kb.length ≤ k) ∧ (∀ x, x ∈ ka ↔ x ∈ l.take k) ∧ ∀ x, x ∈ kb ↔ x ∈ l.drop (n - k))
        (fun iv _ => n - (intOf iv).toNat)
      case atStart => exact ⟨0, [], [], [], [], by omega, rfl, htwo, ⟨by simp, by simp⟩, by simp, by simp [HL.out]⟩
      case round =>
        clear htwo
        obtain ⟨k, ka, ua, kb, ub, hk, rfl, ht, ⟨hla, hlb⟩, hma, hmb⟩ := hrel
        have HMA := hide hma
        have HMB := hide hmb
        clear hma hmb
        by_cases hlt : k < n
        · obtain ⟨b0, o0, rfl, hb0, g0⟩ := h0.at_ (k := k) (by have := HL.out; omega)
          obtain ⟨b1, o1, e1, hb1, g1⟩ := h0.at_ (k := n - 1 - k) (by have := HL.out; omega)
          injection e1 with e1
          injection e1 with e1 e2
          subst e1 e2
          have d0 := (ht.o.cell (p := ⟨b0, o0 + k, none⟩) hb0).trans g0
          obtain ⟨x, hx⟩ : ∃ x, l[k]?.getD 0 = x := ⟨_, rfl⟩
          obtain ⟨y, hy⟩ : ∃ x, l[n - 1 - k]?.getD 0 = x := ⟨_, rfl⟩
          rw [hx] at d0
          rw [hy] at g1
          have htk : l.take (k + 1) = l.take k ++ [x] := by
            rw [List.take_succ_eq_append_getElem (by rw [← HL.out]; exact hlt), ← hx, List.getElem?_eq_getElem (by rw [← HL.out]; exact hlt)]
            rfl
          have htd : l.drop (n - (k + 1)) = y :: l.drop (n - k) := by
            rw [List.drop_eq_getElem_cons (by rw [← HL.out]; omega), ← hy, List.getElem?_eq_getElem (by rw [← HL.out]; omega), show n - (k + 1) + 1 = n - k from by omega]
            simp only [show n - (k + 1) = n - 1 - k from by omega]
            rfl
          have HTK := hide htk
          have HTD := hide htd
          have hi : ((n : Int) - 1 - k).toNat = n - 1 - k := by omega
          have hi0 : (0 : Int) ≤ (n : Int) - 1 - k := by omega
          have hi1 : (n : Int) - 1 - k < n := by omega
          clear hx hy htk htd g0
          have hr1 := ht.rise
          have hr2 := ht.symm.rise
          have l1 := len_putK hr1 x
          have l2 := len_putK hr2 y
          go_wp2_with fail
          refine (Two.put x 1 ht (by omega)).mono ?_
          rintro e w2 ⟨⟨r1, f1, rfl⟩, t2⟩
          have d1 := (t2.o.cell (p := ⟨b0, o0 + (n - 1 - k), none⟩) hb0).trans g1
          go_wp2_with fail
          refine (Two.put y 1 t2.symm (by omega)).mono ?_
          rintro e w3 ⟨⟨r2, f2, rfl⟩, t3⟩
          have t3' := t3.symm
          go_wp2_with fail
          go_roundw
          case rel =>
            refine ⟨k + 1, _, _, _, _, by omega, by go_num, t3', ⟨?_, ?_⟩, fun z => ?_, fun z => ?_⟩
            · rw [l1]; split <;> omega
            · rw [l2]; split <;> omega
            · rw [mem_putK, HMA.out z, HTK.out, List.mem_append, List.mem_singleton, or_comm]
            · rw [mem_putK, HMB.out z, HTD.out, List.mem_cons]
          case measure => simp [intOf]; omega
        · obtain rfl : k = n := by omega
          clear hlt hk
          obtain rfl : kb = ka := rise_ext ht.symm.rise ht.rise (fun x => by
            rw [HMB.out, HMA.out, Nat.sub_self, List.drop_zero, List.take_of_length_le (by rw [← HL.out]; exact Nat.le_refl _)])
          clear HMA HMB hlb
          obtain ⟨N, hN⟩ : ∃ N, kb.length = N := ⟨_, rfl⟩
          rw [hN] at hla
          have HN := hide hN
          go_wp2_with fail
          refine (Two.keys N hN ht (by omega)).mono ?_
          rintro e w2 ⟨A2, c2, rfl, i2, f2⟩
          go_wp2_with fail
          refine (Two.keys N hN (ht.old f2).symm (by omega)).mono ?_
          rintro e w3 ⟨A3, c3, rfl, i3, f3⟩
          go_wp2_with fail
          refine (Ints_same A2 A3 N kb c2 c3 w3 (i2.old f3) i3 hN.symm (by omega)).mono ?_
          rintro e w4 ⟨rfl, f4⟩
          have t4 := ((ht.old f2).old f3).old f4
          clear hN ht i2 f2 i3 f3 f4
          go_wp2_with fail
          go_loopw [8] (fun iv wr => ∃ (k : Nat) (K ua ub : List Int), k ≤ m ∧ iv = .int .i64 k ∧ Two w wr w.heap.size (w.heap.size + 1) K ua K ub ∧ K.length ≤ 60 ∧ ∀ j, j < k → out[j]?.getD 0 ∉ K)
            (fun iv _ => m - (intOf iv).toNat)
          case atStart => exact ⟨0, kb, ua, ub, by omega, rfl, t4, by have := HN.out; omega, fun j hj => by omega⟩
          case round =>
            clear t4 HN hla
            obtain ⟨i, K, ua, ub, hi, rfl, ht, hK, hno⟩ := hrel
            have HNO := hide hno
            clear hno
            by_cases hlt : i < m
            · obtain ⟨b0, o0, rfl, hb0, g0⟩ := h1.at_ (k := i) (by have := HM.out; omega)
              have d0 := (ht.o.cell (p := ⟨b0, o0 + i, none⟩) hb0).trans g0
              obtain ⟨x, hx⟩ : ∃ x, out[i]?.getD 0 = x := ⟨_, rfl⟩
              rw [hx] at d0 g0
              have HX := hide hx
              clear hx
              have hri := ht.rise
              obtain ⟨f, hf⟩ : ∃ f, decide (x ∈ K) = f := ⟨_, rfl⟩
              have hno' : ∀ j, j < i + 1 → out[j]?.getD 0 ∉ delR K K x := fun j hj hm => by
                rw [mem_delR hri] at hm
                by_cases e : j = i
                · subst e; exact hm.1 HX.out
                · exact HNO.out j (by omega) hm.2
              have hKl : (delR K K x).length ≤ 60 := by
                unfold delR
                split
                · simp; omega
                · exact hK
              have HNO' := hide hno'
              clear hno'
              cases f
              all_goals
                go_wp2_with fail
                refine (Two.get x _ hf ht (by omega)).mono ?_
                rintro e w2 ⟨rfl, rfl⟩
                go_wp2_with fail
                refine (Two.del x _ hf ht (by omega)).mono ?_
                rintro e w2 ⟨rfl, t2⟩
                have d1 := (t2.o.cell (p := ⟨b0, o0 + i, none⟩) hb0).trans g0
                go_wp2_with fail
                refine (Two.del x _ hf t2.symm (by omega)).mono ?_
                rintro e w3 ⟨rfl, t3⟩
                have t3' := t3.symm
                go_wp2_with fail
                go_roundw
                case rel => exact ⟨i + 1, _, _, _, by omega, by go_num, t3', hKl, HNO'.out⟩
                case measure => simp [intOf]; omega
            · obtain rfl : i = m := by omega
              go_wp2_with fail
              go_loopw [11] (fun iv wr => ∃ (j : Nat), j ≤ i ∧ iv = .int .i64 j ∧ Two w wr w.heap.size (w.heap.size + 1) K ua K ub) (fun iv _ => i - (intOf iv).toNat)
              case atStart => exact ⟨0, by omega, rfl, ht⟩
              case round =>
                clear ht
                obtain ⟨j, hj, rfl, ht⟩ := hrel
                by_cases hlt : j < i
                · obtain ⟨b0, o0, rfl, hb0, g0⟩ := h1.at_ (k := j) (by have := HM.out; omega)
                  have d0 := (ht.o.cell (p := ⟨b0, o0 + j, none⟩) hb0).trans g0
                  obtain ⟨x, hx⟩ : ∃ x, out[j]?.getD 0 = x := ⟨_, rfl⟩
                  have hf : decide (x ∈ K) = false := by rw [← hx]; exact decide_eq_false (HNO.out j hlt)
                  rw [hx] at d0
                  clear hx g0
                  go_wp2_with fail
                  refine (Two.get x _ hf ht (by omega)).mono ?_
                  rintro e w2 ⟨rfl, rfl⟩
                  go_wp2_with fail
                  go_roundw
                  case rel => exact ⟨j + 1, by omega, by go_num, ht⟩
                  case measure => simp [intOf]; omega
                · obtain rfl : j = i := by omega
                  obtain ⟨N, hN⟩ : ∃ N, K.length = N := ⟨_, rfl⟩
                  rw [hN] at hK
                  have hff := from_fst ht.rise (by omega)
                  have hfl := fstL_le K
                  obtain ⟨M, hM⟩ : ∃ M, (fstL K).length = M := ⟨_, rfl⟩
                  rw [hM, hN] at hfl
                  go_wp2_with fail
                  refine (told6_any _).mono ?_
                  rintro e w9 ⟨rfl, f9⟩
                  have t9 := ht.old f9
                  go_wp2_with fail
                  refine (Two.keys N hN t9 (by omega)).mono ?_
                  rintro e w2 ⟨A2, c2, rfl, i2, f2⟩
                  have t2 := t9.old f2
                  go_wp2_with fail
                  refine (Two.keys N hN t2.symm (by omega)).mono ?_
                  rintro e w3 ⟨A3, c3, rfl, i3, f3⟩
                  have t3 := t2.old f3
                  go_wp2_with fail
                  refine (Ints_same A2 A3 N K c2 c3 w3 (i2.old f3) i3 hN.symm (by omega)).mono ?_
                  rintro e w4 ⟨rfl, f4⟩
                  have t4 := t3.old f4
                  clear ht f9 t9 i2 f2 t2 i3 f3 t3 f4
                  go_wp2_with fail
                  refine (Two.from_ _ _ _ M hff hM (by omega) (by omega) t4).mono ?_
                  rintro e w5 ⟨A5, c5, rfl, i5, f5⟩
                  have t5 := t4.old f5
                  go_wp2_with fail
                  refine (Two.keys N hN t5 (by omega)).mono ?_
                  rintro e w6 ⟨A6, c6, rfl, i6, f6⟩
                  have t6 := t5.old f6
                  go_wp2_with fail
                  refine (firsts_any A6 N c6 K hN.symm (by omega) w6 i6).mono ?_
                  rw [hM]
                  rintro e w7 ⟨A7, c7, rfl, i7, f7⟩
                  have t7 := t6.old f7
                  go_wp2_with fail
                  refine (Ints_same A5 A7 M (fstL K) c5 c7 w7 ((i5.old f6).old f7) i7 hM.symm (by omega)).mono ?_
                  rintro e w8 ⟨rfl, f8⟩
                  have t8 := t7.old f8
                  clear t4 f5 t5 i5 i6 f6 t6 i7 f7 t7 f8
                  go_wp2_with fail
                  refine (Two.len N hN t8).mono ?_
                  rintro e w10 ⟨rfl, rfl⟩
                  go_wp2_with fail
                  refine (Two.keys N hN t8 (by omega)).mono ?_
                  rintro e w11 ⟨A11, c11, rfl, i11, f11⟩
                  have o11 := (t8.old f11).o
                  go_wp2_with fail
                  go_ret
                  exact ⟨rfl, o11⟩
end Go.Proofs.Ytidokbgdbakjkaa
