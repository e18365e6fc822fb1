/- casebookref22.Check, whatever log and acts; casebooklaw23.few; CheckAsks. -/
import Derived.Test.YtffahoocbjfdaaaHDsC
import Derived.Test.YtffahoocbjfdaaaHCTl
namespace Go.Proofs.Ytffahoocbjfdaaa
open Go.RowKit
set_option maxRecDepth 100000 in
set_option maxHeartbeats 4000000 in
theorem DCheck_bad (A : Option Addr) (n cap : Nat) (l : List ActV) (hl : n = l.length) (hok : Few23 l) (Al : Option Addr) (nl cl : Nat) (log : List ReqV) (hll : nl = log.length) (hnl : nl ≤ 1000) (qt : Int) (rd : Bool) (mb ob : Bool) (hm : mayP l = mb) (ho : okN qt log nl = ob) (hb : (mb && (decide (1 ≤ qt) && (decide (qt ≤ 100) && ob))) = false) (w : World) (hA : ActsAt w A l) (hQ : ReqsAt w Al log) :
    Calls Try.prog 16 #[.slice A n cap, .slice Al nl cl, .int .i64 qt, .bool rd] w fun e w' => e = .returned (.int .i64 1) ∧ Old w w' := by
  have cM := hide (DMay_any A n cap l hl hok mb hm w hA)
  have cF0 := hide (fun (U : World) (h : Old w U) => DFirst_any Al nl cl log hll hnl nl (Nat.le_refl _) qt ob ho U (CellsAt.old hQ h))
  clear hl hok hll hm ho hA hQ
  cases mb with
  | false =>
    clear hb
    go_enter Try.func16, Try.ntmps16
    go_wp2_with fail
    refine cM.out.mono ?_
    rintro e V1 ⟨rfl, v1⟩
    go_wp2_with fail
    go_ret
    exact ⟨rfl, v1⟩
  | true =>
    by_cases h1 : qt < 1
    · clear hb
      go_enter Try.func16, Try.ntmps16
      go_wp2_with fail
      refine cM.out.mono ?_
      rintro e V1 ⟨rfl, v1⟩
      go_wp2_with fail
      go_ret
      exact ⟨rfl, v1⟩
    · by_cases h2 : (100 : Int) < qt
      · clear hb
        go_enter Try.func16, Try.ntmps16
        go_wp2_with fail
        refine cM.out.mono ?_
        rintro e V1 ⟨rfl, v1⟩
        go_wp2_with fail
        go_ret
        exact ⟨rfl, v1⟩
      · have hob : ob = false := by
          cases ob with
          | false => rfl
          | true => simp at hb; omega
        subst hob
        clear hb
        go_enter Try.func16, Try.ntmps16
        go_wp2_with fail
        refine cM.out.mono ?_
        rintro e V1 ⟨rfl, v1⟩
        go_wp2_with fail
        refine (cF0.out V1 v1).mono ?_
        rintro e V2 ⟨PP, rfl, v2, v3, -⟩
        have v3 : PP = none := v3 (by trivial)
        subst v3
        have v12 := v1.trans' v2
        go_wp2_with fail
        go_ret
        exact ⟨rfl, v12⟩
theorem DCheck_any (A : Option Addr) (n cap : Nat) (l : List ActV) (hl : n = l.length) (hok : Few23 l) (Al : Option Addr) (nl cl : Nat) (log : List ReqV) (hll : nl = log.length) (hnl : nl ≤ 1000) (hcl : nl ≤ cl) (qt : Int) (rd : Bool) (E : Int) (hE : checkP l log qt rd = E) (w : World) (hA : ActsAt w A l) (hQ : ReqsAt w Al log) :
    Calls Try.prog 16 #[.slice A n cap, .slice Al nl cl, .int .i64 qt, .bool rd] w fun e w' => e = .returned (.int .i64 E) ∧ Old w w' := by
  obtain ⟨mb, hm⟩ : ∃ b, mayP l = b := ⟨_, rfl⟩
  obtain ⟨ob, ho⟩ : ∃ b, okN qt log nl = b := ⟨_, rfl⟩
  have ho' : okN qt log log.length = ob := by rw [← hll]; exact ho
  unfold checkP at hE
  rw [okLog_okN, hm, ho'] at hE
  by_cases hb : (mb && (decide (1 ≤ qt) && (decide (qt ≤ 100) && ob))) = true
  · simp only [Bool.and_eq_true, decide_eq_true_eq] at hb
    obtain ⟨rfl, h1, h2, rfl⟩ := hb
    rw [decide_eq_true h1, decide_eq_true h2, ← hl] at hE
    exact DCheck_in A n cap l hl hok Al nl cl log hll hnl hcl qt rd ⟨h1, h2⟩ ho hm E hE w hA hQ
  · have hb' : (mb && (decide (1 ≤ qt) && (decide (qt ≤ 100) && ob))) = false := by simpa using hb
    have e : (decide (1 ≤ qt) && decide (qt ≤ 100) && ob && mb) = false := by
      revert hb'; cases mb <;> cases ob <;> cases decide (1 ≤ qt) <;> cases decide (qt ≤ 100) <;> simp
    rw [e] at hE
    exact hE ▸ DCheck_bad A n cap l hl hok Al nl cl log hll hnl qt rd mb ob hm ho hb' w hA hQ
set_option maxRecDepth 100000 in
set_option maxHeartbeats 4000000 in
theorem Few_any (A : Option Addr) (n cap : Nat) (l : List ActV) (hl : n = l.length) (hn : n ≤ 9223372036854775807) (Al : Option Addr) (nl cl : Nat) (log : List ReqV) (hll : nl = log.length) (hnl : nl ≤ 9223372036854775807) (w : World) (hA : ActsAt w A l) (hQ : ReqsAt w Al log) :
    Calls Try.prog 13 #[.slice A n cap, .slice Al nl cl] w fun e w' => ∃ b : Bool, e = .returned (.bool b) ∧ w' = w ∧ (b = true → n ≤ 60 ∧ nl ≤ 60 ∧ ∀ a ∈ l, a.r.vs.length ≤ 60) := by
  have HL := hide hl
  have HLL := hide hll
  have HA := hide hA
  have HQ := hide hQ
  clear hl hll hA hQ
  by_cases h1 : n ≤ 60
  · by_cases h2 : nl ≤ 60
    · have h1' : (n : Int) ≤ 60 := by omega
      have h2' : (nl : Int) ≤ 60 := by omega
      go_enter Try.func13, Try.ntmps13
      go_wp2_with fail
      go_loopw [5] (fun iv wr => ∃ i : Nat, i ≤ n ∧ iv = .int .i64 i ∧ wr = w ∧ ∀ j, j < i → (l[j]?.getD default).r.vs.length ≤ 60) (fun iv _ => n - (intOf iv).toNat)
      case atStart => exact ⟨0, Nat.zero_le _, rfl, rfl, fun j hj => absurd hj (Nat.not_lt_zero _)⟩
      case round =>
        obtain ⟨i, hin, rfl, hwr, hall⟩ := hrel
        obtain rfl := hwr.symm
        have HALL := hide hall
        clear hall
        by_cases hlt : i < n
        · have hkq : i < l.length := by have := HL.out; omega
          obtain ⟨b0, o, rfl, hb0, hc⟩ := HA.out.at_ (k := i) hkq
          obtain ⟨x, hx⟩ : ∃ x, l[i]?.getD default = x := ⟨_, rfl⟩
          rw [hx] at hc
          have hxx : l[i] = x := by rw [List.getElem?_eq_getElem hkq] at hx; simpa using hx
          have HXX := hide hxx
          have a8 : w.cell? ⟨b0, o + i * 14 + 3 + 5, none⟩ = some (.string x.q.data) := hc 8 _ (by omega) rfl
          have a11 : w.cell? ⟨b0, o + i * 14 + 9 + 2, none⟩ = some (.string x.r.data) := hc 11 _ (by omega) rfl
          have a12 : w.cell? ⟨b0, o + i * 14 + 9 + 3, none⟩ = some (.slice x.A x.r.vs.length x.cap) := hc 12 _ (by omega) rfl
          clear hc hx hxx
          have hiI : (i : Int) < n := by omega
          by_cases d1 : (100 : Int) < x.q.data.size
          · go_wp2_with fail
            go_ret
            try first | exact .inl ⟨rfl, rfl⟩ | exact ⟨false, rfl, rfl, fun h => by cases h⟩
          · by_cases d2 : (200 : Int) < x.r.data.size
            · go_wp2_with fail
              go_ret
              try first | exact .inl ⟨rfl, rfl⟩ | exact ⟨false, rfl, rfl, fun h => by cases h⟩
            · by_cases d3 : (60 : Int) < x.r.vs.length
              · go_wp2_with fail
                go_ret
                try first | exact .inl ⟨rfl, rfl⟩ | exact ⟨false, rfl, rfl, fun h => by cases h⟩
              · have D3 := hide (show x.r.vs.length ≤ 60 by omega)
                go_wp2_with fail
                go_roundw
                case rel => exact ⟨i + 1, by omega, by go_num, by trivial, fun j hj => by
                  by_cases e : j < i
                  · exact HALL.out j e
                  · obtain rfl : j = i := by omega
                    rw [List.getElem?_eq_getElem hkq, HXX.out]; exact D3.out⟩
                case measure => simp [intOf]; omega
        · have HF := hide (show ∀ a ∈ l, a.r.vs.length ≤ 60 from fun a ha => by
            obtain ⟨j, hj, rfl⟩ := List.getElem_of_mem ha
            have := HALL.out j (by have := HL.out; omega)
            rwa [List.getElem?_eq_getElem hj] at this)
          obtain rfl : n = i := by omega
          clear hlt hin
          go_wp2_with fail
          go_loopw [6] (fun iv wr' => ∃ i : Nat, i ≤ nl ∧ iv = .int .i64 i ∧ wr' = w) (fun iv _ => nl - (intOf iv).toNat)
          case atStart => exact ⟨0, Nat.zero_le _, rfl, rfl⟩
          case round =>
            obtain ⟨i2, hin2, rfl, hwr2⟩ := hrel
            obtain rfl := hwr2.symm
            by_cases hlt2 : i2 < nl
            · have hkq : i2 < log.length := by have := HLL.out; omega
              obtain ⟨b0, o, rfl, hb0, hc⟩ := HQ.out.at5 (k := i2) hkq
              have a5 := hc 5 _ (by omega) rfl
              obtain ⟨dd, hdd⟩ : ∃ z, (log[i2]?.getD default).data = z := ⟨_, rfl⟩
              rw [hdd] at a5
              clear hc hdd
              by_cases d1 : (100 : Int) < dd.size
              · go_wp2_with fail
                go_ret
                try first | exact .inl ⟨rfl, rfl⟩ | exact ⟨false, rfl, rfl, fun h => by cases h⟩
              · go_wp2_with fail
                go_roundw
                case rel => exact ⟨i2 + 1, by omega, by go_num, by trivial⟩
                case measure => simp [intOf]; omega
            · go_wp2_with fail
              go_ret
              first | exact .inr ⟨rfl, rfl, h1, h2, HF.out⟩ | exact .inr ⟨rfl, rfl, HF.out⟩ | exact .inr ⟨rfl, HF.out⟩ | (refine .inr ?_; refine ⟨rfl, ?_⟩; simp [h1, h2]; exact HF.out) | exact .inr ⟨rfl, h1, h2, HF.out⟩ | exact ⟨true, rfl, rfl, fun _ => ⟨h1, h2, HF.out⟩⟩
    · have h2' : (60 : Int) < nl := by omega
      have h1' : (n : Int) ≤ 60 := by omega
      go_enter Try.func13, Try.ntmps13
      go_wp2_with fail
      go_ret
      try first | exact .inl ⟨rfl, rfl⟩ | exact ⟨false, rfl, rfl, fun h => by cases h⟩
  · have h1' : (60 : Int) < n := by omega
    go_enter Try.func13, Try.ntmps13
    go_wp2_with fail
    go_ret
    try first | exact .inl ⟨rfl, rfl⟩ | exact ⟨false, rfl, rfl, fun h => by cases h⟩
set_option maxRecDepth 100000 in
set_option maxHeartbeats 4000000 in
theorem Asks_walk (A : Option Addr) (n cap : Nat) (l : List ActV) (hl : n = l.length) (hn : n ≤ 9223372036854775807) (Al : Option Addr) (nl cl : Nat) (log : List ReqV) (hll : nl = log.length) (hnl : nl ≤ 9223372036854775807) (hcl : nl ≤ cl) (qt : Int) (rd : Bool) (w : World) (hA : ActsAt w A l) (hQ : ReqsAt w Al log) :
    Calls Try.prog 4 #[.slice A n cap, .slice Al nl cl, .int .i64 qt, .bool rd] w fun e w' => e = .returned (.bool true) ∧ Old w w' := by
  have cFew := hide (Few_any A n cap l hl hn Al nl cl log hll hnl w hA hQ)
  have HL := hide hl
  have HLL := hide hll
  have HA := hide hA
  have HQ := hide hQ
  clear hl hll hA hQ hn hnl
  go_enter Try.func4, Try.ntmps4
  go_wp2_with fail
  refine cFew.out.mono ?_
  rintro e w0 ⟨b, rfl, rfl, hb⟩
  cases b with
  | false =>
    go_wp2_with fail
    refine (told23_any _).mono ?_
    rintro e w4 ⟨rfl, b4⟩
    go_wp2_with fail
    go_ret
    exact ⟨rfl, b4⟩
  | true =>
    obtain ⟨h1, h2, h3⟩ := hb rfl
    have hFew : Few23 l := ⟨by have := HL.out; omega, fun a ha => Nat.le_trans (h3 a ha) (by omega)⟩
    obtain ⟨E1, hE1⟩ : ∃ z, checkP l log qt rd = z := ⟨_, rfl⟩
    obtain ⟨E2, hE2⟩ : ∃ z, checkP l log qt false = z := ⟨_, rfl⟩
    have hpl : (plOut l).length ≤ 1000 := by
      unfold plOut
      split
      · rw [plOutN_length]; have := HL.out; omega
      · exact Nat.zero_le _
    have c1 := hide (fun (U : World) (h : Old w0 U) => Places_any A n cap l HL.out hFew U (HA.out.old h))
    have c2 := hide (fun (U : World) (h : Old w0 U) => DPlaces_any A n cap l HL.out hFew U (HA.out.old h))
    have c3 := hide (fun (U : World) (A1 A2 : Option Addr) (k1 k2 : Nat) (ha : IntsAt U A1 (plOut l)) (hb : IntsAt U A2 (plOut l)) => (by have := Ints_any A1 A2 (plOut l).length (plOut l).length (plOut l) (plOut l) k1 k2 U ha hb rfl rfl hpl hpl; rw [decide_eq_true rfl] at this; exact this :
      Calls Try.prog 14 #[.slice A1 (plOut l).length k1, .slice A2 (plOut l).length k2] U fun e w' => e = .returned (.bool true) ∧ Old U w'))
    have c4 := hide (fun (U : World) (h : Old w0 U) => Check_any A n cap l HL.out hFew Al nl cl log HLL.out (by omega) hcl qt rd E1 hE1 U (HA.out.old h) (CellsAt.old HQ.out h))
    have c5 := hide (fun (U : World) (h : Old w0 U) => DCheck_any A n cap l HL.out hFew Al nl cl log HLL.out (by omega) hcl qt rd E1 hE1 U (HA.out.old h) (CellsAt.old HQ.out h))
    have c6 := hide (fun (U : World) (h : Old w0 U) => CWrites_any A n cap l HL.out hFew Al nl cl log HLL.out (by omega) hcl qt E2 hE2 U (HA.out.old h) (CellsAt.old HQ.out h))
    have c7 := hide (fun (U : World) (h : Old w0 U) => DCheck_any A n cap l HL.out hFew Al nl cl log HLL.out (by omega) hcl qt false E2 hE2 U (HA.out.old h) (CellsAt.old HQ.out h))
    obtain ⟨np, hnp⟩ : ∃ z, (plOut l).length = z := ⟨_, rfl⟩
    rw [hnp] at c1 c2 c3
    clear hE1 hE2 hpl hFew hb cFew h3 hnp
    go_wp2_with fail
    refine (told23_any _).mono ?_
    rintro e u1 ⟨rfl, o1⟩
    go_wp2_with fail
    with_reducible refine (c1.out u1 o1).mono ?_
    rintro e u2 ⟨A1, k1, rfl, hI1, -, b2⟩
    have o2 := o1.trans' b2
    go_wp2_with fail
    with_reducible refine (c2.out u2 o2).mono ?_
    rintro e u3 ⟨A2, k2, rfl, hI2, -, b3⟩
    have o3 := o2.trans' b3
    have hI1' : IntsAt u3 A1 (plOut l) := CellsAt.old hI1 b3
    go_wp2_with fail
    with_reducible refine (c3.out u3 A1 A2 k1 k2 hI1' hI2).mono ?_
    rintro e u4 ⟨rfl, b4⟩
    have o4 := o3.trans' b4
    go_wp2_with fail
    with_reducible refine (c4.out u4 o4).mono ?_
    rintro e u5 ⟨rfl, b5⟩
    have o5 := o4.trans' b5
    go_wp2_with fail
    with_reducible refine (c5.out u5 o5).mono ?_
    rintro e u6 ⟨rfl, b6⟩
    have o6 := o5.trans' b6
    go_wp2_with fail
    with_reducible refine (c6.out u6 o6).mono ?_
    rintro e u7 ⟨rfl, b7⟩
    have o7 := o6.trans' b7
    go_wp2_with fail
    with_reducible refine (c7.out u7 o7).mono ?_
    rintro e u8 ⟨rfl, b8⟩
    have o8 := o7.trans' b8
    go_wp2_with fail
    go_ret
    exact ⟨by simp, o8⟩
end Go.Proofs.Ytffahoocbjfdaaa
