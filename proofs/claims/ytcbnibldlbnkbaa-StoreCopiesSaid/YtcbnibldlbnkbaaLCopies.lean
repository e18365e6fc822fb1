/- casebooklaw5.StoreCopies: the walk. -/
import Derived.Test.YtcbnibldlbnkbaaLSame
namespace Go.Proofs.Ytcbnibldlbnkbaa
open Go.RowKit

theorem umod5 (x K : Int) (h : 0 < K) (hK : K ≤ 4611686018427387904) : ∃ y, wrap64 ((IntKind.u64.wrap x).tmod K) = y ∧ 0 ≤ y ∧ y < K := by
  refine ⟨_, rfl, ?_⟩
  have h0 : 0 ≤ IntKind.u64.wrap x := by rw [IntKind.wrap_u64]; omega
  rw [Int.tmod_eq_emod_of_nonneg h0]
  have h1 := Int.emod_nonneg (IntKind.u64.wrap x) (show K ≠ 0 by omega)
  have h2 := Int.emod_lt_of_pos (IntKind.u64.wrap x) h
  rw [IntWalk.wrap64_in _ ⟨by omega, by omega⟩]
  exact ⟨h1, h2⟩

/-- a row that may be written -/
def RowW (w : World) (base : Nat) (A : Option Addr) (m : Nat) (P : Nat → Value → Prop) : Prop :=
  m ≠ 0 → ∃ b, A = some ⟨b, 0, none⟩ ∧ base ≤ b ∧ b < w.heap.size ∧ ∀ j, j < m → ∃ u, w.cell? ⟨b, j, none⟩ = some u ∧ w.frozen? ⟨b, j, none⟩ = false ∧ P j u
theorem RowW.of_own {w : World} {base n c size : Nat} {e : TypeId} {A : Option Addr} {xs : List Value} {P : Nat → Value → Prop} (h : w.ownsRow base e size (.slice A n c) n xs) (hP : ∀ (j : Nat) u, xs[j]? = some u → P j u) : RowW w base A (n * size) P := by
  intro hm
  have hl := h.1
  rcases h with ⟨_, ⟨_, h0⟩ | ⟨g, cap, cur, hv, hb, hg, _, _, _, ht⟩⟩
  · subst h0; simp at hm
  · have hA : A = some ⟨g, 0, none⟩ := by injection hv
    subst hA
    have hlt : g < w.heap.size := (Array.getElem?_eq_some_iff.1 hg).1
    refine ⟨g, rfl, hb, hlt, fun j hj => ?_⟩
    have hx : j < xs.length := by omega
    obtain ⟨u, hxe⟩ : ∃ u, xs[j]? = some u := ⟨_, List.getElem?_eq_getElem hx⟩
    have hc : cur[j]? = some u := by
      rw [← ht, List.getElem?_take_of_lt hj] at hxe
      simpa using hxe
    refine ⟨u, ?_, ?_, hP j _ hxe⟩
    · rw [cell_of_row w g j cur e (0, 0) hg]; exact hc
    · exact Bk.frozen (show Bk w g e cur from hg) j
theorem RowW.set_ {w : World} {base m b j : Nat} {A : Option Addr} {P : Nat → Value → Prop} (h : RowW w base A m P) (hA : A = some ⟨b, 0, none⟩) {u : Value} (hu : P j u) : RowW (w.setCell ⟨b, j, none⟩ u) base A m P := by
  intro hm
  obtain ⟨b', e, hb, hlt, hc⟩ := h hm
  subst hA
  injection e with e
  injection e with e
  subst e
  refine ⟨b, rfl, hb, by simpa [World.setCell] using hlt, fun i hi => ?_⟩
  obtain ⟨v, h1, h2, h3⟩ := hc i hi
  by_cases hij : i = j
  · subst hij
    exact ⟨u, by simp [go_sem, h1], by simpa [go_sem] using h2, hu⟩
  · exact ⟨v, (World.cell?_setCell_other _ _ _ _ (by intro e; injection e; omega)).trans h1, by simpa [go_sem] using h2, h3⟩
theorem RowW.drew {w : World} {base m : Nat} {A : Option Addr} {P : Nat → Value → Prop} (h : RowW w base A m P) : RowW w.drew base A m P := h

set_option maxRecDepth 100000 in
set_option maxHeartbeats 4000000 in
theorem Copies_walk (A0 : Option Addr) (n k0 : Nat) (qs : List ReqV) (id : Int) (hl : n = qs.length) (hn : n ≤ 9223372036854775807) (w : World) (hQ : ReqsAt w A0 qs) :
    Calls Try.prog 6 #[.slice A0 n k0, .int .i64 id] w fun e w' => e = .returned (.bool true) ∧ Old w w' := by
  obtain ⟨f1, hf1⟩ : ∃ f, few5 qs = f := ⟨_, rfl⟩
  have cF1 := hide (fun (W : World) (h : Old w W) => few5_any A0 n k0 qs f1 hf1 hl hn W (CellsAt.old hQ h))
  have HL := hide hl
  clear hl hf1
  by_cases hgo : f1 = true ∧ n ≤ 60
  · obtain ⟨rfl, hn60⟩ := hgo
    have hn60' : (n : Int) ≤ 60 := by omega
    obtain ⟨y, hy, hy0, hy1⟩ := umod5 id 32 (by omega) (by omega)
    have o0 : Old w w := Old.refl' w
    go_enter Try.func6, Try.ntmps6
    go_wp2_with (go_at_call 11; (with_reducible refine (cF1.out _ o0).mono ?_); rintro e w3 ⟨rfl, rfl⟩)
    refine (New_st 8 (by omega) _).mono ?_
    rintro e w1 ⟨rfl, st1, o1⟩
    have hp : One w w1 w.heap.size (runS 8 (qs.take 0)) := ⟨_, st1, fun k hk => by omega, o1⟩
    obtain ⟨g, hg⟩ : ∃ g, w.heap.size = g := ⟨_, rfl⟩
    simp only [hg] at hp ⊢
    clear hg st1 o1
    have o12 := hp.o
    go_wp2_with fail
    have HY := hide hy
    clear hy
    go_loopw [7] (fun iv wr => ∃ k : Nat, k ≤ n ∧ iv = .int .i64 k ∧ One w wr g (runS 8 (qs.take k))) (fun iv _ => n - (intOf iv).toNat)
    case atStart => exact ⟨0, Nat.zero_le _, rfl, hp⟩
    case round =>
      clear hp
      obtain ⟨k, hk, rfl, pr⟩ := hrel
      by_cases hlt : k < n
      · have hkq : k < qs.length := by have := HL.out; omega
        obtain ⟨b, o, rfl, hb, hc⟩ := hQ.at5 (k := k) hkq
        obtain ⟨x, hx⟩ : ∃ x, qs[k]?.getD default = x := ⟨_, rfl⟩
        rw [hx] at hc
        have hxx : qs[k] = x := by rw [List.getElem?_eq_getElem hkq] at hx; simpa using hx
        have htk : runS 8 (qs.take (k + 1)) = (runS 8 (qs.take k)).put x.q := by rw [List.take_succ_eq_append_getElem hkq, hxx, runS_snoc]
        have HTK := hide htk
        have hsn := (runS_ok 8 (qs.take k)).2.1
        rw [List.length_take] at hsn
        obtain ⟨s0, hs0⟩ : ∃ s, runS 8 (qs.take k) = s := ⟨_, rfl⟩
        rw [hs0] at pr hsn
        have HS0 := hide hs0
        obtain ⟨c0, hc0⟩ : ∃ c, (s0.rep x.q).code = c := ⟨_, rfl⟩
        obtain ⟨v0, hv0⟩ : ∃ c, (s0.rep x.q).ver = c := ⟨_, rfl⟩
        obtain ⟨d0, hd0⟩ : ∃ c, (s0.rep x.q).data = c := ⟨_, rfl⟩
        obtain ⟨E, hE⟩ : ∃ c, s0.err x.q = c := ⟨_, rfl⟩
        obtain ⟨s1, hs1⟩ : ∃ c, s0.put x.q = c := ⟨_, rfl⟩
        have HS1 := hide hs1
        have c1 := hide (pr.put x c0 v0 E d0 s1 hc0 hv0 hd0 hE hs1 (by omega))
        have hW := pr.o
        have x0 := (hW.cell (p := ⟨b, o + k * 6, none⟩) hb).trans (hc 0 _ (by omega) rfl)
        have x1 := (hW.cell (p := ⟨b, o + k * 6 + 1, none⟩) hb).trans (hc 1 _ (by omega) rfl)
        have x2 := (hW.cell (p := ⟨b, o + k * 6 + 2, none⟩) hb).trans (hc 2 _ (by omega) rfl)
        have x3 := (hW.cell (p := ⟨b, o + k * 6 + 3, none⟩) hb).trans (hc 3 _ (by omega) rfl)
        have x4 := (hW.cell (p := ⟨b, o + k * 6 + 4, none⟩) hb).trans (hc 4 _ (by omega) rfl)
        have x5 := (hW.cell (p := ⟨b, o + k * 6 + 5, none⟩) hb).trans (hc 5 _ (by omega) rfl)
        clear hx hxx htk hs0 hs1 hc0 hv0 hd0 hE hc hW
        go_wp2_with fail
        refine c1.out.mono ?_
        rintro e w4 ⟨⟨A4, c4, rfl⟩, pr4⟩
        have hfin := hide pr4
        clear x0 x1 x2 x3 x4 x5 pr4 pr
        go_wp2_with fail
        go_roundw
        case rel => exact ⟨k + 1, by omega, by go_num, by rw [HTK.out, HS0.out, HS1.out]; exact hfin.out⟩
        case measure => simp [intOf]; omega
      · obtain ⟨hok, hsn, -⟩ := runS_ok 8 (qs.take k)
        rw [List.length_take] at hsn
        obtain ⟨s9, hs9⟩ : ∃ s, runS 8 (qs.take k) = s := ⟨_, rfl⟩
        rw [hs9] at pr hok hsn
        obtain ⟨F, sa, hF, hO⟩ := pr
        obtain ⟨bs, hbs⟩ : ∃ bs, s9.bytes = bs := ⟨_, rfl⟩
        obtain ⟨m, hm⟩ : ∃ m, bs.length = m := ⟨_, rfl⟩
        obtain ⟨nv, hnv⟩ : ∃ m, (s9.f y).length = m := ⟨_, rfl⟩
        obtain ⟨nk, hnk⟩ : ∃ m, (ksOf s9.f).length = m := ⟨_, rfl⟩
        have hnv' : nv ≤ 60 := by have := sa.few y; omega
        have hnk' : nk ≤ 32 := by have := ksOf_length s9.f; omega
        obtain ⟨W9, rfl⟩ : ∃ W, W = wr := ⟨_, rfl⟩
        have cB := hide (fun (W : World) (h : Old W9 W) => by have := Bytes_st g F s9 (by omega) hok W (sa.old h); rw [hbs, hm] at this; exact this)
        have cV := hide (fun (W : World) (h : Old W9 W) => Versions_st g y F s9 nv hnv (by omega) W (sa.old h))
        have cI := hide (fun (W : World) (h : Old W9 W) => Ids_st g F s9 nk hnk W (sa.old h))
        have HO := hide hO
        have hmb : m ≤ 2500000 := by rw [← hm, ← hbs]; exact bytes_len hok (by omega) sa.few
        have hvl : (verCells (s9.f y)).length = nv * 2 := by rw [verCells_length, hnv]
        have hvp : ∀ (j : Nat) u, (verCells (s9.f y))[j]? = some u → j % 2 = 0 → ∃ x, u = .bool x := fun j u hj h2 => by
          have hjl := (List.getElem?_eq_some_iff.1 hj).1
          obtain ⟨h1, -⟩ := verCells_get (s9.f y) (j / 2) (by omega)
          rw [show j / 2 * 2 = j from by omega, hj] at h1
          exact ⟨_, by injection h1⟩
        have HVP := hide hvp
        clear hs9 hbs sa hF hO hok hnv hnk hvp hvl
        have r9 : Old W9 W9 := Old.refl' W9
        go_wp2_with fail
        refine (cB.out _ r9).mono ?_
        rintro e w2 ⟨A2, c2, rfl, ho2, b2⟩
        have hs2 := run_str m c2 hm (CellsAt.of_own ho2)
        clear ho2 r9
        go_wp2_with fail
        simp only [HY.out]
        refine (cV.out _ b2).mono ?_
        rintro e w3 ⟨A3, c3, rfl, ho3, b3⟩
        have rv := RowW.of_own (P := fun j u => j % 2 = 0 → ∃ x, u = .bool x) ho3 HVP.out
        have b23 := b2.trans' b3
        have hb2 := b2.size
        have HS2 := hide hs2
        clear ho3 b3 b2 hs2 HVP
        go_wp2_with fail
        go_loopw [11] (fun iv wr => ∃ k : Nat, k ≤ nv ∧ iv = .int .i64 k ∧ Old W9 wr ∧ RowW wr w2.heap.size A3 (nv * 2) (fun j u => j % 2 = 0 → ∃ x, u = .bool x)) (fun iv _ => nv - (intOf iv).toNat)
        case atStart => exact ⟨0, Nat.zero_le _, rfl, b23, rv⟩
        case round =>
          clear b23 rv
          obtain ⟨j, hj, rfl, b4, rv⟩ := hrel
          by_cases hjl : j < nv
          · obtain ⟨b, rfl, hb, hbl, hc⟩ := rv (by omega)
            obtain ⟨u0, h0, z0, p0⟩ := hc (j * 2) (by omega)
            obtain ⟨u1, h1, z1, -⟩ := hc (j * 2 + 1) (by omega)
            obtain ⟨x, rfl⟩ := p0 (by omega)
            have HR := hide rv
            have HB4 := hide b4
            clear hc rv p0 b4
            go_wp2_with fail
            go_roundw
            case rel => exact ⟨j + 1, by omega, by go_num, Old.setCell' (Old.setCell' HB4.out (by show W9.heap.size ≤ b; omega) _) (by show W9.heap.size ≤ b; omega) _, (HR.out.set_ rfl (fun h => by omega)).set_ rfl (fun _ => ⟨_, rfl⟩)⟩
            case measure => simp [intOf]; omega
          · clear rv
            obtain ⟨Wa, rfl⟩ : ∃ W : World, W = wr := ⟨_, rfl⟩
            go_wp2_with fail
            refine (cI.out _ b4).mono ?_
            rintro e w5 ⟨A5, c5, rfl, ho5, b5⟩
            have rv := RowW.of_own (P := fun _ _ => True) ho5 (fun _ _ _ => trivial)
            have b45 := b4.trans' b5
            have hb4 := b4.size
            clear ho5 b5 b4
            go_wp2_with fail
            go_loopw [13] (fun iv wr' => ∃ k : Nat, k ≤ nk ∧ iv = .int .i64 k ∧ Old W9 wr' ∧ RowW wr' Wa.heap.size A5 (nk * 1) (fun _ _ => True)) (fun iv _ => nk - (intOf iv).toNat)
            case atStart => exact ⟨0, Nat.zero_le _, rfl, b45, rv⟩
            case round =>
              clear b45 rv
              obtain ⟨j, hj, rfl, b6, rv⟩ := hrel
              by_cases hjl : j < nk
              · obtain ⟨b, rfl, hb, hbl, hc⟩ := rv (by omega)
                obtain ⟨u0, h0, z0, -⟩ := hc j (by omega)
                have HR := hide rv
                have HB6 := hide b6
                clear hc rv b6
                go_wp2_with fail
                go_roundw
                case rel => exact ⟨j + 1, by omega, by go_num, Old.setCell' HB6.out (by show W9.heap.size ≤ b; omega) _, HR.out.set_ rfl trivial⟩
                case measure => simp [intOf]; omega
              · clear rv
                obtain ⟨Wb, rfl⟩ : ∃ W : World, W = wr := ⟨_, rfl⟩
                go_wp2_with fail
                refine (cB.out _ b6).mono ?_
                rintro e w7 ⟨A7, c7, rfl, ho7, b7⟩
                have rv := RowW.of_own (P := fun _ _ => True) ho7 (fun _ _ _ => trivial)
                have b67 := b6.trans' b7
                have hb6 := b6.size
                clear ho7 b7 b6
                go_wp2_with fail
                go_loopw [15] (fun iv wr' => ∃ k : Nat, k ≤ m ∧ iv = .int .i64 k ∧ Old W9 wr' ∧ RowW wr' Wb.heap.size A7 (m * 1) (fun _ _ => True)) (fun iv _ => m - (intOf iv).toNat)
                case atStart => exact ⟨0, Nat.zero_le _, rfl, b67, rv⟩
                case round =>
                  clear b67 rv
                  obtain ⟨j, hj, rfl, b8, rv⟩ := hrel
                  by_cases hjl : j < m
                  · obtain ⟨b, rfl, hb, hbl, hc⟩ := rv (by omega)
                    obtain ⟨u0, h0, z0, -⟩ := hc j (by omega)
                    have HR := hide rv
                    have HB8 := hide b8
                    clear hc rv b8
                    go_wp2_with fail
                    go_roundw
                    case rel => exact ⟨j + 1, by omega, by go_num, Old.setCell' HB8.out (by show W9.heap.size ≤ b; omega) _, HR.out.set_ rfl trivial⟩
                    case measure => simp [intOf]; omega
                  · clear rv
                    obtain ⟨Wc, rfl⟩ : ∃ W : World, W = wr := ⟨_, rfl⟩
                    go_wp2_with (go_at_call 12; refine (told5_any _).mono ?_; rintro e w9 ⟨rfl, b9⟩)
                    have b89 := b8.trans' b9
                    refine (cB.out _ b89).mono ?_
                    rintro e w10 ⟨A10, c10, rfl, ho10, b10⟩
                    have hs10 := run_str m c10 hm (CellsAt.of_own ho10)
                    have hfin := hide (HO.out.trans' (b89.trans' b10))
                    clear ho10 b89 b8 b9 b10
                    go_wp2_with fail
                    go_ret
                    exact ⟨rfl, hfin.out⟩
  · have hcase : f1 = false ∨ (f1 = true ∧ ¬ n ≤ 60) := by
      cases f1 <;> simp_all <;> omega
    have o0 : Old w w := Old.refl' w
    rcases hcase with rfl | ⟨rfl, h2⟩
    all_goals
      go_enter Try.func6, Try.ntmps6
      go_wp2_with (first
        | (go_at_call 11; (with_reducible refine (cF1.out _ o0).mono ?_); rintro e w3 ⟨rfl, rfl⟩)
        | (go_at_call 12; refine (told5_any _).mono ?_; rintro e w4 ⟨rfl, b4⟩))
      go_ret
      exact ⟨rfl, b4⟩
end Go.Proofs.Ytcbnibldlbnkbaa
