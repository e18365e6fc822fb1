/- casebooklaw5.StoreApart: the walk. -/
import Derived.Test.YtcbnibldlbnkbaaLOnce
import Derived.Test.YtcbnibldlbnkbaaRDoA
namespace Go.Proofs.Ytcbnibldlbnkbaa
open Go.RowKit

theorem umodA (x K : Int) (h : 0 < K) (hK : K ≤ 4611686018427387904) : ∃ y, wrap64 ((IntKind.u64.wrap x).tmod K) = y ∧ 0 ≤ y ∧ y < K := by
  refine ⟨_, rfl, ?_⟩
  have h0 : 0 ≤ IntKind.u64.wrap x := by rw [IntKind.wrap_u64]; omega
  rw [Int.tmod_eq_emod_of_nonneg h0]
  have h1 := Int.emod_nonneg (IntKind.u64.wrap x) (show K ≠ 0 by omega)
  have h2 := Int.emod_lt_of_pos (IntKind.u64.wrap x) h
  rw [IntWalk.wrap64_in _ ⟨by omega, by omega⟩]
  exact ⟨h1, h2⟩

/-- a store of the law's own, and versions beside it -/
def OneV (w wr : World) (g : Nat) (s : StV) (A : Option Addr) (vs : List Ver) : Prop :=
  ∃ F, StAt wr g F s ∧ Vers wr A vs ∧ (vs ≠ [] → Off F A) ∧ (∀ k, F k → w.heap.size ≤ k) ∧ Old w wr
section
variable {w wr w' : World} {g : Nat} {s : StV} {A : Option Addr} {vs : List Ver}
theorem ver_ne (h : verCells vs ≠ []) : vs ≠ [] := fun e => h (by rw [e]; rfl)
theorem OneV.o (h : OneV w wr g s A vs) : Old w wr := by obtain ⟨F, h1, h2, h3, h4, h5⟩ := h; exact h5
theorem OneV.v (h : OneV w wr g s A vs) : Vers wr A vs := by obtain ⟨F, h1, h2, h3, h4, h5⟩ := h; exact h2
theorem OneV.old (h : OneV w wr g s A vs) (hf : Old wr w') : OneV w w' g s A vs := by
  obtain ⟨F, h1, h2, h3, h4, h5⟩ := h
  exact ⟨F, h1.old hf, CellsAt.old h2 hf, h3, h4, h5.trans' hf⟩
theorem OneV.put (h : OneV w wr g s A vs) (q : ReqV) (c0 v0 E : Int) (d0 : ByteArray) (s' : StV) (h1 : (s.rep q.q).code = c0) (h2 : (s.rep q.q).ver = v0) (h3 : (s.rep q.q).data = d0) (h4 : s.err q.q = E) (h5 : s.put q.q = s') (hfew : s.n ≤ 50000) :
    Calls Try.prog 13 #[.pointer (some ⟨g, 0, none⟩), .agg #[.int .i64 q.client, .int .i64 q.seq, .int .i64 q.kind, .int .i64 q.id, .int .i64 q.mat, .string q.data]] wr fun e w' => (∃ A c, e = .returned (.tuple #[.agg #[.int .i64 c0, .int .i64 v0, .string d0, .slice A 0 c], .int .i64 E])) ∧ OneV w w' g s' A vs := by
  obtain ⟨F, a1, av, aff, ha, ho⟩ := h
  refine (Put_at g F s q.q c0 v0 E d0 s' h1 h2 h3 h4 h5 hfew wr a1).mono ?_
  rintro e w' ⟨he, ⟨F', a', hn⟩, hf⟩
  refine ⟨he, F', a', CellsAt.fr av hf (fun hne => aff (ver_ne hne)), fun hne a hA hF' => ?_, fun k hk => ?_, Old.fr_new ho hf ha⟩
  · rcases hn _ hF' with h | h
    · exact aff hne a hA h
    · obtain ⟨b, o, e, hb, -⟩ := av (fun e => by have := verCells_length vs; rw [e] at this; have hl : vs.length ≠ 0 := fun e => hne (List.eq_nil_of_length_eq_zero e); simp at this; omega)
      rw [hA] at e
      injection e with e
      subst e
      exact absurd h (by simp; omega)
  · rcases hn k hk with h | h
    · exact ha k h
    · exact Nat.le_trans ho.size h
theorem OneV.doL (h : OneV w wr g s A vs) {v : Value} {us : List Ver} (hv : VersIs wr A vs w' v us) (hf : Old wr w') : ∃ B c, v = .slice B us.length c ∧ OneV w w' g s B us := by
  obtain ⟨F, a1, av, aff, ha, ho⟩ := h
  obtain ⟨B, c, rfl, hB, hor⟩ := hv
  refine ⟨B, c, rfl, F, a1.old hf, hB, fun hne a hA hF => ?_, ha, ho.trans' hf⟩
  rcases hor with ⟨rfl, rfl⟩ | hnew
  · exact aff hne a hA hF
  · have := hnew a hA
    have := a1.lt _ hF
    omega
end
theorem may_mat {s : StV} {q : Q} (h : s.err q = 0) : 0 ≤ q.mat ∧ q.mat ≤ 100 := by
  have h1 := (err0 h).2.2.2
  have : q.may = true := by rw [Bool.and_eq_true] at h1; exact h1.1
  simp only [Q.may, mayQ, Bool.and_eq_true, decide_eq_true_eq] at this
  omega

set_option maxRecDepth 100000 in
set_option maxHeartbeats 4000000 in
theorem Apart_walk (A0 : Option Addr) (n k0 : Nat) (qs : List ReqV) (id : Int) (hl : n = qs.length) (hn : n ≤ 9223372036854775807) (w : World) (hQ : ReqsAt w A0 qs) :
    Calls Try.prog 3 #[.slice A0 n k0, .int .i64 id] w fun e w' => e = .returned (.bool true) ∧ Old w w' := by
  obtain ⟨f1, hf1⟩ : ∃ f, few5 qs = f := ⟨_, rfl⟩
  have cF1 := hide (fun (W : World) (h : Old w W) => few5_any A0 n k0 qs f1 hf1 hl hn W (CellsAt.old hQ h))
  have HL := hide hl
  clear hl hf1
  by_cases hgo : f1 = true ∧ n ≤ 100
  · obtain ⟨rfl, hn100⟩ := hgo
    have hn100' : (n : Int) ≤ 100 := by omega
    obtain ⟨y, hy, hy0, hy1⟩ := umodA id 32 (by omega) (by omega)
    go_enter Try.func3, Try.ntmps3
    go_wp2_with fail
    refine (New_st 9 (by omega) _).mono ?_
    rintro e w1 ⟨rfl, st1, o1⟩
    have hp : OneV w w1 w.heap.size (runS 9 (qs.take 0)) none ((runS 9 (qs.take 0)).f y) := ⟨_, st1, CellsAt.nil _ _, fun h => absurd rfl h, fun k hk => by omega, o1⟩
    obtain ⟨g, hg⟩ : ∃ g, w.heap.size = g := ⟨_, rfl⟩
    simp only [hg] at hp ⊢
    clear hg st1 o1
    have o12 := hp.o
    go_wp2_with (go_at_call 11; (with_reducible refine (cF1.out _ o12).mono ?_); rintro e w3 ⟨rfl, rfl⟩)
    simp only [hy]
    clear o12 hy
    go_loopw [8, 9] (fun ov iv wr => ∃ k : Nat, k ≤ n ∧ ∃ A c, ov = .slice A ((runS 9 (qs.take k)).f y).length c ∧ iv = .int .i64 k ∧ OneV w wr g (runS 9 (qs.take k)) A ((runS 9 (qs.take k)).f y)) (fun _ iv _ => n - (intOf iv).toNat)
    case atStart => exact ⟨0, Nat.zero_le _, none, 0, rfl, rfl, hp⟩
    case round =>
      clear hp
      obtain ⟨k, hk, A, cap, rfl, rfl, pr⟩ := hrel
      obtain ⟨hok, hsn, hqu⟩ := runS_ok 9 (qs.take k)
      rw [List.length_take] at hsn
      by_cases hlt : k < n
      · have hkq : k < qs.length := by have := HL.out; omega
        obtain ⟨b, o, rfl, hb, hc⟩ := hQ.at5 (k := k) hkq
        obtain ⟨x, hx⟩ : ∃ x, qs[k]?.getD default = x := ⟨_, rfl⟩
        rw [hx] at hc
        have hxx : qs[k] = x := by rw [List.getElem?_eq_getElem hkq] at hx; simpa using hx
        have htk : runS 9 (qs.take (k + 1)) = (runS 9 (qs.take k)).put x.q := by rw [List.take_succ_eq_append_getElem hkq, hxx, runS_snoc]
        have HTK := hide htk
        obtain ⟨s0, hs0⟩ : ∃ s, runS 9 (qs.take k) = s := ⟨_, rfl⟩
        rw [hs0] at pr hsn hqu
        simp only [hs0]
        have HS0 := hide hs0
        obtain ⟨vs, hvs⟩ : ∃ vs, s0.f y = vs := ⟨_, rfl⟩
        obtain ⟨nv, hnv⟩ : ∃ nv, vs.length = nv := ⟨_, rfl⟩
        have hnv' : nv ≤ 100 := by obtain ⟨F, h1, -⟩ := pr; have := h1.few y; rw [hvs] at this; omega
        rw [hvs] at pr
        simp only [hvs, hnv]
        obtain ⟨c0, hc0⟩ : ∃ c, (s0.rep x.q).code = c := ⟨_, rfl⟩
        obtain ⟨v0, hv0⟩ : ∃ c, (s0.rep x.q).ver = c := ⟨_, rfl⟩
        obtain ⟨d0, hd0⟩ : ∃ c, (s0.rep x.q).data = c := ⟨_, rfl⟩
        obtain ⟨E, hE⟩ : ∃ c, s0.err x.q = c := ⟨_, rfl⟩
        obtain ⟨s1, hs1⟩ : ∃ c, s0.put x.q = c := ⟨_, rfl⟩
        have cell : ∀ W, Old w W → W.cell? ⟨b, o + k * 6, none⟩ = some (.int .i64 x.client) ∧ W.cell? ⟨b, o + k * 6 + 1, none⟩ = some (.int .i64 x.seq) ∧ W.cell? ⟨b, o + k * 6 + 2, none⟩ = some (.int .i64 x.kind) ∧ W.cell? ⟨b, o + k * 6 + 3, none⟩ = some (.int .i64 x.id) ∧ W.cell? ⟨b, o + k * 6 + 4, none⟩ = some (.int .i64 x.mat) ∧ W.cell? ⟨b, o + k * 6 + 5, none⟩ = some (.string x.data) := fun W hW =>
          ⟨(hW.cell (p := ⟨b, o + k * 6, none⟩) hb).trans (hc 0 _ (by omega) rfl), (hW.cell (p := ⟨b, o + k * 6 + 1, none⟩) hb).trans (hc 1 _ (by omega) rfl), (hW.cell (p := ⟨b, o + k * 6 + 2, none⟩) hb).trans (hc 2 _ (by omega) rfl), (hW.cell (p := ⟨b, o + k * 6 + 3, none⟩) hb).trans (hc 3 _ (by omega) rfl), (hW.cell (p := ⟨b, o + k * 6 + 4, none⟩) hb).trans (hc 4 _ (by omega) rfl), (hW.cell (p := ⟨b, o + k * 6 + 5, none⟩) hb).trans (hc 5 _ (by omega) rfl)⟩
        have HC := hide cell
        have HS1 := hide hs1
        have HE := hide hE
        have HVS := hide hvs
        have HNV := hide hnv
        have HQU := hide hqu
        have c1 := hide (pr.put x c0 v0 E d0 s1 hc0 hv0 hd0 hE hs1 (by omega))
        obtain ⟨x0, x1, x2, x3, x4, x5⟩ := cell _ pr.o
        have HR := hide (show (s0.rep x.q).code = c0 ∧ (s0.rep x.q).ver = v0 ∧ (s0.rep x.q).data = d0 from ⟨hc0, hv0, hd0⟩)
        clear hx hxx htk hs0 hs1 hc0 hv0 hd0 hE cell hc hvs hnv hqu hsn pr hok
        go_wp2_with fail
        refine c1.out.mono ?_
        rintro e w4 ⟨⟨A4, c4, rfl⟩, pr4⟩
        have hk4 := Bk.new w4 32 #[.int .i64 c0, .int .i64 v0, .string d0, .slice A4 0 c4]
        have pr5 := pr4.old ((Old.refl' w4).alloc' (.cells #[.int .i64 c0, .int .i64 v0, .string d0, .slice A4 0 c4] 32))
        clear x0 x1 x2 x3 x4 x5 pr4
        obtain ⟨x0, x1, x2, x3, x4, x5⟩ := HC.out _ pr5.o
        by_cases hE0 : E = 0
        · subst hE0
          by_cases hid : y = x.id
          · subst hid
            have hyes := put_yes HE.out
            have hmat := may_mat HE.out
            have hwr := (err0 HE.out).2.2.2
            have hf1 : s1.f x.id = Ytcbnibldlbnkbaa.doL vs x.kind x.mat 9 x.data := by
              rw [← HS1.out, hyes, ← HQU.out, ← HVS.out]
              exact if_pos rfl
            have hrr : s0.rep x.q = Ytcbnibldlbnkbaa.doRep vs x.kind x.mat 9 x.data := by
              unfold StV.rep
              rw [if_pos (err0 HE.out).1, ← HQU.out, ← HVS.out]
              rfl
            obtain ⟨R, hR⟩ : ∃ R, Ytcbnibldlbnkbaa.doRep vs x.kind x.mat 9 x.data = R := ⟨_, rfl⟩
            obtain ⟨us, hus⟩ : ∃ R, Ytcbnibldlbnkbaa.doL vs x.kind x.mat 9 x.data = R := ⟨_, rfl⟩
            have hRv : R.vs = [] := by rw [← hR]; exact doRep_vs (by rw [Bool.and_eq_true] at hwr; exact hwr.2)
            obtain ⟨rfl, rfl, rfl⟩ : c0 = R.code ∧ v0 = R.ver ∧ d0 = R.data := by
              obtain ⟨h1, h2, h3⟩ := HR.out
              rw [hrr, hR] at h1 h2 h3
              exact ⟨h1.symm, h2.symm, h3.symm⟩
            have cD := hide (fun (W : World) (h : Vers W A vs) => by
              have := RDo_any A nv cap vs (by omega) HNV.out.symm x.client x.seq x.kind x.id x.mat 9 x.data W h (by have := hmat.1; show (-9223372036854775808 : Int) ≤ x.q.mat; omega) (by have := hmat.2; show x.q.mat ≤ 9223372036854775807; omega)
              rw [hR, hus] at this
              exact this)
            have HF1 := hide (hf1.trans hus)
            have HRV := hide hRv
            clear hyes hmat hwr hf1 hrr hR hus hRv
            go_wp2_with fail
            refine (cD.out _ pr5.v).mono ?_
            rintro e w6 ⟨v, u, rfl, hv, ⟨A6, c6, rfl, hi6, -⟩, b6⟩
            obtain ⟨B, cB, rfl, pr6⟩ := pr5.doL hv b6
            rw [HRV.out] at hi6 ⊢
            have hk6 := hk4.old b6
            clear x0 x1 x2 x3 x4 x5 hv
            have hk7 := hk6.alloc (.cells #[.int .i64 R.code, .int .i64 R.ver, .string R.data, .slice A6 0 c6] 32)
            have hk8 := Bk.new w6 32 #[.int .i64 R.code, .int .i64 R.ver, .string R.data, .slice A6 0 c6]
            have pr7 := pr6.old ((Old.refl' w6).alloc' (.cells #[.int .i64 R.code, .int .i64 R.ver, .string R.data, .slice A6 0 c6] 32))
            clear hk4 hk6 pr5 pr6 b6
            obtain ⟨⟨y0, y1, y2, y3⟩, -, ly⟩ := bk4 hk7
            obtain ⟨⟨z0, z1, z2, z3⟩, -, lz⟩ := bk4 hk8
            clear hk7 hk8
            have HP7 := hide pr7
            clear pr7
            go_wp2_with (go_at_call 15; (with_reducible refine (Same_none R A4 A6 c4 c6 _).mono ?_); rintro e w8 ⟨rfl, b8⟩)
            have hfin := hide (HP7.out.old b8)
            clear b8
            go_roundw
            case rel =>
              refine ⟨k + 1, by omega, B, cB, ?_, by go_num, ?_⟩
              · rw [HTK.out, HS0.out, HS1.out, HF1.out]
              · rw [HTK.out, HS0.out, HS1.out, HF1.out]; exact hfin.out
            case measure => simp [intOf]; omega
          · have hf1 : s1.f y = vs := by
              rw [← HS1.out, put_yes HE.out, ← HVS.out]
              exact if_neg hid
            have hidb : ¬ x.id = y := fun e => hid e.symm
            have HF1 := hide hf1
            have hfin := hide pr5
            clear hf1 pr5
            go_wp2_with fail
            go_roundw
            case rel =>
              refine ⟨k + 1, by omega, A, cap, ?_, by go_num, ?_⟩
              · rw [HTK.out, HS0.out, HS1.out, HF1.out, HNV.out]
              · rw [HTK.out, HS0.out, HS1.out, HF1.out]; exact hfin.out
            case measure => simp [intOf]; omega
        · have hs10 : s1 = s0 := by rw [← HS1.out]; exact err_no (by rw [HE.out]; exact hE0)
          have HS10 := hide hs10
          have hfin := hide pr5
          clear hs10 pr5
          go_wp2_with fail
          go_roundw
          case rel =>
            refine ⟨k + 1, by omega, A, cap, ?_, by go_num, ?_⟩
            · rw [HTK.out, HS0.out, HS1.out, HS10.out, HVS.out, HNV.out]
            · rw [HTK.out, HS0.out, HS1.out, HS10.out, HVS.out]; have := hfin.out; rw [HS10.out] at this; exact this
          case measure => simp [intOf]; omega
      · obtain ⟨s9, hs9⟩ : ∃ s, runS 9 (qs.take k) = s := ⟨_, rfl⟩
        rw [hs9] at pr hok hsn
        simp only [hs9]
        obtain ⟨vs, hvs⟩ : ∃ vs, s9.f y = vs := ⟨_, rfl⟩
        obtain ⟨nv, hnv⟩ : ∃ nv, vs.length = nv := ⟨_, rfl⟩
        rw [hvs] at pr
        simp only [hvs, hnv]
        obtain ⟨F, sa, hV, -, hF, hO⟩ := pr
        have hnv' : nv ≤ 100 := by have := sa.few y; rw [hvs] at this; omega
        obtain ⟨W9, rfl⟩ : ∃ W, W = wr := ⟨_, rfl⟩
        have cV := hide (fun (W : World) (h : Old W9 W) => by have := Versions_st g y F s9 nv (by rw [hvs]; exact hnv) (by omega) W (sa.old h); rw [hvs] at this; exact this)
        have cS := hide (fun (W : World) (B : Option Addr) (cB : Nat) (h : Old W9 W) (hB : Vers W B vs) => by have := Versions_any B A nv nv vs vs cB cap W hB (CellsAt.old hV h) hnv.symm hnv.symm (by omega) (by omega); rw [decide_eq_true rfl] at this; exact this)
        have HO := hide hO
        clear hs9 sa hV hF hO hok hvs hnv
        go_wp2_with (first
          | (go_at_call 12; refine (told5_any _).mono ?_; rintro e w4 ⟨rfl, b4⟩)
          | (go_at_call 17; (with_reducible refine (cV.out _ b4).mono ?_); rintro e w5 ⟨B, cB, rfl, hB, b5⟩; have b45 := b4.trans' b5; have hvB : Vers w5 B vs := CellsAt.of_own hB; clear hB)
          | (go_at_call 16; (with_reducible refine (cS.out _ B cB b45 hvB).mono ?_); rintro e w6 ⟨rfl, b6⟩))
        go_ret
        exact ⟨rfl, HO.out.trans' (b45.trans' b6)⟩
  · have hcase : f1 = false ∨ (f1 = true ∧ ¬ n ≤ 100) := by
      cases f1 <;> simp_all <;> omega
    rcases hcase with rfl | ⟨rfl, h2⟩
    all_goals
      go_enter Try.func3, Try.ntmps3
      go_wp2_with fail
      refine (New_st 9 (by omega) _).mono ?_
      rintro e w1 ⟨rfl, st1, o12⟩
      clear st1
      go_wp2_with (first
        | (go_at_call 11; (with_reducible refine (cF1.out _ o12).mono ?_); rintro e w3 ⟨rfl, rfl⟩)
        | (go_at_call 12; refine (told5_any _).mono ?_; rintro e w4 ⟨rfl, b4⟩))
      go_ret
      exact ⟨rfl, o12.trans' b4⟩
end Go.Proofs.Ytcbnibldlbnkbaa
