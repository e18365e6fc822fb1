/- casebooklaw5.StorePlays: the walk. -/
import Derived.Deep.CutBlock
import Derived.Test.YtcbnibldlbnkbaaHSame5
import Derived.Test.YtcbnibldlbnkbaaHLSt
namespace Go.Proofs.Ytcbnibldlbnkbaa
open Go.RowKit

theorem histL_len (vs : List Ver) : (histL vs).length ≤ vs.length := Nat.le_of_eq (histL_length vs)
theorem askR_len (vs : List Ver) (k m : Int) : (askR vs k m).vs.length ≤ vs.length := by
  unfold askR
  have := histL_len vs
  split
  · split
    · simp
    · split <;> simp
  · split
    · split
      · simp
      · split <;> simp
    · split
      · split
        · simp
        · exact this
      · simp
theorem ask_len (s : StV) (q : Q) : (s.ask q).vs.length ≤ (s.f q.id).length := by
  unfold StV.ask
  split
  · exact askR_len _ _ _
  · exact Nat.zero_le _
theorem put_vs {s : StV} (h : ∀ c, (s.ss c).rep.vs = []) (q : Q) : ∀ c, ((s.put q).ss c).rep.vs = [] := fun c => by
  unfold StV.put
  split
  · rename_i hm
    unfold StV.may at hm
    simp only [Bool.and_eq_true] at hm
    show (if c = q.client then (⟨q.seq, s.n + 1, s.doRep q⟩ : Sess) else s.ss c).rep.vs = []
    split
    · exact doRep_vs hm.1.2
    · exact h c
  · exact h c
theorem runS_vs (q0 : Int) (qs : List ReqV) : ∀ c, ((runS q0 qs).ss c).rep.vs = [] := by
  unfold runS
  suffices h : ∀ (l : List ReqV) (s : StV), (∀ c, (s.ss c).rep.vs = []) → ∀ c, ((l.foldl (fun s q => s.put q.q) s).ss c).rep.vs = [] from h qs (StV.new q0) (fun c => rfl)
  intro l
  induction l with
  | nil => intro s h; exact h
  | cons q l ih => intro s h; exact ih (s.put q.q) (put_vs h q.q)
theorem Same_eq5 (R : Rep) (n : Nat) (hn : R.vs.length = n) (hn2 : n ≤ 1000) (A B : Option Addr) (ca cb : Nat) (w : World) (ha : IntsAt w A R.vs) (hb : IntsAt w B R.vs) :
    Calls Try.prog 15 #[.agg #[.int .i64 R.code, .int .i64 R.ver, .string R.data, .slice A n ca], .agg #[.int .i64 R.code, .int .i64 R.ver, .string R.data, .slice B n cb]] w fun e w' => e = .returned (.bool true) ∧ Old w w' := by
  have := SameReply_any R R A B n n ca cb w ha hb hn.symm hn.symm hn2 hn2
  rwa [(Rep.same_iff _ _).2 rfl] at this
theorem Both.sputB {w wr : World} {gs gx : Nat} {s t : StV} (h : Both w wr gs gx s t) (cs : Array Value) (ty : TypeId) (q : ReqV) (c0 v0 E : Int) (d0 : ByteArray) (t' : StV) (h1 : (t.rep q.q).code = c0) (h2 : (t.rep q.q).ver = v0) (h3 : (t.rep q.q).data = d0) (h4 : t.err q.q = E) (h5 : t.put q.q = t') (hfew : t.n ≤ 50000) :
    Calls Try.prog 22 #[.pointer (some ⟨gx, 0, none⟩), .agg #[.int .i64 q.client, .int .i64 q.seq, .int .i64 q.kind, .int .i64 q.id, .int .i64 q.mat, .string q.data]] (wr.alloc (.cells cs ty)) fun e w' => (∃ A c, e = .returned (.tuple #[.agg #[.int .i64 c0, .int .i64 v0, .string d0, .slice A 0 c], .int .i64 E])) ∧ Both w w' gs gx s t' ∧ Bk w' wr.heap.size ty cs := by
  obtain ⟨Fa, Fb, a1, b1, hd, ha, hb, ho⟩ := h
  have hal : Old wr (wr.alloc (.cells cs ty)) := (Old.refl' wr).alloc' (.cells cs ty)
  refine (SPut_at gx Fb t q.q c0 v0 E d0 t' h1 h2 h3 h4 h5 hfew _ (b1.old hal)).mono ?_
  rintro e w' ⟨he, ⟨F', b', hn⟩, hf⟩
  refine ⟨he, ⟨Fa, F', (a1.old hal).fr hf (fun k h1 h2 => hd k h1 h2), b', fun k h1 h2 => ?_, ha, fun k hk => ?_, Old.fr_new (ho.trans' hal) hf hb⟩, (Bk.new wr ty cs).fr hf (fun e => by have := b1.1.lt _ e; omega)⟩
  · rcases hn k h2 with h | h
    · exact hd k h1 h
    · have := a1.lt k h1; have := hal.size; omega
  · rcases hn k hk with h | h
    · exact hb k h
    · have := ho.size; have := hal.size; omega
set_option maxRecDepth 100000 in
set_option maxHeartbeats 4000000 in
theorem SPlays_walk (qt : Int) (A0 : Option Addr) (n k0 : Nat) (qs : List ReqV) (hl : n = qs.length) (hn : n ≤ 9223372036854775807) (w : World) (hQ : ReqsAt w A0 qs) :
    Calls Try.prog 7 #[.int .i64 qt, .slice A0 n k0] w fun e w' => e = .returned (.bool true) ∧ Old w w' := by
  obtain ⟨f1, hf1⟩ : ∃ f, few5 qs = f := ⟨_, rfl⟩
  have cF1 := hide (fun (W : World) (h : Old w W) => few5_any A0 n k0 qs f1 hf1 hl hn W (CellsAt.old hQ h))
  have HL := hide hl
  have hn200 := hide (fun (h : f1 = true) => (by rw [hl]; rw [h] at hf1; unfold few5 at hf1; simp at hf1; omega : n ≤ 200))
  clear hl hf1
  by_cases hqt : 1 ≤ qt ∧ qt ≤ 100
  · have HQT := hide hqt
    have q1 : ¬ qt < 1 := by omega
    have q2 : ¬ 100 < qt := by omega
    clear hqt
    cases f1 with
    | true =>
      have hn2 := hn200.out rfl
      have hn2' : (n : Int) ≤ 200 := by omega
      go_enter Try.func7, Try.ntmps7
      go_wp2_with (go_at_call 10; refine (New_st qt HQT.out _).mono ?_; rintro e w1 ⟨rfl, st1, o1⟩)
      refine (cF1.out _ o1).mono ?_
      rintro e w3 ⟨rfl, rfl⟩
      have hp : Both w (w1.alloc (.cells (sdCells qt) 53)) w.heap.size w1.heap.size (runS qt (qs.take 0)) (runS qt (qs.take 0)) := Both.new o1 st1 (Nat.le_refl _) ((Old.refl' w1).alloc' _) (Bk.new w1 53 (sdCells qt)) (Nat.le_refl _)
      unfold sdCells at hp
      obtain ⟨gs, hg⟩ : ∃ g, w.heap.size = g := ⟨_, rfl⟩
      simp only [hg] at hp ⊢
      clear hg st1 o1
      go_wp2_with fail
      obtain ⟨gx, hgx⟩ : ∃ g, w1.heap.size = g := ⟨_, rfl⟩
      simp only [hgx] at hp ⊢
      clear hgx
      go_loopw [8] (fun iv wr => ∃ k : Nat, k ≤ n ∧ iv = .int .i64 k ∧ Both w wr gs gx (runS qt (qs.take k)) (runS qt (qs.take k))) (fun iv _ => n - (intOf iv).toNat)
      case atStart => exact ⟨0, Nat.zero_le _, rfl, hp⟩
      case round =>
        clear hp
        obtain ⟨k, hk, rfl, pr⟩ := hrel
        obtain ⟨hok, hsn, -⟩ := runS_ok qt (qs.take k)
        have hvs := runS_vs qt (qs.take k)
        rw [List.length_take] at hsn
        by_cases hlt : k < n
        · have hkq : k < qs.length := by have := HL.out; omega
          obtain ⟨b, o, rfl, hb, hc⟩ := hQ.at5 (k := k) hkq
          obtain ⟨x, hx⟩ : ∃ x, qs[k]?.getD default = x := ⟨_, rfl⟩
          rw [hx] at hc
          have hxx : qs[k] = x := by rw [List.getElem?_eq_getElem hkq] at hx; simpa using hx
          have htk : runS qt (qs.take (k + 1)) = (runS qt (qs.take k)).put x.q := by rw [List.take_succ_eq_append_getElem hkq, hxx, runS_snoc]
          obtain ⟨hok1, hsn1, -⟩ := runS_ok qt (qs.take (k + 1))
          have hvs1 := runS_vs qt (qs.take (k + 1))
          rw [List.length_take] at hsn1
          rw [htk] at hok1 hsn1 hvs1
          have HTK := hide htk
          obtain ⟨s0, hs0⟩ : ∃ s, runS qt (qs.take k) = s := ⟨_, rfl⟩
          rw [hs0] at pr hsn hok1 hsn1 hvs1
          have HS0 := hide hs0
          obtain ⟨cc0, hc0⟩ : ∃ c, (s0.rep x.q).code = c := ⟨_, rfl⟩
          obtain ⟨v0, hv0⟩ : ∃ c, (s0.rep x.q).ver = c := ⟨_, rfl⟩
          obtain ⟨d0, hd0⟩ : ∃ c, (s0.rep x.q).data = c := ⟨_, rfl⟩
          obtain ⟨E, hE⟩ : ∃ c, s0.err x.q = c := ⟨_, rfl⟩
          obtain ⟨s1, hs1⟩ : ∃ c, s0.put x.q = c := ⟨_, rfl⟩
          rw [hs1] at hok1 hsn1 hvs1
          have HS1 := hide hs1
          have hnw := hide (fun (hw : Writes x.kind = false) => (by rw [← hs1]; unfold StV.put StV.may; rw [show x.q.kind = x.kind from rfl, hw]; simp : s1 = s0))
          have c1 := hide (fun (W : World) (hW : Old wr W) => (pr.old hW).put x cc0 v0 E d0 s1 hc0 hv0 hd0 hE hs1 (by omega))
          have c2 := hide (fun (W : World) (h : Both w W gs gx s1 s0) (cs : Array Value) => h.sputB cs 32 x cc0 v0 E d0 s1 hc0 hv0 hd0 hE hs1 (by omega))
          have cS := hide (fun (A B : Option Addr) (ca cb : Nat) (W : World) => Same_none5 ⟨cc0, v0, d0, []⟩ A B ca cb W)
          have cW := hide (fun (W : World) => Writes_any x.client x.seq x.kind x.id x.mat x.data W)
          obtain ⟨R, hR⟩ : ∃ R, s1.ask x.q = R := ⟨_, rfl⟩
          obtain ⟨nR, hnR⟩ : ∃ nR, R.vs.length = nR := ⟨_, rfl⟩
          obtain ⟨ea, hea⟩ : ∃ e : Int, (if askOk x.q then (0 : Int) else 1) = e := ⟨_, rfl⟩
          have hnR2 := hide (fun (F : Nat → Prop) (W : World) (h : SDAt W gx F s1) => (by have h1 := ask_len s1 x.q; have h2 := h.2.1 x.q.id; rw [hR, hnR] at h1; omega : nR ≤ 1000))
          have hnR3 : nR ≤ 1000 ∨ True := .inr trivial
          have c3 := hide (fun (W : World) (h : Both w W gs gx s1 s1) => h.st.elim fun F hF => by have := Ask_st gs F s1 x.q (by omega) nR (by rw [hR]; exact hnR) W hF; rw [hR, hea] at this; exact this)
          have c5 := hide (fun (W : World) (h : Both w W gs gx s1 s1) => h.sd.elim fun F hF => by have := SAsk_st gx F s1 x.q (by omega) nR (by rw [hR]; exact hnR) W hF; rw [hR, hea] at this; exact this)
          simp only [Q.v, ReqV.q] at c3 c5
          have cQ0 := hide (fun (hn3 : nR ≤ 1000) (A B : Option Addr) (ca cb : Nat) (W : World) (ha : IntsAt W A R.vs) (hb : IntsAt W B R.vs) => Same_eq5 R nR hnR hn3 A B ca cb W ha hb)
          have cE := hide (fun (W : World) (h : Both w W gs gx s1 s1) => h.st.elim fun F hF => h.sd.elim fun G hG => Same5_st gs gx F G s1 (by omega) hok1 hvs1 W hF hG)
          have hX := hide (fun (W : World) (hW : Old w W) => (⟨(hW.cell (p := ⟨b, o + k * 6, none⟩) hb).trans (hc 0 _ (by omega) rfl), (hW.cell (p := ⟨b, o + k * 6 + 1, none⟩) hb).trans (hc 1 _ (by omega) rfl), (hW.cell (p := ⟨b, o + k * 6 + 2, none⟩) hb).trans (hc 2 _ (by omega) rfl), (hW.cell (p := ⟨b, o + k * 6 + 3, none⟩) hb).trans (hc 3 _ (by omega) rfl), (hW.cell (p := ⟨b, o + k * 6 + 4, none⟩) hb).trans (hc 4 _ (by omega) rfl), (hW.cell (p := ⟨b, o + k * 6 + 5, none⟩) hb).trans (hc 5 _ (by omega) rfl)⟩ :
            W.cell? ⟨b, o + k * 6, none⟩ = some (.int .i64 x.client) ∧ W.cell? ⟨b, o + k * 6 + 1, none⟩ = some (.int .i64 x.seq) ∧ W.cell? ⟨b, o + k * 6 + 2, none⟩ = some (.int .i64 x.kind) ∧ W.cell? ⟨b, o + k * 6 + 3, none⟩ = some (.int .i64 x.id) ∧ W.cell? ⟨b, o + k * 6 + 4, none⟩ = some (.int .i64 x.mat) ∧ W.cell? ⟨b, o + k * 6 + 5, none⟩ = some (.string x.data)))
          obtain ⟨r1, hr1⟩ : ∃ r, bits .and .i64 (k : Int) 1 = r := ⟨_, rfl⟩
          obtain ⟨r15, hr15⟩ : ∃ r, bits .and .i64 (k : Int) 15 = r := ⟨_, rfl⟩
          clear hx hxx htk hs0 hs1 hc0 hv0 hd0 hE hc hok hsn hvs hok1 hsn1 hvs1 hR hnR hea hnR3
          go_upto_region 12 with fail
          go_cut [65] from 56 to 64 (fun v w' => (v = .bool true ∨ (v = .bool false ∧ s1 = s0)) ∧ Old wr w')
          case first =>
            obtain ⟨x0, x1, x2, x3, x4, x5⟩ := hX.out _ pr.o
            by_cases hz : r1 = 0
            · subst hz
              go_wp2_with fail
              go_meet
              case rel => exact ⟨.inl rfl, Old.refl' _⟩
            · obtain ⟨wv, hwv⟩ : ∃ v, Writes x.kind = v := ⟨_, rfl⟩
              rw [hwv] at cW
              cases wv with
              | true =>
                clear hwv
                go_wp2_with (go_at_call 25; refine (cW.out _).mono ?_; rintro e wW ⟨rfl, bW⟩)
                go_meet
                case rel => exact ⟨.inl rfl, bW⟩
              | false =>
                have hs := hide (hnw.out hwv)
                have hz2 : (r1 == 0) = false := by simpa using hz
                have HZ := hide hz2
                clear hwv
                go_wp2_with (go_at_call 25; refine (cW.out _).mono ?_; rintro e wW ⟨rfl, bW⟩)
                go_meet
                case rel => exact ⟨.inr ⟨(by first | rfl | exact congrArg Value.bool HZ.out), hs.out⟩, bW⟩
          case rest =>
          obtain ⟨W2, rfl⟩ : ∃ W, W = wc := ⟨_, rfl⟩
          obtain ⟨hv, hO2⟩ := hcut
          have pr := pr.old hO2
          go_upto_if 65 with fail
          go_cut [9, 10, 11, 12] from 66 to 92 (fun _ _ _ _ w' => Both w w' gs gx s1 s1)
          case first =>
            obtain ⟨x0, x1, x2, x3, x4, x5⟩ := hX.out _ pr.o
            rcases hv with rfl | ⟨rfl, hs⟩
            · go_wp2_with fail
              refine (c1.out _ hO2).mono ?_
              rintro e w4 ⟨⟨A4, c4, rfl⟩, pr4⟩
              clear x0 x1 x2 x3 x4 x5 pr
              obtain ⟨x0, x1, x2, x3, x4, x5⟩ := hX.out _ (pr4.o.alloc' (.cells #[.int .i64 cc0, .int .i64 v0, .string d0, .slice A4 0 c4] 32))
              go_wp2_with fail
              refine (c2.out _ pr4 _).mono ?_
              rintro e w5 ⟨⟨A5, c5, rfl⟩, pr5, bk5⟩
              have k5 := bk5.alloc (.cells #[.int .i64 cc0, .int .i64 v0, .string d0, .slice A5 0 c5] 32)
              have k6 := Bk.new w5 32 #[.int .i64 cc0, .int .i64 v0, .string d0, .slice A5 0 c5]
              have pr6 := pr5.old ((Old.refl' w5).alloc' (.cells #[.int .i64 cc0, .int .i64 v0, .string d0, .slice A5 0 c5] 32))
              obtain ⟨b4, hb4⟩ : ∃ b, w4.heap.size = b := ⟨_, rfl⟩
              simp only [hb4] at k5 ⊢
              obtain ⟨⟨y0, y1, y2, y3⟩, -, ly⟩ := bk4 k5
              obtain ⟨⟨z0, z1, z2, z3⟩, -, lz⟩ := bk4 k6
              clear x0 x1 x2 x3 x4 x5 pr4 pr5 bk5 hb4 k5 k6
              go_wp2_with (go_at_call 15; (with_reducible refine (cS.out A4 A5 c4 c5 _).mono ?_); rintro e w6 ⟨rfl, b6⟩)
              go_meet
              case rel => exact pr6.old b6
            · go_wp2_with fail
              go_meet
              case rel => rw [hs] at *; exact pr
          case rest =>
            obtain ⟨W4, rfl⟩ : ∃ W, W = wc := ⟨_, rfl⟩
            have pr := hcut
            have hn3 : nR ≤ 1000 := pr.sd.elim fun F hF => hnR2.out F _ hF
            have cQ := hide (cQ0.out hn3)
            obtain ⟨x0, x1, x2, x3, x4, x5⟩ := hX.out _ pr.o
            clear hcut cQ0 hnR2 hn3 c1 c2 cS cW hr1 hnw hv hO2
            go_wp2_with fail
            refine (c3.out _ pr).mono ?_
            rintro e w4 ⟨A4, c4, rfl, i4, b4⟩
            have pr4 := pr.old b4
            clear x0 x1 x2 x3 x4 x5 pr
            obtain ⟨x0, x1, x2, x3, x4, x5⟩ := hX.out _ (pr4.o.alloc' (.cells #[.int .i64 R.code, .int .i64 R.ver, .string R.data, .slice A4 nR c4] 32))
            have pr5 := pr4.old ((Old.refl' w4).alloc' (.cells #[.int .i64 R.code, .int .i64 R.ver, .string R.data, .slice A4 nR c4] 32))
            have k4 := Bk.new w4 32 #[.int .i64 R.code, .int .i64 R.ver, .string R.data, .slice A4 nR c4]
            go_wp2_with fail
            refine (c5.out _ pr5).mono ?_
            rintro e w6 ⟨A6, c6, rfl, i6, b6⟩
            have k5 := (k4.old b6).alloc (.cells #[.int .i64 R.code, .int .i64 R.ver, .string R.data, .slice A6 nR c6] 32)
            have k6 := Bk.new w6 32 #[.int .i64 R.code, .int .i64 R.ver, .string R.data, .slice A6 nR c6]
            have hi4 : Hid (IntsAt (w6.alloc (.cells #[.int .i64 R.code, .int .i64 R.ver, .string R.data, .slice A6 nR c6] 32)) A4 R.vs) := hide (CellsAt.old i4 (((Old.refl' w4).alloc' (.cells #[.int .i64 R.code, .int .i64 R.ver, .string R.data, .slice A4 nR c4] 32)).trans' (b6.alloc' (.cells #[.int .i64 R.code, .int .i64 R.ver, .string R.data, .slice A6 nR c6] 32))))
            have hi6 : Hid (IntsAt (w6.alloc (.cells #[.int .i64 R.code, .int .i64 R.ver, .string R.data, .slice A6 nR c6] 32)) A6 R.vs) := hide (CellsAt.alloc i6 (.cells #[.int .i64 R.code, .int .i64 R.ver, .string R.data, .slice A6 nR c6] 32))
            have pr7 := (pr5.old b6).old ((Old.refl' w6).alloc' (.cells #[.int .i64 R.code, .int .i64 R.ver, .string R.data, .slice A6 nR c6] 32))
            obtain ⟨bq, hbq⟩ : ∃ b, w4.heap.size = b := ⟨_, rfl⟩
            simp only [hbq] at k5 ⊢
            obtain ⟨⟨y0, y1, y2, y3⟩, -, ly⟩ := bk4 k5
            obtain ⟨⟨z0, z1, z2, z3⟩, -, lz⟩ := bk4 k6
            clear x0 x1 x2 x3 x4 x5 pr4 pr5 k4 k5 k6 hbq i4 i6 b4
            by_cases h15 : r15 = 15
            · subst h15
              go_wp2_with (first
                | (go_at_call 15; (with_reducible refine (cQ.out A4 A6 c4 c6 _ hi4.out hi6.out).mono ?_); rintro e w8 ⟨rfl, b8⟩; have pr8 := pr7.old b8)
                | (go_at_call 28; refine (cE.out _ pr8).mono ?_; rintro e w9 ⟨rfl, b9⟩))
              go_roundw
              case rel => exact ⟨k + 1, by omega, by go_num, by rw [HTK.out, HS0.out, HS1.out]; exact pr8.old b9⟩
              case measure => simp [intOf]; omega
            · go_wp2_with (go_at_call 15; (with_reducible refine (cQ.out A4 A6 c4 c6 _ hi4.out hi6.out).mono ?_); rintro e w8 ⟨rfl, b8⟩)
              go_roundw
              case rel => exact ⟨k + 1, by omega, by go_num, by rw [HTK.out, HS0.out, HS1.out]; exact pr7.old b8⟩
              case measure => simp [intOf]; omega
        · obtain rfl : k = n := by omega
          obtain ⟨s9, hs9⟩ : ∃ s, runS qt (qs.take k) = s := ⟨_, rfl⟩
          rw [hs9] at pr hok hsn hvs
          have cE := hide (fun (W : World) (h : Both w W gs gx s9 s9) => h.st.elim fun F hF => h.sd.elim fun G hG => Same5_st gs gx F G s9 (by omega) hok hvs W hF hG)
          clear hs9 hok hsn hvs
          go_wp2_with (first
            | (go_at_call 12; refine (told5_any _).mono ?_; rintro e w8 ⟨rfl, b8⟩; have pr8 := pr.old b8)
            | (go_at_call 28; refine (cE.out _ pr8).mono ?_; rintro e w9 ⟨rfl, b9⟩))
          go_ret
          exact ⟨rfl, (pr8.old b9).o⟩
    | false =>
      go_enter Try.func7, Try.ntmps7
      go_wp2_with (first
        | (go_at_call 10; refine (New_st qt HQT.out _).mono ?_; rintro e w1 ⟨rfl, st1, o1⟩)
        | (go_at_call 11; (with_reducible refine (cF1.out _ o1).mono ?_); rintro e w3 ⟨rfl, rfl⟩)
        | (go_at_call 12; refine (told5_any _).mono ?_; rintro e w4 ⟨rfl, b4⟩))
      go_ret
      exact ⟨rfl, o1.trans' b4⟩
  · have HQT := hide hqt
    have hc : qt < 1 ∨ (¬ qt < 1 ∧ 100 < qt) := by omega
    clear hqt
    rcases hc with hc | ⟨hc, hc2⟩
    all_goals
      go_enter Try.func7, Try.ntmps7
      go_wp2_with (first
        | (go_at_call 10; refine (New_no qt HQT.out _).mono ?_; rintro e w1 ⟨rfl, rfl⟩)
        | (go_at_call 12; refine (told5_any _).mono ?_; rintro e w4 ⟨rfl, b4⟩))
      go_ret
      exact ⟨rfl, b4⟩
end Go.Proofs.Ytcbnibldlbnkbaa
