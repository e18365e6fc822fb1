/- casebooklaw19.DirtyHolds: the walk. -/
import Derived.Test.YtmhnlpilbbfgnaaHDyL
import Derived.Test.YtmhnlpilbbfgnaaHLnU
namespace Go.Proofs.Ytmhnlpilbbfgnaa
open Go.RowKit

theorem umodH (x : Int) (n : Nat) (hn : n ≤ 1000) : ∃ y : Nat, wrap64 ((IntKind.u64.wrap x).tmod (((n : Nat) : Int) + 1)) = (y : Int) ∧ y ≤ n := by
  have h0 : 0 ≤ IntKind.u64.wrap x := by rw [IntKind.wrap_u64]; omega
  rw [Int.tmod_eq_emod_of_nonneg h0]
  have h1 := Int.emod_nonneg (IntKind.u64.wrap x) (show ((n : Nat) : Int) + 1 ≠ 0 by omega)
  have h2 := Int.emod_lt_of_pos (IntKind.u64.wrap x) (show 0 < ((n : Nat) : Int) + 1 by omega)
  rw [IntWalk.wrap64_in _ ⟨by omega, by omega⟩]
  exact ⟨(IntKind.u64.wrap x % (((n : Nat) : Int) + 1)).toNat, by omega, by omega⟩
theorem umod32 (x : Int) : ∃ y : Nat, wrap64 ((IntKind.u64.wrap x).tmod 32) = (y : Int) ∧ y < 32 := by
  have h0 : 0 ≤ IntKind.u64.wrap x := by rw [IntKind.wrap_u64]; omega
  rw [Int.tmod_eq_emod_of_nonneg h0]
  rw [IntWalk.wrap64_in _ ⟨by omega, by omega⟩]
  exact ⟨(IntKind.u64.wrap x % 32).toNat, by omega, by omega⟩
theorem clean_yes {l : LnV} {j : Nat} (hj : j < 32) (h : lastAt l.qs j ≤ l.k) : l.clean j = true := by
  unfold LnV.clean
  rw [decide_eq_true (by omega : (0 : Int) ≤ j), decide_eq_true (by omega : (j : Int) ≤ 31), decide_eq_true h]
  rfl
theorem clean_not {l : LnV} {j : Nat} (hj : j < 32) (h : ¬ lastAt l.qs j ≤ l.k) : l.clean j = false := by
  unfold LnV.clean
  rw [decide_eq_false h, Bool.and_false]
theorem ask_hist (j : Nat) (hj : j < 32) : askOk (⟨0, 1, 6, j, 0, ByteArray.empty⟩ : ReqV).q = true := by
  have h : ∀ i : Fin 32, askOk (⟨0, 1, 6, (i.val : Int), 0, ByteArray.empty⟩ : ReqV).q = true := by decide +kernel
  exact h ⟨j, hj⟩
theorem askR_lenH (vs : List Ver) (k m : Int) : (askR vs k m).vs.length ≤ vs.length := by
  unfold askR
  have := Nat.le_of_eq (histL_length vs)
  split
  · split
    · simp
    · split <;> simp
  · split
    · split
      · simp
      · split <;> simp
    · split
      · split
        · simp
        · exact this
      · simp
theorem ask_lenH (s : StV) (q : Q) : (s.ask q).vs.length ≤ (s.f q.id).length := by
  unfold StV.ask
  split
  · exact askR_lenH _ _ _
  · exact Nat.zero_le _
theorem doL_oneH (vs : List Ver) (k m quota : Int) (d : ByteArray) : (doL vs k m quota d).length ≤ vs.length + 1 := by
  unfold doL doR
  split <;> (repeat' split) <;> simp
theorem put_fewH (s : StV) (q : Q) (h : ∀ k, (s.f k).length ≤ s.n) : ∀ k, ((s.put q).f k).length ≤ (s.put q).n := by
  intro k
  unfold StV.put
  split
  · show (if k = q.id then s.doL q else s.f k).length ≤ s.n + 1
    split
    · have := doL_oneH (s.f q.id) q.kind q.mat s.quota q.data
      have := h q.id
      unfold StV.doL
      omega
    · have := h k; omega
  · exact h k
theorem few_len (q0 : Int) (qs : List ReqV) (k : Int) : ((runS q0 qs).f k).length ≤ (runS q0 qs).n := by
  unfold runS
  suffices h : ∀ (l : List ReqV) (s : StV), (∀ k, (s.f k).length ≤ s.n) → ∀ k, ((l.foldl (fun s q => s.put q.q) s).f k).length ≤ (l.foldl (fun s q => s.put q.q) s).n from h qs (StV.new q0) (fun k => by simp [StV.new]) k
  intro l
  induction l with
  | nil => intro s h; exact h
  | cons q l ih => intro s h; exact ih (s.put q.q) (put_fewH s q.q h)
theorem lastAt_ge {qs : List ReqV} {t : Nat} {q : ReqV} (h : qs[t]? = some q) : t + 1 ≤ lastAt qs q.id := by
  suffices hh : ∀ r : List ReqV, r.reverse[t]? = some q → t + 1 ≤ lastAtR r q.id from hh qs.reverse (by rw [List.reverse_reverse]; exact h)
  intro r
  induction r with
  | nil => intro e; simp at e
  | cons x r ih =>
    intro e
    rw [List.reverse_cons] at e
    have hlt : t < (r.reverse ++ [x]).length := (List.getElem?_eq_some_iff.1 e).1
    simp only [List.length_append, List.length_reverse, List.length_cons, List.length_nil] at hlt
    unfold lastAtR
    split
    · omega
    · rename_i hne
      by_cases ht : t < r.length
      · exact ih (by rwa [List.getElem?_append_left (by rw [List.length_reverse]; exact ht)] at e)
      · exfalso
        have : t = r.reverse.length := by rw [List.length_reverse]; omega
        subst this
        rw [List.getElem?_append_right (Nat.le_refl _)] at e
        simp at e
        exact hne (by rw [e])
theorem put_f (s : StV) (q : Q) (i : Int) (h : q.id ≠ i) : (s.put q).f i = s.f i := by
  unfold StV.put
  split
  · show (if i = q.id then s.doL q else s.f i) = s.f i
    rw [if_neg (fun e => h e.symm)]
  · rfl
/-- what a resource is, does not change behind its last place -/
theorem f_keep (q0 : Int) (qs : List ReqV) (i : Int) (y : Nat) (h : lastAt qs i ≤ y) : ∀ z, (runS q0 (qs.take (y + z))).f i = (runS q0 (qs.take y)).f i := by
  intro z
  induction z with
  | zero => rfl
  | succ z ih =>
    by_cases hl : y + z < qs.length
    · rw [← Nat.add_assoc, List.take_succ_eq_append_getElem hl, runS_snoc, put_f _ _ _ ?_, ih]
      intro e
      have := lastAt_ge (List.getElem?_eq_getElem hl)
      rw [show qs[y + z].id = i from e] at this
      omega
    · rw [List.take_of_length_le (by omega), ← ih, List.take_of_length_le (by omega)]
theorem Same_eqH (R : Rep) (n : Nat) (hn : R.vs.length = n) (hn2 : n ≤ 1000) (A B : Option Addr) (ca cb : Nat) (w : World) (ha : IntsAt w A R.vs) (hb : IntsAt w B R.vs) :
    Calls Try.prog 29 #[.agg #[.int .i64 R.code, .int .i64 R.ver, .string R.data, .slice A n ca], .agg #[.int .i64 R.code, .int .i64 R.ver, .string R.data, .slice B n cb]] w fun e w' => e = .returned (.bool true) ∧ Old w w' := by
  have := SameReply_any R R A B n n ca cb w ha hb hn.symm hn.symm hn2 hn2
  rwa [(Rep.same_iff _ _).2 rfl] at this
set_option maxRecDepth 100000 in
set_option maxHeartbeats 4000000 in
theorem DHolds_walk (A0 : Option Addr) (n k0 : Nat) (qs : List ReqV) (cm id more : Int) (hl : n = qs.length) (hn : n ≤ 9223372036854775807) (w : World) (hQ : ReqsAt w A0 qs) :
    Calls Try.prog 9 #[.slice A0 n k0, .int .i64 cm, .int .i64 id, .int .i64 more] w fun e w' => e = .returned (.bool true) ∧ Old w w' := by
  have HL := hide hl
  clear hl
  have cNw := hide (LOne.new (D := []) 6 (by omega) (Old.refl' w) (fun d hd => by simp at hd))
  by_cases hgo : n ≤ 40
  · have hn60' : (n : Int) ≤ 40 := by omega
    go_enter Try.func9, Try.ntmps9
    go_wp2_with fail
    refine cNw.out.mono ?_
    rintro e w1 ⟨g, rfl, hp, -⟩
    have hp : LOne w w1 g (runL 6 (qs.take 0)) [] := hp
    go_wp2_with fail
    go_loopw [11] (fun iv wr => ∃ k : Nat, k ≤ n ∧ iv = .int .i64 k ∧ LOne w wr g (runL 6 (qs.take k)) []) (fun iv _ => n - (intOf iv).toNat)
    case atStart => exact ⟨0, Nat.zero_le _, rfl, hp⟩
    case round =>
      clear hp
      obtain ⟨k, hk, rfl, pr⟩ := hrel
      by_cases hlt : k < n
      · have hkq : k < qs.length := by have := HL.out; omega
        obtain ⟨b, o, rfl, hb, hc⟩ := hQ.at5 (k := k) hkq
        obtain ⟨x, hx⟩ : ∃ x, qs[k]?.getD default = x := ⟨_, rfl⟩
        rw [hx] at hc
        have hxx : qs[k] = x := by rw [List.getElem?_eq_getElem hkq] at hx; simpa using hx
        have htk : runL 6 (qs.take (k + 1)) = (runL 6 (qs.take k)).put x := by rw [List.take_succ_eq_append_getElem hkq, hxx, runL_snoc]
        have HTK := hide htk
        obtain ⟨-, -, -, hsn⟩ := runL_ok 6 (qs.take k)
        rw [List.length_take] at hsn
        obtain ⟨l0, hl0⟩ : ∃ s, runL 6 (qs.take k) = s := ⟨_, rfl⟩
        rw [hl0] at pr hsn htk
        have hW := pr.o
        have x0 : wr.cell? ⟨b, o + k * 6, none⟩ = some (.int .i64 x.client) := (hW.cell (p := ⟨b, o + k * 6, none⟩) hb).trans (hc 0 _ (by omega) rfl)
        have x1 := (hW.cell (p := ⟨b, o + k * 6 + 1, none⟩) hb).trans (hc 1 _ (by omega) rfl)
        have x2 := (hW.cell (p := ⟨b, o + k * 6 + 2, none⟩) hb).trans (hc 2 _ (by omega) rfl)
        have x3 := (hW.cell (p := ⟨b, o + k * 6 + 3, none⟩) hb).trans (hc 3 _ (by omega) rfl)
        have x4 := (hW.cell (p := ⟨b, o + k * 6 + 4, none⟩) hb).trans (hc 4 _ (by omega) rfl)
        have x5 := (hW.cell (p := ⟨b, o + k * 6 + 5, none⟩) hb).trans (hc 5 _ (by omega) rfl)
        clear hc hW hx hxx
        by_cases hs : x.data.size ≤ 100
        · obtain ⟨N0, hN0⟩ : ∃ N, l0.qs.length = N := ⟨_, rfl⟩
          obtain ⟨l1, hl1⟩ : ∃ l, l0.put x = l := ⟨_, rfl⟩
          have HS1 := hide (show (runL 6 (qs.take k)).put x = l1 by rw [hl0, hl1])
          obtain ⟨AT, hAT⟩ : ∃ a : Int, (l0.at_ x : Int) = a := ⟨_, rfl⟩
          obtain ⟨E, hE⟩ : ∃ a : Int, l0.err x = a := ⟨_, rfl⟩
          have cP := hide (pr.put N0 hN0 (by omega) x AT E l1 hAT hE hl1)
          clear htk hl0 hAT hE hl1 hN0
          go_wp2_with fail
          refine cP.out.mono ?_
          rintro e w4 ⟨rfl, pr4⟩
          have hfin := hide pr4
          clear x0 x1 x2 x3 x4 x5 pr4 pr
          go_wp2_with fail
          go_roundw
          case rel => exact ⟨k + 1, by omega, by go_num, by rw [HTK.out, HS1.out]; exact hfin.out⟩
          case measure => simp [intOf]; omega
        · clear htk hl0
          go_wp2_with (go_at_call 34; refine (told19_any _).mono ?_; rintro e w9 ⟨rfl, b9⟩)
          go_ret
          exact ⟨rfl, (pr.old b9).o⟩
      · obtain rfl : k = n := by omega
        obtain ⟨hok, hq6, hk0, hsn⟩ := runL_ok 6 (qs.take k)
        rw [List.length_take] at hsn
        obtain ⟨l9, hl9⟩ : ∃ s, runL 6 (qs.take k) = s := ⟨_, rfl⟩
        rw [hl9] at pr hok hsn hq6 hk0
        clear hl9
        obtain ⟨N, hN⟩ : ∃ N, l9.qs.length = N := ⟨_, rfl⟩
        have hN40 : (N : Int) ≤ 40 := by omega
        obtain ⟨y, hy, hyN⟩ := umodH cm N (by omega)
        have hyN' : (y : Int) ≤ N := by omega
        have hy40 : (y : Int) ≤ 40 := by omega
        obtain ⟨j, hj, hj32⟩ := umod32 id
        obtain ⟨l2, hl2⟩ : ∃ l, l9.commit y = l := ⟨_, rfl⟩
        have hN2 : l2.qs.length = N := by rw [← hl2]; exact hN
        have hk2 : l2.k = y := by rw [← hl2]; rfl
        have hok2 : LnOk l2.qs := by rw [← hl2]; exact hok
        obtain ⟨W9, hW9⟩ : ∃ W : World, W = wr := ⟨_, rfl⟩
        rw [← hW9] at pr
        simp only [← hW9]
        clear hW9
        have cLn := hide (pr.at_.elim fun F hF => Len_ln g F l9 N hN W9 hF)
        have cCm := hide (pr.com y 0 l2 (by rw [if_pos ⟨by omega, by omega⟩]) (by rw [if_pos ⟨by omega, by omega⟩, Int.toNat_natCast, hl2]) (by omega))
        obtain ⟨q, hq⟩ : ∃ q : ReqV, (⟨0, 1, 6, j, 0, ByteArray.empty⟩ : ReqV) = q := ⟨_, rfl⟩
        have hask : askOk q.q = true := by rw [← hq]; exact ask_hist j hj32
        have hqid : q.id = j := by rw [← hq]
        obtain ⟨m, hm⟩ : ∃ m, lastAt l2.qs j = m := ⟨_, rfl⟩
        have cLa := hide (fun (D : Held) (W : World) (h : LOne w W g l2 D) => h.at_.elim fun F hF => by have := Last_ln g j hj32 F l2 W hF; rw [hm] at this; exact this)
        have hnu : IntKind.u64.wrap ((N : Int) + 1) = (N : Int) + 1 := by rw [IntKind.wrap_u64]; omega
        have hnz : ¬ ((N : Int) + 1 = 0) := by omega
        by_cases hmy : m ≤ y
        · have hcl : l2.clean q.id = true := by rw [hqid]; exact clean_yes hj32 (by omega)
          obtain ⟨R, hR⟩ : ∃ R, l2.dR q = R := ⟨_, rfl⟩
          obtain ⟨nR, hnR⟩ : ∃ nR, R.vs.length = nR := ⟨_, rfl⟩
          have hdA : l2.dA q = y := by unfold LnV.dA; rw [if_pos hask, if_pos hcl, hk2]
          have hdE : l2.dE q = 0 := by unfold LnV.dE; rw [if_pos hask, if_pos hcl]
          have hRa : R = l2.st.ask q.q := by rw [← hR]; unfold LnV.dR; rw [if_pos hask, if_pos hcl]
          have hst2 : l2.st = runS 6 (l9.qs.take y) := by rw [← hl2]; unfold LnV.st; rw [← hq6]; rfl
          have hnR2 : nR ≤ 1000 := by
            rw [← hnR, hRa]
            have h1 := ask_lenH l2.st q.q
            have h2 := few_len 6 (l9.qs.take y) q.id
            rw [← hst2] at h2
            have h3 := (runS_ok 6 (l9.qs.take y)).2.1
            rw [List.length_take, ← hst2] at h3
            have h4 : q.q.id = q.id := rfl
            rw [h4] at h1
            omega
          obtain ⟨z, hz, hzN⟩ := umodH more (N - y) (by omega)
          obtain ⟨l3, hl3⟩ : ∃ l, l2.commit (y + z) = l := ⟨_, rfl⟩
          have hN3 : l3.qs.length = N := by rw [← hl3]; exact hN2
          have hk3 : l3.k = y + z := by rw [← hl3]; rfl
          have hcl3 : l3.clean q.id = true := by
            rw [hqid]
            refine clean_yes hj32 ?_
            rw [hk3, show l3.qs = l2.qs from by rw [← hl3]; rfl, hm]
            omega
          have hst3 : l3.st = runS 6 (l9.qs.take (y + z)) := by rw [← hl3, ← hl2]; unfold LnV.st; rw [← hq6]; rfl
          have hR3 : l3.dR q = R := by
            unfold LnV.dR
            rw [if_pos hask, if_pos hcl3, hRa, hst2, hst3]
            have hf := f_keep 6 l9.qs q.id y (by rw [hqid, show l9.qs = l2.qs from by rw [← hl2]; rfl, hm]; exact hmy) z
            unfold StV.ask
            rw [show q.q.id = q.id from rfl, hf]
          have hdE3 : l3.dE q = 0 := by unfold LnV.dE; rw [if_pos hask, if_pos hcl3]
          have cR := hide (fun (D : Held) (W : World) (h : LOne w W g l2 D) => h.at_.elim fun F hF => DRead_at g F l2 q R hR nR hnR y 0 (by rw [hdA]) hdE (by omega) W hF)
          have cR3 := hide (fun (D : Held) (A : Option Addr) (cs : List Value) (W : World) (h : LOneC w W g l3 D A cs) => h.one.at_.elim fun F hF => DRead_at g F l3 q R hR3 nR hnR _ 0 rfl hdE3 (by omega) W hF)
          have cC3 := hide (fun (D : Held) (A : Option Addr) (cs : List Value) (W : World) (h : LOneC w W g l2 D A cs) => h.com ((y : Int) + z) 0 l3 (by rw [if_pos ⟨by omega, by omega⟩]) (by rw [if_pos ⟨by omega, by omega⟩, ← hl3]; congr 1) (by omega))
          have cLn2 := hide (fun (D : Held) (A : Option Addr) (cs : List Value) (W : World) (h : LOneC w W g l2 D A cs) => h.one.at_.elim fun F hF => Len_ln g F l2 N hN2 W hF)
          have cQ := hide (fun (A B : Option Addr) (ca cb : Nat) (W : World) (ha : IntsAt W A R.vs) (hb : IntsAt W B R.vs) => Same_eqH R nR hnR hnR2 A B ca cb W ha hb)
          obtain ⟨AT3, hAT3⟩ : ∃ a : Nat, l3.dA q = a := ⟨_, rfl⟩
          rw [hAT3] at cR3
          subst hq
          simp only [] at cR cR3
          have hmy' : ¬ ((y : Int) < m) := by omega
          have hzu : IntKind.u64.wrap ((N : Int) - y + 1) = (N : Int) - y + 1 := by rw [IntKind.wrap_u64]; omega
          have hzz : ¬ ((N : Int) - y + 1 = 0) := by omega
          have hcast : (((N - y : Nat) : Int)) = (N : Int) - y := by omega
          have hz40 : (z : Int) ≤ 40 := by omega
          rw [hcast] at hz
          clear hok hq6 hk0 hsn hl2 hN2 hk2 hok2 hask hqid hm hcl hR hnR hdA hdE hRa hst2 hl3 hN3 hk3 hcl3 hst3 hR3 hdE3 hnR2 hcast hN hAT3
          go_wp2_with (go_at_call 18; refine cLn.out.mono ?_; rintro e w3 ⟨rfl, rfl⟩)
          refine cCm.out.mono ?_
          rintro e w2 ⟨rfl, p2⟩
          go_wp2_with fail
          have p3 := p2.alloc #[.int .i64 0, .int .i64 1, .int .i64 6, .int .i64 j, .int .i64 0, .string ByteArray.empty] 23
          clear p2
          obtain ⟨⟨x0, x1, x2, x3, x4, x5⟩, l1⟩ := bk6 (p3.held List.mem_cons_self)
          refine (cR.out _ _ p3).mono ?_
          rintro e w4 ⟨A4, c4, rfl, i4, hn4, b4⟩
          have p4 := (p3.cells b4 i4 hn4).alloc #[.int .i64 R.code, .int .i64 R.ver, .string R.data, .slice A4 nR c4] 32
          clear p3 i4 hn4 b4 x0 x1 x2 x3 x4 x5 l1
          obtain ⟨⟨x0, x1, x2, x3, x4, x5⟩, l1⟩ := bk6 (p4.one.held (List.mem_cons_of_mem _ List.mem_cons_self))
          go_wp2_with (first
            | (go_at_call 22; refine (cLa.out _ _ p4.one).mono ?_; rintro e w5 ⟨rfl, rfl⟩)
            | (go_at_call 18; refine (cLn2.out _ _ _ _ p4).mono ?_; rintro e w5 ⟨rfl, rfl⟩))
          refine (cC3.out _ _ _ _ p4).mono ?_
          rintro e w6 ⟨rfl, p6⟩
          clear p4 x0 x1 x2 x3 x4 x5 l1
          obtain ⟨⟨x0, x1, x2, x3, x4, x5⟩, l1⟩ := bk6 (p6.one.held (List.mem_cons_of_mem _ List.mem_cons_self))
          go_wp2_with fail
          refine (cR3.out _ _ _ _ p6).mono ?_
          rintro e w7 ⟨A7, c7, rfl, i7, -, b7⟩
          have p7 := (p6.old b7).alloc #[.int .i64 R.code, .int .i64 R.ver, .string R.data, .slice A7 nR c7] 32
          have i8 : Hid (IntsAt (w7.alloc (.cells #[.int .i64 R.code, .int .i64 R.ver, .string R.data, .slice A7 nR c7] 32)) A7 R.vs) := hide (CellsAt.alloc i7 _)
          clear p6 i7 b7 x0 x1 x2 x3 x4 x5 l1
          have i4 : Hid (∀ W : World, Old (w7.alloc (.cells #[.int .i64 R.code, .int .i64 R.ver, .string R.data, .slice A7 nR c7] 32)) W → IntsAt W A4 R.vs) := hide (fun W hW => CellsAt.old p7.c hW)
          have i8 : Hid (∀ W : World, Old (w7.alloc (.cells #[.int .i64 R.code, .int .i64 R.ver, .string R.data, .slice A7 nR c7] 32)) W → IntsAt W A7 R.vs) := hide (fun W hW => CellsAt.old i8.out hW)
          have hB := hide (fun (W : World) (hW : Old (w7.alloc (.cells #[.int .i64 R.code, .int .i64 R.ver, .string R.data, .slice A7 nR c7] 32)) W) => (⟨(bk4 ((p7.one.held (List.mem_cons_of_mem _ List.mem_cons_self)).old hW)).1, (bk4 ((p7.one.held List.mem_cons_self).old hW)).1⟩ : _ ∧ _))
          have HO := hide p7.one.o
          clear p7
          go_wp2_with (first
            | (go_at_call 34; refine (told19_any _).mono ?_; rintro e w8 ⟨rfl, b8⟩; obtain ⟨⟨u0, u1, u2, u3⟩, ⟨v0, v1, v2, v3⟩⟩ := hB.out _ b8)
            | (go_at_call 29; (with_reducible refine (cQ.out A4 A7 c4 c7 _ (i4.out _ b8) (i8.out _ b8)).mono ?_); rintro e w9 ⟨rfl, b9⟩))
          go_ret
          exact ⟨rfl, HO.out.trans' (b8.trans' b9)⟩
        · have hcl : l2.clean q.id = false := by rw [hqid]; exact clean_not hj32 (by omega)
          have hdA : l2.dA q = 0 := by unfold LnV.dA; rw [if_pos hask, if_neg (by rw [hcl]; decide)]
          have hdE : l2.dE q = 4 := by unfold LnV.dE; rw [if_pos hask, if_neg (by rw [hcl]; decide)]
          have hdR : l2.dR q = Rep.zero := by unfold LnV.dR; rw [if_pos hask, if_neg (by rw [hcl]; decide)]
          have cR := hide (fun (D : Held) (W : World) (h : LOne w W g l2 D) => h.at_.elim fun F hF => DRead_at g F l2 q Rep.zero hdR 0 rfl 0 4 (by rw [hdA]; rfl) hdE (by omega) W hF)
          subst hq
          simp only [Rep.zero] at cR
          have hmy' : (y : Int) < m := by omega
          clear hok hq6 hk0 hsn hl2 hN2 hk2 hok2 hask hqid hm hcl hdA hdE hdR hN
          go_wp2_with (go_at_call 18; refine cLn.out.mono ?_; rintro e w3 ⟨rfl, rfl⟩)
          refine cCm.out.mono ?_
          rintro e w2 ⟨rfl, p2⟩
          go_wp2_with fail
          have p3 := p2.alloc #[.int .i64 0, .int .i64 1, .int .i64 6, .int .i64 j, .int .i64 0, .string ByteArray.empty] 23
          clear p2
          obtain ⟨⟨x0, x1, x2, x3, x4, x5⟩, l1⟩ := bk6 (p3.held List.mem_cons_self)
          refine (cR.out _ _ p3).mono ?_
          rintro e w4 ⟨A4, c4, rfl, -, -, b4⟩
          have p4 := (p3.old b4).alloc #[.int .i64 0, .int .i64 0, .string ByteArray.empty, .slice A4 0 c4] 32
          clear p3 b4 x0 x1 x2 x3 x4 x5 l1
          go_wp2_with (first
            | (go_at_call 34; refine (told19_any _).mono ?_; rintro e w7 ⟨rfl, b7⟩)
            | (go_at_call 22; refine (cLa.out _ _ (p4.old b7)).mono ?_; rintro e w5 ⟨rfl, rfl⟩))
          go_ret
          exact ⟨rfl, (p4.old b7).o⟩
  · have hg1 : 40 < n := by omega
    go_enter Try.func9, Try.ntmps9
    go_wp2_with fail
    refine cNw.out.mono ?_
    rintro e w1 ⟨g, rfl, hp, -⟩
    go_wp2_with (go_at_call 34; refine (told19_any _).mono ?_; rintro e w4 ⟨rfl, b4⟩)
    go_ret
    exact ⟨rfl, hp.o.trans' b4⟩
end Go.Proofs.Ytmhnlpilbbfgnaa
