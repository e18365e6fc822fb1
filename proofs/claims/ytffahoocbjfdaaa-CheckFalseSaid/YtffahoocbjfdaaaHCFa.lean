/- casebooklaw23.CheckFalse: the walk. -/
import Derived.Test.YtffahoocbjfdaaaHCF
import Derived.Test.YtffahoocbjfdaaaHMk
import Derived.Test.YtffahoocbjfdaaaHCL
namespace Go.Proofs.Ytffahoocbjfdaaa
open Go.RowKit
structure AnsR (w1 wr : World) (l : List ActV) (i m : Nat) (Ab : Option Addr) (cb : Nat) : Prop where
  old : Old w1 wr
  row : wr.ownsRow 0 3 1 (.slice Ab m cb) m ((ansI l i).map fun i : Nat => .int .i64 i)
  new : ∀ b, (Value.slice Ab m cb).ownBlock = some b → w1.heap.size ≤ b
  n : m = (ansI l i).length
theorem AnsR.app {w1 wr W3 : World} {l : List ActV} {i m cb c2 : Nat} {Ab A2 : Option Addr} (h : AnsR w1 wr l i m Ab cb) (hs : ansI l (i + 1) = ansI l i ++ [i]) {o : Obj}
    (h3 : Apps (wr.alloc o) 0 3 1 (.slice Ab m cb) (m + 1) ((ansI l i).map (fun i : Nat => Value.int .i64 i) ++ [.int .i64 (i : Nat)]) (.slice A2 (m + 1) c2) W3) : AnsR w1 W3 l (i + 1) (m + 1) A2 c2 := by
  have hf : Fr (fun b => (Value.slice Ab m cb).ownBlock = some b) (wr.alloc o) W3 := h3.fr (fun k _ hk => hk)
  refine ⟨(h.old.alloc' _).fr_new hf (fun k hk => h.new k hk), by rw [hs, List.map_append]; exact h3.own, fun b hb => ?_, by rw [hs, List.length_append, ← h.n]; rfl⟩
  rcases h3.2.2 with e | e
  · exact h.new b (e ▸ hb)
  · rw [hb] at e; injection e with e
    have := h.old.size
    simp at e; omega
theorem scL_le (j : Nat) (l : List ActV) : (scL j l).1 ≤ l.length := by
  induction l using snocInd with
  | h0 => exact Nat.le_refl _
  | hs l a ih =>
    rw [scL_snoc, List.length_append]
    unfold sc
    split
    · split
      · show (scL j l).1 + 1 ≤ _; simp; exact ih
      · exact Nat.le_succ_of_le ih
    · exact Nat.le_succ_of_le ih
theorem scL_le2 (j : Nat) (l : List ActV) : (scL j l).2 ≤ (scL j l).1 := by
  induction l using snocInd with
  | h0 => exact Nat.le_refl _
  | hs l a ih =>
    rw [scL_snoc]
    unfold sc
    split
    · split
      · show (if _ then _ else _) ≤ (scL j l).1 + 1
        split
        · exact Nat.le_refl _
        · exact Nat.zero_le _
      · exact ih
    · exact ih
theorem scL_stop (j : Nat) (l : List ActV) (i : Nat) (h : (scL j (l.take i)).2 ≠ 0) : (scL j l).2 = (scL j (l.take i)).2 := by
  have key : ∀ (t : List ActV) (s : Nat × Nat), s.2 ≠ 0 → t.foldl (sc j) s = s := fun t => by
    induction t with
    | nil => intro s _; rfl
    | cons a t ih =>
      intro s hs
      have e : sc j s a = s := by unfold sc; rw [if_neg hs]
      rw [List.foldl_cons, e]
      exact ih s hs
  have e : scL j l = (l.drop i).foldl (sc j) (scL j (l.take i)) := by
    unfold scL
    rw [← List.foldl_append, List.take_append_drop]
  rw [e, key _ _ h]
theorem getD_some {α : Type} [Inhabited α] {l : List α} {i : Nat} (h : i < l.length) : l[i]? = some (l[i]?.getD default) := by
  rw [List.getElem?_eq_getElem h]; rfl
theorem six_fr {w w' : World} {b : Nat} (h : Fr (fun k => k = b) w w') (o : Nat) (q : ReqV) : Fr (fun k => k = b) w ((((((w'.setCell ⟨b, o, none⟩ (.int .i64 q.client)).setCell ⟨b, o + 1, none⟩ (.int .i64 q.seq)).setCell ⟨b, o + 2, none⟩ (.int .i64 q.kind)).setCell ⟨b, o + 3, none⟩ (.int .i64 q.id)).setCell ⟨b, o + 4, none⟩ (.int .i64 q.mat)).setCell ⟨b, o + 5, none⟩ (.string q.data)) := by
  have hs : ∀ {W : World} (i : Nat) (u : Value), Fr (fun k => k = b) w W → Fr (fun k => k = b) w (W.setCell ⟨b, i, none⟩ u) := fun i u h => h.setCell (p := ⟨b, i, none⟩) (.inr rfl) u
  exact hs _ _ (hs _ _ (hs _ _ (hs _ _ (hs _ _ (hs _ _ h)))))
theorem own_six {w : World} {b n ca m : Nat} {log : List ReqV} (h : w.ownsRow 0 24 6 (.slice (some ⟨b, 0, none⟩) n ca) n (log.flatMap ReqV.cells)) (hm : m < log.length) (q : ReqV) :
    ((((((w.setCell ⟨b, m * 6, none⟩ (.int .i64 q.client)).setCell ⟨b, m * 6 + 1, none⟩ (.int .i64 q.seq)).setCell ⟨b, m * 6 + 2, none⟩ (.int .i64 q.kind)).setCell ⟨b, m * 6 + 3, none⟩ (.int .i64 q.id)).setCell ⟨b, m * 6 + 4, none⟩ (.int .i64 q.mat)).setCell ⟨b, m * 6 + 5, none⟩ (.string q.data)).ownsRow 0 24 6 (.slice (some ⟨b, 0, none⟩) n ca) n ((log.set m q).flatMap ReqV.cells) := by
  rw [← set_flat hm]
  exact own_store (own_store (own_store (own_store (own_store (own_store h _ _) _ _) _ _) _ _) _ _) _ _
theorem row6 {w : World} {b n ca m : Nat} {log : List ReqV} (h : w.ownsRow 0 24 6 (.slice (some ⟨b, 0, none⟩) n ca) n (log.flatMap ReqV.cells)) {q : ReqV} (hm : log[m]? = some q) :
    w.cell? ⟨b, m * 6, none⟩ = some (.int .i64 q.client) ∧ w.cell? ⟨b, m * 6 + 1, none⟩ = some (.int .i64 q.seq) ∧ w.cell? ⟨b, m * 6 + 2, none⟩ = some (.int .i64 q.kind) ∧ w.cell? ⟨b, m * 6 + 3, none⟩ = some (.int .i64 q.id) ∧ w.cell? ⟨b, m * 6 + 4, none⟩ = some (.int .i64 q.mat) ∧ w.cell? ⟨b, m * 6 + 5, none⟩ = some (.string q.data) := by
  have hl := (List.getElem?_eq_some_iff.1 hm).1
  have key : ∀ (j : Nat) (u : Value), j < 6 → q.cells[j]? = some u → w.cell? ⟨b, m * 6 + j, none⟩ = some u := fun j u hj hu =>
    own_cells h _ u (by rw [reqCells_get5 log m j hl hj, hm]; exact hu)
  exact ⟨key 0 _ (by omega) rfl, key 1 _ (by omega) rfl, key 2 _ (by omega) rfl, key 3 _ (by omega) rfl, key 4 _ (by omega) rfl, key 5 _ (by omega) rfl⟩
theorem own_ne_some {w : World} {base n c size : Nat} {e : TypeId} {A : Option Addr} {xs : List Value} (h : w.ownsRow base e size (.slice A n c) n xs) (hn : 0 < n) : ∃ b, A = some ⟨b, 0, none⟩ := by
  obtain ⟨k, rfl⟩ : ∃ k, n = k + 1 := ⟨n - 1, by omega⟩
  obtain ⟨g, cap, e⟩ := ownsRow_succ h
  injection e with e
  exact ⟨g, e⟩
theorem acts_one (l : List ActV) : ∀ u ∈ l.flatMap ActV.cells, u.oneCell' = true := by
  intro u hu
  rw [List.mem_flatMap] at hu
  obtain ⟨q, -, hq⟩ := hu
  simp only [ActV.cells, List.mem_cons, List.not_mem_nil, or_false] at hq
  rcases hq with rfl | rfl | rfl | rfl | rfl | rfl | rfl | rfl | rfl | rfl | rfl | rfl | rfl | rfl <;> rfl
theorem ansI_nm (l : List ActV) (k : Nat) : ansI (l.map ActV.nm) k = ansI l k := by
  unfold ansI
  simp only [getD_nm]
  rfl
theorem set_flatA {x : ActV} {v : Int} : ∀ {l : List ActV} {m : Nat}, l[m]? = some x → (l.flatMap ActV.cells).set (m * 14 + 10) (.int .i64 v) = (l.set m (x.turn v)).flatMap ActV.cells
  | [], _, h => by cases h
  | y :: l, 0, h => by
    obtain rfl : y = x := by simpa using h
    rfl
  | y :: l, m + 1, h => by
    rw [List.set_cons_succ, List.flatMap_cons, List.flatMap_cons, ← set_flatA (l := l) (m := m) (by simpa using h)]
    have hc : y.cells.length = 14 := rfl
    rw [List.set_append, if_neg (by omega), hc, show (m + 1) * 14 + 10 - 14 = m * 14 + 10 by omega]
theorem ActsAt.setA {w : World} {A B : Option Addr} {l : List ActV} {m : Nat} {x y : ActV} (hr : CellsAt w B ((l.set m y).flatMap ActV.cells)) (h : ActsAt w A l) (hx : l[m]? = some x) (h1 : y.A = x.A) (h2 : y.r.vs = x.r.vs) : ActsAt w B (l.set m y) := by
  refine ⟨hr, fun a ha => ?_⟩
  rcases List.mem_or_eq_of_mem_set ha with ha | rfl
  · exact h.vs a ha
  · rw [h1, h2]; exact h.vs x (List.mem_of_getElem? hx)
theorem Few23.setF {l : List ActV} {m : Nat} {x y : ActV} (h : Few23 l) (hx : l[m]? = some x) (h2 : y.r.vs = x.r.vs) : Few23 (l.set m y) := by
  refine ⟨by rw [List.length_set]; exact h.n, fun a ha => ?_⟩
  rcases List.mem_or_eq_of_mem_set ha with ha | rfl
  · exact h.vs a ha
  · rw [h2]; exact h.vs x (List.mem_of_getElem? hx)
set_option maxRecDepth 100000 in
set_option maxHeartbeats 8000000 in
theorem False_walk (A0 : Option Addr) (n k0 : Nat) (ms : List MvV) (a b : Int) (hl : n = ms.length) (hn : n ≤ 9223372036854775807) (w : World) (hM : MovesAt w A0 ms) :
    Calls Try.prog 6 #[.slice A0 n k0, .int .i64 a, .int .i64 b] w fun e w' => e = .returned (.bool true) ∧ Old w w' := by
  have HL := hide hl
  clear hl
  obtain ⟨j0, hj0, hj00, hj01, hj02⟩ := info_parts info_Req
  obtain ⟨i1, hi1, hi10, hi11, hi12⟩ := info_parts info_Act
  obtain ⟨k1, hk1, hk10, hk11, hk12⟩ := info_parts info_intP
  by_cases hgo : n ≤ 80
  · have hn80 : (n : Int) ≤ 80 := by omega
    have J := runM_J 4 ms (by have := HL.out; omega)
    have cM := hide (Made_any A0 n k0 ms HL.out (by omega) 4 w hM)
    go_enter Try.func6, Try.ntmps6
    go_wp2_with fail
    go_loopw [7] (fun iv wr => ∃ i : Nat, i ≤ n ∧ iv = .int .i64 i ∧ wr = w) (fun iv _ => n - (intOf iv).toNat)
    case atStart => exact ⟨0, Nat.zero_le _, rfl, rfl⟩
    case round =>
      obtain ⟨i, hin, rfl, hwr⟩ := hrel
      obtain rfl := hwr.symm
      by_cases hlt : i < n
      · have hkq : i < ms.length := by have := HL.out; omega
        obtain ⟨b0, o0, rfl, hb0, hc⟩ := hM.at_ hkq
        obtain ⟨x, hx⟩ : ∃ x, ms[i]?.getD default = x := ⟨_, rfl⟩
        rw [hx] at hc
        have m5 := hc 7 _ (by omega) rfl
        have m5' : w.cell? ⟨b0, o0 + i * 8 + 2 + 5, none⟩ = some (.string x.q.data) := by rw [Nat.add_assoc]; exact m5
        have hb01 : b0 < w.heap.size := hb0
        clear hc hx m5
        by_cases hd : (x.q.data.size : Int) ≤ 100
        · go_wp2_with fail
          go_roundw
          case rel => exact ⟨i + 1, by omega, by go_num, by trivial⟩
          case measure => simp [intOf]; omega
        · have hd' : (100 : Int) < x.q.data.size := by omega
          go_wp2_with fail
          refine (told23_any _).mono ?_
          rintro e w4 ⟨rfl, b4⟩
          go_wp2_with fail
          go_ret
          exact ⟨rfl, b4⟩
      · obtain rfl : n = i := by omega
        clear hlt hin
        go_upto_region 9 with fail
        refine cM.out.mono ?_
        rintro e w1 ⟨Aa, na, ca, Al, nl, cl, l, rfl, e1, e2, e3, e4, e5, e6, e7, o1⟩
        have hms : ms.length ≤ 80 := by have := HL.out; omega
        have hlen : l.length = (runM 4 ms).l.length := by rw [← e1, List.length_map]
        have hna : na ≤ 80 := by have := J.ll; omega
        have hnl : nl ≤ 80 := by have := J.ln; omega
        have hnaI : (na : Int) ≤ 80 := by omega
        have hnlI : (nl : Int) ≤ 80 := by omega
        have hFew := hide (J.few (by omega) e1)
        have HJ := hide J
        obtain ⟨log, hlog⟩ : ∃ z, (runM 4 ms).log = z := ⟨_, rfl⟩
        rw [hlog] at e5 e7
        have HLOG := hide hlog
        have hcl : nl ≤ cl := e6
        have hca : na ≤ ca := e3
        have HNM := hide e1
        have HNA := hide e2
        have HNL := hide e5
        have hAct := hide e4
        have hLog := hide e7
        have HO1 := hide o1
        clear e1 e2 e3 e4 e5 e6 e7 hlen hlog J o1
        go_wp2_with fail
        obtain ⟨W1, hW1⟩ : ∃ X, w1 = X := ⟨_, rfl⟩
        go_loopw [10, 11] (fun av iv wr => ∃ i m Ab cb, i ≤ na ∧ iv = .int .i64 (i : Nat) ∧ av = .slice Ab m cb ∧ AnsR w1 wr l i m Ab cb) (fun _ iv _ => na - (intOf iv).toNat)
        case atStart => exact ⟨0, 0, none, 0, Nat.zero_le _, rfl, rfl, Old.refl' _, World.ownsRow_nil _ _ _ _, (fun b hb => by cases hb), rfl⟩
        case round =>
          obtain ⟨i, m, Ab, cb, hin, rfl, rfl, hR⟩ := hrel
          clear hW1
          by_cases hlt : i < na
          · have hkl : i < l.length := by have := HNA.out; omega
            obtain ⟨b0, o0, rfl, hb0, hc⟩ := hAct.out.at_ hkl
            obtain ⟨x, hx⟩ : ∃ x, l[i]?.getD default = x := ⟨_, rfl⟩
            rw [hx] at hc
            have hRo := hR.old
            have c2 := (hRo.cell (p := ⟨b0, o0 + i * 14 + 2, none⟩) hb0).trans (hc 2 _ (by omega) rfl)
            have hb01 : b0 < wr.heap.size := Nat.lt_of_lt_of_le hb0 hRo.size
            have hsucc := ansI_succ l i
            rw [hx] at hsucc
            have hmi : m ≤ i := by have h1 := hR.n; have h2 := ansI_length l i; omega
            clear hc hx
            cases ha : x.ans with
            | false =>
              rw [ha] at c2 hsucc
              have HR2 := hide (show AnsR w1 wr l (i + 1) m Ab cb from ⟨hR.old, by rw [hsucc]; simpa using hR.row, hR.new, by rw [hsucc]; simpa using hR.n⟩)
              clear hR hRo hsucc
              go_wp2_with fail
              go_roundw
              case rel => exact ⟨i + 1, m, Ab, cb, by omega, by go_num, rfl, HR2.out⟩
              case measure => simp [intOf]; omega
            | true =>
              rw [ha] at c2 hsucc
              have HR2 := hide (fun (A2 : Option Addr) (c2 : Nat) (W3 : World) (h3 : Apps (wr.alloc (.cells #[.int .i64 (i : Nat)] 3)) 0 3 1 (.slice Ab m cb) (m + 1) ((ansI l i).map (fun i : Nat => Value.int .i64 i) ++ [.int .i64 (i : Nat)]) (.slice A2 (m + 1) c2) W3) => (hR.app (by rw [hsucc]; rfl) h3 : AnsR w1 W3 l (i + 1) (m + 1) A2 c2))
              have hrow := hR.row
              clear hR hRo hsucc
              go_wp2_with (at_builtin; refine wpList_app _ rfl (.tmp 56) (.tmp 58) 34 rfl 0 3 k1 (.int .i64 0) 1 8 Try.underlying34 hk1 hk10 hk11 hk12 rfl (by decide) (.slice Ab m cb) m ((ansI l i).map (fun i : Nat => Value.int .i64 i)) rfl (hrow.alloc _) (some ⟨wr.heap.size, 0, none⟩) 1 1 [.int .i64 (i : Nat)] rfl rfl (cells_bk (Bk.new wr 3 #[.int .i64 (i : Nat)])) (by simp [Value.oneCell']) (by unfold maxLen; omega) (by omega) (Nat.zero_le _) (m + 1) rfl _ rfl ?_; intro A2 c2' W3 h3; have HR3 := hide (HR2.out A2 c2' W3 h3))
              go_roundw
              case rel => exact ⟨i + 1, m + 1, A2, c2', by omega, by go_num, rfl, HR3.out⟩
              case measure => simp [intOf]; omega
          · obtain rfl : na = i := by omega
            clear hlt hin
            have hmn : m ≤ na := by have h1 := hR.n; have h2 := ansI_length l na; omega
            have hm80 : (m : Int) ≤ 80 := by omega
            by_cases hm0 : m = 0
            · subst hm0
              have HR := hide hR
              clear hR
              go_wp2_with fail
              refine (told23_any _).mono ?_
              rintro e W5 ⟨rfl, b5⟩
              go_wp2_with fail
              go_ret
              exact ⟨rfl, (HO1.out.trans' HR.out.old).trans' b5⟩
            · have hm0' : ((m : Int) == 0) = false := by simpa using hm0
              obtain ⟨kz, hkz, hkl⟩ := umod23 a m (by omega) (by omega)
              have hkm : kz < m := by omega
              obtain ⟨ba, rfl⟩ : ∃ ba, Ab = some ⟨ba, 0, none⟩ := own_ne_some hR.row (by omega)
              obtain ⟨nI, hnI⟩ : ∃ nI, (ansI l na)[kz]? = some nI := ⟨_, List.getElem?_eq_getElem (by rw [← hR.n]; exact hkm)⟩
              obtain ⟨hnI1, -⟩ := ansI_mem (List.mem_of_getElem? hnI)
              obtain ⟨xa, hxa⟩ : ∃ xa, l[nI]? = some xa := ⟨_, List.getElem?_eq_getElem (by have := HNA.out; omega)⟩
              obtain ⟨v, hv⟩ : ∃ v, IntKind.i64.wrap (xa.r.ver + 1) = v := ⟨_, rfl⟩
              have HV := hide (show v ≠ xa.r.ver from by rw [← hv, IntKind.wrap_i64]; omega)
              have HNI := hide hnI
              have hnIi : (nI : Int) < na := by omega
              have HR := hide hR
              have hAr : wr.cell? ⟨ba, kz, none⟩ = some (.int .i64 nI) := own_cells hR.row kz _ (by rw [List.getElem?_map, hnI]; rfl)
              have hbal := own_lt hR.row
              clear hR hnI
              go_upto_region 18 with fail
              simp only [hkz]
              clear hkz
              obtain ⟨WE, hWE⟩ : ∃ X, wr.alloc (.cells #[] 45) = X := ⟨_, rfl⟩
              have hE := own_mkT (e := 45) (size := 14) (base := 0) wr (Nat.zero_le _)
              have oE : Old wr WE := hWE ▸ (Old.refl' wr).alloc' _
              rw [hWE] at hE
              have HE := hide hE
              have HSRC := hide ((hAct.out.old (HR.out.old.trans' oE)).row)
              have HSL := hide (show (l.flatMap ActV.cells).length = na * 14 by rw [actCells_length, HNA.out])
              have HWE := hide hWE
              clear hE hWE
              go_wp2_with (at_builtin; go_loud (refine wpList_app _ rfl (.tmp 71) (.tmp 72) 28 rfl 0 45 i1 (.agg #[.int .i64 0, .int .i64 0, .bool false, .int .i64 0, .int .i64 0, .int .i64 0, .int .i64 0, .int .i64 0, .string { data := #[] }, .int .i64 0, .int .i64 0, .string { data := #[] }, .slice none 0 0, .int .i64 0]) 14 144 Try.underlying28 hi1 hi10 hi11 hi12 rfl (by decide) (.slice (some ⟨wr.heap.size, 0, none⟩) 0 0) 0 [] rfl (by rw [HWE.out]; exact HE.out) Aa na ca (l.flatMap ActV.cells) rfl HSL.out (by rw [HWE.out]; exact HSRC.out) (acts_one l) (by unfold maxLen; omega) (by omega) (Nat.zero_le _) na (Nat.zero_add _) _ (List.nil_append _) ?_; intro A2 c2 W2 h2))
              rw [HWE.out] at h2
              obtain ⟨bb, rfl⟩ : ∃ bb, A2 = some ⟨bb, 0, none⟩ := own_ne_some h2.1 (by omega)
              have hf2 : Fr (fun b => wr.heap.size = b) WE W2 := h2.fr (fun k _ hk => by injection hk)
              have hw1r := HR.out.old.size
              have oW2 : Old w1 W2 := (HR.out.old.trans' oE).fr_new hf2 (fun k hk => by omega)
              have hbb : w1.heap.size ≤ bb := by
                rcases h2.2.2 with e | e
                · have e' : bb = wr.heap.size := by simpa [Value.ownBlock] using e
                  omega
                · have e' : bb = WE.heap.size := by simpa [Value.ownBlock] using e
                  have := oE.size; omega
              have hA2 : W2.cell? ⟨ba, kz, none⟩ = some (.int .i64 nI) := (hf2.cell (p := ⟨ba, kz, none⟩) (Nat.lt_of_lt_of_le hbal oE.size) (by show ¬ wr.heap.size = ba; omega)).trans ((oE.cell (p := ⟨ba, kz, none⟩) hbal).trans hAr)
              have hbal2 : ba < W2.heap.size := Nat.lt_of_lt_of_le (Nat.lt_of_lt_of_le hbal oE.size) hf2.size
              have hrow2 := h2.1
              clear h2 hf2 hAr HE HSRC HSL HWE oE
              obtain ⟨WD, hWD⟩ : ∃ X, W2.drew = X := ⟨_, rfl⟩
              have hD : Old W2 WD := hWD ▸ (Old.refl' W2).drew'
              have OWD := hide (oW2.trans' hD)
              have ROWD := hide (own_old hrow2 hD)
              have HBB := hide hbb
              have hX : (l.flatMap ActV.cells)[nI * 14 + 10]? = some (.int .i64 xa.r.ver) := by rw [actCells_get l nI 10 (by have := HNA.out; omega) (by omega), hxa]; rfl
              have CS := hide (fun (U : World) (h : U = WD) => (⟨by rw [h]; exact (hD.cell (p := ⟨ba, kz, none⟩) hbal2).trans hA2, by rw [h]; exact own_cells ROWD.out _ _ hX, by rw [h]; exact own_lt ROWD.out, by rw [h]; exact own_frozen ROWD.out _⟩ :
                U.cell? ⟨ba, kz, none⟩ = some (.int .i64 nI) ∧ U.cell? ⟨bb, nI * 14 + 10, none⟩ = some (.int .i64 xa.r.ver) ∧ bb < U.heap.size ∧ U.frozen? ⟨bb, nI * 14 + 10, none⟩ = false))
              have hkmI : (kz : Int) < m := by omega
              clear hrow2 hA2 hX hbb hD hbal hbal2 oW2
              refine region_steps (R := pick [eqv (.slice (some ⟨bb, 0, none⟩) na c2), eqv (.slice (some ⟨ba, 0, none⟩) m cb), eqv (.int .i64 kz), eqv (.pointer (some ⟨ba, kz, none⟩)), eqv (.int .i64 nI), eqv (.slice (some ⟨bb, 0, none⟩) na c2), eqv (.slice (some ⟨ba, 0, none⟩) m cb), eqv (.int .i64 kz), eqv (.pointer (some ⟨ba, kz, none⟩)), eqv (.int .i64 nI), eqv (.pointer (some ⟨bb, nI * 14, none⟩)), eqv (.pointer (some ⟨bb, nI * 14 + 9, none⟩)), eqv (.pointer (some ⟨bb, nI * 14 + 10, none⟩)), eqv (.int .i64 xa.r.ver), eqv (.int .i64 v), eqv (.pointer (some ⟨bb, nI * 14, none⟩)), eqv (.pointer (some ⟨bb, nI * 14 + 9, none⟩)), eqv (.pointer (some ⟨bb, nI * 14 + 10, none⟩)), eqv (undef)]) (S := fun σ w' => (σ 18 = none → w' = WD) ∧ (σ 18 ≠ none → w' = WD.setCell ⟨bb, nI * 14 + 10, none⟩ (.int .i64 v))) (T := (fun _ _ => True)) (by kernel_rfl) (by kernel_rfl) (by kernel_rfl) (Stab.pick (Stab.eqv (Stab.eqv (Stab.eqv (Stab.eqv (Stab.eqv (Stab.eqv (Stab.eqv (Stab.eqv (Stab.eqv (Stab.eqv (Stab.eqv (Stab.eqv (Stab.eqv (Stab.eqv (Stab.eqv (Stab.eqv (Stab.eqv (Stab.eqv (Stab.eqv (Stab.nil))))))))))))))))))))) (⟨fun _ => hWD, fun h => absurd rfl h⟩) ?steps ?ends
              case steps =>
                refine StepsOk.cons (stepOk_pure [] [(13, .slice (some ⟨bb, 0, none⟩) na c2)] rfl rfl (by kernel_rfl) (by kernel_rfl) rfl (fun _ => trivial) (fun σ v w h => by simpa [upd] using h) (fun d E w' hk hda hS hc hf => by rintro  e13; exact ⟨_, by go_simp, rfl⟩)) ?_
                refine StepsOk.cons (stepOk_pure [] [(10, .slice (some ⟨ba, 0, none⟩) m cb)] rfl rfl (by kernel_rfl) (by kernel_rfl) rfl (fun _ => trivial) (fun σ v w h => by simpa [upd] using h) (fun d E w' hk hda hS hc hf => by rintro  e10; exact ⟨_, by go_simp, rfl⟩)) ?_
                refine StepsOk.cons (stepOk_pure [] [(12, .int .i64 kz)] rfl rfl (by kernel_rfl) (by kernel_rfl) rfl (fun _ => trivial) (fun σ v w h => by simpa [upd] using h) (fun d E w' hk hda hS hc hf => by rintro  e12; exact ⟨_, by go_simp, rfl⟩)) ?_
                refine StepsOk.cons (stepOk_pure [(1, 75), (2, 76)] [] rfl rfl (by kernel_rfl) (by kernel_rfl) rfl (fun _ => trivial) (fun σ v w h => by simpa [upd] using h) (fun d E w' hk hda hS hc hf => by rintro _ q1 rfl e75 _ q2 rfl e76 ; obtain ⟨t0, t1, t2, t3⟩ := CS.out w' (hS.1 (hk 18 (by kernel_rfl))); exact ⟨_, by go_simp, rfl⟩)) ?_
                refine StepsOk.cons (stepOk_pure [(3, 77)] [] rfl rfl (by kernel_rfl) (by kernel_rfl) rfl (fun _ => trivial) (fun σ v w h => by simpa [upd] using h) (fun d E w' hk hda hS hc hf => by rintro _ q3 rfl e77 ; obtain ⟨t0, t1, t2, t3⟩ := CS.out w' (hS.1 (hk 18 (by kernel_rfl))); exact ⟨_, by go_simp, rfl⟩)) ?_
                refine StepsOk.cons (stepOk_pure [] [(13, .slice (some ⟨bb, 0, none⟩) na c2)] rfl rfl (by kernel_rfl) (by kernel_rfl) rfl (fun _ => trivial) (fun σ v w h => by simpa [upd] using h) (fun d E w' hk hda hS hc hf => by rintro  e13; exact ⟨_, by go_simp, rfl⟩)) ?_
                refine StepsOk.cons (stepOk_pure [] [(10, .slice (some ⟨ba, 0, none⟩) m cb)] rfl rfl (by kernel_rfl) (by kernel_rfl) rfl (fun _ => trivial) (fun σ v w h => by simpa [upd] using h) (fun d E w' hk hda hS hc hf => by rintro  e10; exact ⟨_, by go_simp, rfl⟩)) ?_
                refine StepsOk.cons (stepOk_pure [] [(12, .int .i64 kz)] rfl rfl (by kernel_rfl) (by kernel_rfl) rfl (fun _ => trivial) (fun σ v w h => by simpa [upd] using h) (fun d E w' hk hda hS hc hf => by rintro  e12; exact ⟨_, by go_simp, rfl⟩)) ?_
                refine StepsOk.cons (stepOk_pure [(6, 80), (7, 81)] [] rfl rfl (by kernel_rfl) (by kernel_rfl) rfl (fun _ => trivial) (fun σ v w h => by simpa [upd] using h) (fun d E w' hk hda hS hc hf => by rintro _ q6 rfl e80 _ q7 rfl e81 ; obtain ⟨t0, t1, t2, t3⟩ := CS.out w' (hS.1 (hk 18 (by kernel_rfl))); exact ⟨_, by go_simp, rfl⟩)) ?_
                refine StepsOk.cons (stepOk_pure [(8, 82)] [] rfl rfl (by kernel_rfl) (by kernel_rfl) rfl (fun _ => trivial) (fun σ v w h => by simpa [upd] using h) (fun d E w' hk hda hS hc hf => by rintro _ q8 rfl e82 ; obtain ⟨t0, t1, t2, t3⟩ := CS.out w' (hS.1 (hk 18 (by kernel_rfl))); exact ⟨_, by go_simp, rfl⟩)) ?_
                refine StepsOk.cons (stepOk_pure [(5, 79), (9, 83)] [] rfl rfl (by kernel_rfl) (by kernel_rfl) rfl (fun _ => trivial) (fun σ v w h => by simpa [upd] using h) (fun d E w' hk hda hS hc hf => by rintro _ q5 rfl e79 _ q9 rfl e83 ; obtain ⟨t0, t1, t2, t3⟩ := CS.out w' (hS.1 (hk 18 (by kernel_rfl))); exact ⟨_, by go_simp, rfl⟩)) ?_
                refine StepsOk.cons (stepOk_pure [(10, 84)] [] rfl rfl (by kernel_rfl) (by kernel_rfl) rfl (fun _ => trivial) (fun σ v w h => by simpa [upd] using h) (fun d E w' hk hda hS hc hf => by rintro _ q10 rfl e84 ; exact ⟨_, by go_simp, rfl⟩)) ?_
                refine StepsOk.cons (stepOk_pure [(11, 85)] [] rfl rfl (by kernel_rfl) (by kernel_rfl) rfl (fun _ => trivial) (fun σ v w h => by simpa [upd] using h) (fun d E w' hk hda hS hc hf => by rintro _ q11 rfl e85 ; exact ⟨_, by go_simp, rfl⟩)) ?_
                refine StepsOk.cons (stepOk_pure [(12, 86)] [] rfl rfl (by kernel_rfl) (by kernel_rfl) rfl (fun _ => trivial) (fun σ v w h => by simpa [upd] using h) (fun d E w' hk hda hS hc hf => by rintro _ q12 rfl e86 ; obtain ⟨t0, t1, t2, t3⟩ := CS.out w' (hS.1 (hk 18 (by kernel_rfl))); exact ⟨_, by go_simp, rfl⟩)) ?_
                refine StepsOk.cons (stepOk_pure [(13, 87)] [] rfl rfl (by kernel_rfl) (by kernel_rfl) rfl (fun _ => trivial) (fun σ v w h => by simpa [upd] using h) (fun d E w' hk hda hS hc hf => by rintro _ q13 rfl e87 ; exact ⟨_, by go_simp, rfl⟩)) ?_
                refine StepsOk.cons (stepOk_pure [(0, 74), (4, 78)] [] rfl rfl (by kernel_rfl) (by kernel_rfl) rfl (fun _ => trivial) (fun σ v w h => by simpa [upd] using h) (fun d E w' hk hda hS hc hf => by rintro _ q0 rfl e74 _ q4 rfl e78 ; obtain ⟨t0, t1, t2, t3⟩ := CS.out w' (hS.1 (hk 18 (by kernel_rfl))); exact ⟨_, by go_simp, rfl⟩)) ?_
                refine StepsOk.cons (stepOk_pure [(15, 89)] [] rfl rfl (by kernel_rfl) (by kernel_rfl) rfl (fun _ => trivial) (fun σ v w h => by simpa [upd] using h) (fun d E w' hk hda hS hc hf => by rintro _ q15 rfl e89 ; exact ⟨_, by go_simp, rfl⟩)) ?_
                refine StepsOk.cons (stepOk_pure [(16, 90)] [] rfl rfl (by kernel_rfl) (by kernel_rfl) rfl (fun _ => trivial) (fun σ v w h => by simpa [upd] using h) (fun d E w' hk hda hS hc hf => by rintro _ q16 rfl e90 ; exact ⟨_, by go_simp, rfl⟩)) ?_
                refine StepsOk.cons (stepOk_store [(17, 91), (14, 88)] [] rfl rfl (by kernel_rfl) (by kernel_rfl) rfl (fun d E w' hk hda hS hc hf => by rintro _ q17 rfl e91 _ q14 rfl e88 ; obtain ⟨t0, t1, t2, t3⟩ := CS.out w' (hS.1 (hk 18 (by kernel_rfl))); exact ⟨w'.setCell ⟨bb, nI * 14 + 10, none⟩ (.int .i64 v), by go_simp, rfl, trivial, ⟨fun h => by simp [upd] at h, fun _ => by rw [hS.1 (hk 18 (by kernel_rfl))]⟩⟩)) ?_
                exact StepsOk.nil
              case ends =>
                intro σ9 w9 hS9 hA9
                refine Ends.eqv (some 74) (.slice (some ⟨bb, 0, none⟩) na c2) rfl (fun _ h => h) ?_
                refine Ends.eqv (some 75) (.slice (some ⟨ba, 0, none⟩) m cb) rfl (fun _ h => h) ?_
                refine Ends.eqv (some 76) (.int .i64 kz) rfl (fun _ h => h) ?_
                refine Ends.eqv (some 77) (.pointer (some ⟨ba, kz, none⟩)) rfl (fun _ h => h) ?_
                refine Ends.eqv (some 78) (.int .i64 nI) rfl (fun _ h => h) ?_
                refine Ends.eqv (some 79) (.slice (some ⟨bb, 0, none⟩) na c2) rfl (fun _ h => h) ?_
                refine Ends.eqv (some 80) (.slice (some ⟨ba, 0, none⟩) m cb) rfl (fun _ h => h) ?_
                refine Ends.eqv (some 81) (.int .i64 kz) rfl (fun _ h => h) ?_
                refine Ends.eqv (some 82) (.pointer (some ⟨ba, kz, none⟩)) rfl (fun _ h => h) ?_
                refine Ends.eqv (some 83) (.int .i64 nI) rfl (fun _ h => h) ?_
                refine Ends.eqv (some 84) (.pointer (some ⟨bb, nI * 14, none⟩)) rfl (fun _ h => h) ?_
                refine Ends.eqv (some 85) (.pointer (some ⟨bb, nI * 14 + 9, none⟩)) rfl (fun _ h => h) ?_
                refine Ends.eqv (some 86) (.pointer (some ⟨bb, nI * 14 + 10, none⟩)) rfl (fun _ h => h) ?_
                refine Ends.eqv (some 87) (.int .i64 xa.r.ver) rfl (fun _ h => h) ?_
                refine Ends.eqv (some 88) (.int .i64 v) rfl (fun _ h => h) ?_
                refine Ends.eqv (some 89) (.pointer (some ⟨bb, nI * 14, none⟩)) rfl (fun _ h => h) ?_
                refine Ends.eqv (some 90) (.pointer (some ⟨bb, nI * 14 + 9, none⟩)) rfl (fun _ h => h) ?_
                refine Ends.eqv (some 91) (.pointer (some ⟨bb, nI * 14 + 10, none⟩)) rfl (fun _ h => h) ?_
                refine Ends.eqv none (undef) rfl (fun _ h => h) ?_
                refine Ends.nil ?_
                have hA9' := hA9
                clear hA9
                simp only [put_lit, put_none, List.set_cons_zero, List.set_cons_succ]
                have hB9 := hS9.2 (by have := hA9' 18 (by simp); intro e; rw [e] at this; simp at this)
                clear hS9 hA9' CS
                have hrow9 : w9.ownsRow 0 45 14 (.slice (some ⟨bb, 0, none⟩) na c2) na ((l.set nI (xa.turn v)).flatMap ActV.cells) := by rw [hB9, ← set_flatA hxa]; exact own_store ROWD.out _ _
                have hbbn : w1.heap.size ≤ bb := HBB.out
                have o9 : Old w1 w9 := by rw [hB9]; exact OWD.out.setCell' (p := ⟨bb, nI * 14 + 10, none⟩) hbbn _
                have hAD := ActsAt.setA (CellsAt.of_own hrow9) (hAct.out.old o9) hxa rfl rfl
                have hFewB := hide (hFew.out.setF (y := xa.turn v) hxa rfl)
                have HEB := hide (show checkP (l.set nI (xa.turn v)) log 4 true = -((kz : Int) + 1) from by
                  have h1 : (l.set nI (xa.turn v)).map ActV.nm = (runM 4 ms).l.set nI (xa.nm.turn v) := by rw [List.map_set, HNM.out]; rfl
                  rw [checkP_eq h1, ← HLOG.out]
                  refine HJ.out.turned ⟨by omega, by omega⟩ ?_ ?_ HV.out
                  · rw [← HNM.out, List.length_map, ansI_nm, ← HNA.out]; exact HNI.out
                  · rw [← HNM.out, List.getElem?_map, hxa]; rfl)
                have cB := hide (fun (U : World) (h : Old w9 U) => Check_any (some ⟨bb, 0, none⟩) na c2 (l.set nI (xa.turn v)) (by rw [List.length_set]; exact HNA.out) hFewB.out Al nl cl log HNL.out (by omega) hcl 4 true _ HEB.out U (hAD.old h) (CellsAt.old (CellsAt.old hLog.out o9) h))
                have O9 := hide o9
                clear hrow9 o9 hAD hB9
                go_wp2_with fail
                refine (cB.out w9 (Old.refl' _)).mono ?_
                rintro e W4 ⟨rfl, b4⟩
                have o4 := hide (O9.out.trans' b4)
                by_cases hn2 : nl < 2
                · have hn2' : (nl : Int) < 2 := by omega
                  go_wp2_with fail
                  refine (told23_any _).mono ?_
                  rintro e W5 ⟨rfl, b5⟩
                  go_wp2_with fail
                  go_ret
                  exact ⟨rfl, (HO1.out.trans' o4.out).trans' b5⟩
                · have hn2' : ¬ (nl : Int) < 2 := by omega
                  obtain ⟨M2, hM2⟩ : ∃ z : Nat, nl - 1 = z := ⟨_, rfl⟩
                  have hM2i : (nl : Int) - 1 = (M2 : Int) := by omega
                  obtain ⟨j, hj, hjl⟩ := umod23 b M2 (by omega) (by omega)
                  have hj1 : j + 1 < nl := by omega
                  go_upto_region 25 with fail
                  simp only [hj]
                  clear hj
                  obtain ⟨WE2, hWE2⟩ : ∃ X, W4.alloc (.cells #[] 24) = X := ⟨_, rfl⟩
                  have hE2 := own_mkT (e := 24) (size := 6) (base := 0) W4 (Nat.zero_le _)
                  have oE2 : Old W4 WE2 := hWE2 ▸ (Old.refl' W4).alloc' _
                  rw [hWE2] at hE2
                  have HE2 := hide hE2
                  have HSRC2 := hide (CellsAt.old hLog.out (o4.out.trans' oE2) : CellsAt WE2 Al (log.flatMap ReqV.cells))
                  have HSL2 := hide (show (log.flatMap ReqV.cells).length = nl * 6 by rw [reqCells_length5, HNL.out])
                  have HWE2 := hide hWE2
                  clear hE2 hWE2
                  go_wp2_with (at_builtin; go_loud (refine wpList_app _ rfl (.tmp 111) (.tmp 112) 29 rfl 0 24 j0 (.agg #[.int .i64 0, .int .i64 0, .int .i64 0, .int .i64 0, .int .i64 0, .string { data := #[] }]) 6 56 Try.underlying29 hj0 hj00 hj01 hj02 rfl (by decide) (.slice (some ⟨W4.heap.size, 0, none⟩) 0 0) 0 [] rfl (by rw [HWE2.out]; exact HE2.out) Al nl cl (log.flatMap ReqV.cells) rfl HSL2.out (by rw [HWE2.out]; exact HSRC2.out) (reqs_one log) (by unfold maxLen; omega) (by omega) (Nat.zero_le _) nl (Nat.zero_add _) _ (List.nil_append _) ?_; intro A3 cx W5 h2))
                  rw [HWE2.out] at h2
                  obtain ⟨bx, rfl⟩ : ∃ bx, A3 = some ⟨bx, 0, none⟩ := own_ne_some h2.1 (by omega)
                  have hf5 : Fr (fun b => W4.heap.size = b) WE2 W5 := h2.fr (fun k _ hk => by injection hk)
                  have hw14 := o4.out.size
                  have oW5 : Old w1 W5 := (o4.out.trans' oE2).fr_new hf5 (fun k hk => by omega)
                  have hbx : w1.heap.size ≤ bx := by
                    rcases h2.2.2 with e | e
                    · have e' : bx = W4.heap.size := by simpa [Value.ownBlock] using e
                      omega
                    · have e' : bx = WE2.heap.size := by simpa [Value.ownBlock] using e
                      have := oE2.size; omega
                  have hrow5 := h2.1
                  clear h2 hf5 HE2 HSRC2 HSL2 HWE2 oE2
                  obtain ⟨WX, hWX⟩ : ∃ X, W5.drew = X := ⟨_, rfl⟩
                  have hDX : Old W5 WX := hWX ▸ (Old.refl' W5).drew'
                  have OWX := hide (oW5.trans' hDX)
                  have ROWX := hide (own_old hrow5 hDX)
                  have HBX := hide hbx
                  obtain ⟨q0, hq0⟩ : ∃ z, log[j]?.getD default = z := ⟨_, rfl⟩
                  obtain ⟨q1, hq1⟩ : ∃ z, log[j + 1]?.getD default = z := ⟨_, rfl⟩
                  have hnlog := HNL.out
                  have hjI : (j : Int) + 1 < nl := by omega
                  have hRL := hide (fun (a b : Bool) => (by cases a <;> cases b <;> simp [← hnlog] : ((if b then (if a then log.set j q1 else log).set (j + 1) q0 else (if a then log.set j q1 else log))).length = nl))
                  have hg0 : log[j]? = some q0 := by rw [← hq0]; exact getD_some (by omega)
                  have hg1 : log[j + 1]? = some q1 := by rw [← hq1]; exact getD_some (by omega)
                  have hQ1 := hide (fun (U : World) (a : Bool) (h : U.ownsRow 0 24 6 (.slice (some ⟨bx, 0, none⟩) nl cx) nl ((if false then (if a then log.set j q1 else log).set (j + 1) q0 else (if a then log.set j q1 else log)).flatMap ReqV.cells)) => row6 h (m := j + 1) (q := q1) (by cases a <;> simp [hg1]))
                  have hQ0 := hide (fun (U : World) (b : Bool) (h : U.ownsRow 0 24 6 (.slice (some ⟨bx, 0, none⟩) nl cx) nl ((if b then (if false then log.set j q1 else log).set (j + 1) q0 else (if false then log.set j q1 else log)).flatMap ReqV.cells)) => row6 h (m := j) (q := q0) (by cases b <;> simp [hg0]))
                  have hST1 : ∀ (d : Nat → Option Value) (W : World), d 15 = none → W.ownsRow 0 24 6 (.slice (some ⟨bx, 0, none⟩) nl cx) nl ((if (d 17).isSome then (if (d 15).isSome then log.set j q1 else log).set (j + 1) q0 else (if (d 15).isSome then log.set j q1 else log)).flatMap ReqV.cells) → ((((((W.setCell ⟨bx, j * 6, none⟩ (.int .i64 q1.client)).setCell ⟨bx, j * 6 + 1, none⟩ (.int .i64 q1.seq)).setCell ⟨bx, j * 6 + 2, none⟩ (.int .i64 q1.kind)).setCell ⟨bx, j * 6 + 3, none⟩ (.int .i64 q1.id)).setCell ⟨bx, j * 6 + 4, none⟩ (.int .i64 q1.mat)).setCell ⟨bx, j * 6 + 5, none⟩ (.string q1.data)).ownsRow 0 24 6 (.slice (some ⟨bx, 0, none⟩) nl cx) nl ((if (upd d 15 undef 17).isSome then (if (upd d 15 undef 15).isSome then log.set j q1 else log).set (j + 1) q0 else (if (upd d 15 undef 15).isSome then log.set j q1 else log)).flatMap ReqV.cells) := fun d W h1 h2 => by
                    have e1 : upd d 15 undef 15 = some undef := by simp [upd]
                    have e2 : upd d 15 undef 17 = d 17 := by simp [upd]
                    rw [h1] at h2
                    rw [e1, e2]
                    have h3 := own_six h2 (show j < _ by rw [hRL.out]; omega) q1
                    cases hd : (d 17).isSome
                    · rw [hd] at h3; exact h3
                    · rw [hd] at h3
                      have e3 : (log.set (j + 1) q0).set j q1 = (log.set j q1).set (j + 1) q0 := List.set_comm _ _ (by omega)
                      have h4 : ((((((W.setCell ⟨bx, j * 6, none⟩ (.int .i64 q1.client)).setCell ⟨bx, j * 6 + 1, none⟩ (.int .i64 q1.seq)).setCell ⟨bx, j * 6 + 2, none⟩ (.int .i64 q1.kind)).setCell ⟨bx, j * 6 + 3, none⟩ (.int .i64 q1.id)).setCell ⟨bx, j * 6 + 4, none⟩ (.int .i64 q1.mat)).setCell ⟨bx, j * 6 + 5, none⟩ (.string q1.data)).ownsRow 0 24 6 (.slice (some ⟨bx, 0, none⟩) nl cx) nl (((log.set (j + 1) q0).set j q1).flatMap ReqV.cells) := h3
                      rw [e3] at h4
                      exact h4
                  have hST2 : ∀ (d : Nat → Option Value) (W : World), d 17 = none → W.ownsRow 0 24 6 (.slice (some ⟨bx, 0, none⟩) nl cx) nl ((if (d 17).isSome then (if (d 15).isSome then log.set j q1 else log).set (j + 1) q0 else (if (d 15).isSome then log.set j q1 else log)).flatMap ReqV.cells) → ((((((W.setCell ⟨bx, (j + 1) * 6, none⟩ (.int .i64 q0.client)).setCell ⟨bx, (j + 1) * 6 + 1, none⟩ (.int .i64 q0.seq)).setCell ⟨bx, (j + 1) * 6 + 2, none⟩ (.int .i64 q0.kind)).setCell ⟨bx, (j + 1) * 6 + 3, none⟩ (.int .i64 q0.id)).setCell ⟨bx, (j + 1) * 6 + 4, none⟩ (.int .i64 q0.mat)).setCell ⟨bx, (j + 1) * 6 + 5, none⟩ (.string q0.data)).ownsRow 0 24 6 (.slice (some ⟨bx, 0, none⟩) nl cx) nl ((if (upd d 17 undef 17).isSome then (if (upd d 17 undef 15).isSome then log.set j q1 else log).set (j + 1) q0 else (if (upd d 17 undef 15).isSome then log.set j q1 else log)).flatMap ReqV.cells) := fun d W h1 h2 => by
                    have e1 : upd d 17 undef 17 = some undef := by simp [upd]
                    have e2 : upd d 17 undef 15 = d 15 := by simp [upd]
                    rw [h1] at h2
                    rw [e1, e2]
                    exact own_six h2 (show j + 1 < _ by rw [hRL.out]; omega) q0
                  clear hrow5 hDX hbx oW5 hg0 hg1 hnlog
                  have hjw : IntKind.i64.wrap ((j : Int) + 1) = (j : Int) + 1 := IntWalk.i64_in _ (by omega)
                  have hjn : ¬ ((j : Int) + 1 < 0) := by omega
                  have hjn2 : (j : Int) < nl := by omega
                  refine region_steps (R := pick [eqv (.slice (some ⟨bx, 0, none⟩) nl cx), eqv (.int .i64 j), eqv (.slice (some ⟨bx, 0, none⟩) nl cx), eqv (.int .i64 j), eqv (.int .i64 ((j : Int) + 1)), eqv (.slice (some ⟨bx, 0, none⟩) nl cx), eqv (.int .i64 j), eqv (.int .i64 ((j : Int) + 1)), eqv (.pointer (some ⟨bx, (j + 1) * 6, none⟩)), eqv (.agg #[.int .i64 q1.client, .int .i64 q1.seq, .int .i64 q1.kind, .int .i64 q1.id, .int .i64 q1.mat, .string q1.data]), eqv (.slice (some ⟨bx, 0, none⟩) nl cx), eqv (.int .i64 j), eqv (.pointer (some ⟨bx, j * 6, none⟩)), eqv (.agg #[.int .i64 q0.client, .int .i64 q0.seq, .int .i64 q0.kind, .int .i64 q0.id, .int .i64 q0.mat, .string q0.data]), eqv (.pointer (some ⟨bx, j * 6, none⟩)), eqv (undef), eqv (.pointer (some ⟨bx, (j + 1) * 6, none⟩)), eqv (undef)]) (S := fun σ w' => Fr (fun k => k = bx) WX w' ∧ w'.ownsRow 0 24 6 (.slice (some ⟨bx, 0, none⟩) nl cx) nl ((if (σ 17).isSome then (if (σ 15).isSome then log.set j q1 else log).set (j + 1) q0 else (if (σ 15).isSome then log.set j q1 else log)).flatMap ReqV.cells)) (T := (fun _ _ => True)) (by kernel_rfl) (by kernel_rfl) (by kernel_rfl) (Stab.pick (Stab.eqv (Stab.eqv (Stab.eqv (Stab.eqv (Stab.eqv (Stab.eqv (Stab.eqv (Stab.eqv (Stab.eqv (Stab.eqv (Stab.eqv (Stab.eqv (Stab.eqv (Stab.eqv (Stab.eqv (Stab.eqv (Stab.eqv (Stab.eqv (Stab.nil)))))))))))))))))))) (⟨hWX ▸ Fr.refl _ _, hWX ▸ ROWX.out⟩) ?steps ?ends
                  case steps =>
                    refine StepsOk.cons (stepOk_pure [] [(15, .slice (some ⟨bx, 0, none⟩) nl cx)] rfl rfl (by kernel_rfl) (by kernel_rfl) rfl (fun _ => trivial) (fun σ v w h => by simpa [upd] using h) (fun d E w' hk hda hS hc hf => by rintro  e15; exact ⟨_, by go_simp, rfl⟩)) ?_
                    refine StepsOk.cons (stepOk_pure [] [(14, .int .i64 j)] rfl rfl (by kernel_rfl) (by kernel_rfl) rfl (fun _ => trivial) (fun σ v w h => by simpa [upd] using h) (fun d E w' hk hda hS hc hf => by rintro  e14; exact ⟨_, by go_simp, rfl⟩)) ?_
                    refine StepsOk.cons (stepOk_pure [] [(15, .slice (some ⟨bx, 0, none⟩) nl cx)] rfl rfl (by kernel_rfl) (by kernel_rfl) rfl (fun _ => trivial) (fun σ v w h => by simpa [upd] using h) (fun d E w' hk hda hS hc hf => by rintro  e15; exact ⟨_, by go_simp, rfl⟩)) ?_
                    refine StepsOk.cons (stepOk_pure [] [(14, .int .i64 j)] rfl rfl (by kernel_rfl) (by kernel_rfl) rfl (fun _ => trivial) (fun σ v w h => by simpa [upd] using h) (fun d E w' hk hda hS hc hf => by rintro  e14; exact ⟨_, by go_simp, rfl⟩)) ?_
                    refine StepsOk.cons (stepOk_pure [(3, 117)] [] rfl rfl (by kernel_rfl) (by kernel_rfl) rfl (fun _ => trivial) (fun σ v w h => by simpa [upd] using h) (fun d E w' hk hda hS hc hf => by rintro _ q3 rfl e117 ; exact ⟨_, by go_simp, rfl⟩)) ?_
                    refine StepsOk.cons (stepOk_pure [] [(15, .slice (some ⟨bx, 0, none⟩) nl cx)] rfl rfl (by kernel_rfl) (by kernel_rfl) rfl (fun _ => trivial) (fun σ v w h => by simpa [upd] using h) (fun d E w' hk hda hS hc hf => by rintro  e15; exact ⟨_, by go_simp, rfl⟩)) ?_
                    refine StepsOk.cons (stepOk_pure [] [(14, .int .i64 j)] rfl rfl (by kernel_rfl) (by kernel_rfl) rfl (fun _ => trivial) (fun σ v w h => by simpa [upd] using h) (fun d E w' hk hda hS hc hf => by rintro  e14; exact ⟨_, by go_simp, rfl⟩)) ?_
                    refine StepsOk.cons (stepOk_pure [(6, 120)] [] rfl rfl (by kernel_rfl) (by kernel_rfl) rfl (fun _ => trivial) (fun σ v w h => by simpa [upd] using h) (fun d E w' hk hda hS hc hf => by rintro _ q6 rfl e120 ; exact ⟨_, by go_simp, rfl⟩)) ?_
                    refine StepsOk.cons (stepOk_pure [(5, 119), (7, 121)] [] rfl rfl (by kernel_rfl) (by kernel_rfl) rfl (fun _ => trivial) (fun σ v w h => by simpa [upd] using h) (fun d E w' hk hda hS hc hf => by rintro _ q5 rfl e119 _ q7 rfl e121 ; obtain ⟨hF6, hR6⟩ := hS; exact ⟨_, by go_simp, rfl⟩)) ?_
                    refine StepsOk.cons (stepOk_pure [(8, 122)] [] rfl rfl (by kernel_rfl) (by kernel_rfl) rfl (fun _ => trivial) (fun σ v w h => by simpa [upd] using h) (fun d E w' hk hda hS hc hf => by rintro _ q8 rfl e122 ; obtain ⟨hF6, hR6⟩ := hS; rw [hk 17 (by kernel_rfl)] at hR6; obtain ⟨t0, t1, t2, t3, t4, t5⟩ := hQ1.out w' _ hR6; exact ⟨_, by go_simp, rfl⟩)) ?_
                    refine StepsOk.cons (stepOk_pure [] [(15, .slice (some ⟨bx, 0, none⟩) nl cx)] rfl rfl (by kernel_rfl) (by kernel_rfl) rfl (fun _ => trivial) (fun σ v w h => by simpa [upd] using h) (fun d E w' hk hda hS hc hf => by rintro  e15; exact ⟨_, by go_simp, rfl⟩)) ?_
                    refine StepsOk.cons (stepOk_pure [] [(14, .int .i64 j)] rfl rfl (by kernel_rfl) (by kernel_rfl) rfl (fun _ => trivial) (fun σ v w h => by simpa [upd] using h) (fun d E w' hk hda hS hc hf => by rintro  e14; exact ⟨_, by go_simp, rfl⟩)) ?_
                    refine StepsOk.cons (stepOk_pure [(10, 124), (11, 125)] [] rfl rfl (by kernel_rfl) (by kernel_rfl) rfl (fun _ => trivial) (fun σ v w h => by simpa [upd] using h) (fun d E w' hk hda hS hc hf => by rintro _ q10 rfl e124 _ q11 rfl e125 ; obtain ⟨hF6, hR6⟩ := hS; exact ⟨_, by go_simp, rfl⟩)) ?_
                    refine StepsOk.cons (stepOk_pure [(12, 126)] [] rfl rfl (by kernel_rfl) (by kernel_rfl) rfl (fun _ => trivial) (fun σ v w h => by simpa [upd] using h) (fun d E w' hk hda hS hc hf => by rintro _ q12 rfl e126 ; obtain ⟨hF6, hR6⟩ := hS; rw [hk 15 (by kernel_rfl)] at hR6; obtain ⟨t0, t1, t2, t3, t4, t5⟩ := hQ0.out w' _ hR6; exact ⟨_, by go_simp, rfl⟩)) ?_
                    refine StepsOk.cons (stepOk_pure [(0, 114), (1, 115)] [] rfl rfl (by kernel_rfl) (by kernel_rfl) rfl (fun _ => trivial) (fun σ v w h => by simpa [upd] using h) (fun d E w' hk hda hS hc hf => by rintro _ q0 rfl e114 _ q1 rfl e115 ; obtain ⟨hF6, hR6⟩ := hS; exact ⟨_, by go_simp, rfl⟩)) ?_
                    refine StepsOk.cons (stepOk_store [(14, 128), (9, 123)] [] rfl rfl (by kernel_rfl) (by kernel_rfl) rfl (fun d E w' hk hda hS hc hf => by rintro _ q14 rfl e128 _ q9 rfl e123 ; obtain ⟨hF6, hR6⟩ := hS; obtain ⟨l0, ⟨v0, y0⟩, ⟨v1, y1⟩, ⟨v2, y2⟩, ⟨v3, y3⟩, ⟨v4, y4⟩, ⟨v5, y5⟩⟩ := rowcells hR6 (show j < _ by rw [hRL.out]; omega); have z0 := own_frozen hR6 (j * 6); have z1 := own_frozen hR6 (j * 6 + 1); have z2 := own_frozen hR6 (j * 6 + 2); have z3 := own_frozen hR6 (j * 6 + 3); have z4 := own_frozen hR6 (j * 6 + 4); have z5 := own_frozen hR6 (j * 6 + 5); exact ⟨(((((w'.setCell ⟨bx, j * 6, none⟩ (.int .i64 q1.client)).setCell ⟨bx, j * 6 + 1, none⟩ (.int .i64 q1.seq)).setCell ⟨bx, j * 6 + 2, none⟩ (.int .i64 q1.kind)).setCell ⟨bx, j * 6 + 3, none⟩ (.int .i64 q1.id)).setCell ⟨bx, j * 6 + 4, none⟩ (.int .i64 q1.mat)).setCell ⟨bx, j * 6 + 5, none⟩ (.string q1.data), by go_simp, rfl, trivial, ⟨six_fr hF6 _ _, hST1 _ _ (hk 15 (by kernel_rfl)) hR6⟩⟩)) ?_
                    refine StepsOk.cons (stepOk_pure [(2, 116), (4, 118)] [] rfl rfl (by kernel_rfl) (by kernel_rfl) rfl (fun _ => trivial) (fun σ v w h => by simpa [upd] using h) (fun d E w' hk hda hS hc hf => by rintro _ q2 rfl e116 _ q4 rfl e118 ; obtain ⟨hF6, hR6⟩ := hS; exact ⟨_, by go_simp, rfl⟩)) ?_
                    refine StepsOk.cons (stepOk_store [(16, 129), (13, 127)] [] rfl rfl (by kernel_rfl) (by kernel_rfl) rfl (fun d E w' hk hda hS hc hf => by rintro _ q16 rfl e129 _ q13 rfl e127 ; obtain ⟨hF6, hR6⟩ := hS; obtain ⟨l0, ⟨v0, y0⟩, ⟨v1, y1⟩, ⟨v2, y2⟩, ⟨v3, y3⟩, ⟨v4, y4⟩, ⟨v5, y5⟩⟩ := rowcells hR6 (show (j + 1) < _ by rw [hRL.out]; omega); have z0 := own_frozen hR6 ((j + 1) * 6); have z1 := own_frozen hR6 ((j + 1) * 6 + 1); have z2 := own_frozen hR6 ((j + 1) * 6 + 2); have z3 := own_frozen hR6 ((j + 1) * 6 + 3); have z4 := own_frozen hR6 ((j + 1) * 6 + 4); have z5 := own_frozen hR6 ((j + 1) * 6 + 5); exact ⟨(((((w'.setCell ⟨bx, (j + 1) * 6, none⟩ (.int .i64 q0.client)).setCell ⟨bx, (j + 1) * 6 + 1, none⟩ (.int .i64 q0.seq)).setCell ⟨bx, (j + 1) * 6 + 2, none⟩ (.int .i64 q0.kind)).setCell ⟨bx, (j + 1) * 6 + 3, none⟩ (.int .i64 q0.id)).setCell ⟨bx, (j + 1) * 6 + 4, none⟩ (.int .i64 q0.mat)).setCell ⟨bx, (j + 1) * 6 + 5, none⟩ (.string q0.data), by go_simp, rfl, trivial, ⟨six_fr hF6 _ _, hST2 _ _ (hk 17 (by kernel_rfl)) hR6⟩⟩)) ?_
                    exact StepsOk.nil
                  case ends =>
                    intro σ9 w9 hS9 hA9
                    refine Ends.eqv (some 114) (.slice (some ⟨bx, 0, none⟩) nl cx) rfl (fun _ h => h) ?_
                    refine Ends.eqv (some 115) (.int .i64 j) rfl (fun _ h => h) ?_
                    refine Ends.eqv (some 116) (.slice (some ⟨bx, 0, none⟩) nl cx) rfl (fun _ h => h) ?_
                    refine Ends.eqv (some 117) (.int .i64 j) rfl (fun _ h => h) ?_
                    refine Ends.eqv (some 118) (.int .i64 ((j : Int) + 1)) rfl (fun _ h => h) ?_
                    refine Ends.eqv (some 119) (.slice (some ⟨bx, 0, none⟩) nl cx) rfl (fun _ h => h) ?_
                    refine Ends.eqv (some 120) (.int .i64 j) rfl (fun _ h => h) ?_
                    refine Ends.eqv (some 121) (.int .i64 ((j : Int) + 1)) rfl (fun _ h => h) ?_
                    refine Ends.eqv (some 122) (.pointer (some ⟨bx, (j + 1) * 6, none⟩)) rfl (fun _ h => h) ?_
                    refine Ends.eqv (some 123) (.agg #[.int .i64 q1.client, .int .i64 q1.seq, .int .i64 q1.kind, .int .i64 q1.id, .int .i64 q1.mat, .string q1.data]) rfl (fun _ h => h) ?_
                    refine Ends.eqv (some 124) (.slice (some ⟨bx, 0, none⟩) nl cx) rfl (fun _ h => h) ?_
                    refine Ends.eqv (some 125) (.int .i64 j) rfl (fun _ h => h) ?_
                    refine Ends.eqv (some 126) (.pointer (some ⟨bx, j * 6, none⟩)) rfl (fun _ h => h) ?_
                    refine Ends.eqv (some 127) (.agg #[.int .i64 q0.client, .int .i64 q0.seq, .int .i64 q0.kind, .int .i64 q0.id, .int .i64 q0.mat, .string q0.data]) rfl (fun _ h => h) ?_
                    refine Ends.eqv (some 128) (.pointer (some ⟨bx, j * 6, none⟩)) rfl (fun _ h => h) ?_
                    refine Ends.eqv none (undef) rfl (fun _ h => h) ?_
                    refine Ends.eqv (some 129) (.pointer (some ⟨bx, (j + 1) * 6, none⟩)) rfl (fun _ h => h) ?_
                    refine Ends.eqv none (undef) rfl (fun _ h => h) ?_
                    refine Ends.nil ?_
                    have hA9' := hA9
                    have hA9' := hA9
                    clear hA9
                    simp only [put_lit, put_none, List.set_cons_zero, List.set_cons_succ]
                    obtain ⟨hF9, hR9⟩ := hS9
                    rw [hA9' 15 (by simp), hA9' 17 (by simp)] at hR9
                    simp only [if_true] at hR9
                    clear hA9' hQ0 hQ1 hRL hST1 hST2
                    have hSW : (log.set j q1).set (j + 1) q0 = swapL log j := by rw [← hq0, ← hq1]; rfl
                    rw [hSW] at hR9
                    have hbxn : w1.heap.size ≤ bx := HBX.out
                    have o9x := OWX.out.fr_new hF9 (fun k hk => by rw [hk]; exact hbxn)
                    have O9x := hide o9x
                    have hXR : ReqsAt w9 (some ⟨bx, 0, none⟩) (swapL log j) := CellsAt.of_own hR9
                    have hcx : nl ≤ cx := (own_size' hR9).1
                    obtain ⟨E, hE⟩ : ∃ E, checkP l (swapL log j) 4 false = E := ⟨_, rfl⟩
                    have HSW := hide (show (scL j l).2 = 0 ∨ (E < 0 ∧ -E ≤ ((scL j l).2 : Int)) ∨ E = 1 from by
                      have h1 := HJ.out.swapped (j := j) (by rw [HLOG.out, ← HNL.out]; exact hj1) (E := E) (by rw [HLOG.out, ← checkP_eq HNM.out]; exact hE)
                      rw [← HNM.out, scL_nm] at h1
                      exact h1)
                    have cX := hide (fun (U : World) (h : Old w9 U) => Check_any Aa na ca l HNA.out hFew.out (some ⟨bx, 0, none⟩) nl cx (swapL log j) (by rw [swapL_length]; exact HNL.out) (by omega) hcx 4 false E hE U ((hAct.out.old O9x.out).old h) (CellsAt.old hXR h))
                    have HE1 := hide hE
                    have hjI : (j : Int) + 1 < nl := by omega
                    clear hF9 hR9 hSW o9x hXR hE hq0 hq1
                    go_wp2_with fail
                    go_loopw [16, 17, 18] (fun fv nv iv wr => ∃ i s, i ≤ na ∧ iv = .int .i64 (i : Nat) ∧ fv = .int .i64 (s.2 : Nat) ∧ nv = .int .i64 (s.1 : Nat) ∧ scL j (l.take i) = s ∧ Old w9 wr) (fun _ _ iv _ => na - (intOf iv).toNat)
                    case atStart => exact ⟨0, (0, 0), Nat.zero_le _, rfl, rfl, rfl, rfl, Old.refl' _⟩
                    case round =>
                      obtain ⟨i, s, hin, rfl, rfl, rfl, hs, hO⟩ := hrel
                      obtain ⟨sn, sf⟩ := s
                      have HS := hide hs
                      have HOO := hide hO
                      have hsn : sn ≤ i := by have := scL_le j (l.take i); rw [hs, List.length_take] at this; show sn ≤ i; have h2 : sn ≤ min i l.length := this; omega
                      clear hs
                      by_cases hgo2 : i < na ∧ sf = 0
                      · obtain ⟨hlt, rfl⟩ := hgo2
                        have hkl : i < l.length := by have := HNA.out; omega
                        obtain ⟨b0, o0, rfl, hb0, hc⟩ := hAct.out.at_ hkl
                        obtain ⟨x, hx⟩ : ∃ x, l[i]?.getD default = x := ⟨_, rfl⟩
                        rw [hx] at hc
                        have hsucc : scL j (l.take (i + 1)) = sc j (sn, 0) x := by
                          have e : l[i] = x := by rw [List.getElem?_eq_getElem hkl] at hx; simpa using hx
                          rw [List.take_succ_eq_append_getElem hkl, scL_snoc, HS.out, e]
                        have HSU := hide hsucc
                        have hRo := O9x.out.trans' hO
                        have cc := hide (fun (j : Nat) (u : Value) (hj : j < 14) (hu : x.cells[j]? = some u) => (hRo.cell (p := ⟨b0, o0 + i * 14 + j, none⟩) hb0).trans (hc j u hj hu))
                        have c2' := cc.out 2 _ (by omega) rfl
                        have hb01 : b0 < wr.heap.size := Nat.lt_of_lt_of_le hb0 hRo.size
                        clear hc hx hsucc hRo hO
                        cases ha : x.ans with
                        | false =>
                          rw [ha] at c2'
                          have HA := hide ha
                          clear ha
                          go_wp2_with fail
                          go_roundw
                          case rel => exact ⟨i + 1, (sn, 0), by omega, by go_num, rfl, rfl, (by rw [HSU.out]; unfold sc; rw [if_pos rfl, if_neg (by rw [HA.out]; decide)]), HOO.out⟩
                          case measure => simp [intOf]; omega
                        | true =>
                          rw [ha] at c2'
                          have HA := hide ha
                          clear ha
                          have d3 := cc.out 3 _ (by omega) rfl
                          have d4 := cc.out 4 _ (by omega) rfl
                          have d5 := cc.out 5 _ (by omega) rfl
                          have d6 := cc.out 6 _ (by omega) rfl
                          have d7 := cc.out 7 _ (by omega) rfl
                          have d8 := cc.out 8 _ (by omega) rfl
                          have d13 := cc.out 13 _ (by omega) rfl
                          obtain ⟨at_, hat⟩ : ∃ z, x.at_ = z := ⟨_, rfl⟩
                          rw [hat] at d13
                          have HAT := hide hat
                          clear hat
                          have d4' : wr.cell? ⟨b0, o0 + i * 14 + 3 + 1, none⟩ = some (.int .i64 x.q.seq) := d4
                          have d5' : wr.cell? ⟨b0, o0 + i * 14 + 3 + 2, none⟩ = some (.int .i64 x.q.kind) := d5
                          have d6' : wr.cell? ⟨b0, o0 + i * 14 + 3 + 3, none⟩ = some (.int .i64 x.q.id) := d6
                          have d7' : wr.cell? ⟨b0, o0 + i * 14 + 3 + 4, none⟩ = some (.int .i64 x.q.mat) := d7
                          have d8' : wr.cell? ⟨b0, o0 + i * 14 + 3 + 5, none⟩ = some (.string x.q.data) := d8
                          have hsn80 : (sn : Int) ≤ 80 := by omega
                          have hj80 : (j : Int) ≤ 80 := by omega
                          obtain ⟨bw, hbw⟩ : ∃ z, Writes x.q.kind = z := ⟨_, rfl⟩
                          have HW := hide hbw
                          have cWr := hide (rWrites_at x.q.client x.q.seq x.q.kind x.q.id x.q.mat x.q.data bw hbw)
                          clear hbw
                          have HEND := hide (fun (c : Bool) (hc : (bw && (decide (at_ = (j : Int) + 1) || decide (at_ = (j : Int) + 2))) = c) => (by rw [HSU.out]; unfold sc; rw [if_pos rfl, if_pos HA.out, HW.out, HAT.out, hc] : scL j (l.take (i + 1)) = (sn + 1, if c = true then sn + 1 else 0)))
                          cases bw with
                          | false =>
                            go_wp2_with fail
                            refine (cWr.out _).mono ?_
                            rintro e W5 ⟨rfl, b5⟩
                            go_wp2_with fail
                            go_roundw
                            case rel => exact ⟨i + 1, (sn + 1, 0), by omega, by go_num, rfl, by go_num, HEND.out false rfl, HOO.out.trans' b5⟩
                            case measure => simp [intOf]; omega
                          | true =>
                            by_cases e1 : at_ = (j : Int) + 1
                            · have E1 : (at_ == (j : Int) + 1) = true := by simpa using e1
                              have HC := hide (HEND.out true (by simp [e1]))
                              clear e1
                              go_wp2_with fail
                              refine (cWr.out _).mono ?_
                              rintro e W5 ⟨rfl, b5⟩
                              go_wp2_with fail
                              go_roundw
                              case rel => exact ⟨i + 1, (sn + 1, sn + 1), by omega, by go_num, by go_num, by go_num, HC.out, HOO.out.trans' b5⟩
                              case measure => simp [intOf]; omega
                            · have E1 : (at_ == (j : Int) + 1) = false := by simpa using e1
                              by_cases e2 : at_ = (j : Int) + 2
                              · have E2 : (at_ == (j : Int) + 2) = true := by simpa using e2
                                have HC := hide (HEND.out true (by simp [e2]))
                                clear e1 e2
                                go_wp2_with fail
                                refine (cWr.out _).mono ?_
                                rintro e W5 ⟨rfl, b5⟩
                                go_wp2_with fail
                                go_roundw
                                case rel => exact ⟨i + 1, (sn + 1, sn + 1), by omega, by go_num, by go_num, by go_num, HC.out, HOO.out.trans' b5⟩
                                case measure => simp [intOf]; omega
                              · have E2 : (at_ == (j : Int) + 2) = false := by simpa using e2
                                have HC := hide (HEND.out false (by simp [e1, e2]))
                                clear e1 e2
                                go_wp2_with fail
                                refine (cWr.out _).mono ?_
                                rintro e W5 ⟨rfl, b5⟩
                                go_wp2_with fail
                                go_roundw
                                case rel => exact ⟨i + 1, (sn + 1, 0), by omega, by go_num, rfl, by go_num, HC.out, HOO.out.trans' b5⟩
                                case measure => simp [intOf]; omega
                      · have HF := hide (show (scL j l).2 = sf from by
                          by_cases hsf : sf = 0
                          · have : i = na := by omega
                            have h1 := HS.out
                            rw [this, HNA.out, List.take_length] at h1
                            rw [h1]
                          · exact scL_stop j l i (by rw [HS.out]; exact hsf) |>.trans (by rw [HS.out]))
                        have cX2 := cX.out wr hO
                        have hO9 := hide (HO1.out.trans' (O9x.out.trans' hO))
                        have hsw := HSW.out
                        rw [HF.out] at hsw
                        have HX2 := hide cX2
                        clear cX2 hO
                        have hsf80 : sf ≤ 100 := by
                          have h1 := scL_le2 j (l.take i)
                          rw [HS.out] at h1
                          have h2 : sf ≤ sn := h1
                          omega
                        rcases (by omega : ¬ i < na ∨ (i < na ∧ sf ≠ 0)) with hq | ⟨hq, hq2⟩
                        · have hqi : ¬ (i : Int) < na := by omega
                          clear hgo2 hq HF HS HSW
                          by_cases hsf : sf = 0
                          · subst hsf
                            clear hsw
                            go_wp2_with fail
                            refine HX2.out.mono ?_
                            rintro e W5 ⟨rfl, b5⟩
                            go_wp2_with fail
                            refine (told23_any _).mono ?_
                            rintro e W6 ⟨rfl, b6⟩
                            go_wp2_with fail
                            go_ret
                            exact ⟨by simp, hO9.out.trans' (b5.trans' b6)⟩
                          · have hsf2 : ((sf : Int) == 0) = false := by simpa using hsf
                            rcases hsw with h0 | ⟨h1, h2⟩ | h3
                            · exact absurd h0 hsf
                            · have h4 : -80 ≤ E ∨ True := .inr trivial
                              clear hsf h4
                              go_wp2_with fail
                              refine HX2.out.mono ?_
                              rintro e W5 ⟨rfl, b5⟩
                              go_wp2_with fail
                              refine (told23_any _).mono ?_
                              rintro e W6 ⟨rfl, b6⟩
                              go_wp2_with fail
                              go_ret
                              exact ⟨by simp, hO9.out.trans' (b5.trans' b6)⟩
                            · subst h3
                              clear hsf
                              go_wp2_with fail
                              refine HX2.out.mono ?_
                              rintro e W5 ⟨rfl, b5⟩
                              go_wp2_with fail
                              refine (told23_any _).mono ?_
                              rintro e W6 ⟨rfl, b6⟩
                              go_wp2_with fail
                              go_ret
                              exact ⟨by simp, hO9.out.trans' (b5.trans' b6)⟩
                        · have hqi : (i : Int) < na := by omega
                          have hsf2 : ((sf : Int) == 0) = false := by simpa using hq2
                          rcases hsw with h0 | ⟨h1, h2⟩ | h3
                          · exact absurd h0 hq2
                          · clear hgo2 hq hq2 HF HS HSW
                            go_wp2_with fail
                            refine HX2.out.mono ?_
                            rintro e W5 ⟨rfl, b5⟩
                            go_wp2_with fail
                            refine (told23_any _).mono ?_
                            rintro e W6 ⟨rfl, b6⟩
                            go_wp2_with fail
                            go_ret
                            exact ⟨by simp, hO9.out.trans' (b5.trans' b6)⟩
                          · subst h3
                            clear hgo2 hq hq2 HF HS HSW
                            go_wp2_with fail
                            refine HX2.out.mono ?_
                            rintro e W5 ⟨rfl, b5⟩
                            go_wp2_with fail
                            refine (told23_any _).mono ?_
                            rintro e W6 ⟨rfl, b6⟩
                            go_wp2_with fail
                            go_ret
                            exact ⟨by simp, hO9.out.trans' (b5.trans' b6)⟩
  · have hgt : (80 : Int) < n := by omega
    go_enter Try.func6, Try.ntmps6
    go_wp2_with fail
    refine (told23_any _).mono ?_
    rintro e w4 ⟨rfl, b4⟩
    go_wp2_with fail
    go_ret
    exact ⟨rfl, b4⟩
end Go.Proofs.Ytffahoocbjfdaaa
