/- store.Store in memory. -/
import Derived.Test.YtffahoocbjfdaaaHStM
import Derived.Test.YtffahoocbjfdaaaHVTabP
import Derived.Test.YtffahoocbjfdaaaHVTab
import Derived.Deep.RegionHeld3
import Derived.Deep.QuietTactic
import Derived.BigQuiet
import Derived.Test.YtffahoocbjfdaaaHReg
import Derived.Deep.CutBlock
import Derived.RangeFuncNested
import Derived.RangeFuncBound
import Derived.RangeFuncCalls
import Derived.RangeFuncLeaves
import Derived.RangeFuncBox
import Derived.RangeFuncFrom
import Derived.Shelf.Abstract
import Derived.Shelf.RegionOpen
import Derived.OwnWalkIn
import Derived.TacticsInMore
import Derived.LoopNIn
import Derived.LoopIn
import Derived.Maps.AppendAt
import Derived.Test.YtffahoocbjfdaaaHWr
import Derived.Test.YtffahoocbjfdaaaHOp
namespace Go.Proofs.Ytffahoocbjfdaaa
open Go.RowKit
def VRow (w : World) (F G : Nat → Prop) (v : Value) (l : List Ver) : Prop :=
  ∃ A c, v = .slice A l.length c ∧ Vers w A l ∧ l.length ≤ c ∧ (l ≠ [] → ∀ a, A = some a → F a.block ∧ ¬ G a.block)
def SesAt (w : World) (g o : Nat) (x : Sess) : Prop :=
  w.cell? ⟨g, o, none⟩ = some (.int .i64 x.seq) ∧ w.cell? ⟨g, o + 1, none⟩ = some (.int .i64 x.place) ∧ w.cell? ⟨g, o + 2, none⟩ = some (.int .i64 x.rep.code) ∧ w.cell? ⟨g, o + 3, none⟩ = some (.int .i64 x.rep.ver) ∧
  w.cell? ⟨g, o + 4, none⟩ = some (.string x.rep.data) ∧ x.rep.vs = [] ∧ ∃ A c, w.cell? ⟨g, o + 5, none⟩ = some (.slice A 0 c)
structure VTab (w : World) (g o : Nat) (F : Nat → Prop) (f : Int → List Ver) : Prop where
  ex : ∃ A ck B cv vs, VTabAt w 0 g o (.slice A (ksOf f).length ck) (.slice B (ksOf f).length cv) (ksOf f) vs ∧ (∀ k, Foot g (.slice A (ksOf f).length ck) (.slice B (ksOf f).length cv) k → F k) ∧
    ∀ (i : Nat) k v, (ksOf f)[i]? = some k → vs[i]? = some v → VRow w F (Foot g (.slice A (ksOf f).length ck) (.slice B (ksOf f).length cv)) v (f k)
structure StAt (w : World) (g : Nat) (F : Nat → Prop) (s : StV) : Prop where
  q0 : w.cell? ⟨g, 0, none⟩ = some (.int .i64 s.quota)
  n0 : w.cell? ⟨g, 1, none⟩ = some (.int .i64 s.n)
  tab : VTab w g 2 F s.f
  ses : ∀ c, c < 4 → SesAt w g (4 + c * 6) (s.ss c)
  fz : ∀ o, w.frozen? ⟨g, o, none⟩ = false
  lt : ∀ k, F k → k < w.heap.size
  gF : F g
  few : ∀ k, (s.f k).length ≤ s.n
  off : ∀ k, ¬ (0 ≤ k ∧ k ≤ 31) → s.f k = []
section
variable {w w' : World} {g o : Nat} {F F' G S : Nat → Prop} {s : StV} {f : Int → List Ver}
theorem VRow.fr {v : Value} {l : List Ver} (h : VRow w F G v l) (hf : Fr S w w') (hS : ∀ k, F k → ¬ S k) : VRow w' F G v l := by
  obtain ⟨A, c, rfl, hv, hc, ho⟩ := h
  refine ⟨A, c, rfl, CellsAt.fr hv hf (fun hn a ha => ?_), hc, ho⟩
  have hl : l ≠ [] := fun e => hn (by rw [e]; rfl)
  exact hS _ (ho hl a ha).1
theorem VRow.fr' {v : Value} {l : List Ver} (h : VRow w F G v l) (hf : Fr G w w') : VRow w' F G v l := by
  obtain ⟨A, c, rfl, hv, hc, ho⟩ := h
  refine ⟨A, c, rfl, CellsAt.fr hv hf (fun hn a ha => ?_), hc, ho⟩
  have hl : l ≠ [] := fun e => hn (by rw [e]; rfl)
  exact (ho hl a ha).2
theorem VTabAt.fr {base : Nat} {K V : Value} {ks : List Int} {vs : List Value} (h : VTabAt w base g o K V ks vs) (hf : Fr S w w') (hS : ∀ k, Foot g K V k → ¬ S k) : VTabAt w' base g o K V ks vs :=
  ⟨(hf.cell (p := ⟨g, o, none⟩) h.lt (hS g (.inl rfl))).trans h.k0, (hf.cell (p := ⟨g, o + 1, none⟩) h.lt (hS g (.inl rfl))).trans h.v0, (hf.frozen (p := ⟨g, o, none⟩) h.lt (hS g (.inl rfl))).trans h.fk,
    (hf.frozen (p := ⟨g, o + 1, none⟩) h.lt (hS g (.inl rfl))).trans h.fv, own_fr h.ko hf (fun k hk => hS k (.inr (.inl hk))), own_fr h.vo hf (fun k hk => hS k (.inr (.inr hk))), h.one, h.ne, h.kg, h.vg, h.low, Nat.lt_of_lt_of_le h.lt hf.size, h.rise⟩
theorem VTab.fr (h : VTab w g o F f) (hf : Fr S w w') (hS : ∀ k, F k → ¬ S k) : VTab w' g o F f := by
  obtain ⟨A, ck, B, cv, vs, h1, h2, h3⟩ := h.ex
  exact ⟨A, ck, B, cv, vs, h1.fr hf (fun k hk => hS k (h2 k hk)), h2, fun i k v hk hv => (h3 i k v hk hv).fr hf hS⟩
theorem SesAt.fr {x : Sess} (h : SesAt w g o x) (hg : g < w.heap.size) (hf : Fr S w w') (hS : ¬ S g) : SesAt w' g o x := by
  obtain ⟨h0, h1, h2, h3, h4, h5, A, c, h6⟩ := h
  have hc : ∀ j, w'.cell? ⟨g, j, none⟩ = w.cell? ⟨g, j, none⟩ := fun j => hf.cell (p := ⟨g, j, none⟩) hg hS
  exact ⟨(hc _).trans h0, (hc _).trans h1, (hc _).trans h2, (hc _).trans h3, (hc _).trans h4, h5, A, c, (hc _).trans h6⟩
theorem StAt.fr (h : StAt w g F s) (hf : Fr S w w') (hS : ∀ k, F k → ¬ S k) : StAt w' g F s := by
  have hg := h.lt g h.gF
  have hc : ∀ j, w'.cell? ⟨g, j, none⟩ = w.cell? ⟨g, j, none⟩ := fun j => hf.cell (p := ⟨g, j, none⟩) hg (hS g h.gF)
  exact ⟨(hc _).trans h.q0, (hc _).trans h.n0, h.tab.fr hf hS, fun c hcc => (h.ses c hcc).fr hg hf (hS g h.gF), fun j => (hf.frozen (p := ⟨g, j, none⟩) hg (hS g h.gF)).trans (h.fz j), fun k hk => Nat.lt_of_lt_of_le (h.lt k hk) hf.size, h.gF, h.few, h.off⟩
theorem StAt.old (h : StAt w g F s) (hf : Old w w') : StAt w' g F s := h.fr (S := fun _ => False) (Fr.of_old hf) (fun _ _ h => h)
end
def newCells (quota : Int) : Array Value := #[.int .i64 quota, .int .i64 0, .slice none 0 0, .slice none 0 0, .int .i64 0, .int .i64 0, .int .i64 0, .int .i64 0, .string { data := #[] }, .slice none 0 0, .int .i64 0, .int .i64 0, .int .i64 0, .int .i64 0, .string { data := #[] }, .slice none 0 0, .int .i64 0, .int .i64 0, .int .i64 0, .int .i64 0, .string { data := #[] }, .slice none 0 0, .int .i64 0, .int .i64 0, .int .i64 0, .int .i64 0, .string { data := #[] }, .slice none 0 0]
theorem ksOf_nil : ksOf (fun _ => []) = [] := by simp [ksOf]
theorem St_new {w : World} {g : Nat} {t : TypeId} {quota : Int} (h : Bk w g t (newCells quota)) : StAt w g (fun k => k = g) (StV.new quota) := by
  have hc : ∀ (i : Nat) (v : Value), (newCells quota)[i]? = some v → w.cell? ⟨g, i, none⟩ = some v := fun i v hv => (h.cell i).trans hv
  refine ⟨hc 0 _ rfl, hc 1 _ rfl, ⟨none, 0, none, 0, [], ?_, ?_, ?_⟩, ?_, fun o => h.frozen o, fun k hk => by subst hk; exact h.lt, rfl, fun k => by simp [StV.new], fun k _ => rfl⟩
  · show VTabAt w 0 g 2 (.slice none (ksOf fun _ => []).length 0) (.slice none (ksOf fun _ => []).length 0) (ksOf fun _ => []) []
    rw [ksOf_nil]
    exact ⟨hc 2 _ rfl, hc 3 _ rfl, h.frozen 2, h.frozen 3, World.ownsRow_nil _ _ _ _, World.ownsRow_nil _ _ _ _, by simp, by simp [Value.ownBlock], by simp [Value.ownBlock], by simp [Value.ownBlock], Nat.zero_le _, h.lt, by simp⟩
  · intro k hk
    simpa [Foot, Value.ownBlock] using hk
  · intro i k v hk
    simp [StV.new, ksOf_nil] at hk
  · intro c hcc
    match c, hcc with
    | 0, _ => exact ⟨hc 4 _ rfl, hc 5 _ rfl, hc 6 _ rfl, hc 7 _ rfl, hc 8 _ rfl, rfl, none, 0, hc 9 _ rfl⟩
    | 1, _ => exact ⟨hc 10 _ rfl, hc 11 _ rfl, hc 12 _ rfl, hc 13 _ rfl, hc 14 _ rfl, rfl, none, 0, hc 15 _ rfl⟩
    | 2, _ => exact ⟨hc 16 _ rfl, hc 17 _ rfl, hc 18 _ rfl, hc 19 _ rfl, hc 20 _ rfl, rfl, none, 0, hc 21 _ rfl⟩
    | 3, _ => exact ⟨hc 22 _ rfl, hc 23 _ rfl, hc 24 _ rfl, hc 25 _ rfl, hc 26 _ rfl, rfl, none, 0, hc 27 _ rfl⟩
set_option maxHeartbeats 1000000 in
theorem New_st (quota : Int) (hq : 1 ≤ quota ∧ quota ≤ 100) (w : World) :
    Calls Try.prog 34 #[.int .i64 quota] w fun e w' => e = .returned (.tuple #[.pointer (some ⟨w.heap.size, 0, none⟩), .int .i64 0]) ∧ StAt w' w.heap.size (fun k => k = w.heap.size) (StV.new quota) ∧ Old w w' := by
  obtain ⟨q1, q2⟩ := hq
  go_enter Try.func34, Try.ntmps34
  go_wp2
  go_ret2
  exact ⟨rfl, St_new (Bk.new w 104 (newCells quota)), (Old.refl' w).alloc' _⟩
set_option maxHeartbeats 1000000 in
theorem New_no (quota : Int) (hq : ¬ (1 ≤ quota ∧ quota ≤ 100)) (w : World) :
    Calls Try.prog 34 #[.int .i64 quota] w fun e w' => e = .returned (.tuple #[.pointer none, .int .i64 1]) ∧ w = w' := by
  by_cases q1 : 1 ≤ quota
  · have q2 : ¬ quota ≤ 100 := by omega
    go_enter Try.func34, Try.ntmps34
    go_wp2
    go_ret2
    exact ⟨rfl, rfl⟩
  · go_enter Try.func34, Try.ntmps34
    go_wp2
    go_ret2
    exact ⟨rfl, rfl⟩
end Go.Proofs.Ytffahoocbjfdaaa
namespace Go.Proofs.Ytffahoocbjfdaaa
open Go.RowKit
theorem info_intC : (Try.prog.info? 3).map (fun i => (i.zero, i.size, i.bytes)) = some (some (.int .i64 0), 1, 8) := by kernel_rfl
set_option maxHeartbeats 1000000 in
set_option maxRecDepth 20000 in
theorem Clone_ints (A : Option Addr) (n cap : Nat) (bs : List Int) (hn : n ≤ 100000) (hl : n = bs.length) (w : World) (hV : CellsAt w A (bs.map (Value.int .i64))) :
    Calls Try.prog 50 #[.slice A n cap] w fun e w' =>
      ∃ A' c', e = .returned (.slice A' n c') ∧ w'.ownsRow w.heap.size 3 1 (.slice A' n c') n (bs.map (Value.int .i64)) ∧ Old w w' := by
  have HL := hide hl
  clear hl
  obtain ⟨i0, hi0, hz0, hz1, hz2⟩ := info_parts info_intC
  cases A with
  | none =>
    have h0 : n = 0 := by
      rcases Nat.eq_zero_or_pos n with h | h
      · exact h
      · obtain ⟨b, o, e, _⟩ := hV (by intro e; have h1 : bs = [] := (by simpa using e); have h2 := HL.out; rw [h1] at h2; simp at h2; omega)
        cases e
    subst h0
    have hvs : bs = [] := List.eq_nil_of_length_eq_zero HL.out.symm
    subst hvs
    have heq := Lib.run_eql_slice_nil (P := Try.prog) w 34 3 none 0 cap 0 0 Try.underlying34
    go_enter Try.func50, Try.ntmps50
    go_wp2
    go_ret
    exact ⟨_, _, rfl, World.ownsRow_nil _ _ _ _, Old.refl' w⟩
  | some ad =>
    have heq := Lib.run_eql_slice_nil (P := Try.prog) w 34 3 (some ad) n cap 0 0 Try.underlying34
    go_enter Try.func50, Try.ntmps50
    go_wp2_with (at_builtin; refine wpList_app _ rfl (.tmp 5) (.tmp 6) 34 rfl w.heap.size 3 i0 (.int .i64 0) 1 8 Try.underlying34 hi0 hz0 hz1 hz2 rfl (by decide) (.slice (some ⟨w.heap.size, 0, none⟩) 0 0) 0 [] rfl (World.ownsRow_made w #[] 0 (Nat.le_refl _) (by decide) rfl) (some ad) n cap (bs.map (Value.int .i64)) rfl (by simp [HL.out]) (CellsAt.alloc hV _) (by simp [Value.oneCell']) (by unfold maxLen; omega) (by omega) (by simp) n (Nat.zero_add _) (bs.map (Value.int .i64)) (List.nil_append _) ?_; intro A' c' w1 h1)
    go_ret
    exact ⟨A', c', rfl, h1.own, h1.old ((Old.refl' w).alloc' _) (by intro k hk; simp [Value.ownBlock] at hk; omega)⟩
theorem own_new' {w : World} {base : Nat} {e : TypeId} {size n c : Nat} {A : Option Addr} {xs : List Value} (h : w.ownsRow base e size (.slice A n c) n xs) : ∀ a, A = some a → base ≤ a.block := fun a ha => by
  obtain ⟨A', c', e', -, h3⟩ := own_form h
  cases e'
  exact (h3 a ha).1
theorem bk4 {w : World} {g : Nat} {t : TypeId} {a b c d : Value} (h : Bk w g t #[a, b, c, d]) : (w.cell? ⟨g, 0, none⟩ = some a ∧ w.cell? ⟨g, 1, none⟩ = some b ∧ w.cell? ⟨g, 2, none⟩ = some c ∧ w.cell? ⟨g, 3, none⟩ = some d) ∧ (w.frozen? ⟨g, 0, none⟩ = false ∧ w.frozen? ⟨g, 1, none⟩ = false ∧ w.frozen? ⟨g, 2, none⟩ = false ∧ w.frozen? ⟨g, 3, none⟩ = false) ∧ g < w.heap.size :=
  ⟨⟨h.cell 0, h.cell 1, h.cell 2, h.cell 3⟩, ⟨h.frozen 0, h.frozen 1, h.frozen 2, h.frozen 3⟩, h.lt⟩
set_option maxHeartbeats 1000000 in
theorem copied_any (c v : Int) (d : ByteArray) (ns : List Int) (n cap : Nat) (A : Option Addr) (hn : n ≤ 100000) (hl : n = ns.length) (w : World) (hV : IntsAt w A ns) :
    Calls Try.prog 49 #[.agg #[.int .i64 c, .int .i64 v, .string d, .slice A n cap]] w fun e w' => ∃ A' c', e = .returned (.agg #[.int .i64 c, .int .i64 v, .string d, .slice A' n c']) ∧ IntsAt w' A' ns ∧ (∀ a, A' = some a → w.heap.size ≤ a.block) ∧ Old w w' := by
  have cC := hide (fun (W : World) (hW : CellsAt W A (ns.map (Value.int .i64))) => Clone_ints A n cap ns hn hl W hW)
  have hV2 := hide ((CellsAt.alloc hV (.cells #[.int .i64 c, .int .i64 v, .string d, .slice A n cap] 43)).alloc (.cells #[.int .i64 0, .int .i64 0, .string ByteArray.empty, .slice none 0 0] 43))
  clear hl hn hV
  go_enter Try.func49, Try.ntmps49
  go_wp2_with fail
  refine (cC.out _ hV2.out).mono ?_
  rintro e w1 ⟨A1, c1, rfl, hown, hb1⟩
  obtain ⟨⟨r0, r1, r2, r3⟩, ⟨f0, f1, f2, f3⟩, l1⟩ := bk4 (((Bk.new w 43 #[.int .i64 c, .int .i64 v, .string d, .slice A n cap]).alloc (.cells #[.int .i64 0, .int .i64 0, .string ByteArray.empty, .slice none 0 0] 43)).old hb1)
  obtain ⟨⟨x0, x1, x2, x3⟩, ⟨y0, y1, y2, y3⟩, l2⟩ := bk4 ((bk_new1 w (.cells #[.int .i64 c, .int .i64 v, .string d, .slice A n cap] 43) 43 #[.int .i64 0, .int .i64 0, .string ByteArray.empty, .slice none 0 0]).old hb1)
  have hnew := own_new' hown
  simp at hnew
  have hi := CellsAt.of_own hown
  have HB := hide hb1
  clear hb1
  go_wp2_with fail
  refine bodyPost_ret (v := .agg #[.int .i64 c, .int .i64 v, .string d, .slice A1 n c1]) ?_ rfl ⟨A1, c1, rfl, ?_, ?_, ?_⟩
  · simp [results, Try.results49, go_sem, *]
  · have hne1 : ∀ a, A1 = some a → a.block ≠ w.heap.size := fun a ha => by have := hnew a ha; omega
    have hne2 : ∀ a, A1 = some a → a.block ≠ w.heap.size + 1 := fun a ha => by have := hnew a ha; omega
    show CellsAt _ _ _
    repeat (first | with_reducible exact hi | with_reducible refine CellsAt.set_ ?_ hne1 _ | with_reducible refine CellsAt.set_ ?_ hne2 _)
  · intro a ha
    have := hnew a ha
    omega
  · repeat (first | with_reducible refine Old.setCell' ?_ (by simp) _ | with_reducible refine Old.trans' ?_ HB.out | with_reducible refine Old.alloc' ?_ _ | with_reducible exact Old.refl' _)
end Go.Proofs.Ytffahoocbjfdaaa

/- store.Store: Versions, Ask. -/
namespace Go.Proofs.Ytffahoocbjfdaaa
open Go.RowKit
set_option maxHeartbeats 400000 in
theorem iWrites_at (c s k i m : Int) (d : ByteArray) (b : Bool) (hb : Writes k = b) (w : World) :
    Calls Try.prog 27 #[.agg #[.int .i64 c, .int .i64 s, .int .i64 k, .int .i64 i, .int .i64 m, .string d]] w fun e w' => e = .returned (.bool b) ∧ Old w w' := by
  subst hb
  go_enter Try.func27, Try.ntmps27
  go_wp2
  all_goals go_ret
  all_goals refine ⟨by simp_all [Writes], (Below.refl _ _).alloc (Nat.le_refl _) _⟩
theorem iMay_at (c s k i m : Int) (d : ByteArray) (b : Bool) (hb : mayQ c s k i m d = b) (w : World) :
    Calls Try.prog 45 #[.agg #[.int .i64 c, .int .i64 s, .int .i64 k, .int .i64 i, .int .i64 m, .string d]] w fun e w' => e = .returned (.bool b) ∧ Old w w' := by
  subst hb
  exact May_any c s k i m d w
theorem VGet {w : World} {g o : Nat} {F : Nat → Prop} {f : Int → List Ver} (h : VTab w g o F f) (k : Int) (hk : k ∉ ksOf f → f k = []) (n : Nat) (hn : (f k).length = n) :
    ∃ A c fl, Vers w A (f k) ∧ (f k ≠ [] → ∀ a, A = some a → F a.block) ∧ ∀ W, Old w W → Calls Try.prog 46 #[.pointer (some ⟨g, o, none⟩), .int .i64 k] W fun e w' => e = .returned (.tuple #[.slice A n c, .bool fl]) ∧ W = w' := by
  subst hn
  obtain ⟨A, ck, B, cv, vs, ht, hF, hrows⟩ := h.ex
  have hr := ksOf_rise f
  have hp := plc_place hr k
  have hlen := ksOf_length f
  have old : ∀ W, Old w W → VTabAt W 0 g o (.slice A (ksOf f).length ck) (.slice B (ksOf f).length cv) (ksOf f) vs := fun W hW => ht.fr (S := fun _ => False) (Fr.of_old hW) (fun _ _ h => h)
  by_cases hm : k ∈ ksOf f
  · obtain ⟨hlt, hat⟩ := plc_lt hr hm
    have hvl : vs.length = (ksOf f).length := by have := ht.vo.1; omega
    have hat' : (ksOf f)[plc (ksOf f) k]? = some k := by
      rw [List.getElem?_eq_getElem hlt] at hat ⊢
      simpa using hat
    have hv : vs[plc (ksOf f) k]? = some (vs[plc (ksOf f) k]'(by omega)) := List.getElem?_eq_getElem (by omega)
    obtain ⟨A1, c1, e1, hV, hc, hoff⟩ := hrows _ k _ hat' hv
    rw [e1] at hv
    exact ⟨A1, c1, true, hV, fun hne a ha => (hoff hne a ha).1, fun W hW => VTGet_yes 0 g o _ _ ck cv A B (ksOf f) vs k _ rfl (by omega) hp hlt hat hv W (old W hW)⟩
  · have hz := hk hm
    rw [hz]
    exact ⟨none, 0, false, CellsAt.nil _ _, fun h => absurd rfl h, fun W hW => VTGet_no 0 g o _ _ ck cv A B (ksOf f) vs k rfl (by omega) hp (by rw [found_iff hr hp, decide_eq_false hm]) W (old W hW)⟩
theorem StAt.get {w : World} {g : Nat} {F : Nat → Prop} {s : StV} (h : StAt w g F s) (k : Int) (n : Nat) (hn : (s.f k).length = n) :
    ∃ A c fl, Vers w A (s.f k) ∧ (s.f k ≠ [] → ∀ a, A = some a → F a.block) ∧ ∀ W, Old w W → Calls Try.prog 46 #[.pointer (some ⟨g, 2, none⟩), .int .i64 k] W fun e w' => e = .returned (.tuple #[.slice A n c, .bool fl]) ∧ W = w' := by
  refine VGet h.tab k (fun hm => ?_) n hn
  rw [ksOf_mem] at hm
  by_cases hr : 0 ≤ k ∧ k ≤ 31
  · exact Classical.byContradiction fun hne => hm ⟨hr, hne⟩
  · exact h.off k hr
theorem Ask_at2 (R : Rep) (A : Option Addr) (n cap : Nat) (vs : List Ver) (hn : n ≤ 100000) (hl : n = vs.length) (c s k i m : Int) (d : ByteArray) (w : World) (hV : Vers w A vs) (hm : -9223372036854775808 ≤ m) (hm2 : m ≤ 9223372036854775807)
    (hR : askR vs k m = R) (nR : Nat) (h2 : R.vs.length = nR) :
    Calls Try.prog 57 #[.slice A n cap, .agg #[.int .i64 c, .int .i64 s, .int .i64 k, .int .i64 i, .int .i64 m, .string d]] w fun e w' =>
      ∃ A2 c2, e = .returned (.agg #[.int .i64 R.code, .int .i64 R.ver, .string R.data, .slice A2 nR c2]) ∧ IntsAt w' A2 R.vs ∧ (∀ a, A2 = some a → w.heap.size ≤ a.block) ∧ Old w w' := by
  subst hR h2
  refine (Ask_any A n cap vs hn hl c s k i m d w hV hm hm2).mono ?_
  rintro e w' ⟨u, rfl, ⟨A2, c2, rfl, hi, hn2⟩, hb⟩
  exact ⟨A2, c2, rfl, hi, hn2, hb⟩
theorem bk6 {w : World} {g : Nat} {t : TypeId} {a b c d e f : Value} (h : Bk w g t #[a, b, c, d, e, f]) : (w.cell? ⟨g, 0, none⟩ = some a ∧ w.cell? ⟨g, 1, none⟩ = some b ∧ w.cell? ⟨g, 2, none⟩ = some c ∧ w.cell? ⟨g, 3, none⟩ = some d ∧ w.cell? ⟨g, 4, none⟩ = some e ∧ w.cell? ⟨g, 5, none⟩ = some f) ∧ g < w.heap.size :=
  ⟨⟨h.cell 0, h.cell 1, h.cell 2, h.cell 3, h.cell 4, h.cell 5⟩, h.lt⟩
theorem boxed {w W : World} {c s k i m : Int} {d : ByteArray} (h : Old ((w.alloc (.cells #[.int .i64 c, .int .i64 s, .int .i64 k, .int .i64 i, .int .i64 m, .string d] 24)).alloc (.cells #[.int .i64 0, .int .i64 0, .string ByteArray.empty, .slice none 0 0] 43)) W) :
    (W.cell? ⟨w.heap.size, 0, none⟩ = some (.int .i64 c) ∧ W.cell? ⟨w.heap.size, 1, none⟩ = some (.int .i64 s) ∧ W.cell? ⟨w.heap.size, 2, none⟩ = some (.int .i64 k) ∧ W.cell? ⟨w.heap.size, 3, none⟩ = some (.int .i64 i) ∧ W.cell? ⟨w.heap.size, 4, none⟩ = some (.int .i64 m) ∧ W.cell? ⟨w.heap.size, 5, none⟩ = some (.string d)) ∧
    (W.cell? ⟨w.heap.size + 1, 0, none⟩ = some (.int .i64 0) ∧ W.cell? ⟨w.heap.size + 1, 1, none⟩ = some (.int .i64 0) ∧ W.cell? ⟨w.heap.size + 1, 2, none⟩ = some (.string ByteArray.empty) ∧ W.cell? ⟨w.heap.size + 1, 3, none⟩ = some (.slice none 0 0)) ∧
    (W.frozen? ⟨w.heap.size + 1, 0, none⟩ = false ∧ W.frozen? ⟨w.heap.size + 1, 1, none⟩ = false ∧ W.frozen? ⟨w.heap.size + 1, 2, none⟩ = false ∧ W.frozen? ⟨w.heap.size + 1, 3, none⟩ = false) ∧ w.heap.size + 1 < W.heap.size ∧ Old w W := by
  obtain ⟨hq, hl⟩ := bk6 (((Bk.new w 24 #[.int .i64 c, .int .i64 s, .int .i64 k, .int .i64 i, .int .i64 m, .string d]).alloc (.cells #[.int .i64 0, .int .i64 0, .string ByteArray.empty, .slice none 0 0] 43)).old h)
  obtain ⟨hr, hf, hl2⟩ := bk4 ((bk_new1 w (.cells #[.int .i64 c, .int .i64 s, .int .i64 k, .int .i64 i, .int .i64 m, .string d] 24) 43 #[.int .i64 0, .int .i64 0, .string ByteArray.empty, .slice none 0 0]).old h)
  exact ⟨hq, hr, hf, hl2, (((Old.refl' w).alloc' _).alloc' _).trans' h⟩
set_option maxRecDepth 100000 in
set_option maxHeartbeats 1000000 in
theorem Ask_no (p : Option Addr) (q : Q) (hq : askOk q = false) (w : World) :
    Calls Try.prog 53 #[.pointer p, q.v] w fun e w' => e = .returned (.tuple #[.agg #[.int .i64 0, .int .i64 0, .string ByteArray.empty, .slice none 0 0], .int .i64 1]) ∧ Old w w' := by
  obtain ⟨c, s, k, i, m, d⟩ := q
  simp only [Q.v]
  cases p with
  | none =>
    clear hq
    go_enter Try.func53, Try.ntmps53
    go_wp2
    refine bodyPost_ret (v := .tuple #[.agg #[.int .i64 0, .int .i64 0, .string ByteArray.empty, .slice none 0 0], .int .i64 1]) ?_ rfl ⟨rfl, ?_⟩
    · simp [results, Try.results53, go_sem]
      rfl
    · exact ((Old.refl' w).alloc' _).alloc' _
  | some a =>
    obtain ⟨b1, h1⟩ : ∃ b, mayQ c s k i m d = b := ⟨_, rfl⟩
    have cM := hide (fun (W : World) => iMay_at c s k i m d b1 h1 W)
    have hX := hide (fun (W : World) (h : Old ((w.alloc (.cells #[.int .i64 c, .int .i64 s, .int .i64 k, .int .i64 i, .int .i64 m, .string d] 24)).alloc (.cells #[.int .i64 0, .int .i64 0, .string ByteArray.empty, .slice none 0 0] 43)) W) => boxed h)
    cases b1 with
    | false =>
      clear hq h1
      go_enter Try.func53, Try.ntmps53
      go_wp2_with (go_at_call 45; refine (cM.out _).mono ?_; rintro e w1 ⟨rfl, hb1⟩; obtain ⟨⟨x0, x1, x2, x3, x4, x5⟩, ⟨y0, y1, y2, y3⟩, ⟨f0, f1, f2, f3⟩, l1, o1⟩ := hX.out _ hb1)
      refine bodyPost_ret (v := .tuple #[.agg #[.int .i64 0, .int .i64 0, .string ByteArray.empty, .slice none 0 0], .int .i64 1]) ?_ rfl ⟨rfl, ?_⟩
      · simp [results, Try.results53, go_sem, *]
        try rfl
      · repeat (first | with_reducible exact o1 | with_reducible refine Old.setCell' ?_ (by simp) _)
    | true =>
      have hw : Writes k = true := by simpa [askOk, Q.may, h1] using hq
      have cW := hide (fun (W : World) => iWrites_at c s k i m d true hw W)
      clear hq h1 hw
      go_enter Try.func53, Try.ntmps53
      go_wp2_with (first
        | (go_at_call 45; refine (cM.out _).mono ?_; rintro e w1 ⟨rfl, hb1⟩; obtain ⟨⟨x0, x1, x2, x3, x4, x5⟩, -, -, l1, o1⟩ := hX.out _ hb1)
        | (go_at_call 27; refine (cW.out _).mono ?_; rintro e w2 ⟨rfl, hb2⟩; obtain ⟨-, ⟨y0, y1, y2, y3⟩, ⟨f0, f1, f2, f3⟩, l2, o2⟩ := hX.out _ (hb1.trans' hb2)))
      refine bodyPost_ret (v := .tuple #[.agg #[.int .i64 0, .int .i64 0, .string ByteArray.empty, .slice none 0 0], .int .i64 1]) ?_ rfl ⟨rfl, ?_⟩
      · simp [results, Try.results53, go_sem, *]
        try rfl
      · repeat (first | with_reducible exact o2 | with_reducible refine Old.setCell' ?_ (by simp) _)
set_option maxRecDepth 100000 in
set_option maxHeartbeats 1000000 in
theorem Ask_yesN (g : Nat) (F : Nat → Prop) (st : StV) (q : Q) (hq : askOk q = true) (R : Rep) (hR : st.ask q = R) (nR : Nat) (hnR : R.vs.length = nR) (hfew : (st.f q.id).length ≤ 100000) (w : World) (h : StAt w g F st) :
    Calls Try.prog 53 #[.pointer (some ⟨g, 0, none⟩), q.v] w fun e w' => ∃ A c, e = .returned (.tuple #[.agg #[.int .i64 R.code, .int .i64 R.ver, .string R.data, .slice A nR c], .int .i64 0]) ∧ IntsAt w' A R.vs ∧ (∀ a, A = some a → w.heap.size ≤ a.block) ∧ Old w w' := by
  obtain ⟨c, s, k, i, m, d⟩ := q
  simp only [Q.v]
  unfold StV.ask at hR
  rw [if_pos hq] at hR
  simp only [askOk, Q.may, Bool.and_eq_true, Bool.not_eq_true'] at hq
  obtain ⟨h1, h2⟩ := hq
  have hm : -9223372036854775808 ≤ m ∧ m ≤ 9223372036854775807 := by
    simp only [mayQ, Bool.and_eq_true, decide_eq_true_eq] at h1
    omega
  simp only at hR hfew
  obtain ⟨n, hn⟩ : ∃ n, (st.f i).length = n := ⟨_, rfl⟩
  obtain ⟨A, cc, fl, hV, -, hg⟩ := h.get i n hn
  have cM := hide (fun (W : World) => iMay_at c s k i m d true h1 W)
  have cW := hide (fun (W : World) => iWrites_at c s k i m d false h2 W)
  have cA := hide (fun (W : World) (hW : Old w W) => Ask_at2 R A n cc (st.f i) (by omega) hn.symm c s k i m d W (CellsAt.old hV hW) hm.1 hm.2 hR nR hnR)
  have hX := hide (fun (W : World) (h : Old ((w.alloc (.cells #[.int .i64 c, .int .i64 s, .int .i64 k, .int .i64 i, .int .i64 m, .string d] 24)).alloc (.cells #[.int .i64 0, .int .i64 0, .string ByteArray.empty, .slice none 0 0] 43)) W) => boxed h)
  have cG := hide hg
  have hgl := h.lt g h.gF
  clear h1 h2 hm hR hn hnR hfew hV hg h
  go_enter Try.func53, Try.ntmps53
  go_wp2_with (first
    | (go_at_call 45; refine (cM.out _).mono ?_; rintro e w1 ⟨rfl, hb1⟩; obtain ⟨⟨x0, x1, x2, x3, x4, x5⟩, -, -, l1, o1⟩ := hX.out _ hb1)
    | (go_at_call 27; refine (cW.out _).mono ?_; rintro e w2 ⟨rfl, hb2⟩; clear x0 x1 x2 x3 x4 x5 l1 o1; obtain ⟨⟨x0, x1, x2, x3, x4, x5⟩, ⟨y0, y1, y2, y3⟩, ⟨f0, f1, f2, f3⟩, l1, o1⟩ := hX.out _ (hb1.trans' hb2); have hbb := hb1.trans' hb2; clear hb1 hb2))
  refine region_steps (R := pick [eqv (.pointer (some ⟨g, 0, none⟩)), eqv (.pointer (some ⟨g, 0, none⟩)), eqv (.pointer (some ⟨g, 2, none⟩)), eqv (.pointer (some ⟨w.heap.size, 3, none⟩)), eqv (.int .i64 i), eqv (.tuple #[.slice A n cc, .bool fl]), eqv (.tuple #[.slice A n cc, .bool fl]), eqv (.slice A n cc), eqv (.bool fl), eqv (.slice A n cc), eqv (.bool fl)]) (S := fun _ w' => Old ((w.alloc (.cells #[.int .i64 c, .int .i64 s, .int .i64 k, .int .i64 i, .int .i64 m, .string d] 24)).alloc (.cells #[.int .i64 0, .int .i64 0, .string ByteArray.empty, .slice none 0 0] 43)) w') (T := Old) (by kernel_rfl) (by kernel_rfl) (by kernel_rfl) (Stab.pick (Stab.eqv (Stab.eqv (Stab.eqv (Stab.eqv (Stab.eqv (Stab.eqv (Stab.eqv (Stab.eqv (Stab.eqv (Stab.eqv (Stab.eqv (Stab.nil))))))))))))) (hbb.drew') ?steps ?ends
  case steps =>
    refine StepsOk.cons (stepOk_pure [] [(0, .pointer (some ⟨g, 0, none⟩))] rfl rfl (by kernel_rfl) (by kernel_rfl) rfl Old.refl' (fun _ _ _ h => h) (fun d E w' hk hda hS hc hf => by rintro  e0; exact ⟨_, by go_simp, rfl⟩)) ?_
    refine StepsOk.cons (stepOk_pure [(0, 21)] [] rfl rfl (by kernel_rfl) (by kernel_rfl) rfl Old.refl' (fun _ _ _ h => h) (fun d E w' hk hda hS hc hf => by rintro _ q0 rfl e21 ; exact ⟨_, by go_simp, rfl⟩)) ?_
    refine StepsOk.cons (stepOk_pure [(1, 22)] [] rfl rfl (by kernel_rfl) (by kernel_rfl) rfl Old.refl' (fun _ _ _ h => h) (fun d E w' hk hda hS hc hf => by rintro _ q1 rfl e22 ; exact ⟨_, by go_simp, rfl⟩)) ?_
    refine StepsOk.cons (stepOk_pure [] [(3, .pointer (some ⟨w.heap.size, 0, none⟩))] rfl rfl (by kernel_rfl) (by kernel_rfl) rfl Old.refl' (fun _ _ _ h => h) (fun d E w' hk hda hS hc hf => by rintro  e3; exact ⟨_, by go_simp, rfl⟩)) ?_
    refine StepsOk.cons (stepOk_pure [(3, 24)] [] rfl rfl (by kernel_rfl) (by kernel_rfl) rfl Old.refl' (fun _ _ _ h => h) (fun d E w' hk hda hS hc hf => by rintro _ q3 rfl e24 ; obtain ⟨⟨-, -, -, s3, -, -⟩, -, -, -, ho⟩ := hX.out _ hS; exact ⟨_, by go_simp, rfl⟩)) ?_
    refine StepsOk.cons (stepOk_mk [(2, 23), (4, 25)] [] rfl rfl (by kernel_rfl) (by kernel_rfl) rfl ?_) ?_
    · rintro d a w' hk hda hS _ q2 rfl e23 _ q4 rfl e25 
      first | refine Given.nil (Known.nil ?_) | refine Known.nil ?_
      refine wp_call 46 _ Try.func46 (by kernel_rfl) (by kernel_rfl) _ _ (by rfl) [.pointer (some ⟨g, 2, none⟩), .int .i64 i] (by simp only [List.map_cons, List.map_nil, *]; try rfl) (cG.out _ (hX.out _ hS).2.2.2.2) ?_
      rintro e w1 ⟨rfl, rfl⟩
      exact ⟨_, rfl, _, rfl, rfl, Old.refl' _, hS⟩
    refine StepsOk.cons (stepOk_pure [(5, 26)] [] rfl rfl (by kernel_rfl) (by kernel_rfl) rfl Old.refl' (fun _ _ _ h => h) (fun d E w' hk hda hS hc hf => by rintro _ q5 rfl e26 ; exact ⟨_, by go_simp, rfl⟩)) ?_
    refine StepsOk.cons (stepOk_pure [(6, 20)] [] rfl rfl (by kernel_rfl) (by kernel_rfl) rfl Old.refl' (fun _ _ _ h => h) (fun d E w' hk hda hS hc hf => by rintro _ q6 rfl e20 ; exact ⟨_, by go_simp, rfl⟩)) ?_
    refine StepsOk.cons (stepOk_pure [(6, 20)] [] rfl rfl (by kernel_rfl) (by kernel_rfl) rfl Old.refl' (fun _ _ _ h => h) (fun d E w' hk hda hS hc hf => by rintro _ q6 rfl e20 ; exact ⟨_, by go_simp, rfl⟩)) ?_
    refine StepsOk.cons (stepOk_pure [(7, 27)] [] rfl rfl (by kernel_rfl) (by kernel_rfl) rfl Old.refl' (fun _ _ _ h => h) (fun d E w' hk hda hS hc hf => by rintro _ q7 rfl e27 ; exact ⟨_, by go_simp, rfl⟩)) ?_
    refine StepsOk.cons (stepOk_pure [(8, 28)] [] rfl rfl (by kernel_rfl) (by kernel_rfl) rfl Old.refl' (fun _ _ _ h => h) (fun d E w' hk hda hS hc hf => by rintro _ q8 rfl e28 ; exact ⟨_, by go_simp, rfl⟩)) ?_
    exact StepsOk.nil
  case ends =>
    intro σ9 w9 hS9 hA9
    refine Ends.eqv (some 21) (.pointer (some ⟨g, 0, none⟩)) rfl (fun _ h => h) ?_
    refine Ends.eqv (some 22) (.pointer (some ⟨g, 0, none⟩)) rfl (fun _ h => h) ?_
    refine Ends.eqv (some 23) (.pointer (some ⟨g, 2, none⟩)) rfl (fun _ h => h) ?_
    refine Ends.eqv (some 24) (.pointer (some ⟨w.heap.size, 3, none⟩)) rfl (fun _ h => h) ?_
    refine Ends.eqv (some 25) (.int .i64 i) rfl (fun _ h => h) ?_
    refine Ends.eqv (some 26) (.tuple #[.slice A n cc, .bool fl]) rfl (fun _ h => h) ?_
    refine Ends.eqv (some 20) (.tuple #[.slice A n cc, .bool fl]) rfl (fun _ h => h) ?_
    refine Ends.eqv (some 27) (.slice A n cc) rfl (fun _ h => h) ?_
    refine Ends.eqv (some 28) (.bool fl) rfl (fun _ h => h) ?_
    refine Ends.eqv (some 6) (.slice A n cc) rfl (fun _ h => h) ?_
    refine Ends.eqv (some 7) (.bool fl) rfl (fun _ h => h) ?_
    refine Ends.nil ?_
    clear hA9
    simp only [put_lit, put_none, List.set_cons_zero, List.set_cons_succ]
    clear x0 x1 x2 x3 x4 x5 y0 y1 y2 y3 f0 f1 f2 f3 l1 o1 hbb
    obtain ⟨⟨x0, x1, x2, x3, x4, x5⟩, ⟨y0, y1, y2, y3⟩, ⟨f0, f1, f2, f3⟩, l1, o1⟩ := hX.out _ hS9
    go_wp2_with fail
    refine (cA.out _ o1).mono ?_
    rintro e w3 ⟨A2, c2, rfl, hi, hnew, hb3⟩
    have hne : ∀ a, A2 = some a → a.block ≠ w.heap.size + 1 := fun a ha => by have := hnew a ha; omega
    have hnw := hide (fun (a : Addr) (ha : A2 = some a) => (by have := hnew a ha; omega : w.heap.size ≤ a.block))
    have hbb := hS9.trans' hb3
    clear x0 x1 x2 x3 x4 x5 y0 y1 y2 y3 f0 f1 f2 f3 l1 o1 hS9 hb3
    obtain ⟨-, ⟨y0, y1, y2, y3⟩, ⟨f0, f1, f2, f3⟩, l1, o1⟩ := hX.out _ hbb
    go_wp2_with fail
    refine bodyPost_ret (v := .tuple #[.agg #[.int .i64 R.code, .int .i64 R.ver, .string R.data, .slice A2 nR c2], .int .i64 0]) ?_ rfl ⟨A2, c2, rfl, ?_, hnw.out, ?_⟩
    · simp [results, Try.results53, go_sem, *]
    · have hi' : CellsAt w3 A2 (R.vs.map (Value.int .i64)) := hi
      show CellsAt _ _ _
      repeat (first | with_reducible exact hi' | with_reducible refine CellsAt.set_ ?_ hne _)
    · repeat (first | with_reducible exact o1 | with_reducible refine Old.setCell' ?_ (by simp) _)
end Go.Proofs.Ytffahoocbjfdaaa

/- store.Store.Put: what is refused. -/
namespace Go.Proofs.Ytffahoocbjfdaaa
open Go.RowKit
set_option maxRecDepth 100000 in
set_option maxHeartbeats 1000000 in
theorem Put_arg (p : Option Addr) (q : Q) (hq : p ≠ none → (q.may && Writes q.kind) = false) (w : World) :
    Calls Try.prog 35 #[.pointer p, q.v] w fun e w' => e = .returned (.tuple #[.agg #[.int .i64 0, .int .i64 0, .string ByteArray.empty, .slice none 0 0], .int .i64 1]) ∧ Old w w' := by
  obtain ⟨c, s, k, i, m, d⟩ := q
  simp only [Q.v]
  cases p with
  | none =>
    clear hq
    go_enter Try.func35, Try.ntmps35
    go_wp2
    refine bodyPost_ret (v := .tuple #[.agg #[.int .i64 0, .int .i64 0, .string ByteArray.empty, .slice none 0 0], .int .i64 1]) ?_ rfl ⟨rfl, ?_⟩
    · simp [results, Try.results35, go_sem, *]
      try rfl
    · repeat (first | with_reducible exact (((Old.refl' w).alloc' _).alloc' _) | with_reducible refine Old.setCell' ?_ (by simp) _)
  | some a =>
    have hq := hq (by simp)
    obtain ⟨b1, h1⟩ : ∃ b, mayQ c s k i m d = b := ⟨_, rfl⟩
    have cM := hide (fun (W : World) => iMay_at c s k i m d b1 h1 W)
    have hX := hide (fun (W : World) (h : Old ((w.alloc (.cells #[.int .i64 c, .int .i64 s, .int .i64 k, .int .i64 i, .int .i64 m, .string d] 24)).alloc (.cells #[.int .i64 0, .int .i64 0, .string ByteArray.empty, .slice none 0 0] 43)) W) => boxed h)
    cases b1 with
    | false =>
      clear hq h1
      go_enter Try.func35, Try.ntmps35
      go_wp2_with (go_at_call 45; refine (cM.out _).mono ?_; rintro e w1 ⟨rfl, hb1⟩; obtain ⟨⟨x0, x1, x2, x3, x4, x5⟩, ⟨y0, y1, y2, y3⟩, ⟨f0, f1, f2, f3⟩, l1, o1⟩ := hX.out _ hb1)
      refine bodyPost_ret (v := .tuple #[.agg #[.int .i64 0, .int .i64 0, .string ByteArray.empty, .slice none 0 0], .int .i64 1]) ?_ rfl ⟨rfl, ?_⟩
      · simp [results, Try.results35, go_sem, *]
        try rfl
      · repeat (first | with_reducible exact o1 | with_reducible refine Old.setCell' ?_ (by simp) _)
    | true =>
      have hw : Writes k = false := by simpa [Q.may, h1] using hq
      have cW := hide (fun (W : World) => iWrites_at c s k i m d false hw W)
      clear hq h1 hw
      go_enter Try.func35, Try.ntmps35
      go_wp2_with (first
        | (go_at_call 45; refine (cM.out _).mono ?_; rintro e w1 ⟨rfl, hb1⟩; obtain ⟨⟨x0, x1, x2, x3, x4, x5⟩, ⟨y0, y1, y2, y3⟩, ⟨f0, f1, f2, f3⟩, l1, o1⟩ := hX.out _ hb1)
        | (go_at_call 27; refine (cW.out _).mono ?_; rintro e w2 ⟨rfl, hb2⟩; clear x0 x1 x2 x3 x4 x5 y0 y1 y2 y3 f0 f1 f2 f3 l1 o1; obtain ⟨⟨x0, x1, x2, x3, x4, x5⟩, ⟨y0, y1, y2, y3⟩, ⟨f0, f1, f2, f3⟩, l1, o1⟩ := hX.out _ (hb1.trans' hb2); have hbb := hb1.trans' hb2; clear hb1 hb2))
      refine bodyPost_ret (v := .tuple #[.agg #[.int .i64 0, .int .i64 0, .string ByteArray.empty, .slice none 0 0], .int .i64 1]) ?_ rfl ⟨rfl, ?_⟩
      · simp [results, Try.results35, go_sem, *]
        try rfl
      · repeat (first | with_reducible exact o1 | with_reducible refine Old.setCell' ?_ (by simp) _)
set_option maxRecDepth 100000 in
set_option maxHeartbeats 4000000 in
theorem Put_order (g : Nat) (F : Nat → Prop) (st : StV) (q : Q) (hq : (q.may && Writes q.kind) = true) (hs : ¬ (st.ss q.client).seq < q.seq) (w : World) (h : StAt w g F st) :
    Calls Try.prog 35 #[.pointer (some ⟨g, 0, none⟩), q.v] w fun e w' => e = .returned (.tuple #[.agg #[.int .i64 0, .int .i64 0, .string ByteArray.empty, .slice none 0 0], .int .i64 9]) ∧ Old w w' := by
  obtain ⟨c, s, k, i, m, d⟩ := q
  simp only [Q.v, Q.may, Bool.and_eq_true] at hq hs ⊢
  obtain ⟨h1, h2⟩ := hq
  have hcc : 0 ≤ c ∧ c ≤ 3 := by
    simp only [mayQ, Bool.and_eq_true, decide_eq_true_eq] at h1
    omega
  obtain ⟨c, rfl⟩ : ∃ n : Nat, c = n := ⟨c.toNat, by omega⟩
  obtain ⟨x, hx⟩ : ∃ x, (st.ss c).seq = x := ⟨_, rfl⟩
  rw [hx] at hs
  have hQ := hide (fun (W : World) (hW : Old w W) => (hx ▸ ((h.old hW).ses c (by omega)).1 : W.cell? ⟨g, 4 + c * 6, none⟩ = some (.int .i64 x)))
  have cM := hide (fun (W : World) => iMay_at c s k i m d true h1 W)
  have cW := hide (fun (W : World) => iWrites_at c s k i m d true h2 W)
  have hX := hide (fun (W : World) (h : Old ((w.alloc (.cells #[.int .i64 c, .int .i64 s, .int .i64 k, .int .i64 i, .int .i64 m, .string d] 24)).alloc (.cells #[.int .i64 0, .int .i64 0, .string ByteArray.empty, .slice none 0 0] 43)) W) => boxed h)
  have hle : s ≤ x := by omega
  have hc4 : (c : Int) < 4 := by omega
  clear h1 h2 hs hx h hcc
  go_enter Try.func35, Try.ntmps35
  go_wp2_with (first
    | (go_at_call 45; refine (cM.out _).mono ?_; rintro e w1 ⟨rfl, hb1⟩; obtain ⟨⟨x0, x1, x2, x3, x4, x5⟩, ⟨y0, y1, y2, y3⟩, ⟨f0, f1, f2, f3⟩, l1, o1⟩ := hX.out _ hb1)
    | (go_at_call 27; refine (cW.out _).mono ?_; rintro e w2 ⟨rfl, hb2⟩; clear x0 x1 x2 x3 x4 x5 y0 y1 y2 y3 f0 f1 f2 f3 l1 o1; obtain ⟨⟨x0, x1, x2, x3, x4, x5⟩, ⟨y0, y1, y2, y3⟩, ⟨f0, f1, f2, f3⟩, l1, o1⟩ := hX.out _ (hb1.trans' hb2); have hbb := hb1.trans' hb2; clear hb1 hb2))
  refine region_steps (R := pick [eqv (.pointer (some ⟨w.heap.size, 1, none⟩)), eqv (.int .i64 s), eqv (.pointer (some ⟨g, 0, none⟩)), eqv (.pointer (some ⟨w.heap.size, 0, none⟩)), eqv (.int .i64 c), eqv (.pointer (some ⟨g, 0, none⟩)), eqv (.pointer (some ⟨g, 4, none⟩)), eqv (.pointer (some ⟨g, 4 + c * 6, none⟩)), eqv (.pointer (some ⟨g, 4 + c * 6, none⟩)), eqv (.int .i64 x), eqv (.bool true), eqv (.bool true)]) (S := fun _ w' => Old ((w.alloc (.cells #[.int .i64 c, .int .i64 s, .int .i64 k, .int .i64 i, .int .i64 m, .string d] 24)).alloc (.cells #[.int .i64 0, .int .i64 0, .string ByteArray.empty, .slice none 0 0] 43)) w') (T := Old) (by kernel_rfl) (by kernel_rfl) (by kernel_rfl) (Stab.pick (Stab.eqv (Stab.eqv (Stab.eqv (Stab.eqv (Stab.eqv (Stab.eqv (Stab.eqv (Stab.eqv (Stab.eqv (Stab.eqv (Stab.eqv (Stab.eqv (Stab.nil)))))))))))))) (hbb.drew') ?steps ?ends
  case steps =>
    refine StepsOk.cons (stepOk_pure [] [(3, .pointer (some ⟨w.heap.size, 0, none⟩))] rfl rfl (by kernel_rfl) (by kernel_rfl) rfl Old.refl' (fun _ _ _ h => h) (fun d E w' hk hda hS hc hf => by rintro  e3; exact ⟨_, by go_simp, rfl⟩)) ?_
    refine StepsOk.cons (stepOk_pure [(0, 24)] [] rfl rfl (by kernel_rfl) (by kernel_rfl) rfl Old.refl' (fun _ _ _ h => h) (fun d E w' hk hda hS hc hf => by rintro _ q0 rfl e24 ; obtain ⟨⟨s0, s1, s2, s3, s4, s5⟩, -, -, -, ho⟩ := hX.out _ hS; have t0 := hQ.out _ ho; exact ⟨_, by go_simp, rfl⟩)) ?_
    refine StepsOk.cons (stepOk_pure [] [(0, .pointer (some ⟨g, 0, none⟩))] rfl rfl (by kernel_rfl) (by kernel_rfl) rfl Old.refl' (fun _ _ _ h => h) (fun d E w' hk hda hS hc hf => by rintro  e0; exact ⟨_, by go_simp, rfl⟩)) ?_
    refine StepsOk.cons (stepOk_pure [] [(3, .pointer (some ⟨w.heap.size, 0, none⟩))] rfl rfl (by kernel_rfl) (by kernel_rfl) rfl Old.refl' (fun _ _ _ h => h) (fun d E w' hk hda hS hc hf => by rintro  e3; exact ⟨_, by go_simp, rfl⟩)) ?_
    refine StepsOk.cons (stepOk_pure [(3, 27)] [] rfl rfl (by kernel_rfl) (by kernel_rfl) rfl Old.refl' (fun _ _ _ h => h) (fun d E w' hk hda hS hc hf => by rintro _ q3 rfl e27 ; obtain ⟨⟨s0, s1, s2, s3, s4, s5⟩, -, -, -, ho⟩ := hX.out _ hS; have t0 := hQ.out _ ho; exact ⟨_, by go_simp, rfl⟩)) ?_
    refine StepsOk.cons (stepOk_pure [(2, 26)] [] rfl rfl (by kernel_rfl) (by kernel_rfl) rfl Old.refl' (fun _ _ _ h => h) (fun d E w' hk hda hS hc hf => by rintro _ q2 rfl e26 ; exact ⟨_, by go_simp, rfl⟩)) ?_
    refine StepsOk.cons (stepOk_pure [(5, 29)] [] rfl rfl (by kernel_rfl) (by kernel_rfl) rfl Old.refl' (fun _ _ _ h => h) (fun d E w' hk hda hS hc hf => by rintro _ q5 rfl e29 ; exact ⟨_, by go_simp, rfl⟩)) ?_
    refine StepsOk.cons (stepOk_pure [(6, 30), (4, 28)] [] rfl rfl (by kernel_rfl) (by kernel_rfl) rfl Old.refl' (fun _ _ _ h => h) (fun d E w' hk hda hS hc hf => by rintro _ q6 rfl e30 _ q4 rfl e28 ; obtain ⟨⟨s0, s1, s2, s3, s4, s5⟩, -, -, -, ho⟩ := hX.out _ hS; have t0 := hQ.out _ ho; exact ⟨_, by go_simp, rfl⟩)) ?_
    refine StepsOk.cons (stepOk_pure [(7, 31)] [] rfl rfl (by kernel_rfl) (by kernel_rfl) rfl Old.refl' (fun _ _ _ h => h) (fun d E w' hk hda hS hc hf => by rintro _ q7 rfl e31 ; exact ⟨_, by go_simp, rfl⟩)) ?_
    refine StepsOk.cons (stepOk_pure [(8, 32)] [] rfl rfl (by kernel_rfl) (by kernel_rfl) rfl Old.refl' (fun _ _ _ h => h) (fun d E w' hk hda hS hc hf => by rintro _ q8 rfl e32 ; obtain ⟨⟨s0, s1, s2, s3, s4, s5⟩, -, -, -, ho⟩ := hX.out _ hS; have t0 := hQ.out _ ho; exact ⟨_, by go_simp, rfl⟩)) ?_
    refine StepsOk.cons (stepOk_pure [(1, 25), (9, 33)] [] rfl rfl (by kernel_rfl) (by kernel_rfl) rfl Old.refl' (fun _ _ _ h => h) (fun d E w' hk hda hS hc hf => by rintro _ q1 rfl e25 _ q9 rfl e33 ; exact ⟨_, by go_simp, rfl⟩)) ?_
    refine StepsOk.cons (stepOk_pure [(10, 34)] [] rfl rfl (by kernel_rfl) (by kernel_rfl) rfl Old.refl' (fun _ _ _ h => h) (fun d E w' hk hda hS hc hf => by rintro _ q10 rfl e34 ; exact ⟨_, by go_simp, rfl⟩)) ?_
    exact StepsOk.nil
  case ends =>
    intro σ9 w9 hS9 hA9
    refine Ends.eqv (some 24) (.pointer (some ⟨w.heap.size, 1, none⟩)) rfl (fun _ h => h) ?_
    refine Ends.eqv (some 25) (.int .i64 s) rfl (fun _ h => h) ?_
    refine Ends.eqv (some 26) (.pointer (some ⟨g, 0, none⟩)) rfl (fun _ h => h) ?_
    refine Ends.eqv (some 27) (.pointer (some ⟨w.heap.size, 0, none⟩)) rfl (fun _ h => h) ?_
    refine Ends.eqv (some 28) (.int .i64 c) rfl (fun _ h => h) ?_
    refine Ends.eqv (some 29) (.pointer (some ⟨g, 0, none⟩)) rfl (fun _ h => h) ?_
    refine Ends.eqv (some 30) (.pointer (some ⟨g, 4, none⟩)) rfl (fun _ h => h) ?_
    refine Ends.eqv (some 31) (.pointer (some ⟨g, 4 + c * 6, none⟩)) rfl (fun _ h => h) ?_
    refine Ends.eqv (some 32) (.pointer (some ⟨g, 4 + c * 6, none⟩)) rfl (fun _ h => h) ?_
    refine Ends.eqv (some 33) (.int .i64 x) rfl (fun _ h => h) ?_
    refine Ends.eqv (some 34) (.bool true) rfl (fun _ h => h) ?_
    refine Ends.eqv (some 23) (.bool true) rfl (fun _ h => h) ?_
    refine Ends.nil ?_
    clear hA9
    simp only [put_lit, put_none, List.set_cons_zero, List.set_cons_succ]
    clear x0 x1 x2 x3 x4 x5 y0 y1 y2 y3 f0 f1 f2 f3 l1 o1 hbb
    obtain ⟨⟨x0, x1, x2, x3, x4, x5⟩, ⟨y0, y1, y2, y3⟩, ⟨f0, f1, f2, f3⟩, l1, o1⟩ := hX.out _ hS9
    have hbb := hS9
    clear hS9
    go_wp2_with fail
    refine bodyPost_ret (v := .tuple #[.agg #[.int .i64 0, .int .i64 0, .string ByteArray.empty, .slice none 0 0], .int .i64 9]) ?_ rfl ⟨rfl, ?_⟩
    · simp [results, Try.results35, go_sem, *]
      try rfl
    · repeat (first | with_reducible exact o1 | with_reducible refine Old.setCell' ?_ (by simp) _)
end Go.Proofs.Ytffahoocbjfdaaa
namespace Go.Proofs.Ytffahoocbjfdaaa
open Go.RowKit
theorem VTab.gF {w : World} {g o : Nat} {F : Nat → Prop} {f : Int → List Ver} (h : VTab w g o F f) : F g := by
  obtain ⟨A, ck, B, cv, vs, -, hF, -⟩ := h.ex
  exact hF g (.inl rfl)
theorem VPut {w : World} {g o : Nat} {F : Nat → Prop} {f : Int → List Ver} (h : VTab w g o F f) (hlt : ∀ x, F x → x < w.heap.size) (k : Int) (hk : 0 ≤ k ∧ k ≤ 31) (A3 : Option Addr) (n3 c3 : Nat) (l : List Ver) (hV : Vers w A3 l) (hn : l.length = n3)
    (hc : n3 ≤ c3) (hl : l ≠ []) (hA : ∀ a, A3 = some a → ¬ F a.block ∧ a.block < w.heap.size) :
    Calls Try.prog 48 #[.pointer (some ⟨g, o, none⟩), .int .i64 k, .slice A3 n3 c3] w fun e w' => (∃ r fl, e = .returned (.tuple #[r, .bool fl])) ∧
      (∃ F', VTab w' g o F' (fun i => if i = k then l else f i) ∧ ∀ x, F' x → (F x ∨ (∃ a, A3 = some a ∧ x = a.block) ∨ w.heap.size ≤ x) ∧ x < w'.heap.size) ∧ Fr F w w' ∧ Keeps g o w w' := by
  obtain ⟨A, ck, B, cv, vs, ht, hF, hrows⟩ := h.ex
  have hr := ksOf_rise f
  have hp := plc_place hr k
  have hlen := ksOf_length f
  have hvl : vs.length = (ksOf f).length := by have := ht.vo.1; omega
  have hput := ksOf_put (f := f) hk hl
  have fin : ∀ (w' : World) (A' : Option Addr) (m ck' : Nat) (B' : Option Addr) (cv' : Nat), (putK (ksOf f) k).length = m → VTabAt w' 0 g o (.slice A' m ck') (.slice B' m cv') (putK (ksOf f) k) (putV (ksOf f) vs k (.slice A3 n3 c3)) →
      Fr (Foot g (.slice A (ksOf f).length ck) (.slice B (ksOf f).length cv)) w w' → (∀ x, Foot g (.slice A' m ck') (.slice B' m cv') x → Foot g (.slice A (ksOf f).length ck) (.slice B (ksOf f).length cv) x ∨ w.heap.size ≤ x) → Keeps g o w w' →
      (∃ F', VTab w' g o F' (fun i => if i = k then l else f i) ∧ ∀ x, F' x → (F x ∨ (∃ a, A3 = some a ∧ x = a.block) ∨ w.heap.size ≤ x) ∧ x < w'.heap.size) ∧ Fr F w w' ∧ Keeps g o w w' := by
    intro w' A' m ck' B' cv' hm ht' hfr hnew hkeep
    subst hm
    refine ⟨⟨fun x => F x ∨ (∃ a, A3 = some a ∧ x = a.block) ∨ Foot g (.slice A' (putK (ksOf f) k).length ck') (.slice B' (putK (ksOf f) k).length cv') x, ⟨A', ck', B', cv', _, by rw [← hput]; exact ht', ?_, ?_⟩, ?_⟩, hfr.mono fun x _ hx => hF x hx, hkeep⟩
    · rw [← hput]; exact fun x hx => .inr (.inr hx)
    · rw [← hput]
      intro i k' v hk' hv'
      rcases putV_at hr hvl hk' hv' with ⟨rfl, rfl⟩ | ⟨j, hj1, hj2, hne⟩
      · refine ⟨A3, c3, by simp [hn], ?_, by simpa [hn] using hc, fun _ a ha => ⟨.inr (.inl ⟨a, ha, rfl⟩), fun hx => ?_⟩⟩
        · simp only [if_true]
          exact CellsAt.fr hV hfr (fun _ a ha hx => (hA a ha).1 (hF _ hx))
        · rcases hnew _ hx with hx | hx
          · exact (hA a ha).1 (hF _ hx)
          · have := (hA a ha).2; omega
      · simp only [if_neg hne]
        obtain ⟨A1, c1, rfl, hV1, hc1, hoff⟩ := (hrows j k' v hj1 hj2).fr' hfr
        refine ⟨A1, c1, rfl, hV1, hc1, fun hne' a ha => ⟨.inl (hoff hne' a ha).1, fun hx => ?_⟩⟩
        rcases hnew _ hx with hx | hx
        · exact (hoff hne' a ha).2 hx
        · have := hlt _ (hoff hne' a ha).1; omega
    · rintro x (hx | hx | hx)
      · exact ⟨.inl hx, Nat.lt_of_lt_of_le (hlt x hx) hfr.size⟩
      · obtain ⟨a, ha, rfl⟩ := hx
        exact ⟨.inr (.inl ⟨a, ha, rfl⟩), Nat.lt_of_lt_of_le (hA a ha).2 hfr.size⟩
      · refine ⟨?_, ?_⟩
        · rcases hnew x hx with hx | hx
          · exact .inl (hF x hx)
          · exact .inr (.inr hx)
        · rcases hx with rfl | hx | hx
          · exact ht'.lt
          · exact (ht'.ko.lt x hx).2
          · exact (ht'.vo.lt x hx).2
  by_cases hm : k ∈ ksOf f
  · obtain ⟨hil, hat⟩ := plc_lt hr hm
    have hv : vs[plc (ksOf f) k]? = some (vs[plc (ksOf f) k]'(by omega)) := List.getElem?_eq_getElem (by omega)
    refine (VPut_old 0 g o _ _ ck cv A B (ksOf f) vs k A3 n3 c3 _ rfl (by omega) hp hil hat hv w ht).mono ?_
    rintro e w' ⟨rfl, ht', hfr, hkeep⟩
    have e1 : putK (ksOf f) k = ksOf f := by unfold putK; rw [if_pos hm]
    have e2 : putV (ksOf f) vs k (.slice A3 n3 c3) = vs.set (plc (ksOf f) k) (.slice A3 n3 c3) := by unfold putV; rw [if_pos hm]
    exact ⟨⟨_, _, rfl⟩, fin w' A _ ck B cv (by rw [e1]) (by rw [e1, e2]; exact ht') hfr (fun x hx => .inl hx) hkeep⟩
  · refine (VPut_new 0 g o _ _ ck cv A B (ksOf f) vs k A3 n3 c3 rfl (by omega) hp (by rw [found_iff hr hp, decide_eq_false hm]) w ht).mono ?_
    rintro e w' ⟨A', c', B', d', rfl, ht', hfr, hkeep, hnew⟩
    have e1 : putK (ksOf f) k = (ksOf f).take (plc (ksOf f) k) ++ ([k] ++ (ksOf f).drop (plc (ksOf f) k)) := by unfold putK; rw [if_neg hm]
    have e2 : putV (ksOf f) vs k (.slice A3 n3 c3) = vs.take (plc (ksOf f) k) ++ ([.slice A3 n3 c3] ++ vs.drop (plc (ksOf f) k)) := by unfold putV; rw [if_neg hm]
    exact ⟨⟨_, _, rfl⟩, fin w' A' _ c' B' d' (by rw [len_putK hr, if_neg hm]) (by rw [e1, e2]; exact ht') hfr hnew hkeep⟩
end Go.Proofs.Ytffahoocbjfdaaa

/- A store's block, written piece by piece. -/
namespace Go.Proofs.Ytffahoocbjfdaaa
open Go.RowKit
structure StB (w : World) (g : Nat) (F : Nat → Prop) (quota : Int) (n : Nat) (f : Int → List Ver) (ss : Int → Sess) : Prop where
  q0 : w.cell? ⟨g, 0, none⟩ = some (.int .i64 quota)
  n0 : w.cell? ⟨g, 1, none⟩ = some (.int .i64 n)
  tab : VTab w g 2 F f
  ses : ∀ c : Nat, c < 4 → SesAt w g (4 + c * 6) (ss c)
  fz : ∀ o, w.frozen? ⟨g, o, none⟩ = false
  lt : ∀ k, F k → k < w.heap.size
  gF : F g
theorem StAt.b {w : World} {g : Nat} {F : Nat → Prop} {s : StV} (h : StAt w g F s) : StB w g F s.quota s.n s.f s.ss := ⟨h.q0, h.n0, h.tab, h.ses, h.fz, h.lt, h.gF⟩
theorem StB.a {w : World} {g : Nat} {F : Nat → Prop} {s : StV} (h : StB w g F s.quota s.n s.f s.ss) (few : ∀ k, (s.f k).length ≤ s.n) (off : ∀ k, ¬ (0 ≤ k ∧ k ≤ 31) → s.f k = []) : StAt w g F s :=
  ⟨h.q0, h.n0, h.tab, h.ses, h.fz, h.lt, h.gF, few, off⟩
theorem cell_set_ne {w : World} {g i j : Nat} (u : Value) (h : i ≠ j) : (w.setCell ⟨g, j, none⟩ u).cell? ⟨g, i, none⟩ = w.cell? ⟨g, i, none⟩ := World.cell?_setCell_other _ _ _ _ (by intro e; injection e; omega)
theorem cell_set_eq {w : World} {g j : Nat} (u : Value) {v : Value} (h : w.cell? ⟨g, j, none⟩ = some v) : (w.setCell ⟨g, j, none⟩ u).cell? ⟨g, j, none⟩ = some u := by simp [go_sem, h]
theorem size_set {w : World} {p : Addr} (u : Value) : (w.setCell p u).heap.size = w.heap.size := by simp [World.setCell]
theorem VTab.set_ {w : World} {g o : Nat} {F : Nat → Prop} {f : Int → List Ver} (h : VTab w g o F f) {j : Nat} (h1 : o ≠ j) (h2 : o + 1 ≠ j) (u : Value) : VTab (w.setCell ⟨g, j, none⟩ u) g o F f := by
  obtain ⟨A, ck, B, cv, vs, ht, hF, hr⟩ := h.ex
  have hf : Fr (fun k => k = g) w (w.setCell ⟨g, j, none⟩ u) := Fr.setCell (S := fun k => k = g) (p := ⟨g, j, none⟩) (Fr.of_old (Old.refl' w)) (.inr rfl) u
  refine ⟨A, ck, B, cv, vs, ⟨(cell_set_ne u h1).trans ht.k0, (cell_set_ne u h2).trans ht.v0, by rw [World.frozen?_setCell]; exact ht.fk, by rw [World.frozen?_setCell]; exact ht.fv, own_fr ht.ko hf (fun k hk e => ht.kg (by rw [hk, e])), own_fr ht.vo hf (fun k hk e => ht.vg (by rw [hk, e])), ht.one, ht.ne, ht.kg, ht.vg, ht.low, by rw [size_set]; exact ht.lt, ht.rise⟩, hF, fun i k v hk hv => ?_⟩
  obtain ⟨A1, c1, rfl, hV, hc, ho⟩ := hr i k v hk hv
  refine ⟨A1, c1, rfl, CellsAt.fr hV hf (fun hn a ha e => ?_), hc, ho⟩
  have hl : f k ≠ [] := fun e => hn (by rw [e]; rfl)
  exact (ho hl a ha).2 (.inl e)
section
variable {w w' : World} {g : Nat} {F F' S : Nat → Prop} {quota : Int} {n : Nat} {f f' : Int → List Ver} {ss : Int → Sess}
theorem StB.fr (h : StB w g F quota n f ss) (hf : Fr S w w') (hS : ∀ k, F k → ¬ S k) : StB w' g F quota n f ss := by
  have hg := h.lt g h.gF
  have hc : ∀ j, w'.cell? ⟨g, j, none⟩ = w.cell? ⟨g, j, none⟩ := fun j => hf.cell (p := ⟨g, j, none⟩) hg (hS g h.gF)
  exact ⟨(hc _).trans h.q0, (hc _).trans h.n0, h.tab.fr hf hS, fun c hcc => (h.ses c hcc).fr hg hf (hS g h.gF), fun j => (hf.frozen (p := ⟨g, j, none⟩) hg (hS g h.gF)).trans (h.fz j), fun k hk => Nat.lt_of_lt_of_le (h.lt k hk) hf.size, h.gF⟩
theorem StB.old (h : StB w g F quota n f ss) (hf : Old w w') : StB w' g F quota n f ss := h.fr (S := fun _ => False) (Fr.of_old hf) (fun _ _ h => h)
theorem StB.drew (h : StB w g F quota n f ss) : StB w.drew g F quota n f ss := h.old ((Old.refl' w).drew')
theorem SesAt.move {o : Nat} {x : Sess} (h : SesAt w g o x) (hc : ∀ i, i < 6 → w'.cell? ⟨g, o + i, none⟩ = w.cell? ⟨g, o + i, none⟩) : SesAt w' g o x := by
  obtain ⟨s0, s1, s2, s3, s4, s5, A, cc, s6⟩ := h
  exact ⟨(hc 0 (by omega)).trans s0, (hc 1 (by omega)).trans s1, (hc 2 (by omega)).trans s2, (hc 3 (by omega)).trans s3, (hc 4 (by omega)).trans s4, s5, A, cc, (hc 5 (by omega)).trans s6⟩
theorem StB.keep (h : StB w g F quota n f ss) (hk : Keeps g 2 w w') (ht : VTab w' g 2 F' f') (hlt : ∀ k, F' k → k < w'.heap.size) (hg : F' g) : StB w' g F' quota n f' ss := by
  have hc : ∀ j, j ≠ 2 → j ≠ 3 → w'.cell? ⟨g, j, none⟩ = w.cell? ⟨g, j, none⟩ := fun j h1 h2 => (hk j h1 h2).1
  have hz : ∀ j, j ≠ 2 → j ≠ 3 → w'.frozen? ⟨g, j, none⟩ = w.frozen? ⟨g, j, none⟩ := fun j h1 h2 => (hk j h1 h2).2
  obtain ⟨A, ck, B, cv, vs, ha, -, -⟩ := ht.ex
  refine ⟨(hc _ (by omega) (by omega)).trans h.q0, (hc _ (by omega) (by omega)).trans h.n0, ht, fun c hcc => ?_, fun j => ?_, hlt, hg⟩
  · exact (h.ses c hcc).move fun i hi => hc _ (by omega) (by omega)
  · by_cases h2 : j = 2
    · subst h2; exact ha.fk
    · by_cases h3 : j = 3
      · subst h3; exact ha.fv
      · exact (hz j h2 h3).trans (h.fz j)
theorem StB.setN (h : StB w g F quota n f ss) (m : Nat) (v : Int) (hv : v = m) : StB (w.setCell ⟨g, 1, none⟩ (.int .i64 v)) g F quota m f ss := by
  subst hv
  have hc : ∀ j, j ≠ 1 → (w.setCell ⟨g, 1, none⟩ (.int .i64 m)).cell? ⟨g, j, none⟩ = w.cell? ⟨g, j, none⟩ := fun j h1 => cell_set_ne _ h1
  refine ⟨(hc _ (by omega)).trans h.q0, cell_set_eq _ h.n0, h.tab.set_ (by omega) (by omega) _, fun c hcc => ?_, fun j => by rw [World.frozen?_setCell]; exact h.fz j, fun k hk => by rw [size_set]; exact h.lt k hk, h.gF⟩
  exact (h.ses c hcc).move fun i hi => hc _ (by omega)
theorem Bk.set4 {b : Nat} {t : TypeId} {a0 a1 a2 a3 b0 b1 b2 b3 : Value} (h : Bk w b t #[a0, a1, a2, a3]) : Bk ((((w.setCell ⟨b, 0, none⟩ b0).setCell ⟨b, 1, none⟩ b1).setCell ⟨b, 2, none⟩ b2).setCell ⟨b, 3, none⟩ b3) b t #[b0, b1, b2, b3] := by
  have := (((h.set_ 0 b0).set_ 1 b1).set_ 2 b2).set_ 3 b3
  simpa using this
def setSes (w : World) (g o : Nat) (x : Sess) (A : Option Addr) (c : Nat) : World :=
  (((((w.setCell ⟨g, o, none⟩ (.int .i64 x.seq)).setCell ⟨g, o + 1, none⟩ (.int .i64 x.place)).setCell ⟨g, o + 2, none⟩ (.int .i64 x.rep.code)).setCell ⟨g, o + 3, none⟩ (.int .i64 x.rep.ver)).setCell ⟨g, o + 4, none⟩ (.string x.rep.data)).setCell ⟨g, o + 5, none⟩ (.slice A 0 c)
theorem setSes_other {o j : Nat} {x : Sess} {A : Option Addr} {c : Nat} (h : j < o ∨ o + 5 < j) : (setSes w g o x A c).cell? ⟨g, j, none⟩ = w.cell? ⟨g, j, none⟩ := by
  unfold setSes
  rw [cell_set_ne _ (by omega), cell_set_ne _ (by omega), cell_set_ne _ (by omega), cell_set_ne _ (by omega), cell_set_ne _ (by omega), cell_set_ne _ (by omega)]
theorem setSes_fz {o : Nat} {x : Sess} {A : Option Addr} {c : Nat} (p : Addr) : (setSes w g o x A c).frozen? p = w.frozen? p := by
  unfold setSes
  simp only [World.frozen?_setCell]
theorem setSes_size {o : Nat} {x : Sess} {A : Option Addr} {c : Nat} : (setSes w g o x A c).heap.size = w.heap.size := by
  unfold setSes
  simp only [size_set]
theorem setSes_fr {o : Nat} {x : Sess} {A : Option Addr} {c : Nat} : Fr (fun k => k = g) w (setSes w g o x A c) := by
  unfold setSes
  have st : ∀ {W : World} (j : Nat) (u : Value), Fr (fun k => k = g) w W → Fr (fun k => k = g) w (W.setCell ⟨g, j, none⟩ u) := fun j u h => Fr.setCell (p := ⟨g, j, none⟩) h (.inr rfl) u
  exact st _ _ (st _ _ (st _ _ (st _ _ (st _ _ (st _ _ (Fr.refl _ w))))))
theorem setSes_at {o : Nat} {x y : Sess} {A : Option Addr} {c : Nat} (h : SesAt w g o y) (hv : x.rep.vs = []) : SesAt (setSes w g o x A c) g o x := by
  obtain ⟨s0, s1, s2, s3, s4, s5, A', c', s6⟩ := h
  unfold setSes
  refine ⟨?_, ?_, ?_, ?_, ?_, hv, A, c, ?_⟩
  · rw [cell_set_ne _ (by omega), cell_set_ne _ (by omega), cell_set_ne _ (by omega), cell_set_ne _ (by omega), cell_set_ne _ (by omega)]; exact cell_set_eq _ s0
  · rw [cell_set_ne _ (by omega), cell_set_ne _ (by omega), cell_set_ne _ (by omega), cell_set_ne _ (by omega)]; exact cell_set_eq _ ((cell_set_ne _ (by omega)).trans s1)
  · rw [cell_set_ne _ (by omega), cell_set_ne _ (by omega), cell_set_ne _ (by omega)]; exact cell_set_eq _ ((cell_set_ne _ (by omega)).trans ((cell_set_ne _ (by omega)).trans s2))
  · rw [cell_set_ne _ (by omega), cell_set_ne _ (by omega)]; exact cell_set_eq _ ((cell_set_ne _ (by omega)).trans ((cell_set_ne _ (by omega)).trans ((cell_set_ne _ (by omega)).trans s3)))
  · rw [cell_set_ne _ (by omega)]; exact cell_set_eq _ ((cell_set_ne _ (by omega)).trans ((cell_set_ne _ (by omega)).trans ((cell_set_ne _ (by omega)).trans ((cell_set_ne _ (by omega)).trans s4))))
  · exact cell_set_eq _ ((cell_set_ne _ (by omega)).trans ((cell_set_ne _ (by omega)).trans ((cell_set_ne _ (by omega)).trans ((cell_set_ne _ (by omega)).trans ((cell_set_ne _ (by omega)).trans s6)))))
theorem setSes_tab {o : Nat} {x : Sess} {A : Option Addr} {c : Nat} (h : VTab w g 2 F f) (ho : 4 ≤ o) : VTab (setSes w g o x A c) g 2 F f := by
  unfold setSes
  exact (((((h.set_ (by omega) (by omega) _).set_ (by omega) (by omega) _).set_ (by omega) (by omega) _).set_ (by omega) (by omega) _).set_ (by omega) (by omega) _).set_ (by omega) (by omega) _
theorem StB.setS (h : StB w g F quota n f ss) {c : Nat} (hc : c < 4) (x : Sess) (hv : x.rep.vs = []) (A : Option Addr) (cc : Nat) : StB (setSes w g (4 + c * 6) x A cc) g F quota n f (fun k => if k = (c : Int) then x else ss k) := by
  refine ⟨(setSes_other (by omega)).trans h.q0, (setSes_other (by omega)).trans h.n0, setSes_tab h.tab (by omega), fun c' hc' => ?_, fun j => by rw [setSes_fz]; exact h.fz j, fun k hk => by rw [setSes_size]; exact h.lt k hk, h.gF⟩
  by_cases e : c' = c
  · subst e
    simp only [if_true]
    exact setSes_at (h.ses c' hc') hv
  · have e' : ¬ (c' : Int) = (c : Int) := by omega
    simp only [if_neg e']
    exact (h.ses c' hc').move fun i hi => setSes_other (by omega)
end
def AfterDo (w WB w' : World) (nL : Nat) (L : List Ver) (R : Rep) (v6 v8 : Value) : Prop :=
  ∃ A1 c1 b8 A2 c2, v6 = .slice A1 nL c1 ∧ v8 = .pointer (some ⟨b8, 0, none⟩) ∧ Old WB w' ∧ Vers w' A1 L ∧ (∀ a, A1 = some a → w.heap.size + 2 ≤ a.block) ∧ nL ≤ c1 ∧
    Bk w' b8 43 #[.int .i64 R.code, .int .i64 R.ver, .string R.data, .slice A2 0 c2] ∧ w.heap.size + 2 ≤ b8 ∧ (L ≠ [] → ∀ a, A1 = some a → a.block ≠ b8)
def AfterPut (w w' : World) (g b8 : Nat) (F : Nat → Prop) (quota : Int) (n : Nat) (f : Int → List Ver) (ss : Int → Sess) (qc : Array Value) (rc : Array Value) : Prop :=
  ∃ F1, StB w' g F1 quota n f ss ∧ (∀ k, F1 k → F k ∨ w.heap.size ≤ k) ∧ Fr F w w' ∧ Bk w' w.heap.size 24 qc ∧ Bk w' (w.heap.size + 1) 43 #[.int .i64 0, .int .i64 0, .string ByteArray.empty, .slice none 0 0] ∧ Bk w' b8 43 rc ∧
    ¬ F1 w.heap.size ∧ ¬ F1 (w.heap.size + 1) ∧ ¬ F1 b8
theorem vers_len {w : World} {A : Option Addr} {L : List Ver} (h : Vers w A L) (hL : L ≠ []) : ∀ a, A = some a → a.block < w.heap.size := fun a ha => by
  obtain ⟨b, o, e, hb, _⟩ := h (by
    intro e
    have := verCells_length L
    rw [e] at this
    cases L with
    | nil => exact hL rfl
    | cons x l => simp at this)
  rw [ha] at e
  injection e with e
  subst e
  exact hb
end Go.Proofs.Ytffahoocbjfdaaa

/- store.Store.Put of a request that may be put. -/
namespace Go.Proofs.Ytffahoocbjfdaaa
open Go.RowKit
theorem Do_at2 (L : List Ver) (R : Rep) (A : Option Addr) (n cap : Nat) (vs : List Ver) (hn : n ≤ 100000) (hl : n = vs.length) (c s k i m quota : Int) (d : ByteArray) (w : World) (hV : Vers w A vs) (hm : -9223372036854775808 ≤ m) (hm2 : m ≤ 9223372036854775807)
    (hL : doL vs k m quota d = L) (hR : doRep vs k m quota d = R) (nL nR : Nat) (h1 : L.length = nL) (h2 : R.vs.length = nR) :
    Calls Try.prog 47 #[.slice A n cap, .agg #[.int .i64 c, .int .i64 s, .int .i64 k, .int .i64 i, .int .i64 m, .string d], .int .i64 quota] w fun e w' =>
      ∃ A1 c1 A2 c2, e = .returned (.tuple #[.slice A1 nL c1, .agg #[.int .i64 R.code, .int .i64 R.ver, .string R.data, .slice A2 nR c2]]) ∧ (Vers w' A1 L ∧ (∀ a, A1 = some a → w.heap.size ≤ a.block) ∧ nL ≤ c1) ∧ Old w w' := by
  subst hL hR h1 h2
  refine (Do_any A n cap vs hn hl c s k i m quota d w hV hm hm2).mono ?_
  rintro e w' ⟨v, u, rfl, ⟨A1, c1, rfl, hv, hnew, hc⟩, ⟨A2, c2, rfl, hi, _⟩, hb⟩
  exact ⟨A1, c1, A2, c2, rfl, ⟨hv, hnew, hc⟩, hb⟩
theorem doL_len (vs : List Ver) (k m quota : Int) (d : ByteArray) : vs.length ≤ (doL vs k m quota d).length := by
  unfold doL
  split
  · unfold doR
    repeat' split
    all_goals simp
  · omega
set_option maxRecDepth 100000 in
set_option maxHeartbeats 4000000 in
theorem Put_done (g : Nat) (F : Nat → Prop) (st : StV) (q : Q) (hq : (q.may && Writes q.kind) = true) (hs : (st.ss q.client).seq < q.seq) (hfew : st.n ≤ 50000) (w : World) (h : StAt w g F st) :
    Calls Try.prog 35 #[.pointer (some ⟨g, 0, none⟩), q.v] w fun e w' => (∃ A c, e = .returned (.tuple #[.agg #[.int .i64 (st.doRep q).code, .int .i64 (st.doRep q).ver, .string (st.doRep q).data, .slice A 0 c], .int .i64 0])) ∧
      (∃ F', StAt w' g F' (st.done q) ∧ ∀ k, F' k → F k ∨ w.heap.size ≤ k) ∧ Fr F w w' := by
  obtain ⟨c, s, k, i, m, d⟩ := q
  obtain ⟨R, hR⟩ : ∃ R, st.doRep ⟨c, s, k, i, m, d⟩ = R := ⟨_, rfl⟩
  obtain ⟨L, hL⟩ : ∃ L, st.doL ⟨c, s, k, i, m, d⟩ = L := ⟨_, rfl⟩
  have hL' : doL (st.f i) k m st.quota d = L := hL
  have hR' : doRep (st.f i) k m st.quota d = R := hR
  have HR := hide hR
  have HL := hide hL
  rw [hR]
  clear hR hL
  simp only [Q.v, Q.may, Bool.and_eq_true] at hq hs ⊢
  obtain ⟨h1, h2⟩ := hq
  have hcc : 0 ≤ c ∧ c ≤ 3 ∧ 0 ≤ i ∧ i ≤ 31 ∧ -9223372036854775808 ≤ m ∧ m ≤ 9223372036854775807 := by
    simp only [mayQ, Bool.and_eq_true, decide_eq_true_eq] at h1
    omega
  obtain ⟨hc0, hc3, hi0, hi31, hm0, hm1⟩ := hcc
  obtain ⟨c, rfl⟩ : ∃ n : Nat, c = n := ⟨c.toNat, by omega⟩
  obtain ⟨x, hx⟩ : ∃ x, (st.ss c).seq = x := ⟨_, rfl⟩
  rw [hx] at hs
  obtain ⟨n, hn⟩ : ∃ n, (st.f i).length = n := ⟨_, rfl⟩
  have hnf := h.few i
  obtain ⟨A, cc, fl, hV, -, hg⟩ := h.get i n hn
  have cG := hide hg
  have hRv : R.vs = [] := by
    rw [← hR']
    unfold doRep
    have : k = 1 ∨ k = 2 ∨ k = 3 := by simpa [Writes, or_assoc] using h2
    rw [if_pos this]
  have hLlen : L.length ≤ n + 1 := by
    rw [← hL', ← hn]
    unfold doL
    split
    · unfold doR
      repeat' split
      all_goals simp
    · omega
  obtain ⟨nL, hnL⟩ : ∃ nL, L.length = nL := ⟨_, rfl⟩
  have cD := hide (fun (W : World) (hW : Old w W) => Do_at2 L R A n cc (st.f i) (by omega) hn.symm c s k i m st.quota d W (CellsAt.old hV hW) hm0 hm1 hL' hR' nL 0 hnL (by rw [hRv]; rfl))
  have hQ := hide (fun (W : World) (hW : Old w W) => (hx ▸ ((h.old hW).ses c (by omega)).1 : W.cell? ⟨g, 4 + c * 6, none⟩ = some (.int .i64 x)))
  have hQ0 := hide (fun (W : World) (hW : Old w W) => (h.old hW).q0)
  have cM := hide (fun (W : World) => iMay_at c s k i m d true h1 W)
  have cW := hide (fun (W : World) => iWrites_at c s k i m d true h2 W)
  have hX := hide (fun (W : World) (h : Old ((w.alloc (.cells #[.int .i64 c, .int .i64 s, .int .i64 k, .int .i64 i, .int .i64 m, .string d] 24)).alloc (.cells #[.int .i64 0, .int .i64 0, .string ByteArray.empty, .slice none 0 0] 43)) W) => boxed h)
  have hle : ¬ s ≤ x := by omega
  have hc4 : (c : Int) < 4 := by omega
  have hgl := h.lt g h.gF
  have HS := hide h
  have HV := hide hV
  have HN := hide hn
  have HNL := hide hnL
  have HRV := hide hRv
  obtain ⟨qt, hqt⟩ : ∃ qt, st.quota = qt := ⟨_, rfl⟩
  rw [hqt] at hQ0 cD
  have HQT := hide hqt
  have HDL := hide (show n ≤ L.length by rw [← hL', ← hn]; exact doL_len _ _ _ _ _)
  clear h1 h2 hs hx h hV hg hn hnL hRv hL' hR' hqt
  go_enter Try.func35, Try.ntmps35
  go_wp2_with (first
    | (go_at_call 45; refine (cM.out _).mono ?_; rintro e w1 ⟨rfl, hb1⟩; obtain ⟨⟨x0, x1, x2, x3, x4, x5⟩, ⟨y0, y1, y2, y3⟩, ⟨f0, f1, f2, f3⟩, l1, o1⟩ := hX.out _ hb1)
    | (go_at_call 27; refine (cW.out _).mono ?_; rintro e w2 ⟨rfl, hb2⟩; clear x0 x1 x2 x3 x4 x5 y0 y1 y2 y3 f0 f1 f2 f3 l1 o1; obtain ⟨⟨x0, x1, x2, x3, x4, x5⟩, ⟨y0, y1, y2, y3⟩, ⟨f0, f1, f2, f3⟩, l1, o1⟩ := hX.out _ (hb1.trans' hb2); have hbb := hb1.trans' hb2; clear hb1 hb2))
  refine region_steps (R := pick [eqv (.pointer (some ⟨w.heap.size, 1, none⟩)), eqv (.int .i64 s), eqv (.pointer (some ⟨g, 0, none⟩)), eqv (.pointer (some ⟨w.heap.size, 0, none⟩)), eqv (.int .i64 c), eqv (.pointer (some ⟨g, 0, none⟩)), eqv (.pointer (some ⟨g, 4, none⟩)), eqv (.pointer (some ⟨g, 4 + c * 6, none⟩)), eqv (.pointer (some ⟨g, 4 + c * 6, none⟩)), eqv (.int .i64 x), eqv (.bool false), eqv (.bool false)]) (S := fun _ w' => Old ((w.alloc (.cells #[.int .i64 c, .int .i64 s, .int .i64 k, .int .i64 i, .int .i64 m, .string d] 24)).alloc (.cells #[.int .i64 0, .int .i64 0, .string ByteArray.empty, .slice none 0 0] 43)) w') (T := Old) (by kernel_rfl) (by kernel_rfl) (by kernel_rfl) (Stab.pick (Stab.eqv (Stab.eqv (Stab.eqv (Stab.eqv (Stab.eqv (Stab.eqv (Stab.eqv (Stab.eqv (Stab.eqv (Stab.eqv (Stab.eqv (Stab.eqv (Stab.nil)))))))))))))) (hbb.drew') ?steps ?ends
  case steps =>
    refine StepsOk.cons (stepOk_pure [] [(3, .pointer (some ⟨w.heap.size, 0, none⟩))] rfl rfl (by kernel_rfl) (by kernel_rfl) rfl Old.refl' (fun _ _ _ h => h) (fun d E w' hk hda hS hc hf => by rintro  e3; exact ⟨_, by go_simp, rfl⟩)) ?_
    refine StepsOk.cons (stepOk_pure [(0, 24)] [] rfl rfl (by kernel_rfl) (by kernel_rfl) rfl Old.refl' (fun _ _ _ h => h) (fun d E w' hk hda hS hc hf => by rintro _ q0 rfl e24 ; obtain ⟨⟨s0, s1, s2, s3, s4, s5⟩, -, -, -, ho⟩ := hX.out _ hS; have t0 := hQ.out _ ho; exact ⟨_, by go_simp, rfl⟩)) ?_
    refine StepsOk.cons (stepOk_pure [] [(0, .pointer (some ⟨g, 0, none⟩))] rfl rfl (by kernel_rfl) (by kernel_rfl) rfl Old.refl' (fun _ _ _ h => h) (fun d E w' hk hda hS hc hf => by rintro  e0; exact ⟨_, by go_simp, rfl⟩)) ?_
    refine StepsOk.cons (stepOk_pure [] [(3, .pointer (some ⟨w.heap.size, 0, none⟩))] rfl rfl (by kernel_rfl) (by kernel_rfl) rfl Old.refl' (fun _ _ _ h => h) (fun d E w' hk hda hS hc hf => by rintro  e3; exact ⟨_, by go_simp, rfl⟩)) ?_
    refine StepsOk.cons (stepOk_pure [(3, 27)] [] rfl rfl (by kernel_rfl) (by kernel_rfl) rfl Old.refl' (fun _ _ _ h => h) (fun d E w' hk hda hS hc hf => by rintro _ q3 rfl e27 ; obtain ⟨⟨s0, s1, s2, s3, s4, s5⟩, -, -, -, ho⟩ := hX.out _ hS; have t0 := hQ.out _ ho; exact ⟨_, by go_simp, rfl⟩)) ?_
    refine StepsOk.cons (stepOk_pure [(2, 26)] [] rfl rfl (by kernel_rfl) (by kernel_rfl) rfl Old.refl' (fun _ _ _ h => h) (fun d E w' hk hda hS hc hf => by rintro _ q2 rfl e26 ; exact ⟨_, by go_simp, rfl⟩)) ?_
    refine StepsOk.cons (stepOk_pure [(5, 29)] [] rfl rfl (by kernel_rfl) (by kernel_rfl) rfl Old.refl' (fun _ _ _ h => h) (fun d E w' hk hda hS hc hf => by rintro _ q5 rfl e29 ; exact ⟨_, by go_simp, rfl⟩)) ?_
    refine StepsOk.cons (stepOk_pure [(6, 30), (4, 28)] [] rfl rfl (by kernel_rfl) (by kernel_rfl) rfl Old.refl' (fun _ _ _ h => h) (fun d E w' hk hda hS hc hf => by rintro _ q6 rfl e30 _ q4 rfl e28 ; obtain ⟨⟨s0, s1, s2, s3, s4, s5⟩, -, -, -, ho⟩ := hX.out _ hS; have t0 := hQ.out _ ho; exact ⟨_, by go_simp, rfl⟩)) ?_
    refine StepsOk.cons (stepOk_pure [(7, 31)] [] rfl rfl (by kernel_rfl) (by kernel_rfl) rfl Old.refl' (fun _ _ _ h => h) (fun d E w' hk hda hS hc hf => by rintro _ q7 rfl e31 ; exact ⟨_, by go_simp, rfl⟩)) ?_
    refine StepsOk.cons (stepOk_pure [(8, 32)] [] rfl rfl (by kernel_rfl) (by kernel_rfl) rfl Old.refl' (fun _ _ _ h => h) (fun d E w' hk hda hS hc hf => by rintro _ q8 rfl e32 ; obtain ⟨⟨s0, s1, s2, s3, s4, s5⟩, -, -, -, ho⟩ := hX.out _ hS; have t0 := hQ.out _ ho; exact ⟨_, by go_simp, rfl⟩)) ?_
    refine StepsOk.cons (stepOk_pure [(1, 25), (9, 33)] [] rfl rfl (by kernel_rfl) (by kernel_rfl) rfl Old.refl' (fun _ _ _ h => h) (fun d E w' hk hda hS hc hf => by rintro _ q1 rfl e25 _ q9 rfl e33 ; exact ⟨_, by go_simp, rfl⟩)) ?_
    refine StepsOk.cons (stepOk_pure [(10, 34)] [] rfl rfl (by kernel_rfl) (by kernel_rfl) rfl Old.refl' (fun _ _ _ h => h) (fun d E w' hk hda hS hc hf => by rintro _ q10 rfl e34 ; exact ⟨_, by go_simp, rfl⟩)) ?_
    exact StepsOk.nil
  case ends =>
    intro σ9 w9 hS9 hA9
    refine Ends.eqv (some 24) (.pointer (some ⟨w.heap.size, 1, none⟩)) rfl (fun _ h => h) ?_
    refine Ends.eqv (some 25) (.int .i64 s) rfl (fun _ h => h) ?_
    refine Ends.eqv (some 26) (.pointer (some ⟨g, 0, none⟩)) rfl (fun _ h => h) ?_
    refine Ends.eqv (some 27) (.pointer (some ⟨w.heap.size, 0, none⟩)) rfl (fun _ h => h) ?_
    refine Ends.eqv (some 28) (.int .i64 c) rfl (fun _ h => h) ?_
    refine Ends.eqv (some 29) (.pointer (some ⟨g, 0, none⟩)) rfl (fun _ h => h) ?_
    refine Ends.eqv (some 30) (.pointer (some ⟨g, 4, none⟩)) rfl (fun _ h => h) ?_
    refine Ends.eqv (some 31) (.pointer (some ⟨g, 4 + c * 6, none⟩)) rfl (fun _ h => h) ?_
    refine Ends.eqv (some 32) (.pointer (some ⟨g, 4 + c * 6, none⟩)) rfl (fun _ h => h) ?_
    refine Ends.eqv (some 33) (.int .i64 x) rfl (fun _ h => h) ?_
    refine Ends.eqv (some 34) (.bool false) rfl (fun _ h => h) ?_
    refine Ends.eqv (some 23) (.bool false) rfl (fun _ h => h) ?_
    refine Ends.nil ?_
    clear hA9
    simp only [put_lit, put_none, List.set_cons_zero, List.set_cons_succ]
    clear x0 x1 x2 x3 x4 x5 y0 y1 y2 y3 f0 f1 f2 f3 l1 o1 hbb
    obtain ⟨⟨x0, x1, x2, x3, x4, x5⟩, ⟨y0, y1, y2, y3⟩, ⟨f0, f1, f2, f3⟩, l1, o1⟩ := hX.out _ hS9
    have hbb := hS9
    clear hS9
    go_wp2_with fail
    refine region_steps (R := pick [eqv (.pointer (some ⟨g, 0, none⟩)), eqv (.pointer (some ⟨g, 0, none⟩)), eqv (.pointer (some ⟨g, 2, none⟩)), eqv (.pointer (some ⟨w.heap.size, 3, none⟩)), eqv (.int .i64 i), eqv (.tuple #[.slice A n cc, .bool fl]), eqv (.tuple #[.slice A n cc, .bool fl]), eqv (.slice A n cc), eqv (.bool fl), eqv (.slice A n cc), eqv (.bool fl)]) (S := fun _ w' => Old ((w.alloc (.cells #[.int .i64 c, .int .i64 s, .int .i64 k, .int .i64 i, .int .i64 m, .string d] 24)).alloc (.cells #[.int .i64 0, .int .i64 0, .string ByteArray.empty, .slice none 0 0] 43)) w') (T := Old) (by kernel_rfl) (by kernel_rfl) (by kernel_rfl) (Stab.pick (Stab.eqv (Stab.eqv (Stab.eqv (Stab.eqv (Stab.eqv (Stab.eqv (Stab.eqv (Stab.eqv (Stab.eqv (Stab.eqv (Stab.eqv (Stab.nil))))))))))))) (hbb.drew') ?steps ?ends
    case steps =>
      refine StepsOk.cons (stepOk_pure [] [(0, .pointer (some ⟨g, 0, none⟩))] rfl rfl (by kernel_rfl) (by kernel_rfl) rfl Old.refl' (fun _ _ _ h => h) (fun d E w' hk hda hS hc hf => by rintro  e0; exact ⟨_, by go_simp, rfl⟩)) ?_
      refine StepsOk.cons (stepOk_pure [(0, 37)] [] rfl rfl (by kernel_rfl) (by kernel_rfl) rfl Old.refl' (fun _ _ _ h => h) (fun d E w' hk hda hS hc hf => by rintro _ q0 rfl e37 ; exact ⟨_, by go_simp, rfl⟩)) ?_
      refine StepsOk.cons (stepOk_pure [(1, 38)] [] rfl rfl (by kernel_rfl) (by kernel_rfl) rfl Old.refl' (fun _ _ _ h => h) (fun d E w' hk hda hS hc hf => by rintro _ q1 rfl e38 ; exact ⟨_, by go_simp, rfl⟩)) ?_
      refine StepsOk.cons (stepOk_pure [] [(3, .pointer (some ⟨w.heap.size, 0, none⟩))] rfl rfl (by kernel_rfl) (by kernel_rfl) rfl Old.refl' (fun _ _ _ h => h) (fun d E w' hk hda hS hc hf => by rintro  e3; exact ⟨_, by go_simp, rfl⟩)) ?_
      refine StepsOk.cons (stepOk_pure [(3, 40)] [] rfl rfl (by kernel_rfl) (by kernel_rfl) rfl Old.refl' (fun _ _ _ h => h) (fun d E w' hk hda hS hc hf => by rintro _ q3 rfl e40 ; obtain ⟨⟨s0, s1, s2, s3, s4, s5⟩, -, -, -, ho⟩ := hX.out _ hS; exact ⟨_, by go_simp, rfl⟩)) ?_
      refine StepsOk.cons (stepOk_mk [(2, 39), (4, 41)] [] rfl rfl (by kernel_rfl) (by kernel_rfl) rfl ?_) ?_
      · rintro d a w' hk hda hS _ q2 rfl e39 _ q4 rfl e41 
        first | refine Given.nil (Known.nil ?_) | refine Known.nil ?_
        refine wp_call 46 _ Try.func46 (by kernel_rfl) (by kernel_rfl) _ _ (by rfl) [.pointer (some ⟨g, 2, none⟩), .int .i64 i] (by simp only [List.map_cons, List.map_nil, *]; try rfl) (cG.out _ (hX.out _ hS).2.2.2.2) ?_
        rintro e w1 ⟨rfl, rfl⟩
        exact ⟨_, rfl, _, rfl, rfl, Old.refl' _, hS⟩
      refine StepsOk.cons (stepOk_pure [(5, 42)] [] rfl rfl (by kernel_rfl) (by kernel_rfl) rfl Old.refl' (fun _ _ _ h => h) (fun d E w' hk hda hS hc hf => by rintro _ q5 rfl e42 ; exact ⟨_, by go_simp, rfl⟩)) ?_
      refine StepsOk.cons (stepOk_pure [(6, 36)] [] rfl rfl (by kernel_rfl) (by kernel_rfl) rfl Old.refl' (fun _ _ _ h => h) (fun d E w' hk hda hS hc hf => by rintro _ q6 rfl e36 ; exact ⟨_, by go_simp, rfl⟩)) ?_
      refine StepsOk.cons (stepOk_pure [(6, 36)] [] rfl rfl (by kernel_rfl) (by kernel_rfl) rfl Old.refl' (fun _ _ _ h => h) (fun d E w' hk hda hS hc hf => by rintro _ q6 rfl e36 ; exact ⟨_, by go_simp, rfl⟩)) ?_
      refine StepsOk.cons (stepOk_pure [(7, 43)] [] rfl rfl (by kernel_rfl) (by kernel_rfl) rfl Old.refl' (fun _ _ _ h => h) (fun d E w' hk hda hS hc hf => by rintro _ q7 rfl e43 ; exact ⟨_, by go_simp, rfl⟩)) ?_
      refine StepsOk.cons (stepOk_pure [(8, 44)] [] rfl rfl (by kernel_rfl) (by kernel_rfl) rfl Old.refl' (fun _ _ _ h => h) (fun d E w' hk hda hS hc hf => by rintro _ q8 rfl e44 ; exact ⟨_, by go_simp, rfl⟩)) ?_
      exact StepsOk.nil
    case ends =>
      intro σ9 w9 hS9 hA9
      refine Ends.eqv (some 37) (.pointer (some ⟨g, 0, none⟩)) rfl (fun _ h => h) ?_
      refine Ends.eqv (some 38) (.pointer (some ⟨g, 0, none⟩)) rfl (fun _ h => h) ?_
      refine Ends.eqv (some 39) (.pointer (some ⟨g, 2, none⟩)) rfl (fun _ h => h) ?_
      refine Ends.eqv (some 40) (.pointer (some ⟨w.heap.size, 3, none⟩)) rfl (fun _ h => h) ?_
      refine Ends.eqv (some 41) (.int .i64 i) rfl (fun _ h => h) ?_
      refine Ends.eqv (some 42) (.tuple #[.slice A n cc, .bool fl]) rfl (fun _ h => h) ?_
      refine Ends.eqv (some 36) (.tuple #[.slice A n cc, .bool fl]) rfl (fun _ h => h) ?_
      refine Ends.eqv (some 43) (.slice A n cc) rfl (fun _ h => h) ?_
      refine Ends.eqv (some 44) (.bool fl) rfl (fun _ h => h) ?_
      refine Ends.eqv (some 6) (.slice A n cc) rfl (fun _ h => h) ?_
      refine Ends.eqv (some 7) (.bool fl) rfl (fun _ h => h) ?_
      refine Ends.nil ?_
      clear hA9
      simp only [put_lit, put_none, List.set_cons_zero, List.set_cons_succ]
      clear x0 x1 x2 x3 x4 x5 y0 y1 y2 y3 f0 f1 f2 f3 l1 o1 hbb
      obtain ⟨⟨x0, x1, x2, x3, x4, x5⟩, ⟨y0, y1, y2, y3⟩, ⟨f0, f1, f2, f3⟩, l1, o1⟩ := hX.out _ hS9
      have hbb := hS9
      clear hS9
      clear x0 x1 x2 x3 x4 x5 y0 y1 y2 y3 f0 f1 f2 f3
      go_wp2_with fail
      go_cut [6, 8] from 45 to 54 (fun v6 v8 w' => AfterDo w ((w.alloc (.cells #[.int .i64 c, .int .i64 s, .int .i64 k, .int .i64 i, .int .i64 m, .string d] 24)).alloc (.cells #[.int .i64 0, .int .i64 0, .string ByteArray.empty, .slice none 0 0] 43)) w' nL L R v6 v8)
      case first =>
        refine wp_region_Z (S := fun w' => Old ((w.alloc (.cells #[.int .i64 c, .int .i64 s, .int .i64 k, .int .i64 i, .int .i64 m, .string d] 24)).alloc (.cells #[.int .i64 0, .int .i64 0, .string ByteArray.empty, .slice none 0 0] 43)) w') (Z := ([12] : List Nat).contains) (by kernel_rfl) ?_
        refine wpAnyZ_pureD 0 (some 46) (.slice A n cc) rfl rfl (by kernel_rfl) (by kernel_rfl) (by kernel_rfl) (fun _ _ _ h => h) (Or.inl ⟨by kernel_rfl, fun w _ => by generalize hE : Act.eval _ = E; have e0 : E (.tmp 6) = .slice A n cc := (by rw [← hE]; kernel_rfl); clear hE; go_simp⟩) ?_
        refine wpAnyZ_takeD 1 (some 47) (.agg #[.int .i64 c, .int .i64 s, .int .i64 k, .int .i64 i, .int .i64 m, .string d]) rfl rfl (by kernel_rfl) (by kernel_rfl) (by kernel_rfl) (by kernel_rfl) (fun _ _ _ h => h) (Or.inl ⟨by kernel_rfl, fun w' hS => by obtain ⟨⟨s0, s1, s2, s3, s4, s5⟩, -, -, -, ho⟩ := hX.out _ hS; generalize hE : Act.eval _ = E; have e0 : E (.tmp 3) = .pointer (some ⟨w.heap.size, 0, none⟩) := (by rw [← hE]; kernel_rfl); clear hE; go_simp⟩) (by exact hbb.drew') ?_
        refine wpAnyZ_pureD 2 (some 48) (.pointer (some ⟨g, 0, none⟩)) rfl rfl (by kernel_rfl) (by kernel_rfl) (by kernel_rfl) (fun _ _ _ h => h) (Or.inl ⟨by kernel_rfl, fun w _ => by generalize hE : Act.eval _ = E; have e0 : E (.tmp 0) = .pointer (some ⟨g, 0, none⟩) := (by rw [← hE]; kernel_rfl); clear hE; go_simp⟩) ?_
        refine wpAnyZ_pureD 3 (some 49) (.pointer (some ⟨g, 0, none⟩)) rfl rfl (by kernel_rfl) (by kernel_rfl) (by kernel_rfl) (fun _ _ _ h => h) (Or.inl ⟨by kernel_rfl, fun w _ => by generalize hE : Act.eval _ = E; have e0 : E (.tmp 48) = .pointer (some ⟨g, 0, none⟩) := (by rw [← hE]; kernel_rfl); clear hE; go_simp⟩) ?_
        refine wpAnyZ_pureD 4 (some 50) (.pointer (some ⟨g, 0, none⟩)) rfl rfl (by kernel_rfl) (by kernel_rfl) (by kernel_rfl) (fun _ _ _ h => h) (Or.inl ⟨by kernel_rfl, fun w _ => by generalize hE : Act.eval _ = E; have e0 : E (.tmp 49) = .pointer (some ⟨g, 0, none⟩) := (by rw [← hE]; kernel_rfl); clear hE; go_simp⟩) ?_
        refine wpAnyZ_takeD 5 (some 51) (.int .i64 qt) rfl rfl (by kernel_rfl) (by kernel_rfl) (by kernel_rfl) (by kernel_rfl) (fun _ _ _ h => h) (Or.inl ⟨by kernel_rfl, fun w' hS => by obtain ⟨⟨s0, s1, s2, s3, s4, s5⟩, -, -, -, ho⟩ := hX.out _ hS; have t0 := hQ0.out _ ho; generalize hE : Act.eval _ = E; have e0 : E (.tmp 50) = .pointer (some ⟨g, 0, none⟩) := (by rw [← hE]; kernel_rfl); clear hE; go_simp⟩) (by exact hbb.drew') ?_
        refine wpAnyZ_all (rs := [6, 10]) (by kernel_rfl) (by simp) ?_
        intro j hj
        simp only [List.mem_cons, List.not_mem_nil, or_false] at hj
        rcases hj with rfl | rfl
        · refine wpOp_callD (some 52) rfl rfl (by kernel_rfl) 47 _ Try.func47 (by kernel_rfl) (by kernel_rfl) [.tmp 46, .tmp 47, .tmp 51] #[57, 24, 3] rfl [.slice A n cc, .agg #[.int .i64 c, .int .i64 s, .int .i64 k, .int .i64 i, .int .i64 m, .string d], .int .i64 qt] (by kernel_rfl) (cD.out _ (o1.drew')) ?_
          rintro e w3 ⟨A1, c1, A2, c2, rfl, ⟨hv3, hn3, hc3⟩, hb3⟩
          refine ⟨_, rfl, .inr fun h => h.trans' hb3, ?_⟩
          refine wpAnyZ_pureD 7 (some 45) (.tuple #[.slice A1 nL c1, .agg #[.int .i64 R.code, .int .i64 R.ver, .string R.data, .slice A2 0 c2]]) rfl rfl (by kernel_rfl) (by kernel_rfl) (by kernel_rfl) (fun _ _ _ h => h) (Or.inl ⟨by kernel_rfl, fun w _ => by generalize hE : Act.eval _ = E; have e0 : E (.tmp 52) = .tuple #[.slice A1 nL c1, .agg #[.int .i64 R.code, .int .i64 R.ver, .string R.data, .slice A2 0 c2]] := (by rw [← hE]; kernel_rfl); clear hE; go_simp⟩) ?_
          refine wpAnyZ_pureD 8 (some 53) (.slice A1 nL c1) rfl rfl (by kernel_rfl) (by kernel_rfl) (by kernel_rfl) (fun _ _ _ h => h) (Or.inl ⟨by kernel_rfl, fun w _ => by generalize hE : Act.eval _ = E; have e0 : E (.tmp 45) = .tuple #[.slice A1 nL c1, .agg #[.int .i64 R.code, .int .i64 R.ver, .string R.data, .slice A2 0 c2]] := (by rw [← hE]; kernel_rfl); clear hE; go_simp⟩) ?_
          refine wpAnyZ_pureD 9 (some 54) (.agg #[.int .i64 R.code, .int .i64 R.ver, .string R.data, .slice A2 0 c2]) rfl rfl (by kernel_rfl) (by kernel_rfl) (by kernel_rfl) (fun _ _ _ h => h) (Or.inl ⟨by kernel_rfl, fun w _ => by generalize hE : Act.eval _ = E; have e0 : E (.tmp 45) = .tuple #[.slice A1 nL c1, .agg #[.int .i64 R.code, .int .i64 R.ver, .string R.data, .slice A2 0 c2]] := (by rw [← hE]; kernel_rfl); clear hE; go_simp⟩) ?_
          refine wpAnyZ_one 10 (by kernel_rfl) ?_
          refine wpOp_runD (w' := w3.alloc (.cells #[.int .i64 0, .int .i64 0, .string ByteArray.empty, .slice none 0 0] 43)) (some 8) (.pointer (some ⟨w3.heap.size, 0, none⟩)) rfl rfl rfl (by go_simp; try rfl) ⟨.inr fun h => h.alloc' _, ?_⟩
          refine wpAnyZ_pureD 11 (some 6) (.slice A1 nL c1) rfl rfl (by kernel_rfl) (by kernel_rfl) (by kernel_rfl) (fun _ _ _ h => h) (Or.inl ⟨by kernel_rfl, fun w _ => by generalize hE : Act.eval _ = E; have e0 : E (.tmp 53) = .slice A1 nL c1 := (by rw [← hE]; kernel_rfl); clear hE; go_simp⟩) ?_
          refine wpAnyZ_one 12 (by kernel_rfl) ?_
          simp only [put_lit, put_none, List.set_cons_zero, List.set_cons_succ]
          refine wpOp_mk rfl rfl ?_
          go_simp
          refine wpAnyZ_end (by kernel_rfl) ?_ _
          try simp only [put_lit, put_none, List.set_cons_zero, List.set_cons_succ]
          go_wp2_with fail
          go_meet
          case rel => exact ⟨A1, c1, w3.heap.size, A2, c2, rfl, rfl, (hbb.drew'.trans' hb3).alloc' _, CellsAt.alloc hv3 _, fun a ha => by have := hn3 a ha; have := hbb.size; simp at *; omega, hc3, Bk.new w3 43 _, by have := hb3.size; have := hbb.size; simp at *; omega, fun hL a ha => by have := vers_len hv3 hL a ha; omega⟩
        · refine wpOp_runD (w' := w9.drew.alloc (.cells #[.int .i64 0, .int .i64 0, .string ByteArray.empty, .slice none 0 0] 43)) (some 8) (.pointer (some ⟨w9.drew.heap.size, 0, none⟩)) rfl rfl rfl (by go_simp; try rfl) ⟨.inr fun h => h.alloc' _, ?_⟩
          refine wpAnyZ_one 6 (by kernel_rfl) ?_
          refine wpOp_callD (some 52) rfl rfl (by kernel_rfl) 47 _ Try.func47 (by kernel_rfl) (by kernel_rfl) [.tmp 46, .tmp 47, .tmp 51] #[57, 24, 3] rfl [.slice A n cc, .agg #[.int .i64 c, .int .i64 s, .int .i64 k, .int .i64 i, .int .i64 m, .string d], .int .i64 qt] (by kernel_rfl) (cD.out _ (o1.drew'.alloc' _)) ?_
          rintro e w3 ⟨A1, c1, A2, c2, rfl, ⟨hv3, hn3, hc3⟩, hb3⟩
          refine ⟨_, rfl, .inr fun h => h.trans' hb3, ?_⟩
          have hk8 : Bk w3 w9.heap.size 43 #[.int .i64 0, .int .i64 0, .string ByteArray.empty, .slice none 0 0] := (Bk.new w9.drew 43 #[.int .i64 0, .int .i64 0, .string ByteArray.empty, .slice none 0 0]).old hb3
          obtain ⟨⟨r0, r1, r2, r3⟩, ⟨v0, v1, v2, v3⟩, l8⟩ := bk4 hk8
          have hne : ∀ a, A1 = some a → a.block ≠ w9.heap.size := fun a ha => by have := hn3 a ha; simp at this; omega
          refine wpAnyZ_pureD 7 (some 45) (.tuple #[.slice A1 nL c1, .agg #[.int .i64 R.code, .int .i64 R.ver, .string R.data, .slice A2 0 c2]]) rfl rfl (by kernel_rfl) (by kernel_rfl) (by kernel_rfl) (fun _ _ _ h => h) (Or.inl ⟨by kernel_rfl, fun w _ => by generalize hE : Act.eval _ = E; have e0 : E (.tmp 52) = .tuple #[.slice A1 nL c1, .agg #[.int .i64 R.code, .int .i64 R.ver, .string R.data, .slice A2 0 c2]] := (by rw [← hE]; kernel_rfl); clear hE; go_simp⟩) ?_
          refine wpAnyZ_pureD 8 (some 53) (.slice A1 nL c1) rfl rfl (by kernel_rfl) (by kernel_rfl) (by kernel_rfl) (fun _ _ _ h => h) (Or.inl ⟨by kernel_rfl, fun w _ => by generalize hE : Act.eval _ = E; have e0 : E (.tmp 45) = .tuple #[.slice A1 nL c1, .agg #[.int .i64 R.code, .int .i64 R.ver, .string R.data, .slice A2 0 c2]] := (by rw [← hE]; kernel_rfl); clear hE; go_simp⟩) ?_
          refine wpAnyZ_pureD 9 (some 54) (.agg #[.int .i64 R.code, .int .i64 R.ver, .string R.data, .slice A2 0 c2]) rfl rfl (by kernel_rfl) (by kernel_rfl) (by kernel_rfl) (fun _ _ _ h => h) (Or.inl ⟨by kernel_rfl, fun w _ => by generalize hE : Act.eval _ = E; have e0 : E (.tmp 45) = .tuple #[.slice A1 nL c1, .agg #[.int .i64 R.code, .int .i64 R.ver, .string R.data, .slice A2 0 c2]] := (by rw [← hE]; kernel_rfl); clear hE; go_simp⟩) ?_
          refine wpAnyZ_pureD 11 (some 6) (.slice A1 nL c1) rfl rfl (by kernel_rfl) (by kernel_rfl) (by kernel_rfl) (fun _ _ _ h => h) (Or.inl ⟨by kernel_rfl, fun w _ => by generalize hE : Act.eval _ = E; have e0 : E (.tmp 53) = .slice A1 nL c1 := (by rw [← hE]; kernel_rfl); clear hE; go_simp⟩) ?_
          refine wpAnyZ_one 12 (by kernel_rfl) ?_
          simp only [put_lit, put_none, List.set_cons_zero, List.set_cons_succ]
          refine wpOp_mk rfl rfl ?_
          go_simp
          refine wpAnyZ_end (by kernel_rfl) ?_ _
          try simp only [put_lit, put_none, List.set_cons_zero, List.set_cons_succ]
          go_wp2_with fail
          go_meet
          case rel => exact ⟨A1, c1, w9.heap.size, A2, c2, rfl, rfl, Old.setCell' (Old.setCell' (Old.setCell' (Old.setCell' ((hbb.drew'.alloc' _).trans' hb3) (by have := hbb.size; simpa using this) _) (by have := hbb.size; simpa using this) _) (by have := hbb.size; simpa using this) _) (by have := hbb.size; simpa using this) _, (((CellsAt.set_ hv3 hne _).set_ hne _).set_ hne _).set_ hne _, fun a ha => by have := hn3 a ha; have := hbb.size; simp at *; omega, hc3, Bk.set4 hk8, by have := hbb.size; simp at *; omega, fun _ => hne⟩
      case rest =>
        clear hbb l1 o1 cG cD
        obtain ⟨V1, rfl⟩ : ∃ W, W = wc := ⟨_, rfl⟩
        obtain ⟨A1, c1, b8, A2, c2, rfl, rfl, hbb, hv1, hn1, hcap, hk8, hb8, hne8⟩ := hcut
        obtain ⟨⟨x0, x1, x2, x3, x4, x5⟩, ⟨y0, y1, y2, y3⟩, ⟨f0, f1, f2, f3⟩, l1, o1⟩ := hX.out _ hbb
        have bq : Bk V1 w.heap.size 24 #[.int .i64 c, .int .i64 s, .int .i64 k, .int .i64 i, .int .i64 m, .string d] := ((Bk.new w 24 _).alloc _).old hbb
        have br : Bk V1 (w.heap.size + 1) 43 #[.int .i64 0, .int .i64 0, .string ByteArray.empty, .slice none 0 0] := (bk_new1 w _ 43 _).old hbb
        obtain ⟨f', hf'⟩ : ∃ f', (fun k' => if k' = i then L else st.f k') = f' := ⟨_, rfl⟩
        obtain ⟨n0, hn0⟩ : ∃ n0, st.n = n0 := ⟨_, rfl⟩
        have HST := hide (hn0 ▸ HQT.out ▸ (HS.out.old o1).b : StB V1 g F qt n0 st.f st.ss)
        have HF' := hide hf'
        have HN0 := hide hn0
        clear hf' hn0
        go_upto_if 57 with fail
        go_cut [] from 58 to 64 (fun w' => AfterPut w w' g b8 F qt n0 f' st.ss #[.int .i64 c, .int .i64 s, .int .i64 k, .int .i64 i, .int .i64 m, .string d] #[.int .i64 R.code, .int .i64 R.ver, .string R.data, .slice A2 0 c2])
        case first =>
          have hFw : ∀ x, F x → x < w.heap.size := HS.out.lt
          by_cases hL0 : nL = 0
          · subst hL0
            have hLn : L = [] := List.eq_nil_of_length_eq_zero HNL.out
            have hfe : f' = st.f := by
              rw [← HF'.out, hLn]
              funext k'
              split
              · rename_i e
                subst e
                exact (List.eq_nil_of_length_eq_zero (by have h1 := HNL.out; have h2 := HN.out; have h3 := HDL.out; omega)).symm
              · rfl
            have HFE := hide hfe
            clear hfe hLn x0 x1 x2 x3 x4 x5 y0 y1 y2 y3 f0 f1 f2 f3
            go_wp2_with fail
            go_meet
            case rel => exact ⟨F, by rw [HFE.out]; exact HST.out, fun x hx => .inl hx, Fr.of_old o1, bq, br, hk8, fun hx => by have := hFw _ hx; omega, fun hx => by have := hFw _ hx; omega, fun hx => by have := hFw _ hx; omega⟩
          · have hLne : L ≠ [] := fun e => hL0 (by rw [← HNL.out, e]; rfl)
            have hnpos : (0 : Int) < nL := by omega
            obtain ⟨W8, rfl⟩ : ∃ W, W = V1 := ⟨_, rfl⟩
            have cP := hide (VPut (HST.out.drew).tab (HST.out.drew).lt i ⟨hi0, hi31⟩ A1 nL c1 L (CellsAt.drew hv1) HNL.out hcap hLne (fun a ha => ⟨fun hx => by have := hFw _ hx; have := hn1 a ha; omega, vers_len hv1 hLne a ha⟩))
            rw [HF'.out] at cP
            obtain ⟨P8, hP8⟩ : ∃ P : World → Prop, P = fun w' => (∃ F', VTab w' g 2 F' f' ∧ ∀ x, F' x → (F x ∨ (∃ a, A1 = some a ∧ x = a.block) ∨ W8.drew.heap.size ≤ x) ∧ x < w'.heap.size) ∧ Fr F W8.drew w' ∧ Keeps g 2 W8.drew w' := ⟨_, rfl⟩
            have HP8 := hide (fun w' => congrFun hP8 w')
            have cP := hide (cP.out.mono fun e w' (h : _ ∧ _) => (⟨h.1, (HP8.out w').mpr h.2⟩ : (∃ r fl, e = .returned (.tuple #[r, .bool fl])) ∧ P8 w'))
            clear hP8 hLne
            go_wp2_with fail
            refine region_steps (R := pick [eqv (.pointer (some ⟨g, 0, none⟩)), eqv (.pointer (some ⟨g, 0, none⟩)), eqv (.pointer (some ⟨g, 2, none⟩)), eqv (.pointer (some ⟨w.heap.size, 3, none⟩)), eqv (.int .i64 i), eqv (.slice A1 nL c1), fun v _ => ∃ r fl, v = .tuple #[r, .bool fl]]) (S := fun σ w' => (σ 6 = none → w' = W8.drew) ∧ (σ 6 ≠ none → P8 w')) (T := (fun _ _ => True)) (by kernel_rfl) (by kernel_rfl) (by kernel_rfl) (Stab.pick (Stab.eqv (Stab.eqv (Stab.eqv (Stab.eqv (Stab.eqv (Stab.eqv (Stab.cons (fun _ _ _ _ h => h) (Stab.nil))))))))) (⟨fun _ => rfl, fun h => absurd rfl h⟩) ?steps ?ends
            case steps =>
              refine StepsOk.cons (stepOk_pure [] [(0, .pointer (some ⟨g, 0, none⟩))] rfl rfl (by kernel_rfl) (by kernel_rfl) rfl (fun _ => trivial) (fun σ v w h => by simpa [upd] using h) (fun d E w' hk hda hS hc hf => by rintro  e0; exact ⟨_, by go_simp, rfl⟩)) ?_
              refine StepsOk.cons (stepOk_pure [(0, 58)] [] rfl rfl (by kernel_rfl) (by kernel_rfl) rfl (fun _ => trivial) (fun σ v w h => by simpa [upd] using h) (fun d E w' hk hda hS hc hf => by rintro _ q0 rfl e58 ; exact ⟨_, by go_simp, rfl⟩)) ?_
              refine StepsOk.cons (stepOk_pure [(1, 59)] [] rfl rfl (by kernel_rfl) (by kernel_rfl) rfl (fun _ => trivial) (fun σ v w h => by simpa [upd] using h) (fun d E w' hk hda hS hc hf => by rintro _ q1 rfl e59 ; exact ⟨_, by go_simp, rfl⟩)) ?_
              refine StepsOk.cons (stepOk_pure [] [(3, .pointer (some ⟨w.heap.size, 0, none⟩))] rfl rfl (by kernel_rfl) (by kernel_rfl) rfl (fun _ => trivial) (fun σ v w h => by simpa [upd] using h) (fun d E w' hk hda hS hc hf => by rintro  e3; exact ⟨_, by go_simp, rfl⟩)) ?_
              refine StepsOk.cons (stepOk_pure [(3, 61)] [] rfl rfl (by kernel_rfl) (by kernel_rfl) rfl (fun _ => trivial) (fun σ v w h => by simpa [upd] using h) (fun d E w' hk hda hS hc hf => by rintro _ q3 rfl e61 ; obtain rfl := hS.1 (hk 6 (by kernel_rfl)); exact ⟨_, by go_simp, rfl⟩)) ?_
              refine StepsOk.cons (stepOk_pure [] [(6, .slice A1 nL c1)] rfl rfl (by kernel_rfl) (by kernel_rfl) rfl (fun _ => trivial) (fun σ v w h => by simpa [upd] using h) (fun d E w' hk hda hS hc hf => by rintro  e6; exact ⟨_, by go_simp, rfl⟩)) ?_
              refine StepsOk.cons (stepOk_mk [(2, 60), (4, 62), (5, 63)] [] rfl rfl (by kernel_rfl) (by kernel_rfl) rfl ?_) ?_
              · rintro d a w' hk hda hS _ q2 rfl e60 _ q4 rfl e62 _ q5 rfl e63 
                first | refine Given.nil (Known.nil ?_) | refine Known.nil ?_
                obtain rfl := hS.1 (hk 6 (by kernel_rfl))
                refine wp_call 48 _ Try.func48 (by kernel_rfl) (by kernel_rfl) _ _ (by rfl) [.pointer (some ⟨g, 2, none⟩), .int .i64 i, .slice A1 nL c1] (by simp only [List.map_cons, List.map_nil, *]; try rfl) (cP.out) ?_
                rintro e w1 ⟨⟨r8, fl8, rfl⟩, hp8⟩
                exact ⟨_, rfl, _, rfl, ⟨r8, fl8, rfl⟩, trivial, ⟨fun h => by simp [upd] at h, fun _ => hp8⟩⟩
              exact StepsOk.nil
            case ends =>
              intro σ9 w9 hS9 hA9
              refine Ends.eqv (some 58) (.pointer (some ⟨g, 0, none⟩)) rfl (fun _ h => h) ?_
              refine Ends.eqv (some 59) (.pointer (some ⟨g, 0, none⟩)) rfl (fun _ h => h) ?_
              refine Ends.eqv (some 60) (.pointer (some ⟨g, 2, none⟩)) rfl (fun _ h => h) ?_
              refine Ends.eqv (some 61) (.pointer (some ⟨w.heap.size, 3, none⟩)) rfl (fun _ h => h) ?_
              refine Ends.eqv (some 62) (.int .i64 i) rfl (fun _ h => h) ?_
              refine Ends.eqv (some 63) (.slice A1 nL c1) rfl (fun _ h => h) ?_
              refine Ends.ex (some 64) rfl ?_
              rintro _ p6 ⟨r8, fl8, rfl⟩
              refine Ends.nil ?_
              have hA9' := hA9
              clear hA9
              simp only [put_lit, put_none, List.set_cons_zero, List.set_cons_succ]
              have hp8 := hS9.2 (by have := hA9' 6 (by simp); intro e; rw [e] at this; simp at this)
              clear hS9 hA9'
              go_wp2_with fail
              go_meet
              case rel =>
                obtain ⟨⟨F', hT, hlt'⟩, hfr, hkp⟩ := (HP8.out _).mp hp8
                have hfr0 : Fr F w w9 := (Fr.of_old (o1.drew')).trans hfr
                have hbl : ∀ x, w.heap.size ≤ x → ¬ F x := fun x hx h => by have := hFw x h; omega
                have hL' : L ≠ [] := fun e => hL0 (by rw [← HNL.out, e]; rfl)
                have hno : ∀ x, w.heap.size ≤ x → x < W8.heap.size → (∀ a, A1 = some a → a.block ≠ x) → ¬ F' x := fun x h1 h2 h3 hx => by
                  rcases (hlt' x hx).1 with h | ⟨a, ha, h⟩ | h
                  · exact hbl x h1 h
                  · exact h3 a ha h.symm
                  · exact absurd h (by show ¬ W8.heap.size ≤ x; omega)
                have hq8 := hk8.lt
                refine ⟨F', (HST.out.drew).keep hkp hT (fun x hx => (hlt' x hx).2) hT.gF, fun x hx => ?_, hfr0, bq.drew.fr hfr (hbl _ (Nat.le_refl _)), br.drew.fr hfr (hbl _ (by omega)), hk8.drew.fr hfr (hbl _ (by omega)), hno _ (Nat.le_refl _) (by omega) (fun a ha => by have := hn1 a ha; omega), hno _ (by omega) (by omega) (fun a ha => by have := hn1 a ha; omega), hno _ (by omega) hq8 (hne8 hL')⟩
                rcases (hlt' x hx).1 with h | ⟨a, ha, rfl⟩ | h
                · exact .inl h
                · exact .inr (by have := hn1 a ha; omega)
                · exact .inr (by have : W8.heap.size ≤ x := h; omega)
        case rest =>
          clear hbb x0 x1 x2 x3 x4 x5 y0 y1 y2 y3 f0 f1 f2 f3 l1 bq br hk8 HST hv1 hn1 hne8 hcap
          obtain ⟨F1, hB, hF1, hfr, bq, br, hk8, nq, nr, n8⟩ := hcut
          obtain ⟨⟨x0, x1, x2, x3, x4, x5⟩, lq⟩ := bk6 bq
          have c0 := hB.n0
          have z0 := hB.fz 1
          have lg := hB.lt g hB.gF
          have ne8 : g ≠ b8 := fun e => n8 (e ▸ hB.gF)
          have neq : g ≠ w.heap.size := fun e => nq (e ▸ hB.gF)
          have ner : g ≠ w.heap.size + 1 := fun e => nr (e ▸ hB.gF)
          have hn01 : (n0 : Int) ≤ 50000 := by have := HN0.out; omega
          go_wp2_with fail
          obtain ⟨W10, hW10⟩ : ∃ W, wc.setCell ⟨g, 1, none⟩ (.int .i64 ((n0 : Int) + 1)) = W := ⟨_, rfl⟩
          have h10 : StB W10 g F1 qt (n0 + 1) f' st.ss := hW10 ▸ hB.setN (n0 + 1) _ (by omega)
          have q10 : Bk W10 w.heap.size 24 #[.int .i64 c, .int .i64 s, .int .i64 k, .int .i64 i, .int .i64 m, .string d] := hW10 ▸ bq.far (p := ⟨g, 1, none⟩) (Ne.symm neq) _
          have r10 : Bk W10 (w.heap.size + 1) 43 #[.int .i64 0, .int .i64 0, .string ByteArray.empty, .slice none 0 0] := hW10 ▸ br.far (p := ⟨g, 1, none⟩) (Ne.symm ner) _
          have k10 : Bk W10 b8 43 #[.int .i64 R.code, .int .i64 R.ver, .string R.data, .slice A2 0 c2] := hW10 ▸ hk8.far (p := ⟨g, 1, none⟩) (Ne.symm ne8) _
          have f10 : Fr F w W10 := hW10 ▸ hfr.setCell (p := ⟨g, 1, none⟩) (.inr HS.out.gF) _
          rw [hW10]
          clear hW10 x0 x1 x2 x3 x4 x5 lq c0 z0 lg hB hfr bq br hk8
          obtain ⟨⟨x0, x1, x2, x3, x4, x5⟩, lq⟩ := bk6 q10
          obtain ⟨⟨r0, r1, r2, r3⟩, -, lr⟩ := bk4 k10
          have c1' : W10.cell? ⟨g, 1, none⟩ = some (.int .i64 ((n0 : Int) + 1)) := h10.n0
          obtain ⟨t0, t1, t2, t3, t4, -, A5, c5, t5⟩ := h10.ses c (by omega)
          have z0 := h10.fz (4 + c * 6)
          have z1 := h10.fz (4 + c * 6 + 1)
          have z2 := h10.fz (4 + c * 6 + 2)
          have z3 := h10.fz (4 + c * 6 + 3)
          have z4 := h10.fz (4 + c * 6 + 4)
          have z5 := h10.fz (4 + c * 6 + 5)
          have lg := h10.lt g h10.gF
          have hcast : ((n0 : Int) + 1) = ((n0 + 1 : Nat) : Int) := by omega
          have HCAST := hide hcast
          clear hcast
          have H10 := hide h10
          clear h10
          refine region_steps (R := pick [eqv (.pointer (some ⟨g, 0, none⟩)), eqv (.pointer (some ⟨w.heap.size, 0, none⟩)), eqv (.int .i64 c), eqv (.pointer (some ⟨w.heap.size, 1, none⟩)), eqv (.int .i64 s), eqv (.pointer (some ⟨g, 0, none⟩)), eqv (.pointer (some ⟨g, 0, none⟩)), eqv (.pointer (some ⟨g, 1, none⟩)), eqv (.int .i64 (n0 + 1)), eqv (.agg #[.int .i64 R.code, .int .i64 R.ver, .string R.data, .slice A2 0 c2]), eqv (.agg #[.int .i64 s, .int .i64 (n0 + 1), .int .i64 R.code, .int .i64 R.ver, .string R.data, .slice A2 0 c2]), eqv (.pointer (some ⟨g, 0, none⟩)), eqv (.pointer (some ⟨g, 4, none⟩)), eqv (.pointer (some ⟨g, 4 + c * 6, none⟩)), eqv (undef)]) (S := fun σ w' => (σ 14 = none → w' = W10.drew) ∧ (σ 14 ≠ none → w' = setSes W10.drew g (4 + c * 6) ⟨s, n0 + 1, R⟩ A2 c2)) (T := (fun _ _ => True)) (by kernel_rfl) (by kernel_rfl) (by kernel_rfl) (Stab.pick (Stab.eqv (Stab.eqv (Stab.eqv (Stab.eqv (Stab.eqv (Stab.eqv (Stab.eqv (Stab.eqv (Stab.eqv (Stab.eqv (Stab.eqv (Stab.eqv (Stab.eqv (Stab.eqv (Stab.eqv (Stab.nil))))))))))))))))) (⟨fun _ => rfl, fun h => absurd rfl h⟩) ?steps ?ends
          case steps =>
            refine StepsOk.cons (stepOk_pure [] [(0, .pointer (some ⟨g, 0, none⟩))] rfl rfl (by kernel_rfl) (by kernel_rfl) rfl (fun _ => trivial) (fun σ v w h => by simpa [upd] using h) (fun d E w' hk hda hS hc hf => by rintro  e0; exact ⟨_, by go_simp, rfl⟩)) ?_
            refine StepsOk.cons (stepOk_pure [] [(3, .pointer (some ⟨w.heap.size, 0, none⟩))] rfl rfl (by kernel_rfl) (by kernel_rfl) rfl (fun _ => trivial) (fun σ v w h => by simpa [upd] using h) (fun d E w' hk hda hS hc hf => by rintro  e3; exact ⟨_, by go_simp, rfl⟩)) ?_
            refine StepsOk.cons (stepOk_pure [(1, 73)] [] rfl rfl (by kernel_rfl) (by kernel_rfl) rfl (fun _ => trivial) (fun σ v w h => by simpa [upd] using h) (fun d E w' hk hda hS hc hf => by rintro _ q1 rfl e73 ; obtain rfl := hS.1 (hk 14 (by kernel_rfl)); exact ⟨_, by go_simp, rfl⟩)) ?_
            refine StepsOk.cons (stepOk_pure [] [(3, .pointer (some ⟨w.heap.size, 0, none⟩))] rfl rfl (by kernel_rfl) (by kernel_rfl) rfl (fun _ => trivial) (fun σ v w h => by simpa [upd] using h) (fun d E w' hk hda hS hc hf => by rintro  e3; exact ⟨_, by go_simp, rfl⟩)) ?_
            refine StepsOk.cons (stepOk_pure [(3, 75)] [] rfl rfl (by kernel_rfl) (by kernel_rfl) rfl (fun _ => trivial) (fun σ v w h => by simpa [upd] using h) (fun d E w' hk hda hS hc hf => by rintro _ q3 rfl e75 ; obtain rfl := hS.1 (hk 14 (by kernel_rfl)); exact ⟨_, by go_simp, rfl⟩)) ?_
            refine StepsOk.cons (stepOk_pure [] [(0, .pointer (some ⟨g, 0, none⟩))] rfl rfl (by kernel_rfl) (by kernel_rfl) rfl (fun _ => trivial) (fun σ v w h => by simpa [upd] using h) (fun d E w' hk hda hS hc hf => by rintro  e0; exact ⟨_, by go_simp, rfl⟩)) ?_
            refine StepsOk.cons (stepOk_pure [(5, 77)] [] rfl rfl (by kernel_rfl) (by kernel_rfl) rfl (fun _ => trivial) (fun σ v w h => by simpa [upd] using h) (fun d E w' hk hda hS hc hf => by rintro _ q5 rfl e77 ; exact ⟨_, by go_simp, rfl⟩)) ?_
            refine StepsOk.cons (stepOk_pure [(6, 78)] [] rfl rfl (by kernel_rfl) (by kernel_rfl) rfl (fun _ => trivial) (fun σ v w h => by simpa [upd] using h) (fun d E w' hk hda hS hc hf => by rintro _ q6 rfl e78 ; exact ⟨_, by go_simp, rfl⟩)) ?_
            refine StepsOk.cons (stepOk_pure [(7, 79)] [] rfl rfl (by kernel_rfl) (by kernel_rfl) rfl (fun _ => trivial) (fun σ v w h => by simpa [upd] using h) (fun d E w' hk hda hS hc hf => by rintro _ q7 rfl e79 ; obtain rfl := hS.1 (hk 14 (by kernel_rfl)); exact ⟨_, by go_simp, rfl⟩)) ?_
            refine StepsOk.cons (stepOk_pure [] [(8, .pointer (some ⟨b8, 0, none⟩))] rfl rfl (by kernel_rfl) (by kernel_rfl) rfl (fun _ => trivial) (fun σ v w h => by simpa [upd] using h) (fun d E w' hk hda hS hc hf => by rintro  e8; obtain rfl := hS.1 (hk 14 (by kernel_rfl)); exact ⟨_, by go_simp, rfl⟩)) ?_
            refine StepsOk.cons (stepOk_pure [(4, 76), (8, 80), (9, 81)] [] rfl rfl (by kernel_rfl) (by kernel_rfl) rfl (fun _ => trivial) (fun σ v w h => by simpa [upd] using h) (fun d E w' hk hda hS hc hf => by rintro _ q4 rfl e76 _ q8 rfl e80 _ q9 rfl e81 ; exact ⟨_, by go_simp, rfl⟩)) ?_
            refine StepsOk.cons (stepOk_pure [(0, 72)] [] rfl rfl (by kernel_rfl) (by kernel_rfl) rfl (fun _ => trivial) (fun σ v w h => by simpa [upd] using h) (fun d E w' hk hda hS hc hf => by rintro _ q0 rfl e72 ; exact ⟨_, by go_simp, rfl⟩)) ?_
            refine StepsOk.cons (stepOk_pure [(11, 83)] [] rfl rfl (by kernel_rfl) (by kernel_rfl) rfl (fun _ => trivial) (fun σ v w h => by simpa [upd] using h) (fun d E w' hk hda hS hc hf => by rintro _ q11 rfl e83 ; exact ⟨_, by go_simp, rfl⟩)) ?_
            refine StepsOk.cons (stepOk_pure [(12, 84), (2, 74)] [] rfl rfl (by kernel_rfl) (by kernel_rfl) rfl (fun _ => trivial) (fun σ v w h => by simpa [upd] using h) (fun d E w' hk hda hS hc hf => by rintro _ q12 rfl e84 _ q2 rfl e74 ; obtain rfl := hS.1 (hk 14 (by kernel_rfl)); exact ⟨_, by go_simp, rfl⟩)) ?_
            refine StepsOk.cons (stepOk_store [(13, 85), (10, 82)] [] rfl rfl (by kernel_rfl) (by kernel_rfl) rfl (fun d E w' hk hda hS hc hf => by rintro _ q13 rfl e85 _ q10 rfl e82 ; obtain rfl := hS.1 (hk 14 (by kernel_rfl)); exact ⟨(((((W10.drew.setCell ⟨g, 4 + c * 6, none⟩ (.int .i64 s)).setCell ⟨g, 4 + c * 6 + 1, none⟩ (.int .i64 (n0 + 1))).setCell ⟨g, 4 + c * 6 + 2, none⟩ (.int .i64 R.code)).setCell ⟨g, 4 + c * 6 + 3, none⟩ (.int .i64 R.ver)).setCell ⟨g, 4 + c * 6 + 4, none⟩ (.string R.data)).setCell ⟨g, 4 + c * 6 + 5, none⟩ (.slice A2 0 c2), by go_simp, rfl, trivial, ⟨fun h => by simp [upd] at h, fun _ => rfl⟩⟩)) ?_
            exact StepsOk.nil
          case ends =>
            intro σ9 w9 hS9 hA9
            refine Ends.eqv (some 72) (.pointer (some ⟨g, 0, none⟩)) rfl (fun _ h => h) ?_
            refine Ends.eqv (some 73) (.pointer (some ⟨w.heap.size, 0, none⟩)) rfl (fun _ h => h) ?_
            refine Ends.eqv (some 74) (.int .i64 c) rfl (fun _ h => h) ?_
            refine Ends.eqv (some 75) (.pointer (some ⟨w.heap.size, 1, none⟩)) rfl (fun _ h => h) ?_
            refine Ends.eqv (some 76) (.int .i64 s) rfl (fun _ h => h) ?_
            refine Ends.eqv (some 77) (.pointer (some ⟨g, 0, none⟩)) rfl (fun _ h => h) ?_
            refine Ends.eqv (some 78) (.pointer (some ⟨g, 0, none⟩)) rfl (fun _ h => h) ?_
            refine Ends.eqv (some 79) (.pointer (some ⟨g, 1, none⟩)) rfl (fun _ h => h) ?_
            refine Ends.eqv (some 80) (.int .i64 (n0 + 1)) rfl (fun _ h => h) ?_
            refine Ends.eqv (some 81) (.agg #[.int .i64 R.code, .int .i64 R.ver, .string R.data, .slice A2 0 c2]) rfl (fun _ h => h) ?_
            refine Ends.eqv (some 82) (.agg #[.int .i64 s, .int .i64 (n0 + 1), .int .i64 R.code, .int .i64 R.ver, .string R.data, .slice A2 0 c2]) rfl (fun _ h => h) ?_
            refine Ends.eqv (some 83) (.pointer (some ⟨g, 0, none⟩)) rfl (fun _ h => h) ?_
            refine Ends.eqv (some 84) (.pointer (some ⟨g, 4, none⟩)) rfl (fun _ h => h) ?_
            refine Ends.eqv (some 85) (.pointer (some ⟨g, 4 + c * 6, none⟩)) rfl (fun _ h => h) ?_
            refine Ends.eqv none (undef) rfl (fun _ h => h) ?_
            refine Ends.nil ?_
            have hA9' := hA9
            clear hA9
            simp only [put_lit, put_none, List.set_cons_zero, List.set_cons_succ]
            have hw9 := hS9.2 (by have := hA9' 14 (by simp); intro e; rw [e] at this; simp at this)
            clear hS9 hA9'
            have h11 := hide (hw9 ▸ (H10.out.drew).setS (c := c) (by omega) ⟨s, n0 + 1, R⟩ HRV.out A2 c2 : StB w9 g F1 qt (n0 + 1) f' _)
            have f11 : Fr (fun k => k = g) W10.drew w9 := hw9 ▸ setSes_fr
            have r11 := r10.drew.fr f11 (Ne.symm ner)
            have k11 := k10.drew.fr f11 (Ne.symm ne8)
            have f11' := hide ((f10.drew).trans (f11.mono fun x _ hx => by subst hx; exact HS.out.gF))
            clear hw9 x0 x1 x2 x3 x4 x5 r0 r1 r2 r3 t0 t1 t2 t3 t4 t5 z0 z1 z2 z3 z4 z5 c1' lg lr lq f11 r10 k10 f10
            obtain ⟨⟨x0, x1, x2, x3⟩, -, lx⟩ := bk4 k11
            go_wp2_with fail
            refine (copied_any R.code R.ver R.data [] 0 c2 A2 (by omega) rfl _ (CellsAt.nil _ _)).mono ?_
            rintro e w12 ⟨A4, c4, rfl, -, -, hb12⟩
            obtain ⟨⟨y0, y1, y2, y3⟩, ⟨v0, v1, v2, v3⟩, ly⟩ := bk4 (r11.old hb12)
            go_wp2_with fail
            have hfin : Fr (fun k => k = w.heap.size + 1) w12 ((((w12.setCell ⟨w.heap.size + 1, 0, none⟩ (.int .i64 R.code)).setCell ⟨w.heap.size + 1, 1, none⟩ (.int .i64 R.ver)).setCell ⟨w.heap.size + 1, 2, none⟩ (.string R.data)).setCell ⟨w.heap.size + 1, 3, none⟩ (.slice A4 0 c4)) := by
              have stp : ∀ {W : World} (j : Nat) (u : Value), Fr (fun k => k = w.heap.size + 1) w12 W → Fr (fun k => k = w.heap.size + 1) w12 (W.setCell ⟨w.heap.size + 1, j, none⟩ u) := fun j u h => Fr.setCell (p := ⟨w.heap.size + 1, j, none⟩) h (.inr rfl) u
              exact stp _ _ (stp _ _ (stp _ _ (stp _ _ (Fr.refl _ w12))))
            refine bodyPost_ret (v := .tuple #[.agg #[.int .i64 R.code, .int .i64 R.ver, .string R.data, .slice A4 0 c4], .int .i64 0]) ?_ rfl ⟨⟨A4, c4, rfl⟩, ⟨F1, ?_, hF1⟩, ?_⟩
            · simp [results, Try.results35, go_sem, *]
            · have hb := (h11.out.old hb12).fr hfin (fun x hx e => nr (e ▸ hx))
              have e1 : st.done ⟨c, s, k, i, m, d⟩ = ⟨qt, n0 + 1, f', fun k => if k = (c : Int) then ⟨s, n0 + 1, R⟩ else st.ss k⟩ := by
                unfold StV.done
                rw [HL.out, HR.out, HQT.out, HN0.out]
                simp only [HF'.out]
              rw [e1]
              refine hb.a (s := ⟨qt, n0 + 1, f', fun k => if k = (c : Int) then ⟨s, n0 + 1, R⟩ else st.ss k⟩) (fun x => ?_) (fun x hx => ?_)
              · show (f' x).length ≤ n0 + 1
                rw [← HF'.out]
                simp only
                have h1 := HN0.out
                have h2 := HN.out
                have h3 := HS.out.few x
                split
                · omega
                · omega
              · show f' x = []
                rw [← HF'.out]
                simp only
                rw [if_neg (by omega)]
                exact HS.out.off x hx
            · exact ((f11'.out.trans (Fr.of_old hb12)).trans' hfin (fun x hx e => by omega))
end Go.Proofs.Ytffahoocbjfdaaa

/- store.Store.Ids: the range over the table. -/
namespace Go.Proofs.Ytffahoocbjfdaaa
open Go.RowKit Go.Shelf
attribute [local go_sem] Oper.semAt_some
end Go.Proofs.Ytffahoocbjfdaaa
namespace Go.Proofs.Ytffahoocbjfdaaa
open Go.RowKit Go.Shelf
attribute [local go_sem] Oper.semAt_some
end Go.Proofs.Ytffahoocbjfdaaa

/- store.Store.Bytes. -/
namespace Go.Proofs.Ytffahoocbjfdaaa
open Go.RowKit Go.Shelf
attribute [local go_sem] Oper.semAt_some
structure StOk (s : StV) : Prop where
  seq : ∀ c, 0 ≤ (s.ss c).seq ∧ (s.ss c).seq ≤ 1073741824
  place : ∀ c, (s.ss c).place ≤ s.n
  data : ∀ k, ∀ v ∈ s.f k, v.2.size ≤ 64
end Go.Proofs.Ytffahoocbjfdaaa

/- store.Store.Last; Put joined. -/
namespace Go.Proofs.Ytffahoocbjfdaaa
open Go.RowKit
theorem doRep_vs {vs : List Ver} {k m quota : Int} {d : ByteArray} (h : Writes k = true) : (doRep vs k m quota d).vs = [] := by
  unfold doRep
  have : k = 1 ∨ k = 2 ∨ k = 3 := by simpa [Writes, or_assoc] using h
  rw [if_pos this]
theorem Put_st (g : Nat) (F : Nat → Prop) (st : StV) (q : Q) (hfew : st.n ≤ 50000) (w : World) (h : StAt w g F st) :
    Calls Try.prog 35 #[.pointer (some ⟨g, 0, none⟩), q.v] w fun e w' => (∃ A c, e = .returned (.tuple #[.agg #[.int .i64 (st.rep q).code, .int .i64 (st.rep q).ver, .string (st.rep q).data, .slice A 0 c], .int .i64 (st.err q)])) ∧
      (∃ F', StAt w' g F' (st.put q) ∧ ∀ k, F' k → F k ∨ w.heap.size ≤ k) ∧ Fr F w w' := by
  by_cases h1 : (q.may && Writes q.kind) = true
  · by_cases h2 : (st.ss q.client).seq < q.seq
    · have hm : st.may q = true := by unfold StV.may; rw [h1]; simpa using h2
      refine (Put_done g F st q h1 h2 hfew w h).mono ?_
      unfold StV.rep StV.err StV.put
      rw [hm, h1, if_pos rfl, if_pos rfl, if_pos rfl, if_pos h2]
      exact fun e w' h => h
    · have hm : st.may q = false := by unfold StV.may; rw [h1]; simpa using h2
      refine (Put_order g F st q h1 h2 w h).mono ?_
      rintro e w' ⟨rfl, hb⟩
      unfold StV.rep StV.err StV.put
      rw [hm, h1, if_pos rfl, if_neg h2]
      exact ⟨⟨none, 0, rfl⟩, ⟨F, h.old hb, fun k hk => .inl hk⟩, Fr.of_old hb⟩
  · have h1' : (q.may && Writes q.kind) = false := by simpa using h1
    have hm : st.may q = false := by unfold StV.may; rw [h1']; rfl
    refine (Put_arg (some ⟨g, 0, none⟩) q (fun _ => h1') w).mono ?_
    rintro e w' ⟨rfl, hb⟩
    unfold StV.rep StV.err StV.put
    rw [hm, h1']
    exact ⟨⟨none, 0, rfl⟩, ⟨F, h.old hb, fun k hk => .inl hk⟩, Fr.of_old hb⟩
theorem Ask_stN (g : Nat) (F : Nat → Prop) (st : StV) (q : Q) (hfew : st.n ≤ 50000) (nR : Nat) (hnR : (st.ask q).vs.length = nR) (w : World) (h : StAt w g F st) :
    Calls Try.prog 53 #[.pointer (some ⟨g, 0, none⟩), q.v] w fun e w' => ∃ A c, e = .returned (.tuple #[.agg #[.int .i64 (st.ask q).code, .int .i64 (st.ask q).ver, .string (st.ask q).data, .slice A nR c], .int .i64 (if askOk q then 0 else 1)]) ∧ IntsAt w' A (st.ask q).vs ∧ (∀ a, A = some a → w.heap.size ≤ a.block) ∧ Old w w' := by
  by_cases h1 : askOk q = true
  · rw [if_pos h1]
    exact Ask_yesN g F st q h1 _ rfl nR hnR (by have := h.few q.id; omega) w h
  · have h1' : askOk q = false := by simpa using h1
    have e : st.ask q = Rep.zero := by unfold StV.ask; rw [if_neg h1]
    rw [e] at hnR ⊢
    have : nR = 0 := by rw [← hnR]; rfl
    subst this
    refine (Ask_no (some ⟨g, 0, none⟩) q h1' w).mono ?_
    rintro e w' ⟨rfl, hb⟩
    rw [if_neg h1]
    exact ⟨none, 0, rfl, CellsAt.nil _ _, (fun a h => by cases h), hb⟩
theorem StOk.new (quota : Int) : StOk (StV.new quota) := ⟨fun c => by simp [StV.new, Sess.zero], fun c => by simp [StV.new, Sess.zero], fun k v hv => by simp [StV.new] at hv⟩
theorem StOk.put {s : StV} (h : StOk s) (q : Q) : StOk (s.put q) := by
  unfold StV.put
  split
  · rename_i hm
    simp only [StV.may, Q.may, mayQ, Bool.and_eq_true, decide_eq_true_eq] at hm
    obtain ⟨⟨⟨⟨⟨⟨-, hsq⟩, -⟩, -⟩, hk⟩, hw⟩, -⟩ := hm
    refine ⟨fun c => ?_, fun c => ?_, fun k v hv => ?_⟩
    · have e : (s.done q).ss c = if c = q.client then (⟨q.seq, s.n + 1, s.doRep q⟩ : Sess) else s.ss c := rfl
      rw [e]
      split
      · exact ⟨by show 0 ≤ q.seq; omega, by show q.seq ≤ 1073741824; omega⟩
      · exact h.seq c
    · show (if c = q.client then (⟨q.seq, s.n + 1, s.doRep q⟩ : Sess) else s.ss c).place ≤ s.n + 1
      split
      · simp
      · have := h.place c; omega
    · have hv' : v ∈ (if k = q.id then s.doL q else s.f k) := hv
      split at hv'
      · rename_i e
        subst e
        unfold StV.doL doL at hv'
        split at hv'
        · unfold doR at hv'
          have base : v ∈ s.f q.id → v.2.size ≤ 64 := h.data _ v
          repeat' split at hv'
          all_goals first
            | exact base hv'
            | (simp only [List.mem_append, List.mem_singleton] at hv'
               rcases hv' with hv' | rfl
               · exact base hv'
               · first
                   | (show ByteArray.empty.size ≤ 64; decide)
                   | (show q.data.size ≤ 64
                      have hk12 : q.kind = 1 ∨ q.kind = 2 := by
                        have : q.kind = 1 ∨ q.kind = 2 ∨ q.kind = 3 := by simpa [Writes, or_assoc] using hw
                        omega
                      unfold mayK at hk
                      rcases hk12 with e | e
                      · rw [if_pos e] at hk; simp at hk; exact hk.2
                      · rw [if_neg (by omega), if_pos e] at hk; simpa using hk))
        · exact h.data _ v hv'
      · exact h.data _ v hv'
  · exact h
theorem put_n (s : StV) (q : Q) : (s.put q).n ≤ s.n + 1 ∧ s.n ≤ (s.put q).n := by
  unfold StV.put
  split
  · exact ⟨Nat.le_refl _, Nat.le_succ _⟩
  · omega
theorem put_quota (s : StV) (q : Q) : (s.put q).quota = s.quota := by
  unfold StV.put
  split <;> rfl
end Go.Proofs.Ytffahoocbjfdaaa

/- Requests one behind the other: what a store is behind them. One store, two of them, beside what was there before. -/
namespace Go.Proofs.Ytffahoocbjfdaaa
open Go.RowKit
def ReqV.q (r : ReqV) : Q := ⟨r.client, r.seq, r.kind, r.id, r.mat, r.data⟩
theorem reqCells_length5 (qs : List ReqV) : (qs.flatMap ReqV.cells).length = qs.length * 6 := by
  induction qs with
  | nil => rfl
  | cons q qs ih =>
    have : q.cells.length = 6 := rfl
    simp only [List.flatMap_cons, List.length_append, List.length_cons, ih, this]
    omega
theorem reqCells_get5 (qs : List ReqV) : ∀ k j, k < qs.length → j < 6 → (qs.flatMap ReqV.cells)[k * 6 + j]? = (qs[k]?.getD default).cells[j]? := by
  induction qs with
  | nil => intro k j h; simp at h
  | cons q qs ih =>
    intro k j hk hj
    rw [List.flatMap_cons]
    have hc : q.cells.length = 6 := rfl
    cases k with
    | zero => rw [List.getElem?_append_left (by rw [hc]; omega)]; simp
    | succ k =>
      rw [List.getElem?_append_right (by rw [hc]; omega), hc, show (k + 1) * 6 + j - 6 = k * 6 + j from by omega]
      simpa using ih k j (by simpa using hk) hj
theorem ReqsAt.at5 {w : World} {A : Option Addr} {qs : List ReqV} (h : ReqsAt w A qs) {k : Nat} (hk : k < qs.length) :
    ∃ b o, A = some ⟨b, o, none⟩ ∧ b < w.heap.size ∧ ∀ j u, j < 6 → (qs[k]?.getD default).cells[j]? = some u → w.cell? ⟨b, o + k * 6 + j, none⟩ = some u := by
  obtain ⟨b, o, rfl, hb, hc⟩ := h (fun e => by have := reqCells_length5 qs; rw [e] at this; simp at this; omega)
  exact ⟨b, o, rfl, hb, fun j u hj hu => by rw [Nat.add_assoc]; exact hc _ _ ((reqCells_get5 qs k j hk hj).trans hu)⟩
theorem Put_at (g : Nat) (F : Nat → Prop) (st : StV) (q : Q) (c0 v0 E : Int) (d0 : ByteArray) (s' : StV) (h1 : (st.rep q).code = c0) (h2 : (st.rep q).ver = v0) (h3 : (st.rep q).data = d0) (h4 : st.err q = E) (h5 : st.put q = s') (hfew : st.n ≤ 50000) (w : World) (h : StAt w g F st) :
    Calls Try.prog 35 #[.pointer (some ⟨g, 0, none⟩), .agg #[.int .i64 q.client, .int .i64 q.seq, .int .i64 q.kind, .int .i64 q.id, .int .i64 q.mat, .string q.data]] w fun e w' => (∃ A c, e = .returned (.tuple #[.agg #[.int .i64 c0, .int .i64 v0, .string d0, .slice A 0 c], .int .i64 E])) ∧
      (∃ F', StAt w' g F' s' ∧ ∀ k, F' k → F k ∨ w.heap.size ≤ k) ∧ Fr F w w' := by
  subst h1 h2 h3 h4 h5
  exact Put_st g F st q hfew w h
def runS (q0 : Int) (qs : List ReqV) : StV := qs.foldl (fun s q => s.put q.q) (StV.new q0)
theorem runS_snoc (q0 : Int) (qs : List ReqV) (q : ReqV) : runS q0 (qs ++ [q]) = (runS q0 qs).put q.q := by simp [runS]
theorem runS_ok (q0 : Int) (qs : List ReqV) : StOk (runS q0 qs) ∧ (runS q0 qs).n ≤ qs.length ∧ (runS q0 qs).quota = q0 := by
  unfold runS
  suffices h : ∀ (l : List ReqV) (s : StV), StOk s → StOk (l.foldl (fun s q => s.put q.q) s) ∧ (l.foldl (fun s q => s.put q.q) s).n ≤ s.n + l.length ∧ (l.foldl (fun s q => s.put q.q) s).quota = s.quota by
    have := h qs (StV.new q0) (StOk.new q0)
    exact ⟨this.1, by have h2 := this.2.1; have : (StV.new q0).n = 0 := rfl; omega, this.2.2⟩
  intro l
  induction l with
  | nil => intro s h; exact ⟨h, Nat.le_refl _, rfl⟩
  | cons q l ih =>
    intro s h
    obtain ⟨h1, h2, h3⟩ := ih (s.put q.q) (h.put q.q)
    refine ⟨h1, ?_, h3.trans (put_quota s q.q)⟩
    have := (put_n s q.q).1
    simp only [List.foldl_cons, List.length_cons]
    omega
section
variable {w wr w' : World} {g ga gb : Nat} {s t : StV}
end
end Go.Proofs.Ytffahoocbjfdaaa
