/- store.Store in memory. -/
import Derived.Test.YtcbnibldlbnkbaaStM
import Derived.Test.YtcbnibldlbnkbaaVTabP
import Derived.Test.YtcbnibldlbnkbaaVTab
import Derived.Deep.RegionHeld3
import Derived.Deep.QuietTactic
import Derived.BigQuiet
namespace Go.Proofs.Ytcbnibldlbnkbaa
open Go.RowKit

/-- a row of versions at a value, its block one of F and none of G -/
def VRow (w : World) (F G : Nat → Prop) (v : Value) (l : List Ver) : Prop :=
  ∃ A c, v = .slice A l.length c ∧ Vers w A l ∧ l.length ≤ c ∧ (l ≠ [] → ∀ a, A = some a → F a.block ∧ ¬ G a.block)
def SesAt (w : World) (g o : Nat) (x : Sess) : Prop :=
  w.cell? ⟨g, o, none⟩ = some (.int .i64 x.seq) ∧ w.cell? ⟨g, o + 1, none⟩ = some (.int .i64 x.place) ∧ w.cell? ⟨g, o + 2, none⟩ = some (.int .i64 x.rep.code) ∧ w.cell? ⟨g, o + 3, none⟩ = some (.int .i64 x.rep.ver) ∧
  w.cell? ⟨g, o + 4, none⟩ = some (.string x.rep.data) ∧ x.rep.vs = [] ∧ ∃ A c, w.cell? ⟨g, o + 5, none⟩ = some (.slice A 0 c)

/-- the table of a store's resources -/
structure VTab (w : World) (g o : Nat) (F : Nat → Prop) (f : Int → List Ver) : Prop where
  ex : ∃ A ck B cv vs, VTabAt w 0 g o (.slice A (ksOf f).length ck) (.slice B (ksOf f).length cv) (ksOf f) vs ∧ (∀ k, Foot g (.slice A (ksOf f).length ck) (.slice B (ksOf f).length cv) k → F k) ∧
    ∀ (i : Nat) k v, (ksOf f)[i]? = some k → vs[i]? = some v → VRow w F (Foot g (.slice A (ksOf f).length ck) (.slice B (ksOf f).length cv)) v (f k)

/-- a store at g, all of it in the blocks F -/
structure StAt (w : World) (g : Nat) (F : Nat → Prop) (s : StV) : Prop where
  q0 : w.cell? ⟨g, 0, none⟩ = some (.int .i64 s.quota)
  n0 : w.cell? ⟨g, 1, none⟩ = some (.int .i64 s.n)
  tab : VTab w g 2 F s.f
  ses : ∀ c, c < 4 → SesAt w g (4 + c * 6) (s.ss c)
  fz : ∀ o, w.frozen? ⟨g, o, none⟩ = false
  lt : ∀ k, F k → k < w.heap.size
  gF : F g
  few : ∀ k, (s.f k).length ≤ s.n
  off : ∀ k, ¬ (0 ≤ k ∧ k ≤ 31) → s.f k = []

section
variable {w w' : World} {g o : Nat} {F F' G S : Nat → Prop} {s : StV} {f : Int → List Ver}

theorem VRow.fr {v : Value} {l : List Ver} (h : VRow w F G v l) (hf : Fr S w w') (hS : ∀ k, F k → ¬ S k) : VRow w' F G v l := by
  obtain ⟨A, c, rfl, hv, hc, ho⟩ := h
  refine ⟨A, c, rfl, CellsAt.fr hv hf (fun hn a ha => ?_), hc, ho⟩
  have hl : l ≠ [] := fun e => hn (by rw [e]; rfl)
  exact hS _ (ho hl a ha).1
theorem VRow.fr' {v : Value} {l : List Ver} (h : VRow w F G v l) (hf : Fr G w w') : VRow w' F G v l := by
  obtain ⟨A, c, rfl, hv, hc, ho⟩ := h
  refine ⟨A, c, rfl, CellsAt.fr hv hf (fun hn a ha => ?_), hc, ho⟩
  have hl : l ≠ [] := fun e => hn (by rw [e]; rfl)
  exact (ho hl a ha).2
theorem VTabAt.fr {base : Nat} {K V : Value} {ks : List Int} {vs : List Value} (h : VTabAt w base g o K V ks vs) (hf : Fr S w w') (hS : ∀ k, Foot g K V k → ¬ S k) : VTabAt w' base g o K V ks vs :=
  ⟨(hf.cell (p := ⟨g, o, none⟩) h.lt (hS g (.inl rfl))).trans h.k0, (hf.cell (p := ⟨g, o + 1, none⟩) h.lt (hS g (.inl rfl))).trans h.v0, (hf.frozen (p := ⟨g, o, none⟩) h.lt (hS g (.inl rfl))).trans h.fk,
    (hf.frozen (p := ⟨g, o + 1, none⟩) h.lt (hS g (.inl rfl))).trans h.fv, own_fr h.ko hf (fun k hk => hS k (.inr (.inl hk))), own_fr h.vo hf (fun k hk => hS k (.inr (.inr hk))), h.one, h.ne, h.kg, h.vg, h.low, Nat.lt_of_lt_of_le h.lt hf.size, h.rise⟩
theorem VTab.fr (h : VTab w g o F f) (hf : Fr S w w') (hS : ∀ k, F k → ¬ S k) : VTab w' g o F f := by
  obtain ⟨A, ck, B, cv, vs, h1, h2, h3⟩ := h.ex
  exact ⟨A, ck, B, cv, vs, h1.fr hf (fun k hk => hS k (h2 k hk)), h2, fun i k v hk hv => (h3 i k v hk hv).fr hf hS⟩
theorem SesAt.fr {x : Sess} (h : SesAt w g o x) (hg : g < w.heap.size) (hf : Fr S w w') (hS : ¬ S g) : SesAt w' g o x := by
  obtain ⟨h0, h1, h2, h3, h4, h5, A, c, h6⟩ := h
  have hc : ∀ j, w'.cell? ⟨g, j, none⟩ = w.cell? ⟨g, j, none⟩ := fun j => hf.cell (p := ⟨g, j, none⟩) hg hS
  exact ⟨(hc _).trans h0, (hc _).trans h1, (hc _).trans h2, (hc _).trans h3, (hc _).trans h4, h5, A, c, (hc _).trans h6⟩
theorem StAt.fr (h : StAt w g F s) (hf : Fr S w w') (hS : ∀ k, F k → ¬ S k) : StAt w' g F s := by
  have hg := h.lt g h.gF
  have hc : ∀ j, w'.cell? ⟨g, j, none⟩ = w.cell? ⟨g, j, none⟩ := fun j => hf.cell (p := ⟨g, j, none⟩) hg (hS g h.gF)
  exact ⟨(hc _).trans h.q0, (hc _).trans h.n0, h.tab.fr hf hS, fun c hcc => (h.ses c hcc).fr hg hf (hS g h.gF), fun j => (hf.frozen (p := ⟨g, j, none⟩) hg (hS g h.gF)).trans (h.fz j), fun k hk => Nat.lt_of_lt_of_le (h.lt k hk) hf.size, h.gF, h.few, h.off⟩
theorem StAt.old (h : StAt w g F s) (hf : Old w w') : StAt w' g F s := h.fr (S := fun _ => False) (Fr.of_old hf) (fun _ _ h => h)
end

def newCells (quota : Int) : Array Value := #[.int .i64 quota, .int .i64 0, .slice none 0 0, .slice none 0 0, .int .i64 0, .int .i64 0, .int .i64 0, .int .i64 0, .string { data := #[] }, .slice none 0 0, .int .i64 0, .int .i64 0, .int .i64 0, .int .i64 0, .string { data := #[] }, .slice none 0 0, .int .i64 0, .int .i64 0, .int .i64 0, .int .i64 0, .string { data := #[] }, .slice none 0 0, .int .i64 0, .int .i64 0, .int .i64 0, .int .i64 0, .string { data := #[] }, .slice none 0 0]
theorem ksOf_nil : ksOf (fun _ => []) = [] := by simp [ksOf]
theorem St_new {w : World} {g : Nat} {t : TypeId} {quota : Int} (h : Bk w g t (newCells quota)) : StAt w g (fun k => k = g) (StV.new quota) := by
  have hc : ∀ (i : Nat) (v : Value), (newCells quota)[i]? = some v → w.cell? ⟨g, i, none⟩ = some v := fun i v hv => (h.cell i).trans hv
  refine ⟨hc 0 _ rfl, hc 1 _ rfl, ⟨none, 0, none, 0, [], ?_, ?_, ?_⟩, ?_, fun o => h.frozen o, fun k hk => by subst hk; exact h.lt, rfl, fun k => by simp [StV.new], fun k _ => rfl⟩
  · show VTabAt w 0 g 2 (.slice none (ksOf fun _ => []).length 0) (.slice none (ksOf fun _ => []).length 0) (ksOf fun _ => []) []
    rw [ksOf_nil]
    exact ⟨hc 2 _ rfl, hc 3 _ rfl, h.frozen 2, h.frozen 3, World.ownsRow_nil _ _ _ _, World.ownsRow_nil _ _ _ _, by simp, by simp [Value.ownBlock], by simp [Value.ownBlock], by simp [Value.ownBlock], Nat.zero_le _, h.lt, by simp⟩
  · intro k hk
    simpa [Foot, Value.ownBlock] using hk
  · intro i k v hk
    simp [StV.new, ksOf_nil] at hk
  · intro c hcc
    match c, hcc with
    | 0, _ => exact ⟨hc 4 _ rfl, hc 5 _ rfl, hc 6 _ rfl, hc 7 _ rfl, hc 8 _ rfl, rfl, none, 0, hc 9 _ rfl⟩
    | 1, _ => exact ⟨hc 10 _ rfl, hc 11 _ rfl, hc 12 _ rfl, hc 13 _ rfl, hc 14 _ rfl, rfl, none, 0, hc 15 _ rfl⟩
    | 2, _ => exact ⟨hc 16 _ rfl, hc 17 _ rfl, hc 18 _ rfl, hc 19 _ rfl, hc 20 _ rfl, rfl, none, 0, hc 21 _ rfl⟩
    | 3, _ => exact ⟨hc 22 _ rfl, hc 23 _ rfl, hc 24 _ rfl, hc 25 _ rfl, hc 26 _ rfl, rfl, none, 0, hc 27 _ rfl⟩

set_option maxHeartbeats 1000000 in
theorem New_st (quota : Int) (hq : 1 ≤ quota ∧ quota ≤ 100) (w : World) :
    Calls Try.prog 10 #[.int .i64 quota] w fun e w' => e = .returned (.tuple #[.pointer (some ⟨w.heap.size, 0, none⟩), .int .i64 0]) ∧ StAt w' w.heap.size (fun k => k = w.heap.size) (StV.new quota) ∧ Old w w' := by
  obtain ⟨q1, q2⟩ := hq
  go_enter Try.func10, Try.ntmps10
  go_wp2
  go_ret2
  exact ⟨rfl, St_new (Bk.new w 69 (newCells quota)), (Old.refl' w).alloc' _⟩
set_option maxHeartbeats 1000000 in
theorem New_no (quota : Int) (hq : ¬ (1 ≤ quota ∧ quota ≤ 100)) (w : World) :
    Calls Try.prog 10 #[.int .i64 quota] w fun e w' => e = .returned (.tuple #[.pointer none, .int .i64 1]) ∧ w = w' := by
  by_cases q1 : 1 ≤ quota
  · have q2 : ¬ quota ≤ 100 := by omega
    go_enter Try.func10, Try.ntmps10
    go_wp2
    go_ret2
    exact ⟨rfl, rfl⟩
  · go_enter Try.func10, Try.ntmps10
    go_wp2
    go_ret2
    exact ⟨rfl, rfl⟩

set_option maxHeartbeats 400000 in
theorem Len_st (g : Nat) (F : Nat → Prop) (s : StV) (w : World) (h : StAt w g F s) :
    Calls Try.prog 20 #[.pointer (some ⟨g, 0, none⟩)] w fun e w' => e = .returned (.int .i64 s.n) ∧ w = w' := by
  have n0 := h.n0
  go_enter Try.func20, Try.ntmps20
  go_wp2
  go_ret
  exact ⟨rfl, rfl⟩
end Go.Proofs.Ytcbnibldlbnkbaa

/- store.Store: of, Seq, Last, Versions, Ask. -/
namespace Go.Proofs.Ytcbnibldlbnkbaa
open Go.RowKit

theorem info_intC : (Try.prog.info? 3).map (fun i => (i.zero, i.size, i.bytes)) = some (some (.int .i64 0), 1, 8) := by kernel_rfl

set_option maxHeartbeats 1000000 in
set_option maxRecDepth 20000 in
theorem Clone_ints (A : Option Addr) (n cap : Nat) (bs : List Int) (hn : n ≤ 100000) (hl : n = bs.length) (w : World) (hV : CellsAt w A (bs.map (Value.int .i64))) :
    Calls Try.prog 55 #[.slice A n cap] w fun e w' =>
      ∃ A' c', e = .returned (.slice A' n c') ∧ w'.ownsRow w.heap.size 3 1 (.slice A' n c') n (bs.map (Value.int .i64)) ∧ Old w w' := by
  have HL := hide hl
  clear hl
  obtain ⟨i0, hi0, hz0, hz1, hz2⟩ := info_parts info_intC
  cases A with
  | none =>
    have h0 : n = 0 := by
      rcases Nat.eq_zero_or_pos n with h | h
      · exact h
      · obtain ⟨b, o, e, _⟩ := hV (by intro e; have h1 : bs = [] := (by simpa using e); have h2 := HL.out; rw [h1] at h2; simp at h2; omega)
        cases e
    subst h0
    have hvs : bs = [] := List.eq_nil_of_length_eq_zero HL.out.symm
    subst hvs
    have heq := Lib.run_eql_slice_nil (P := Try.prog) w 30 3 none 0 cap 0 0 Try.underlying30
    go_enter Try.func55, Try.ntmps55
    go_wp2
    go_ret
    exact ⟨_, _, rfl, World.ownsRow_nil _ _ _ _, Old.refl' w⟩
  | some ad =>
    have heq := Lib.run_eql_slice_nil (P := Try.prog) w 30 3 (some ad) n cap 0 0 Try.underlying30
    go_enter Try.func55, Try.ntmps55
    go_wp2_with (at_builtin; refine wpList_app _ rfl (.tmp 5) (.tmp 6) 30 rfl w.heap.size 3 i0 (.int .i64 0) 1 8 Try.underlying30 hi0 hz0 hz1 hz2 rfl (by decide) (.slice (some ⟨w.heap.size, 0, none⟩) 0 0) 0 [] rfl (World.ownsRow_made w #[] 0 (Nat.le_refl _) (by decide) rfl) (some ad) n cap (bs.map (Value.int .i64)) rfl (by simp [HL.out]) (CellsAt.alloc hV _) (by simp [Value.oneCell']) (by unfold maxLen; omega) (by omega) (by simp) n (Nat.zero_add _) (bs.map (Value.int .i64)) (List.nil_append _) ?_; intro A' c' w1 h1)
    go_ret
    exact ⟨A', c', rfl, h1.own, h1.old ((Old.refl' w).alloc' _) (by intro k hk; simp [Value.ownBlock] at hk; omega)⟩


theorem own_new' {w : World} {base : Nat} {e : TypeId} {size n c : Nat} {A : Option Addr} {xs : List Value} (h : w.ownsRow base e size (.slice A n c) n xs) : ∀ a, A = some a → base ≤ a.block := fun a ha => by
  obtain ⟨A', c', e', -, h3⟩ := own_form h
  cases e'
  exact (h3 a ha).1

theorem bk4 {w : World} {g : Nat} {t : TypeId} {a b c d : Value} (h : Bk w g t #[a, b, c, d]) : (w.cell? ⟨g, 0, none⟩ = some a ∧ w.cell? ⟨g, 1, none⟩ = some b ∧ w.cell? ⟨g, 2, none⟩ = some c ∧ w.cell? ⟨g, 3, none⟩ = some d) ∧ (w.frozen? ⟨g, 0, none⟩ = false ∧ w.frozen? ⟨g, 1, none⟩ = false ∧ w.frozen? ⟨g, 2, none⟩ = false ∧ w.frozen? ⟨g, 3, none⟩ = false) ∧ g < w.heap.size :=
  ⟨⟨h.cell 0, h.cell 1, h.cell 2, h.cell 3⟩, ⟨h.frozen 0, h.frozen 1, h.frozen 2, h.frozen 3⟩, h.lt⟩
set_option maxHeartbeats 1000000 in
theorem copied_any (c v : Int) (d : ByteArray) (ns : List Int) (n cap : Nat) (A : Option Addr) (hn : n ≤ 100000) (hl : n = ns.length) (w : World) (hV : IntsAt w A ns) :
    Calls Try.prog 34 #[.agg #[.int .i64 c, .int .i64 v, .string d, .slice A n cap]] w fun e w' => ∃ A' c', e = .returned (.agg #[.int .i64 c, .int .i64 v, .string d, .slice A' n c']) ∧ IntsAt w' A' ns ∧ (∀ a, A' = some a → w.heap.size ≤ a.block) ∧ Old w w' := by
  have cC := hide (fun (W : World) (hW : CellsAt W A (ns.map (Value.int .i64))) => Clone_ints A n cap ns hn hl W hW)
  have hV2 := hide ((CellsAt.alloc hV (.cells #[.int .i64 c, .int .i64 v, .string d, .slice A n cap] 32)).alloc (.cells #[.int .i64 0, .int .i64 0, .string ByteArray.empty, .slice none 0 0] 32))
  clear hl hn hV
  go_enter Try.func34, Try.ntmps34
  go_wp2_with fail
  refine (cC.out _ hV2.out).mono ?_
  rintro e w1 ⟨A1, c1, rfl, hown, hb1⟩
  obtain ⟨⟨r0, r1, r2, r3⟩, ⟨f0, f1, f2, f3⟩, l1⟩ := bk4 (((Bk.new w 32 #[.int .i64 c, .int .i64 v, .string d, .slice A n cap]).alloc (.cells #[.int .i64 0, .int .i64 0, .string ByteArray.empty, .slice none 0 0] 32)).old hb1)
  obtain ⟨⟨x0, x1, x2, x3⟩, ⟨y0, y1, y2, y3⟩, l2⟩ := bk4 ((bk_new1 w (.cells #[.int .i64 c, .int .i64 v, .string d, .slice A n cap] 32) 32 #[.int .i64 0, .int .i64 0, .string ByteArray.empty, .slice none 0 0]).old hb1)
  have hnew := own_new' hown
  simp at hnew
  have hi := CellsAt.of_own hown
  have HB := hide hb1
  clear hb1
  go_wp2_with fail
  refine bodyPost_ret (v := .agg #[.int .i64 c, .int .i64 v, .string d, .slice A1 n c1]) ?_ rfl ⟨A1, c1, rfl, ?_, ?_, ?_⟩
  · simp [results, Try.results34, go_sem, *]
  · have hne1 : ∀ a, A1 = some a → a.block ≠ w.heap.size := fun a ha => by have := hnew a ha; omega
    have hne2 : ∀ a, A1 = some a → a.block ≠ w.heap.size + 1 := fun a ha => by have := hnew a ha; omega
    show CellsAt _ _ _
    repeat (first | with_reducible exact hi | with_reducible refine CellsAt.set_ ?_ hne1 _ | with_reducible refine CellsAt.set_ ?_ hne2 _)
  · intro a ha
    have := hnew a ha
    omega
  · repeat (first | with_reducible refine Old.setCell' ?_ (by simp) _ | with_reducible refine Old.trans' ?_ HB.out | with_reducible refine Old.alloc' ?_ _ | with_reducible exact Old.refl' _)

set_option maxHeartbeats 400000 in
theorem of_st (g c : Nat) (hc : c < 4) (F : Nat → Prop) (s : StV) (w : World) (h : StAt w g F s) :
    Calls Try.prog 43 #[.pointer (some ⟨g, 0, none⟩), .int .i64 c] w fun e w' => ∃ A cc, e = .returned (.agg #[.int .i64 (s.ss c).seq, .int .i64 (s.ss c).place, .int .i64 (s.ss c).rep.code, .int .i64 (s.ss c).rep.ver, .string (s.ss c).rep.data, .slice A 0 cc]) ∧ Old w w' := by
  obtain ⟨h0, h1, h2, h3, h4, -, A, cc, h5⟩ := h.ses c hc
  have hlt := h.lt g h.gF
  clear h
  have c1 : (c : Int) < 4 := by omega
  go_enter Try.func43, Try.ntmps43
  go_wp2
  refine bodyPost_ret (v := .agg #[.int .i64 (s.ss c).seq, .int .i64 (s.ss c).place, .int .i64 (s.ss c).rep.code, .int .i64 (s.ss c).rep.ver, .string (s.ss c).rep.data, .slice A 0 cc]) ?_ rfl ⟨A, cc, rfl, ?_⟩
  · simp [results, Try.results43, go_sem]
  · exact (Old.refl' w).alloc' _
set_option maxHeartbeats 400000 in
theorem of_out (g : Nat) (c : Int) (hc : ¬ (0 ≤ c ∧ c < 4)) (w : World) :
    Calls Try.prog 43 #[.pointer (some ⟨g, 0, none⟩), .int .i64 c] w fun e w' => e = .returned (.agg #[.int .i64 0, .int .i64 0, .int .i64 0, .int .i64 0, .string ByteArray.empty, .slice none 0 0]) ∧ Old w w' := by
  by_cases h0 : c < 0
  · go_enter Try.func43, Try.ntmps43
    go_wp2
    refine bodyPost_ret (v := .agg #[.int .i64 0, .int .i64 0, .int .i64 0, .int .i64 0, .string ByteArray.empty, .slice none 0 0]) ?_ rfl ⟨rfl, ?_⟩
    · simp [results, Try.results43, go_sem]
      rfl
    · exact (Old.refl' w).alloc' _
  · have h1 : 4 ≤ c := by omega
    go_enter Try.func43, Try.ntmps43
    go_wp2
    refine bodyPost_ret (v := .agg #[.int .i64 0, .int .i64 0, .int .i64 0, .int .i64 0, .string ByteArray.empty, .slice none 0 0]) ?_ rfl ⟨rfl, ?_⟩
    · simp [results, Try.results43, go_sem]
      rfl
    · exact (Old.refl' w).alloc' _

theorem fld_ses (a b c d e f : Value) : ∀ w, (Instr.field 66 (.agg #[a, b, c, d, e, f]) 0).run Try.prog w = .ok a w := fun _ => by kernel_rfl
set_option maxRecDepth 100000 in
set_option maxHeartbeats 400000 in
theorem Seq_st (g c : Nat) (hc : c < 4) (F : Nat → Prop) (s : StV) (w : World) (h : StAt w g F s) :
    Calls Try.prog 19 #[.pointer (some ⟨g, 0, none⟩), .int .i64 c] w fun e w' => e = .returned (.int .i64 (s.ss c).seq) ∧ Old w w' := by
  have cO := hide (of_st g c hc F s w h)
  clear h
  have hf := fld_ses
  go_enter Try.func19, Try.ntmps19
  go_wp2_with (go_at_call 43; refine cO.out.mono ?_; rintro e w1 ⟨A, cc, rfl, hb⟩)
  go_ret
  exact ⟨rfl, hb⟩
set_option maxRecDepth 100000 in
set_option maxHeartbeats 400000 in
theorem Seq_out (g : Nat) (c : Int) (hc : ¬ (0 ≤ c ∧ c < 4)) (w : World) :
    Calls Try.prog 19 #[.pointer (some ⟨g, 0, none⟩), .int .i64 c] w fun e w' => e = .returned (.int .i64 0) ∧ Old w w' := by
  have cO := hide (of_out g c hc w)
  clear hc
  have hf := fld_ses
  go_enter Try.func19, Try.ntmps19
  go_wp2_with (go_at_call 43; refine cO.out.mono ?_; rintro e w1 ⟨rfl, hb⟩)
  go_ret
  exact ⟨rfl, hb⟩
end Go.Proofs.Ytcbnibldlbnkbaa
