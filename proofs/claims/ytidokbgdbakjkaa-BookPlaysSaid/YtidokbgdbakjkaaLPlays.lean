/- casebooklaw6.BookPlays: the walk. -/
import Derived.Deep.LoopGhost
import Derived.Deep.CutBlock
import Derived.Test.YtidokbgdbakjkaaRBD
import Derived.Test.YtidokbgdbakjkaaRegT
import Derived.Test.YtidokbgdbakjkaaLSets
namespace Go.Proofs.Ytidokbgdbakjkaa
open Go.RowKit

/-- a step: its kind, its key, its value -/
abbrev BOp := Int × Int × Int
instance : Inhabited BOp := ⟨(0, 0, 0)⟩
def bopCells (l : List BOp) : List Value := l.flatMap fun o => [.int .i64 o.1, .int .i64 o.2.1, .int .i64 o.2.2]
theorem bopCells_get (l : List BOp) : ∀ k x, l[k]? = some x → (bopCells l)[k * 3]? = some (.int .i64 x.1) ∧ (bopCells l)[k * 3 + 1]? = some (.int .i64 x.2.1) ∧ (bopCells l)[k * 3 + 2]? = some (.int .i64 x.2.2) := by
  induction l with
  | nil => intro k m h; simp at h
  | cons y l ih =>
    intro k m h
    have e : bopCells (y :: l) = .int .i64 y.1 :: .int .i64 y.2.1 :: .int .i64 y.2.2 :: bopCells l := rfl
    cases k with
    | zero => simp at h; subst h; simp [e]
    | succ k =>
      have := ih k m (by simpa using h)
      rw [e, show (k + 1) * 3 = k * 3 + 1 + 1 + 1 from by omega]
      simpa using this

def PutC (f : Nat) : Prop := ∀ (base g : Nat) (S : Nat → Prop) (ks us : List Int) (key v : Int), ks.length ≤ 99998 → ∀ w, BookAt w base g S ks us →
  Calls Try.prog f #[.pointer (some ⟨g, 0, none⟩), .int .i64 key, .int .i64 v] w fun e w' => e = .returned (.tuple #[.int .i64 (getV ks us key), .bool (decide (key ∈ ks))]) ∧ (∃ S', BookAt w' base g S' (putK ks key) (putV ks us key v) ∧ ∀ k, S' k → S k ∨ w.heap.size ≤ k) ∧ Fr S w w'
def DelC (f : Nat) : Prop := ∀ (base g : Nat) (S : Nat → Prop) (ks us : List Int) (key : Int), ks.length ≤ 99999 → ∀ w, BookAt w base g S ks us →
  Calls Try.prog f #[.pointer (some ⟨g, 0, none⟩), .int .i64 key] w fun e w' => e = .returned (.bool (decide (key ∈ ks))) ∧ (∃ S', BookAt w' base g S' (delR ks ks key) (delR ks us key) ∧ ∀ k, S' k → S k ∨ w.heap.size ≤ k) ∧ Fr S w w'
theorem PutC_b : PutC 9 := fun base g S ks us key v hn w h => PutB base g S ks us key v (by omega) w h
theorem PutC_r : PutC 17 := fun base g S ks us key v hn w h => RPut base g S ks us key v hn w h
theorem DelC_b : DelC 13 := fun base g S ks us key hn w h => DelB base g S ks us key hn w h
theorem DelC_r : DelC 18 := fun base g S ks us key hn w h => RDel base g S ks us key hn w h

/-- two tables and a block beside them -/
def Tri (w0 w : World) (ga gb : Nat) (ka ua kb ub : List Int) (o : Nat) (cs : Array Value) : Prop :=
  ∃ Sa Sb, BookAt w w0.heap.size ga Sa ka ua ∧ BookAt w w0.heap.size gb Sb kb ub ∧ (∀ k, Sa k → ¬ Sb k) ∧ Old w0 w ∧ Bk w o 40 cs ∧ ¬ Sa o ∧ ¬ Sb o
section
variable {w0 w w' : World} {ga gb o : Nat} {ka ua kb ub : List Int} {cs : Array Value}
theorem Tri.symm (h : Tri w0 w ga gb ka ua kb ub o cs) : Tri w0 w gb ga kb ub ka ua o cs := by
  obtain ⟨Sa, Sb, a, b, d, o1, o2, o3, o4⟩ := h
  exact ⟨Sb, Sa, b, a, fun k h1 h2 => d k h2 h1, o1, o2, o4, o3⟩
theorem Tri.bk (h : Tri w0 w ga gb ka ua kb ub o cs) : Bk w o 40 cs := by
  obtain ⟨Sa, Sb, a, b, d, o1, o2, o3, o4⟩ := h
  exact o2
theorem Tri.two (h : Tri w0 w ga gb ka ua kb ub o cs) : Two w0 w ga gb ka ua kb ub := by
  obtain ⟨Sa, Sb, a, b, d, o1, o2, o3, o4⟩ := h
  exact ⟨Sa, Sb, a, b, d, o1⟩
theorem Tri.old (h : Tri w0 w ga gb ka ua kb ub o cs) (hf : Old w w') : Tri w0 w' ga gb ka ua kb ub o cs := by
  obtain ⟨Sa, Sb, a, b, d, o1, o2, o3, o4⟩ := h
  exact ⟨Sa, Sb, a.old hf, b.old hf, d, o1.trans' hf, o2.old hf, o3, o4⟩
theorem Tri.put {f : Nat} (hc : PutC f) (key v r : Int) (fl : Bool) (h3 : getV ka ua key = r) (h4 : decide (key ∈ ka) = fl) (h : Tri w0 w ga gb ka ua kb ub o cs) (hn : ka.length ≤ 99998) :
    Calls Try.prog f #[.pointer (some ⟨ga, 0, none⟩), .int .i64 key, .int .i64 v] w fun e w' => e = .returned (.tuple #[.int .i64 r, .bool fl]) ∧ Tri w0 w' ga gb (putK ka key) (putV ka ua key v) kb ub o cs := by
  subst h3 h4
  obtain ⟨Sa, Sb, a, b, d, o1, o2, o3, o4⟩ := h
  refine (hc w0.heap.size ga Sa ka ua key v hn w a).mono ?_
  rintro e w' ⟨rfl, ⟨S', a', hn'⟩, hf⟩
  refine ⟨rfl, S', Sb, a', b.fr hf (fun k h1 h2 => d k h2 h1), fun k h1 h2 => ?_, a.kept hf o1, o2.fr hf o3, fun h1 => ?_, o4⟩
  · rcases hn' k h1 with h3 | h3
    · exact d k h3 h2
    · have := (b.foot h2).2; omega
  · rcases hn' o h1 with h3 | h3
    · exact o3 h3
    · have := o2.lt; omega
theorem Tri.del {f : Nat} (hc : DelC f) (key : Int) (fl : Bool) (h4 : decide (key ∈ ka) = fl) (h : Tri w0 w ga gb ka ua kb ub o cs) (hn : ka.length ≤ 99999) :
    Calls Try.prog f #[.pointer (some ⟨ga, 0, none⟩), .int .i64 key] w fun e w' => e = .returned (.bool fl) ∧ Tri w0 w' ga gb (delR ka ka key) (delR ka ua key) kb ub o cs := by
  subst h4
  obtain ⟨Sa, Sb, a, b, d, o1, o2, o3, o4⟩ := h
  refine (hc w0.heap.size ga Sa ka ua key hn w a).mono ?_
  rintro e w' ⟨rfl, ⟨S', a', hn'⟩, hf⟩
  refine ⟨rfl, S', Sb, a', b.fr hf (fun k h1 h2 => d k h2 h1), fun k h1 h2 => ?_, a.kept hf o1, o2.fr hf o3, fun h1 => ?_, o4⟩
  · rcases hn' k h1 with h3 | h3
    · exact d k h3 h2
    · have := (b.foot h2).2; omega
  · rcases hn' o h1 with h3 | h3
    · exact o3 h3
    · have := o2.lt; omega
theorem Two.a (h : Two w0 w ga gb ka ua kb ub) : ∃ S, BookAt w w0.heap.size ga S ka ua := by
  obtain ⟨Sa, Sb, a, b, d, o⟩ := h
  exact ⟨Sa, a⟩
theorem Two.rget (key r : Int) (fl : Bool) (h3 : getV ka ua key = r) (h4 : decide (key ∈ ka) = fl) (h : Two w0 w ga gb ka ua kb ub) (hn : ka.length ≤ 99999) :
    Calls Try.prog 19 #[.pointer (some ⟨ga, 0, none⟩), .int .i64 key] w fun e w' => e = .returned (.tuple #[.int .i64 r, .bool fl]) ∧ w = w' := by
  subst h3 h4
  obtain ⟨S, a⟩ := h.a
  exact RGet w0.heap.size ga S ka ua key hn w a
theorem Two.bget (key r : Int) (fl : Bool) (h3 : getV ka ua key = r) (h4 : decide (key ∈ ka) = fl) (h : Two w0 w ga gb ka ua kb ub) (hn : ka.length ≤ 99999) :
    Calls Try.prog 12 #[.pointer (some ⟨ga, 0, none⟩), .int .i64 key] w fun e w' => e = .returned (.tuple #[.int .i64 r, .bool fl]) ∧ w = w' := by
  subst h3 h4
  obtain ⟨S, a⟩ := h.a
  exact GetB w0.heap.size ga S ka ua key hn w a
theorem Two.rfrom (key n : Int) (L : List Int) (r : Nat) (hL : fromL ka key n = L) (hr : L.length = r) (hk : ka.length ≤ 99999) (h : Two w0 w ga gb ka ua kb ub) :
    Calls Try.prog 20 #[.pointer (some ⟨ga, 0, none⟩), .int .i64 key, .int .i64 n] w fun e w' => ∃ A' c', e = .returned (.slice A' r c') ∧ IntsAt w' A' L ∧ Old w w' := by
  obtain ⟨S, a⟩ := h.a
  exact RFrom w0.heap.size ga S ka ua key n L r hL hr hk w a
theorem Two.rback (key n : Int) (L : List Int) (r : Nat) (hL : backLk ka key n = L) (hr : L.length = r) (hk : ka.length ≤ 99999) (h : Two w0 w ga gb ka ua kb ub) :
    Calls Try.prog 22 #[.pointer (some ⟨ga, 0, none⟩), .int .i64 key, .int .i64 n] w fun e w' => ∃ A' c', e = .returned (.slice A' r c') ∧ IntsAt w' A' L ∧ Old w w' := by
  obtain ⟨S, a⟩ := h.a
  exact RBack w0.heap.size ga S ka ua key n L r hL hr hk w a
theorem Two.back_ (key n : Int) (L : List Int) (r : Nat) (hL : backLk ka key n = L) (hr : L.length = r) (hn : n ≤ 9223372036854775807) (hk : ka.length ≤ 99999) (h : Two w0 w ga gb ka ua kb ub) :
    Calls Try.prog 21 #[.pointer (some ⟨ga, 0, none⟩), .int .i64 key, .int .i64 n] w fun e w' => ∃ A' c', e = .returned (.slice A' r c') ∧ IntsAt w' A' L ∧ Old w w' := by
  obtain ⟨S, a⟩ := h.a
  refine (BackB w0.heap.size ga S ka ua key n L r hL hr hn hk w a).mono ?_
  rintro e w' ⟨A', c', rfl, ho, hb⟩
  exact ⟨A', c', rfl, CellsAt.of_own ho, hb⟩
theorem Tri.of (h : Two w0 w ga gb ka ua kb ub) (cs : Array Value) : Tri w0 (w.alloc (.cells cs 40)) ga gb ka ua kb ub w.heap.size cs := by
  obtain ⟨Sa, Sb, a, b, d, o⟩ := h
  exact ⟨Sa, Sb, a.alloc _, b.alloc _, d, o.alloc' _, Bk.new w _ _, fun h => by have := (a.foot h).2; omega, fun h => by have := (b.foot h).2; omega⟩
end
theorem tab_nil {w : World} {g base : Nat} {t : TypeId} (h : Bk w g t #[.slice none 0 0, .slice none 0 0]) (hb : base ≤ g) : BookAt w base g (fun k => k = g) [] [] :=
  ⟨none, 0, none, 0, ⟨h.cell 0, h.cell 1, h.frozen 0, h.frozen 1, World.ownsRow_nil _ _ _ _, World.ownsRow_nil _ _ _ _, by simp, by simp [Value.ownBlock], by simp [Value.ownBlock], by simp [Value.ownBlock], hb, h.lt, by simp⟩, by funext k; simp [Foot, Value.ownBlock]⟩
theorem Two_ref (w : World) : Two w ((w.alloc (.cells #[.slice none 0 0, .slice none 0 0] 48)).alloc (.cells #[.slice none 0 0, .slice none 0 0] 38)) w.heap.size (w.heap.size + 1) [] [] [] [] := by
  refine ⟨_, _, (NewB w (Nat.le_refl _)).alloc _, tab_nil (bk_new1 w (.cells #[.slice none 0 0, .slice none 0 0] 48) 38 _) (by omega), fun k h1 h2 => by subst h1; omega, ((Old.refl' w).alloc' _).alloc' _⟩

set_option maxHeartbeats 400000 in
theorem BLeast_empty (base g : Nat) (S : Nat → Prop) (us : List Int) (w : World) (h : BookAt w base g S [] us) :
    Calls Try.prog 23 #[.pointer (some ⟨g, 0, none⟩)] w fun e w' => e = .returned (.tuple #[.int .i64 0, .bool false]) ∧ w = w' := by
  obtain ⟨A, ck, B, cv, h, -⟩ := h
  have c := hide (BKeys_none base g ck cv A B _ w h)
  go_enter Try.func23, Try.ntmps23
  go_wp2_with (go_at_call 11; refine c.out.mono ?_; rintro e w1 ⟨rfl, rfl⟩)
  refine wp_loop_rounds 1 ?_
  rw [rounds_succ]
  go_wp2
  go_ret2
  exact ⟨rfl, rfl⟩

set_option maxRecDepth 100000 in
set_option maxHeartbeats 16000000 in
theorem Plays_walk (A0 : Option Addr) (n c0 : Nat) (l : List BOp) (hl : n = l.length) (hn : n ≤ 9223372036854775807) (hok : ∀ x ∈ l, x.2.2 ≤ 9223372036854775807) (w : World) (h0 : CellsAt w A0 (bopCells l)) :
    Calls Try.prog 4 #[.slice A0 n c0] w fun e w' => e = .returned (.bool true) ∧ Old w w' := by
  have HL := hide hl
  have HOK := hide hok
  clear hl hok
  have htwo := Two_ref w
  obtain ⟨gb, hgb⟩ : ∃ g, g = w.heap.size := ⟨_, rfl⟩
  obtain ⟨gx, hgx⟩ : ∃ g, g = w.heap.size + 1 := ⟨_, rfl⟩
  go_enter Try.func4, Try.ntmps4
  go_wp2_with (go_at_call 7; refine (BNew _).mono ?_; rintro e w' ⟨rfl, rfl⟩)
  simp only [← hgx] at htwo ⊢
  simp only [← hgb] at htwo ⊢
  clear hgx hgb
  go_loopg [5] n (fun gk iv wr => ∃ (k : Nat) (ks us : List Int), gk = n - k ∧ k ≤ n ∧ k ≤ 100 ∧ iv = .int .i64 k ∧ Two w wr gb gx ks us ks us ∧ ks.length ≤ k)
  case atStart => exact ⟨0, [], [], by omega, by omega, by omega, rfl, htwo, by simp⟩
  case round =>
    clear htwo
    obtain ⟨k, ks, us, rfl, hk, hk1, rfl, tw, hlen⟩ := hrel
    have hri := tw.rise
    by_cases hgo : k < n ∧ k < 100
    · obtain ⟨hlt, hlt1⟩ := hgo
      obtain ⟨x, hx⟩ : ∃ x, l[k]? = some x := ⟨l[k]'(by rw [← HL.out]; exact hlt), List.getElem?_eq_getElem _⟩
      obtain ⟨g0, g1, g2⟩ := bopCells_get l k x hx
      obtain ⟨b0, o0, rfl, hb0, hc⟩ := h0 (fun e => by rw [e] at g0; simp at g0)
      have d0 := (tw.o.cell (p := ⟨b0, o0 + k * 3, none⟩) hb0).trans (hc _ _ g0)
      have d1 := (tw.o.cell (p := ⟨b0, o0 + (k * 3 + 1), none⟩) hb0).trans (hc _ _ g1)
      have d2 := (tw.o.cell (p := ⟨b0, o0 + (k * 3 + 2), none⟩) hb0).trans (hc _ _ g2)
      rw [← Nat.add_assoc] at d1 d2
      have hv1 := HOK.out x (List.mem_of_getElem? hx)
      obtain ⟨kd, key, v⟩ := x
      simp only at d0 d1 d2 hv1
      clear hx g0 g1 g2 hc
      have tri := Tri.of tw #[.int .i64 kd, .int .i64 key, .int .i64 v]
      go_upto_block 2 with fail
      clear d0 d1 d2
      obtain ⟨o, ho⟩ : ∃ o, wr.heap.size = o := ⟨_, rfl⟩
      rw [ho] at tri
      simp only [ho]
      obtain ⟨W, hW⟩ : ∃ W, wr.alloc (.cells #[.int .i64 kd, .int .i64 key, .int .i64 v] 40) = W := ⟨_, rfl⟩
      rw [hW] at tri ⊢
      clear hW tw ho
      have ob : ∀ U, Bk U o 40 #[.int .i64 kd, .int .i64 key, .int .i64 v] → U.cell? ⟨o, 0, none⟩ = some (.int .i64 kd) ∧ U.cell? ⟨o, 1, none⟩ = some (.int .i64 key) ∧ U.cell? ⟨o, 2, none⟩ = some (.int .i64 v) := fun U hU => ⟨hU.cell 0, hU.cell 1, hU.cell 2⟩
      obtain ⟨c0', c1, c2⟩ := ob _ tri.bk
      have c0 := c0'
      go_cut [5] from 22 to 184 (fun iv w' => iv = .int .i64 k ∧ ∃ ks' us', Two w w' gb gx ks' us' ks' us' ∧ ks'.length ≤ k + 1)
      case first =>
        obtain ⟨r, hr⟩ : ∃ r, getV ks us key = r := ⟨_, rfl⟩
        obtain ⟨fl, hfl⟩ : ∃ fl, decide (key ∈ ks) = fl := ⟨_, rfl⟩
        have hbo := hlen
        by_cases e0 : kd = 0
        · subst e0
          have hlen' : (putK ks key).length ≤ k + 1 := by rw [len_putK hri]; split <;> omega
          go_wp2_with fail
          refine (Tri.put PutC_b key v r fl hr hfl tri (by omega)).mono ?_
          rintro e w2 ⟨rfl, tri2⟩
          obtain ⟨x0, x1, x2⟩ := ob _ tri2.bk
          go_wp2_with fail
          refine (Tri.put PutC_r key v r fl hr hfl tri2.symm (by omega)).mono ?_
          rintro e w3 ⟨rfl, tri3⟩
          have hfin := hide tri3.symm.two
          clear tri tri2 tri3
          cases fl
          all_goals
            go_wp2_with fail
            go_meet
            case rel => exact ⟨rfl, _, _, hfin.out, hlen'⟩
        by_cases e1 : kd = 1
        · subst e1
          have hlen' : (delR ks ks key).length ≤ k + 1 := by
            unfold delR
            split
            · simp; omega
            · omega
          go_wp2_with fail
          refine wp_region_Z (S := fun w' => w'.cell? ⟨o, 0, none⟩ = some (.int .i64 1) ∧ w'.cell? ⟨o, 1, none⟩ = some (.int .i64 key) ∧ w'.cell? ⟨o, 2, none⟩ = some (.int .i64 v)) (Z := ([] : List Nat).contains) (by kernel_rfl) ?_
          refine wpAnyZ_pure 0 (.pointer (some ⟨gb, 0, none⟩)) rfl (by kernel_rfl) (by kernel_rfl) (by kernel_rfl) (fun _ _ _ h => h) (Or.inl ⟨by rfl, fun w _ => by go_simp⟩) ?_
          refine wpAnyZ_pure 1 (.pointer (some ⟨o, 1, none⟩)) rfl (by kernel_rfl) (by kernel_rfl) (by kernel_rfl) (fun _ _ _ h => h) (Or.inl ⟨by rfl, fun w _ => by go_simp⟩) ?_
          refine wpAnyZ_take 2 (.int .i64 key) rfl (by kernel_rfl) (by kernel_rfl) (by kernel_rfl) (by kernel_rfl) (fun _ _ _ h => h) (Or.inl ⟨by rfl, fun w' hS => by obtain ⟨s0, s1, s2⟩ := hS; go_simp⟩) (by exact ⟨c0, c1, c2⟩) ?_
          refine wpAnyZ_pure 4 (.pointer (some ⟨gx, 0, none⟩)) rfl (by kernel_rfl) (by kernel_rfl) (by kernel_rfl) (fun _ _ _ h => h) (Or.inl ⟨by rfl, fun w _ => by go_simp⟩) ?_
          refine wpAnyZ_pure 5 (.pointer (some ⟨o, 1, none⟩)) rfl (by kernel_rfl) (by kernel_rfl) (by kernel_rfl) (fun _ _ _ h => h) (Or.inl ⟨by rfl, fun w _ => by go_simp⟩) ?_
          refine wpAnyZ_take 6 (.int .i64 key) rfl (by kernel_rfl) (by kernel_rfl) (by kernel_rfl) (by kernel_rfl) (fun _ _ _ h => h) (Or.inl ⟨by rfl, fun w' hS => by obtain ⟨s0, s1, s2⟩ := hS; go_simp⟩) (by exact ⟨c0, c1, c2⟩) ?_
          refine wpAnyZ_all (rs := [3]) (by kernel_rfl) (by simp) ?_
          intro j hj
          simp only [List.mem_cons, List.not_mem_nil, or_false] at hj
          subst hj
          refine wpOp_call rfl rfl 13 _ Try.func13 (by kernel_rfl) (by kernel_rfl) [.tmp 82, .tmp 84] #[23, 3] rfl [.pointer (some ⟨gb, 0, none⟩), .int .i64 key] (by simp [Act.eval, Act.put]) (Tri.del DelC_b key fl hfl (tri.old ((Old.refl' _).drew')) (by omega)) ?_
          rintro e w2 ⟨rfl, tri2⟩
          refine ⟨_, rfl, .inr fun _ => ob _ tri2.bk, ?_⟩
          refine wpAnyZ_all (rs := [7]) (by kernel_rfl) (by simp) ?_
          intro j hj
          simp only [List.mem_cons, List.not_mem_nil, or_false] at hj
          subst hj
          refine wpOp_call rfl rfl 18 _ Try.func18 (by kernel_rfl) (by kernel_rfl) [.tmp 86, .tmp 88] #[36, 3] rfl [.pointer (some ⟨gx, 0, none⟩), .int .i64 key] (by simp [Act.eval, Act.put]) (Tri.del DelC_r key fl hfl tri2.symm (by omega)) ?_
          rintro e w3 ⟨rfl, tri3⟩
          have hfin := hide tri3.symm.two
          refine ⟨_, rfl, .inr fun _ => ob _ tri3.bk, ?_⟩
          refine wpAnyZ_all (rs := [8]) (by kernel_rfl) (by simp) ?_
          intro j hj
          simp only [List.mem_cons, List.not_mem_nil, or_false] at hj
          subst hj
          refine wpOp_mk rfl rfl ?_
          clear tri tri2 tri3
          cases fl
          all_goals
            go_simp
            refine ⟨fun a b c => ⟨a, b, c⟩, ?_⟩
            refine wpAnyZ_done (by kernel_rfl) ?_ _
            go_wp2_with fail
            go_meet
            case rel => exact ⟨rfl, _, _, hfin.out, hlen'⟩
        by_cases e2 : kd = 2
        · subst e2
          have tw := tri.two
          have hlen' : ks.length ≤ k + 1 := by omega
          go_wp2_with fail
          refine (Two.bget key r fl hr hfl tw (by omega)).mono ?_
          rintro e w2 ⟨rfl, rfl⟩
          go_wp2_with fail
          refine (Two.rget key r fl hr hfl tw.symm (by omega)).mono ?_
          rintro e w2 ⟨rfl, rfl⟩
          have hfin := hide tw
          clear tri tw
          cases fl
          all_goals
            go_wp2_with fail
            go_meet
            case rel => exact ⟨rfl, _, _, hfin.out, hlen'⟩
        have hlen' : ks.length ≤ k + 1 := by omega
        clear hfl hr r fl
        have e0' : (kd == 0) = false := by simpa using e0
        have e1' : (kd == 1) = false := by simpa using e1
        have e2' : (kd == 2) = false := by simpa using e2
        by_cases e3 : kd = 3
        · subst e3
          obtain ⟨L, hL⟩ : ∃ L, fromL ks key v = L := ⟨_, rfl⟩
          obtain ⟨r, hr⟩ : ∃ r, L.length = r := ⟨_, rfl⟩
          have hr1 : r ≤ 100 := by rw [← hr, ← hL]; unfold fromL; rw [List.length_take, List.length_drop]; omega
          go_wp2_with fail
          refine wp_region_Z (S := fun w' => w'.cell? ⟨o, 0, none⟩ = some (.int .i64 3) ∧ w'.cell? ⟨o, 1, none⟩ = some (.int .i64 key) ∧ w'.cell? ⟨o, 2, none⟩ = some (.int .i64 v)) (Z := ([] : List Nat).contains) (by kernel_rfl) ?_
          refine wpAnyZ_pure 0 (.pointer (some ⟨gb, 0, none⟩)) rfl (by kernel_rfl) (by kernel_rfl) (by kernel_rfl) (fun _ _ _ h => h) (Or.inl ⟨by rfl, fun w _ => by go_simp⟩) ?_
          refine wpAnyZ_pure 1 (.pointer (some ⟨o, 1, none⟩)) rfl (by kernel_rfl) (by kernel_rfl) (by kernel_rfl) (fun _ _ _ h => h) (Or.inl ⟨by rfl, fun w _ => by go_simp⟩) ?_
          refine wpAnyZ_take 2 (.int .i64 key) rfl (by kernel_rfl) (by kernel_rfl) (by kernel_rfl) (by kernel_rfl) (fun _ _ _ h => h) (Or.inl ⟨by rfl, fun w' hS => by obtain ⟨s0, s1, s2⟩ := hS; go_simp⟩) (by exact ⟨c0, c1, c2⟩) ?_
          refine wpAnyZ_pure 3 (.pointer (some ⟨o, 2, none⟩)) rfl (by kernel_rfl) (by kernel_rfl) (by kernel_rfl) (fun _ _ _ h => h) (Or.inl ⟨by rfl, fun w _ => by go_simp⟩) ?_
          refine wpAnyZ_take 4 (.int .i64 v) rfl (by kernel_rfl) (by kernel_rfl) (by kernel_rfl) (by kernel_rfl) (fun _ _ _ h => h) (Or.inl ⟨by rfl, fun w' hS => by obtain ⟨s0, s1, s2⟩ := hS; go_simp⟩) (by exact ⟨c0, c1, c2⟩) ?_
          refine wpAnyZ_pure 6 (.pointer (some ⟨gx, 0, none⟩)) rfl (by kernel_rfl) (by kernel_rfl) (by kernel_rfl) (fun _ _ _ h => h) (Or.inl ⟨by rfl, fun w _ => by go_simp⟩) ?_
          refine wpAnyZ_pure 7 (.pointer (some ⟨o, 1, none⟩)) rfl (by kernel_rfl) (by kernel_rfl) (by kernel_rfl) (fun _ _ _ h => h) (Or.inl ⟨by rfl, fun w _ => by go_simp⟩) ?_
          refine wpAnyZ_take 8 (.int .i64 key) rfl (by kernel_rfl) (by kernel_rfl) (by kernel_rfl) (by kernel_rfl) (fun _ _ _ h => h) (Or.inl ⟨by rfl, fun w' hS => by obtain ⟨s0, s1, s2⟩ := hS; go_simp⟩) (by exact ⟨c0, c1, c2⟩) ?_
          refine wpAnyZ_pure 9 (.pointer (some ⟨o, 2, none⟩)) rfl (by kernel_rfl) (by kernel_rfl) (by kernel_rfl) (fun _ _ _ h => h) (Or.inl ⟨by rfl, fun w _ => by go_simp⟩) ?_
          refine wpAnyZ_take 10 (.int .i64 v) rfl (by kernel_rfl) (by kernel_rfl) (by kernel_rfl) (by kernel_rfl) (fun _ _ _ h => h) (Or.inl ⟨by rfl, fun w' hS => by obtain ⟨s0, s1, s2⟩ := hS; go_simp⟩) (by exact ⟨c0, c1, c2⟩) ?_
          refine wpAnyZ_all (rs := [5]) (by kernel_rfl) (by simp) ?_
          intro j hj
          simp only [List.mem_cons, List.not_mem_nil, or_false] at hj
          subst hj
          refine wpOp_call rfl rfl 14 _ Try.func14 (by kernel_rfl) (by kernel_rfl) [.tmp 117, .tmp 119, .tmp 121] #[23, 3, 3] rfl [.pointer (some ⟨gb, 0, none⟩), .int .i64 key, .int .i64 v] (by simp [Act.eval, Act.put]) (Two.from_ key v L r hL hr hv1 (by omega) (tri.old ((Old.refl' _).drew')).two) ?_
          rintro e w2 ⟨A2, c2, rfl, i2, f2⟩
          have tri2 := (tri.old ((Old.refl' _).drew')).old f2
          refine ⟨_, rfl, .inr fun _ => ob _ tri2.bk, ?_⟩
          refine wpAnyZ_all (rs := [11]) (by kernel_rfl) (by simp) ?_
          intro j hj
          simp only [List.mem_cons, List.not_mem_nil, or_false] at hj
          subst hj
          refine wpOp_call rfl rfl 20 _ Try.func20 (by kernel_rfl) (by kernel_rfl) [.tmp 123, .tmp 125, .tmp 127] #[36, 3, 3] rfl [.pointer (some ⟨gx, 0, none⟩), .int .i64 key, .int .i64 v] (by simp [Act.eval, Act.put]) (Two.rfrom key v L r hL hr (by omega) tri2.symm.two) ?_
          rintro e w3 ⟨A3, c3, rfl, i3, f3⟩
          have tri3 := tri2.old f3
          refine ⟨_, rfl, .inr fun _ => ob _ tri3.bk, ?_⟩
          refine wpAnyZ_all (rs := [12]) (by kernel_rfl) (by simp) ?_
          intro j hj
          simp only [List.mem_cons, List.not_mem_nil, or_false] at hj
          subst hj
          refine wpOp_call rfl rfl 10 _ Try.func10 (by kernel_rfl) (by kernel_rfl) [.tmp 122, .tmp 128] #[22, 22] rfl [.slice A2 r c2, .slice A3 r c3] (by simp [Act.eval, Act.put]) (Ints_same A2 A3 r L c2 c3 w3 (i2.old f3) i3 hr.symm (by omega)) ?_
          rintro e w4 ⟨rfl, f4⟩
          have tri4 := tri3.old f4
          have hfin := hide tri4.two
          refine ⟨_, rfl, .inr fun _ => ob _ tri4.bk, ?_⟩
          refine wpAnyZ_all (rs := [13]) (by kernel_rfl) (by simp) ?_
          intro j hj
          simp only [List.mem_cons, List.not_mem_nil, or_false] at hj
          subst hj
          refine wpOp_mk rfl rfl ?_
          clear tri tri2 tri3 tri4
          go_simp
          refine ⟨fun a b c => ⟨a, b, c⟩, ?_⟩
          refine wpAnyZ_done (by kernel_rfl) ?_ _
          go_wp2_with fail
          go_meet
          case rel => exact ⟨rfl, _, _, hfin.out, hlen'⟩
        · have e3' : (kd == 3) = false := by simpa using e3
          obtain ⟨L, hL⟩ : ∃ L, backLk ks key v = L := ⟨_, rfl⟩
          obtain ⟨r, hr⟩ : ∃ r, L.length = r := ⟨_, rfl⟩
          have hr1 : r ≤ 100 := by rw [← hr, ← hL]; unfold backLk; rw [List.length_take, List.length_reverse, List.length_take]; omega
          go_wp2_with fail
          refine wp_region_Z (S := fun w' => w'.cell? ⟨o, 0, none⟩ = some (.int .i64 kd) ∧ w'.cell? ⟨o, 1, none⟩ = some (.int .i64 key) ∧ w'.cell? ⟨o, 2, none⟩ = some (.int .i64 v)) (Z := ([] : List Nat).contains) (by kernel_rfl) ?_
          refine wpAnyZ_pure 0 (.pointer (some ⟨gb, 0, none⟩)) rfl (by kernel_rfl) (by kernel_rfl) (by kernel_rfl) (fun _ _ _ h => h) (Or.inl ⟨by rfl, fun w _ => by go_simp⟩) ?_
          refine wpAnyZ_pure 1 (.pointer (some ⟨o, 1, none⟩)) rfl (by kernel_rfl) (by kernel_rfl) (by kernel_rfl) (fun _ _ _ h => h) (Or.inl ⟨by rfl, fun w _ => by go_simp⟩) ?_
          refine wpAnyZ_take 2 (.int .i64 key) rfl (by kernel_rfl) (by kernel_rfl) (by kernel_rfl) (by kernel_rfl) (fun _ _ _ h => h) (Or.inl ⟨by rfl, fun w' hS => by obtain ⟨s0, s1, s2⟩ := hS; go_simp⟩) (by exact ⟨c0, c1, c2⟩) ?_
          refine wpAnyZ_pure 3 (.pointer (some ⟨o, 2, none⟩)) rfl (by kernel_rfl) (by kernel_rfl) (by kernel_rfl) (fun _ _ _ h => h) (Or.inl ⟨by rfl, fun w _ => by go_simp⟩) ?_
          refine wpAnyZ_take 4 (.int .i64 v) rfl (by kernel_rfl) (by kernel_rfl) (by kernel_rfl) (by kernel_rfl) (fun _ _ _ h => h) (Or.inl ⟨by rfl, fun w' hS => by obtain ⟨s0, s1, s2⟩ := hS; go_simp⟩) (by exact ⟨c0, c1, c2⟩) ?_
          refine wpAnyZ_pure 6 (.pointer (some ⟨gx, 0, none⟩)) rfl (by kernel_rfl) (by kernel_rfl) (by kernel_rfl) (fun _ _ _ h => h) (Or.inl ⟨by rfl, fun w _ => by go_simp⟩) ?_
          refine wpAnyZ_pure 7 (.pointer (some ⟨o, 1, none⟩)) rfl (by kernel_rfl) (by kernel_rfl) (by kernel_rfl) (fun _ _ _ h => h) (Or.inl ⟨by rfl, fun w _ => by go_simp⟩) ?_
          refine wpAnyZ_take 8 (.int .i64 key) rfl (by kernel_rfl) (by kernel_rfl) (by kernel_rfl) (by kernel_rfl) (fun _ _ _ h => h) (Or.inl ⟨by rfl, fun w' hS => by obtain ⟨s0, s1, s2⟩ := hS; go_simp⟩) (by exact ⟨c0, c1, c2⟩) ?_
          refine wpAnyZ_pure 9 (.pointer (some ⟨o, 2, none⟩)) rfl (by kernel_rfl) (by kernel_rfl) (by kernel_rfl) (fun _ _ _ h => h) (Or.inl ⟨by rfl, fun w _ => by go_simp⟩) ?_
          refine wpAnyZ_take 10 (.int .i64 v) rfl (by kernel_rfl) (by kernel_rfl) (by kernel_rfl) (by kernel_rfl) (fun _ _ _ h => h) (Or.inl ⟨by rfl, fun w' hS => by obtain ⟨s0, s1, s2⟩ := hS; go_simp⟩) (by exact ⟨c0, c1, c2⟩) ?_
          refine wpAnyZ_all (rs := [5]) (by kernel_rfl) (by simp) ?_
          intro j hj
          simp only [List.mem_cons, List.not_mem_nil, or_false] at hj
          subst hj
          refine wpOp_call rfl rfl 21 _ Try.func21 (by kernel_rfl) (by kernel_rfl) [.tmp 38, .tmp 40, .tmp 42] #[23, 3, 3] rfl [.pointer (some ⟨gb, 0, none⟩), .int .i64 key, .int .i64 v] (by simp [Act.eval, Act.put]) (Two.back_ key v L r hL hr hv1 (by omega) (tri.old ((Old.refl' _).drew')).two) ?_
          rintro e w2 ⟨A2, c2, rfl, i2, f2⟩
          have tri2 := (tri.old ((Old.refl' _).drew')).old f2
          refine ⟨_, rfl, .inr fun _ => ob _ tri2.bk, ?_⟩
          refine wpAnyZ_all (rs := [11]) (by kernel_rfl) (by simp) ?_
          intro j hj
          simp only [List.mem_cons, List.not_mem_nil, or_false] at hj
          subst hj
          refine wpOp_call rfl rfl 22 _ Try.func22 (by kernel_rfl) (by kernel_rfl) [.tmp 44, .tmp 46, .tmp 48] #[36, 3, 3] rfl [.pointer (some ⟨gx, 0, none⟩), .int .i64 key, .int .i64 v] (by simp [Act.eval, Act.put]) (Two.rback key v L r hL hr (by omega) tri2.symm.two) ?_
          rintro e w3 ⟨A3, c3, rfl, i3, f3⟩
          have tri3 := tri2.old f3
          refine ⟨_, rfl, .inr fun _ => ob _ tri3.bk, ?_⟩
          refine wpAnyZ_all (rs := [12]) (by kernel_rfl) (by simp) ?_
          intro j hj
          simp only [List.mem_cons, List.not_mem_nil, or_false] at hj
          subst hj
          refine wpOp_call rfl rfl 10 _ Try.func10 (by kernel_rfl) (by kernel_rfl) [.tmp 43, .tmp 49] #[22, 22] rfl [.slice A2 r c2, .slice A3 r c3] (by simp [Act.eval, Act.put]) (Ints_same A2 A3 r L c2 c3 w3 (i2.old f3) i3 hr.symm (by omega)) ?_
          rintro e w4 ⟨rfl, f4⟩
          have tri4 := tri3.old f4
          have hfin := hide tri4.two
          refine ⟨_, rfl, .inr fun _ => ob _ tri4.bk, ?_⟩
          refine wpAnyZ_all (rs := [13]) (by kernel_rfl) (by simp) ?_
          intro j hj
          simp only [List.mem_cons, List.not_mem_nil, or_false] at hj
          subst hj
          refine wpOp_mk rfl rfl ?_
          clear tri tri2 tri3 tri4
          go_simp
          refine ⟨fun a b c => ⟨a, b, c⟩, ?_⟩
          refine wpAnyZ_done (by kernel_rfl) ?_ _
          go_wp2_with fail
          go_meet
          case rel => exact ⟨rfl, _, _, hfin.out, hlen'⟩
      case rest =>
        clear c0 c0' c1 c2 tri ob hlen hri
        obtain ⟨rfl, ks, us, tw, hlen⟩ := hcut
        obtain ⟨N, hN⟩ : ∃ N, ks.length = N := ⟨_, rfl⟩
        rw [hN] at hlen
        obtain ⟨Sx, hx⟩ := tw.symm.a
        obtain ⟨Sb, hbk⟩ := tw.a
        obtain ⟨A, cx, Bx, cy, hx, -⟩ := hx
        have hgx := hx.lt
        have k0x := hx.k0
        have hko := hx.ko
        have hKx : IntsAt wc A ks := CellsAt.of_own hko
        rw [hN] at k0x hko
        clear hx
        cases ks with
        | nil =>
          simp at hN
          subst hN
          go_wp2_with fail
          refine (BLeast_empty _ _ _ _ _ hbk).mono ?_
          rintro e w2 ⟨rfl, rfl⟩
          have SX : ∀ U, Old wc U → U.cell? ⟨gx, 0, none⟩ = some (.slice A 0 cx) := fun U hU => (hU.cell (p := ⟨gx, 0, none⟩) hgx).trans k0x
          go_wp2_with fail
          refine region_steps (R := pick [eqv (.pointer (some ⟨gb, 0, none⟩)), eqv (.int .i64 0), eqv (.pointer (some ⟨gx, 0, none⟩)), eqv (.pointer (some ⟨gx, 0, none⟩)), eqv (.pointer (some ⟨gx, 0, none⟩)), eqv (.slice A 0 cx), eqv (.int .i64 0), eqv (.bool false), eqv (.bool false), eqv (.pointer (some ⟨gb, 0, none⟩)), fun v w' => ∃ A3 c3, v = .slice A3 0 c3 ∧ IntsAt w' A3 [], eqv (.pointer (some ⟨gx, 0, none⟩)), eqv (.pointer (some ⟨gx, 0, none⟩)), eqv (.pointer (some ⟨gx, 0, none⟩)), eqv (.slice A 0 cx), eqv (.bool true), eqv (.bool false), eqv (.bool false), eqv (.bool false), eqv (.bool false), eqv (.pointer (some ⟨gx, 0, none⟩)), eqv (.pointer (some ⟨gx, 0, none⟩)), eqv (.pointer (some ⟨gx, 0, none⟩)), eqv (.slice A 0 cx), eqv (.int .i64 0), eqv (.bool false), eqv (.bool false), eqv (.bool false), eqv (.bool false), eqv (.bool false), eqv (.bool false), eqv (undef), eqv (undef), eqv (undef), eqv (undef), eqv (undef), eqv (undef), eqv (undef), eqv (undef), eqv (.bool false), eqv (.bool false), eqv (.bool false), eqv (.bool false), eqv (.bool true), eqv (.bool true), eqv (.int .i64 0), eqv (.bool false), eqv (.bool false), eqv (.bool false)]) (S := fun _ w' => Old wc w' ∧ w'.cell? ⟨gx, 0, none⟩ = some (.slice A 0 cx)) (T := Old) (by kernel_rfl) (by kernel_rfl) (by kernel_rfl) (Stab.pick (Stab.eqv (Stab.eqv (Stab.eqv (Stab.eqv (Stab.eqv (Stab.eqv (Stab.eqv (Stab.eqv (Stab.eqv (Stab.eqv (Stab.cons (fun v w w' ht ⟨A3, c3, h, i⟩ => ⟨A3, c3, h, i.old ht⟩) (Stab.eqv (Stab.eqv (Stab.eqv (Stab.eqv (Stab.eqv (Stab.eqv (Stab.eqv (Stab.eqv (Stab.eqv (Stab.eqv (Stab.eqv (Stab.eqv (Stab.eqv (Stab.eqv (Stab.eqv (Stab.eqv (Stab.eqv (Stab.eqv (Stab.eqv (Stab.eqv (Stab.eqv (Stab.eqv (Stab.eqv (Stab.eqv (Stab.eqv (Stab.eqv (Stab.eqv (Stab.eqv (Stab.eqv (Stab.eqv (Stab.eqv (Stab.eqv (Stab.eqv (Stab.eqv (Stab.eqv (Stab.eqv (Stab.eqv (Stab.eqv (Stab.nil))))))))))))))))))))))))))))))))))))))))))))))))))) (⟨(Old.refl' _).drew', SX _ ((Old.refl' _).drew')⟩) ?steps ?ends
          case steps =>
            refine StepsOk.cons (stepOk_pure [] [(3, .pointer (some ⟨gb, 0, none⟩))] rfl rfl (by kernel_rfl) (by kernel_rfl) rfl Old.refl' (fun _ _ _ h => h) (fun d E w' hk hda hS hc hf => by rintro  e3; exact ⟨_, by go_simp, rfl⟩)) ?_
            refine StepsOk.cons (stepOk_mk [(0, 136)] [] rfl rfl (by kernel_rfl) (by kernel_rfl) rfl ?_) ?_
            · rintro d a w' hk hda hS _ q0 rfl e136 
              first | refine Given.nil (Known.nil ?_) | refine Known.nil ?_
              refine wp_call 16 _ Try.func16 (by kernel_rfl) (by kernel_rfl) _ _ (by rfl) [.pointer (some ⟨gb, 0, none⟩)] (by simp only [List.map_cons, List.map_nil, *]; try rfl) (Two.len 0 rfl (tw.old hS.1)) ?_
              rintro e w1 ⟨rfl, rfl⟩
              exact ⟨_, rfl, _, rfl, rfl, Old.refl' _, hS⟩
            refine StepsOk.cons (stepOk_pure [] [(4, .pointer (some ⟨gx, 0, none⟩))] rfl rfl (by kernel_rfl) (by kernel_rfl) rfl Old.refl' (fun _ _ _ h => h) (fun d E w' hk hda hS hc hf => by rintro  e4; exact ⟨_, by go_simp, rfl⟩)) ?_
            refine StepsOk.cons (stepOk_pure [(2, 138)] [] rfl rfl (by kernel_rfl) (by kernel_rfl) rfl Old.refl' (fun _ _ _ h => h) (fun d E w' hk hda hS hc hf => by rintro _ q2 rfl e138 ; exact ⟨_, by go_simp, rfl⟩)) ?_
            refine StepsOk.cons (stepOk_pure [(3, 139)] [] rfl rfl (by kernel_rfl) (by kernel_rfl) rfl Old.refl' (fun _ _ _ h => h) (fun d E w' hk hda hS hc hf => by rintro _ q3 rfl e139 ; exact ⟨_, by go_simp, rfl⟩)) ?_
            refine StepsOk.cons (stepOk_pure [(4, 140)] [] rfl rfl (by kernel_rfl) (by kernel_rfl) rfl Old.refl' (fun _ _ _ h => h) (fun d E w' hk hda hS hc hf => by rintro _ q4 rfl e140 ; obtain ⟨-, s0⟩ := hS; exact ⟨_, by go_simp, rfl⟩)) ?_
            refine StepsOk.cons (stepOk_pure [(5, 141)] [] rfl rfl (by kernel_rfl) (by kernel_rfl) rfl Old.refl' (fun _ _ _ h => h) (fun d E w' hk hda hS hc hf => by rintro _ q5 rfl e141 ; exact ⟨_, by go_simp, rfl⟩)) ?_
            refine StepsOk.cons (stepOk_pure [(1, 137), (6, 142)] [] rfl rfl (by kernel_rfl) (by kernel_rfl) rfl Old.refl' (fun _ _ _ h => h) (fun d E w' hk hda hS hc hf => by rintro _ q1 rfl e137 _ q6 rfl e142 ; exact ⟨_, by go_simp, rfl⟩)) ?_
            refine StepsOk.cons (stepOk_pure [(7, 143)] [] rfl rfl (by kernel_rfl) (by kernel_rfl) rfl Old.refl' (fun _ _ _ h => h) (fun d E w' hk hda hS hc hf => by rintro _ q7 rfl e143 ; exact ⟨_, by go_simp, rfl⟩)) ?_
            refine StepsOk.cons (stepOk_pureG 8 144 false rfl rfl (by kernel_rfl) (fun _ _ h => h) [] [(3, .pointer (some ⟨gb, 0, none⟩))] (by kernel_rfl) (by kernel_rfl) rfl Old.refl' (fun _ _ _ h => h) (fun d E w' hk hda hS hc hf => by rintro  e3; exact ⟨_, by go_simp, rfl⟩)) ?_
            refine StepsOk.cons (stepOk_guard 8 144 false rfl rfl (by kernel_rfl) (fun _ _ h => h) [(9, 145)] [] (by kernel_rfl) (by kernel_rfl) rfl ?_) ?_
            · rintro d a w' hk hda hS _ q9 rfl e145 
              first | refine Given.nil (Known.nil ?_) | refine Known.nil ?_
              refine wp_call 11 _ Try.func11 (by kernel_rfl) (by kernel_rfl) _ _ (by rfl) [.pointer (some ⟨gb, 0, none⟩)] (by simp only [List.map_cons, List.map_nil, *]; try rfl) (Two.keys 0 rfl (tw.old hS.1) (by omega)) ?_
              rintro e w1 ⟨A3, c3, rfl, i3, f3⟩
              exact ⟨_, rfl, _, rfl, ⟨A3, c3, rfl, i3⟩, f3, ⟨hS.1.trans' f3, SX _ (hS.1.trans' f3)⟩⟩
            refine StepsOk.cons (stepOk_pureG 8 144 false rfl rfl (by kernel_rfl) (fun _ _ h => h) [] [(4, .pointer (some ⟨gx, 0, none⟩))] (by kernel_rfl) (by kernel_rfl) rfl Old.refl' (fun _ _ _ h => h) (fun d E w' hk hda hS hc hf => by rintro  e4; exact ⟨_, by go_simp, rfl⟩)) ?_
            refine StepsOk.cons (stepOk_pureG 8 144 false rfl rfl (by kernel_rfl) (fun _ _ h => h) [(11, 147)] [] (by kernel_rfl) (by kernel_rfl) rfl Old.refl' (fun _ _ _ h => h) (fun d E w' hk hda hS hc hf => by rintro _ q11 rfl e147 ; exact ⟨_, by go_simp, rfl⟩)) ?_
            refine StepsOk.cons (stepOk_pureG 8 144 false rfl rfl (by kernel_rfl) (fun _ _ h => h) [(12, 148)] [] (by kernel_rfl) (by kernel_rfl) rfl Old.refl' (fun _ _ _ h => h) (fun d E w' hk hda hS hc hf => by rintro _ q12 rfl e148 ; exact ⟨_, by go_simp, rfl⟩)) ?_
            refine StepsOk.cons (stepOk_pureG 8 144 false rfl rfl (by kernel_rfl) (fun _ _ h => h) [(13, 149)] [] (by kernel_rfl) (by kernel_rfl) rfl Old.refl' (fun _ _ _ h => h) (fun d E w' hk hda hS hc hf => by rintro _ q13 rfl e149 ; obtain ⟨-, s0⟩ := hS; exact ⟨_, by go_simp, rfl⟩)) ?_
            refine StepsOk.cons (stepOk_guard 8 144 false rfl rfl (by kernel_rfl) (fun _ _ h => h) [(10, 146), (14, 150)] [] (by kernel_rfl) (by kernel_rfl) rfl ?_) ?_
            · rintro d a w' hk hda hS _ q10 ⟨A3, c3, rfl, i3⟩ e146 _ q14 rfl e150 
              first | refine Given.nil (Known.nil ?_) | refine Known.nil ?_
              refine wp_call 10 _ Try.func10 (by kernel_rfl) (by kernel_rfl) _ _ (by rfl) [.slice A3 0 c3, .slice A 0 cx] (by simp only [List.map_cons, List.map_nil, *]; try rfl) (Ints_same A3 _ 0 _ c3 cx _ i3 (hKx.old hS.1) rfl (by omega)) ?_
              rintro e w1 ⟨rfl, f4⟩
              exact ⟨_, rfl, _, rfl, rfl, f4, ⟨hS.1.trans' f4, SX _ (hS.1.trans' f4)⟩⟩
            refine StepsOk.cons (stepOk_pureG 8 144 false rfl rfl (by kernel_rfl) (fun _ _ h => h) [(15, 151)] [] (by kernel_rfl) (by kernel_rfl) rfl Old.refl' (fun _ _ _ h => h) (fun d E w' hk hda hS hc hf => by rintro _ q15 rfl e151 ; exact ⟨_, by go_simp, rfl⟩)) ?_
            refine StepsOk.cons (stepOk_pure [(8, 144), (16, 152)] [] rfl rfl (by kernel_rfl) (by kernel_rfl) rfl Old.refl' (fun _ _ _ h => h) (fun d E w' hk hda hS hc hf => by rintro _ q8 rfl e144 _ q16 rfl e152 ; exact ⟨_, by go_simp, rfl⟩)) ?_
            refine StepsOk.cons (stepOk_pure [(17, 153)] [] rfl rfl (by kernel_rfl) (by kernel_rfl) rfl Old.refl' (fun _ _ _ h => h) (fun d E w' hk hda hS hc hf => by rintro _ q17 rfl e153 ; exact ⟨_, by go_simp, rfl⟩)) ?_
            refine StepsOk.cons (stepOk_pureG 18 154 false rfl rfl (by kernel_rfl) (fun _ _ h => h) [] [(16, .bool false)] (by kernel_rfl) (by kernel_rfl) rfl Old.refl' (fun _ _ _ h => h) (fun d E w' hk hda hS hc hf => by rintro  e16; exact ⟨_, by go_simp, rfl⟩)) ?_
            refine StepsOk.cons (stepOk_pureG 18 154 false rfl rfl (by kernel_rfl) (fun _ _ h => h) [] [(4, .pointer (some ⟨gx, 0, none⟩))] (by kernel_rfl) (by kernel_rfl) rfl Old.refl' (fun _ _ _ h => h) (fun d E w' hk hda hS hc hf => by rintro  e4; exact ⟨_, by go_simp, rfl⟩)) ?_
            refine StepsOk.cons (stepOk_pureG 18 154 false rfl rfl (by kernel_rfl) (fun _ _ h => h) [(20, 156)] [] (by kernel_rfl) (by kernel_rfl) rfl Old.refl' (fun _ _ _ h => h) (fun d E w' hk hda hS hc hf => by rintro _ q20 rfl e156 ; exact ⟨_, by go_simp, rfl⟩)) ?_
            refine StepsOk.cons (stepOk_pureG 18 154 false rfl rfl (by kernel_rfl) (fun _ _ h => h) [(21, 157)] [] (by kernel_rfl) (by kernel_rfl) rfl Old.refl' (fun _ _ _ h => h) (fun d E w' hk hda hS hc hf => by rintro _ q21 rfl e157 ; exact ⟨_, by go_simp, rfl⟩)) ?_
            refine StepsOk.cons (stepOk_pureG 18 154 false rfl rfl (by kernel_rfl) (fun _ _ h => h) [(22, 158)] [] (by kernel_rfl) (by kernel_rfl) rfl Old.refl' (fun _ _ _ h => h) (fun d E w' hk hda hS hc hf => by rintro _ q22 rfl e158 ; obtain ⟨-, s0⟩ := hS; exact ⟨_, by go_simp, rfl⟩)) ?_
            refine StepsOk.cons (stepOk_pureG 18 154 false rfl rfl (by kernel_rfl) (fun _ _ h => h) [(23, 159)] [] (by kernel_rfl) (by kernel_rfl) rfl Old.refl' (fun _ _ _ h => h) (fun d E w' hk hda hS hc hf => by rintro _ q23 rfl e159 ; exact ⟨_, by go_simp, rfl⟩)) ?_
            refine StepsOk.cons (stepOk_pureG 18 154 false rfl rfl (by kernel_rfl) (fun _ _ h => h) [(24, 160)] [] (by kernel_rfl) (by kernel_rfl) rfl Old.refl' (fun _ _ _ h => h) (fun d E w' hk hda hS hc hf => by rintro _ q24 rfl e160 ; exact ⟨_, by go_simp, rfl⟩)) ?_
            refine StepsOk.cons (stepOk_pureG 18 154 false rfl rfl (by kernel_rfl) (fun _ _ h => h) [(19, 155), (25, 161)] [] (by kernel_rfl) (by kernel_rfl) rfl Old.refl' (fun _ _ _ h => h) (fun d E w' hk hda hS hc hf => by rintro _ q19 rfl e155 _ q25 rfl e161 ; exact ⟨_, by go_simp, rfl⟩)) ?_
            refine StepsOk.cons (stepOk_pure [(18, 154), (26, 162)] [] rfl rfl (by kernel_rfl) (by kernel_rfl) rfl Old.refl' (fun _ _ _ h => h) (fun d E w' hk hda hS hc hf => by rintro _ q18 rfl e154 _ q26 rfl e162 ; exact ⟨_, by go_simp, rfl⟩)) ?_
            refine StepsOk.cons (stepOk_pure [(27, 163)] [] rfl rfl (by kernel_rfl) (by kernel_rfl) rfl Old.refl' (fun _ _ _ h => h) (fun d E w' hk hda hS hc hf => by rintro _ q27 rfl e163 ; exact ⟨_, by go_simp, rfl⟩)) ?_
            refine StepsOk.cons (stepOk_pureG 28 164 false rfl rfl (by kernel_rfl) (fun _ _ h => h) [] [(16, .bool false)] (by kernel_rfl) (by kernel_rfl) rfl Old.refl' (fun _ _ _ h => h) (fun d E w' hk hda hS hc hf => by rintro  e16; exact ⟨_, by go_simp, rfl⟩)) ?_
            refine StepsOk.cons (stepOk_pureG 28 164 false rfl rfl (by kernel_rfl) (fun _ _ h => h) [(29, 165)] [] (by kernel_rfl) (by kernel_rfl) rfl Old.refl' (fun _ _ _ h => h) (fun d E w' hk hda hS hc hf => by rintro _ q29 rfl e165 ; exact ⟨_, by go_simp, rfl⟩)) ?_
            refine StepsOk.cons (stepOk_skip 30 166 false rfl rfl (by kernel_rfl) Old.refl' (fun _ _ _ h => h) (fun _ _ h => h) (fun _ => rfl)) ?_
            refine StepsOk.cons (stepOk_skip 30 166 false rfl rfl (by kernel_rfl) Old.refl' (fun _ _ _ h => h) (fun _ _ h => h) (fun _ => rfl)) ?_
            refine StepsOk.cons (stepOk_skip 30 166 false rfl rfl (by kernel_rfl) Old.refl' (fun _ _ _ h => h) (fun _ _ h => h) (fun _ => rfl)) ?_
            refine StepsOk.cons (stepOk_skip 30 166 false rfl rfl (by kernel_rfl) Old.refl' (fun _ _ _ h => h) (fun _ _ h => h) (fun _ => rfl)) ?_
            refine StepsOk.cons (stepOk_skip 30 166 false rfl rfl (by kernel_rfl) Old.refl' (fun _ _ _ h => h) (fun _ _ h => h) (fun _ => rfl)) ?_
            refine StepsOk.cons (stepOk_skip 30 166 false rfl rfl (by kernel_rfl) Old.refl' (fun _ _ _ h => h) (fun _ _ h => h) (fun _ => rfl)) ?_
            refine StepsOk.cons (stepOk_skip 30 166 false rfl rfl (by kernel_rfl) Old.refl' (fun _ _ _ h => h) (fun _ _ h => h) (fun _ => rfl)) ?_
            refine StepsOk.cons (stepOk_skip 30 166 false rfl rfl (by kernel_rfl) Old.refl' (fun _ _ _ h => h) (fun _ _ h => h) (fun _ => rfl)) ?_
            refine StepsOk.cons (stepOk_pureG 28 164 false rfl rfl (by kernel_rfl) (fun _ _ h => h) [(30, 166), (38, 174)] [] (by kernel_rfl) (by kernel_rfl) rfl Old.refl' (fun _ _ _ h => h) (fun d E w' hk hda hS hc hf => by rintro _ q30 rfl e166 _ q38 rfl e174 ; exact ⟨_, by go_simp, rfl⟩)) ?_
            refine StepsOk.cons (stepOk_pure [(28, 164), (39, 175)] [] rfl rfl (by kernel_rfl) (by kernel_rfl) rfl Old.refl' (fun _ _ _ h => h) (fun d E w' hk hda hS hc hf => by rintro _ q28 rfl e164 _ q39 rfl e175 ; exact ⟨_, by go_simp, rfl⟩)) ?_
            refine StepsOk.cons (stepOk_pure [(40, 176)] [] rfl rfl (by kernel_rfl) (by kernel_rfl) rfl Old.refl' (fun _ _ _ h => h) (fun d E w' hk hda hS hc hf => by rintro _ q40 rfl e176 ; exact ⟨_, by go_simp, rfl⟩)) ?_
            refine StepsOk.cons (stepOk_pureG 41 177 false rfl rfl (by kernel_rfl) (fun _ _ h => h) [] [(16, .bool false)] (by kernel_rfl) (by kernel_rfl) rfl Old.refl' (fun _ _ _ h => h) (fun d E w' hk hda hS hc hf => by rintro  e16; exact ⟨_, by go_simp, rfl⟩)) ?_
            refine StepsOk.cons (stepOk_pureG 41 177 false rfl rfl (by kernel_rfl) (fun _ _ h => h) [(42, 178)] [] (by kernel_rfl) (by kernel_rfl) rfl Old.refl' (fun _ _ _ h => h) (fun d E w' hk hda hS hc hf => by rintro _ q42 rfl e178 ; exact ⟨_, by go_simp, rfl⟩)) ?_
            refine StepsOk.cons (stepOk_pureG 41 177 false rfl rfl (by kernel_rfl) (fun _ _ h => h) [(43, 179)] [] (by kernel_rfl) (by kernel_rfl) rfl Old.refl' (fun _ _ _ h => h) (fun d E w' hk hda hS hc hf => by rintro _ q43 rfl e179 ; exact ⟨_, by go_simp, rfl⟩)) ?_
            refine StepsOk.cons (stepOk_pureG 44 180 true rfl rfl (by kernel_rfl) (fun _ _ h => h) [] [(15, .int .i64 0)] (by kernel_rfl) (by kernel_rfl) rfl Old.refl' (fun _ _ _ h => h) (fun d E w' hk hda hS hc hf => by rintro  e15; exact ⟨_, by go_simp, rfl⟩)) ?_
            refine StepsOk.cons (stepOk_pureG 44 180 true rfl rfl (by kernel_rfl) (fun _ _ h => h) [(45, 181)] [] (by kernel_rfl) (by kernel_rfl) rfl Old.refl' (fun _ _ _ h => h) (fun d E w' hk hda hS hc hf => by rintro _ q45 rfl e181 ; exact ⟨_, by go_simp, rfl⟩)) ?_
            refine StepsOk.cons (stepOk_pureG 41 177 false rfl rfl (by kernel_rfl) (fun _ _ h => h) [(44, 180), (46, 182)] [] (by kernel_rfl) (by kernel_rfl) rfl Old.refl' (fun _ _ _ h => h) (fun d E w' hk hda hS hc hf => by rintro _ q44 rfl e180 _ q46 rfl e182 ; exact ⟨_, by go_simp, rfl⟩)) ?_
            refine StepsOk.cons (stepOk_pure [(41, 177), (47, 183)] [] rfl rfl (by kernel_rfl) (by kernel_rfl) rfl Old.refl' (fun _ _ _ h => h) (fun d E w' hk hda hS hc hf => by rintro _ q41 rfl e177 _ q47 rfl e183 ; exact ⟨_, by go_simp, rfl⟩)) ?_
            exact StepsOk.nil
          case ends =>
            intro σ9 w9 hS9 hA9
            refine Ends.eqv (some 136) (.pointer (some ⟨gb, 0, none⟩)) rfl (fun _ h => h) ?_
            refine Ends.eqv (some 137) (.int .i64 0) rfl (fun _ h => h) ?_
            refine Ends.eqv (some 138) (.pointer (some ⟨gx, 0, none⟩)) rfl (fun _ h => h) ?_
            refine Ends.eqv (some 139) (.pointer (some ⟨gx, 0, none⟩)) rfl (fun _ h => h) ?_
            refine Ends.eqv (some 140) (.pointer (some ⟨gx, 0, none⟩)) rfl (fun _ h => h) ?_
            refine Ends.eqv (some 141) (.slice A 0 cx) rfl (fun _ h => h) ?_
            refine Ends.eqv (some 142) (.int .i64 0) rfl (fun _ h => h) ?_
            refine Ends.eqv (some 143) (.bool false) rfl (fun _ h => h) ?_
            refine Ends.eqv (some 144) (.bool false) rfl (fun _ h => h) ?_
            refine Ends.eqv (some 145) (.pointer (some ⟨gb, 0, none⟩)) rfl (fun _ h => h) ?_
            refine Ends.ex (some 146) rfl ?_
            rintro _ p10 ⟨A3, c3, rfl, i3⟩
            refine Ends.eqv (some 147) (.pointer (some ⟨gx, 0, none⟩)) rfl (fun _ h => h) ?_
            refine Ends.eqv (some 148) (.pointer (some ⟨gx, 0, none⟩)) rfl (fun _ h => h) ?_
            refine Ends.eqv (some 149) (.pointer (some ⟨gx, 0, none⟩)) rfl (fun _ h => h) ?_
            refine Ends.eqv (some 150) (.slice A 0 cx) rfl (fun _ h => h) ?_
            refine Ends.eqv (some 151) (.bool true) rfl (fun _ h => h) ?_
            refine Ends.eqv (some 152) (.bool false) rfl (fun _ h => h) ?_
            refine Ends.eqv (some 153) (.bool false) rfl (fun _ h => h) ?_
            refine Ends.eqv (some 154) (.bool false) rfl (fun _ h => h) ?_
            refine Ends.eqv (some 155) (.bool false) rfl (fun _ h => h) ?_
            refine Ends.eqv (some 156) (.pointer (some ⟨gx, 0, none⟩)) rfl (fun _ h => h) ?_
            refine Ends.eqv (some 157) (.pointer (some ⟨gx, 0, none⟩)) rfl (fun _ h => h) ?_
            refine Ends.eqv (some 158) (.pointer (some ⟨gx, 0, none⟩)) rfl (fun _ h => h) ?_
            refine Ends.eqv (some 159) (.slice A 0 cx) rfl (fun _ h => h) ?_
            refine Ends.eqv (some 160) (.int .i64 0) rfl (fun _ h => h) ?_
            refine Ends.eqv (some 161) (.bool false) rfl (fun _ h => h) ?_
            refine Ends.eqv (some 162) (.bool false) rfl (fun _ h => h) ?_
            refine Ends.eqv (some 163) (.bool false) rfl (fun _ h => h) ?_
            refine Ends.eqv (some 164) (.bool false) rfl (fun _ h => h) ?_
            refine Ends.eqv (some 165) (.bool false) rfl (fun _ h => h) ?_
            refine Ends.eqv (some 166) (.bool false) rfl (fun _ h => h) ?_
            refine Ends.eqv (some 167) (undef) rfl (fun _ h => h) ?_
            refine Ends.eqv (some 168) (undef) rfl (fun _ h => h) ?_
            refine Ends.eqv (some 169) (undef) rfl (fun _ h => h) ?_
            refine Ends.eqv (some 170) (undef) rfl (fun _ h => h) ?_
            refine Ends.eqv (some 171) (undef) rfl (fun _ h => h) ?_
            refine Ends.eqv (some 172) (undef) rfl (fun _ h => h) ?_
            refine Ends.eqv (some 173) (undef) rfl (fun _ h => h) ?_
            refine Ends.eqv (some 174) (undef) rfl (fun _ h => h) ?_
            refine Ends.eqv (some 175) (.bool false) rfl (fun _ h => h) ?_
            refine Ends.eqv (some 176) (.bool false) rfl (fun _ h => h) ?_
            refine Ends.eqv (some 177) (.bool false) rfl (fun _ h => h) ?_
            refine Ends.eqv (some 178) (.bool false) rfl (fun _ h => h) ?_
            refine Ends.eqv (some 179) (.bool true) rfl (fun _ h => h) ?_
            refine Ends.eqv (some 180) (.bool true) rfl (fun _ h => h) ?_
            refine Ends.eqv (some 181) (.int .i64 0) rfl (fun _ h => h) ?_
            refine Ends.eqv (some 182) (.bool false) rfl (fun _ h => h) ?_
            refine Ends.eqv (some 183) (.bool false) rfl (fun _ h => h) ?_
            refine Ends.eqv (some 184) (.bool false) rfl (fun _ h => h) ?_
            refine Ends.nil ?_
            clear hA9
            simp only [put_lit, put_none, List.set_cons_zero, List.set_cons_succ]
            have HTW := hide (tw.old hS9.1)
            clear tw hS9
            go_wp2_with fail
            go_roundg (n - (k + 1))
            case measure => omega
            case rel => exact ⟨k + 1, _, _, rfl, by omega, by omega, by go_num, HTW.out, hlen⟩
        | cons k0 kt =>
          obtain ⟨ga, ca, ea, _, _⟩ := hko.form (by simp at hN; omega)
          injection ea with ea1 _ ea3
          subst ea1 ea3
          have hf0 := own_cells hko 0 (.int .i64 k0) rfl
          have hga := own_lt hko
          have hN1 : 0 < N := by simp at hN; omega
          have hN2 : ¬ N = 0 := by omega
          have hNi : (0 : Int) < N := by omega
          go_wp2_with fail
          refine (LeastB_yes _ _ _ k0 kt us N hN (by omega) _ hbk).mono ?_
          rintro e w2 ⟨rfl, f2⟩
          have tw := tw.old f2
          have hKx := hKx.old f2
          have SX : ∀ U, Old w2 U → U.cell? ⟨gx, 0, none⟩ = some (.slice (some ⟨ga, 0, none⟩) N cx) ∧ U.cell? ⟨ga, 0, none⟩ = some (.int .i64 k0) := fun U hU => ⟨((f2.trans' hU).cell (p := ⟨gx, 0, none⟩) hgx).trans k0x, ((f2.trans' hU).cell (p := ⟨ga, 0, none⟩) hga).trans hf0⟩
          clear hbk
          go_wp2_with fail
          refine region_steps (R := pick [eqv (.pointer (some ⟨gb, 0, none⟩)), eqv (.int .i64 N), eqv (.pointer (some ⟨gx, 0, none⟩)), eqv (.pointer (some ⟨gx, 0, none⟩)), eqv (.pointer (some ⟨gx, 0, none⟩)), eqv (.slice (some ⟨ga, 0, none⟩) N cx), eqv (.int .i64 N), eqv (.bool false), eqv (.bool false), eqv (.pointer (some ⟨gb, 0, none⟩)), fun v w' => ∃ A3 c3, v = .slice A3 N c3 ∧ IntsAt w' A3 (k0 :: kt), eqv (.pointer (some ⟨gx, 0, none⟩)), eqv (.pointer (some ⟨gx, 0, none⟩)), eqv (.pointer (some ⟨gx, 0, none⟩)), eqv (.slice (some ⟨ga, 0, none⟩) N cx), eqv (.bool true), eqv (.bool false), eqv (.bool false), eqv (.bool false), eqv (.bool true), eqv (.pointer (some ⟨gx, 0, none⟩)), eqv (.pointer (some ⟨gx, 0, none⟩)), eqv (.pointer (some ⟨gx, 0, none⟩)), eqv (.slice (some ⟨ga, 0, none⟩) N cx), eqv (.int .i64 N), eqv (.bool true), eqv (.bool false), eqv (.bool false), eqv (.bool false), eqv (.bool true), eqv (.bool true), eqv (.int .i64 k0), eqv (.pointer (some ⟨gx, 0, none⟩)), eqv (.pointer (some ⟨gx, 0, none⟩)), eqv (.pointer (some ⟨gx, 0, none⟩)), eqv (.slice (some ⟨ga, 0, none⟩) N cx), eqv (.pointer (some ⟨ga, 0, none⟩)), eqv (.int .i64 k0), eqv (.bool false), eqv (.bool false), eqv (.bool false), eqv (.bool false), eqv (.bool true), eqv (.bool false), eqv (.bool false), eqv (undef), eqv (undef), eqv (.bool false), eqv (.bool false)]) (S := fun _ w' => Old w2 w' ∧ w'.cell? ⟨gx, 0, none⟩ = some (.slice (some ⟨ga, 0, none⟩) N cx) ∧ w'.cell? ⟨ga, 0, none⟩ = some (.int .i64 k0)) (T := Old) (by kernel_rfl) (by kernel_rfl) (by kernel_rfl) (Stab.pick (Stab.eqv (Stab.eqv (Stab.eqv (Stab.eqv (Stab.eqv (Stab.eqv (Stab.eqv (Stab.eqv (Stab.eqv (Stab.eqv (Stab.cons (fun v w w' ht ⟨A3, c3, h, i⟩ => ⟨A3, c3, h, i.old ht⟩) (Stab.eqv (Stab.eqv (Stab.eqv (Stab.eqv (Stab.eqv (Stab.eqv (Stab.eqv (Stab.eqv (Stab.eqv (Stab.eqv (Stab.eqv (Stab.eqv (Stab.eqv (Stab.eqv (Stab.eqv (Stab.eqv (Stab.eqv (Stab.eqv (Stab.eqv (Stab.eqv (Stab.eqv (Stab.eqv (Stab.eqv (Stab.eqv (Stab.eqv (Stab.eqv (Stab.eqv (Stab.eqv (Stab.eqv (Stab.eqv (Stab.eqv (Stab.eqv (Stab.eqv (Stab.eqv (Stab.eqv (Stab.eqv (Stab.eqv (Stab.eqv (Stab.nil))))))))))))))))))))))))))))))))))))))))))))))))))) (⟨(Old.refl' _).drew', SX _ ((Old.refl' _).drew')⟩) ?steps ?ends
          case steps =>
            refine StepsOk.cons (stepOk_pure [] [(3, .pointer (some ⟨gb, 0, none⟩))] rfl rfl (by kernel_rfl) (by kernel_rfl) rfl Old.refl' (fun _ _ _ h => h) (fun d E w' hk hda hS hc hf => by rintro  e3; exact ⟨_, by go_simp, rfl⟩)) ?_
            refine StepsOk.cons (stepOk_mk [(0, 136)] [] rfl rfl (by kernel_rfl) (by kernel_rfl) rfl ?_) ?_
            · rintro d a w' hk hda hS _ q0 rfl e136 
              first | refine Given.nil (Known.nil ?_) | refine Known.nil ?_
              refine wp_call 16 _ Try.func16 (by kernel_rfl) (by kernel_rfl) _ _ (by rfl) [.pointer (some ⟨gb, 0, none⟩)] (by simp only [List.map_cons, List.map_nil, *]; try rfl) (Two.len N hN (tw.old hS.1)) ?_
              rintro e w1 ⟨rfl, rfl⟩
              exact ⟨_, rfl, _, rfl, rfl, Old.refl' _, hS⟩
            refine StepsOk.cons (stepOk_pure [] [(4, .pointer (some ⟨gx, 0, none⟩))] rfl rfl (by kernel_rfl) (by kernel_rfl) rfl Old.refl' (fun _ _ _ h => h) (fun d E w' hk hda hS hc hf => by rintro  e4; exact ⟨_, by go_simp, rfl⟩)) ?_
            refine StepsOk.cons (stepOk_pure [(2, 138)] [] rfl rfl (by kernel_rfl) (by kernel_rfl) rfl Old.refl' (fun _ _ _ h => h) (fun d E w' hk hda hS hc hf => by rintro _ q2 rfl e138 ; exact ⟨_, by go_simp, rfl⟩)) ?_
            refine StepsOk.cons (stepOk_pure [(3, 139)] [] rfl rfl (by kernel_rfl) (by kernel_rfl) rfl Old.refl' (fun _ _ _ h => h) (fun d E w' hk hda hS hc hf => by rintro _ q3 rfl e139 ; exact ⟨_, by go_simp, rfl⟩)) ?_
            refine StepsOk.cons (stepOk_pure [(4, 140)] [] rfl rfl (by kernel_rfl) (by kernel_rfl) rfl Old.refl' (fun _ _ _ h => h) (fun d E w' hk hda hS hc hf => by rintro _ q4 rfl e140 ; obtain ⟨-, s0, s1⟩ := hS; exact ⟨_, by go_simp, rfl⟩)) ?_
            refine StepsOk.cons (stepOk_pure [(5, 141)] [] rfl rfl (by kernel_rfl) (by kernel_rfl) rfl Old.refl' (fun _ _ _ h => h) (fun d E w' hk hda hS hc hf => by rintro _ q5 rfl e141 ; exact ⟨_, by go_simp, rfl⟩)) ?_
            refine StepsOk.cons (stepOk_pure [(1, 137), (6, 142)] [] rfl rfl (by kernel_rfl) (by kernel_rfl) rfl Old.refl' (fun _ _ _ h => h) (fun d E w' hk hda hS hc hf => by rintro _ q1 rfl e137 _ q6 rfl e142 ; exact ⟨_, by go_simp, rfl⟩)) ?_
            refine StepsOk.cons (stepOk_pure [(7, 143)] [] rfl rfl (by kernel_rfl) (by kernel_rfl) rfl Old.refl' (fun _ _ _ h => h) (fun d E w' hk hda hS hc hf => by rintro _ q7 rfl e143 ; exact ⟨_, by go_simp, rfl⟩)) ?_
            refine StepsOk.cons (stepOk_pureG 8 144 false rfl rfl (by kernel_rfl) (fun _ _ h => h) [] [(3, .pointer (some ⟨gb, 0, none⟩))] (by kernel_rfl) (by kernel_rfl) rfl Old.refl' (fun _ _ _ h => h) (fun d E w' hk hda hS hc hf => by rintro  e3; exact ⟨_, by go_simp, rfl⟩)) ?_
            refine StepsOk.cons (stepOk_guard 8 144 false rfl rfl (by kernel_rfl) (fun _ _ h => h) [(9, 145)] [] (by kernel_rfl) (by kernel_rfl) rfl ?_) ?_
            · rintro d a w' hk hda hS _ q9 rfl e145 
              first | refine Given.nil (Known.nil ?_) | refine Known.nil ?_
              refine wp_call 11 _ Try.func11 (by kernel_rfl) (by kernel_rfl) _ _ (by rfl) [.pointer (some ⟨gb, 0, none⟩)] (by simp only [List.map_cons, List.map_nil, *]; try rfl) (Two.keys N hN (tw.old hS.1) (by omega)) ?_
              rintro e w1 ⟨A3, c3, rfl, i3, f3⟩
              exact ⟨_, rfl, _, rfl, ⟨A3, c3, rfl, i3⟩, f3, ⟨hS.1.trans' f3, SX _ (hS.1.trans' f3)⟩⟩
            refine StepsOk.cons (stepOk_pureG 8 144 false rfl rfl (by kernel_rfl) (fun _ _ h => h) [] [(4, .pointer (some ⟨gx, 0, none⟩))] (by kernel_rfl) (by kernel_rfl) rfl Old.refl' (fun _ _ _ h => h) (fun d E w' hk hda hS hc hf => by rintro  e4; exact ⟨_, by go_simp, rfl⟩)) ?_
            refine StepsOk.cons (stepOk_pureG 8 144 false rfl rfl (by kernel_rfl) (fun _ _ h => h) [(11, 147)] [] (by kernel_rfl) (by kernel_rfl) rfl Old.refl' (fun _ _ _ h => h) (fun d E w' hk hda hS hc hf => by rintro _ q11 rfl e147 ; exact ⟨_, by go_simp, rfl⟩)) ?_
            refine StepsOk.cons (stepOk_pureG 8 144 false rfl rfl (by kernel_rfl) (fun _ _ h => h) [(12, 148)] [] (by kernel_rfl) (by kernel_rfl) rfl Old.refl' (fun _ _ _ h => h) (fun d E w' hk hda hS hc hf => by rintro _ q12 rfl e148 ; exact ⟨_, by go_simp, rfl⟩)) ?_
            refine StepsOk.cons (stepOk_pureG 8 144 false rfl rfl (by kernel_rfl) (fun _ _ h => h) [(13, 149)] [] (by kernel_rfl) (by kernel_rfl) rfl Old.refl' (fun _ _ _ h => h) (fun d E w' hk hda hS hc hf => by rintro _ q13 rfl e149 ; obtain ⟨-, s0, s1⟩ := hS; exact ⟨_, by go_simp, rfl⟩)) ?_
            refine StepsOk.cons (stepOk_guard 8 144 false rfl rfl (by kernel_rfl) (fun _ _ h => h) [(10, 146), (14, 150)] [] (by kernel_rfl) (by kernel_rfl) rfl ?_) ?_
            · rintro d a w' hk hda hS _ q10 ⟨A3, c3, rfl, i3⟩ e146 _ q14 rfl e150 
              first | refine Given.nil (Known.nil ?_) | refine Known.nil ?_
              refine wp_call 10 _ Try.func10 (by kernel_rfl) (by kernel_rfl) _ _ (by rfl) [.slice A3 N c3, .slice (some ⟨ga, 0, none⟩) N cx] (by simp only [List.map_cons, List.map_nil, *]; try rfl) (Ints_same A3 _ N _ c3 cx _ i3 (hKx.old hS.1) hN.symm (by omega)) ?_
              rintro e w1 ⟨rfl, f4⟩
              exact ⟨_, rfl, _, rfl, rfl, f4, ⟨hS.1.trans' f4, SX _ (hS.1.trans' f4)⟩⟩
            refine StepsOk.cons (stepOk_pureG 8 144 false rfl rfl (by kernel_rfl) (fun _ _ h => h) [(15, 151)] [] (by kernel_rfl) (by kernel_rfl) rfl Old.refl' (fun _ _ _ h => h) (fun d E w' hk hda hS hc hf => by rintro _ q15 rfl e151 ; exact ⟨_, by go_simp, rfl⟩)) ?_
            refine StepsOk.cons (stepOk_pure [(8, 144), (16, 152)] [] rfl rfl (by kernel_rfl) (by kernel_rfl) rfl Old.refl' (fun _ _ _ h => h) (fun d E w' hk hda hS hc hf => by rintro _ q8 rfl e144 _ q16 rfl e152 ; exact ⟨_, by go_simp, rfl⟩)) ?_
            refine StepsOk.cons (stepOk_pure [(17, 153)] [] rfl rfl (by kernel_rfl) (by kernel_rfl) rfl Old.refl' (fun _ _ _ h => h) (fun d E w' hk hda hS hc hf => by rintro _ q17 rfl e153 ; exact ⟨_, by go_simp, rfl⟩)) ?_
            refine StepsOk.cons (stepOk_pureG 18 154 false rfl rfl (by kernel_rfl) (fun _ _ h => h) [] [(16, .bool true)] (by kernel_rfl) (by kernel_rfl) rfl Old.refl' (fun _ _ _ h => h) (fun d E w' hk hda hS hc hf => by rintro  e16; exact ⟨_, by go_simp, rfl⟩)) ?_
            refine StepsOk.cons (stepOk_pureG 18 154 false rfl rfl (by kernel_rfl) (fun _ _ h => h) [] [(4, .pointer (some ⟨gx, 0, none⟩))] (by kernel_rfl) (by kernel_rfl) rfl Old.refl' (fun _ _ _ h => h) (fun d E w' hk hda hS hc hf => by rintro  e4; exact ⟨_, by go_simp, rfl⟩)) ?_
            refine StepsOk.cons (stepOk_pureG 18 154 false rfl rfl (by kernel_rfl) (fun _ _ h => h) [(20, 156)] [] (by kernel_rfl) (by kernel_rfl) rfl Old.refl' (fun _ _ _ h => h) (fun d E w' hk hda hS hc hf => by rintro _ q20 rfl e156 ; exact ⟨_, by go_simp, rfl⟩)) ?_
            refine StepsOk.cons (stepOk_pureG 18 154 false rfl rfl (by kernel_rfl) (fun _ _ h => h) [(21, 157)] [] (by kernel_rfl) (by kernel_rfl) rfl Old.refl' (fun _ _ _ h => h) (fun d E w' hk hda hS hc hf => by rintro _ q21 rfl e157 ; exact ⟨_, by go_simp, rfl⟩)) ?_
            refine StepsOk.cons (stepOk_pureG 18 154 false rfl rfl (by kernel_rfl) (fun _ _ h => h) [(22, 158)] [] (by kernel_rfl) (by kernel_rfl) rfl Old.refl' (fun _ _ _ h => h) (fun d E w' hk hda hS hc hf => by rintro _ q22 rfl e158 ; obtain ⟨-, s0, s1⟩ := hS; exact ⟨_, by go_simp, rfl⟩)) ?_
            refine StepsOk.cons (stepOk_pureG 18 154 false rfl rfl (by kernel_rfl) (fun _ _ h => h) [(23, 159)] [] (by kernel_rfl) (by kernel_rfl) rfl Old.refl' (fun _ _ _ h => h) (fun d E w' hk hda hS hc hf => by rintro _ q23 rfl e159 ; exact ⟨_, by go_simp, rfl⟩)) ?_
            refine StepsOk.cons (stepOk_pureG 18 154 false rfl rfl (by kernel_rfl) (fun _ _ h => h) [(24, 160)] [] (by kernel_rfl) (by kernel_rfl) rfl Old.refl' (fun _ _ _ h => h) (fun d E w' hk hda hS hc hf => by rintro _ q24 rfl e160 ; exact ⟨_, by go_simp, rfl⟩)) ?_
            refine StepsOk.cons (stepOk_pureG 18 154 false rfl rfl (by kernel_rfl) (fun _ _ h => h) [(19, 155), (25, 161)] [] (by kernel_rfl) (by kernel_rfl) rfl Old.refl' (fun _ _ _ h => h) (fun d E w' hk hda hS hc hf => by rintro _ q19 rfl e155 _ q25 rfl e161 ; exact ⟨_, by go_simp, rfl⟩)) ?_
            refine StepsOk.cons (stepOk_pure [(18, 154), (26, 162)] [] rfl rfl (by kernel_rfl) (by kernel_rfl) rfl Old.refl' (fun _ _ _ h => h) (fun d E w' hk hda hS hc hf => by rintro _ q18 rfl e154 _ q26 rfl e162 ; exact ⟨_, by go_simp, rfl⟩)) ?_
            refine StepsOk.cons (stepOk_pure [(27, 163)] [] rfl rfl (by kernel_rfl) (by kernel_rfl) rfl Old.refl' (fun _ _ _ h => h) (fun d E w' hk hda hS hc hf => by rintro _ q27 rfl e163 ; exact ⟨_, by go_simp, rfl⟩)) ?_
            refine StepsOk.cons (stepOk_pureG 28 164 false rfl rfl (by kernel_rfl) (fun _ _ h => h) [] [(16, .bool true)] (by kernel_rfl) (by kernel_rfl) rfl Old.refl' (fun _ _ _ h => h) (fun d E w' hk hda hS hc hf => by rintro  e16; exact ⟨_, by go_simp, rfl⟩)) ?_
            refine StepsOk.cons (stepOk_pureG 28 164 false rfl rfl (by kernel_rfl) (fun _ _ h => h) [(29, 165)] [] (by kernel_rfl) (by kernel_rfl) rfl Old.refl' (fun _ _ _ h => h) (fun d E w' hk hda hS hc hf => by rintro _ q29 rfl e165 ; exact ⟨_, by go_simp, rfl⟩)) ?_
            refine StepsOk.cons (stepOk_pureG 30 166 true rfl rfl (by kernel_rfl) (fun _ _ h => h) [] [(15, .int .i64 k0)] (by kernel_rfl) (by kernel_rfl) rfl Old.refl' (fun _ _ _ h => h) (fun d E w' hk hda hS hc hf => by rintro  e15; exact ⟨_, by go_simp, rfl⟩)) ?_
            refine StepsOk.cons (stepOk_pureG 30 166 true rfl rfl (by kernel_rfl) (fun _ _ h => h) [] [(4, .pointer (some ⟨gx, 0, none⟩))] (by kernel_rfl) (by kernel_rfl) rfl Old.refl' (fun _ _ _ h => h) (fun d E w' hk hda hS hc hf => by rintro  e4; exact ⟨_, by go_simp, rfl⟩)) ?_
            refine StepsOk.cons (stepOk_pureG 30 166 true rfl rfl (by kernel_rfl) (fun _ _ h => h) [(32, 168)] [] (by kernel_rfl) (by kernel_rfl) rfl Old.refl' (fun _ _ _ h => h) (fun d E w' hk hda hS hc hf => by rintro _ q32 rfl e168 ; exact ⟨_, by go_simp, rfl⟩)) ?_
            refine StepsOk.cons (stepOk_pureG 30 166 true rfl rfl (by kernel_rfl) (fun _ _ h => h) [(33, 169)] [] (by kernel_rfl) (by kernel_rfl) rfl Old.refl' (fun _ _ _ h => h) (fun d E w' hk hda hS hc hf => by rintro _ q33 rfl e169 ; exact ⟨_, by go_simp, rfl⟩)) ?_
            refine StepsOk.cons (stepOk_pureG 30 166 true rfl rfl (by kernel_rfl) (fun _ _ h => h) [(34, 170)] [] (by kernel_rfl) (by kernel_rfl) rfl Old.refl' (fun _ _ _ h => h) (fun d E w' hk hda hS hc hf => by rintro _ q34 rfl e170 ; obtain ⟨-, s0, s1⟩ := hS; exact ⟨_, by go_simp, rfl⟩)) ?_
            refine StepsOk.cons (stepOk_pureG 30 166 true rfl rfl (by kernel_rfl) (fun _ _ h => h) [(35, 171)] [] (by kernel_rfl) (by kernel_rfl) rfl Old.refl' (fun _ _ _ h => h) (fun d E w' hk hda hS hc hf => by rintro _ q35 rfl e171 ; obtain ⟨-, s0, s1⟩ := hS; exact ⟨_, by go_simp, rfl⟩)) ?_
            refine StepsOk.cons (stepOk_pureG 30 166 true rfl rfl (by kernel_rfl) (fun _ _ h => h) [(36, 172)] [] (by kernel_rfl) (by kernel_rfl) rfl Old.refl' (fun _ _ _ h => h) (fun d E w' hk hda hS hc hf => by rintro _ q36 rfl e172 ; obtain ⟨-, s0, s1⟩ := hS; exact ⟨_, by go_simp, rfl⟩)) ?_
            refine StepsOk.cons (stepOk_pureG 30 166 true rfl rfl (by kernel_rfl) (fun _ _ h => h) [(31, 167), (37, 173)] [] (by kernel_rfl) (by kernel_rfl) rfl Old.refl' (fun _ _ _ h => h) (fun d E w' hk hda hS hc hf => by rintro _ q31 rfl e167 _ q37 rfl e173 ; exact ⟨_, by go_simp, rfl⟩)) ?_
            refine StepsOk.cons (stepOk_pureG 28 164 false rfl rfl (by kernel_rfl) (fun _ _ h => h) [(30, 166), (38, 174)] [] (by kernel_rfl) (by kernel_rfl) rfl Old.refl' (fun _ _ _ h => h) (fun d E w' hk hda hS hc hf => by rintro _ q30 rfl e166 _ q38 rfl e174 ; exact ⟨_, by go_simp, rfl⟩)) ?_
            refine StepsOk.cons (stepOk_pure [(28, 164), (39, 175)] [] rfl rfl (by kernel_rfl) (by kernel_rfl) rfl Old.refl' (fun _ _ _ h => h) (fun d E w' hk hda hS hc hf => by rintro _ q28 rfl e164 _ q39 rfl e175 ; exact ⟨_, by go_simp, rfl⟩)) ?_
            refine StepsOk.cons (stepOk_pure [(40, 176)] [] rfl rfl (by kernel_rfl) (by kernel_rfl) rfl Old.refl' (fun _ _ _ h => h) (fun d E w' hk hda hS hc hf => by rintro _ q40 rfl e176 ; exact ⟨_, by go_simp, rfl⟩)) ?_
            refine StepsOk.cons (stepOk_pureG 41 177 false rfl rfl (by kernel_rfl) (fun _ _ h => h) [] [(16, .bool true)] (by kernel_rfl) (by kernel_rfl) rfl Old.refl' (fun _ _ _ h => h) (fun d E w' hk hda hS hc hf => by rintro  e16; exact ⟨_, by go_simp, rfl⟩)) ?_
            refine StepsOk.cons (stepOk_pureG 41 177 false rfl rfl (by kernel_rfl) (fun _ _ h => h) [(42, 178)] [] (by kernel_rfl) (by kernel_rfl) rfl Old.refl' (fun _ _ _ h => h) (fun d E w' hk hda hS hc hf => by rintro _ q42 rfl e178 ; exact ⟨_, by go_simp, rfl⟩)) ?_
            refine StepsOk.cons (stepOk_pureG 41 177 false rfl rfl (by kernel_rfl) (fun _ _ h => h) [(43, 179)] [] (by kernel_rfl) (by kernel_rfl) rfl Old.refl' (fun _ _ _ h => h) (fun d E w' hk hda hS hc hf => by rintro _ q43 rfl e179 ; exact ⟨_, by go_simp, rfl⟩)) ?_
            refine StepsOk.cons (stepOk_skip 44 180 false rfl rfl (by kernel_rfl) Old.refl' (fun _ _ _ h => h) (fun _ _ h => h) (fun _ => rfl)) ?_
            refine StepsOk.cons (stepOk_skip 44 180 false rfl rfl (by kernel_rfl) Old.refl' (fun _ _ _ h => h) (fun _ _ h => h) (fun _ => rfl)) ?_
            refine StepsOk.cons (stepOk_pureG 41 177 false rfl rfl (by kernel_rfl) (fun _ _ h => h) [(44, 180), (46, 182)] [] (by kernel_rfl) (by kernel_rfl) rfl Old.refl' (fun _ _ _ h => h) (fun d E w' hk hda hS hc hf => by rintro _ q44 rfl e180 _ q46 rfl e182 ; exact ⟨_, by go_simp, rfl⟩)) ?_
            refine StepsOk.cons (stepOk_pure [(41, 177), (47, 183)] [] rfl rfl (by kernel_rfl) (by kernel_rfl) rfl Old.refl' (fun _ _ _ h => h) (fun d E w' hk hda hS hc hf => by rintro _ q41 rfl e177 _ q47 rfl e183 ; exact ⟨_, by go_simp, rfl⟩)) ?_
            exact StepsOk.nil
          case ends =>
            intro σ9 w9 hS9 hA9
            refine Ends.eqv (some 136) (.pointer (some ⟨gb, 0, none⟩)) rfl (fun _ h => h) ?_
            refine Ends.eqv (some 137) (.int .i64 N) rfl (fun _ h => h) ?_
            refine Ends.eqv (some 138) (.pointer (some ⟨gx, 0, none⟩)) rfl (fun _ h => h) ?_
            refine Ends.eqv (some 139) (.pointer (some ⟨gx, 0, none⟩)) rfl (fun _ h => h) ?_
            refine Ends.eqv (some 140) (.pointer (some ⟨gx, 0, none⟩)) rfl (fun _ h => h) ?_
            refine Ends.eqv (some 141) (.slice (some ⟨ga, 0, none⟩) N cx) rfl (fun _ h => h) ?_
            refine Ends.eqv (some 142) (.int .i64 N) rfl (fun _ h => h) ?_
            refine Ends.eqv (some 143) (.bool false) rfl (fun _ h => h) ?_
            refine Ends.eqv (some 144) (.bool false) rfl (fun _ h => h) ?_
            refine Ends.eqv (some 145) (.pointer (some ⟨gb, 0, none⟩)) rfl (fun _ h => h) ?_
            refine Ends.ex (some 146) rfl ?_
            rintro _ p10 ⟨A3, c3, rfl, i3⟩
            refine Ends.eqv (some 147) (.pointer (some ⟨gx, 0, none⟩)) rfl (fun _ h => h) ?_
            refine Ends.eqv (some 148) (.pointer (some ⟨gx, 0, none⟩)) rfl (fun _ h => h) ?_
            refine Ends.eqv (some 149) (.pointer (some ⟨gx, 0, none⟩)) rfl (fun _ h => h) ?_
            refine Ends.eqv (some 150) (.slice (some ⟨ga, 0, none⟩) N cx) rfl (fun _ h => h) ?_
            refine Ends.eqv (some 151) (.bool true) rfl (fun _ h => h) ?_
            refine Ends.eqv (some 152) (.bool false) rfl (fun _ h => h) ?_
            refine Ends.eqv (some 153) (.bool false) rfl (fun _ h => h) ?_
            refine Ends.eqv (some 154) (.bool false) rfl (fun _ h => h) ?_
            refine Ends.eqv (some 155) (.bool true) rfl (fun _ h => h) ?_
            refine Ends.eqv (some 156) (.pointer (some ⟨gx, 0, none⟩)) rfl (fun _ h => h) ?_
            refine Ends.eqv (some 157) (.pointer (some ⟨gx, 0, none⟩)) rfl (fun _ h => h) ?_
            refine Ends.eqv (some 158) (.pointer (some ⟨gx, 0, none⟩)) rfl (fun _ h => h) ?_
            refine Ends.eqv (some 159) (.slice (some ⟨ga, 0, none⟩) N cx) rfl (fun _ h => h) ?_
            refine Ends.eqv (some 160) (.int .i64 N) rfl (fun _ h => h) ?_
            refine Ends.eqv (some 161) (.bool true) rfl (fun _ h => h) ?_
            refine Ends.eqv (some 162) (.bool false) rfl (fun _ h => h) ?_
            refine Ends.eqv (some 163) (.bool false) rfl (fun _ h => h) ?_
            refine Ends.eqv (some 164) (.bool false) rfl (fun _ h => h) ?_
            refine Ends.eqv (some 165) (.bool true) rfl (fun _ h => h) ?_
            refine Ends.eqv (some 166) (.bool true) rfl (fun _ h => h) ?_
            refine Ends.eqv (some 167) (.int .i64 k0) rfl (fun _ h => h) ?_
            refine Ends.eqv (some 168) (.pointer (some ⟨gx, 0, none⟩)) rfl (fun _ h => h) ?_
            refine Ends.eqv (some 169) (.pointer (some ⟨gx, 0, none⟩)) rfl (fun _ h => h) ?_
            refine Ends.eqv (some 170) (.pointer (some ⟨gx, 0, none⟩)) rfl (fun _ h => h) ?_
            refine Ends.eqv (some 171) (.slice (some ⟨ga, 0, none⟩) N cx) rfl (fun _ h => h) ?_
            refine Ends.eqv (some 172) (.pointer (some ⟨ga, 0, none⟩)) rfl (fun _ h => h) ?_
            refine Ends.eqv (some 173) (.int .i64 k0) rfl (fun _ h => h) ?_
            refine Ends.eqv (some 174) (.bool false) rfl (fun _ h => h) ?_
            refine Ends.eqv (some 175) (.bool false) rfl (fun _ h => h) ?_
            refine Ends.eqv (some 176) (.bool false) rfl (fun _ h => h) ?_
            refine Ends.eqv (some 177) (.bool false) rfl (fun _ h => h) ?_
            refine Ends.eqv (some 178) (.bool true) rfl (fun _ h => h) ?_
            refine Ends.eqv (some 179) (.bool false) rfl (fun _ h => h) ?_
            refine Ends.eqv (some 180) (.bool false) rfl (fun _ h => h) ?_
            refine Ends.eqv (some 181) (undef) rfl (fun _ h => h) ?_
            refine Ends.eqv (some 182) (undef) rfl (fun _ h => h) ?_
            refine Ends.eqv (some 183) (.bool false) rfl (fun _ h => h) ?_
            refine Ends.eqv (some 184) (.bool false) rfl (fun _ h => h) ?_
            refine Ends.nil ?_
            clear hA9
            simp only [put_lit, put_none, List.set_cons_zero, List.set_cons_succ]
            have HTW := hide (tw.old hS9.1)
            clear tw hS9
            go_wp2_with fail
            go_roundg (n - (k + 1))
            case measure => omega
            case rel => exact ⟨k + 1, _, _, rfl, by omega, by omega, by go_num, HTW.out, by rw [hN]; exact hlen⟩
    · have hc : k = n ∨ (k < n ∧ k = 100) := by omega
      rcases hc with rfl | ⟨hkn, rfl⟩
      all_goals
        go_wp2_with fail
        refine (told6_any _).mono ?_
        rintro e w9 ⟨rfl, f9⟩
        have o9 := (tw.old f9).o
        go_wp2_with fail
        go_ret
        exact ⟨rfl, o9⟩
end Go.Proofs.Ytidokbgdbakjkaa
