/- past: what acts are; Past in memory. -/
import Derived.Test.YtffahoocbjfdaaaHRq
import Derived.Test.YtffahoocbjfdaaaHSt
namespace Go.Proofs.Ytffahoocbjfdaaa
open Go.RowKit
theorem wp_runv {P : Program} {Q : Exit → Act → World → Prop} {K : Act → World → Prop} {o : Oper} {a : Act} {w w' : World} (u : Value) (hr : (execOp a.eval o).run P w = .ok (.value u) w') (h : K (a.put o.dst u) w') : Oper.wp P o a w K Q := by
  unfold Oper.wp
  rw [hr]
  exact h
structure ActV where
  client : Int
  seq : Int
  ans : Bool
  q : ReqV
  r : Rep
  A : Option Addr
  cap : Nat
  at_ : Int
instance : Inhabited ActV := ⟨⟨0, 0, false, default, Rep.zero, none, 0, 0⟩⟩
def ActV.cells (a : ActV) : List Value := [.int .i64 a.client, .int .i64 a.seq, .bool a.ans, .int .i64 a.q.client, .int .i64 a.q.seq, .int .i64 a.q.kind, .int .i64 a.q.id, .int .i64 a.q.mat, .string a.q.data,
  .int .i64 a.r.code, .int .i64 a.r.ver, .string a.r.data, .slice a.A a.r.vs.length a.cap, .int .i64 a.at_]
def ActV.same (a b : ActV) : Bool := decide (a.client = b.client) && decide (a.seq = b.seq) && decide (a.ans = b.ans) && a.q.eqb b.q && decide (a.at_ = b.at_) && a.r.same b.r
structure PV where
  n : Nat
  last : Int → Int
  wait : Int → Option ReqV
def PV.new : PV := ⟨0, fun _ => 0, fun _ => none⟩
def PV.askE (s : PV) (q : ReqV) : Int := if q.q.may then (if (s.wait q.client).isSome then 4 else if s.last q.client < q.seq then 0 else 9) else 1
def PV.asked (s : PV) (q : ReqV) : PV := ⟨s.n + 1, fun c => if c = q.client then q.seq else s.last c, fun c => if c = q.client then some q else s.wait c⟩
def PV.ask (s : PV) (q : ReqV) : PV := if s.askE q = 0 then s.asked q else s
def PV.ansE (s : PV) (c q at_ : Int) : Int := if at_ < 0 ∨ 1073741824 < at_ then 1 else match s.wait c with
  | none => 4
  | some r => if r.seq = q then 0 else 4
def PV.answered (s : PV) (c : Int) : PV := ⟨s.n + 1, s.last, fun x => if x = c then none else s.wait x⟩
def PV.ans (s : PV) (c q at_ : Int) : PV := if s.ansE c q at_ = 0 then s.answered c else s
def PV.isW (s : PV) (c : Int) (q : ReqV) : Bool := match s.wait c with
  | none => false
  | some r => r.eqb q
def PV.step (s : PV) (a : ActV) : Option PV :=
  if a.ans then (if s.ansE a.client a.seq a.at_ = 0 ∧ s.isW a.client a.q = true then some (s.answered a.client) else none)
  else (if s.askE a.q = 0 ∧ a.client = a.q.client ∧ a.seq = a.q.seq ∧ a.at_ = 0 ∧ a.r.same Rep.zero = true then some (s.asked a.q) else none)
def stepsP (l : List ActV) : Option PV := l.foldl (fun o a => o.bind (PV.step · a)) (some PV.new)
theorem stepsP_snoc (l : List ActV) (a : ActV) : stepsP (l ++ [a]) = (stepsP l).bind (PV.step · a) := by simp [stepsP]
theorem stepsP_none (l bs : List ActV) (h : stepsP l = none) : stepsP (l ++ bs) = none := by
  unfold stepsP at *
  rw [List.foldl_append, h]
  induction bs with
  | nil => rfl
  | cons b bs ih => exact ih
def mayP (l : List ActV) : Bool := (stepsP l).isSome
structure PaB (w : World) (p : Nat) (cs : Array Value) (V : Value) (n : Nat) (xs : List Value) : Prop where
  bk : Bk w p 91 cs
  row : w.ownsRow 0 45 14 V n xs
def Waits (w : World) (F : Nat → Prop) (v : Option Value) (q : Option ReqV) : Prop := match q with
  | none => v = some (.pointer none)
  | some q => ∃ b, v = some (.pointer (some ⟨b, 0, none⟩)) ∧ Bk w b 24 #[.int .i64 q.client, .int .i64 q.seq, .int .i64 q.kind, .int .i64 q.id, .int .i64 q.mat, .string q.data] ∧ F b
structure PaC (w : World) (cs : Array Value) (V : Value) (F : Nat → Prop) (s : PV) : Prop where
  c0 : cs[0]? = some V
  lc : ∀ c : Nat, c < 4 → cs[1 + c]? = some (.int .i64 (s.last c))
  wc : ∀ c : Nat, c < 4 → Waits w F cs[5 + c]? (s.wait c)
structure PaAt (w : World) (p : Nat) (F : Nat → Prop) (s : PV) : Prop where
  ex : ∃ cs V xs, PaB w p cs V s.n xs ∧ PaC w cs V F s ∧ ∀ b, V.ownBlock = some b → F b
  gF : F p
  lt : ∀ k, F k → k < w.heap.size
  wn : ∀ c, ¬ (0 ≤ c ∧ c < 4) → s.wait c = none
section
variable {w w' : World} {p n : Nat} {cs : Array Value} {V : Value} {xs : List Value} {F S : Nat → Prop} {s : PV}
theorem PaB.fr (h : PaB w p cs V n xs) (hf : Fr S w w') (hp : ¬ S p) (hv : ∀ b, V.ownBlock = some b → ¬ S b) : PaB w' p cs V n xs := ⟨h.bk.fr hf hp, own_fr h.row hf hv⟩
theorem PaB.old (h : PaB w p cs V n xs) (hf : Old w w') : PaB w' p cs V n xs := h.fr (S := fun _ => False) (Fr.of_old hf) id (fun _ _ => id)
theorem PaB.ne (h : PaB w p cs V n xs) : V.ownBlock ≠ some p := own_ne_bk h.row h.bk (by decide)
theorem PaB.set_ (h : PaB w p cs V n xs) (i : Nat) (u : Value) : PaB (w.setCell ⟨p, i, none⟩ u) p (cs.setIfInBounds i u) V n xs := ⟨h.bk.set_ i u, own_set h.row h.ne u⟩
theorem Waits.fr {v : Option Value} {q : Option ReqV} (h : Waits w F v q) (hf : Fr S w w') (hS : ∀ k, F k → ¬ S k) : Waits w' F v q := by
  cases q with
  | none => exact h
  | some q => obtain ⟨b, h1, h2, h3⟩ := h; exact ⟨b, h1, h2.fr hf (hS b h3), h3⟩
theorem PaC.fr (h : PaC w cs V F s) (hf : Fr S w w') (hS : ∀ k, F k → ¬ S k) : PaC w' cs V F s := ⟨h.c0, h.lc, fun c hc => (h.wc c hc).fr hf hS⟩
theorem PaAt.fr (h : PaAt w p F s) (hf : Fr S w w') (hS : ∀ k, F k → ¬ S k) : PaAt w' p F s := by
  obtain ⟨cs, V, xs, h1, h2, h3⟩ := h.ex
  exact ⟨⟨cs, V, xs, h1.fr hf (hS p h.gF) (fun b hb => hS b (h3 b hb)), h2.fr hf hS, h3⟩, h.gF, fun k hk => Nat.lt_of_lt_of_le (h.lt k hk) hf.size, h.wn⟩
theorem PaAt.old (h : PaAt w p F s) (hf : Old w w') : PaAt w' p F s := h.fr (S := fun _ => False) (Fr.of_old hf) (fun _ _ => id)
theorem PaB.app {w1 W2 : World} {ca c2 : Nat} {A A2 : Option Addr} {ys : List Value} (h : PaB w p cs (.slice A n ca) n xs) (ho : Old w w1) (h2 : Apps w1 0 45 14 (.slice A n ca) (n + 1) ys (.slice A2 (n + 1) c2) W2) :
    PaB (W2.setCell ⟨p, 0, none⟩ (.slice A2 (n + 1) c2)) p (cs.setIfInBounds 0 (.slice A2 (n + 1) c2)) (.slice A2 (n + 1) c2) (n + 1) ys ∧
    Fr (fun b => b = p ∨ (Value.slice A n ca).ownBlock = some b) w (W2.setCell ⟨p, 0, none⟩ (.slice A2 (n + 1) c2)) ∧
    (∀ b, (Value.slice A2 (n + 1) c2).ownBlock = some b → (Value.slice A n ca).ownBlock = some b ∨ w.heap.size ≤ b) := by
  have hs := ho.size
  have h1 := h.old ho
  have hf : Fr (fun b => (Value.slice A n ca).ownBlock = some b) w1 W2 := h2.fr (fun k _ hk => hk)
  have hv2 : ∀ b, (Value.slice A2 (n + 1) c2).ownBlock = some b → (Value.slice A n ca).ownBlock = some b ∨ w1.heap.size = b := fun b hb => by
    rcases h2.2.2 with e | e
    · exact .inl (e ▸ hb)
    · rw [hb] at e; injection e with e; exact .inr e.symm
  have hB : PaB W2 p cs (.slice A2 (n + 1) c2) (n + 1) ys := ⟨h1.bk.fr hf h1.ne, h2.own⟩
  refine ⟨hB.set_ 0 _, ?_, fun b hb => ?_⟩
  · exact Fr.setCell (p := ⟨p, 0, none⟩) ((Fr.of_old ho).trans (hf.mono fun k _ hk => .inr hk)) (.inr (.inl rfl)) _
  · rcases hv2 b hb with e | e
    · exact .inl e
    · right; omega
end
def paCells : Array Value := #[.slice none 0 0, .int .i64 0, .int .i64 0, .int .i64 0, .int .i64 0, .pointer none, .pointer none, .pointer none, .pointer none]
theorem Pa_new {w : World} {p : Nat} (h : Bk w p 91 paCells) : PaAt w p (fun k => k = p) PV.new :=
  ⟨⟨paCells, .slice none 0 0, [], ⟨h, World.ownsRow_nil _ _ _ _⟩, ⟨rfl, fun c hc => by rcases (by omega : c = 0 ∨ c = 1 ∨ c = 2 ∨ c = 3) with rfl | rfl | rfl | rfl <;> rfl, fun c hc => by rcases (by omega : c = 0 ∨ c = 1 ∨ c = 2 ∨ c = 3) with rfl | rfl | rfl | rfl <;> rfl⟩, fun b hb => by simp [Value.ownBlock] at hb⟩, rfl, fun k hk => hk ▸ h.lt, fun _ _ => rfl⟩
set_option maxHeartbeats 400000 in
theorem PNew_any (w : World) : Calls Try.prog 36 #[] w fun e w' => e = .returned (.pointer (some ⟨w.heap.size, 0, none⟩)) ∧ PaAt w' w.heap.size (fun k => k = w.heap.size) PV.new ∧ Old w w' := by
  go_enter Try.func36, Try.ntmps36
  go_wp2
  go_ret
  exact ⟨rfl, Pa_new (Bk.new w 91 paCells), (Old.refl' w).alloc' _⟩
def LastIs (w : World) (p n : Nat) (cells : List Value) : Prop := ∃ b o ca, w.cell? ⟨p, 0, none⟩ = some (.slice (some ⟨b, o, none⟩) (n + 1) ca) ∧ b < w.heap.size ∧ ∀ j u, cells[j]? = some u → w.cell? ⟨b, o + n * 14 + j, none⟩ = some u
theorem PaB.last {w : World} {p n c2 : Nat} {cs : Array Value} {A2 : Option Addr} {xs ys : List Value} (h : PaB w p cs (.slice A2 (n + 1) c2) (n + 1) (xs ++ ys)) (hc : cs[0]? = some (.slice A2 (n + 1) c2)) (hx : xs.length = n * 14) (hy : ys.length = 14) : LastIs w p n ys := by
  obtain ⟨b, o, rfl, hb, hcc⟩ := CellsAt.of_own h.row (fun e => by have := congrArg List.length e; simp [hy] at this)
  refine ⟨b, o, c2, (h.bk.cell 0).trans hc, hb, fun j u hj => ?_⟩
  have := hcc (n * 14 + j) u (by rw [List.getElem?_append_right (by omega), hx, Nat.add_sub_cancel_left]; exact hj)
  rwa [← Nat.add_assoc] at this
def cs2 (cs : Array Value) (a b : Nat) (u v : Value) (o1 o2 : Option Value) : Array Value := match o1, o2 with
  | none, none => cs
  | some _, none => cs.setIfInBounds a u
  | none, some _ => cs.setIfInBounds b v
  | some _, some _ => (cs.setIfInBounds a u).setIfInBounds b v
theorem get_ne {cs : Array Value} {i j : Nat} (h : i ≠ j) (u : Value) : (cs.setIfInBounds i u)[j]? = cs[j]? := by
  rw [Array.getElem?_setIfInBounds, if_neg h]
theorem get_eq {cs : Array Value} {j : Nat} {v : Value} (h : cs[j]? = some v) (u : Value) : (cs.setIfInBounds j u)[j]? = some u := by
  rw [Array.getElem?_setIfInBounds, if_pos rfl, if_pos (Array.getElem?_eq_some_iff.1 h).1]
theorem cs2_1 {cs : Array Value} {a b : Nat} {u v x : Value} (h : a ≠ b) (o : Option Value) : (cs2 cs a b u v none o).setIfInBounds a u = cs2 cs a b u v (some x) o := by
  cases o
  · rfl
  · exact Array.setIfInBounds_comm _ _ (Ne.symm h)
theorem cs2_2 {cs : Array Value} {a b : Nat} {u v x : Value} (o : Option Value) : (cs2 cs a b u v o none).setIfInBounds b v = cs2 cs a b u v o (some x) := by
  cases o <;> rfl
theorem cs2_ne {cs : Array Value} {a b j : Nat} {u v w : Value} (h1 : a ≠ j) (h2 : b ≠ j) (h : cs[j]? = some w) (o1 o2 : Option Value) : (cs2 cs a b u v o1 o2)[j]? = some w := by
  cases o1 <;> cases o2 <;> simp only [cs2, get_ne h1, get_ne h2, h]
theorem cs2_some {cs : Array Value} {a b j : Nat} {u v w : Value} (h : cs[j]? = some w) (o1 o2 : Option Value) : ∃ w', (cs2 cs a b u v o1 o2)[j]? = some w' := by
  have hs := (Array.getElem?_eq_some_iff.1 h).1
  cases o1 <;> cases o2 <;> simp only [cs2] <;> exact ⟨_, Array.getElem?_eq_getElem (by simpa using hs)⟩
end Go.Proofs.Ytffahoocbjfdaaa
