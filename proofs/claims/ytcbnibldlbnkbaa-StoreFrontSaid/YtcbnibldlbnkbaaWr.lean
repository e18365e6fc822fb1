/- pack.Writer: what a writer is in memory; Num. -/
import Derived.Outline
import Derived.Test.YtcbnibldlbnkbaaRows
import Derived.Test.YtcbnibldlbnkbaaRow
namespace Go.Proofs.Ytcbnibldlbnkbaa
open Go.RowKit

abbrev u8s (bs : List Int) : List Value := bs.map (Value.int .u8)

/-- a number's bytes: seven bits a byte -/
def numB (v : Nat) : List Int := if v < 128 then [(v : Int)] else ((v % 128 + 128 : Nat) : Int) :: numB (v / 128)
decreasing_by omega
theorem numB_small {v : Nat} (h : v < 128) : numB v = [(v : Int)] := by rw [numB, if_pos h]
theorem numB_large {v : Nat} (h : ¬ v < 128) : numB v = ((v % 128 + 128 : Nat) : Int) :: numB (v / 128) := by rw [numB, if_neg h]
theorem numB_length : ∀ (k : Nat) (v : Nat), v < 128 ^ k → 1 ≤ k → (numB v).length ≤ k
  | 1, v, h, _ => by rw [numB_small (by simpa using h)]; simp
  | k + 2, v, h, _ => by
    by_cases h1 : v < 128
    · rw [numB_small h1]; simp
    · rw [numB_large h1]
      have := numB_length (k + 1) (v / 128) (by rw [Nat.pow_succ] at h; omega) (by omega)
      simp only [List.length_cons]
      omega
theorem numB_len (v : Nat) (h : v < 2 ^ 64) : (numB v).length ≤ 10 := numB_length 10 v (Nat.lt_of_lt_of_le h (by decide)) (by omega)

/-- a writer at block g with the slice V, that has put bs -/
structure WrAt (w : World) (g : Nat) (V : Value) (bs : List Int) : Prop where
  bk : Bk w g 79 #[V]
  own : w.ownsRow 0 5 1 V bs.length (u8s bs)
  ne : V.ownBlock ≠ some g

def WrFoot (g : Nat) (V : Value) (k : Nat) : Prop := k = g ∨ V.ownBlock = some k
theorem WrAt.foot {w : World} {g : Nat} {V : Value} {bs : List Int} (h : WrAt w g V bs) {k : Nat} (hk : WrFoot g V k) : k < w.heap.size := by
  rcases hk with rfl | hk
  · exact h.bk.lt
  · exact (h.own.lt k hk).2
theorem WrAt.fr {w w' : World} {g : Nat} {V : Value} {bs : List Int} {S : Nat → Prop} (h : WrAt w g V bs) (hf : Fr S w w') (hS : ∀ k, WrFoot g V k → ¬ S k) : WrAt w' g V bs :=
  ⟨h.bk.fr hf (hS g (.inl rfl)), own_fr h.own hf (fun k hk => hS k (.inr hk)), h.ne⟩
theorem WrAt.old {w w' : World} {g : Nat} {V : Value} {bs : List Int} (h : WrAt w g V bs) (hf : Old w w') : WrAt w' g V bs := h.fr (Fr.of_old (S := fun _ => False) hf) (fun _ _ h => h)

/-- what putting comes to -/
def Wrote (w : World) (g : Nat) (V : Value) (bs : List Int) (w' : World) : Prop :=
  ∃ V', WrAt w' g V' bs ∧ Fr (WrFoot g V) w w' ∧ ∀ k, WrFoot g V' k → WrFoot g V k ∨ w.heap.size ≤ k
theorem Wrote.trans {w w1 w2 : World} {g : Nat} {V : Value} {bs cs : List Int} (h : Wrote w g V bs w1) (k : ∀ V', WrAt w1 g V' bs → Wrote w1 g V' cs w2) : Wrote w g V cs w2 := by
  obtain ⟨V1, a1, f1, n1⟩ := h
  obtain ⟨V2, a2, f2, n2⟩ := k V1 a1
  refine ⟨V2, a2, Fr.trans' f1 f2 (fun k hk h => (n1 k h).resolve_right (by omega)), fun k hk => ?_⟩
  rcases n2 k hk with h | h
  · exact n1 k h
  · exact .inr (Nat.le_trans f1.size h)
theorem Wrote.refl {w w' : World} {g : Nat} {V : Value} {bs : List Int} (h : WrAt w g V bs) (hb : Old w w') : Wrote w g V bs w' := ⟨V, h.old hb, Fr.of_old hb, fun _ h => .inl h⟩
/-- the slice grown, then stored -/
theorem Wrote.app {w W1 W2 : World} {g : Nat} {V V' : Value} {bs cs : List Int} (h : WrAt w g V bs) (hb : Old w W1) (ha : Apps W1 0 5 1 V (bs ++ cs).length (u8s (bs ++ cs)) V' W2) : Wrote w g V (bs ++ cs) (W2.setCell ⟨g, 0, none⟩ V') := by
  have hg := (h.bk.old hb).lt
  have hV' : ∀ k, V'.ownBlock = some k → V.ownBlock = some k ∨ W1.heap.size ≤ k := fun k hk => by
    rcases ha.2.2 with e | e
    · left; rw [← e]; exact hk
    · right; rw [hk] at e; injection e with e; omega
  have hne : V'.ownBlock ≠ some g := fun e => by
    rcases hV' g e with e | e
    · exact h.ne e
    · omega
  have hb2 := ha.bk (h.bk.old hb) h.ne
  refine ⟨V', ⟨?_, own_set (p := ⟨g, 0, none⟩) ha.own hne V', hne⟩, ?_, fun k hk => ?_⟩
  · have := hb2.set_ 0 V'
    simpa using this
  · exact Fr.setCell (p := ⟨g, 0, none⟩) ((Fr.of_old hb).trans (ha.fr fun k _ hk => .inr hk)) (.inr (.inl rfl)) _
  · rcases hk with rfl | hk
    · exact .inl (.inl rfl)
    · rcases hV' k hk with e | e
      · exact .inl (.inr e)
      · exact .inr (Nat.le_trans hb.size e)

theorem info_u8 : (Try.prog.info? 5).map (fun i => (i.zero, i.size, i.bytes)) = some (some (.int .u8 0), 1, 1) := by kernel_rfl

theorem len1 (cs : List Int) (x : Int) : (cs ++ [x]).length = cs.length + 1 := by simp
theorem u8s1 (cs : List Int) (x : Int) : u8s (cs ++ [x]) = u8s cs ++ [.int .u8 x] := by simp [u8s]
theorem or128 (u : Nat) : bits BinOp.or IntKind.u8 ((u : Int) % 256) 128 = ((u % 128 + 128 : Nat) : Int) := by
  have h : ∀ n : Fin 256, bits BinOp.or IntKind.u8 (n.val : Int) 128 = ((n.val % 128 + 128 : Nat) : Int) := by decide +kernel
  have := h ⟨u % 256, by omega⟩
  simp only at this
  rw [show ((u % 256 : Nat) : Int) = (u : Int) % 256 by omega] at this
  rw [this]
  omega
theorem bk_one {w : World} {g : Nat} {t : TypeId} {v : Value} (h : Bk w g t #[v]) : w.cell? ⟨g, 0, none⟩ = some v ∧ w.frozen? ⟨g, 0, none⟩ = false := ⟨h.cell 0, h.frozen 0⟩
theorem Wrote.from_ {w W w' : World} {g : Nat} {V V' : Value} {cs : List Int} (k : Wrote W g V' cs w') (hf : Fr (WrFoot g V) w W) (hn : ∀ k, WrFoot g V' k → WrFoot g V k ∨ w.heap.size ≤ k) : Wrote w g V cs w' := by
  obtain ⟨V2, a2, f2, n2⟩ := k
  refine ⟨V2, a2, Fr.trans' hf f2 (fun k hk h => (hn k h).resolve_right (by omega)), fun k hk => ?_⟩
  rcases n2 k hk with h | h
  · exact hn k h
  · exact .inr (Nat.le_trans hf.size h)

set_option maxRecDepth 100000 in
set_option maxHeartbeats 1000000 in
theorem Num_w (g v : Nat) (V : Value) (bs : List Int) (hn : bs.length ≤ 10000000) (hv : v < 18446744073709551616) (w : World) (h : WrAt w g V bs) :
    Calls Try.prog 38 #[.pointer (some ⟨g, 0, none⟩), .int .u64 v] w fun e w' => e = .returned (.tuple #[]) ∧ Wrote w g V (bs ++ numB v) w' := by
  obtain ⟨i0, hi, hz0, hz1, hz2⟩ := info_parts info_u8
  go_enter Try.func38, Try.ntmps38
  go_wp2
  go_loopw [1] (fun i wr => ∃ (u : Nat) (V1 : Value) (cs : List Int), i = .int .u64 u ∧ u ≤ v ∧ WrAt wr g V1 cs ∧ Fr (WrFoot g V) w wr ∧ (∀ k, WrFoot g V1 k → WrFoot g V k ∨ w.heap.size ≤ k) ∧ cs ++ numB u = bs ++ numB v) (fun i _ => (intOf i).toNat)
  case atStart => exact ⟨v, V, bs, rfl, Nat.le_refl _, h, Fr.refl _ _, fun _ h => .inl h, rfl⟩
  case round =>
    obtain ⟨u, V1, cs, rfl, hu, hw1, hF, hnew, he⟩ := hrel
    have hcl : cs.length ≤ 10000010 := by
      have h1 := congrArg List.length he
      simp only [List.length_append] at h1
      have := numB_len v hv
      omega
    obtain ⟨A, c, rfl, hc, hA⟩ := own_form hw1.own
    have c0 := hw1.bk.cell 0
    have f0 := hw1.bk.frozen 0
    have hown := hw1.own
    have hgl := hw1.bk.lt
    have HW := hide hw1
    have HF := hide hF
    have HN := hide hnew
    simp only [List.size_toArray, List.length_cons, List.length_nil, Nat.reduceAdd, Nat.zero_lt_succ, getElem?_pos, List.getElem_toArray, List.getElem_cons_zero] at c0
    by_cases hlt : u < 128
    · have HE := hide (he ▸ congrArg (cs ++ ·) (numB_small hlt).symm : cs ++ [(u : Int)] = bs ++ numB v)
      clear he hw1 hF hnew
      have hlt' : ¬ (128 : Int) ≤ (u : Int) := by omega
      have hw : IntKind.u8.wrap (u : Int) = u := by simp [IntKind.wrap_u8]; omega
      go_wp2_with (at_builtin; refine wpList_app _ rfl (.tmp 26) (.tmp 29) 43 rfl 0 5 i0 (.int .u8 0) 1 1 Try.underlying43 hi hz0 hz1 hz2 rfl (by decide) _ _ _ rfl (hown.alloc _) (some ⟨wr.heap.size, 0, none⟩) 1 1 [.int .u8 (u : Int)] rfl rfl (cells_bk (Bk.new wr 5 #[.int .u8 (u : Int)])) (by simp [Value.oneCell']) (by unfold maxLen; omega) (by omega) (by simp) _ rfl _ rfl ?_; intro A2 c2 w2 h2; obtain ⟨y0, y1⟩ := bk_one (h2.bk (HW.out.bk.alloc _) HW.out.ne))
      go_end0
      have this := Wrote.app HW.out ((Old.refl' wr).alloc' _) (cs := [(u : Int)]) (by rw [len1, u8s1]; exact h2)
      rw [HE.out] at this
      exact ⟨rfl, this.from_ HF.out HN.out⟩
    · have HE := hide (he ▸ congrArg (cs ++ ·) (numB_large hlt).symm : cs ++ (((u % 128 + 128 : Nat) : Int) :: numB (u / 128)) = bs ++ numB v)
      clear he hw1 hF hnew
      have hlt' : (128 : Int) ≤ (u : Int) := by omega
      have hx : bits BinOp.or IntKind.u8 ((u : Int) % 256) 128 = ((u % 128 + 128 : Nat) : Int) := or128 u
      obtain ⟨x, hxx⟩ : ∃ x : Int, ((u % 128 + 128 : Nat) : Int) = x := ⟨_, rfl⟩
      rw [hxx] at hx HE
      clear hxx
      go_wp2_with (at_builtin; refine wpList_app _ rfl (.tmp 14) (.tmp 18) 43 rfl 0 5 i0 (.int .u8 0) 1 1 Try.underlying43 hi hz0 hz1 hz2 rfl (by decide) _ _ _ rfl (hown.alloc _) (some ⟨wr.heap.size, 0, none⟩) 1 1 [.int .u8 x] rfl rfl (cells_bk (Bk.new wr 5 #[.int .u8 x])) (by simp [Value.oneCell']) (by unfold maxLen; omega) (by omega) (by simp) _ rfl _ rfl ?_; intro A2 c2 w2 h2; obtain ⟨y0, y1⟩ := bk_one (h2.bk (HW.out.bk.alloc _) HW.out.ne))
      have this := (Wrote.app HW.out ((Old.refl' wr).alloc' (.cells #[.int .u8 x] 5)) (cs := [x]) (by rw [len1, u8s1]; exact h2)).from_ HF.out HN.out
      obtain ⟨V', a', f', n'⟩ := this
      have hT := hide a'
      have hT2 := hide f'
      have hT3 := hide n'
      clear a' f' n' h2
      go_roundw
      case rel => exact ⟨u / 128, V', cs ++ [x], by go_num, by omega, hT.out, hT2.out, hT3.out, by rw [List.append_assoc]; exact HE.out⟩
      case measure => simp [intOf]; omega
/-- a text's bytes -/
def numsOf (d : ByteArray) : List Int := d.data.toList.map fun c => (c.toNat : Int)

set_option maxHeartbeats 400000 in
theorem Yes_w (g : Nat) (b : Bool) (V : Value) (bs : List Int) (hn : bs.length ≤ 10000000) (w : World) (h : WrAt w g V bs) :
    Calls Try.prog 40 #[.pointer (some ⟨g, 0, none⟩), .bool b] w fun e w' => e = .returned (.tuple #[]) ∧ Wrote w g V (bs ++ [if b then 1 else 0]) w' := by
  have hN := hide (fun (v : Nat) (hv : v < 128) => numB_small hv ▸ Num_w g v V bs hn (by omega) w h)
  cases b
  · go_enter Try.func40, Try.ntmps40
    go_wp2_with (go_at_call 38; refine (hN.out 0 (by omega)).mono ?_; rintro e w1 ⟨rfl, h1⟩)
    go_end0
    exact ⟨rfl, h1⟩
  · go_enter Try.func40, Try.ntmps40
    go_wp2_with (go_at_call 38; refine (hN.out 1 (by omega)).mono ?_; rintro e w1 ⟨rfl, h1⟩)
    go_end0
    exact ⟨rfl, h1⟩
end Go.Proofs.Ytcbnibldlbnkbaa
