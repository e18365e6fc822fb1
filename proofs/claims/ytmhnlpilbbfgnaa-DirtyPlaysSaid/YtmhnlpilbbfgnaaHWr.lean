/- pack.Writer: what a writer is in memory; Num. -/
import Derived.Outline
import Derived.Test.YtmhnlpilbbfgnaaRows
import Derived.Test.YtmhnlpilbbfgnaaHBs
import Derived.Laws.BytesArg
import Derived.RangeFuncOwn
import Derived.RangeFuncFrom
import Derived.Laws.Rows
import Derived.OwnWalkIn
namespace Go.Proofs.Ytmhnlpilbbfgnaa
open Go.RowKit

abbrev u8s (bs : List Int) : List Value := bs.map (Value.int .u8)

/-- a number's bytes: seven bits a byte -/
def numB (v : Nat) : List Int := if v < 128 then [(v : Int)] else ((v % 128 + 128 : Nat) : Int) :: numB (v / 128)
decreasing_by omega
theorem numB_small {v : Nat} (h : v < 128) : numB v = [(v : Int)] := by rw [numB, if_pos h]
theorem numB_large {v : Nat} (h : ¬ v < 128) : numB v = ((v % 128 + 128 : Nat) : Int) :: numB (v / 128) := by rw [numB, if_neg h]
theorem numB_length : ∀ (k : Nat) (v : Nat), v < 128 ^ k → 1 ≤ k → (numB v).length ≤ k
  | 1, v, h, _ => by rw [numB_small (by simpa using h)]; simp
  | k + 2, v, h, _ => by
    by_cases h1 : v < 128
    · rw [numB_small h1]; simp
    · rw [numB_large h1]
      have := numB_length (k + 1) (v / 128) (by rw [Nat.pow_succ] at h; omega) (by omega)
      simp only [List.length_cons]
      omega
theorem numB_len (v : Nat) (h : v < 2 ^ 64) : (numB v).length ≤ 10 := numB_length 10 v (Nat.lt_of_lt_of_le h (by decide)) (by omega)

/-- a writer at block g with the slice V, that has put bs -/
structure WrAt (w : World) (g : Nat) (V : Value) (bs : List Int) : Prop where
  bk : Bk w g 96 #[V]
  own : w.ownsRow 0 5 1 V bs.length (u8s bs)
  ne : V.ownBlock ≠ some g

def WrFoot (g : Nat) (V : Value) (k : Nat) : Prop := k = g ∨ V.ownBlock = some k
theorem WrAt.foot {w : World} {g : Nat} {V : Value} {bs : List Int} (h : WrAt w g V bs) {k : Nat} (hk : WrFoot g V k) : k < w.heap.size := by
  rcases hk with rfl | hk
  · exact h.bk.lt
  · exact (h.own.lt k hk).2
theorem WrAt.fr {w w' : World} {g : Nat} {V : Value} {bs : List Int} {S : Nat → Prop} (h : WrAt w g V bs) (hf : Fr S w w') (hS : ∀ k, WrFoot g V k → ¬ S k) : WrAt w' g V bs :=
  ⟨h.bk.fr hf (hS g (.inl rfl)), own_fr h.own hf (fun k hk => hS k (.inr hk)), h.ne⟩
theorem WrAt.old {w w' : World} {g : Nat} {V : Value} {bs : List Int} (h : WrAt w g V bs) (hf : Old w w') : WrAt w' g V bs := h.fr (Fr.of_old (S := fun _ => False) hf) (fun _ _ h => h)

/-- what putting comes to -/
def Wrote (w : World) (g : Nat) (V : Value) (bs : List Int) (w' : World) : Prop :=
  ∃ V', WrAt w' g V' bs ∧ Fr (WrFoot g V) w w' ∧ ∀ k, WrFoot g V' k → WrFoot g V k ∨ w.heap.size ≤ k
theorem Wrote.trans {w w1 w2 : World} {g : Nat} {V : Value} {bs cs : List Int} (h : Wrote w g V bs w1) (k : ∀ V', WrAt w1 g V' bs → Wrote w1 g V' cs w2) : Wrote w g V cs w2 := by
  obtain ⟨V1, a1, f1, n1⟩ := h
  obtain ⟨V2, a2, f2, n2⟩ := k V1 a1
  refine ⟨V2, a2, Fr.trans' f1 f2 (fun k hk h => (n1 k h).resolve_right (by omega)), fun k hk => ?_⟩
  rcases n2 k hk with h | h
  · exact n1 k h
  · exact .inr (Nat.le_trans f1.size h)
theorem Wrote.refl {w w' : World} {g : Nat} {V : Value} {bs : List Int} (h : WrAt w g V bs) (hb : Old w w') : Wrote w g V bs w' := ⟨V, h.old hb, Fr.of_old hb, fun _ h => .inl h⟩
/-- the slice grown, then stored -/
theorem Wrote.app {w W1 W2 : World} {g : Nat} {V V' : Value} {bs cs : List Int} (h : WrAt w g V bs) (hb : Old w W1) (ha : Apps W1 0 5 1 V (bs ++ cs).length (u8s (bs ++ cs)) V' W2) : Wrote w g V (bs ++ cs) (W2.setCell ⟨g, 0, none⟩ V') := by
  have hg := (h.bk.old hb).lt
  have hV' : ∀ k, V'.ownBlock = some k → V.ownBlock = some k ∨ W1.heap.size ≤ k := fun k hk => by
    rcases ha.2.2 with e | e
    · left; rw [← e]; exact hk
    · right; rw [hk] at e; injection e with e; omega
  have hne : V'.ownBlock ≠ some g := fun e => by
    rcases hV' g e with e | e
    · exact h.ne e
    · omega
  have hb2 := ha.bk (h.bk.old hb) h.ne
  refine ⟨V', ⟨?_, own_set (p := ⟨g, 0, none⟩) ha.own hne V', hne⟩, ?_, fun k hk => ?_⟩
  · have := hb2.set_ 0 V'
    simpa using this
  · exact Fr.setCell (p := ⟨g, 0, none⟩) ((Fr.of_old hb).trans (ha.fr fun k _ hk => .inr hk)) (.inr (.inl rfl)) _
  · rcases hk with rfl | hk
    · exact .inl (.inl rfl)
    · rcases hV' k hk with e | e
      · exact .inl (.inr e)
      · exact .inr (Nat.le_trans hb.size e)

theorem info_u8 : (Try.prog.info? 5).map (fun i => (i.zero, i.size, i.bytes)) = some (some (.int .u8 0), 1, 1) := by kernel_rfl

theorem len1 (cs : List Int) (x : Int) : (cs ++ [x]).length = cs.length + 1 := by simp
theorem u8s1 (cs : List Int) (x : Int) : u8s (cs ++ [x]) = u8s cs ++ [.int .u8 x] := by simp [u8s]
theorem or128 (u : Nat) : bits BinOp.or IntKind.u8 ((u : Int) % 256) 128 = ((u % 128 + 128 : Nat) : Int) := by
  have h : ∀ n : Fin 256, bits BinOp.or IntKind.u8 (n.val : Int) 128 = ((n.val % 128 + 128 : Nat) : Int) := by decide +kernel
  have := h ⟨u % 256, by omega⟩
  simp only at this
  rw [show ((u % 256 : Nat) : Int) = (u : Int) % 256 by omega] at this
  rw [this]
  omega
theorem bk_one {w : World} {g : Nat} {t : TypeId} {v : Value} (h : Bk w g t #[v]) : w.cell? ⟨g, 0, none⟩ = some v ∧ w.frozen? ⟨g, 0, none⟩ = false := ⟨h.cell 0, h.frozen 0⟩
theorem Wrote.from_ {w W w' : World} {g : Nat} {V V' : Value} {cs : List Int} (k : Wrote W g V' cs w') (hf : Fr (WrFoot g V) w W) (hn : ∀ k, WrFoot g V' k → WrFoot g V k ∨ w.heap.size ≤ k) : Wrote w g V cs w' := by
  obtain ⟨V2, a2, f2, n2⟩ := k
  refine ⟨V2, a2, Fr.trans' hf f2 (fun k hk h => (hn k h).resolve_right (by omega)), fun k hk => ?_⟩
  rcases n2 k hk with h | h
  · exact hn k h
  · exact .inr (Nat.le_trans hf.size h)

set_option maxRecDepth 100000 in
set_option maxHeartbeats 1000000 in
theorem Num_w (g v : Nat) (V : Value) (bs : List Int) (hn : bs.length ≤ 10000000) (hv : v < 18446744073709551616) (w : World) (h : WrAt w g V bs) :
    Calls Try.prog 48 #[.pointer (some ⟨g, 0, none⟩), .int .u64 v] w fun e w' => e = .returned (.tuple #[]) ∧ Wrote w g V (bs ++ numB v) w' := by
  obtain ⟨i0, hi, hz0, hz1, hz2⟩ := info_parts info_u8
  go_enter Try.func48, Try.ntmps48
  go_wp2
  go_loopw [1] (fun i wr => ∃ (u : Nat) (V1 : Value) (cs : List Int), i = .int .u64 u ∧ u ≤ v ∧ WrAt wr g V1 cs ∧ Fr (WrFoot g V) w wr ∧ (∀ k, WrFoot g V1 k → WrFoot g V k ∨ w.heap.size ≤ k) ∧ cs ++ numB u = bs ++ numB v) (fun i _ => (intOf i).toNat)
  case atStart => exact ⟨v, V, bs, rfl, Nat.le_refl _, h, Fr.refl _ _, fun _ h => .inl h, rfl⟩
  case round =>
    obtain ⟨u, V1, cs, rfl, hu, hw1, hF, hnew, he⟩ := hrel
    have hcl : cs.length ≤ 10000010 := by
      have h1 := congrArg List.length he
      simp only [List.length_append] at h1
      have := numB_len v hv
      omega
    obtain ⟨A, c, rfl, hc, hA⟩ := own_form hw1.own
    have c0 := hw1.bk.cell 0
    have f0 := hw1.bk.frozen 0
    have hown := hw1.own
    have hgl := hw1.bk.lt
    have HW := hide hw1
    have HF := hide hF
    have HN := hide hnew
    simp only [List.size_toArray, List.length_cons, List.length_nil, Nat.reduceAdd, Nat.zero_lt_succ, getElem?_pos, List.getElem_toArray, List.getElem_cons_zero] at c0
    by_cases hlt : u < 128
    · have HE := hide (he ▸ congrArg (cs ++ ·) (numB_small hlt).symm : cs ++ [(u : Int)] = bs ++ numB v)
      clear he hw1 hF hnew
      have hlt' : ¬ (128 : Int) ≤ (u : Int) := by omega
      have hw : IntKind.u8.wrap (u : Int) = u := by simp [IntKind.wrap_u8]; omega
      go_wp2_with (at_builtin; refine wpList_app _ rfl (.tmp 26) (.tmp 29) 52 rfl 0 5 i0 (.int .u8 0) 1 1 Try.underlying52 hi hz0 hz1 hz2 rfl (by decide) _ _ _ rfl (hown.alloc _) (some ⟨wr.heap.size, 0, none⟩) 1 1 [.int .u8 (u : Int)] rfl rfl (cells_bk (Bk.new wr 5 #[.int .u8 (u : Int)])) (by simp [Value.oneCell']) (by unfold maxLen; omega) (by omega) (by simp) _ rfl _ rfl ?_; intro A2 c2 w2 h2; obtain ⟨y0, y1⟩ := bk_one (h2.bk (HW.out.bk.alloc _) HW.out.ne))
      go_end0
      have this := Wrote.app HW.out ((Old.refl' wr).alloc' _) (cs := [(u : Int)]) (by rw [len1, u8s1]; exact h2)
      rw [HE.out] at this
      exact ⟨rfl, this.from_ HF.out HN.out⟩
    · have HE := hide (he ▸ congrArg (cs ++ ·) (numB_large hlt).symm : cs ++ (((u % 128 + 128 : Nat) : Int) :: numB (u / 128)) = bs ++ numB v)
      clear he hw1 hF hnew
      have hlt' : (128 : Int) ≤ (u : Int) := by omega
      have hx : bits BinOp.or IntKind.u8 ((u : Int) % 256) 128 = ((u % 128 + 128 : Nat) : Int) := or128 u
      obtain ⟨x, hxx⟩ : ∃ x : Int, ((u % 128 + 128 : Nat) : Int) = x := ⟨_, rfl⟩
      rw [hxx] at hx HE
      clear hxx
      go_wp2_with (at_builtin; refine wpList_app _ rfl (.tmp 14) (.tmp 18) 52 rfl 0 5 i0 (.int .u8 0) 1 1 Try.underlying52 hi hz0 hz1 hz2 rfl (by decide) _ _ _ rfl (hown.alloc _) (some ⟨wr.heap.size, 0, none⟩) 1 1 [.int .u8 x] rfl rfl (cells_bk (Bk.new wr 5 #[.int .u8 x])) (by simp [Value.oneCell']) (by unfold maxLen; omega) (by omega) (by simp) _ rfl _ rfl ?_; intro A2 c2 w2 h2; obtain ⟨y0, y1⟩ := bk_one (h2.bk (HW.out.bk.alloc _) HW.out.ne))
      have this := (Wrote.app HW.out ((Old.refl' wr).alloc' (.cells #[.int .u8 x] 5)) (cs := [x]) (by rw [len1, u8s1]; exact h2)).from_ HF.out HN.out
      obtain ⟨V', a', f', n'⟩ := this
      have hT := hide a'
      have hT2 := hide f'
      have hT3 := hide n'
      clear a' f' n' h2
      go_roundw
      case rel => exact ⟨u / 128, V', cs ++ [x], by go_num, by omega, hT.out, hT2.out, hT3.out, by rw [List.append_assoc]; exact HE.out⟩
      case measure => simp [intOf]; omega
/-- a text's bytes -/
def numsOf (d : ByteArray) : List Int := d.data.toList.map fun c => (c.toNat : Int)

set_option maxHeartbeats 400000 in
theorem Yes_w (g : Nat) (b : Bool) (V : Value) (bs : List Int) (hn : bs.length ≤ 10000000) (w : World) (h : WrAt w g V bs) :
    Calls Try.prog 50 #[.pointer (some ⟨g, 0, none⟩), .bool b] w fun e w' => e = .returned (.tuple #[]) ∧ Wrote w g V (bs ++ [if b then 1 else 0]) w' := by
  have hN := hide (fun (v : Nat) (hv : v < 128) => numB_small hv ▸ Num_w g v V bs hn (by omega) w h)
  cases b
  · go_enter Try.func50, Try.ntmps50
    go_wp2_with (go_at_call 48; refine (hN.out 0 (by omega)).mono ?_; rintro e w1 ⟨rfl, h1⟩)
    go_end0
    exact ⟨rfl, h1⟩
  · go_enter Try.func50, Try.ntmps50
    go_wp2_with (go_at_call 48; refine (hN.out 1 (by omega)).mono ?_; rintro e w1 ⟨rfl, h1⟩)
    go_end0
    exact ⟨rfl, h1⟩
end Go.Proofs.Ytmhnlpilbbfgnaa

/- pack.Writer: Text, Bytes; the document's Num, Text, Yes. -/
namespace Go.Proofs.Ytmhnlpilbbfgnaa
open Go.RowKit Go.Lib

theorem strCells_nums (d : ByteArray) : strCells d = u8s (numsOf d) := by simp [strCells, u8s, numsOf]
theorem numsOf_length (d : ByteArray) : (numsOf d).length = d.size := by rw [numsOf, List.length_map, Array.length_toList]; rfl
def textB (d : ByteArray) : List Int := numB d.size ++ numsOf d
def yesB (b : Bool) : List Int := [if b then 1 else 0]

theorem run_str {w : World} {A : Option Addr} {bs : List Int} (n c : Nat) (hl : bs.length = n) (h : CellsAt w A (u8s bs)) : (convert 52 9 (.slice A n c)).run Try.prog w = .ok (.string (strOfNums bs)) w := by
  by_cases he : bs = []
  · subst he
    simp at hl
    subst hl
    rw [run_convert_bytes_string w 52 9 5 A 0 c Try.underlying52 Try.underlying5 Try.underlying9]
    cases A with
    | none => rfl
    | some a => simp [Conv.bytesToString, strOfNums, loadCells, loadCellsFrom]; rfl
  · obtain ⟨b, o, rfl, hb, hc⟩ := h (by simpa using he)
    refine run_convert_bytes_arg w 52 5 Try.underlying52 Try.underlying5 b o n c bs hl (fun i hi => hc i _ ?_) 9 Try.underlying9
    rw [List.getElem?_map, List.getElem?_eq_getElem (by omega), List.getD_eq_getElem?_getD, List.getElem?_eq_getElem (by omega)]
    rfl

set_option maxRecDepth 100000 in
set_option maxHeartbeats 1000000 in
theorem Text_w (g : Nat) (d : ByteArray) (V : Value) (bs : List Int) (hn : bs.length ≤ 9000000) (hd : d.size ≤ 100000) (w : World) (h : WrAt w g V bs) :
    Calls Try.prog 51 #[.pointer (some ⟨g, 0, none⟩), .string d] w fun e w' => e = .returned (.tuple #[]) ∧ Wrote w g V (bs ++ textB d) w' := by
  obtain ⟨i0, hi, hz0, hz1, hz2⟩ := info_parts info_u8
  have hN := hide (Num_w g d.size V bs (by omega) (by omega) w h)
  have hnl := numB_len d.size (by omega)
  go_enter Try.func51, Try.ntmps51
  go_wp2_with fail
  refine hN.out.mono ?_
  rintro e w1 ⟨rfl, V1, a1, f1, n1⟩
  have hl1 : (bs ++ numB d.size).length ≤ 9000010 := by rw [List.length_append]; omega
  obtain ⟨cs, hcs⟩ : ∃ cs, bs ++ numB d.size = cs := ⟨_, rfl⟩
  have HC := hide hcs
  rw [hcs] at a1 hl1
  clear hcs
  obtain ⟨A, c, rfl, hc, hA⟩ := own_form a1.own
  obtain ⟨c0, f0⟩ := bk_one a1.bk
  have hown := a1.own
  have hgl := a1.bk.lt
  have HA := hide a1
  have HF := hide f1
  have HN := hide n1
  clear a1 f1 n1
  go_wp2_with (at_builtin; refine wpList_appS rfl (.tmp 15) (.tmp 16) 52 9 rfl 0 5 i0 Try.underlying52 Try.underlying9 hi hz0 hz1 hz2 _ _ _ rfl hown d rfl (by unfold maxLen; omega) (by omega) (by simp) _ rfl _ rfl ?_; intro A2 c2 w2 h2; obtain ⟨y0, y1⟩ := bk_one (h2.bk HA.out.bk HA.out.ne))
  go_end0
  have this := (Wrote.app HA.out (Old.refl' w1) (cs := numsOf d) (by rw [List.length_append, numsOf_length, show u8s (cs ++ numsOf d) = u8s cs ++ strCells d by rw [strCells_nums]; simp [u8s]]; exact h2)).from_ HF.out HN.out
  have e : cs ++ numsOf d = bs ++ textB d := by rw [← HC.out]; simp [textB]
  rw [e] at this
  exact ⟨rfl, this⟩

set_option maxRecDepth 100000 in
set_option maxHeartbeats 1000000 in
theorem Bytes_w (g n : Nat) (V : Value) (bs : List Int) (hl : bs.length = n) (hn : n ≤ 10000000) (w : World) (h : WrAt w g V bs) :
    Calls Try.prog 52 #[.pointer (some ⟨g, 0, none⟩)] w fun e w' => ∃ A c, e = .returned (.slice A n c) ∧ w'.ownsRow w.heap.size 5 1 (.slice A n c) n (u8s bs) ∧ Old w w' := by
  obtain ⟨i0, hi, hz0, hz1, hz2⟩ := info_parts info_u8
  have hbk := h.bk
  have hown := h.own
  obtain ⟨A, c, rfl, hc, hA⟩ := own_form hown
  obtain ⟨c0, f0⟩ := bk_one hbk
  have hcs : CellsAt w A (u8s bs) := CellsAt.of_own hown
  have hgl := hbk.lt
  have HL := hide hl
  rw [hl] at c0
  clear h hown hc hA hl hbk
  go_enter Try.func52, Try.ntmps52
  go_wp2_with (at_builtin; refine wpList_app _ rfl (.tmp 5) (.tmp 9) 52 rfl w.heap.size 5 i0 (.int .u8 0) 1 1 Try.underlying52 hi hz0 hz1 hz2 rfl (by decide) (.slice (some ⟨w.heap.size, 0, none⟩) 0 0) 0 [] rfl (World.ownsRow_made w #[] 0 (Nat.le_refl _) (by decide) rfl) A n c (u8s bs) rfl (by simp [HL.out]) (CellsAt.alloc hcs _) (by simp [Value.oneCell']) (by unfold maxLen; omega) (by omega) (by simp) n (Nat.zero_add _) (u8s bs) (List.nil_append _) ?_; intro A' c' w1 h1)
  go_ret
  exact ⟨A', c', rfl, h1.own, h1.old ((Old.refl' w).alloc' _) (fun k hk => by simp [Value.ownBlock] at hk; omega)⟩

theorem strOf_append (xs bs : List Int) : strOfNums (xs ++ bs) = strOfNums xs ++ strOfNums bs := by
  apply ByteArray.ext
  simp [strOfNums]

set_option maxRecDepth 100000 in
set_option maxHeartbeats 1000000 in
theorem RNum_any (v : Nat) (hv : v < 18446744073709551616) (w : World) :
    Calls Try.prog 100 #[.int .u64 v] w fun e w' => e = .returned (.string (strOfNums (numB v))) ∧ Old w w' := by
  obtain ⟨i0, hi, hz0, hz1, hz2⟩ := info_parts info_u8
  go_enter Try.func100, Try.ntmps100
  go_wp2
  go_loopw [0, 3] (fun i sl wr => ∃ (u : Nat) (cs : List Int), i = .int .u64 u ∧ u ≤ v ∧ wr.ownsRow w.heap.size 5 1 sl cs.length (u8s cs) ∧ Old w wr ∧ cs ++ numB u = numB v) (fun i _ _ => (intOf i).toNat)
  case atStart => exact ⟨v, [], rfl, Nat.le_refl _, World.ownsRow_nil _ _ _ _, Old.refl' w, rfl⟩
  case round =>
    obtain ⟨u, cs, rfl, hu, hown, hB, he⟩ := hrel
    have hcl : cs.length ≤ 10 := by
      have h1 := congrArg List.length he
      simp only [List.length_append] at h1
      have := numB_len v hv
      omega
    obtain ⟨A, c, rfl, hc, hA⟩ := own_form hown
    have HB := hide hB
    clear hB
    have hbs := HB.out.size
    by_cases hlt : u < 128
    · have HE := hide (he ▸ congrArg (cs ++ ·) (numB_small hlt).symm : cs ++ [(u : Int)] = numB v)
      clear he
      have hlt' : ¬ (128 : Int) ≤ (u : Int) := by omega
      have hw : IntKind.u8.wrap (u : Int) = u := by simp [IntKind.wrap_u8]; omega
      go_wp2_with
        (first
        | (at_builtin; refine wpList_app _ rfl (.tmp 14) (.tmp 17) 52 rfl w.heap.size 5 i0 (.int .u8 0) 1 1 Try.underlying52 hi hz0 hz1 hz2 rfl (by decide) _ _ _ rfl (hown.alloc _) (some ⟨wr.heap.size, 0, none⟩) 1 1 [.int .u8 (u : Int)] rfl rfl (cells_bk (Bk.new wr 5 #[.int .u8 (u : Int)])) (by simp [Value.oneCell']) (by unfold maxLen; omega) (by omega) (by simp; omega) _ rfl _ rfl ?_; intro A2 c2 w2 h2; have hs2 := run_str (bs := cs ++ [(u : Int)]) (cs.length + 1) c2 (by simp) (by rw [u8s1]; exact CellsAt.of_own h2.own)))
      go_ret
      rw [HE.out]
      exact ⟨rfl, h2.old (HB.out.alloc' _) (fun k hk => (hown.lt k hk).1)⟩
    · have HE := hide (he ▸ congrArg (cs ++ ·) (numB_large hlt).symm : cs ++ (((u % 128 + 128 : Nat) : Int) :: numB (u / 128)) = numB v)
      clear he
      have hlt' : (128 : Int) ≤ (u : Int) := by omega
      have hx : bits BinOp.or IntKind.u8 ((u : Int) % 256) 128 = ((u % 128 + 128 : Nat) : Int) := or128 u
      obtain ⟨x, hxx⟩ : ∃ x : Int, ((u % 128 + 128 : Nat) : Int) = x := ⟨_, rfl⟩
      rw [hxx] at hx HE
      clear hxx
      go_wp2_with (at_builtin; refine wpList_app _ rfl (.tmp 6) (.tmp 10) 52 rfl w.heap.size 5 i0 (.int .u8 0) 1 1 Try.underlying52 hi hz0 hz1 hz2 rfl (by decide) _ _ _ rfl (hown.alloc _) (some ⟨wr.heap.size, 0, none⟩) 1 1 [.int .u8 x] rfl rfl (cells_bk (Bk.new wr 5 #[.int .u8 x])) (by simp [Value.oneCell']) (by unfold maxLen; omega) (by omega) (by simp; omega) _ rfl _ rfl ?_; intro A2 c2 w2 h2)
      have ho2 := hide (show w2.ownsRow w.heap.size 5 1 (.slice A2 (cs.length + 1) c2) (cs ++ [x]).length (u8s (cs ++ [x])) by rw [len1, u8s1]; exact h2.own)
      have hb2 := hide (h2.old (HB.out.alloc' (.cells #[.int .u8 x] 5)) (fun k hk => (hown.lt k hk).1))
      clear h2
      go_roundw
      case rel => exact ⟨u / 128, cs ++ [x], by go_num, by omega, ho2.out, hb2.out, by rw [List.append_assoc]; exact HE.out⟩
      case measure => simp [intOf]; omega

theorem strOf_nums (d : ByteArray) : strOfNums (numsOf d) = d := by
  apply ByteArray.ext
  apply Array.ext'
  simp only [strOfNums, numsOf, List.map_map]
  conv => rhs; rw [← List.map_id d.data.toList]
  refine List.map_congr_left fun c _ => ?_
  simp

set_option maxHeartbeats 400000 in
theorem RText_any (d : ByteArray) (hd : d.size ≤ 100000) (w : World) :
    Calls Try.prog 102 #[.string d] w fun e w' => e = .returned (.string (strOfNums (textB d))) ∧ Old w w' := by
  have hN := hide (RNum_any d.size (by omega) w)
  go_enter Try.func102, Try.ntmps102
  have hs : (strOfNums (numB d.size)).size ≤ 10 := by rw [strOfNums_size]; exact numB_len _ (by omega)
  go_wp2_with fail
  refine hN.out.mono ?_
  rintro e w1 ⟨rfl, hb1⟩
  go_wp2_with fail
  go_ret
  refine ⟨?_, hb1⟩
  rw [textB, strOf_append, strOf_nums]
  rfl
set_option maxHeartbeats 400000 in
theorem RYes_any (b : Bool) (w : World) :
    Calls Try.prog 101 #[.bool b] w fun e w' => e = .returned (.string (strOfNums (yesB b))) ∧ w = w' := by
  cases b
  all_goals
    go_enter Try.func101, Try.ntmps101
    go_wp2
    go_ret
    exact ⟨rfl, rfl⟩
end Go.Proofs.Ytmhnlpilbbfgnaa

/- A function's own writer: its block, its box, what it has put. -/
namespace Go.Proofs.Ytmhnlpilbbfgnaa
open Go.RowKit

/-- a writer at block n, its pointer boxed at n + 1; all of it new behind n -/
def WS (w wr : World) (bs : List Int) : Prop :=
  ∃ V, WrAt wr w.heap.size V bs ∧ (∀ b, WrFoot w.heap.size V b → w.heap.size ≤ b) ∧ Bk wr (w.heap.size + 1) 94 #[.pointer (some ⟨w.heap.size, 0, none⟩)] ∧ Old w wr
/-- blocks of other types stay -/
def KT (W W' : World) : Prop := ∀ b t cs, t ≠ 96 → t ≠ 5 → Bk W b t cs → Bk W' b t cs
structure WPut (w wr : World) (bs : List Int) (w' : World) : Prop where
  ws : WS w w' bs
  kt : KT wr w'
  ko : KeepsOthers wr w'
  below : Below w.heap.size wr w'

section
variable {w wr w' w'' : World} {bs cs : List Int}
theorem WS.box (h : WS w wr bs) : Bk wr (w.heap.size + 1) 94 #[.pointer (some ⟨w.heap.size, 0, none⟩)] := by
  obtain ⟨V, h1, h2, h3, h4⟩ := h
  exact h3
theorem WS.o (h : WS w wr bs) : Old w wr := by
  obtain ⟨V, h1, h2, h3, h4⟩ := h
  exact h4
theorem WS.old (h : WS w wr bs) (hf : Old wr w') : WS w w' bs := by
  obtain ⟨V, h1, h2, h3, h4⟩ := h
  exact ⟨V, h1.old hf, h2, h3.old hf, h4.trans' hf⟩
theorem WS.alloc (h : WS w wr bs) (o : Obj) : WS w (wr.alloc o) bs := h.old ((Old.refl' wr).alloc' o)
theorem WS.drew (h : WS w wr bs) : WS w wr.drew bs := h.old ((Old.refl' wr).drew')
theorem KT.refl (W : World) : KT W W := fun _ _ _ _ _ h => h
theorem KT.trans (h : KT wr w') (k : KT w' w'') : KT wr w'' := fun b t cs h1 h2 h3 => k b t cs h1 h2 (h b t cs h1 h2 h3)
theorem KT.alloc (W : World) (o : Obj) : KT W (W.alloc o) := fun _ _ _ _ _ h => h.alloc o
theorem WPut.trans (h : WPut w wr bs w') (k : WPut w w' cs w'') : WPut w wr cs w'' := ⟨k.ws, h.kt.trans k.kt, ⟨Nat.le_trans h.ko.size k.ko.size, fun x o hx hc => k.ko.same x o (h.ko.same x o hx hc) hc⟩, h.below.trans k.below⟩
theorem WPut.start (h : WS w wr bs) : WPut w wr bs wr := ⟨h, KT.refl _, KeepsOthers.refl _, Below.refl _ _⟩
theorem WPut.alloc (h : WS w wr bs) (o : Obj) : WPut w wr bs (wr.alloc o) := ⟨h.alloc o, KT.alloc _ _, KeepsOthers.alloc _ _, (Below.refl _ _).alloc h.o.size o⟩
theorem WPut.of (h : WS w wr bs) (P : Value → World → Prop) (hp : ∀ V, WrAt wr w.heap.size V bs → P V w' → Wrote wr w.heap.size V cs w') (hP : ∀ V, WrAt wr w.heap.size V bs → P V w') : WPut w wr cs w' := by
  obtain ⟨V, h1, h2, h3, h4⟩ := h
  obtain ⟨V', a, f, n⟩ := hp V h1 (hP V h1)
  have hkt : KT wr w' := fun b t cs ht1 ht2 hb => hb.fr f (fun hx => by
    rcases hx with rfl | hx
    · exact hb.ne_ h1.bk ht1 rfl
    · exact own_ne_bk h1.own hb (Ne.symm ht2) hx)
  refine ⟨⟨V', a, fun b hb => ?_, hkt _ _ _ (by decide) (by decide) h3, ?_⟩, hkt, ⟨f.size, fun k o hk hc => ?_⟩, ⟨f.os, f.tape, f.output, f.size, fun k hk => f.block k (Nat.lt_of_lt_of_le hk h4.size) (fun hx => by have := h2 k hx; omega)⟩⟩
  · rcases n b hb with h | h
    · exact h2 b h
    · exact Nat.le_trans h4.size h
  · exact Old.fr_new h4 f h2
  · have hlt : k < wr.heap.size := (Array.getElem?_eq_some_iff.1 hk).1
    refine (f.block k hlt (fun hx => ?_)).trans hk
    rcases hx with rfl | hx
    · rw [h1.bk] at hk
      injection hk with hk
      subst hk
      simp [Obj.isCells] at hc
    · obtain ⟨_, cur, hcur⟩ := own_blk h1.own hx
      rw [hcur] at hk
      injection hk with hk
      subst hk
      simp [Obj.isCells] at hc
theorem Num_ws (v : Nat) (hv : v < 18446744073709551616) (hn : bs.length ≤ 10000000) (h : WS w wr bs) :
    Calls Try.prog 48 #[.pointer (some ⟨w.heap.size, 0, none⟩), .int .u64 v] wr fun e w' => e = .returned (.tuple #[]) ∧ WPut w wr (bs ++ numB v) w' := by
  have h0 := h
  obtain ⟨V, h1, h2, h3, h4⟩ := h
  refine (Num_w w.heap.size v V bs hn hv wr h1).mono ?_
  rintro e w' ⟨rfl, hw⟩
  exact ⟨rfl, WPut.of ⟨V, h1, h2, h3, h4⟩ (fun V' w' => V' = V → Wrote wr w.heap.size V (bs ++ numB v) w') (fun V' hV' hp => by
    have : V' = V := by
      have e1 := hV'.bk
      rw [Bk] at e1
      have e2 := h1.bk
      rw [Bk] at e2
      rw [e1] at e2
      injection e2 with e2
      injection e2 with e2
      injection e2 with e2
      injection e2
    subst this
    exact hp rfl) (fun V' _ _ => hw)⟩
theorem wr_same {g : Nat} {V V' : Value} (h : WrAt wr g V bs) (h' : WrAt wr g V' cs) : V' = V := by
  have e1 := h'.bk
  rw [Bk] at e1
  have e2 := h.bk
  rw [Bk] at e2
  rw [e1] at e2
  injection e2 with e2
  injection e2 with e2
  injection e2 with e2
  injection e2
theorem Yes_ws (b : Bool) (hn : bs.length ≤ 10000000) (h : WS w wr bs) :
    Calls Try.prog 50 #[.pointer (some ⟨w.heap.size, 0, none⟩), .bool b] wr fun e w' => e = .returned (.tuple #[]) ∧ WPut w wr (bs ++ yesB b) w' := by
  have h0 := h
  obtain ⟨V, h1, h2, h3, h4⟩ := h
  refine (Yes_w w.heap.size b V bs hn wr h1).mono ?_
  rintro e w' ⟨rfl, hw⟩
  exact ⟨rfl, WPut.of h0 (fun V' w' => V' = V → Wrote wr w.heap.size V (bs ++ yesB b) w') (fun V' hV' hp => by have := wr_same h1 hV'; subst this; exact hp rfl) (fun V' _ _ => hw)⟩
theorem Text_ws (d : ByteArray) (hd : d.size ≤ 100000) (hn : bs.length ≤ 9000000) (h : WS w wr bs) :
    Calls Try.prog 51 #[.pointer (some ⟨w.heap.size, 0, none⟩), .string d] wr fun e w' => e = .returned (.tuple #[]) ∧ WPut w wr (bs ++ textB d) w' := by
  have h0 := h
  obtain ⟨V, h1, h2, h3, h4⟩ := h
  refine (Text_w w.heap.size d V bs hn hd wr h1).mono ?_
  rintro e w' ⟨rfl, hw⟩
  exact ⟨rfl, WPut.of h0 (fun V' w' => V' = V → Wrote wr w.heap.size V (bs ++ textB d) w') (fun V' hV' hp => by have := wr_same h1 hV'; subst this; exact hp rfl) (fun V' _ _ => hw)⟩
/-- what a range over a function may do beside does not touch it -/
theorem ws_own {α : Type} (w : World) (B : Nat) (f : List α → List Int) (hB : w.heap.size ≤ B) : OwnFrom B (fun (pre : List α) W => WS w W (f pre)) := fun pre W W' row ⟨V, h1, h2, h3, h4⟩ hg hr => by
  have hF : Fr (fun k => row = some k) W W' := ⟨hg.os, hg.tape, hg.output, hg.size, fun k hk hn => hg.block k hk (fun e => hn e.symm)⟩
  have hcells : ∀ k t cs, Bk W k t cs → ¬ row = some k := fun k t cs hb e => by
    obtain ⟨-, o, ho, hc⟩ := hr k e
    rw [hb] at ho
    injection ho with ho
    subst ho
    simp [Obj.isCells] at hc
  refine ⟨V, h1.fr hF (fun k hk e => ?_), h2, h3.fr hF (fun e => hcells _ _ _ h3 e), Old.fr_new h4 hF (fun k e => Nat.le_trans hB (hr k e).1)⟩
  rcases hk with rfl | hk
  · exact hcells _ _ _ h1.bk e
  · obtain ⟨_, cur, hcur⟩ := own_blk h1.own hk
    exact hcells _ _ _ hcur e
end
end Go.Proofs.Ytmhnlpilbbfgnaa

/- A whole array or struct read out of the middle of a block. No program. -/
namespace Go.Proofs.Ytmhnlpilbbfgnaa
open Go.RowKit

theorem run_loadVar_at {P : Program} (w : World) (g o : Nat) (ty : TypeId) (cs : Array Value) (d : TypeDesc) (hc : ∀ (j : Nat) v, cs[j]? = some v → w.cell? ⟨g, o + j, none⟩ = some v)
    (hu : P.underlying ty = some d) (hd : (match d with | .struct _ | .array _ _ => true | _ => false) = true) (hi : (P.info? ty).map (·.size) = some cs.size) :
    (loadVar ty ⟨g, o, none⟩).run P w = .ok (.agg cs) w := by
  have hl : (loadCells ⟨g, o, none⟩ cs.toList.length).run P w = .ok cs.toList.toArray w :=
    run_loadCells_list (P := P) w ⟨g, o, none⟩ cs.toList (fun j v hv => by
      rw [add_mk]
      exact hc j v (by simpa using hv))
  cases hq : P.info? ty with
  | none => simp [hq] at hi
  | some i =>
    have hs : i.size = cs.size := by simpa [hq] using hi
    have hagg : (isAgg ty).run P w = .ok true w := by
      unfold isAgg
      rw [Sem.run_bind, run_underlying hu w]
      cases d <;> simp_all
    simp only [Array.length_toList, Array.toArray_toList] at hl
    simp [loadVar, Sem.run_bind, hagg, sizeOf, typeInfo, hq, hs, hl]

theorem wpListIn_load_at {F : Fence} {n : Nat} {P : Program} {ops : Array Oper} {rest : List Oper} {dst : Option Tmp} {t' : TypeId} {pos : String} {af : Array Edge} {a : Act} {w : World} {Q : Exit → Act → World → Prop} (ty : TypeId) (x : Operand)
    (g o : Nat) (cs : Array Value) (d : TypeDesc) (hx : a.eval x = .pointer (some ⟨g, o, none⟩)) (hc : ∀ (j : Nat) v, cs[j]? = some v → w.cell? ⟨g, o + j, none⟩ = some v)
    (hu : P.underlying ty = some d) (hd : (match d with | .struct _ | .array _ _ => true | _ => false) = true) (hi : (P.info? ty).map (·.size) = some cs.size)
    (h : wpListIn F n P ops Q rest (a.put dst (.agg cs)) w) : wpListIn F n P ops Q ({ dst := dst, op := .load ty x, type := t', pos := pos, after := af, guard := none } :: rest) a w := by
  refine wpListIn_plain rfl fun K hK' => ?_
  unfold Oper.wpIn
  refine ⟨?_, ?_⟩
  · simp [Oper.about]
  · rw [Oper.semAt_plain F _ _ (by intro c hc'; cases hc')]
    simp only [execOp, hx, Instr.loadAt, Instr.sureAddr, Sem.run_bind, Sem.run_pure, Result.andThen_ok, run_loadVar_at w g o ty cs d hc hu hd hi]
    exact hK' _ _ h

theorem wpList_load_at {P : Program} {ops : Array Oper} {rest : List Oper} {dst : Option Tmp} {t' : TypeId} {pos : String} {af : Array Edge} {a : Act} {w : World} {Q : Exit → Act → World → Prop} (ty : TypeId) (x : Operand)
    (g o : Nat) (cs : Array Value) (d : TypeDesc) (hx : a.eval x = .pointer (some ⟨g, o, none⟩)) (hc : ∀ (j : Nat) v, cs[j]? = some v → w.cell? ⟨g, o + j, none⟩ = some v)
    (hu : P.underlying ty = some d) (hd : (match d with | .struct _ | .array _ _ => true | _ => false) = true) (hi : (P.info? ty).map (·.size) = some cs.size)
    (h : wpList P ops Q rest (a.put dst (.agg cs)) w) : wpList P ops Q ({ dst := dst, op := .load ty x, type := t', pos := pos, after := af, guard := none } :: rest) a w := by
  refine wpList_plain rfl fun K hK => ?_
  unfold Oper.wp execOp
  simp only [hx, Instr.loadAt, Instr.sureAddr, Sem.run_bind, Sem.run_pure, Result.andThen_ok, run_loadVar_at w g o ty cs d hc hu hd hi]
  exact hK _ _ h
end Go.Proofs.Ytmhnlpilbbfgnaa
