/- pack.Writer: what a writer is in memory; Num. -/
import Derived.Outline
import Derived.Test.YtffahoocbjfdaaaRows
import Derived.Test.YtffahoocbjfdaaaHBs
import Derived.Laws.BytesArg
import Derived.RangeFuncOwn
import Derived.RangeFuncFrom
import Derived.Laws.Rows
import Derived.OwnWalkIn
namespace Go.Proofs.Ytffahoocbjfdaaa
open Go.RowKit

abbrev u8s (bs : List Int) : List Value := bs.map (Value.int .u8)

/-- a number's bytes: seven bits a byte -/
def numB (v : Nat) : List Int := if v < 128 then [(v : Int)] else ((v % 128 + 128 : Nat) : Int) :: numB (v / 128)
decreasing_by omega
theorem numB_small {v : Nat} (h : v < 128) : numB v = [(v : Int)] := by rw [numB, if_pos h]
theorem numB_large {v : Nat} (h : ¬ v < 128) : numB v = ((v % 128 + 128 : Nat) : Int) :: numB (v / 128) := by rw [numB, if_neg h]
theorem numB_length : ∀ (k : Nat) (v : Nat), v < 128 ^ k → 1 ≤ k → (numB v).length ≤ k
  | 1, v, h, _ => by rw [numB_small (by simpa using h)]; simp
  | k + 2, v, h, _ => by
    by_cases h1 : v < 128
    · rw [numB_small h1]; simp
    · rw [numB_large h1]
      have := numB_length (k + 1) (v / 128) (by rw [Nat.pow_succ] at h; omega) (by omega)
      simp only [List.length_cons]
      omega
theorem numB_len (v : Nat) (h : v < 2 ^ 64) : (numB v).length ≤ 10 := numB_length 10 v (Nat.lt_of_lt_of_le h (by decide)) (by omega)

def WrFoot (g : Nat) (V : Value) (k : Nat) : Prop := k = g ∨ V.ownBlock = some k
theorem info_u8 : (Try.prog.info? 5).map (fun i => (i.zero, i.size, i.bytes)) = some (some (.int .u8 0), 1, 1) := by kernel_rfl

theorem len1 (cs : List Int) (x : Int) : (cs ++ [x]).length = cs.length + 1 := by simp
theorem u8s1 (cs : List Int) (x : Int) : u8s (cs ++ [x]) = u8s cs ++ [.int .u8 x] := by simp [u8s]
theorem or128 (u : Nat) : bits BinOp.or IntKind.u8 ((u : Int) % 256) 128 = ((u % 128 + 128 : Nat) : Int) := by
  have h : ∀ n : Fin 256, bits BinOp.or IntKind.u8 (n.val : Int) 128 = ((n.val % 128 + 128 : Nat) : Int) := by decide +kernel
  have := h ⟨u % 256, by omega⟩
  simp only at this
  rw [show ((u % 256 : Nat) : Int) = (u : Int) % 256 by omega] at this
  rw [this]
  omega
theorem bk_one {w : World} {g : Nat} {t : TypeId} {v : Value} (h : Bk w g t #[v]) : w.cell? ⟨g, 0, none⟩ = some v ∧ w.frozen? ⟨g, 0, none⟩ = false := ⟨h.cell 0, h.frozen 0⟩
/-- a text's bytes -/
def numsOf (d : ByteArray) : List Int := d.data.toList.map fun c => (c.toNat : Int)

end Go.Proofs.Ytffahoocbjfdaaa

/- pack.Writer: Text, Bytes; the document's Num, Text, Yes. -/
namespace Go.Proofs.Ytffahoocbjfdaaa
open Go.RowKit Go.Lib

theorem strCells_nums (d : ByteArray) : strCells d = u8s (numsOf d) := by simp [strCells, u8s, numsOf]
theorem numsOf_length (d : ByteArray) : (numsOf d).length = d.size := by rw [numsOf, List.length_map, Array.length_toList]; rfl
def textB (d : ByteArray) : List Int := numB d.size ++ numsOf d
def yesB (b : Bool) : List Int := [if b then 1 else 0]

theorem strOf_append (xs bs : List Int) : strOfNums (xs ++ bs) = strOfNums xs ++ strOfNums bs := by
  apply ByteArray.ext
  simp [strOfNums]

theorem strOf_nums (d : ByteArray) : strOfNums (numsOf d) = d := by
  apply ByteArray.ext
  apply Array.ext'
  simp only [strOfNums, numsOf, List.map_map]
  conv => rhs; rw [← List.map_id d.data.toList]
  refine List.map_congr_left fun c _ => ?_
  simp

end Go.Proofs.Ytffahoocbjfdaaa

/- A function's own writer: its block, its box, what it has put. -/
namespace Go.Proofs.Ytffahoocbjfdaaa
open Go.RowKit

section
variable {w wr w' w'' : World} {bs cs : List Int}
end
end Go.Proofs.Ytffahoocbjfdaaa

/- A whole array or struct read out of the middle of a block. No program. -/
namespace Go.Proofs.Ytffahoocbjfdaaa
open Go.RowKit

theorem run_loadVar_at {P : Program} (w : World) (g o : Nat) (ty : TypeId) (cs : Array Value) (d : TypeDesc) (hc : ∀ (j : Nat) v, cs[j]? = some v → w.cell? ⟨g, o + j, none⟩ = some v)
    (hu : P.underlying ty = some d) (hd : (match d with | .struct _ | .array _ _ => true | _ => false) = true) (hi : (P.info? ty).map (·.size) = some cs.size) :
    (loadVar ty ⟨g, o, none⟩).run P w = .ok (.agg cs) w := by
  have hl : (loadCells ⟨g, o, none⟩ cs.toList.length).run P w = .ok cs.toList.toArray w :=
    run_loadCells_list (P := P) w ⟨g, o, none⟩ cs.toList (fun j v hv => by
      rw [add_mk]
      exact hc j v (by simpa using hv))
  cases hq : P.info? ty with
  | none => simp [hq] at hi
  | some i =>
    have hs : i.size = cs.size := by simpa [hq] using hi
    have hagg : (isAgg ty).run P w = .ok true w := by
      unfold isAgg
      rw [Sem.run_bind, run_underlying hu w]
      cases d <;> simp_all
    simp only [Array.length_toList, Array.toArray_toList] at hl
    simp [loadVar, Sem.run_bind, hagg, sizeOf, typeInfo, hq, hs, hl]

theorem wpListIn_load_at {F : Fence} {n : Nat} {P : Program} {ops : Array Oper} {rest : List Oper} {dst : Option Tmp} {t' : TypeId} {pos : String} {af : Array Edge} {a : Act} {w : World} {Q : Exit → Act → World → Prop} (ty : TypeId) (x : Operand)
    (g o : Nat) (cs : Array Value) (d : TypeDesc) (hx : a.eval x = .pointer (some ⟨g, o, none⟩)) (hc : ∀ (j : Nat) v, cs[j]? = some v → w.cell? ⟨g, o + j, none⟩ = some v)
    (hu : P.underlying ty = some d) (hd : (match d with | .struct _ | .array _ _ => true | _ => false) = true) (hi : (P.info? ty).map (·.size) = some cs.size)
    (h : wpListIn F n P ops Q rest (a.put dst (.agg cs)) w) : wpListIn F n P ops Q ({ dst := dst, op := .load ty x, type := t', pos := pos, after := af, guard := none } :: rest) a w := by
  refine wpListIn_plain rfl fun K hK' => ?_
  unfold Oper.wpIn
  refine ⟨?_, ?_⟩
  · simp [Oper.about]
  · rw [Oper.semAt_plain F _ _ (by intro c hc'; cases hc')]
    simp only [execOp, hx, Instr.loadAt, Instr.sureAddr, Sem.run_bind, Sem.run_pure, Result.andThen_ok, run_loadVar_at w g o ty cs d hc hu hd hi]
    exact hK' _ _ h

theorem wpList_load_at {P : Program} {ops : Array Oper} {rest : List Oper} {dst : Option Tmp} {t' : TypeId} {pos : String} {af : Array Edge} {a : Act} {w : World} {Q : Exit → Act → World → Prop} (ty : TypeId) (x : Operand)
    (g o : Nat) (cs : Array Value) (d : TypeDesc) (hx : a.eval x = .pointer (some ⟨g, o, none⟩)) (hc : ∀ (j : Nat) v, cs[j]? = some v → w.cell? ⟨g, o + j, none⟩ = some v)
    (hu : P.underlying ty = some d) (hd : (match d with | .struct _ | .array _ _ => true | _ => false) = true) (hi : (P.info? ty).map (·.size) = some cs.size)
    (h : wpList P ops Q rest (a.put dst (.agg cs)) w) : wpList P ops Q ({ dst := dst, op := .load ty x, type := t', pos := pos, after := af, guard := none } :: rest) a w := by
  refine wpList_plain rfl fun K hK => ?_
  unfold Oper.wp execOp
  simp only [hx, Instr.loadAt, Instr.sureAddr, Sem.run_bind, Sem.run_pure, Result.andThen_ok, run_loadVar_at w g o ty cs d hc hu hd hi]
  exact hK _ _ h
end Go.Proofs.Ytffahoocbjfdaaa
