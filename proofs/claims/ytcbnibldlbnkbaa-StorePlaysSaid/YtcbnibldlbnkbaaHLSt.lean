/- casebooklaw5: few, told. -/
import Derived.Test.YtcbnibldlbnkbaaHSt
namespace Go.Proofs.Ytcbnibldlbnkbaa
open Go.RowKit

def few5 (qs : List ReqV) : Bool := qs.all (fun q => decide (q.data.size ≤ 100)) && decide (qs.length ≤ 200)

set_option maxRecDepth 100000 in
set_option maxHeartbeats 1000000 in
theorem few5_any (A : Option Addr) (n cap : Nat) (qs : List ReqV) (b : Bool) (hb : few5 qs = b) (hl : n = qs.length) (hn : n ≤ 9223372036854775807) (w : World) (hQ : ReqsAt w A qs) :
    Calls Try.prog 11 #[.slice A n cap] w fun e w' => e = .returned (.bool b) ∧ w = w' := by
  have HL := hide hl
  have HB := hide hb
  clear hl hb
  go_enter Try.func11, Try.ntmps11
  go_wp2
  go_loop [3] (fun i => ∃ k : Nat, k ≤ n ∧ i = .int .i64 k ∧ (qs.take k).all (fun q => decide (q.data.size ≤ 100)) = true) (fun i => n - (intOf i).toNat)
  case atStart => exact ⟨0, Nat.zero_le _, rfl, by simp⟩
  case round =>
    obtain ⟨k, hk, rfl, htk⟩ := hrel
    have HT := hide htk
    clear htk
    by_cases hlt : k < n
    · have hkq : k < qs.length := by have := HL.out; omega
      obtain ⟨b0, o, rfl, hb0, hc⟩ := hQ.at5 (k := k) hkq
      obtain ⟨x, hx⟩ : ∃ x, qs[k]?.getD default = x := ⟨_, rfl⟩
      rw [hx] at hc
      have c5 := hc 5 (.string x.data) (by omega) rfl
      have hxx : qs[k] = x := by rw [List.getElem?_eq_getElem hkq] at hx; simpa using hx
      have HX := hide hxx
      clear hc hx hxx
      by_cases hs : x.data.size ≤ 100
      · go_wp2
        go_round
        case rel =>
          refine ⟨k + 1, by omega, by go_num, ?_⟩
          rw [List.take_succ_eq_append_getElem hkq, List.all_append, HT.out, HX.out]
          simp [hs]
        case measure => simp [intOf]; omega
      · go_wp2
        go_ret
        refine ⟨retb ?_, rfl⟩
        rw [← HB.out]
        symm
        unfold few5
        rw [Bool.and_eq_false_iff]
        left
        rw [List.all_eq_false]
        exact ⟨x, HX.out ▸ List.getElem_mem hkq, by simpa using hs⟩
    · obtain rfl : k = n := by omega
      have hall := HT.out
      rw [List.take_of_length_le (by have := HL.out; omega)] at hall
      go_wp2
      go_ret
      refine ⟨retb ?_, rfl⟩
      rw [← HB.out]
      unfold few5
      rw [hall, Bool.true_and, ← HL.out]
      rw [Bool.eq_iff_iff]
      simp
      omega

def qT : Q := ⟨1, 3, 1, 4, 0, { data := #[97] }⟩
def sT : StV := (StV.new 5).put qT
theorem sT_n : sT.n = 1 := by decide +kernel
theorem sT_ids : (ksOf sT.f).length = 1 := by decide +kernel
theorem sT_ver : (sT.f 4).length = 1 := by decide +kernel
theorem sT_seq : (sT.ss ((1 : Nat) : Int)).seq = 3 := by decide +kernel
theorem sT_place : (sT.ss ((1 : Nat) : Int)).place = 1 := by decide +kernel
theorem sT_rver : (sT.ss ((1 : Nat) : Int)).rep.ver = 1 := by decide +kernel
theorem sT_err : (StV.new 5).err qT = 0 := by decide +kernel
theorem sT_code : ((StV.new 5).rep qT).code = 1 := by decide +kernel
theorem sT_again : sT.may qT = false := by decide +kernel
theorem sT_err2 : sT.err qT = 9 := by decide +kernel

theorem sT_data : ((StV.new 5).rep qT).data = ByteArray.empty := by decide +kernel
theorem sT_ver1 : ((StV.new 5).rep qT).ver = 1 := by decide +kernel
theorem sT_ldata : (sT.ss ((1 : Nat) : Int)).rep.data = ByteArray.empty := by decide +kernel
theorem sT_lcode : (sT.ss ((1 : Nat) : Int)).rep.code = 1 := by decide +kernel

set_option maxRecDepth 100000 in
set_option maxHeartbeats 4000000 in
theorem told5_any (w : World) : Calls Try.prog 12 #[] w fun e w' => e = .returned (.bool true) ∧ Old w w' := by
  have hsame : sT.put qT = sT := by unfold StV.put; rw [sT_again]; rfl
  have hrz : sT.rep qT = Rep.zero := by unfold StV.rep; rw [sT_again]; rfl
  have cP1 := hide (fun (g : Nat) (F : Nat → Prop) (W : World) (h : StAt W g F (StV.new 5)) => Put_at g F (StV.new 5) qT 1 1 0 ByteArray.empty sT sT_code sT_ver1 sT_data sT_err rfl (by decide) W h)
  have cP2 := hide (fun (g : Nat) (F : Nat → Prop) (W : World) (h : StAt W g F sT) => Put_at g F sT qT 0 0 9 ByteArray.empty sT (by rw [hrz]; rfl) (by rw [hrz]; rfl) (by rw [hrz]; rfl) sT_err2 hsame (by rw [sT_n]; omega) W h)
  have cL := hide (fun (g : Nat) (F : Nat → Prop) (W : World) (h : StAt W g F sT) => by have := Last_st g 1 (by omega) F sT W h; rw [sT_lcode, sT_rver, sT_ldata, sT_place] at this; exact this)
  have cN := hide (fun (g : Nat) (F : Nat → Prop) (W : World) (h : StAt W g F sT) => by have := Len_st g F sT W h; rw [sT_n] at this; exact this)
  have cS := hide (fun (g : Nat) (F : Nat → Prop) (W : World) (h : StAt W g F sT) => by have := Seq_st g 1 (by omega) F sT W h; rw [sT_seq] at this; exact this)
  have cI := hide (fun (g : Nat) (F : Nat → Prop) (W : World) (h : StAt W g F sT) => Ids_st g F sT 1 sT_ids W h)
  have cV := hide (fun (g : Nat) (F : Nat → Prop) (W : World) (h : StAt W g F sT) => Versions_st g 4 F sT 1 sT_ver (by omega) W h)
  have cN0 := hide (fun (W : World) => New_no 0 (by omega) W)
  clear hsame hrz
  go_enter Try.func12, Try.ntmps12
  go_wp2_with fail
  refine (New_st 5 (by omega) _).mono ?_
  rintro e w1 ⟨rfl, st1, o1⟩
  obtain ⟨g, hg⟩ : ∃ g, w.heap.size = g := ⟨_, rfl⟩
  simp only [hg] at st1 ⊢
  go_wp2_with fail
  refine (cP1.out g _ _ (st1.old ((Old.refl' w1).alloc' _))).mono ?_
  rintro e w2 ⟨⟨A2, c2, rfl⟩, ⟨F2, st2, n2⟩, f2⟩
  have hF2 : ∀ k, F2 k → w.heap.size ≤ k := fun k hk => by
    rcases n2 k hk with h | h
    · omega
    · have := o1.size; simp at h; omega
  have o2 : Old w w2 := Old.fr_new (o1.alloc' _) f2 (fun k hk => by omega)
  have b3 := (Bk.new w1 36 #[.int .i64 1, .int .i64 3, .int .i64 1, .int .i64 4, .int .i64 0, .string { data := #[97] }]).fr f2 (fun e => by have := st1.lt g rfl; omega)
  have n3 : ¬ F2 w1.heap.size := fun h => by
    rcases n2 _ h with h | h
    · have := st1.lt g rfl; omega
    · simp at h; omega
  have st2' := st2.old ((Old.refl' w2).alloc' (.cells #[.int .i64 1, .int .i64 1, .string ByteArray.empty, .slice A2 0 c2] 32))
  have b4 := Bk.new w2 32 #[.int .i64 1, .int .i64 1, .string ByteArray.empty, .slice A2 0 c2]
  have n4 : ¬ F2 w2.heap.size := fun h => by have := st2.lt _ h; omega
  obtain ⟨⟨x0, x1, x2, x3, x4, x5⟩, l3⟩ := bk6 (b3.alloc (.cells #[.int .i64 1, .int .i64 1, .string ByteArray.empty, .slice A2 0 c2] 32))
  have HG := hide hg
  clear hg n2 f2 st1 o1
  go_wp2_with fail
  refine (cP2.out g _ _ st2').mono ?_
  rintro e w3 ⟨⟨A3, c3, rfl⟩, ⟨F3, st3, n3'⟩, f3⟩
  have b4' := b4.fr f3 n4
  have o3 : Old w w3 := Old.fr_new (o2.alloc' _) f3 hF2
  clear x0 x1 x2 x3 x4 x5 l3 f3 b3 b4 st2 st2' n3 n4 o2
  have st3' := st3.old ((Old.refl' w3).alloc' (.cells #[.int .i64 0, .int .i64 0, .string ByteArray.empty, .slice A3 0 c3] 32))
  go_wp2_with fail
  refine (cL.out g _ _ st3').mono ?_
  rintro e w4 ⟨A4, c4, rfl, b⟩
  have st4 := (st3'.old b).old ((Old.refl' w4).alloc' (.cells #[.int .i64 1, .int .i64 1, .string ByteArray.empty, .slice A4 0 c4] 32))
  have b4'' := ((b4'.alloc (.cells #[.int .i64 0, .int .i64 0, .string ByteArray.empty, .slice A3 0 c3] 32)).old b).alloc (.cells #[.int .i64 1, .int .i64 1, .string ByteArray.empty, .slice A4 0 c4] 32)
  have b8 := Bk.new w4 32 #[.int .i64 1, .int .i64 1, .string ByteArray.empty, .slice A4 0 c4]
  have o4 := ((o3.alloc' (.cells #[.int .i64 0, .int .i64 0, .string ByteArray.empty, .slice A3 0 c3] 32)).trans' b).alloc' (.cells #[.int .i64 1, .int .i64 1, .string ByteArray.empty, .slice A4 0 c4] 32)
  clear b st3 st3' b4' o3
  obtain ⟨⟨y0, -, -, -⟩, -, l4⟩ := bk4 b4''
  obtain ⟨⟨-, z1, -, -⟩, -, l8⟩ := bk4 b8
  clear b4'' b8
  go_wp2_with (first
    | (go_at_call 10; refine (cN0.out _).mono ?_; rintro e w5 ⟨rfl, rfl⟩)
    | (go_at_call 20; refine (cN.out g _ _ st4).mono ?_; rintro e w6 ⟨rfl, rfl⟩)
    | (go_at_call 19; refine (cS.out g _ _ st4).mono ?_; rintro e w7 ⟨rfl, b7⟩; have st7 := st4.old b7; have o7 := o4.trans' b7)
    | (go_at_call 24; refine (cI.out g _ _ st7).mono ?_; rintro e w8 ⟨A8, c8, rfl, -, b8⟩; have st8 := st7.old b8; have o8 := o7.trans' b8)
    | (go_at_call 17; refine (cV.out g _ _ st8).mono ?_; rintro e w9 ⟨A9, c9, rfl, -, b9⟩; have o9 := o8.trans' b9))
  go_ret
  exact ⟨rfl, o9⟩
end Go.Proofs.Ytcbnibldlbnkbaa
