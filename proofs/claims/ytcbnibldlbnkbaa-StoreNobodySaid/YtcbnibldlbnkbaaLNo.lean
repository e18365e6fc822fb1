/- casebooklaw5.StoreNobody: the walk. -/
import Derived.Test.YtcbnibldlbnkbaaLSt
namespace Go.Proofs.Ytcbnibldlbnkbaa
open Go.RowKit

set_option maxHeartbeats 400000 in
theorem of_nil (c : Int) (w : World) : Calls Try.prog 43 #[.pointer none, .int .i64 c] w fun e w' => e = .returned (.agg #[.int .i64 0, .int .i64 0, .int .i64 0, .int .i64 0, .string ByteArray.empty, .slice none 0 0]) ∧ Old w w' := by
  go_enter Try.func43, Try.ntmps43
  go_wp2
  refine bodyPost_ret (v := .agg #[.int .i64 0, .int .i64 0, .int .i64 0, .int .i64 0, .string ByteArray.empty, .slice none 0 0]) ?_ rfl ⟨rfl, ?_⟩
  · simp [results, Try.results43, go_sem]
    rfl
  · exact (Old.refl' w).alloc' _
theorem Last_nil (c : Int) (w : World) : Calls Try.prog 21 #[.pointer none, .int .i64 c] w fun e w' => ∃ A k, e = .returned (.tuple #[.agg #[.int .i64 0, .int .i64 0, .string ByteArray.empty, .slice A 0 k], .int .i64 0]) ∧ Old w w' :=
  Last_at _ _ 0 0 _ _ _ w fun W hW => (of_nil c W).mono fun e w' ⟨he, hb⟩ => ⟨none, 0, he, hb⟩
set_option maxRecDepth 100000 in
set_option maxHeartbeats 400000 in
theorem Seq_nil (c : Int) (w : World) : Calls Try.prog 19 #[.pointer none, .int .i64 c] w fun e w' => e = .returned (.int .i64 0) ∧ Old w w' := by
  have hf := fld_ses
  go_enter Try.func19, Try.ntmps19
  go_wp2_with (go_at_call 43; refine (of_nil c _).mono ?_; rintro e w1 ⟨rfl, hb⟩)
  go_ret
  exact ⟨rfl, hb⟩
set_option maxHeartbeats 400000 in
theorem Len_nil (w : World) : Calls Try.prog 20 #[.pointer none] w fun e w' => e = .returned (.int .i64 0) ∧ w = w' := by
  go_enter Try.func20, Try.ntmps20
  go_wp2
  go_ret
  exact ⟨rfl, rfl⟩
set_option maxHeartbeats 400000 in
theorem Ids_nil (w : World) : Calls Try.prog 24 #[.pointer none] w fun e w' => e = .returned (.slice none 0 0) ∧ w = w' := by
  go_enter Try.func24, Try.ntmps24
  go_wp2
  go_ret
  exact ⟨rfl, rfl⟩
set_option maxHeartbeats 400000 in
theorem Bytes_nil (w : World) : Calls Try.prog 18 #[.pointer none] w fun e w' => e = .returned (.slice none 0 0) ∧ w = w' := by
  go_enter Try.func18, Try.ntmps18
  go_wp2
  go_ret
  exact ⟨rfl, rfl⟩
set_option maxHeartbeats 400000 in
theorem Versions_nil (k : Int) (w : World) : Calls Try.prog 17 #[.pointer none, .int .i64 k] w fun e w' => e = .returned (.slice none 0 0) ∧ w = w' := by
  go_enter Try.func17, Try.ntmps17
  go_wp2
  go_ret
  exact ⟨rfl, rfl⟩

set_option maxRecDepth 100000 in
set_option maxHeartbeats 2000000 in
theorem Nobody_walk (q : Q) (w : World) :
    Calls Try.prog 9 #[q.v] w fun e w' => e = .returned (.bool true) ∧ Old w w' := by
  have cP := hide (fun (W : World) => Put_arg none q (fun h => absurd rfl h) W)
  have cA := hide (fun (W : World) (h : askOk q = true ∨ askOk q = false) => (show Calls Try.prog 26 #[.pointer none, q.v] W fun e w' => e = .returned (.tuple #[.agg #[.int .i64 0, .int .i64 0, .string ByteArray.empty, .slice none 0 0], .int .i64 1]) ∧ Old W w' from Ask_nil q W))
  obtain ⟨c, s, k, i, m, d⟩ := q
  simp only [Q.v] at cP cA ⊢
  have hX := hide (fun (W : World) (h : Old (w.alloc (.cells #[.int .i64 c, .int .i64 s, .int .i64 k, .int .i64 i, .int .i64 m, .string d] 36)) W) => bk6 ((Bk.new w 36 #[.int .i64 c, .int .i64 s, .int .i64 k, .int .i64 i, .int .i64 m, .string d]).old h))
  by_cases hd : d.size ≤ 100
  · go_enter Try.func9, Try.ntmps9
    go_wp2_with fail
    refine (cP.out _).mono ?_
    rintro e w1 ⟨rfl, b1⟩
    obtain ⟨⟨x0, x1, x2, x3, x4, x5⟩, lx⟩ := hX.out _ (b1.alloc' (.cells #[.int .i64 0, .int .i64 0, .string ByteArray.empty, .slice none 0 0] 32))
    go_wp2_with fail
    refine (cA.out _ (by cases askOk _ <;> simp)).mono ?_
    rintro e w2 ⟨rfl, b2⟩
    have o2 := ((b1.alloc' (.cells #[.int .i64 0, .int .i64 0, .string ByteArray.empty, .slice none 0 0] 32)).trans' b2).alloc' (.cells #[.int .i64 0, .int .i64 0, .string ByteArray.empty, .slice none 0 0] 32)
    clear x0 x1 x2 x3 x4 x5 lx b1 b2
    obtain ⟨⟨x0, x1, x2, x3, x4, x5⟩, lx⟩ := hX.out _ o2
    go_wp2_with fail
    refine (Last_nil c _).mono ?_
    rintro e w3 ⟨A3, c3, rfl, b3⟩
    have o3 := (o2.trans' b3).alloc' (.cells #[.int .i64 0, .int .i64 0, .string ByteArray.empty, .slice A3 0 c3] 32)
    clear x0 x1 x2 x3 x4 x5 lx b3 o2
    go_wp2_with fail
    refine (told5_any _).mono ?_
    rintro e w4 ⟨rfl, b4⟩
    have o4 := o3.trans' b4
    clear o3 b4
    go_wp2_with (first
      | (go_at_call 20; refine (Len_nil _).mono ?_; rintro e w6 ⟨rfl, rfl⟩)
      | (go_at_call 19; refine (Seq_nil 0 _).mono ?_; rintro e w7 ⟨rfl, b7⟩; have o7 := o4.trans' b7; obtain ⟨⟨x0, x1, x2, x3, x4, x5⟩, lx⟩ := hX.out _ o7)
      | (go_at_call 24; refine (Ids_nil _).mono ?_; rintro e w8 ⟨rfl, rfl⟩)
      | (go_at_call 17; refine (Versions_nil _ _).mono ?_; rintro e w9 ⟨rfl, rfl⟩)
      | (go_at_call 18; refine (Bytes_nil _).mono ?_; rintro e w10 ⟨rfl, rfl⟩))
    go_ret
    exact ⟨rfl, ((Old.refl' w).alloc' _).trans' o7⟩
  · go_enter Try.func9, Try.ntmps9
    go_wp2_with (go_at_call 12; refine (told5_any _).mono ?_; rintro e w4 ⟨rfl, b4⟩)
    go_ret
    exact ⟨rfl, ((Old.refl' w).alloc' _).trans' b4⟩
end Go.Proofs.Ytcbnibldlbnkbaa
