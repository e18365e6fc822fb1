/- casebooklaw18.LineNobody: the walk. -/
import Derived.Test.YtmhnlpilbbfgnaaHLi
namespace Go.Proofs.Ytmhnlpilbbfgnaa
open Go.RowKit

set_option maxRecDepth 100000 in
set_option maxHeartbeats 4000000 in
theorem LNobody_walk (n : Int) (q : ReqV) (w : World) :
    Calls Try.prog 3 #[.int .i64 n, q.q.v] w fun e w' => e = .returned (.bool true) ∧ Old w w' := by
  have cPut := hide (fun W => LPut_nil q W)
  have cTake := hide (fun W => LTake_nil n q W)
  have cReqs := hide (fun W => Reqs_same 0 none none [] 0 0 W (CellsAt.nil _ _) (CellsAt.nil _ _) (by omega) rfl)
  have cS5 := hide (fun W => Since_nil n 5 W)
  have cS9 := hide (fun W => Since_nil 0 9 W)
  obtain ⟨c, s, k, i, m, d⟩ := q
  simp only [ReqV.q, Q.v] at cPut cTake ⊢
  have hX := hide (fun (W : World) (h : Old (w.alloc (.cells #[.int .i64 c, .int .i64 s, .int .i64 k, .int .i64 i, .int .i64 m, .string d] 23)) W) => bk6 ((Bk.new w 23 #[.int .i64 c, .int .i64 s, .int .i64 k, .int .i64 i, .int .i64 m, .string d]).old h))
  have ho := hide ((Old.refl' w).alloc' (.cells #[.int .i64 c, .int .i64 s, .int .i64 k, .int .i64 i, .int .i64 m, .string d] 23))
  by_cases hs : d.size ≤ 200
  · go_enter Try.func3, Try.ntmps3
    go_wp2_with fail
    refine (cPut.out _).mono ?_
    rintro e w1 ⟨rfl, b1⟩
    go_wp2_with fail
    refine (Find_nil n n _).mono ?_
    rintro e w2 ⟨rfl, b2⟩
    go_wp2_with fail
    refine (LRep_nil n _).mono ?_
    rintro e w3 ⟨rfl, b3⟩
    go_wp2_with (first
      | (go_at_call 12; refine (told18_any _).mono ?_; rintro e w4 ⟨rfl, b4⟩; have b5 := (((b1.trans' b2).trans' b3).alloc' (.cells #[.int .i64 0, .int .i64 0, .string ByteArray.empty, .slice none 0 0] 32)).trans' b4; obtain ⟨⟨x0, x1, x2, x3, x4, x5⟩, l1⟩ := hX.out _ b5)
      | (go_at_call 16; refine (cTake.out _).mono ?_; rintro e w6 ⟨rfl, b6⟩)
      | (go_at_call 17; refine (LCom_nil n _).mono ?_; rintro e w7 ⟨rfl, rfl⟩)
      | (go_at_call 18; refine (Len_ln_nil _).mono ?_; rintro e w8 ⟨rfl, rfl⟩)
      | (go_at_call 19; refine (Com_ln_nil _).mono ?_; rintro e w9 ⟨rfl, rfl⟩)
      | (go_at_call 20; first | ((with_reducible refine (cS5.out _).mono ?_); rintro e w10 ⟨rfl, b10⟩) | ((with_reducible refine (cS9.out _).mono ?_); rintro e w13 ⟨rfl, b13⟩))
      | (go_at_call 21; refine (Seq_ln_out none n (.inl rfl) _).mono ?_; rintro e w11 ⟨rfl, rfl⟩)
      | (go_at_call 22; refine (Last_ln_out none n (.inl rfl) _).mono ?_; rintro e w12 ⟨rfl, rfl⟩)
      | (go_at_call 23; ((with_reducible refine (cReqs.out _).mono ?_)); rintro e w14 ⟨rfl, b14⟩))
    go_ret
    exact ⟨rfl, (((((ho.out.trans' b5).trans' b6).trans' b10).trans' b13).trans' b14)⟩
  · go_enter Try.func3, Try.ntmps3
    go_wp2_with (go_at_call 12; refine (told18_any _).mono ?_; rintro e w4 ⟨rfl, b4⟩)
    go_ret
    exact ⟨rfl, ho.out.trans' b4⟩
end Go.Proofs.Ytmhnlpilbbfgnaa
