/- casebooklaw6.told; BookNobody's walk. -/
import Derived.Test.YtidokbgdbakjkaaTabW
namespace Go.Proofs.Ytidokbgdbakjkaa
open Go.RowKit

section
variable {ks us ks' us' : List Int} {key v r : Int} {f : Bool}
theorem PutB' (base g : Nat) (S : Nat → Prop) (h1 : putK ks key = ks') (h2 : putV ks us key v = us') (h3 : getV ks us key = r) (h4 : decide (key ∈ ks) = f) (hn : ks.length ≤ 99999) (w : World) (h : BookAt w base g S ks us) :
    Calls Try.prog 9 #[.pointer (some ⟨g, 0, none⟩), .int .i64 key, .int .i64 v] w fun e w' => e = .returned (.tuple #[.int .i64 r, .bool f]) ∧
      (∃ S', BookAt w' base g S' ks' us' ∧ ∀ k, S' k → S k ∨ w.heap.size ≤ k) ∧ Fr S w w' := by
  subst h1 h2 h3 h4
  exact PutB base g S ks us key v hn w h
theorem GetB' (base g : Nat) (S : Nat → Prop) (h3 : getV ks us key = r) (h4 : decide (key ∈ ks) = f) (hn : ks.length ≤ 99999) (w : World) (h : BookAt w base g S ks us) :
    Calls Try.prog 12 #[.pointer (some ⟨g, 0, none⟩), .int .i64 key] w fun e w' => e = .returned (.tuple #[.int .i64 r, .bool f]) ∧ w = w' := by
  subst h3 h4
  exact GetB base g S ks us key hn w h
theorem DelB' (base g : Nat) (S : Nat → Prop) (h1 : delR ks ks key = ks') (h2 : delR ks us key = us') (h4 : decide (key ∈ ks) = f) (hn : ks.length ≤ 99999) (w : World) (h : BookAt w base g S ks us) :
    Calls Try.prog 13 #[.pointer (some ⟨g, 0, none⟩), .int .i64 key] w fun e w' => e = .returned (.bool f) ∧
      (∃ S', BookAt w' base g S' ks' us' ∧ ∀ k, S' k → S k ∨ w.heap.size ≤ k) ∧ Fr S w w' := by
  subst h1 h2 h4
  exact DelB base g S ks us key hn w h
end

theorem LeastB_yes (base g : Nat) (S : Nat → Prop) (k : Int) (ks us : List Int) (n : Nat) (hl : (k :: ks).length = n) (hk : n ≤ 99999) (w : World) (h : BookAt w base g S (k :: ks) us) :
    Calls Try.prog 23 #[.pointer (some ⟨g, 0, none⟩)] w fun e w' => e = .returned (.tuple #[.int .i64 k, .bool true]) ∧ Old w w' := by
  refine BLeast g n 0 0 k ks (by simp at hl; omega) (fun w' => Old w w') w ?_
  refine (KeysB base g S (k :: ks) us n hl hk w h).mono ?_
  rintro e w' ⟨A', c', rfl, ho, hb⟩
  obtain ⟨ga, ca, ea, _, _⟩ := ho.form (by simp at hl; omega)
  injection ea with ea1 _ ea3
  subst ea1 ea3
  exact ⟨ga, 0, c', rfl, own_cells ho 0 _ rfl, own_lt ho, hb⟩

set_option maxRecDepth 100000 in
set_option maxHeartbeats 2000000 in
theorem told6_any (w : World) : Calls Try.prog 8 #[] w fun e w' => e = .returned (.bool true) ∧ Old w w' := by
  have b0 := NewB w (Nat.le_refl w.heap.size)
  have O0 : Old w (w.alloc (.cells #[.slice none 0 0, .slice none 0 0] 48)) := (Old.refl' w).alloc' _
  have P1 := hide (PutB' (ks' := [5]) (us' := [50]) (r := 0) (f := false) w.heap.size w.heap.size _ (key := 5) (v := 50) (by decide) (by decide) (by decide) (by decide) (by decide) _ b0)
  have P2 := hide (fun (W : World) (S : Nat → Prop) (h : BookAt W w.heap.size w.heap.size S [5] [50]) => PutB' (ks' := [3, 5]) (us' := [30, 50]) (r := 0) (f := false) w.heap.size w.heap.size S (key := 3) (v := 30) (by decide) (by decide) (by decide) (by decide) (by decide) W h)
  have P3 := hide (fun (W : World) (S : Nat → Prop) (h : BookAt W w.heap.size w.heap.size S [3, 5] [30, 50]) => PutB' (ks' := [3, 5]) (us' := [30, 51]) (r := 50) (f := true) w.heap.size w.heap.size S (key := 5) (v := 51) (by decide) (by decide) (by decide) (by decide) (by decide) W h)
  have G1 := hide (fun (W : World) (S : Nat → Prop) (h : BookAt W w.heap.size w.heap.size S [3, 5] [30, 51]) => GetB' (r := 51) (f := true) w.heap.size w.heap.size S (key := 5) (by decide) (by decide) (by decide) W h)
  have F1 := hide (fun (W : World) (S : Nat → Prop) (h : BookAt W w.heap.size w.heap.size S [3, 5] [30, 51]) => FromB w.heap.size w.heap.size S [3, 5] [30, 51] 4 1 [5] 1 (by decide) rfl (by omega) (by decide) W h)
  have L1 := hide (fun (W : World) (S : Nat → Prop) (h : BookAt W w.heap.size w.heap.size S [3, 5] [30, 51]) => LeastB_yes w.heap.size w.heap.size S 3 [5] [30, 51] 2 rfl (by omega) W h)
  have N1 := hide (fun (W : World) (S : Nat → Prop) (h : BookAt W w.heap.size w.heap.size S [3, 5] [30, 51]) => LenB w.heap.size w.heap.size S [3, 5] [30, 51] 2 rfl W h)
  have D1 := hide (fun (W : World) (S : Nat → Prop) (h : BookAt W w.heap.size w.heap.size S [3, 5] [30, 51]) => DelB' (ks' := [5]) (us' := [51]) (f := true) w.heap.size w.heap.size S (key := 3) (by decide) (by decide) (by decide) (by decide) W h)
  have D2 := hide (fun (W : World) (S : Nat → Prop) (h : BookAt W w.heap.size w.heap.size S [5] [51]) => DelB' (ks' := [5]) (us' := [51]) (f := false) w.heap.size w.heap.size S (key := 3) (by decide) (by decide) (by decide) (by decide) W h)
  have K0 := hide (fun (W : World) (h : Fr (fun k => k = w.heap.size) _ W) => b0.kept h O0)
  clear b0 O0
  go_enter Try.func8, Try.ntmps8
  go_wp2_with (go_at_call 7; refine (BNew _).mono ?_; rintro e w' ⟨rfl, rfl⟩)
  refine P1.out.mono ?_
  rintro e w1 ⟨rfl, ⟨S1, b1, -⟩, f1⟩
  have o1 := K0.out _ f1
  go_wp2_with fail
  refine (P2.out _ _ b1).mono ?_
  rintro e w2 ⟨rfl, ⟨S2, b2, -⟩, f2⟩
  have o2 := b1.kept f2 o1
  go_wp2_with fail
  refine (P3.out _ _ b2).mono ?_
  rintro e w3 ⟨rfl, ⟨S3, b3, -⟩, f3⟩
  have o3 := b2.kept f3 o2
  clear b1 b2 f1 f2 f3 o1 o2
  go_wp2_with fail
  refine (G1.out _ _ b3).mono ?_
  rintro e w4 ⟨rfl, rfl⟩
  go_wp2_with fail
  refine (F1.out _ _ b3).mono ?_
  rintro e w4 ⟨A4, c4, rfl, h4, f4⟩
  have o4 := o3.trans' f4
  have b4 := b3.old f4
  obtain ⟨ga, ca, ea, _, _⟩ := h4.form (by omega)
  injection ea with ea1 _ ea3
  subst ea1 ea3
  go_wp2_with fail
  refine (L1.out _ _ b4).mono ?_
  rintro e w5 ⟨rfl, f5⟩
  have x5 := own_cells (own_old h4 f5) 0 _ rfl
  have o5 := o4.trans' f5
  have b5 := b4.old f5
  clear b4 b3 f4 f5 o3 o4 h4
  go_wp2_with fail
  refine (N1.out _ _ b5).mono ?_
  rintro e w6 ⟨rfl, rfl⟩
  go_wp2_with fail
  refine (D1.out _ _ b5).mono ?_
  rintro e w6 ⟨rfl, ⟨S6, b6, -⟩, f6⟩
  have o6 := b5.kept f6 o5
  go_wp2_with fail
  refine (D2.out _ _ b6).mono ?_
  rintro e w7 ⟨rfl, -, f7⟩
  have o7 := b6.kept f7 o6
  go_wp2_with fail
  go_ret
  exact ⟨rfl, o7⟩

set_option maxRecDepth 100000 in
set_option maxHeartbeats 2000000 in
theorem Nobody_walk (key n : Int) (w : World) : Calls Try.prog 6 #[.int .i64 key, .int .i64 n] w fun e w' => e = .returned (.bool true) ∧ Old w w' := by
  go_enter Try.func6, Try.ntmps6
  go_wp2_with
    (first
      | (go_at_call 12; refine (BGet_nil _ _).mono ?_; rintro e w1 ⟨rfl, rfl⟩)
      | (go_at_call 9; refine (BPut_nil _ _ _).mono ?_; rintro e w1 ⟨rfl, rfl⟩)
      | (go_at_call 23; refine (BLeast_nil _).mono ?_; rintro e w1 ⟨rfl, rfl⟩)
      | (go_at_call 8; refine (told6_any _).mono ?_; rintro e w9 ⟨rfl, hb9⟩)
      | (go_at_call 16; refine (BLen_nil _).mono ?_; rintro e w1 ⟨rfl, rfl⟩)
      | (go_at_call 11; refine (BKeys_nil _).mono ?_; rintro e w1 ⟨rfl, rfl⟩)
      | (go_at_call 14; refine (BFrom_nil _ _ _).mono ?_; rintro e w1 ⟨rfl, rfl⟩)
      | (go_at_call 21; refine (BBack_nil _ _ _).mono ?_; rintro e w1 ⟨rfl, rfl⟩)
      | (go_at_call 13; refine (BDel_nil _ _).mono ?_; rintro e w1 ⟨rfl, rfl⟩))
  go_ret
  exact ⟨rfl, hb9⟩
end Go.Proofs.Ytidokbgdbakjkaa
