/- casebooklaw23.told. -/
import Derived.Test.YtffahoocbjfdaaaHCC
import Derived.Test.YtffahoocbjfdaaaHBs
namespace Go.Proofs.Ytffahoocbjfdaaa
open Go.RowKit
def qT : ReqV := ⟨0, 1, 1, 1, 0, ⟨#[97]⟩⟩
def rT : ReqV := ⟨1, 1, 4, 1, 0, ⟨#[]⟩⟩
def lT : List ActV := [⟨0, 1, false, qT, Rep.zero, none, 0, 0⟩, ⟨1, 1, false, rT, Rep.zero, none, 0, 0⟩, ⟨0, 1, true, qT, ⟨1, 1, ⟨#[]⟩, []⟩, none, 0, 1⟩, ⟨1, 1, true, rT, ⟨2, 0, ⟨#[]⟩, []⟩, none, 0, 0⟩]
def bT : List ActV := [⟨0, 1, false, qT, Rep.zero, none, 0, 0⟩, ⟨1, 1, false, rT, Rep.zero, none, 0, 0⟩, ⟨0, 1, true, qT, ⟨1, 1, ⟨#[]⟩, []⟩, none, 0, 1⟩, ⟨1, 1, true, rT, ⟨1, 2, ⟨#[]⟩, []⟩, none, 0, 1⟩]
theorem lT_ok : Few23 lT := ⟨by decide, by decide⟩
theorem bT_ok : Few23 bT := ⟨by decide, by decide⟩
set_option maxRecDepth 100000 in
theorem told_c1 : checkP lT [qT] 5 true = 0 := by decide +kernel
set_option maxRecDepth 100000 in
theorem told_c2 : checkP bT [qT] 5 true = -2 := by decide +kernel
set_option maxRecDepth 100000 in
theorem told_c3 : checkP bT [qT] 5 false = 0 := by decide +kernel
set_option maxRecDepth 100000 in
theorem told_c4 : checkP lT [] 5 true = -1 := by decide +kernel
set_option maxRecDepth 100000 in
theorem told_c5 : checkP lT [] 0 true = 1 := by decide +kernel
set_option maxRecDepth 100000 in
theorem told_c6 : plOut lT = [0, 0, 1, 0] := by decide +kernel
theorem own_mkT {base : Nat} {e : TypeId} {size : Nat} (W : World) (h : base ≤ W.heap.size) : (W.alloc (.cells #[] e)).ownsRow base e size (.slice (some ⟨W.heap.size, 0, none⟩) 0 0) 0 [] :=
  World.ownsRow_lit W #[] 0 h (by unfold maxLen; omega) (by simp)
set_option maxRecDepth 100000 in
set_option maxHeartbeats 8000000 in
theorem told23_any (w : World) : Calls Try.prog 9 #[] w fun e w' => e = .returned (.bool true) ∧ Old w w' := by
  obtain ⟨j0, hj0, hj00, hj01, hj02⟩ := info_parts info_Act
  go_enter Try.func9, Try.ntmps9
  go_upto_region 4 with fail
  obtain ⟨W1, hW1⟩ : ∃ X, w.alloc (.cells #[.int .i64 0, .int .i64 1, .int .i64 1, .int .i64 1, .int .i64 0, .string { data := #[97] }] 24) = X := ⟨_, rfl⟩
  obtain ⟨bq, hbq⟩ : ∃ x, w.heap.size = x := ⟨_, rfl⟩
  obtain ⟨br, hbr⟩ : ∃ x, bq + 1 = x := ⟨_, rfl⟩
  obtain ⟨bl, hbl⟩ : ∃ x, br + 1 = x := ⟨_, rfl⟩
  have o1 : Old w W1 := hW1 ▸ (Old.refl' w).alloc' _
  have kq1 : Bk W1 bq 24 #[.int .i64 0, .int .i64 1, .int .i64 1, .int .i64 1, .int .i64 0, .string { data := #[97] }] := by rw [← hW1, ← hbq]; exact Bk.new w 24 _
  have s1 : W1.heap.size = br := by rw [← hW1, ← hbr, ← hbq]; simp
  obtain ⟨W2, hW2⟩ : ∃ X, W1.alloc (.cells #[.int .i64 1, .int .i64 1, .int .i64 4, .int .i64 1, .int .i64 0, .string { data := #[] }] 24) = X := ⟨_, rfl⟩
  have o2 : Old W1 W2 := hW2 ▸ (Old.refl' W1).alloc' _
  have kr2 : Bk W2 br 24 #[.int .i64 1, .int .i64 1, .int .i64 4, .int .i64 1, .int .i64 0, .string { data := #[] }] := by rw [← hW2, ← s1]; exact Bk.new W1 24 _
  have s2 : W2.heap.size = bl := by rw [← hW2, ← hbl, ← s1]; simp
  obtain ⟨W3, hW3⟩ : ∃ X, W2.alloc (.cells #[.int .i64 0, .int .i64 1, .bool false, .int .i64 0, .int .i64 1, .int .i64 1, .int .i64 1, .int .i64 0, .string { data := #[97] }, .int .i64 0, .int .i64 0, .string { data := #[] }, .slice none 0 0, .int .i64 0, .int .i64 1, .int .i64 1, .bool false, .int .i64 1, .int .i64 1, .int .i64 4, .int .i64 1, .int .i64 0, .string { data := #[] }, .int .i64 0, .int .i64 0, .string { data := #[] }, .slice none 0 0, .int .i64 0, .int .i64 0, .int .i64 1, .bool true, .int .i64 0, .int .i64 1, .int .i64 1, .int .i64 1, .int .i64 0, .string { data := #[97] }, .int .i64 1, .int .i64 1, .string { data := #[] }, .slice none 0 0, .int .i64 1, .int .i64 1, .int .i64 1, .bool true, .int .i64 1, .int .i64 1, .int .i64 4, .int .i64 1, .int .i64 0, .string { data := #[] }, .int .i64 2, .int .i64 0, .string { data := #[] }, .slice none 0 0, .int .i64 0] 45) = X := ⟨_, rfl⟩
  have o3 : Old W2 W3 := hW3 ▸ (Old.refl' W2).alloc' _
  have kl3 : Bk W3 bl 45 #[.int .i64 0, .int .i64 1, .bool false, .int .i64 0, .int .i64 1, .int .i64 1, .int .i64 1, .int .i64 0, .string { data := #[97] }, .int .i64 0, .int .i64 0, .string { data := #[] }, .slice none 0 0, .int .i64 0, .int .i64 1, .int .i64 1, .bool false, .int .i64 1, .int .i64 1, .int .i64 4, .int .i64 1, .int .i64 0, .string { data := #[] }, .int .i64 0, .int .i64 0, .string { data := #[] }, .slice none 0 0, .int .i64 0, .int .i64 0, .int .i64 1, .bool true, .int .i64 0, .int .i64 1, .int .i64 1, .int .i64 1, .int .i64 0, .string { data := #[97] }, .int .i64 1, .int .i64 1, .string { data := #[] }, .slice none 0 0, .int .i64 1, .int .i64 1, .int .i64 1, .bool true, .int .i64 1, .int .i64 1, .int .i64 4, .int .i64 1, .int .i64 0, .string { data := #[] }, .int .i64 2, .int .i64 0, .string { data := #[] }, .slice none 0 0, .int .i64 0] := by rw [← hW3, ← s2]; exact Bk.new W2 45 _
  rw [hW1, hW2, hbq, hbr, hbl, hW3]
  have hbw : w.heap.size = bq := hbq
  clear hbq
  obtain ⟨WD, hWDe⟩ : ∃ X, W3.drew = X := ⟨_, rfl⟩
  have oD : Old w WD := hWDe ▸ ((o1.trans' o2).trans' o3).drew'
  have kq := hide (show Bk WD bq 24 #[.int .i64 0, .int .i64 1, .int .i64 1, .int .i64 1, .int .i64 0, .string { data := #[97] }] from hWDe ▸ ((kq1.old o2).old o3).drew)
  have kr := hide (show Bk WD br 24 #[.int .i64 1, .int .i64 1, .int .i64 4, .int .i64 1, .int .i64 0, .string { data := #[] }] from hWDe ▸ (kr2.old o3).drew)
  have kl := hide (show Bk WD bl 45 #[.int .i64 0, .int .i64 1, .bool false, .int .i64 0, .int .i64 1, .int .i64 1, .int .i64 1, .int .i64 0, .string { data := #[97] }, .int .i64 0, .int .i64 0, .string { data := #[] }, .slice none 0 0, .int .i64 0, .int .i64 1, .int .i64 1, .bool false, .int .i64 1, .int .i64 1, .int .i64 4, .int .i64 1, .int .i64 0, .string { data := #[] }, .int .i64 0, .int .i64 0, .string { data := #[] }, .slice none 0 0, .int .i64 0, .int .i64 0, .int .i64 1, .bool true, .int .i64 0, .int .i64 1, .int .i64 1, .int .i64 1, .int .i64 0, .string { data := #[97] }, .int .i64 1, .int .i64 1, .string { data := #[] }, .slice none 0 0, .int .i64 1, .int .i64 1, .int .i64 1, .bool true, .int .i64 1, .int .i64 1, .int .i64 4, .int .i64 1, .int .i64 0, .string { data := #[] }, .int .i64 2, .int .i64 0, .string { data := #[] }, .slice none 0 0, .int .i64 0] from hWDe ▸ kl3.drew)
  have CS := hide (fun (U : World) (h : Old WD U) => (bk6 (kr.out.old h)).1)
  have HSRC := hide (fun (U : World) (h : Old WD U) => (by have := (cells_bk (kl.out.old h)).take 42; simpa using this : CellsAt U (some ⟨bl, 0, none⟩) ([.int .i64 0, .int .i64 1, .bool false, .int .i64 0, .int .i64 1, .int .i64 1, .int .i64 1, .int .i64 0, .string { data := #[97] }, .int .i64 0, .int .i64 0, .string { data := #[] }, .slice none 0 0, .int .i64 0, .int .i64 1, .int .i64 1, .bool false, .int .i64 1, .int .i64 1, .int .i64 4, .int .i64 1, .int .i64 0, .string { data := #[] }, .int .i64 0, .int .i64 0, .string { data := #[] }, .slice none 0 0, .int .i64 0, .int .i64 0, .int .i64 1, .bool true, .int .i64 0, .int .i64 1, .int .i64 1, .int .i64 1, .int .i64 0, .string { data := #[97] }, .int .i64 1, .int .i64 1, .string { data := #[] }, .slice none 0 0, .int .i64 1])))
  have HSRCL := hide (show ([.int .i64 0, .int .i64 1, .bool false, .int .i64 0, .int .i64 1, .int .i64 1, .int .i64 1, .int .i64 0, .string { data := #[97] }, .int .i64 0, .int .i64 0, .string { data := #[] }, .slice none 0 0, .int .i64 0, .int .i64 1, .int .i64 1, .bool false, .int .i64 1, .int .i64 1, .int .i64 4, .int .i64 1, .int .i64 0, .string { data := #[] }, .int .i64 0, .int .i64 0, .string { data := #[] }, .slice none 0 0, .int .i64 0, .int .i64 0, .int .i64 1, .bool true, .int .i64 0, .int .i64 1, .int .i64 1, .int .i64 1, .int .i64 0, .string { data := #[97] }, .int .i64 1, .int .i64 1, .string { data := #[] }, .slice none 0 0, .int .i64 1] : List Value).length = 3 * 14 from rfl)
  have HSRC1 := hide (show ∀ u ∈ ([.int .i64 0, .int .i64 1, .bool false, .int .i64 0, .int .i64 1, .int .i64 1, .int .i64 1, .int .i64 0, .string { data := #[97] }, .int .i64 0, .int .i64 0, .string { data := #[] }, .slice none 0 0, .int .i64 0, .int .i64 1, .int .i64 1, .bool false, .int .i64 1, .int .i64 1, .int .i64 4, .int .i64 1, .int .i64 0, .string { data := #[] }, .int .i64 0, .int .i64 0, .string { data := #[] }, .slice none 0 0, .int .i64 0, .int .i64 0, .int .i64 1, .bool true, .int .i64 0, .int .i64 1, .int .i64 1, .int .i64 1, .int .i64 0, .string { data := #[97] }, .int .i64 1, .int .i64 1, .string { data := #[] }, .slice none 0 0, .int .i64 1] : List Value), u.oneCell' = true by simp [Value.oneCell'])
  clear o1 o2 o3 kq1 kr2 kl3 s1 s2 hW1 hW2 hW3 hbr hbl
  refine region_steps (R := pick [fun v _ => ∃ b, v = .slice (some ⟨b, 0, none⟩) 0 0, eqv (.slice (some ⟨bl, 0, none⟩) 4 4), eqv (.slice (some ⟨bl, 0, none⟩) 3 4), fun v _ => ∃ A c, v = .slice A (3) c, eqv (.agg #[.int .i64 1, .int .i64 1, .int .i64 4, .int .i64 1, .int .i64 0, .string { data := #[] }]), eqv (.agg #[.int .i64 1, .int .i64 2, .string { data := #[] }, .slice none 0 0]), eqv (.agg #[.int .i64 1, .int .i64 1, .bool true, .int .i64 1, .int .i64 1, .int .i64 4, .int .i64 1, .int .i64 0, .string { data := #[] }, .int .i64 1, .int .i64 2, .string { data := #[] }, .slice none 0 0, .int .i64 1]), fun v _ => ∃ b, v = .slice (some ⟨b, 0, none⟩) 1 1, fun v _ => ∃ A c, v = .slice A (4) c, fun v _ => ∃ A c, v = .slice A (4) c]) (S := fun σ w' => Old WD w' ∧ (∀ v, σ 0 = some v → σ 3 = none → (∃ b, v = .slice (some ⟨b, 0, none⟩) 0 0 ∧ Bk w' b 45 #[]) ∧ w'.ownsRow WD.heap.size 45 14 (v) (0) ([])) ∧ (∀ v, σ 3 = some v → σ 8 = none → (∃ A c, v = .slice A (3) c) ∧ w'.ownsRow WD.heap.size 45 14 (v) (3) ([.int .i64 0, .int .i64 1, .bool false, .int .i64 0, .int .i64 1, .int .i64 1, .int .i64 1, .int .i64 0, .string { data := #[97] }, .int .i64 0, .int .i64 0, .string { data := #[] }, .slice none 0 0, .int .i64 0, .int .i64 1, .int .i64 1, .bool false, .int .i64 1, .int .i64 1, .int .i64 4, .int .i64 1, .int .i64 0, .string { data := #[] }, .int .i64 0, .int .i64 0, .string { data := #[] }, .slice none 0 0, .int .i64 0, .int .i64 0, .int .i64 1, .bool true, .int .i64 0, .int .i64 1, .int .i64 1, .int .i64 1, .int .i64 0, .string { data := #[97] }, .int .i64 1, .int .i64 1, .string { data := #[] }, .slice none 0 0, .int .i64 1])) ∧ (∀ v, σ 7 = some v → σ 8 = none → ∃ b, v = .slice (some ⟨b, 0, none⟩) 1 1 ∧ Bk w' b 45 #[.int .i64 1, .int .i64 1, .bool true, .int .i64 1, .int .i64 1, .int .i64 4, .int .i64 1, .int .i64 0, .string { data := #[] }, .int .i64 1, .int .i64 2, .string { data := #[] }, .slice none 0 0, .int .i64 1]) ∧ (∀ v, σ 8 = some v → (∃ A c, v = .slice A (4) c) ∧ w'.ownsRow WD.heap.size 45 14 (v) (4) ([.int .i64 0, .int .i64 1, .bool false, .int .i64 0, .int .i64 1, .int .i64 1, .int .i64 1, .int .i64 0, .string { data := #[97] }, .int .i64 0, .int .i64 0, .string { data := #[] }, .slice none 0 0, .int .i64 0, .int .i64 1, .int .i64 1, .bool false, .int .i64 1, .int .i64 1, .int .i64 4, .int .i64 1, .int .i64 0, .string { data := #[] }, .int .i64 0, .int .i64 0, .string { data := #[] }, .slice none 0 0, .int .i64 0, .int .i64 0, .int .i64 1, .bool true, .int .i64 0, .int .i64 1, .int .i64 1, .int .i64 1, .int .i64 0, .string { data := #[97] }, .int .i64 1, .int .i64 1, .string { data := #[] }, .slice none 0 0, .int .i64 1] ++ [.int .i64 1, .int .i64 1, .bool true, .int .i64 1, .int .i64 1, .int .i64 4, .int .i64 1, .int .i64 0, .string { data := #[] }, .int .i64 1, .int .i64 2, .string { data := #[] }, .slice none 0 0, .int .i64 1])) ∧ (∀ v, σ 9 = some v → (∃ A c, v = .slice A (4) c) ∧ w'.ownsRow WD.heap.size 45 14 (v) (4) ([.int .i64 0, .int .i64 1, .bool false, .int .i64 0, .int .i64 1, .int .i64 1, .int .i64 1, .int .i64 0, .string { data := #[97] }, .int .i64 0, .int .i64 0, .string { data := #[] }, .slice none 0 0, .int .i64 0, .int .i64 1, .int .i64 1, .bool false, .int .i64 1, .int .i64 1, .int .i64 4, .int .i64 1, .int .i64 0, .string { data := #[] }, .int .i64 0, .int .i64 0, .string { data := #[] }, .slice none 0 0, .int .i64 0, .int .i64 0, .int .i64 1, .bool true, .int .i64 0, .int .i64 1, .int .i64 1, .int .i64 1, .int .i64 0, .string { data := #[97] }, .int .i64 1, .int .i64 1, .string { data := #[] }, .slice none 0 0, .int .i64 1] ++ [.int .i64 1, .int .i64 1, .bool true, .int .i64 1, .int .i64 1, .int .i64 4, .int .i64 1, .int .i64 0, .string { data := #[] }, .int .i64 1, .int .i64 2, .string { data := #[] }, .slice none 0 0, .int .i64 1]))) (T := (fun _ _ => True)) (by kernel_rfl) (by kernel_rfl) (by kernel_rfl) (Stab.pick (Stab.cons (fun _ _ _ _ h => h) (Stab.eqv (Stab.eqv (Stab.cons (fun _ _ _ _ h => h) (Stab.eqv (Stab.eqv (Stab.eqv (Stab.cons (fun _ _ _ _ h => h) (Stab.cons (fun _ _ _ _ h => h) (Stab.cons (fun _ _ _ _ h => h) (Stab.nil)))))))))))) (⟨hWDe ▸ Old.refl' _, (fun v h => by cases h), (fun v h => by cases h), (fun v h => by cases h), (fun v h => by cases h), (fun v h => by cases h)⟩) ?steps ?ends
  case steps =>
    refine StepsOk.cons (stepOk_mk [] [] rfl rfl (by kernel_rfl) (by kernel_rfl) rfl ?_) ?_
    · rintro d a w' hk hda hS  
      first | refine Given.nil (Known.nil ?_) | refine Known.nil ?_
      obtain ⟨z0, z1, z2, z3, z4, z5⟩ := hS
      refine wp_runv (w' := w'.alloc (.cells #[] 45)) (.slice (some ⟨w'.heap.size, 0, none⟩) 0 0) (by generalize a.eval = E; go_simp) ⟨_, rfl, ⟨_, rfl⟩, trivial, z0.alloc' _, fun v hv h1 => ?_, fun v hv h1 => ?_, fun v hv h1 => ?_, fun v hv => ?_, fun v hv => ?_⟩
      · simp only [upd, if_true, Option.some.injEq] at hv
        subst hv
        exact ⟨⟨_, rfl, Bk.new w' 45 #[]⟩, own_mkT w' z0.size⟩
      · have := hk 3 (by kernel_rfl); simp [upd] at hv; rw [this] at hv; cases hv
      · obtain ⟨b, h2, h3⟩ := z3 v (by simpa [upd] using hv) (by simpa [upd] using h1)
        exact ⟨b, h2, h3.alloc _⟩
      · have := hk 8 (by kernel_rfl); simp [upd] at hv; rw [this] at hv; cases hv
      · have := hk 9 (by kernel_rfl); simp [upd] at hv; rw [this] at hv; cases hv
    refine StepsOk.cons (stepOk_pure [] [(3, .slice (some ⟨bl, 0, none⟩) 4 4)] rfl rfl (by kernel_rfl) (by kernel_rfl) rfl (fun _ => trivial) (fun σ v w h => by simpa [upd] using h) (fun d E w' hk hda hS hc hf => by rintro  e3; exact ⟨_, by go_simp, rfl⟩)) ?_
    refine StepsOk.cons (stepOk_pure [(1, 19)] [] rfl rfl (by kernel_rfl) (by kernel_rfl) rfl (fun _ => trivial) (fun σ v w h => by simpa [upd] using h) (fun d E w' hk hda hS hc hf => by rintro _ q1 rfl e19 ; obtain ⟨y0, y1, y2, y3, y4, y5⟩ := CS.out _ hS.1; exact ⟨_, by go_simp, rfl⟩)) ?_
    refine StepsOk.cons (stepOk_mk [(0, 18), (2, 20)] [] rfl rfl (by kernel_rfl) (by kernel_rfl) rfl ?_) ?_
    · rintro d a w' hk hda hS _ q0 ⟨be, rfl⟩ e18 _ q2 rfl e20 
      first | refine Given.nil (Known.nil ?_) | refine Known.nil ?_
      obtain ⟨z0, z1, z2, z3, z4, z5⟩ := hS
      obtain ⟨⟨be2, hbe, hbk⟩, hown⟩ := z1 _ q0 (hk 3 (by kernel_rfl))
      cases hbe
      refine wp_app _ (.tmp 18) (.tmp 20) 28 rfl WD.heap.size 45 j0 (.agg #[.int .i64 0, .int .i64 0, .bool false, .int .i64 0, .int .i64 0, .int .i64 0, .int .i64 0, .int .i64 0, .string { data := #[] }, .int .i64 0, .int .i64 0, .string { data := #[] }, .slice none 0 0, .int .i64 0]) 14 144 Try.underlying28 hj0 hj00 hj01 hj02 rfl (by decide) (.slice (some ⟨be, 0, none⟩) 0 0) 0 [] e18 hown (some ⟨bl, 0, none⟩) (3) (4) ([.int .i64 0, .int .i64 1, .bool false, .int .i64 0, .int .i64 1, .int .i64 1, .int .i64 1, .int .i64 0, .string { data := #[97] }, .int .i64 0, .int .i64 0, .string { data := #[] }, .slice none 0 0, .int .i64 0, .int .i64 1, .int .i64 1, .bool false, .int .i64 1, .int .i64 1, .int .i64 4, .int .i64 1, .int .i64 0, .string { data := #[] }, .int .i64 0, .int .i64 0, .string { data := #[] }, .slice none 0 0, .int .i64 0, .int .i64 0, .int .i64 1, .bool true, .int .i64 0, .int .i64 1, .int .i64 1, .int .i64 1, .int .i64 0, .string { data := #[97] }, .int .i64 1, .int .i64 1, .string { data := #[] }, .slice none 0 0, .int .i64 1]) e20 (HSRCL.out) (HSRC.out _ z0) (HSRC1.out) (by unfold maxLen; omega) (by omega) z0.size (3) (Nat.zero_add _) _ (List.nil_append _) ?_
      intro A2 c2 W2 h2
      have o2 : Old WD W2 := old_grown z0 h2.2.1 hown (Nat.le_refl _)
      refine ⟨_, rfl, ⟨_, _, rfl⟩, trivial, o2, fun v hv h1 => ?_, fun v hv h1 => ?_, fun v hv h1 => ?_, fun v hv => ?_, fun v hv => ?_⟩
      · simp [upd] at h1
      · simp only [upd, if_true, Option.some.injEq] at hv
        subst hv
        exact ⟨⟨_, _, rfl⟩, h2.1⟩
      · obtain ⟨b, h3, h4⟩ := z3 v (by simpa [upd] using hv) (by simpa [upd] using h1)
        exact ⟨b, h3, h4.grown h2.2.1 (fun e => by have e2 : b = be := (by injection e); subst e2; have e3 := hbk.symm.trans h4; simp at e3)⟩
      · have := hk 8 (by kernel_rfl); simp [upd] at hv; rw [this] at hv; cases hv
      · have := hk 9 (by kernel_rfl); simp [upd] at hv; rw [this] at hv; cases hv
    refine StepsOk.cons (stepOk_pure [] [(2, .pointer (some ⟨br, 0, none⟩))] rfl rfl (by kernel_rfl) (by kernel_rfl) rfl (fun _ => trivial) (fun σ v w h => by simpa [upd] using h) (fun d E w' hk hda hS hc hf => by rintro  e2; obtain ⟨y0, y1, y2, y3, y4, y5⟩ := CS.out _ hS.1; exact ⟨_, by go_simp, rfl⟩)) ?_
    refine StepsOk.cons (stepOk_pure [] [] rfl rfl (by kernel_rfl) (by kernel_rfl) rfl (fun _ => trivial) (fun σ v w h => by simpa [upd] using h) (fun d E w' hk hda hS hc hf => by exact ⟨_, by go_simp, rfl⟩)) ?_
    refine StepsOk.cons (stepOk_pure [(4, 22), (5, 23)] [] rfl rfl (by kernel_rfl) (by kernel_rfl) rfl (fun _ => trivial) (fun σ v w h => by simpa [upd] using h) (fun d E w' hk hda hS hc hf => by rintro _ q4 rfl e22 _ q5 rfl e23 ; exact ⟨_, by go_simp, rfl⟩)) ?_
    refine StepsOk.cons (stepOk_mk [(6, 24)] [] rfl rfl (by kernel_rfl) (by kernel_rfl) rfl ?_) ?_
    · rintro d a w' hk hda hS _ q6 rfl e24 
      first | refine Given.nil (Known.nil ?_) | refine Known.nil ?_
      obtain ⟨z0, z1, z2, z3, z4, z5⟩ := hS
      refine wp_runv (w' := w'.alloc (.cells #[.int .i64 1, .int .i64 1, .bool true, .int .i64 1, .int .i64 1, .int .i64 4, .int .i64 1, .int .i64 0, .string { data := #[] }, .int .i64 1, .int .i64 2, .string { data := #[] }, .slice none 0 0, .int .i64 1] 45)) (.slice (some ⟨w'.heap.size, 0, none⟩) 1 1) (by revert e24; generalize a.eval = E; intro e24; go_simp) ⟨_, rfl, ⟨_, rfl⟩, trivial, z0.alloc' _, fun v hv h1 => ?_, fun v hv h1 => ?_, fun v hv h1 => ?_, fun v hv => ?_, fun v hv => ?_⟩
      · obtain ⟨⟨b, h2, h4⟩, h3⟩ := z1 v (by simpa [upd] using hv) (by simpa [upd] using h1)
        exact ⟨⟨b, h2, h4.alloc _⟩, h3.alloc _⟩
      · obtain ⟨h2, h3⟩ := z2 v (by simpa [upd] using hv) (by simpa [upd] using h1)
        exact ⟨h2, h3.alloc _⟩
      · simp only [upd, if_true, Option.some.injEq] at hv
        subst hv
        exact ⟨_, rfl, Bk.new w' 45 _⟩
      · have := hk 8 (by kernel_rfl); simp [upd] at hv; rw [this] at hv; cases hv
      · have := hk 9 (by kernel_rfl); simp [upd] at hv; rw [this] at hv; cases hv
    refine StepsOk.cons (stepOk_mk [(3, 21), (7, 25)] [] rfl rfl (by kernel_rfl) (by kernel_rfl) rfl ?_) ?_
    · rintro d a w' hk hda hS _ q3 ⟨Ae, ce, rfl⟩ e21 _ q7 ⟨bo, rfl⟩ e25 
      first | refine Given.nil (Known.nil ?_) | refine Known.nil ?_
      obtain ⟨z0, z1, z2, z3, z4, z5⟩ := hS
      have hown := (z2 _ q3 (hk 8 (by kernel_rfl))).2
      obtain ⟨b, hb1, hb2⟩ := z3 _ q7 (hk 8 (by kernel_rfl))
      cases hb1
      refine wp_app _ (.tmp 21) (.tmp 25) 28 rfl WD.heap.size 45 j0 (.agg #[.int .i64 0, .int .i64 0, .bool false, .int .i64 0, .int .i64 0, .int .i64 0, .int .i64 0, .int .i64 0, .string { data := #[] }, .int .i64 0, .int .i64 0, .string { data := #[] }, .slice none 0 0, .int .i64 0]) 14 144 Try.underlying28 hj0 hj00 hj01 hj02 rfl (by decide) (.slice Ae (3) ce) (3) ([.int .i64 0, .int .i64 1, .bool false, .int .i64 0, .int .i64 1, .int .i64 1, .int .i64 1, .int .i64 0, .string { data := #[97] }, .int .i64 0, .int .i64 0, .string { data := #[] }, .slice none 0 0, .int .i64 0, .int .i64 1, .int .i64 1, .bool false, .int .i64 1, .int .i64 1, .int .i64 4, .int .i64 1, .int .i64 0, .string { data := #[] }, .int .i64 0, .int .i64 0, .string { data := #[] }, .slice none 0 0, .int .i64 0, .int .i64 0, .int .i64 1, .bool true, .int .i64 0, .int .i64 1, .int .i64 1, .int .i64 1, .int .i64 0, .string { data := #[97] }, .int .i64 1, .int .i64 1, .string { data := #[] }, .slice none 0 0, .int .i64 1]) e21 hown (some ⟨bo, 0, none⟩) 1 1 [.int .i64 1, .int .i64 1, .bool true, .int .i64 1, .int .i64 1, .int .i64 4, .int .i64 1, .int .i64 0, .string { data := #[] }, .int .i64 1, .int .i64 2, .string { data := #[] }, .slice none 0 0, .int .i64 1] e25 rfl (cells_bk hb2) (by simp [Value.oneCell']) (by unfold maxLen; omega) (by omega) z0.size (4) (by omega) _ rfl ?_
      intro A2 c2 W2 h2
      have o2 : Old WD W2 := old_grown z0 h2.2.1 hown (Nat.le_refl _)
      refine ⟨_, rfl, ⟨_, _, rfl⟩, trivial, o2, fun v hv h1 => ?_, fun v hv h1 => ?_, fun v hv h1 => ?_, fun v hv => ?_, fun v hv => ?_⟩
      · simp only [upd] at h1; rw [if_neg (by decide)] at h1; rw [q3] at h1; cases h1
      · simp [upd] at h1
      · simp [upd] at h1
      · simp only [upd, if_true, Option.some.injEq] at hv
        subst hv
        exact ⟨⟨_, _, rfl⟩, h2.1⟩
      · have := hk 9 (by kernel_rfl); simp [upd] at hv; rw [this] at hv; cases hv
    refine StepsOk.cons (stepOk_mk [(8, 26)] [] rfl rfl (by kernel_rfl) (by kernel_rfl) rfl ?_) ?_
    · rintro d a w' hk hda hS _ q8 ⟨Af, cf, rfl⟩ e26 
      first | refine Given.nil (Known.nil ?_) | refine Known.nil ?_
      obtain ⟨z0, z1, z2, z3, z4, z5⟩ := hS
      have hown := (z4 _ q8).2
      refine wp_runv (w' := w') (.slice Af (4) cf) (by revert e26; generalize a.eval = E; intro e26; go_simp) ⟨_, rfl, ⟨_, _, rfl⟩, trivial, z0, fun v hv h1 => ?_, fun v hv h1 => ?_, fun v hv h1 => ?_, fun v hv => ?_, fun v hv => ?_⟩
      · exact z1 v (by simpa [upd] using hv) (by simpa [upd] using h1)
      · exact z2 v (by simpa [upd] using hv) (by simpa [upd] using h1)
      · exact z3 v (by simpa [upd] using hv) (by simpa [upd] using h1)
      · exact z4 v (by simpa [upd] using hv)
      · simp only [upd, if_true, Option.some.injEq] at hv
        subst hv
        exact ⟨⟨_, _, rfl⟩, hown⟩
    exact StepsOk.nil
  case ends =>
    intro σ9 w9 hS9 hA9
    refine Ends.ex (some 18) rfl ?_
    rintro _ p0 ⟨be, rfl⟩
    refine Ends.eqv (some 19) (.slice (some ⟨bl, 0, none⟩) 4 4) rfl (fun _ h => h) ?_
    refine Ends.eqv (some 20) (.slice (some ⟨bl, 0, none⟩) 3 4) rfl (fun _ h => h) ?_
    refine Ends.ex (some 21) rfl ?_
    rintro _ p3 ⟨Ae, ce, rfl⟩
    refine Ends.eqv (some 22) (.agg #[.int .i64 1, .int .i64 1, .int .i64 4, .int .i64 1, .int .i64 0, .string { data := #[] }]) rfl (fun _ h => h) ?_
    refine Ends.eqv (some 23) (.agg #[.int .i64 1, .int .i64 2, .string { data := #[] }, .slice none 0 0]) rfl (fun _ h => h) ?_
    refine Ends.eqv (some 24) (.agg #[.int .i64 1, .int .i64 1, .bool true, .int .i64 1, .int .i64 1, .int .i64 4, .int .i64 1, .int .i64 0, .string { data := #[] }, .int .i64 1, .int .i64 2, .string { data := #[] }, .slice none 0 0, .int .i64 1]) rfl (fun _ h => h) ?_
    refine Ends.ex (some 25) rfl ?_
    rintro _ p7 ⟨bo, rfl⟩
    refine Ends.ex (some 26) rfl ?_
    rintro _ p8 ⟨Af, cf, rfl⟩
    refine Ends.ex (some 4) rfl ?_
    rintro _ p9 ⟨Ag, cg, rfl⟩
    refine Ends.nil ?_
    clear hA9
    simp only [put_lit, put_none, List.set_cons_zero, List.set_cons_succ]
    obtain ⟨o9, -, -, -, -, z5⟩ := hS9
    have hrow := (z5 _ p9).2
    clear z5 p9 p8 p7 p3 p0
    have oW := oD.trans' o9
    have kq9 := hide (kq.out.old o9)
    have hl := hide (show ActsAt w9 (some ⟨bl, 0, none⟩) lT from ⟨cells_bk (kl.out.old o9), fun a ha => by
      simp only [lT, List.mem_cons, List.not_mem_nil, or_false] at ha
      rcases ha with rfl | rfl | rfl | rfl <;> exact CellsAt.nil _ _⟩)
    have hb := hide (show ActsAt w9 Ag bT from ⟨CellsAt.of_own hrow, fun a ha => by
      simp only [bT, List.mem_cons, List.not_mem_nil, or_false] at ha
      rcases ha with rfl | rfl | rfl | rfl <;> exact CellsAt.nil _ _⟩)
    have hQ := hide (fun (U : World) => (cells_bk (Bk.new U 24 #[.int .i64 0, .int .i64 1, .int .i64 1, .int .i64 1, .int .i64 0, .string { data := #[97] }]) : ReqsAt (U.alloc (.cells #[.int .i64 0, .int .i64 1, .int .i64 1, .int .i64 1, .int .i64 0, .string { data := #[97] }] 24)) (some ⟨U.heap.size, 0, none⟩) [qT]))
    have c1 := hide (fun (U : World) (h : Old w9 U) => Check_any (some ⟨bl, 0, none⟩) 4 4 lT rfl lT_ok (some ⟨U.heap.size, 0, none⟩) 1 1 [qT] rfl (by omega) (by omega) 5 true 0 told_c1 (U.alloc (.cells #[.int .i64 0, .int .i64 1, .int .i64 1, .int .i64 1, .int .i64 0, .string { data := #[97] }] 24)) (hl.out.old (h.alloc' _)) (hQ.out U))
    have c2 := hide (fun (U : World) (h : Old w9 U) => Check_any Ag 4 cg bT rfl bT_ok (some ⟨U.heap.size, 0, none⟩) 1 1 [qT] rfl (by omega) (by omega) 5 true (-2) told_c2 (U.alloc (.cells #[.int .i64 0, .int .i64 1, .int .i64 1, .int .i64 1, .int .i64 0, .string { data := #[97] }] 24)) (hb.out.old (h.alloc' _)) (hQ.out U))
    have c3 := hide (fun (U : World) (h : Old w9 U) => CWrites_any Ag 4 cg bT rfl bT_ok (some ⟨U.heap.size, 0, none⟩) 1 1 [qT] rfl (by omega) (by omega) 5 0 told_c3 (U.alloc (.cells #[.int .i64 0, .int .i64 1, .int .i64 1, .int .i64 1, .int .i64 0, .string { data := #[97] }] 24)) (hb.out.old (h.alloc' _)) (hQ.out U))
    have c4 := hide (fun (U : World) (h : Old w9 U) => Check_any (some ⟨bl, 0, none⟩) 4 4 lT rfl lT_ok none 0 0 [] rfl (by omega) (by omega) 5 true (-1) told_c4 U (hl.out.old h) (CellsAt.nil _ _))
    have c5 := hide (fun (U : World) (h : Old w9 U) => Check_any (some ⟨bl, 0, none⟩) 4 4 lT rfl lT_ok none 0 0 [] rfl (by omega) (by omega) 0 true 1 told_c5 U (hl.out.old h) (CellsAt.nil _ _))
    have c6 := hide (fun (U : World) (h : Old w9 U) => (by have := Places_any (some ⟨bl, 0, none⟩) 4 4 lT rfl lT_ok U (hl.out.old h); rw [told_c6] at this; exact this : Calls Try.prog 12 #[.slice (some ⟨bl, 0, none⟩) 4 4] U fun e w' => ∃ A' c', e = .returned (.slice A' 4 c') ∧ IntsAt w' A' [0, 0, 1, 0] ∧ (∀ a, A' = some a → U.heap.size ≤ a.block) ∧ Old U w'))
    have c7 := hide (fun (U : World) (A' : Option Addr) (c' : Nat) (h : IntsAt U A' [0, 0, 1, 0]) => Ints_any A' (some ⟨U.heap.size, 0, none⟩) 4 4 [0, 0, 1, 0] [0, 0, 1, 0] c' 4 (U.alloc (.cells #[.int .i64 0, .int .i64 0, .int .i64 1, .int .i64 0] 3)) (CellsAt.alloc h _) (cells_bk (Bk.new U 3 #[.int .i64 0, .int .i64 0, .int .i64 1, .int .i64 0])) rfl rfl (by omega) (by omega))
    have HW := hide oW
    clear CS HSRC HSRCL HSRC1 kq kr kl hWDe oD hrow o9 oW hbw
    obtain ⟨⟨x0, x1, x2, x3, x4, x5⟩, lx⟩ := bk6 kq9.out
    go_wp2_with fail
    with_reducible refine (c1.out w9 (Old.refl' _)).mono ?_
    rintro e u1 ⟨rfl, b1⟩
    have o1 := ((Old.refl' w9).alloc' (.cells #[.int .i64 0, .int .i64 1, .int .i64 1, .int .i64 1, .int .i64 0, .string { data := #[97] }] 24)).trans' b1
    clear x0 x1 x2 x3 x4 x5 lx
    obtain ⟨⟨x0, x1, x2, x3, x4, x5⟩, lx⟩ := bk6 (kq9.out.old o1)
    go_wp2_with fail
    with_reducible refine (c2.out u1 o1).mono ?_
    rintro e u2 ⟨rfl, b2⟩
    have o2 := (o1.alloc' (.cells #[.int .i64 0, .int .i64 1, .int .i64 1, .int .i64 1, .int .i64 0, .string { data := #[97] }] 24)).trans' b2
    clear x0 x1 x2 x3 x4 x5 lx
    obtain ⟨⟨x0, x1, x2, x3, x4, x5⟩, lx⟩ := bk6 (kq9.out.old o2)
    go_wp2_with fail
    with_reducible refine (c3.out u2 o2).mono ?_
    rintro e u3 ⟨rfl, b3⟩
    have o3 := (o2.alloc' (.cells #[.int .i64 0, .int .i64 1, .int .i64 1, .int .i64 1, .int .i64 0, .string { data := #[97] }] 24)).trans' b3
    go_wp2_with fail
    with_reducible refine (c4.out u3 o3).mono ?_
    rintro e u4 ⟨rfl, b4⟩
    have o4 := o3.trans' b4
    go_wp2_with fail
    with_reducible refine (c5.out u4 o4).mono ?_
    rintro e u5 ⟨rfl, b5⟩
    have o5 := o4.trans' b5
    go_wp2_with fail
    with_reducible refine (c6.out u5 o5).mono ?_
    rintro e u6 ⟨A', c', rfl, hI, -, b6⟩
    have o6 := o5.trans' b6
    go_wp2_with fail
    with_reducible refine (c7.out u6 A' c' hI).mono ?_
    rintro e u7 ⟨rfl, b7⟩
    have o7 := (o6.alloc' _).trans' b7
    go_wp2_with fail
    go_ret
    exact ⟨by simp, HW.out.trans' o7⟩
end Go.Proofs.Ytffahoocbjfdaaa
