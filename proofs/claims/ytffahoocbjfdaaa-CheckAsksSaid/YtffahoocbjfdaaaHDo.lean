/- chart.Do. -/
import Derived.Deep.RegionHeld3
import Derived.Deep.AppendLies
import Derived.Deep.QuietTactic
import Derived.BigQuiet
import Derived.Test.YtffahoocbjfdaaaHAsk
namespace Go.Proofs.Ytffahoocbjfdaaa
open Go.RowKit
def doR (vs : List Ver) (k m quota : Int) (d : ByteArray) : List Ver × Int × Int :=
  if k = 1 ∧ vs ≠ [] ∧ (lastV vs).1 = false then (vs, 4, vs.length)
  else if k ≠ 1 ∧ vs = [] then (vs, 2, 0)
  else if k ≠ 1 ∧ (lastV vs).1 = true then (vs, 3, vs.length)
  else if m ≠ 0 ∧ m ≠ vs.length then (vs, 5, vs.length)
  else if quota ≤ vs.length then (vs, 6, vs.length)
  else (vs ++ [if k = 3 then (true, ByteArray.empty) else (false, d)], 1, vs.length + 1)
def VersAt (w0 w : World) (v : Value) (vs : List Ver) : Prop :=
  ∃ A c, v = .slice A vs.length c ∧ Vers w A vs ∧ (∀ a, A = some a → w0.heap.size ≤ a.block) ∧ vs.length ≤ c
theorem own_cap {w : World} {base : Nat} {e : TypeId} {size n c : Nat} {A : Option Addr} {xs : List Value} (h : w.ownsRow base e size (.slice A n c) n xs) : n ≤ c := by
  rcases h.2 with ⟨h1, rfl⟩ | ⟨g, cap, cur, h1, _, _, h2, _⟩
  · exact Nat.zero_le _
  · injection h1 with _ _ h3
    omega
theorem six_old {W W' : World} {g : Nat} {v0 v1 v2 v3 v4 v5 : Value} (hb : Old W W') (hg : g < W.heap.size)
    (h : W.cell? ⟨g, 0, none⟩ = some v0 ∧ W.cell? ⟨g, 1, none⟩ = some v1 ∧ W.cell? ⟨g, 2, none⟩ = some v2 ∧ W.cell? ⟨g, 3, none⟩ = some v3 ∧ W.cell? ⟨g, 4, none⟩ = some v4 ∧ W.cell? ⟨g, 5, none⟩ = some v5) :
    W'.cell? ⟨g, 0, none⟩ = some v0 ∧ W'.cell? ⟨g, 1, none⟩ = some v1 ∧ W'.cell? ⟨g, 2, none⟩ = some v2 ∧ W'.cell? ⟨g, 3, none⟩ = some v3 ∧ W'.cell? ⟨g, 4, none⟩ = some v4 ∧ W'.cell? ⟨g, 5, none⟩ = some v5 := by
  obtain ⟨b1, _⟩ := bcell hb
  rw [b1 _ _ hg, b1 _ _ hg, b1 _ _ hg, b1 _ _ hg, b1 _ _ hg, b1 _ _ hg]
  exact h
theorem own_ne {w : World} {base : Nat} {e : TypeId} {size n : Nat} {v : Value} {xs : List Value} (h : w.ownsRow base e size v n xs) {b : Nat} (hb : b < base) : v.ownBlock ≠ some b := fun e => by
  have := (h.lt b e).1
  omega
theorem old_grown {a w w' : World} {base : Nat} {e : TypeId} {size n : Nat} {v : Value} {xs : List Value} (h : Old a w) (hg : w.grownBy w' v.ownBlock) (hown : w.ownsRow base e size v n xs) (hb : a.heap.size ≤ base) : Old a w' :=
  h.grown hg h.size (fun k e => Nat.le_trans hb (hown.lt k e).1)
theorem set4_other {w : World} {b b' o : Nat} {v0 v1 v2 v3 : Value} (h : b ≠ b') :
    ((((w.setCell ⟨b, 0, none⟩ v0).setCell ⟨b, 1, none⟩ v1).setCell ⟨b, 2, none⟩ v2).setCell ⟨b, 3, none⟩ v3).cell? ⟨b', o, none⟩ = w.cell? ⟨b', o, none⟩ := by
  have hne : ∀ i, (⟨b, i, none⟩ : Addr) ≠ ⟨b', o, none⟩ := fun i e => h (congrArg Addr.block e)
  rw [World.cell?_setCell_other _ _ _ _ (hne 3), World.cell?_setCell_other _ _ _ _ (hne 2), World.cell?_setCell_other _ _ _ _ (hne 1), World.cell?_setCell_other _ _ _ _ (hne 0)]
theorem Do_reads (A : Option Addr) (n cap : Nat) (vs : List Ver) (hn : n ≤ 100000) (hl : n = vs.length) (c s k i m quota : Int) (d : ByteArray) (w : World) (hV : Vers w A vs) (hm : -9223372036854775808 ≤ m) (hm2 : m ≤ 9223372036854775807)
    (k1 : k ≠ 1) (k2 : k ≠ 2) (k3 : k ≠ 3) :
    Calls Try.prog 47 #[.slice A n cap, .agg #[.int .i64 c, .int .i64 s, .int .i64 k, .int .i64 i, .int .i64 m, .string d], .int .i64 quota] w fun e w' =>
      ∃ v u, e = .returned (.tuple #[v, u]) ∧ VersAt w w' v vs ∧ RepAt w w' u (askR vs k m) ∧ Old w w' := by
  have hC := hide (fun (W : World) (h : Vers W A vs) => Clone_any A n cap vs hn hl W h)
  have hA := hide (fun (W : World) (h : Vers W A vs) => Ask_any A n cap vs hn hl c s k i m d W h hm hm2)
  obtain ⟨r, hr⟩ : ∃ r, r = askR vs k m := ⟨_, rfl⟩
  rw [← hr] at hA
  have HR := hide hr
  have HL := hide hl
  clear hl hm hm2 hr
  have hV2 := hide ((hV.alloc (.cells #[.int .i64 c, .int .i64 s, .int .i64 k, .int .i64 i, .int .i64 m, .string d] 24)).alloc (.cells #[.int .i64 0, .int .i64 0, .string ByteArray.empty, .slice none 0 0] 43))
  have k1' : (k != 1) = true := by simpa using k1
  have k2' : (k != 2) = true := by simpa using k2
  have k3' : (k != 3) = true := by simpa using k3
  go_enter Try.func47, Try.ntmps47
  go_wp2_with fail
  go_region_held3 (fun w' => w'.cell? ⟨w.heap.size, 0, none⟩ = some (.int .i64 c) ∧ w'.cell? ⟨w.heap.size, 1, none⟩ = some (.int .i64 s) ∧ w'.cell? ⟨w.heap.size, 2, none⟩ = some (.int .i64 k) ∧ w'.cell? ⟨w.heap.size, 3, none⟩ = some (.int .i64 i) ∧ w'.cell? ⟨w.heap.size, 4, none⟩ = some (.int .i64 m) ∧ w'.cell? ⟨w.heap.size, 5, none⟩ = some (.string d))
    (first | go_keep | exact six_old hb1 (by simp; omega) (by simp) | exact six_old hb2 (by have := hb1.size; simp at this; omega) (six_old hb1 (by simp; omega) (by simp)))
    (first
      | (go_at_call 56; refine (hC.out _ (CellsAt.drew hV2.out)).mono ?_; rintro e w1 ⟨A1, c1, rfl, hown1, hb1⟩; obtain ⟨p1, q1⟩ := bcell hb1; have z1 : w.heap.size + 1 < w1.heap.size := (by have := hb1.size; simp at this; omega))
      | (go_at_call 57; refine (hA.out _ (CellsAt.old (CellsAt.drew hV2.out) hb1)).mono ?_; rintro e w2 ⟨v2, rfl, ⟨A2, c2, rfl, hi2, hn2⟩, hb2⟩; obtain ⟨p2, q2⟩ := bcell hb2))
  go_wp2
  have s0 : w2.cell? ⟨w.heap.size + 1, 0, none⟩ = some (.int .i64 0) := by rw [p2 _ _ z1, p1 _ _ (by simp)]; simp [go_sem]
  have s1 : w2.cell? ⟨w.heap.size + 1, 1, none⟩ = some (.int .i64 0) := by rw [p2 _ _ z1, p1 _ _ (by simp)]; simp [go_sem]
  have s2 : w2.cell? ⟨w.heap.size + 1, 2, none⟩ = some (.string ByteArray.empty) := by rw [p2 _ _ z1, p1 _ _ (by simp)]; simp [go_sem]
  have s3 : w2.cell? ⟨w.heap.size + 1, 3, none⟩ = some (.slice none 0 0) := by rw [p2 _ _ z1, p1 _ _ (by simp)]; simp [go_sem]
  have hsz1 := hb1.size
  simp at hsz1
  have hne1 : ∀ a, A1 = some a → a.block ≠ w.heap.size + 1 := fun a ha => by have := own_new hown1 a ha; simp at this; omega
  have hne2 : ∀ a, A2 = some a → a.block ≠ w.heap.size + 1 := fun a ha => by have := hn2 a ha; omega
  refine bodyPost_ret (v := .tuple #[.slice A1 n c1, .agg #[.int .i64 r.code, .int .i64 r.ver, .string r.data, .slice A2 r.vs.length c2]]) ?_ rfl ⟨_, _, rfl, ?_, ?_, ?_⟩
  · simp [results, Try.results47, go_sem, s0, s1, s2, s3]
  · refine ⟨A1, c1, by rw [HL.out], ?_, fun a ha => by have := own_new hown1 a ha; simp at this; omega, by rw [← HL.out]; exact own_cap hown1⟩
    exact (((((CellsAt.of_own hown1).old hb2).set_ (p := ⟨w.heap.size + 1, 0, none⟩) hne1 _).set_ (p := ⟨w.heap.size + 1, 1, none⟩) hne1 _).set_ (p := ⟨w.heap.size + 1, 2, none⟩) hne1 _).set_ (p := ⟨w.heap.size + 1, 3, none⟩) hne1 _
  · rw [← HR.out]
    refine ⟨A2, c2, rfl, ?_, fun a ha => by have := hn2 a ha; omega⟩
    exact (((hi2.set_ (p := ⟨w.heap.size + 1, 0, none⟩) hne2 _).set_ (p := ⟨w.heap.size + 1, 1, none⟩) hne2 _).set_ (p := ⟨w.heap.size + 1, 2, none⟩) hne2 _).set_ (p := ⟨w.heap.size + 1, 3, none⟩) hne2 _
  · repeat (first | with_reducible refine Old.drew' ?_ | with_reducible refine Old.setCell' ?_ (by simp) _ | with_reducible refine Old.alloc' ?_ _ | with_reducible refine Old.trans' ?_ hb2 | with_reducible refine Old.trans' ?_ hb1 | with_reducible exact Old.refl' _)
end Go.Proofs.Ytffahoocbjfdaaa
