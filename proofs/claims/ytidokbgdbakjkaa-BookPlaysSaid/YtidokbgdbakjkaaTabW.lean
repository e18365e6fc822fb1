/- book.Book: From, Back, Keys, Least as joined contracts over lists. -/
import Derived.Test.YtidokbgdbakjkaaTabV
import Derived.Test.YtidokbgdbakjkaaTabF
import Derived.Test.YtidokbgdbakjkaaTabK2
import Derived.Test.YtidokbgdbakjkaaBkB
namespace Go.Proofs.Ytidokbgdbakjkaa
open Go.RowKit Go.Shelf

theorem boxes {w : World} {a b : Value} {t u : TypeId} : ((w.alloc (.cells #[a] t)).alloc (.cells #[b] u)).cell? ⟨w.heap.size, 0, none⟩ = some a ∧ ((w.alloc (.cells #[a] t)).alloc (.cells #[b] u)).cell? ⟨w.heap.size + 1, 0, none⟩ = some b := by
  exact ⟨((Bk.new w t #[a]).alloc (.cells #[b] u)).cell 0, (bk_new1 w (.cells #[a] t) u #[b]).cell 0⟩

theorem up_gives (base g o i n ck : Nat) (A : Option Addr) (V : Value) (ks : List Int) (vs : List Value) (key : Int) (hl : n = ks.length) (hn : n ≤ 100000) (hp : PlaceOf ks key i) (w : World) (h : TabAt w base g o (.slice A n ck) V ks vs) :
    Gives 35 #[.pointer (some ⟨w.heap.size, 0, none⟩), .pointer (some ⟨w.heap.size + 1, 0, none⟩)] (ks.drop i) ((w.alloc (.cells #[.pointer (some ⟨g, o, none⟩)] 54)).alloc (.cells #[.int .i64 key] 3)) := by
  intro l J Jx W hW hJ _ hY h0
  have hO : Old w ((w.alloc (.cells #[.pointer (some ⟨g, o, none⟩)] 54)).alloc (.cells #[.int .i64 key] 3)) := ((Old.refl' w).alloc' _).alloc' _
  have hsz : ((w.alloc (.cells #[.pointer (some ⟨g, o, none⟩)] 54)).alloc (.cells #[.int .i64 key] 3)).heap.size = w.heap.size + 2 := by simp
  obtain ⟨c0, c1⟩ := boxes (w := w) (a := .pointer (some ⟨g, o, none⟩)) (b := .int .i64 key) (t := 54) (u := 3)
  have ho := h.ko
  rw [← hl] at ho
  have hgl := h.lt
  have hO' : Old w W := hO.trans' hW
  generalize ((w.alloc (.cells #[.pointer (some ⟨g, o, none⟩)] 54)).alloc (.cells #[.int .i64 key] 3)) = w1 at *
  refine up1_in 4 (by omega) l w.heap.size (w.heap.size + 1) w1.heap.size g o n ck i A ks key _ hp rfl hn hl J Jx (fun pre x W1 hJ hlen => hY pre x W1 hJ (by rw [List.length_drop, ← hl]; exact hlen)) W
    ((hW.cell (p := ⟨w.heap.size, 0, none⟩) (by simp; omega)).trans c0) ((hW.cell (p := ⟨w.heap.size + 1, 0, none⟩) (by simp; omega)).trans c1) ((hO'.cell (p := ⟨g, o, none⟩) hgl).trans h.k0) (CellsAt.of_own (own_old ho hO')) (by omega) (by omega) ?_ hJ h0
  intro _ a ha
  obtain ⟨A2, c2, e2, _, hz⟩ := own_form ho
  injection e2 with e3
  rw [← e3] at hz
  have := (hz a ha).2.1
  omega
theorem down_gives (base g o i n ck : Nat) (A : Option Addr) (V : Value) (ks : List Int) (vs : List Value) (key : Int) (f : Bool) (hf : (decide (i < n) && decide (ks[i]?.getD 0 = key)) = f) (hl : n = ks.length) (hn : n ≤ 100000) (hp : PlaceOf ks key i) (w : World) (h : TabAt w base g o (.slice A n ck) V ks vs) :
    Gives 36 #[.pointer (some ⟨w.heap.size, 0, none⟩), .pointer (some ⟨w.heap.size + 1, 0, none⟩)] (ks.take (topOf i f)).reverse ((w.alloc (.cells #[.pointer (some ⟨g, o, none⟩)] 54)).alloc (.cells #[.int .i64 key] 3)) := by
  intro l J Jx W hW hJ _ hY h0
  have hO : Old w ((w.alloc (.cells #[.pointer (some ⟨g, o, none⟩)] 54)).alloc (.cells #[.int .i64 key] 3)) := ((Old.refl' w).alloc' _).alloc' _
  have hsz : ((w.alloc (.cells #[.pointer (some ⟨g, o, none⟩)] 54)).alloc (.cells #[.int .i64 key] 3)).heap.size = w.heap.size + 2 := by simp
  obtain ⟨c0, c1⟩ := boxes (w := w) (a := .pointer (some ⟨g, o, none⟩)) (b := .int .i64 key) (t := 54) (u := 3)
  have ho := h.ko
  rw [← hl] at ho
  have hgl := h.lt
  have hO' : Old w W := hO.trans' hW
  have htop : topOf i f ≤ n := by
    have := hp.1
    unfold topOf
    cases f
    · rw [hl]; exact this
    · simp at hf
      simp
      omega
  generalize ((w.alloc (.cells #[.pointer (some ⟨g, o, none⟩)] 54)).alloc (.cells #[.int .i64 key] 3)) = w1 at *
  refine down1_in 4 (by omega) l w.heap.size (w.heap.size + 1) w1.heap.size g o n ck i A ks key f hp hf hn hl J Jx (fun pre x W1 hJ hlen => hY pre x W1 hJ (by rw [List.length_reverse, List.length_take, ← hl]; omega)) W
    ((hW.cell (p := ⟨w.heap.size, 0, none⟩) (by simp; omega)).trans c0) ((hW.cell (p := ⟨w.heap.size + 1, 0, none⟩) (by simp; omega)).trans c1) ((hO'.cell (p := ⟨g, o, none⟩) hgl).trans h.k0) (CellsAt.of_own (own_old ho hO')) (by omega) (by omega) ?_ hJ h0
  intro _ a ha
  obtain ⟨A2, c2, e2, _, hz⟩ := own_form ho
  injection e2 with e3
  rw [← e3] at hz
  have := (hz a ha).2.1
  omega

/-- keys from one on, rising; falling -/
def fromL (ks : List Int) (key n : Int) : List Int := (ks.drop (plc ks key)).take n.toNat
def backLk (ks : List Int) (key n : Int) : List Int := ((ks.take (topOf (plc ks key) (decide (key ∈ ks)))).reverse).take n.toNat

set_option maxHeartbeats 1000000 in
theorem FromB (base g : Nat) (S : Nat → Prop) (ks us : List Int) (key n : Int) (L : List Int) (r : Nat) (hL : fromL ks key n = L) (hr : L.length = r) (hn : n ≤ 9223372036854775807) (hk : ks.length ≤ 99999) (w : World) (h : BookAt w base g S ks us) :
    Calls Try.prog 14 #[.pointer (some ⟨g, 0, none⟩), .int .i64 key, .int .i64 n] w fun e w' => ∃ A' c', e = .returned (.slice A' r c') ∧ w'.ownsRow w.heap.size 3 1 (.slice A' r c') r (L.map (Value.int .i64)) ∧ Old w w' := by
  have hri := h.rise
  obtain ⟨A, ck, B, cv, h, -⟩ := h
  have hG := up_gives base g 0 (plc ks key) ks.length ck A _ ks _ key rfl (by omega) (plc_place hri key) w h
  have hO : Old w ((w.alloc (.cells #[.pointer (some ⟨g, 0, none⟩)] 54)).alloc (.cells #[.int .i64 key] 3)) := ((Old.refl' w).alloc' _).alloc' _
  have cF : Calls Try.prog 27 #[.func (.func 35) #[] #[.pointer (some ⟨w.heap.size, 0, none⟩), .pointer (some ⟨w.heap.size + 1, 0, none⟩)], .int .i64 n] ((w.alloc (.cells #[.pointer (some ⟨g, 0, none⟩)] 54)).alloc (.cells #[.int .i64 key] 3)) fun e w' => ∃ A' c', e = .returned (.slice A' r c') ∧ w'.ownsRow w.heap.size 3 1 (.slice A' r c') r (L.map (Value.int .i64)) ∧ Old w w' := by
    refine (first_any 35 _ _ n hn (by rw [List.length_drop]; omega) _ (enters_of Try.func35 (by kernel_rfl) rfl) hG).mono ?_
    rintro e w' ⟨A', c', rfl, ho, hb⟩
    rw [show (ks.drop (plc ks key)).take n.toNat = L from hL, hr] at ho ⊢
    exact ⟨A', c', rfl, own_mono ho (by simp; omega), hO.trans' hb⟩
  have CF := hide cF
  clear cF hG hL hr hO
  go_enter Try.func14, Try.ntmps14
  go_wp2_with
    (first
      | (go_at_call 28; refine (Up_any _ _ _ _).mono ?_; rintro e w1 ⟨rfl, rfl⟩)
      | (go_at_call 27; refine CF.out.mono ?_; rintro e w2 ⟨A', c', rfl, ho, hb⟩))
  go_ret
  exact ⟨A', c', rfl, ho, hb⟩
set_option maxHeartbeats 1000000 in
theorem BackB (base g : Nat) (S : Nat → Prop) (ks us : List Int) (key n : Int) (L : List Int) (r : Nat) (hL : backLk ks key n = L) (hr : L.length = r) (hn : n ≤ 9223372036854775807) (hk : ks.length ≤ 99999) (w : World) (h : BookAt w base g S ks us) :
    Calls Try.prog 21 #[.pointer (some ⟨g, 0, none⟩), .int .i64 key, .int .i64 n] w fun e w' => ∃ A' c', e = .returned (.slice A' r c') ∧ w'.ownsRow w.heap.size 3 1 (.slice A' r c') r (L.map (Value.int .i64)) ∧ Old w w' := by
  have hri := h.rise
  obtain ⟨A, ck, B, cv, h, -⟩ := h
  have hp := plc_place hri key
  have hG := down_gives base g 0 (plc ks key) ks.length ck A _ ks _ key _ (found_iff hri hp) rfl (by omega) hp w h
  have hO : Old w ((w.alloc (.cells #[.pointer (some ⟨g, 0, none⟩)] 54)).alloc (.cells #[.int .i64 key] 3)) := ((Old.refl' w).alloc' _).alloc' _
  have cF : Calls Try.prog 27 #[.func (.func 36) #[] #[.pointer (some ⟨w.heap.size, 0, none⟩), .pointer (some ⟨w.heap.size + 1, 0, none⟩)], .int .i64 n] ((w.alloc (.cells #[.pointer (some ⟨g, 0, none⟩)] 54)).alloc (.cells #[.int .i64 key] 3)) fun e w' => ∃ A' c', e = .returned (.slice A' r c') ∧ w'.ownsRow w.heap.size 3 1 (.slice A' r c') r (L.map (Value.int .i64)) ∧ Old w w' := by
    refine (first_any 36 _ _ n hn (by rw [List.length_reverse, List.length_take]; omega) _ (enters_of Try.func36 (by kernel_rfl) rfl) hG).mono ?_
    rintro e w' ⟨A', c', rfl, ho, hb⟩
    rw [show ((ks.take (topOf (plc ks key) (decide (key ∈ ks)))).reverse).take n.toNat = L from hL, hr] at ho ⊢
    exact ⟨A', c', rfl, own_mono ho (by simp; omega), hO.trans' hb⟩
  have CF := hide cF
  clear cF hG hL hr hO hp
  go_enter Try.func21, Try.ntmps21
  go_wp2_with
    (first
      | (go_at_call 31; refine (Down_any _ _ _ _).mono ?_; rintro e w1 ⟨rfl, rfl⟩)
      | (go_at_call 27; refine CF.out.mono ?_; rintro e w2 ⟨A', c', rfl, ho, hb⟩))
  go_ret
  exact ⟨A', c', rfl, ho, hb⟩

theorem plc_head (k : Int) (ks : List Int) : plc (k :: ks) k = 0 := by simp [plc]
set_option maxHeartbeats 1000000 in
theorem KeysB (base g : Nat) (S : Nat → Prop) (ks us : List Int) (n : Nat) (hl : ks.length = n) (hk : n ≤ 99999) (w : World) (h : BookAt w base g S ks us) :
    Calls Try.prog 11 #[.pointer (some ⟨g, 0, none⟩)] w fun e w' => ∃ A' c', e = .returned (.slice A' n c') ∧ w'.ownsRow w.heap.size 3 1 (.slice A' n c') n (ks.map (Value.int .i64)) ∧ Old w w' := by
  have h' := h
  obtain ⟨A, ck, B, cv, h, -⟩ := h
  cases ks with
  | nil =>
    simp at hl
    subst hl
    refine (BKeys_none base g ck cv A B _ w h).mono ?_
    rintro e w' ⟨rfl, rfl⟩
    exact ⟨none, 0, rfl, World.ownsRow_nil _ _ _ _, Old.refl' w⟩
  | cons k ks =>
    have hL : fromL (k :: ks) k n = k :: ks := by
      unfold fromL
      rw [plc_head, ← hl]
      simp
    have cF := hide (fun (W : World) (hW : Old w W) => FromB base g S (k :: ks) us k n (k :: ks) n hL hl (by omega) (by omega) W (h'.old hW))
    have cN := hide (fun (W : World) (hW : Old w W) => LenB base g S (k :: ks) us n hl W (h'.old hW))
    have hko := h.ko
    obtain ⟨ga, ca, ea, _, _⟩ := hko.form (by simp)
    injection ea with ea1 _ ea3
    subst ea1 ea3
    have c0 := own_cells hko 0 (.int .i64 k) rfl
    have k0 := h.k0
    have hga := own_lt hko
    have hgl := h.lt
    rw [hl] at k0
    have hn0 : ((n : Int) == 0) = false := by rw [beq_eq_false_iff_ne]; simp at hl; omega
    have hn1 : (0 : Int) < n := by simp at hl; omega
    have hnz : ¬ n = 0 := by omega
    clear hl hL h h' hko
    go_enter Try.func11, Try.ntmps11
    go_wp2_with (go_at_call 16; refine (cN.out w (Old.refl' w)).mono ?_; rintro e w1 ⟨rfl, rfl⟩)
    refine wp_region_Z (S := fun w' => w'.cell? ⟨g, 0, none⟩ = some (.slice (some ⟨ga, 0, none⟩) n ck) ∧ w'.cell? ⟨ga, 0, none⟩ = some (.int .i64 k)) (Z := ([] : List Nat).contains) (by kernel_rfl) ?_
    refine wpAnyZ_pure 0 (.pointer (some ⟨g, 0, none⟩)) rfl (by kernel_rfl) (by kernel_rfl) (by kernel_rfl) (fun _ _ _ h => h) (Or.inl ⟨by rfl, fun w _ => by go_simp⟩) ?_
    refine wpAnyZ_pure 1 (.pointer (some ⟨g, 0, none⟩)) rfl (by kernel_rfl) (by kernel_rfl) (by kernel_rfl) (fun _ _ _ h => h) (Or.inl ⟨by rfl, fun w _ => by go_simp⟩) ?_
    refine wpAnyZ_pure 2 (.pointer (some ⟨g, 0, none⟩)) rfl (by kernel_rfl) (by kernel_rfl) (by kernel_rfl) (fun _ _ _ h => h) (Or.inl ⟨by rfl, fun w _ => by go_simp⟩) ?_
    refine wpAnyZ_pure 3 (.pointer (some ⟨g, 0, none⟩)) rfl (by kernel_rfl) (by kernel_rfl) (by kernel_rfl) (fun _ _ _ h => h) (Or.inl ⟨by rfl, fun w _ => by go_simp⟩) ?_
    refine wpAnyZ_pure 4 (.pointer (some ⟨g, 0, none⟩)) rfl (by kernel_rfl) (by kernel_rfl) (by kernel_rfl) (fun _ _ _ h => h) (Or.inl ⟨by rfl, fun w _ => by go_simp⟩) ?_
    refine wpAnyZ_take 5 (.slice (some ⟨ga, 0, none⟩) n ck) rfl (by kernel_rfl) (by kernel_rfl) (by kernel_rfl) (by kernel_rfl) (fun _ _ _ h => h) (Or.inl ⟨by rfl, fun w' hS => by obtain ⟨s0, s1⟩ := hS; go_simp⟩) (by exact ⟨k0, c0⟩) ?_
    refine wpAnyZ_pure 6 (.pointer (some ⟨ga, 0, none⟩)) rfl (by kernel_rfl) (by kernel_rfl) (by kernel_rfl) (fun _ _ _ h => h) (Or.inl ⟨by rfl, fun w _ => by go_simp⟩) ?_
    refine wpAnyZ_take 7 (.int .i64 k) rfl (by kernel_rfl) (by kernel_rfl) (by kernel_rfl) (by kernel_rfl) (fun _ _ _ h => h) (Or.inl ⟨by rfl, fun w' hS => by obtain ⟨s0, s1⟩ := hS; go_simp⟩) (by exact ⟨k0, c0⟩) ?_
    refine wpAnyZ_pure 8 (.pointer (some ⟨g, 0, none⟩)) rfl (by kernel_rfl) (by kernel_rfl) (by kernel_rfl) (fun _ _ _ h => h) (Or.inl ⟨by rfl, fun w _ => by go_simp⟩) ?_
    refine wpAnyZ_all (rs := [9]) (by kernel_rfl) (by simp) ?_
    intro j hj
    simp only [List.mem_cons, List.not_mem_nil, or_false] at hj
    subst hj
    refine wpOp_call rfl rfl 16 _ Try.func16 (by kernel_rfl) (by kernel_rfl) [.tmp 14] #[23] rfl [.pointer (some ⟨g, 0, none⟩)] (by simp [Act.eval, Act.put]) (cN.out w.drew ((Old.refl' w).drew')) ?_
    rintro e w1 ⟨rfl, rfl⟩
    refine ⟨_, rfl, .inr fun h => h, ?_⟩
    refine wpAnyZ_all (rs := [10]) (by kernel_rfl) (by simp) ?_
    intro j hj
    simp only [List.mem_cons, List.not_mem_nil, or_false] at hj
    subst hj
    refine wpOp_call rfl rfl 14 _ Try.func14 (by kernel_rfl) (by kernel_rfl) [.tmp 6, .tmp 13, .tmp 15] #[23, 3, 3] rfl [.pointer (some ⟨g, 0, none⟩), .int .i64 k, .int .i64 n] (by simp [Act.eval, Act.put]) (cF.out w.drew ((Old.refl' w).drew')) ?_
    rintro e w2 ⟨A', c', rfl, ho, hb⟩
    have hb' : Old w w2 := ((Old.refl' w).drew').trans' hb
    refine ⟨_, rfl, .inr fun h => ⟨(hb'.cell (p := ⟨g, 0, none⟩) hgl).trans k0, (hb'.cell (p := ⟨ga, 0, none⟩) hga).trans c0⟩, ?_⟩
    refine wpAnyZ_all (rs := [11]) (by kernel_rfl) (by simp) ?_
    intro j hj
    simp only [List.mem_cons, List.not_mem_nil, or_false] at hj
    subst hj
    refine wpOp_mk rfl rfl ?_
    go_simp
    refine ⟨fun h0 h1 => ⟨h0, h1⟩, ?_⟩
    refine wpAnyZ_done (by kernel_rfl) ?_ _
    go_wp2
    go_ret
    exact ⟨A', c', rfl, ho, hb'⟩
end Go.Proofs.Ytidokbgdbakjkaa
