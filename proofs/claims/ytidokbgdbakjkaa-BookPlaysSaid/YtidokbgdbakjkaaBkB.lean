/- book.Book: Put, Get, Del, Len as joined contracts over lists. -/
import Derived.Test.YtidokbgdbakjkaaTabQ
import Derived.Test.YtidokbgdbakjkaaTabD
import Derived.Test.YtidokbgdbakjkaaTabE
import Derived.Test.YtidokbgdbakjkaaTabB
import Derived.Test.YtidokbgdbakjkaaBkL
namespace Go.Proofs.Ytidokbgdbakjkaa
open Go.RowKit

/-- a book: keys ks, values us; S: the blocks that its doings may turn -/
def BookAt (w : World) (base g : Nat) (S : Nat → Prop) (ks us : List Int) : Prop :=
  ∃ A ck B cv, TabAt w base g 0 (.slice A ks.length ck) (.slice B ks.length cv) ks (us.map (Value.int .i64)) ∧ S = Foot g (.slice A ks.length ck) (.slice B ks.length cv)

section
variable {w w' : World} {base g : Nat} {S T : Nat → Prop} {ks us : List Int}
theorem BookAt.rise (h : BookAt w base g S ks us) : ks.Pairwise (· < ·) := by
  obtain ⟨_, _, _, _, h, _⟩ := h
  exact h.rise
theorem BookAt.len (h : BookAt w base g S ks us) : us.length = ks.length := by
  obtain ⟨_, _, _, _, h, _⟩ := h
  have := h.vo.1
  simpa using this
theorem BookAt.foot (h : BookAt w base g S ks us) {k : Nat} (hk : S k) : base ≤ k ∧ k < w.heap.size := by
  obtain ⟨_, _, _, _, h, rfl⟩ := h
  rcases hk with rfl | hk | hk
  · exact ⟨h.low, h.lt⟩
  · exact h.ko.lt k hk
  · exact h.vo.lt k hk
theorem BookAt.self (h : BookAt w base g S ks us) : S g := by
  obtain ⟨_, _, _, _, h, rfl⟩ := h
  exact .inl rfl
theorem BookAt.fr (h : BookAt w base g S ks us) (hf : Fr T w w') (hd : ∀ k, S k → ¬ T k) : BookAt w' base g S ks us := by
  obtain ⟨A, ck, B, cv, h, rfl⟩ := h
  refine ⟨A, ck, B, cv, ?_, rfl⟩
  have hg := hd g (.inl rfl)
  exact ⟨(hf.cell (p := ⟨g, 0, none⟩) h.lt hg).trans h.k0, (hf.cell (p := ⟨g, 0 + 1, none⟩) h.lt hg).trans h.v0, (hf.frozen (p := ⟨g, 0, none⟩) h.lt hg).trans h.fk, (hf.frozen (p := ⟨g, 0 + 1, none⟩) h.lt hg).trans h.fv,
    own_fr h.ko hf (fun k hk => hd k (.inr (.inl hk))), own_fr h.vo hf (fun k hk => hd k (.inr (.inr hk))), h.one, h.ne, h.kg, h.vg, h.low, Nat.lt_of_lt_of_le h.lt hf.size, h.rise⟩
theorem BookAt.old (h : BookAt w base g S ks us) (hf : Old w w') : BookAt w' base g S ks us := h.fr (T := fun _ => False) (Fr.of_old hf) (fun _ _ h => h)
theorem BookAt.drewN (h : BookAt w base g S ks us) (n : Nat) : BookAt (w.drewN n) base g S ks us := h.old ((Old.refl' w).drewN' n)
theorem BookAt.drew (h : BookAt w base g S ks us) : BookAt w.drew base g S ks us := h.old ((Old.refl' w).drew')
theorem BookAt.alloc (h : BookAt w base g S ks us) (o : Obj) : BookAt (w.alloc o) base g S ks us := h.old ((Old.refl' w).alloc' o)
/-- what was there ahead of the base is as it was -/
theorem BookAt.kept {w0 : World} (h : BookAt w w0.heap.size g S ks us) (hf : Fr S w w') (hb : Old w0 w) : Old w0 w' := Old.fr_new hb hf fun _ hk => (h.foot hk).1
theorem NewB (w : World) {base : Nat} (hb : base ≤ w.heap.size) : BookAt (w.alloc (.cells #[.slice none 0 0, .slice none 0 0] 48)) base w.heap.size (fun k => k = w.heap.size) [] [] :=
  ⟨none, 0, none, 0, New_tab w hb, by funext k; simp [Foot, Value.ownBlock]⟩
end

theorem getMap {us : List Int} {i : Nat} (h : i < us.length) : (us.map (Value.int .i64))[i]? = some (.int .i64 (us[i]?.getD 0)) := by
  rw [List.getElem?_map, List.getElem?_eq_getElem h]; rfl

theorem LenB (base g : Nat) (S : Nat → Prop) (ks us : List Int) (n : Nat) (hn : ks.length = n) (w : World) (h : BookAt w base g S ks us) :
    Calls Try.prog 16 #[.pointer (some ⟨g, 0, none⟩)] w fun e w' => e = .returned (.int .i64 n) ∧ w = w' := by
  subst hn
  obtain ⟨A, ck, B, cv, h, rfl⟩ := h
  exact BLen base g _ ck cv A B ks _ w h

theorem GetB (base g : Nat) (S : Nat → Prop) (ks us : List Int) (key : Int) (hn : ks.length ≤ 99999) (w : World) (h : BookAt w base g S ks us) :
    Calls Try.prog 12 #[.pointer (some ⟨g, 0, none⟩), .int .i64 key] w fun e w' => e = .returned (.tuple #[.int .i64 (getV ks us key), .bool (decide (key ∈ ks))]) ∧ w = w' := by
  have hl := h.len
  have hr := h.rise
  obtain ⟨A, ck, B, cv, h, rfl⟩ := h
  have hp := plc_place hr key
  have hf := found_iff hr hp
  by_cases hm : key ∈ ks
  · obtain ⟨h1, h2⟩ := plc_lt hr hm
    refine BGet base g _ _ ks _ key _ _ w h ?_
    simp only [getV, hm, if_true, decide_true]
    exact TGet_yes base g 0 (plc ks key) ks.length ck cv A B ks _ key _ rfl (by omega) hp h1 h2 (getMap (by rw [hl]; exact h1)) w h
  · refine BGet base g _ _ ks _ key _ _ w h ?_
    rw [decide_eq_false hm] at hf
    simp only [getV, hm, if_false, decide_false]
    exact TGet_no base g 0 (plc ks key) ks.length ck cv A B ks _ key rfl (by omega) hp hf w h

theorem PutB (base g : Nat) (S : Nat → Prop) (ks us : List Int) (key v : Int) (hn : ks.length ≤ 99999) (w : World) (h : BookAt w base g S ks us) :
    Calls Try.prog 9 #[.pointer (some ⟨g, 0, none⟩), .int .i64 key, .int .i64 v] w fun e w' => e = .returned (.tuple #[.int .i64 (getV ks us key), .bool (decide (key ∈ ks))]) ∧
      (∃ S', BookAt w' base g S' (putK ks key) (putV ks us key v) ∧ ∀ k, S' k → S k ∨ w.heap.size ≤ k) ∧ Fr S w w' := by
  have hl := h.len
  have hr := h.rise
  obtain ⟨A, ck, B, cv, h, rfl⟩ := h
  have hp := plc_place hr key
  have hf := found_iff hr hp
  by_cases hm : key ∈ ks
  · obtain ⟨h1, h2⟩ := plc_lt hr hm
    refine BPut g key v _ _ (fun w' => (∃ S', BookAt w' base g S' (putK ks key) (putV ks us key v) ∧ ∀ k, S' k → Foot g (.slice A ks.length ck) (.slice B ks.length cv) k ∨ w.heap.size ≤ k) ∧ Fr (Foot g (.slice A ks.length ck) (.slice B ks.length cv)) w w') w ?_
    refine (Put_old base g 0 (plc ks key) ks.length ck cv A B ks _ key v (.int .i64 (us[plc ks key]?.getD 0)) rfl (by omega) hp h1 h2 (getMap (by rw [hl]; exact h1)) w h).mono ?_
    rintro e w' ⟨rfl, ht, hfr⟩
    refine ⟨by simp [getV, hm], ⟨_, ⟨A, ck, B, cv, ?_, rfl⟩, ?_⟩, hfr⟩
    · simp only [putK, putV, hm, if_true]
      rw [List.map_set]
      exact ht
    · intro k hk
      simp only [putK, hm, if_true] at hk
      exact .inl hk
  · refine BPut g key v _ _ (fun w' => (∃ S', BookAt w' base g S' (putK ks key) (putV ks us key v) ∧ ∀ k, S' k → Foot g (.slice A ks.length ck) (.slice B ks.length cv) k ∨ w.heap.size ≤ k) ∧ Fr (Foot g (.slice A ks.length ck) (.slice B ks.length cv)) w w') w ?_
    rw [decide_eq_false hm] at hf
    refine (Put_new base g 0 (plc ks key) ks.length ck cv A B ks _ key v rfl hn hp hf w h).mono ?_
    rintro e w' ⟨A', c', B', d', rfl, ht, hfr, hnew⟩
    have hlen : (putK ks key).length = ks.length + 1 := by rw [len_putK hr, if_neg hm]
    refine ⟨by simp [getV, hm], ⟨_, ⟨A', c', B', d', ?_, rfl⟩, ?_⟩, hfr⟩
    · rw [hlen]
      simp only [putK, putV, hm, if_false]
      simpa only [List.map_append, List.map_take, List.map_drop, List.map_cons, List.map_nil] using ht
    · rw [hlen]
      exact hnew

theorem DelB (base g : Nat) (S : Nat → Prop) (ks us : List Int) (key : Int) (hn : ks.length ≤ 99999) (w : World) (h : BookAt w base g S ks us) :
    Calls Try.prog 13 #[.pointer (some ⟨g, 0, none⟩), .int .i64 key] w fun e w' => e = .returned (.bool (decide (key ∈ ks))) ∧
      (∃ S', BookAt w' base g S' (delR ks ks key) (delR ks us key) ∧ ∀ k, S' k → S k ∨ w.heap.size ≤ k) ∧ Fr S w w' := by
  have hl := h.len
  have hr := h.rise
  have hself := h
  obtain ⟨A, ck, B, cv, h, rfl⟩ := h
  have hp := plc_place hr key
  have hf := found_iff hr hp
  by_cases hm : key ∈ ks
  · obtain ⟨h1, h2⟩ := plc_lt hr hm
    obtain ⟨ga, ca, ea, _, _⟩ := h.ko.form (by omega)
    injection ea with ea1 _ ea3
    subst ea1 ea3
    obtain ⟨gb, cb, eb, _, _⟩ := h.vo.form (by omega)
    injection eb with eb1 _ eb3
    subst eb1 eb3
    refine BDel g key _ (fun w' => (∃ S', BookAt w' base g S' (delR ks ks key) (delR ks us key) ∧ ∀ k, S' k → Foot g (.slice (some ⟨ga, 0, none⟩) ks.length ck) (.slice (some ⟨gb, 0, none⟩) ks.length cv) k ∨ w.heap.size ≤ k) ∧ Fr (Foot g (.slice (some ⟨ga, 0, none⟩) ks.length ck) (.slice (some ⟨gb, 0, none⟩) ks.length cv)) w w') w ?_
    refine (Del_yes base g 0 (plc ks key) ks.length ck cv ga gb ks _ key rfl hn hp h1 h2 w h).mono ?_
    rintro e w' ⟨rfl, ht, hfr, hnew⟩
    have hlen : (delR ks ks key).length = ks.length - 1 := by
      simp only [delR, hm, if_true, List.length_append, List.length_take, List.length_drop]
      omega
    refine ⟨by simp [hm], ⟨_, ⟨some ⟨ga, 0, none⟩, ck, some ⟨gb, 0, none⟩, cv, ?_, rfl⟩, ?_⟩, hfr⟩
    · rw [hlen]
      simp only [delR, hm, if_true]
      simpa only [List.map_append, List.map_take, List.map_drop] using ht
    · rw [hlen]
      intro k hk
      exact hnew k hk
  · refine BDel g key _ (fun w' => (∃ S', BookAt w' base g S' (delR ks ks key) (delR ks us key) ∧ ∀ k, S' k → Foot g (.slice A ks.length ck) (.slice B ks.length cv) k ∨ w.heap.size ≤ k) ∧ Fr (Foot g (.slice A ks.length ck) (.slice B ks.length cv)) w w') w ?_
    rw [decide_eq_false hm] at hf
    refine (Del_no base g 0 (plc ks key) ks.length ck cv A B ks _ key rfl (by omega) hp hf w h).mono ?_
    rintro e w' ⟨rfl, rfl⟩
    simp only [delR, hm, if_false, decide_false]
    exact ⟨trivial, ⟨_, hself, fun k hk => .inl hk⟩, Fr.refl _ _⟩
end Go.Proofs.Ytidokbgdbakjkaa
