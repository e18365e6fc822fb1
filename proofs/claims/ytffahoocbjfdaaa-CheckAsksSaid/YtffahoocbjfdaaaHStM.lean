/- What a store is: its numbers, resources, sessions; what Put and Ask come to; its bytes. No program. -/
import Derived.Test.YtffahoocbjfdaaaHBk
import Derived.Test.YtffahoocbjfdaaaHTold0
import Derived.Test.YtffahoocbjfdaaaHMay
import Derived.Test.YtffahoocbjfdaaaHWr
namespace Go.Proofs.Ytffahoocbjfdaaa
open Go.RowKit
structure Sess where
  seq : Int
  place : Nat
  rep : Rep
def Rep.zero : Rep := ⟨0, 0, ByteArray.empty, []⟩
def Sess.zero : Sess := ⟨0, 0, Rep.zero⟩
structure StV where
  quota : Int
  n : Nat
  f : Int → List Ver
  ss : Int → Sess
def StV.new (quota : Int) : StV := ⟨quota, 0, fun _ => [], fun _ => Sess.zero⟩
structure Q where
  client : Int
  seq : Int
  kind : Int
  id : Int
  mat : Int
  data : ByteArray
def Q.v (q : Q) : Value := .agg #[.int .i64 q.client, .int .i64 q.seq, .int .i64 q.kind, .int .i64 q.id, .int .i64 q.mat, .string q.data]
def Q.may (q : Q) : Bool := mayQ q.client q.seq q.kind q.id q.mat q.data
def StV.doL (s : StV) (q : Q) : List Ver := Ytffahoocbjfdaaa.doL (s.f q.id) q.kind q.mat s.quota q.data
def StV.doRep (s : StV) (q : Q) : Rep := Ytffahoocbjfdaaa.doRep (s.f q.id) q.kind q.mat s.quota q.data
def StV.done (s : StV) (q : Q) : StV := ⟨s.quota, s.n + 1, fun i => if i = q.id then s.doL q else s.f i, fun c => if c = q.client then ⟨q.seq, s.n + 1, s.doRep q⟩ else s.ss c⟩
def StV.may (s : StV) (q : Q) : Bool := q.may && Writes q.kind && decide ((s.ss q.client).seq < q.seq)
def StV.put (s : StV) (q : Q) : StV := if s.may q then s.done q else s
def StV.err (s : StV) (q : Q) : Int := if q.may && Writes q.kind then (if (s.ss q.client).seq < q.seq then 0 else 9) else 1
def StV.rep (s : StV) (q : Q) : Rep := if s.may q then s.doRep q else Rep.zero
def askOk (q : Q) : Bool := q.may && !Writes q.kind
def StV.ask (s : StV) (q : Q) : Rep := if askOk q then askR (s.f q.id) q.kind q.mat else Rep.zero
def ksOf (f : Int → List Ver) : List Int := ((List.range 32).map Int.ofNat).filter fun i => decide (f i ≠ [])
theorem ksOf_mem {f : Int → List Ver} {k : Int} : k ∈ ksOf f ↔ (0 ≤ k ∧ k ≤ 31) ∧ f k ≠ [] := by
  unfold ksOf
  simp only [List.mem_filter, List.mem_map, List.mem_range, decide_eq_true_eq]
  constructor
  · rintro ⟨⟨n, hn, rfl⟩, h⟩
    exact ⟨⟨by simp, by simp; omega⟩, h⟩
  · rintro ⟨⟨h1, h2⟩, h⟩
    exact ⟨⟨k.toNat, by omega, by simp; omega⟩, h⟩
theorem ksOf_rise (f : Int → List Ver) : (ksOf f).Pairwise (· < ·) := by
  unfold ksOf
  refine List.Pairwise.filter _ ?_
  rw [List.pairwise_map]
  exact List.pairwise_lt_range.imp fun h => by simpa using h
theorem ksOf_length (f : Int → List Ver) : (ksOf f).length ≤ 32 := by
  unfold ksOf
  refine Nat.le_trans (List.length_filter_le _ _) ?_
  simp
theorem ksOf_put {f : Int → List Ver} {id : Int} {l : List Ver} (h : 0 ≤ id ∧ id ≤ 31) (hl : l ≠ []) : putK (ksOf f) id = ksOf (fun i => if i = id then l else f i) := by
  refine rise_ext (rise_putK (ksOf_rise f) id) (ksOf_rise _) fun x => ?_
  rw [mem_putK, ksOf_mem, ksOf_mem]
  by_cases hx : x = id
  · subst hx; simp [h, hl]
  · simp [hx]
theorem putV_at {α : Type} {ks : List Int} (hr : ks.Pairwise (· < ·)) {us : List α} (hl : us.length = ks.length) {id : Int} {u : α} {i : Nat} {k : Int} {v : α} (hk : (putK ks id)[i]? = some k) (hv : (putV ks us id u)[i]? = some v) :
    (k = id ∧ v = u) ∨ ∃ j : Nat, ks[j]? = some k ∧ us[j]? = some v ∧ k ≠ id := by
  unfold putK at hk
  unfold putV at hv
  by_cases hm : id ∈ ks
  · rw [if_pos hm] at hk hv
    obtain ⟨hlt, hat⟩ := plc_lt hr hm
    by_cases hi : i = plc ks id
    · subst hi
      rw [List.getElem?_eq_getElem hlt] at hat hk
      simp at hat hk
      rw [List.getElem?_set_self (by omega)] at hv
      injection hv with hv
      exact .inl ⟨by omega, hv.symm⟩
    · rw [List.getElem?_set_ne (Ne.symm hi)] at hv
      refine .inr ⟨i, hk, hv, fun e => hi ?_⟩
      subst e
      have hil := (List.getElem?_eq_some_iff.1 hk).1
      have h1 : ks[i]'hil = k := (List.getElem?_eq_some_iff.1 hk).2
      rw [List.getElem?_eq_getElem hlt] at hat
      simp at hat
      rcases Nat.lt_trichotomy i (plc ks k) with h | h | h
      · have := List.pairwise_iff_getElem.1 hr i (plc ks k) hil hlt h; omega
      · exact h
      · have := List.pairwise_iff_getElem.1 hr (plc ks k) i hlt hil h; omega
  · rw [if_neg hm] at hk hv
    have hp := plc_le hr id
    have hne : ∀ {j : Nat}, ks[j]? = some k → k ≠ id := fun {j} h e => hm (e ▸ List.mem_of_getElem? h)
    rcases Nat.lt_trichotomy i (plc ks id) with h | h | h
    · rw [List.getElem?_append_left (by simp; omega), List.getElem?_take_of_lt h] at hk hv
      exact .inr ⟨i, hk, hv, hne hk⟩
    · subst h
      rw [List.getElem?_append_right (by simp; omega)] at hk hv
      have e1 : plc ks id - (ks.take (plc ks id)).length = 0 := by simp; omega
      have e2 : plc ks id - (us.take (plc ks id)).length = 0 := by simp; omega
      rw [e1] at hk
      rw [e2] at hv
      simp at hk hv
      exact .inl ⟨hk.symm, hv.symm⟩
    · have e1 : (ks.take (plc ks id)).length = plc ks id := by simp; omega
      have e2 : (us.take (plc ks id)).length = plc ks id := by simp; omega
      rw [List.getElem?_append_right (by omega), e1, List.getElem?_append_right (by simp; omega)] at hk
      rw [List.getElem?_append_right (by omega), e2, List.getElem?_append_right (by simp; omega)] at hv
      simp only [List.length_cons, List.length_nil, List.getElem?_drop] at hk hv
      exact .inr ⟨_, hk, hv, hne hk⟩
def verB (v : Ver) : List Int := yesB v.1 ++ textB v.2
def sesB (x : Sess) : List Int := numB x.seq.toNat ++ numB x.place
def tabB (f : Int → List Ver) (k : Int) : List Int := numB k.toNat ++ numB (f k).length ++ (f k).flatMap verB
def StV.bytes (s : StV) : List Int := numB s.n ++ (sesB (s.ss 0) ++ sesB (s.ss 1) ++ sesB (s.ss 2) ++ sesB (s.ss 3)) ++ (ksOf s.f).flatMap (tabB s.f)
end Go.Proofs.Ytffahoocbjfdaaa
