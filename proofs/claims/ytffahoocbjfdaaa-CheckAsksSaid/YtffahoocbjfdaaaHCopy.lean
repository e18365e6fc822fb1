/- copy onto a row that the call owns (elements of one cell); append of zeros where it must grow; overlaps of two blocks. No program. -/
import Derived.Laws.CopyOwn
import Derived.Laws.Externs
import Derived.Lib.Overlaps
import Derived.Lib.AppendZeros
import Derived.Lib.AppendZerosOnto
import Derived.Test.YtffahoocbjfdaaaHBs
namespace Go.Proofs.Ytffahoocbjfdaaa
open Go.RowKit
section
variable {P : Program} {w w' : World} {base : Nat} {e : TypeId} {g n cap : Nat} {xs : List Value}
def over (xs : List Value) (off : Nat) (cs : List Value) : List Value := xs.take off ++ (cs ++ xs.drop (off + cs.length))
theorem over_nil (xs : List Value) (off : Nat) : over xs off [] = xs := by simp [over]
theorem wp_copy_own' {o : Oper} {a : Act} {K : Act → World → Prop} {Q : Exit → Act → World → Prop} (d s : Operand) (t : TypeId)
    (ho : o.op = .call { callee := .builtin .copy, args := #[d, s], argTypes := #[t, t] }) (ht : P.underlying t = some (.slice e)) (hsz : (P.info? e).map (·.size) = some 1)
    (dp sp : Option Addr) (dLen dCap sLen sCap : Nat) (hd : a.eval d = .slice dp dLen dCap) (hs : a.eval s = .slice sp sLen sCap)
    (hown : w.ownsRow base e 1 (.slice (some ⟨g, 0, none⟩) n cap) n xs) (off : Nat) (cs : List Value) (hn : cs.length = Nat.min sLen dLen)
    (hdp : 0 < cs.length → dp = some ⟨g, off, none⟩) (hsp : CellsAt w sp cs) (hfit : off + cs.length ≤ n) (h1 : ∀ v ∈ cs, v.oneCell' = true)
    (ys : List Value) (hy : over xs off cs = ys)
    (h : ∀ w', w'.ownsRow base e 1 (.slice (some ⟨g, 0, none⟩) n cap) n ys → Fr (fun k => k = g) w w' → K (a.put o.dst (goInt cs.length)) w') : o.wp P a w K Q := by
  subst hy
  by_cases h0 : cs.length = 0
  · obtain rfl : cs = [] := List.eq_nil_of_length_eq_zero h0
    have hr := run_copy_none (P := P) w t t o.type e dp sp dLen dCap sLen sCap ht hsz (by simpa using hn.symm)
    unfold Oper.wp execOp
    simp only [ho, resolve, invoke, builtin, Sem.run_bind, Sem.run_pure, Result.andThen_ok, List.map_toArray, List.map_cons, List.map_nil, hd, hs, hr]
    exact h w (by rw [over_nil]; exact hown) (Fr.refl _ _)
  · obtain rfl := hdp (by omega)
    obtain ⟨b, so, rfl, hb, hc⟩ := hsp (by rintro rfl; simp at h0)
    obtain ⟨hbg, hnc, hcm, cur, hg, hcs, htk⟩ := own_some hown
    rw [Nat.mul_one] at hcs htk
    have hsrc : ∀ j v, cs[j]? = some v → w.cell? ((⟨b, so, none⟩ : Addr).add j) = some v := fun j v hj => by rw [add_mk]; exact hc j v hj
    have hr := run_copy_row (P := P) w t t o.type e g off dLen dCap ⟨b, so, none⟩ sLen sCap cur e cs ht hsz hg hn hsrc (by omega) h1
    unfold Oper.wp execOp
    simp only [ho, resolve, invoke, builtin, Sem.run_bind, Sem.run_pure, Result.andThen_ok, List.map_toArray, List.map_cons, List.map_nil, hd, hs, hr]
    refine h _ (own_mk hbg hnc hcm (setRow_heap w g cur _ e _ hg) ?_ ?_) ⟨rfl, rfl, rfl, by simp, fun k _ hk => setRow_other w g k _ hk⟩
    · simp only [List.size_toArray, List.length_append, List.length_take, List.length_drop, Array.length_toList]
      omega
    · rw [Nat.mul_one, ← htk]
      simp only [over, List.append_assoc]
      have e1 : off ≤ cur.toList.length := by rw [Array.length_toList]; omega
      rw [List.take_append, List.length_take, Nat.min_eq_left e1, List.take_append, List.take_of_length_le (show cs.length ≤ n - off by omega), List.take_take, List.take_take, List.drop_take]
      rw [Nat.min_eq_right (show off ≤ n by omega), Nat.min_eq_left (show off ≤ n by omega)]
      rw [show n - off - cs.length = n - (off + cs.length) from by omega]
theorem wpList_copy_at {ops : Array Oper} {rest : List Oper} {dst : Option Tmp} {ty : TypeId} {pos : String} {af : Array Edge} {a : Act} {Q : Exit → Act → World → Prop} (d s : Operand) (t : TypeId)
    (ht : P.underlying t = some (.slice e)) (hsz : (P.info? e).map (·.size) = some 1)
    (dp sp : Option Addr) (dLen dCap sLen sCap : Nat)
    (hown : w.ownsRow base e 1 (.slice (some ⟨g, 0, none⟩) n cap) n xs) (off : Nat) (cs : List Value) (hsp : CellsAt w sp cs) (h1 : ∀ v ∈ cs, v.oneCell' = true)
    (ys : List Value) (hd : a.eval d = .slice dp dLen dCap) (hs : a.eval s = .slice sp sLen sCap) (hn : cs.length = Nat.min sLen dLen)
    (hdp : 0 < cs.length → dp = some ⟨g, off, none⟩) (hfit : off + cs.length ≤ n) (hy : over xs off cs = ys)
    (h : ∀ w', w'.ownsRow base e 1 (.slice (some ⟨g, 0, none⟩) n cap) n ys → Fr (fun k => k = g) w w' → wpList P ops Q rest (a.put dst (goInt cs.length)) w') :
    wpList P ops Q (⟨dst, .call { callee := .builtin .copy, args := #[d, s], argTypes := #[t, t] }, ty, pos, af, none⟩ :: rest) a w :=
  wpList_plain rfl fun _ hK => wp_copy_own' d s t rfl ht hsz dp sp dLen dCap sLen sCap hd hs hown off cs hn hdp hsp hfit h1 ys hy fun w' h2 h3 => hK _ _ (h w' h2 h3)
theorem step_copy_own {ops : Array Oper} {o : Oper} {a : Act} {K : Act → World → Prop} {Q : Exit → Act → World → Prop} {E : Prop} (hgd : o.guard = none) (d s : Operand) (t : TypeId)
    (ho : o.op = .call { callee := .builtin .copy, args := #[d, s], argTypes := #[t, t] }) (ht : P.underlying t = some (.slice e)) (hsz : (P.info? e).map (·.size) = some 1)
    (dp sp : Option Addr) (dLen dCap sLen sCap : Nat) (hd : a.eval d = .slice dp dLen dCap) (hs : a.eval s = .slice sp sLen sCap)
    (hown : w.ownsRow base e 1 (.slice (some ⟨g, 0, none⟩) n cap) n xs) (off : Nat) (cs : List Value) (hn : cs.length = Nat.min sLen dLen)
    (hdp : 0 < cs.length → dp = some ⟨g, off, none⟩) (hsp : CellsAt w sp cs) (hfit : off + cs.length ≤ n) (h1 : ∀ v ∈ cs, v.oneCell' = true)
    (ys : List Value) (hy : over xs off cs = ys)
    (h : ∀ w', w'.ownsRow base e 1 (.slice (some ⟨g, 0, none⟩) n cap) n ys → Fr (fun k => k = g) w w' → K (a.put o.dst (goInt cs.length)) w') :
    if Region.wanted o (yielded ops a.tmps) = true then Oper.wp P o a w K Q else E := by
  have hw : Region.wanted o (yielded ops a.tmps) = true := by simp [Region.wanted, hgd]
  rw [if_pos hw]
  exact wp_copy_own' d s t ho ht hsz dp sp dLen dCap sLen sCap hd hs hown off cs hn hdp hsp hfit h1 ys hy h
theorem run_zeros (t tn ty : TypeId) (i : TypeInfo) (z : Value) (bytes : Nat) (kq kn : IntKind) (ht : P.underlying t = some (.slice e)) (htn : P.underlying tn = some (.int kn)) (hi : P.info? e = some i) (hz : i.zero = some z)
    (hsize : i.size = 1) (hby : i.bytes = bytes) (hzc : z.cells = #[z])
    (hown : w.ownsRow base e 1 (.slice (some ⟨g, 0, none⟩) n cap) n xs) (k : Nat) (h0 : 0 < k) (hg : cap < n + k) (h63 : n + k ≤ maxLen) (hbytes : (n + k) * bytes ≤ 140737488355328) (hbase : base ≤ w.heap.size) :
    ∃ c' w', (Builtin.append_ #[t, tn] ty #[.slice (some ⟨g, 0, none⟩) n cap, .int kq k]).run P w = .ok (.slice (some ⟨w.heap.size, 0, none⟩) (n + k) c') w' ∧
      w'.ownsRow base e 1 (.slice (some ⟨w.heap.size, 0, none⟩) (n + k) c') (n + k) (xs ++ List.replicate k z) ∧ Old w w' := by
  have hnews : ∀ j u, xs[j]? = some u → w.drew.cell? ((⟨g, 0, none⟩ : Addr).add j) = some u := fun j u hj => by
    rw [add_mk, Nat.zero_add]
    exact own_cells hown j u hj
  have hxl : xs.length = n := by have := hown.1; omega
  have hold := run_firstCells_some (P := P) w.drew i.size n ⟨g, 0, none⟩ n cap xs (by rw [hsize]; omega) hnews
  have h63' : n + k ≤ 9223372036854775807 := by unfold maxLen at h63; omega
  have hr := Lib.run_append_grow_zeros (P := P) w t tn ty e i z kq kn ht htn hi hz (some ⟨g, 0, none⟩) n cap xs hold k h0 (by omega) hg (by omega) (by rw [hby]; have := Nat.mul_le_mul_right bytes (show k ≤ n + k by omega); omega) (growslice_fits (by omega) (by rw [hby]; exact hbytes))
  have hge := grownCap_ge w (n + k) cap e
  have hle := grownCap_le_maxLen w (n + k) cap e h63
  have hz1 : ∀ m, Builtin.zeroCells z.cells m = (List.replicate m z).toArray := fun m => by
    rw [hzc]
    apply Array.ext'
    apply List.ext_getElem
    · simp [Builtin.zeroCells]
    · intro i h1 h2
      simp [Builtin.zeroCells, Nat.mod_one]
  refine ⟨_, _, hr, own_mk hbase hge hle (heap_alloc_new w.drew _) ?_ ?_, ((Old.refl' w).drew').alloc' _⟩
  · rw [hz1, hz1]
    simp
    omega
  · rw [hz1, hz1, Nat.mul_one]
    simp
    rw [List.take_append, hxl, List.take_of_length_le (by omega), show n + k - n = k from by omega, List.take_replicate, Nat.min_eq_left (by omega)]
theorem own_more (hown : w.ownsRow base e 1 (.slice (some ⟨g, 0, none⟩) n cap) n xs) (hc : n + 1 ≤ cap) : ∃ y, w.ownsRow base e 1 (.slice (some ⟨g, 0, none⟩) (n + 1) cap) (n + 1) (xs ++ [y]) := by
  obtain ⟨hbg, hnc, hcm, cur, hg, hcs, htk⟩ := own_some hown
  rw [Nat.mul_one] at hcs htk
  have hlt : n < cur.toList.length := by rw [Array.length_toList]; omega
  refine ⟨cur.toList[n], own_mk hbg hc hcm hg (by omega) ?_⟩
  rw [Nat.mul_one, List.take_succ_eq_append_getElem hlt, htk]
theorem run_apart (f : FuncId) (fn : Func) (tr : TypeId) (t : TypeId) (hf : P.funcs[f]? = some fn) (hname : (fn.name == "runtime.NumGoroutine") = false) (hb : fn.body.isNone = true) (hn : Extern.findNext fn = none)
    (he : Extern.find fn = some (Extern.SlicesOverlaps.overlaps #[t, t] #[tr])) (ht : P.underlying t = some (.slice e)) (hz : ∀ w, (Go.sizeOf e).run P w = .ok 1 w)
    {gb : Nat} {te tb : TypeId} {cs cb : Array Value} (hA : Bk w gb tb cb) (hB : Bk w g te cs) (hne : gb ≠ g) (hk : cs.size ≠ 0) (o1 o2 la ca lb cb' : Nat) :
    (callFunc f #[.slice (some ⟨gb, o1, none⟩) la ca, .slice (some ⟨g, o2, none⟩) lb cb']).run P w = .ok (.value (.bool false)) w := by
  rw [run_callFunc_extern hf hname hb hn he,
    Lib.run_overlaps_apart w t tr e ht 1 hz ⟨gb, o1, none⟩ ⟨g, o2, none⟩ la ca lb cb' hne tb te cb.size cs.size (by unfold World.shape?; rw [show w.heap[gb]? = _ from hA]) (by unfold World.shape?; rw [show w.heap[g]? = _ from hB]) hk (hA.frozen _) (hA.frozen _)]
  rfl
end
end Go.Proofs.Ytffahoocbjfdaaa
