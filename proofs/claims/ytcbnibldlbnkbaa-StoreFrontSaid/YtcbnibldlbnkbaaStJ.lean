/- store.Store.Bytes. -/
import Derived.Test.YtcbnibldlbnkbaaStI
import Derived.Test.YtcbnibldlbnkbaaWs
import Derived.Test.YtcbnibldlbnkbaaLoadAt
namespace Go.Proofs.Ytcbnibldlbnkbaa
open Go.RowKit Go.Shelf

attribute [local go_sem] Oper.semAt_some

theorem ix_ses0 (a0 a1 a2 a3 a4 a5 a6 a7 a8 a9 a10 a11 a12 a13 a14 a15 a16 a17 a18 a19 a20 a21 a22 a23 : Value) (w : World) : (Instr.index 67 (.agg #[a0, a1, a2, a3, a4, a5, a6, a7, a8, a9, a10, a11, a12, a13, a14, a15, a16, a17, a18, a19, a20, a21, a22, a23]) (.int .i64 0)).run Try.prog w = .ok (.agg #[a0, a1, a2, a3, a4, a5]) w := by kernel_rfl
theorem ix_ses1 (a0 a1 a2 a3 a4 a5 a6 a7 a8 a9 a10 a11 a12 a13 a14 a15 a16 a17 a18 a19 a20 a21 a22 a23 : Value) (w : World) : (Instr.index 67 (.agg #[a0, a1, a2, a3, a4, a5, a6, a7, a8, a9, a10, a11, a12, a13, a14, a15, a16, a17, a18, a19, a20, a21, a22, a23]) (.int .i64 1)).run Try.prog w = .ok (.agg #[a6, a7, a8, a9, a10, a11]) w := by kernel_rfl
theorem ix_ses2 (a0 a1 a2 a3 a4 a5 a6 a7 a8 a9 a10 a11 a12 a13 a14 a15 a16 a17 a18 a19 a20 a21 a22 a23 : Value) (w : World) : (Instr.index 67 (.agg #[a0, a1, a2, a3, a4, a5, a6, a7, a8, a9, a10, a11, a12, a13, a14, a15, a16, a17, a18, a19, a20, a21, a22, a23]) (.int .i64 2)).run Try.prog w = .ok (.agg #[a12, a13, a14, a15, a16, a17]) w := by kernel_rfl
theorem ix_ses3 (a0 a1 a2 a3 a4 a5 a6 a7 a8 a9 a10 a11 a12 a13 a14 a15 a16 a17 a18 a19 a20 a21 a22 a23 : Value) (w : World) : (Instr.index 67 (.agg #[a0, a1, a2, a3, a4, a5, a6, a7, a8, a9, a10, a11, a12, a13, a14, a15, a16, a17, a18, a19, a20, a21, a22, a23]) (.int .i64 3)).run Try.prog w = .ok (.agg #[a18, a19, a20, a21, a22, a23]) w := by kernel_rfl

/-- the sessions as one value -/
theorem ses_arr {w : World} {g : Nat} {F : Nat → Prop} {s : StV} (h : StAt w g F s) : ∃ ARR : Array Value, (∀ (j : Nat) v, ARR[j]? = some v → w.cell? ⟨g, 4 + j, none⟩ = some v) ∧ ARR.size = 24 ∧
    ∀ k : Nat, k < 4 → ∃ A c, ∀ W, (Instr.index 67 (.agg ARR) (.int .i64 k)).run Try.prog W = .ok (.agg #[.int .i64 (s.ss k).seq, .int .i64 (s.ss k).place, .int .i64 (s.ss k).rep.code, .int .i64 (s.ss k).rep.ver, .string (s.ss k).rep.data, .slice A 0 c]) W := by
  obtain ⟨p0, p1, p2, p3, p4, -, A0, c0, p5⟩ := h.ses 0 (by omega)
  obtain ⟨q0, q1, q2, q3, q4, -, A1, c1, q5⟩ := h.ses 1 (by omega)
  obtain ⟨r0, r1, r2, r3, r4, -, A2, c2, r5⟩ := h.ses 2 (by omega)
  obtain ⟨t0, t1, t2, t3, t4, -, A3, c3, t5⟩ := h.ses 3 (by omega)
  refine ⟨#[.int .i64 (s.ss 0).seq, .int .i64 (s.ss 0).place, .int .i64 (s.ss 0).rep.code, .int .i64 (s.ss 0).rep.ver, .string (s.ss 0).rep.data, .slice A0 0 c0, .int .i64 (s.ss 1).seq, .int .i64 (s.ss 1).place, .int .i64 (s.ss 1).rep.code, .int .i64 (s.ss 1).rep.ver, .string (s.ss 1).rep.data, .slice A1 0 c1, .int .i64 (s.ss 2).seq, .int .i64 (s.ss 2).place, .int .i64 (s.ss 2).rep.code, .int .i64 (s.ss 2).rep.ver, .string (s.ss 2).rep.data, .slice A2 0 c2, .int .i64 (s.ss 3).seq, .int .i64 (s.ss 3).place, .int .i64 (s.ss 3).rep.code, .int .i64 (s.ss 3).rep.ver, .string (s.ss 3).rep.data, .slice A3 0 c3], fun j v hv => ?_, rfl, fun k hk => ?_⟩
  · match j, hv with
    | 0, hv => cases hv; exact p0
    | 1, hv => cases hv; exact p1
    | 2, hv => cases hv; exact p2
    | 3, hv => cases hv; exact p3
    | 4, hv => cases hv; exact p4
    | 5, hv => cases hv; exact p5
    | 6, hv => cases hv; exact q0
    | 7, hv => cases hv; exact q1
    | 8, hv => cases hv; exact q2
    | 9, hv => cases hv; exact q3
    | 10, hv => cases hv; exact q4
    | 11, hv => cases hv; exact q5
    | 12, hv => cases hv; exact r0
    | 13, hv => cases hv; exact r1
    | 14, hv => cases hv; exact r2
    | 15, hv => cases hv; exact r3
    | 16, hv => cases hv; exact r4
    | 17, hv => cases hv; exact r5
    | 18, hv => cases hv; exact t0
    | 19, hv => cases hv; exact t1
    | 20, hv => cases hv; exact t2
    | 21, hv => cases hv; exact t3
    | 22, hv => cases hv; exact t4
    | 23, hv => cases hv; exact t5
    | j + 24, hv => simp at hv
  · match k, hk with
    | 0, _ => exact ⟨A0, c0, fun W => ix_ses0 _ _ _ _ _ _ _ _ _ _ _ _ _ _ _ _ _ _ _ _ _ _ _ _ W⟩
    | 1, _ => exact ⟨A1, c1, fun W => ix_ses1 _ _ _ _ _ _ _ _ _ _ _ _ _ _ _ _ _ _ _ _ _ _ _ _ W⟩
    | 2, _ => exact ⟨A2, c2, fun W => ix_ses2 _ _ _ _ _ _ _ _ _ _ _ _ _ _ _ _ _ _ _ _ _ _ _ _ W⟩
    | 3, _ => exact ⟨A3, c3, fun W => ix_ses3 _ _ _ _ _ _ _ _ _ _ _ _ _ _ _ _ _ _ _ _ _ _ _ _ W⟩

structure StOk (s : StV) : Prop where
  seq : ∀ c, 0 ≤ (s.ss c).seq ∧ (s.ss c).seq ≤ 1073741824
  place : ∀ c, (s.ss c).place ≤ s.n
  data : ∀ k, ∀ v ∈ s.f k, v.2.size ≤ 64

def sesL (s : StV) (k : Nat) : List Int := (List.range k).flatMap fun (c : Nat) => sesB (s.ss (c : Int))
theorem sesL_succ (s : StV) (k : Nat) : sesL s (k + 1) = sesL s k ++ (numB (s.ss k).seq.toNat ++ numB (s.ss k).place) := by simp [sesL, List.range_succ, sesB]
theorem sesL_four (s : StV) : sesL s 4 = sesB (s.ss 0) ++ sesB (s.ss 1) ++ sesB (s.ss 2) ++ sesB (s.ss 3) := by simp [sesL, List.range_succ]
theorem sesL_len {s : StV} (h : StOk s) (hn : s.n ≤ 1000) (k : Nat) : (sesL s k).length ≤ k * 20 := by
  induction k with
  | zero => simp [sesL]
  | succ k ih =>
    rw [sesL_succ, List.length_append, List.length_append]
    have h1 := numB_len (s.ss k).seq.toNat (by have := h.seq k; omega)
    have h2 := numB_len (s.ss k).place (by have := h.place k; omega)
    omega
theorem verB_len {v : Ver} (h : v.2.size ≤ 64) : (verB v).length ≤ 75 := by
  unfold verB yesB textB
  simp only [List.length_append, List.length_cons, List.length_nil, numsOf_length]
  have := numB_len v.2.size (by omega)
  omega
theorem versB_len : ∀ {l : List Ver}, (∀ v ∈ l, v.2.size ≤ 64) → (l.flatMap verB).length ≤ l.length * 75
  | [], _ => by simp
  | v :: l, h => by
    have h1 := verB_len (h v (by simp))
    have h2 := versB_len (l := l) (fun u hu => h u (by simp [hu]))
    simp only [List.flatMap_cons, List.length_append, List.length_cons]
    omega
theorem tabB_len {s : StV} (h : StOk s) (hn : s.n ≤ 1000) (hf : ∀ k, (s.f k).length ≤ s.n) {k : Int} (hk : 0 ≤ k ∧ k ≤ 31) : (tabB s.f k).length ≤ 75020 := by
  unfold tabB
  simp only [List.length_append]
  have h1 := numB_len k.toNat (by omega)
  have h2 := numB_len (s.f k).length (by have := hf k; omega)
  have h3 := versB_len (h.data k)
  have h4 := hf k
  omega

set_option maxRecDepth 100000 in
set_option maxHeartbeats 2000000 in
theorem Bytes_in (g : Nat) (F : Nat → Prop) (s : StV) (hsn : s.n ≤ 1000) (hok : StOk s) (w : World) (h : StAt w g F s) :
    CallsIn Fence.wide 5 Try.prog 18 #[.pointer (some ⟨g, 0, none⟩)] w fun e W' => ∃ A c, e = .returned (.slice A s.bytes.length c) ∧ W'.ownsRow w.heap.size 5 1 (.slice A s.bytes.length c) s.bytes.length (u8s s.bytes) ∧ Old w W' := by
  have hbl : Bk ((w.alloc (.cells #[.slice none 0 0] 79)).alloc (.cells #[.pointer (some ⟨w.heap.size, 0, none⟩)] 77)) w.heap.size 79 #[.slice none 0 0] := (Bk.new w _ _).alloc _
  have hbx : Bk ((w.alloc (.cells #[.slice none 0 0] 79)).alloc (.cells #[.pointer (some ⟨w.heap.size, 0, none⟩)] 77)) (w.heap.size + 1) 77 #[.pointer (some ⟨w.heap.size, 0, none⟩)] := bk_new1 _ _ _ _
  have hO0 : Old w ((w.alloc (.cells #[.slice none 0 0] 79)).alloc (.cells #[.pointer (some ⟨w.heap.size, 0, none⟩)] 77)) := ((Old.refl' w).alloc' _).alloc' _
  have hs0 : ((w.alloc (.cells #[.slice none 0 0] 79)).alloc (.cells #[.pointer (some ⟨w.heap.size, 0, none⟩)] 77)).heap.size = w.heap.size + 2 := by simp
  refine callsIn_of_wp_marks Try.func18 rfl trivial ?_ rfl
  simp only [Try.ntmps18, List.size_toArray, List.length_cons, List.length_nil, Nat.reduceAdd, Nat.reduceSub, Array.replicate_succ, Array.replicate_zero, List.push_toArray, List.append_toArray, List.nil_append, List.cons_append]
  gi_wp2
  obtain ⟨W0, hW0⟩ : ∃ W0, (w.alloc (.cells #[.slice none 0 0] 79)).alloc (.cells #[.pointer (some ⟨w.heap.size, 0, none⟩)] 77) = W0 := ⟨_, rfl⟩
  rw [hW0] at hbl hbx hO0 hs0 ⊢
  clear hW0
  have ws0 : WS w W0 [] := ⟨_, ⟨hbl, World.ownsRow_nil _ _ _ _, by simp [Value.ownBlock]⟩, fun b hb => by simp [WrFoot, Value.ownBlock] at hb; omega, hbx, hO0⟩
  have cN := hide (Num_ws (w := w) (wr := W0.drew) (bs := []) s.n (by omega) (by simp) ws0.drew)
  simp only [List.nil_append] at cN
  obtain ⟨x0, -⟩ := bk_one hbx
  have n0 := (h.old hO0).n0
  have lg := (h.old hO0).lt g h.gF
  have hw64 : IntKind.u64.wrap (s.n : Int) = s.n := by simp [IntKind.wrap_u64]; omega
  refine wpIn_wide.2 ?_
  refine region_steps (R := pick [eqv (.pointer (some ⟨w.heap.size, 0, none⟩)), eqv (.pointer (some ⟨g, 0, none⟩)), eqv (.pointer (some ⟨g, 0, none⟩)), eqv (.pointer (some ⟨g, 1, none⟩)), eqv (.int .i64 s.n), eqv (.int .u64 s.n), eqv (.tuple #[])]) (S := fun σ w' => (σ 6 = none → w' = W0.drew) ∧ (σ 6 ≠ none → WPut w W0.drew (numB s.n) w')) (T := (fun _ _ => True)) (by kernel_rfl) (by kernel_rfl) (by kernel_rfl) (Stab.pick (Stab.eqv (Stab.eqv (Stab.eqv (Stab.eqv (Stab.eqv (Stab.eqv (Stab.eqv (Stab.nil))))))))) (⟨fun _ => rfl, fun h => absurd rfl h⟩) ?steps ?ends
  case steps =>
    refine StepsOk.cons (stepOk_pure [] [(3, .pointer (some ⟨w.heap.size + 1, 0, none⟩))] rfl rfl (by kernel_rfl) (by kernel_rfl) rfl (fun _ => trivial) (fun σ v w h => by simpa [upd] using h) (fun d E w' hk hda hS hc hf => by rintro  e3; obtain rfl := hS.1 (hk 6 (by kernel_rfl)); exact ⟨_, by go_simp, rfl⟩)) ?_
    refine StepsOk.cons (stepOk_pure [] [(0, .pointer (some ⟨g, 0, none⟩))] rfl rfl (by kernel_rfl) (by kernel_rfl) rfl (fun _ => trivial) (fun σ v w h => by simpa [upd] using h) (fun d E w' hk hda hS hc hf => by rintro  e0; exact ⟨_, by go_simp, rfl⟩)) ?_
    refine StepsOk.cons (stepOk_pure [(1, 15)] [] rfl rfl (by kernel_rfl) (by kernel_rfl) rfl (fun _ => trivial) (fun σ v w h => by simpa [upd] using h) (fun d E w' hk hda hS hc hf => by rintro _ q1 rfl e15 ; exact ⟨_, by go_simp, rfl⟩)) ?_
    refine StepsOk.cons (stepOk_pure [(2, 16)] [] rfl rfl (by kernel_rfl) (by kernel_rfl) rfl (fun _ => trivial) (fun σ v w h => by simpa [upd] using h) (fun d E w' hk hda hS hc hf => by rintro _ q2 rfl e16 ; exact ⟨_, by go_simp, rfl⟩)) ?_
    refine StepsOk.cons (stepOk_pure [(3, 17)] [] rfl rfl (by kernel_rfl) (by kernel_rfl) rfl (fun _ => trivial) (fun σ v w h => by simpa [upd] using h) (fun d E w' hk hda hS hc hf => by rintro _ q3 rfl e17 ; obtain rfl := hS.1 (hk 6 (by kernel_rfl)); exact ⟨_, by go_simp, rfl⟩)) ?_
    refine StepsOk.cons (stepOk_pure [(4, 18)] [] rfl rfl (by kernel_rfl) (by kernel_rfl) rfl (fun _ => trivial) (fun σ v w h => by simpa [upd] using h) (fun d E w' hk hda hS hc hf => by rintro _ q4 rfl e18 ; obtain rfl := hS.1 (hk 6 (by kernel_rfl)); exact ⟨_, by go_simp, rfl⟩)) ?_
    refine StepsOk.cons (stepOk_mk [(0, 14), (5, 19)] [] rfl rfl (by kernel_rfl) (by kernel_rfl) rfl ?_) ?_
    · rintro d a w' hk hda hS _ q0 rfl e14 _ q5 rfl e19 
      first | refine Given.nil (Known.nil ?_) | refine Known.nil ?_
      obtain rfl := hS.1 (hk 6 (by kernel_rfl))
      refine wp_call 38 _ Try.func38 (by kernel_rfl) (by kernel_rfl) _ _ (by rfl) [.pointer (some ⟨w.heap.size, 0, none⟩), .int .u64 s.n] (by simp only [List.map_cons, List.map_nil, *]; try rfl) (cN.out) ?_
      rintro e w1 ⟨rfl, hp4⟩
      exact ⟨_, rfl, _, rfl, rfl, trivial, ⟨fun h => by simp [upd] at h, fun _ => hp4⟩⟩
    exact StepsOk.nil
  case ends =>
    intro σ9 w9 hS9 hA9
    refine Ends.eqv (some 14) (.pointer (some ⟨w.heap.size, 0, none⟩)) rfl (fun _ h => h) ?_
    refine Ends.eqv (some 15) (.pointer (some ⟨g, 0, none⟩)) rfl (fun _ h => h) ?_
    refine Ends.eqv (some 16) (.pointer (some ⟨g, 0, none⟩)) rfl (fun _ h => h) ?_
    refine Ends.eqv (some 17) (.pointer (some ⟨g, 1, none⟩)) rfl (fun _ h => h) ?_
    refine Ends.eqv (some 18) (.int .i64 s.n) rfl (fun _ h => h) ?_
    refine Ends.eqv (some 19) (.int .u64 s.n) rfl (fun _ h => h) ?_
    refine Ends.eqv (some 20) (.tuple #[]) rfl (fun _ h => h) ?_
    refine Ends.nil ?_
    have hA9' := hA9
    clear hA9
    simp only [put_lit, put_none, List.set_cons_zero, List.set_cons_succ]
    have hp4 := hS9.2 (by have := hA9' 6 (by simp); intro e; rw [e] at this; simp at this)
    clear hS9 hA9'
    have ws1 := hp4.ws
    obtain ⟨ARR, harr, hsz, hix⟩ := ses_arr (h.old ws1.o)
    have HIX := hide hix
    have HST := hide h
    have HWS := hide ws1
    have HOK := hide hok
    have harr24 : (Try.prog.info? 67).map (·.size) = some ARR.size := by rw [hsz]; kernel_rfl
    clear hix h ws1 hp4 x0 n0 lg hw64 hok hsz hO0 hbl hbx ws0 hs0
    gi_wp2_with ((with_reducible refine wpListIn_load_at 67 _ g 4 ARR _ ?_ ?_ Try.underlying67 ?_ ?_ ?_); (· rfl); (· exact harr); (· rfl); (· exact harr24))
    clear harr harr24
    have hsl := sesL_len HOK.out hsn
    gi_loopw [25] (fun iv wr => ∃ k : Nat, k ≤ 4 ∧ iv = .int .i64 k ∧ WS w wr (numB s.n ++ sesL s k)) (fun iv _ => 4 - (intOf iv).toNat)
    case atStart => exact ⟨0, by omega, rfl, by simpa [sesL] using HWS.out⟩
    case round =>
      obtain ⟨k, hk, rfl, ws⟩ := hrel
      have hl1 : (numB s.n ++ sesL s k).length ≤ 1000 := by
        rw [List.length_append]
        have := numB_len s.n (by omega)
        have := hsl k
        omega
      by_cases hlt : k < 4
      · obtain ⟨A, c, hix⟩ := HIX.out k hlt
        have hsq := HOK.out.seq k
        have hpl := HOK.out.place k
        have hnx := sesL_succ s k
        obtain ⟨xq, hxq⟩ : ∃ x, s.ss k = x := ⟨_, rfl⟩
        rw [hxq] at hix hsq hpl hnx
        obtain ⟨sq, hsq0⟩ : ∃ q : Nat, xq.seq = q := ⟨xq.seq.toNat, by omega⟩
        rw [hsq0] at hix hsq hnx
        rw [Int.toNat_natCast] at hnx
        have HNX := hide hnx
        have HWS1 := hide ws
        obtain ⟨bs, hbs⟩ : ∃ bs, numB s.n ++ sesL s k = bs := ⟨_, rfl⟩
        rw [hbs] at ws hl1
        have HBS := hide hbs
        obtain ⟨e0, -⟩ := bk_one (ws.alloc (.cells #[.int .i64 sq, .int .i64 xq.place, .int .i64 xq.rep.code, .int .i64 xq.rep.ver, .string xq.rep.data, .slice A 0 c] 66)).box
        have e1 : IntKind.u64.wrap (sq : Int) = sq := by simp [IntKind.wrap_u64]; omega
        have e2 : IntKind.u64.wrap (xq.place : Int) = xq.place := by simp [IntKind.wrap_u64]; omega
        have c1 := hide (Num_ws (w := w) (wr := wr.alloc (.cells #[.int .i64 sq, .int .i64 xq.place, .int .i64 xq.rep.code, .int .i64 xq.rep.ver, .string xq.rep.data, .slice A 0 c] 66)) (bs := bs) sq (by omega) (by omega) (ws.alloc _))
        have hl2 : (bs ++ numB sq).length ≤ 2000 := by rw [List.length_append]; have := numB_len sq (by omega); omega
        clear hxq hsq0 hnx hbs
        gi_wp2_with fail
        refine ⟨trivial, ?_⟩
        refine (callsIn_wide.2 c1.out).mono ?_
        rintro e w2 ⟨rfl, hp2⟩
        have k5 := hp2.kt _ _ _ (by decide) (by decide) (Bk.new wr 66 #[.int .i64 sq, .int .i64 xq.place, .int .i64 xq.rep.code, .int .i64 xq.rep.ver, .string xq.rep.data, .slice A 0 c])
        obtain ⟨⟨y0, y1, -, -, -, -⟩, ly⟩ := bk6 k5
        clear e0
        obtain ⟨e0, -⟩ := bk_one hp2.ws.box
        have c2 := hide (Num_ws xq.place (by omega) (by omega) hp2.ws)
        gi_wp2_with fail
        refine ⟨trivial, ?_⟩
        refine (callsIn_wide.2 c2.out).mono ?_
        rintro e w3 ⟨rfl, hp3⟩
        have hfin := hide hp3.ws
        clear hp2 hp3 k5 y0 y1 ly e0 c2 c1
        gi_wp2
        go_roundw
        case rel => exact ⟨k + 1, by omega, by go_num, by have := hfin.out; rw [← HBS.out] at this; rw [HNX.out]; simpa [List.append_assoc] using this⟩
        case measure => simp [intOf]; omega
      · obtain rfl : k = 4 := by omega
        rw [sesL_four] at ws
        clear HIX HWS hl1 hsl
        gi_wp2_with (refine ⟨trivial, ?_⟩; gi_at_call 39; refine (All_in _ _ _ _).mono ?_; rintro e w' ⟨rfl, rfl⟩)
        have hbx0 : Boxed (wr.alloc (.cells #[.pointer (some ⟨g, 2, none⟩)] 92)) wr.heap.size 92 (.pointer (some ⟨g, 2, none⟩)) := Boxed.new wr _ _
        have hws0 := ws.alloc (.cells #[.pointer (some ⟨g, 2, none⟩)] 92)
        have hsz0 : (wr.alloc (.cells #[.pointer (some ⟨g, 2, none⟩)] 92)).heap.size = wr.heap.size + 1 := by simp
        obtain ⟨Wb, hWb⟩ : ∃ Wb, wr.alloc (.cells #[.pointer (some ⟨g, 2, none⟩)] 92) = Wb := ⟨_, rfl⟩
        rw [hWb] at hbx0 hws0 hsz0 ⊢
        obtain ⟨At, ckt, Bt, cvt, vst, htab, hFt, hrows⟩ := HST.out.tab.ex
        obtain ⟨nk, hnk⟩ : ∃ nk, (ksOf s.f).length = nk := ⟨_, rfl⟩
        rw [hnk] at htab hFt hrows
        have hnk32 : nk ≤ 32 := by rw [← hnk]; exact ksOf_length _
        have hwsz := ws.o.size
        have HNK := hide hnk
        have HT := hide htab
        have HROWS := hide hrows
        obtain ⟨base, hbase⟩ : ∃ bs, numB s.n ++ (sesB (s.ss 0) ++ sesB (s.ss 1) ++ sesB (s.ss 2) ++ sesB (s.ss 3)) = bs := ⟨_, rfl⟩
        rw [hbase] at hws0
        have hbl : base.length ≤ 1000 := by
          rw [← hbase, ← sesL_four, List.length_append]
          have h1 := numB_len s.n (by omega)
          have h2 := sesL_len HOK.out hsn 4
          omega
        have HBASE := hide hbase
        clear hWb hnk htab hrows hFt ws hbase
        have hitem : ∀ x : {x : KV // x ∈ (ksOf s.f).zip vst}, (0 ≤ x.1.1 ∧ x.1.1 ≤ 31) ∧ ∃ A1 c1, x.1.2 = .slice A1 (s.f x.1.1).length c1 ∧ Vers w A1 (s.f x.1.1) := by
          rintro ⟨⟨id, v⟩, hm⟩
          have hin : id ∈ ksOf s.f := (List.of_mem_zip hm).1
          refine ⟨(ksOf_mem.1 hin).1, ?_⟩
          obtain ⟨i, hi⟩ := List.getElem?_of_mem hm
          have hz := List.getElem?_zip_eq_some.1 hi
          obtain ⟨A1, c1, e1, hV, -, -⟩ := HROWS.out i id v hz.1 hz.2
          exact ⟨A1, c1, e1, hV⟩
        have hflen : ∀ pre : List {x : KV // x ∈ (ksOf s.f).zip vst}, (pre.flatMap fun x => tabB s.f x.1.1).length ≤ pre.length * 75020 := fun pre => by
          induction pre with
          | nil => simp
          | cons x l ih =>
            have := tabB_len HOK.out hsn HST.out.few (hitem x).1
            simp only [List.flatMap_cons, List.length_append, List.length_cons]
            omega
        have HFLEN := hide hflen
        have HITEM := hide hitem
        clear hflen hitem
        refine wpIn_rangeFunc_ownF rfl (by omega) (gf := 56) (lb := #[.pointer (some ⟨wr.heap.size, 0, none⟩)]) rfl trivial (enters_of Try.func56 (by kernel_rfl) rfl)
          (allM_stops w.heap.size g 2 nk ckt cvt wr.heap.size At Bt (ksOf s.f) vst (by omega) HNK.out.symm w HT.out rfl Wb hws0.o hbx0.cell (by omega)) Kb.t (Kb.b (by omega)) (Below.refl _ _) (fun _ => rfl)
          (fun pre W => (WS w W (base ++ pre.flatMap fun x => tabB s.f x.1.1) ∧ Boxed W wr.heap.size 92 (.pointer (some ⟨g, 2, none⟩))) ∧ wr.heap.size + 1 ≤ W.heap.size)
          (fun _ _ _ => False)
          (OwnFrom.and (OwnFrom.and (ws_own w _ (fun (pre : List {x : KV // x ∈ (ksOf s.f).zip vst}) => base ++ pre.flatMap fun x => tabB s.f x.1.1) (by omega)) (Own.from (boxed_own _ _ (fun _ => _)) _)) ownFrom_size)
          (fun _ _ _ _ _ hs _ _ => hs)
          ⟨⟨by simpa using hws0, hbx0⟩, by omega⟩
          (fun x => { tmps := #[.pointer (some ⟨g, 0, none⟩), undef, .slice none 0 0, .pointer (some ⟨w.heap.size + 1, 0, none⟩), undef, u5, .int .i64 x.1.1, x.1.2, undef, undef, .pointer (some ⟨g, 0, none⟩), .bool false, .agg #[.slice none 0 0], .pointer (some ⟨w.heap.size, 0, none⟩), .pointer (some ⟨w.heap.size, 0, none⟩), .pointer (some ⟨g, 0, none⟩), .pointer (some ⟨g, 0, none⟩), .pointer (some ⟨g, 1, none⟩), .int .i64 s.n, .int .u64 s.n, .tuple #[], .pointer (some ⟨g, 0, none⟩), .pointer (some ⟨g, 0, none⟩), .pointer (some ⟨g, 4, none⟩), .agg ARR, .int .i64 4, .bool false, u27, u28, u29, u30, u31, u32, u33, u34, u35, u36, u37, u38, .pointer (some ⟨g, 0, none⟩), .pointer (some ⟨g, 0, none⟩), .pointer (some ⟨g, 2, none⟩), .func (.func 56) #[] #[.pointer (some ⟨wr.heap.size, 0, none⟩)], .int .i64 x.1.1, x.1.2, undef, undef, undef, undef, undef, undef, undef, undef, undef, undef, undef, undef, undef, undef, undef, undef, undef, undef, undef, undef, undef, undef, undef, undef, undef, undef], defers := [] })
          ?assign ?body ?done ?stop
        case assign =>
          intro l x W K hK
          gi_wp2
          exact hK
        case body =>
          obtain ⟨wo, rfl⟩ : ∃ wo : World, wo = wr := ⟨_, rfl⟩
          rintro l pre x W ⟨⟨ws, bx⟩, hs1⟩ hlt
          obtain ⟨⟨hid0, hid1⟩, A1, c1, hv, hV⟩ := HITEM.out x
          have hpl := HFLEN.out pre
          have hlen := HST.out.few x.1.1
          have hdat := HOK.out.data x.1.1
          obtain ⟨bs, hbs⟩ : ∃ bs, (base ++ pre.flatMap fun x => tabB s.f x.1.1) = bs := ⟨_, rfl⟩
          have hbsl : bs.length ≤ 2500000 := by
            rw [← hbs, List.length_append]
            have : pre.length * 75020 ≤ 32 * 75020 := Nat.mul_le_mul_right _ (by omega)
            omega
          have hnext : base ++ (pre ++ [x]).flatMap (fun x => tabB s.f x.1.1) = bs ++ (numB x.1.1.toNat ++ numB (s.f x.1.1).length ++ (s.f x.1.1).flatMap verB) := by
            rw [← hbs]
            simp [tabB]
          rw [hbs] at ws
          have HWS0 := hide ws
          have HBX := hide bx
          obtain ⟨L, hL⟩ : ∃ L, s.f x.1.1 = L := ⟨_, rfl⟩
          rw [hL] at hV hlen hdat hnext hv
          obtain ⟨nl, hnl⟩ : ∃ nl, L.length = nl := ⟨_, rfl⟩
          rw [hnl] at hlen hnext hv
          have HNL := hide hnl
          obtain ⟨i, hi⟩ : ∃ i : Nat, x.1.1 = i := ⟨x.1.1.toNat, by omega⟩
          rw [hi] at hid0 hid1 hnext
          rw [Int.toNat_natCast] at hnext
          have HNEXT := hide hnext
          simp only [hi, hv]
          obtain ⟨e0, -⟩ := bk_one ws.box
          have e1 : IntKind.u64.wrap (i : Int) = i := by simp [IntKind.wrap_u64]; omega
          have e2 : IntKind.u64.wrap (nl : Int) = nl := by simp [IntKind.wrap_u64]; omega
          have c1' := hide (Num_ws (w := w) (wr := W) (bs := bs) i (by omega) (by omega) ws)
          have hi64 : (i : Int) ≤ 31 := by omega
          have hb2 : (bs ++ numB i).length ≤ 2600000 := by rw [List.length_append]; have := numB_len i (by omega); omega
          clear hbs hnext hnl hL ws bx hpl hlt hid0 hid1 hi hv
          gi_wp2_with fail
          refine ⟨trivial, ?_⟩
          refine (CallsIn.inRound l (callsIn_wide.2 c1'.out)).mono ?_
          rintro e w2 ⟨rfl, hp2⟩
          clear e0
          obtain ⟨e0, -⟩ := bk_one hp2.ws.box
          have c2 := hide (Num_ws nl (by omega) (by omega) hp2.ws)
          gi_wp2_with fail
          refine ⟨trivial, ?_⟩
          refine (CallsIn.inRound l (callsIn_wide.2 c2.out)).mono ?_
          rintro e w3 ⟨rfl, hp3⟩
          have hp := hp2.trans hp3
          have hb3 : ((bs ++ numB i) ++ numB nl).length ≤ 2700000 := by rw [List.length_append]; have := numB_len nl (by omega); omega
          obtain ⟨cs, hcs⟩ : ∃ cs, (bs ++ numB i) ++ numB nl = cs := ⟨_, rfl⟩
          rw [hcs] at hp hb3
          have HCS := hide hcs
          clear hcs hp2 hp3 c1' c2 e0 hb2
          gi_wp2
          gi_loopw [56] (fun iv wr => ∃ j : Nat, j ≤ nl ∧ iv = .int .i64 j ∧ WPut w W (cs ++ (L.take j).flatMap verB) wr) (fun iv _ => nl - (intOf iv).toNat)
          case atStart => exact ⟨0, Nat.zero_le _, rfl, by simpa using hp⟩
          case round =>
            clear hp
            obtain ⟨j, hj, rfl, hq⟩ := hrel
            by_cases hlt : j < nl
            · obtain ⟨b, o, rfl, hb, g1, g2⟩ := hV.at_ (k := j) (by have := HNL.out; omega)
              obtain ⟨x, hx⟩ : ∃ x, x = L[j]?.getD default := ⟨_, rfl⟩
              have hjL : j < L.length := by have := HNL.out; omega
              have hxm : x ∈ L := by rw [hx, List.getElem?_eq_getElem hjL]; simp
              have hxs := hdat x hxm
              have htk : L.take (j + 1) = L.take j ++ [x] := by rw [List.take_succ_eq_append_getElem hjL, hx, List.getElem?_eq_getElem hjL]; rfl
              have hvl : ((L.take j).flatMap verB).length ≤ 75000 := by
                have h1 := versB_len (l := L.take j) (fun v hv => hdat v (List.mem_of_mem_take hv))
                have h2 : (L.take j).length ≤ 1000 := by rw [List.length_take]; omega
                omega
              obtain ⟨ds, hds⟩ : ∃ ds, cs ++ (L.take j).flatMap verB = ds := ⟨_, rfl⟩
              have hdl : ds.length ≤ 3000000 := by rw [← hds, List.length_append]; omega
              have hend : cs ++ (L.take (j + 1)).flatMap verB = ds ++ yesB x.1 ++ textB x.2 := by rw [← hds, htk]; simp [verB]
              rw [hds] at hq
              have HEND := hide hend
              rw [← hx] at g1 g2
              have HQ := hide hq
              have k1 := (hq.ws.o.cell (p := ⟨b, o + j * 2, none⟩) hb).trans g1
              have k2 := (hq.ws.o.cell (p := ⟨b, o + j * 2 + 1, none⟩) hb).trans g2
              have hq1 := WPut.alloc hq.ws (.cells #[.bool x.1, .string x.2] 56)
              obtain ⟨e0, -⟩ := bk_one hq1.ws.box
              have c3 := hide (Yes_ws x.1 (by omega) hq1.ws)
              have HV1 := hide (Bk.new wr 56 #[.bool x.1, .string x.2])
              clear hx hds hend htk g1 g2 hq hxm
              gi_wp2_with fail
              refine ⟨trivial, ?_⟩
              refine (CallsIn.inRound l (callsIn_wide.2 c3.out)).mono ?_
              rintro e w4 ⟨rfl, hp4⟩
              have kv := hp4.kt _ _ _ (by decide) (by decide) HV1.out
              have kv1 : w4.cell? ⟨wr.heap.size, 1, none⟩ = some (.string x.2) := kv.cell 1
              clear e0
              obtain ⟨e0, -⟩ := bk_one hp4.ws.box
              have c4 := hide (Text_ws x.2 (by omega) (by rw [List.length_append]; simp [yesB]; omega) hp4.ws)
              have hq2 := hide ((HQ.out.trans hq1).trans hp4)
              clear hp4 kv hq1
              gi_wp2_with fail
              refine ⟨trivial, ?_⟩
              refine (CallsIn.inRound l (callsIn_wide.2 c4.out)).mono ?_
              rintro e w5 ⟨rfl, hp5⟩
              have hfin := hide (hq2.out.trans hp5)
              clear hp5 c4 c3 kv1 e0 k1 k2
              gi_wp2
              go_roundw
              case rel => exact ⟨j + 1, by omega, by go_num, by rw [HEND.out]; exact hfin.out⟩
              case measure => simp [intOf]; omega
            · obtain rfl : j = nl := by omega
              rw [List.take_of_length_le (by have := HNL.out; omega)] at hq
              have HQ := hide hq
              clear hq
              gi_wp2
              have hq := HQ.out
              have hbx2 := hq.kt _ _ _ (by decide) (by decide) (show Bk W wo.heap.size 92 #[.pointer (some ⟨g, 2, none⟩)] from HBX.out)
              refine ⟨hq.ko, ⟨hq.below, fun u hu => ?_⟩, ⟨?_, hbx2⟩, Nat.le_trans hs1 hq.ko.size⟩
              · rw [HBX.out.cell] at hu
                rw [← hu]
                exact hbx2.cell 0
              · rw [HNEXT.out]
                have := hq.ws
                rw [← HCS.out] at this
                simpa [List.append_assoc] using this
        case done =>
          rintro D ys W hD rfl ⟨⟨ws, bx⟩, hs1⟩ hK
          have hvl : vst.length = (ksOf s.f).length := by have := HT.out.vo.1; have := HNK.out; omega
          have hfl : ((ksOf s.f).zip vst).attach.flatMap (fun x => tabB s.f x.1.1) = (ksOf s.f).flatMap (tabB s.f) := by
            have h1 : ((ksOf s.f).zip vst).attach.flatMap (fun x => tabB s.f x.1.1) = ((ksOf s.f).zip vst).flatMap (fun x => tabB s.f x.1) := by
              have e : ((ksOf s.f).zip vst).attach.flatMap (fun x => tabB s.f x.1.1) = (((ksOf s.f).zip vst).attach.map Subtype.val).flatMap (fun x : KV => tabB s.f x.1) := by rw [List.flatMap_map]
              rw [e, List.attach_map_subtype_val]
            rw [h1]
            have h2 : ((ksOf s.f).zip vst).map Prod.fst = ksOf s.f := List.map_fst_zip (by omega)
            conv => rhs; rw [← h2]
            rw [List.flatMap_map]
          rw [hfl, ← HBASE.out] at ws
          have hbytes : numB s.n ++ (sesB (s.ss 0) ++ sesB (s.ss 1) ++ sesB (s.ss 2) ++ sesB (s.ss 3)) ++ (ksOf s.f).flatMap (tabB s.f) = s.bytes := rfl
          rw [hbytes] at ws
          have hbound : s.bytes.length ≤ 10000000 := by
            have h1 := HFLEN.out ((ksOf s.f).zip vst).attach
            rw [hfl, List.length_attach] at h1
            have h3 : ((ksOf s.f).zip vst).length ≤ 32 := by rw [List.length_zip]; have := HNK.out; omega
            have h4 : ((ksOf s.f).zip vst).length * 75020 ≤ 32 * 75020 := Nat.mul_le_mul_right _ h3
            rw [← hbytes, HBASE.out, List.length_append]
            omega
          clear hfl hbytes
          have HW := hide ws
          obtain ⟨e0, -⟩ := bk_one ws.box
          obtain ⟨V, hwa, hft, -, hold⟩ := ws
          have cB := hide (Bytes_w w.heap.size s.bytes.length V s.bytes rfl hbound W hwa)
          clear hwa hft
          gi_wp2_with (refine ⟨trivial, ?_⟩; gi_at_call 42; refine (callsIn_wide.2 cB.out).mono ?_; rintro e w6 ⟨A6, c6, rfl, hown6, hb6⟩)
          have hK6 := (hb6.block D (Array.getElem?_eq_some_iff.1 hK).1).trans hK
          have hWs := hold.size
          refine ⟨by simp, .inl ⟨_, _, rfl, run_takeDeferred hK6, ?_⟩⟩
          exact ⟨_, results_tmp rfl _ _ _, A6, c6, rfl, ownsRow_putObj (own_mono hown6 (by omega)) _ hK6 rfl, Old.put (hold.trans' hb6) hK6 (by omega) _⟩
        case stop =>
          rintro D c pre W _ _ h _
          exact h.elim
theorem Bytes_st (g : Nat) (F : Nat → Prop) (s : StV) (hsn : s.n ≤ 1000) (hok : StOk s) (w : World) (h : StAt w g F s) :
    Calls Try.prog 18 #[.pointer (some ⟨g, 0, none⟩)] w fun e W' => ∃ A c, e = .returned (.slice A s.bytes.length c) ∧ W'.ownsRow w.heap.size 5 1 (.slice A s.bytes.length c) s.bytes.length (u8s s.bytes) ∧ Old w W' := callsIn_wide.1 (Bytes_in g F s hsn hok w h)
theorem bytes_len {s : StV} (hok : StOk s) (hsn : s.n ≤ 1000) (hf : ∀ k, (s.f k).length ≤ s.n) : s.bytes.length ≤ 2500000 := by
  have h1 := numB_len s.n (by omega)
  have h2 := sesL_len hok hsn 4
  rw [sesL_four] at h2
  have h3 : ∀ ks : List Int, (∀ k ∈ ks, 0 ≤ k ∧ k ≤ 31) → (ks.flatMap (tabB s.f)).length ≤ ks.length * 75020 := by
    intro ks
    induction ks with
    | nil => intro _; simp
    | cons k ks ih =>
      intro hk
      have h4 := tabB_len hok hsn hf (hk k (by simp))
      have h5 := ih fun x hx => hk x (by simp [hx])
      simp only [List.flatMap_cons, List.length_append, List.length_cons]
      omega
  have h4 := h3 (ksOf s.f) (fun k hk => (ksOf_mem.1 hk).1)
  have h5 := ksOf_length s.f
  unfold StV.bytes
  simp only [List.length_append] at h2 ⊢
  omega
end Go.Proofs.Ytcbnibldlbnkbaa
