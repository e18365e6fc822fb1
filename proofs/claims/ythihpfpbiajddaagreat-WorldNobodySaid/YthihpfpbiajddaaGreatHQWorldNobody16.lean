/- Parts of the proof. -/
import Derived.Test.YthihpfpbiajddaaGreatHQWorldNobody15
set_option maxRecDepth 100000
set_option maxHeartbeats 8000000
open Go.Proofs.Tryz
namespace Go.Proofs.YthihpfpbiajddaaGreat
open Go.RowKit
section
open Go.RowKit Go.Shelf
attribute [local go_sem] Oper.semAt_some
def rowOf (pre:List (Nat×aG)):List Value:=pre.flatMap fun x=>x.2.cells
theorem wV (pre:List (Nat×aG)) (x:Nat×aG):rowOf (pre ++ [x])=rowOf pre ++ x.2.cells:=by simp [rowOf]
theorem wW (d:List aG) (s:Nat):∀ k,s + k<=d.length->rowOf (mM d s k)=((d.drop s).take k).flatMap aG.cells:=by
 intro k
 induction k with
 | zero=>intro _;rfl
 | succ k ih=>
  intro e
  rw [oC,wV,ih af]
  have hd:k < (d.drop s).length:=by rw [yj];omega
  rw [MG hd,List.flatMap_append]
  congr 1
  rw [gG af]
  simp
theorem Ed (p:Option Addr) (n:Int) (m:Int) (N:Nat) (i:(p=none/\N=0)∨∃ g F l w',p=some ⟨g,0,none⟩/\l.qs.length=N/\eZ w' g F l/\w'=w') (w:World) (h:∀ W,Old w W->aS 59 #[.pointer p] W fun e w'=>e=.returned (zi N)/\W=w')
 (f:n < 0∨m < 1∨(N:Int)<=n) :
 aS 65 #[.pointer p,zi n,zi m] w fun e w'=>e=.returned aQ/\Old w w':=by
 have j:=aa h
 have d:=aa (((Old.refl' w).ag (.cells #[zi m] 3)).ag (.cells #[aQ] 43))
 clear h i
 by_cases k:n < 0
 ·clear f
  go_enter func65,ntmps65
  go_wp2
  go_ret
  exact ⟨rfl,d.o⟩
 ·by_cases r:m < 1
  ·clear f
   go_enter func65,ntmps65
   go_wp2
   go_ret
   exact ⟨rfl,d.o⟩
  ·have s:(N:Int)<=n:=by omega
   clear f
   go_enter func65,ntmps65
   go_wp2_with (go_at_call 59;refine (j.o _ d.o).mono ?_;rintro e w1 ⟨rfl,rfl⟩)
   go_ret
   exact ⟨rfl,d.o⟩
theorem Hg:(prog.info? 36).map (fun i=>(i.zero,i.size,i.bytes))=some (some (.agg #[zi 0,zi 0,zi 0,zi 0,zi 0,.string { data:=#[] }]),6,56):=ay
theorem Ky (g:Nat) (F:Nat->Prop) (l:dW) (N s most:Nat) (hN:l.qs.length=N) (hs:s < N) (hm:1<=most) (Ao:N<=50000) (w:World) (h:eZ w g F l) :
 CallsIn Fence.wide 6 prog 65 #[g,zi s,zi most] w fun e W'=>
  ∃ A' c' k,k=min most (N - s)/\e=.returned (.slice A' k c')/\W'.ownsRow w.heap.size 36 6 (.slice A' k c') k (((l.qs.drop s).take k).flatMap aG.cells)/\Old w W':=by
 obtain ⟨i0,hi,hz0,hz1,hz2⟩:=info_parts Hg
 obtain ⟨A,ca,gs,Fs,B,cb,rs,I⟩:=h.see hN
 have R:=I.gl
 have l0:=I.l0
 have hV:=I.row
 have hoff:0 < N->∀ a,A=some a->a.block < w.heap.size:=fun h0 a e=>by
  obtain ⟨b,o,e',hb,_⟩:=hV.Vu (k:=0) af
  rw [e] at e';injection e' with e';subst e';exact hb
 have cL:=aa (fun (W:World) (hW:Old w W)=>Kv Fence.wide 5 trivial rfl g A N ca W ((hW.cell (p:=⟨g,1,none⟩) R).trans l0))
 have HN:=aa hN
 have hO:=aa (((Old.refl' w).ag (.cells #[zi most] 3)).ag (.cells #[aQ] 43))
 have hi1:¬ ((s:Int) < 0):=af
 have hi2:¬ ((most:Int) < 1):=af
 have hi3:¬ ((N:Int)<=s):=af
 clear hN h I
 refine callsIn_of_wp_marks func65 rfl trivial ?_ rfl
 simp only [ntmps65,List.size_toArray,iR,jV,Nat.reduceAdd,Nat.reduceSub,Array.replicate_succ,Array.replicate_zero,List.push_toArray,List.append_toArray,qz,xZ]
 gi_wp2_with (first
  | (refine ⟨trivial,?_⟩;gi_at_call 59;refine (cL.o _ hO.o).mono ?_;rintro e w1 ⟨rfl,rfl⟩)
  | (refine ⟨trivial,?_⟩;gi_at_call 107;refine (FF Fence.wide _ trivial rfl _ _ _).mono ?_;rintro e w' ⟨rfl,rfl⟩))
 obtain ⟨W0,z⟩:=aR ((((w.alloc (.cells #[zi most] 3)).alloc (.cells #[aQ] 43)).alloc (.cells #[g] 98)).alloc (.cells #[zi ((s:Int) + 1)] 3))
 have b0:Boxed W0 w.heap.size 3 (zi most):=z▸(((Boxed.new w _ _).alloc _).alloc _).alloc _
 have b1:Boxed W0 (w.heap.size + 1) 43 aQ:=by
  have:=((Boxed.new (w.alloc (.cells #[zi most] 3)) 43 aQ).alloc (.cells #[g] 98)).alloc (.cells #[zi ((s:Int) + 1)] 3)
  rwa [jW,z] at this
 have b2:Boxed W0 (w.heap.size + 1 + 1) 98 (av g 0):=by
  have:=(Boxed.new ((w.alloc (.cells #[zi most] 3)).alloc (.cells #[aQ] 43)) 98 (av g 0)).alloc (.cells #[zi ((s:Int) + 1)] 3)
  rwa [jW,jW,z] at this
 have b3:Boxed W0 (w.heap.size + 1 + 1 + 1) 3 (zi ((s:Int) + 1)):=by
  have:=Boxed.new (((w.alloc (.cells #[zi most] 3)).alloc (.cells #[aQ] 43)).alloc (.cells #[g] 98)) 3 (zi ((s:Int) + 1))
  rwa [jW,jW,jW,z] at this
 have S:Old w W0:=z▸((((Old.refl' w).ag _).ag _).ag _).ag _
 have hsz:W0.heap.size=w.heap.size + 4:=by rw [<- z];simp
 rw [z]
 clear z
 have l1:=(S.cell (p:=⟨g,1,none⟩) R).trans l0
 refine wpIn_rangeFunc_ownH rfl af (gf:=166) (lb:=#[av (w.heap.size + 1 + 1 + 1) 0,av (w.heap.size + 1 + 1) 0]) rfl trivial (enters_of func166 ay rfl)
  (wU Fence.wide _ trivial trivial rfl af (w.heap.size + 1 + 1 + 1) (w.heap.size + 1 + 1) w.heap.size g N ca s A l.qs af af HN.o.symm W0 af af b3.cell b2.cell R af l1 (ah.old hV S) hoff) Kc.t (Kc.b af) (Below.refl _ _) (fun _=>rfl)
  (fun pre W=>((((((∃ v,Boxed W (w.heap.size + 1) 43 v/\W.ownsRow w.heap.size 36 6 v pre.length (rowOf pre)/\True)/\Boxed W w.heap.size 3 (zi most))/\Boxed W (w.heap.size + 1 + 1) 98 (av g 0))/\Boxed W (w.heap.size + 1 + 1 + 1) 3 (zi ((s:Int) + 1)))/\Old w W)/\(w.heap.size + 4<=W.heap.size))/\(pre.length < most))
  (fun c pre W=>((∃ v,Boxed W (w.heap.size + 1) 43 v/\W.ownsRow w.heap.size 36 6 v pre.length (rowOf pre)/\True)/\Old w W)/\(c=.exit 0/\pre.length=most))
  (OwnFrom.and (OwnFrom.and (OwnFrom.and (OwnFrom.and (OwnFrom.and (OwnFrom.and (Own.from (holdsRow_own w.heap.size (w.heap.size + 1) 43 36 6 (fun (pre:List (Nat×aG))=>pre.length) (fun (pre:List (Nat×aG))=>rowOf pre) (fun _ _=>True)) _) (Own.from (boxed_own _ _ (fun _=>_)) _)) (Own.from (boxed_own _ _ (fun _=>_)) _)) (Own.from (boxed_own _ _ (fun _=>_)) _)) (ownFrom_below (dN _) af)) oo) (fun _ _ _ _ h _ _=>h))
  (fun c=>OwnFrom.and (OwnFrom.and (Own.from (holdsRow_own w.heap.size (w.heap.size + 1) 43 36 6 (fun (pre:List (Nat×aG))=>pre.length) (fun (pre:List (Nat×aG))=>rowOf pre) (fun _ _=>True)) _) (ownFrom_below (dN _) af)) (fun _ _ _ _ h _ _=>h))
  ⟨⟨⟨⟨⟨⟨⟨_,b1,World.ownsRow_nil _ _ _ _,trivial⟩,b0⟩,b2⟩,b3⟩,S⟩,af⟩,jR⟩
  (fun x a' W=>(∃ Bx,(w.heap.size + 3 < Bx/\a'={ tmps:=#[g,zi s,zi most,undef,undef,av w.heap.size 0,aQ,av (w.heap.size + 1) 0,undef,av Bx 0,zi s,.bool false,.bool false,zi most,.bool false,.bool false,.bool false,zi s,av g 0,zi N,.bool false,.bool false,av g 0,zi s,zi ((s:Int) + 1),.func (.func 166) #[] #[av (w.heap.size + 1 + 1 + 1) 0,av (w.heap.size + 1 + 1) 0],zi (x.1:Int),.agg #[zi x.2.client,zi x.2.seq,zi x.2.kind,zi x.2.id,zi x.2.eD,.string x.2.data],undef,undef,undef,undef,undef,undef,undef,undef,undef],defers:=[] })/\Bk W Bx 36 #[zi x.2.client,zi x.2.seq,zi x.2.kind,zi x.2.id,zi x.2.eD,.string x.2.data]))
  (fun x a'=>lV fun Bx=>OwnFrom.and (fun _ _ _ _ h _ _=>h) (Own.from (pJ _ _ (fun _=>_)) _))
  ?assign ?body ?done ?stop
 case assign=>
  rintro lp pre x W K ⟨⟨⟨⟨⟨⟨⟨v,c1,n,-⟩,c0⟩,c2⟩,c3⟩,m⟩,T⟩,hlt⟩ U
  gi_wp2
  exact U _ _ ((KeepsOthers.alloc _ _).from _) (Kc.mk' ((Kb.refl _ _ W).alloc m.size _) ((Kb.refl _ _ W).alloc m.size _)) ⟨⟨⟨⟨⟨⟨⟨v,c1.alloc _,n.alloc _,trivial⟩,c0.alloc _⟩,c2.alloc _⟩,c3.alloc _⟩,m.ag _⟩,jR⟩,hlt⟩ ⟨W.heap.size,⟨af,rfl⟩,Bk.new W _ _⟩
 case body=>
  rintro lp pre x a' W hl ⟨r,hr⟩ ⟨⟨⟨⟨⟨⟨⟨v,c1,n,-⟩,c0⟩,c2⟩,c3⟩,m⟩,T⟩,H⟩ ⟨Bx,⟨hBx,rfl⟩,cX⟩ hlt
  have hpl:pre.length<=100000:=af
  have fin:∀ (C d:Nat) (w1:World),w1.ownsRow w.heap.size 36 6 (.slice (some ⟨C,0,none⟩) (pre.length + 1) d) (pre.length + 1) (rowOf pre ++ [zi x.2.client,zi x.2.seq,zi x.2.kind,zi x.2.id,zi x.2.eD,.string x.2.data])->(W.alloc (.cells #[zi x.2.client,zi x.2.seq,zi x.2.kind,zi x.2.id,zi x.2.eD,.string x.2.data] 36)).grownBy w1 v.ownBlock->
   KeepsFrom W0.heap.size W (w1.setCell ⟨w.heap.size + 1,0,none⟩ (.slice (some ⟨C,0,none⟩) (pre.length + 1) d))/\Kc w.heap.size (w.heap.size + 1 + 1 + 1) (w.heap.size + 1 + 1) W (w1.setCell ⟨w.heap.size + 1,0,none⟩ (.slice (some ⟨C,0,none⟩) (pre.length + 1) d))/\
   (∃ v,Boxed (w1.setCell ⟨w.heap.size + 1,0,none⟩ (.slice (some ⟨C,0,none⟩) (pre.length + 1) d)) (w.heap.size + 1) 43 v/\(w1.setCell ⟨w.heap.size + 1,0,none⟩ (.slice (some ⟨C,0,none⟩) (pre.length + 1) d)).ownsRow w.heap.size 36 6 v (pre ++ [x]).length (rowOf (pre ++ [x]))/\True)/\
   (Boxed (w1.setCell ⟨w.heap.size + 1,0,none⟩ (.slice (some ⟨C,0,none⟩) (pre.length + 1) d)) w.heap.size 3 (zi most)/\Boxed (w1.setCell ⟨w.heap.size + 1,0,none⟩ (.slice (some ⟨C,0,none⟩) (pre.length + 1) d)) (w.heap.size + 1 + 1) 98 (av g 0)/\Boxed (w1.setCell ⟨w.heap.size + 1,0,none⟩ (.slice (some ⟨C,0,none⟩) (pre.length + 1) d)) (w.heap.size + 1 + 1 + 1) 3 (zi ((s:Int) + 1)))/\
   Boxed w1 w.heap.size 3 (zi most)/\Old w (w1.setCell ⟨w.heap.size + 1,0,none⟩ (.slice (some ⟨C,0,none⟩) (pre.length + 1) d))/\w.heap.size + 4<=(w1.setCell ⟨w.heap.size + 1,0,none⟩ (.slice (some ⟨C,0,none⟩) (pre.length + 1) d)).heap.size:=by
   intro C d w1 i f
   obtain ⟨J,V,X,O,P⟩:=c1.appended aW n (by have:=m.size;omega) af i f
   have k0:=(c0.alloc (.cells #[zi x.2.client,zi x.2.seq,zi x.2.kind,zi x.2.id,zi x.2.eD,.string x.2.data] 36)).kept f (c0.not_row aW n)
   have k2:=((c2.alloc (.cells #[zi x.2.client,zi x.2.seq,zi x.2.kind,zi x.2.id,zi x.2.eD,.string x.2.data] 36)).kept f (c2.not_row aW n)).other (B':=w.heap.size + 1) af (.slice (some ⟨C,0,none⟩) (pre.length + 1) d)
   have k3:=((c3.alloc (.cells #[zi x.2.client,zi x.2.seq,zi x.2.kind,zi x.2.id,zi x.2.eD,.string x.2.data] 36)).kept f (c3.not_row aW n)).other (B':=w.heap.size + 1) af (.slice (some ⟨C,0,none⟩) (pre.length + 1) d)
   refine ⟨O.from _,⟨P,fun u hu=>?_,fun u hu=>?_⟩,⟨_,V,?_,trivial⟩,⟨k0.other af _,k2,k3⟩,k0,m.trans P,ic T O.size⟩
   ·rw [c3.cell] at hu;rw [k3.cell,hu]
   ·rw [c2.cell] at hu;rw [k2.cell,hu]
   ·rw [wV,ja];exact X
  have e1:=c1.cell
  have e0:=c0.cell
  obtain ⟨⟨y0,y1,y2,y3,y4,y5⟩,ly⟩:=lH cX
  by_cases y:pre.length + 1=most
  ·have hm1:(((pre.length:Int) + 1 == (most:Int)))=true:=by simp;omega
   have Y:=aa y
   clear y
   gi_wp2_with (gi_at_builtin;refine wpListIn_append_own _ rfl _ _ 43 rfl w.heap.size 36 i0 (.agg #[zi 0,zi 0,zi 0,zi 0,zi 0,.string { data:=#[] }]) 6 56 underlying43 hi hz0 hz1 hz2 rfl aW _ _ _ rfl (n.alloc _) ⟨W.heap.size,0,none⟩ 1 1 [zi x.2.client,zi x.2.seq,zi x.2.kind,zi x.2.id,zi x.2.eD,.string x.2.data] rfl rfl (fun j u hj=>zat) tC qy af (by have:=m.size;simp;omega) ?_;intro v' w1 i f _;obtain ⟨C,d,rfl⟩:=ownsRow_succ i;have E:=aa (fin C d w1 i f);obtain ⟨J,V,X,O,P⟩:=c1.appended aW n (by have:=m.size;omega) af i f;have hc1:=J.cell;have hf1:=J.frozen;have hc0:=E.o.2.2.2.2.1.cell)
   obtain ⟨f1,f2,f3,⟨f4,f5,f6⟩,f7,f8,f9⟩:=E.o
   exact ⟨f1,⟨f3,f8⟩,rfl,by rw [ja];exact Y.o⟩
  ·have hm1:(((pre.length:Int) + 1 == (most:Int)))=false:=by simp;omega
   have Y:=aa y
   clear y
   gi_wp2_with (gi_at_builtin;refine wpListIn_append_own _ rfl _ _ 43 rfl w.heap.size 36 i0 (.agg #[zi 0,zi 0,zi 0,zi 0,zi 0,.string { data:=#[] }]) 6 56 underlying43 hi hz0 hz1 hz2 rfl aW _ _ _ rfl (n.alloc _) ⟨W.heap.size,0,none⟩ 1 1 [zi x.2.client,zi x.2.seq,zi x.2.kind,zi x.2.id,zi x.2.eD,.string x.2.data] rfl rfl (fun j u hj=>zat) tC qy af (by have:=m.size;simp;omega) ?_;intro v' w1 i f _;obtain ⟨C,d,rfl⟩:=ownsRow_succ i;have E:=aa (fin C d w1 i f);obtain ⟨J,V,X,O,P⟩:=c1.appended aW n (by have:=m.size;omega) af i f;have hc1:=J.cell;have hf1:=J.frozen;have hc0:=E.o.2.2.2.2.1.cell)
   obtain ⟨f1,f2,f3,⟨f4,f5,f6⟩,f7,f8,f9⟩:=E.o
   exact ⟨f1,f2,⟨⟨⟨⟨⟨f3,f4⟩,f5⟩,f6⟩,f8⟩,f9⟩,by rw [ja];have:=Y.o;show pre.length + 1 < most;omega⟩
 case done=>
  rintro D ys W hD Z ⟨⟨⟨⟨⟨⟨⟨v,c1,n,-⟩,c0⟩,c2⟩,c3⟩,m⟩,T⟩,H⟩ U
  have e1:=c1.cell
  have L:ys.length=N - s:=by rw [Z,jL]
  have G:rowOf ys=((l.qs.drop s).take (N - s)).flatMap aG.cells:=by rw [Z];exact wW l.qs s (N - s) (by rw [HN.o];omega)
  obtain ⟨A',c',rfl,-,-⟩:=bI n
  rw [L,G] at n
  rw [L] at e1 H
  have HC:=aa n
  have HK:=aa U
  have HB:=aa m
  clear n G L Z c1 c0 c2 c3 U m
  gi_wp2
  refine ⟨bE,.inl ⟨_,_,rfl,run_takeDeferred HK.o,?_⟩⟩
  exact ⟨_,results_tmp rfl _ _ _,A',c',N - s,af,rfl,ownsRow_putObj HC.o _ HK.o rfl,Old.put HB.o HK.o af _⟩
 case stop=>
  rintro D c pre W hD ⟨k,hk,M⟩ ⟨⟨⟨v,c1,n,-⟩,m⟩,rfl,H⟩ U
  have e1:=c1.cell
  have hkl:k=most:=by rw [<- H,M,jL]
  have G:rowOf pre=((l.qs.drop s).take k).flatMap aG.cells:=by rw [M];exact wW l.qs s k (by rw [HN.o];omega)
  obtain ⟨A',c',rfl,-,-⟩:=bI n
  rw [H,<- hkl,G] at n
  rw [H,<- hkl] at e1
  have HC:=aa n
  have HK:=aa U
  have HB:=aa m
  have Sa:=aa (show k=min most (N - s) by omega)
  clear n G M H hkl c1 U m
  gi_wp2
  refine ⟨bE,.inl ⟨_,_,rfl,run_takeDeferred HK.o,?_⟩⟩
  exact ⟨_,results_tmp rfl _ _ _,A',c',k,Sa.o,rfl,ownsRow_putObj HC.o _ HK.o rfl,Old.put HB.o HK.o af _⟩
theorem Cq (g:Nat) (F:Nat->Prop) (l:dW) (N s most:Nat) (i:l.qs.length=N) (j:s < N) (m:1<=most) (d:N<=50000) (w:World) (h:eZ w g F l) :
 aS 65 #[g,zi s,zi most] w fun e W'=>
  ∃ A' f k,k=min most (N - s)/\e=.returned (.slice A' k f)/\W'.ownsRow w.heap.size 36 6 (.slice A' k f) k (((l.qs.drop s).take k).flatMap aG.cells)/\Old w W':=callsIn_wide.1 (Ky g F l N s most i j m d w h)
end
section
open Go.RowKit Go.Shelf
attribute [local go_sem] Oper.semAt_some
def tY (c s:Int) (q:aG):Bool:=decide (q.client=c) && decide (q.seq=s)
def kY (qs:List aG) (c s:Int):Nat:=(qs.findIdx? (tY c s)).elim 0 (· + 1)
theorem Ee {d:List aG} {c s:Int} (h:∀ q∈d,tY c s q=false):kY d c s=0:=by
 unfold kY
 rw [List.findIdx?_eq_none_iff.2 h]
 rfl
theorem Ef {d:List aG} {c s:Int} {j:Nat} {q:aG} (e:d[j]?=some q) (f:tY c s q=true) (h:∀ i x,i < j->d[i]?=some x->tY c s x=false):kY d c s=j + 1:=by
 unfold kY
 have g:=(List.getElem?_eq_some_iff.1 e).1
 have k:=(List.getElem?_eq_some_iff.1 e).2
 rw [List.findIdx?_eq_some_iff_getElem.2 ⟨g,by rw [k];exact f,fun i l=>by
  have:=h i _ l (gG af)
  simp [this]⟩]
 rfl
theorem ze {d:List aG} {s k:Nat} {x:Nat×aG}:x∈mM d s k↔∃ j,j < k/\x=(s + j + 1,d[s + j]?.getD default):=by
 unfold mM
 simp only [List.mem_map,List.mem_range]
 constructor
 ·rintro ⟨j,h,rfl⟩;exact ⟨j,h,rfl⟩
 ·rintro ⟨j,h,rfl⟩;exact ⟨j,h,rfl⟩
theorem Oa (g:Nat) (F:Nat->Prop) (l:dW) (N:Nat) (c q:Int) (hN:l.qs.length=N) (Ao:N<=50000) (w:World) (h:eZ w g F l) :
 CallsIn Fence.wide 6 prog 241 #[g,zi c,zi q] w fun e W'=>
  e=.returned (.tuple #[zi (kY l.qs c q),.bool (decide (kY l.qs c q≠0))])/\Old w W':=by
 obtain ⟨A,ca,gs,Fs,B,cb,rs,n⟩:=h.see hN
 have P:=n.gl
 have l0:=n.l0
 have hV:=n.row
 have R:0 < N->∀ a,A=some a->a.block < w.heap.size:=fun h0 a e=>by
  obtain ⟨b,o,e',hb,_⟩:=hV.Vu (k:=0) af
  rw [e] at e';injection e' with e';subst e';exact hb
 have HN:=aa hN
 clear hN h n
 refine callsIn_of_wp_marks func241 rfl trivial ?_ rfl
 simp only [ntmps241,List.size_toArray,iR,jV,Nat.reduceAdd,Nat.reduceSub,Array.replicate_succ,Array.replicate_zero,List.push_toArray,List.append_toArray,qz,xZ]
 gi_wp2_with (refine ⟨trivial,?_⟩;gi_at_call 107;refine (FF Fence.wide _ trivial rfl _ _ _).mono ?_;rintro e w' ⟨rfl,rfl⟩)
 obtain ⟨W0,m⟩:=aR (((((((w.alloc (.cells #[zi c] 3)).alloc (.cells #[zi q] 3)).alloc (.cells #[zi 0] 3)).alloc (.cells #[.bool false] 4)).alloc (.cells #[g] 98)).alloc (.cells #[zi 1] 3)))
 have b0:Boxed W0 w.heap.size 3 (zi c):=by
  have:=(((((Boxed.new w 3 (zi c)).alloc (.cells #[zi q] 3)).alloc (.cells #[zi 0] 3)).alloc (.cells #[.bool false] 4)).alloc (.cells #[g] 98)).alloc (.cells #[zi 1] 3)
  rwa [m] at this
 have b1:Boxed W0 (w.heap.size + 1) 3 (zi q):=by
  have:=((((Boxed.new (w.alloc (.cells #[zi c] 3)) 3 (zi q)).alloc (.cells #[zi 0] 3)).alloc (.cells #[.bool false] 4)).alloc (.cells #[g] 98)).alloc (.cells #[zi 1] 3)
  rwa [jW,m] at this
 have b2:Boxed W0 (w.heap.size + 1 + 1) 3 (zi 0):=by
  have:=(((Boxed.new ((w.alloc (.cells #[zi c] 3)).alloc (.cells #[zi q] 3)) 3 (zi 0)).alloc (.cells #[.bool false] 4)).alloc (.cells #[g] 98)).alloc (.cells #[zi 1] 3)
  rwa [jW,jW,m] at this
 have b3:Boxed W0 (w.heap.size + 1 + 1 + 1) 4 (.bool false):=by
  have:=((Boxed.new (((w.alloc (.cells #[zi c] 3)).alloc (.cells #[zi q] 3)).alloc (.cells #[zi 0] 3)) 4 (.bool false)).alloc (.cells #[g] 98)).alloc (.cells #[zi 1] 3)
  rwa [jW,jW,jW,m] at this
 have b4:Boxed W0 (w.heap.size + 1 + 1 + 1 + 1) 98 (av g 0):=by
  have:=(Boxed.new ((((w.alloc (.cells #[zi c] 3)).alloc (.cells #[zi q] 3)).alloc (.cells #[zi 0] 3)).alloc (.cells #[.bool false] 4)) 98 (av g 0)).alloc (.cells #[zi 1] 3)
  rwa [jW,jW,jW,jW,m] at this
 have b5:Boxed W0 (w.heap.size + 1 + 1 + 1 + 1 + 1) 3 (zi 1):=by
  have:=Boxed.new (((((w.alloc (.cells #[zi c] 3)).alloc (.cells #[zi q] 3)).alloc (.cells #[zi 0] 3)).alloc (.cells #[.bool false] 4)).alloc (.cells #[g] 98)) 3 (zi 1)
  rwa [jW,jW,jW,jW,jW,m] at this
 have J:Old w W0:=m▸((((((Old.refl' w).ag _).ag _).ag _).ag _).ag _).ag _
 have hsz:W0.heap.size=w.heap.size + 6:=by rw [<- m];simp
 rw [m]
 clear m
 have l1:=(J.cell (p:=⟨g,1,none⟩) P).trans l0
 refine wpIn_rangeFunc_ownH rfl af (gf:=166) (lb:=#[av (w.heap.size + 1 + 1 + 1 + 1 + 1) 0,av (w.heap.size + 1 + 1 + 1 + 1) 0]) rfl trivial (enters_of func166 ay rfl)
  (wU Fence.wide _ trivial trivial rfl af (w.heap.size + 1 + 1 + 1 + 1 + 1) (w.heap.size + 1 + 1 + 1 + 1) w.heap.size g N ca 0 A l.qs af af HN.o.symm W0 af af b5.cell b4.cell P af l1 (ah.old hV J) R) Kc.t (Kc.b af) (Below.refl _ _) (fun _=>rfl)
  (fun pre W=>((((((((Boxed W w.heap.size 3 (zi c))/\Boxed W (w.heap.size + 1) 3 (zi q))/\Boxed W (w.heap.size + 1 + 1) 3 (zi 0))/\Boxed W (w.heap.size + 1 + 1 + 1) 4 (.bool false))/\Boxed W (w.heap.size + 1 + 1 + 1 + 1) 98 (av g 0))/\Boxed W (w.heap.size + 1 + 1 + 1 + 1 + 1) 3 (zi 1))/\Old w W)/\(w.heap.size + 6<=W.heap.size))/\(∀ x∈pre,tY c q x.2=false))
  (fun cc pre W=>(∃ x:Nat×aG,((∃ s,pre=s ++ [x]/\tY c q x.2=true/\cc=.ret/\∀ y∈s,tY c q y.2=false)/\(Boxed W (w.heap.size + 1 + 1) 3 (zi (x.1:Int))/\Boxed W (w.heap.size + 1 + 1 + 1) 4 (.bool true))))/\Old w W)
  (OwnFrom.and (OwnFrom.and (OwnFrom.and (OwnFrom.and (OwnFrom.and (OwnFrom.and (OwnFrom.and (OwnFrom.and (Own.from (boxed_own _ _ (fun _=>_)) _) (Own.from (boxed_own _ _ (fun _=>_)) _)) (Own.from (boxed_own _ _ (fun _=>_)) _)) (Own.from (boxed_own _ _ (fun _=>_)) _)) (Own.from (boxed_own _ _ (fun _=>_)) _)) (Own.from (boxed_own _ _ (fun _=>_)) _)) (ownFrom_below (dN _) af)) oo) (fun _ _ _ _ h _ _=>h))
  (fun cc=>OwnFrom.and (lV fun x=>OwnFrom.and (fun _ _ _ _ h _ _=>h) (OwnFrom.and (Own.from (boxed_own _ _ (fun _=>_)) _) (Own.from (boxed_own _ _ (fun _=>_)) _))) (ownFrom_below (dN _) af))
  ⟨⟨⟨⟨⟨⟨⟨⟨b0,b1⟩,b2⟩,b3⟩,b4⟩,b5⟩,J⟩,af⟩,bE⟩
  (fun x a' W=>(∃ S,(w.heap.size + 5 < S/\a'={ tmps:=#[g,zi c,zi q,undef,av w.heap.size 0,av (w.heap.size + 1) 0,av (w.heap.size + 1 + 1) 0,av (w.heap.size + 1 + 1 + 1) 0,zi (x.1:Int),av S 0,av g 0,.func (.func 166) #[] #[av (w.heap.size + 1 + 1 + 1 + 1 + 1) 0,av (w.heap.size + 1 + 1 + 1 + 1) 0],zi (x.1:Int),.agg #[zi x.2.client,zi x.2.seq,zi x.2.kind,zi x.2.id,zi x.2.eD,.string x.2.data],undef,undef,undef,undef,undef,undef,undef,undef,undef,undef,undef],defers:=[] })/\Bk W S 36 #[zi x.2.client,zi x.2.seq,zi x.2.kind,zi x.2.id,zi x.2.eD,.string x.2.data]))
  (fun x a'=>lV fun S=>OwnFrom.and (fun _ _ _ _ h _ _=>h) (Own.from (pJ _ _ (fun _=>_)) _))
  ?assign ?body ?done ?stop
 case assign=>
  rintro lp pre x W K ⟨⟨⟨⟨⟨⟨⟨⟨c0,c1⟩,c2⟩,c3⟩,c4⟩,c5⟩,d⟩,E⟩,f⟩ G
  gi_wp2
  exact G _ _ ((KeepsOthers.alloc _ _).from _) (Kc.mk' ((Kb.refl _ _ W).alloc d.size _) ((Kb.refl _ _ W).alloc d.size _)) ⟨⟨⟨⟨⟨⟨⟨⟨c0.alloc _,c1.alloc _⟩,c2.alloc _⟩,c3.alloc _⟩,c4.alloc _⟩,c5.alloc _⟩,d.ag _⟩,jR⟩,f⟩ ⟨W.heap.size,⟨af,rfl⟩,Bk.new W _ _⟩
 case body=>
  rintro lp pre x a' W hl ⟨r,hr⟩ ⟨⟨⟨⟨⟨⟨⟨⟨c0,c1⟩,c2⟩,c3⟩,c4⟩,c5⟩,d⟩,E⟩,f⟩ ⟨S,⟨hBx,rfl⟩,cX⟩ L
  have e0:=c0.cell
  have e1:=c1.cell
  have e2:=c2.cell
  have e3:=c3.cell
  have f2:=c2.frozen
  have f3:=c3.frozen
  obtain ⟨⟨y0,y1,y2,y3,y4,y5⟩,ly⟩:=lH cX
  by_cases C:x.2.client=c
  ·by_cases I:x.2.seq=q
   ·have u:tY c q x.2=true:=by unfold tY;rw [decide_eq_true C,decide_eq_true I];rfl
    have T:=aa u
    have q1:(x.2.client == c)=true:=by simpa using C
    have q2:(x.2.seq == q)=true:=by simpa using I
    clear C I u
    gi_wp2
    exact ⟨((KeepsOthers.setCell _ _ _).trans (KeepsOthers.setCell _ _ _)).from _,⟨x,⟨pre,rfl,T.o,rfl,f⟩,(c2.set _).other af _,(c3.other af _).set _⟩,
     Old.aJ (p:=⟨w.heap.size + 1 + 1 + 1,0,none⟩) (Old.aJ (p:=⟨w.heap.size + 1 + 1,0,none⟩) d (by show w.heap.size<=w.heap.size + 1 + 1;omega) _) (by show w.heap.size<=w.heap.size + 1 + 1 + 1;omega) _⟩
   ·have u:tY c q x.2=false:=by unfold tY;rw [decide_eq_false I,Bool.and_false]
    have T:=aa u
    have q1:(x.2.client == c)=true:=by simpa using C
    have q2:(x.2.seq == q)=false:=by simpa using I
    clear C I u
    gi_wp2
    exact ⟨(KeepsOthers.refl _).from _,Kc.refl _ _ _ _,⟨⟨⟨⟨⟨⟨⟨⟨c0,c1⟩,c2⟩,c3⟩,c4⟩,c5⟩,d⟩,E⟩,fun y hy=>by rcases List.mem_append.1 hy with hy | hy;exact f y hy;obtain rfl:y=x:=(by simpa using hy);exact T.o⟩⟩
  ·have u:tY c q x.2=false:=by unfold tY;rw [decide_eq_false C];rfl
   have T:=aa u
   have q1:(x.2.client == c)=false:=by simpa using C
   clear C u
   gi_wp2
   exact ⟨(KeepsOthers.refl _).from _,Kc.refl _ _ _ _,⟨⟨⟨⟨⟨⟨⟨⟨c0,c1⟩,c2⟩,c3⟩,c4⟩,c5⟩,d⟩,E⟩,fun y hy=>by rcases List.mem_append.1 hy with hy | hy;exact f y hy;obtain rfl:y=x:=(by simpa using hy);exact T.o⟩⟩
 case done=>
  rintro D ys W hD U ⟨⟨⟨⟨⟨⟨⟨⟨c0,c1⟩,c2⟩,c3⟩,c4⟩,c5⟩,d⟩,E⟩,f⟩ G
  have V:kY l.qs c q=0:=Ee fun y hy=>by
   obtain ⟨j,hj,hjy⟩:=List.mem_iff_getElem.1 hy
   have:=f (0 + j + 1,l.qs[0 + j]?.getD default) (by rw [U];exact ze.2 ⟨j,by have:=HN.o;omega,rfl⟩)
   simp only [mE] at this
   rw [gG hj,hjy] at this
   exact this
  have e2:=c2.cell
  have e3:=c3.cell
  have f2:=c2.frozen
  have f3:=c3.frozen
  have HZ:=aa V
  have d2:=(c2.set (zi 0)).other (B':=w.heap.size + 1 + 1 + 1) af (.bool false)
  have d3:=(c3.other (B':=w.heap.size + 1 + 1) af (zi 0)).set (.bool false)
  have hB2:=Old.aJ (p:=⟨w.heap.size + 1 + 1 + 1,0,none⟩) (Old.aJ (p:=⟨w.heap.size + 1 + 1,0,none⟩) d (by show w.heap.size<=w.heap.size + 1 + 1;omega) (zi 0)) (by show w.heap.size<=w.heap.size + 1 + 1 + 1;omega) (.bool false)
  have H:=((KeepsOthers.setCell W ⟨w.heap.size + 1 + 1,0,none⟩ (zi 0)).trans (KeepsOthers.setCell _ ⟨w.heap.size + 1 + 1 + 1,0,none⟩ (.bool false))).same D _ G rfl
  clear U f V c0 c1 c2 c3 c4 c5 G
  gi_wp2
  refine ⟨bE,.inl ⟨_,_,rfl,run_takeDeferred H,?_⟩⟩
  have X:=(Bk.put (show Bk _ _ _ #[_] from d2) H rfl (.deferred none)).cell 0
  have Y:=(Bk.put (show Bk _ _ _ #[_] from d3) H rfl (.deferred none)).cell 0
  simp at X Y
  refine ⟨.tuple #[zi 0,.bool false],by simp [results,Tryz.f241,go_sem,X,Y],?_,Old.put hB2 H af _⟩
  rw [HZ.o]
  rfl
 case stop=>
  rintro D cc pre W hD ⟨k,hk,z⟩ ⟨⟨x,⟨s,M,u,rfl,f⟩,c2,c3⟩,d⟩ G
  have hkl:k=s.length + 1:=by
   have:=jL l.qs 0 k
   rw [<- z,M,ja] at this
   simpa using this.symm
  subst hkl
  have O:s=mM l.qs 0 s.length/\x=(0 + s.length + 1,l.qs[0 + s.length]?.getD default):=by
   rw [oC] at z
   have:=List.append_inj (M.symm.trans z) (by rw [jL])
   exact ⟨this.1,by simpa using this.2⟩
  have V:kY l.qs c q=s.length + 1:=by
   obtain ⟨C,I⟩:=O
   have L:s.length < l.qs.length:=by have:=HN.o;omega
   refine Ef (j:=s.length) (q:=l.qs[s.length]) (gG L) ?_ fun i y hi hy=>?_
   ·rw [I] at u
    simp only [mE] at u
    rw [gG L] at u
    exact u
   ·have hm:(0 + i + 1,l.qs[0 + i]?.getD default)∈s:=by rw [C];exact ze.2 ⟨i,hi,rfl⟩
    have:=f _ hm
    simp only [mE,hy,Gu] at this
    exact this
  have Z:x.1=s.length + 1:=by rw [O.2];simp
  have HZ:=aa (show (x.1:Int)=kY l.qs c q/\(decide (kY l.qs c q≠0))=true by rw [V,Z];exact ⟨rfl,bE⟩)
  clear V Z O u f M z hk
  gi_wp2
  refine ⟨bE,.inl ⟨_,_,rfl,run_takeDeferred G,?_⟩⟩
  have X:=(Bk.put (show Bk _ _ _ #[_] from c2) G rfl (.deferred none)).cell 0
  have Y:=(Bk.put (show Bk _ _ _ #[_] from c3) G rfl (.deferred none)).cell 0
  simp at X Y
  refine ⟨.tuple #[zi (x.1:Int),.bool true],by simp [results,Tryz.f241,go_sem,X,Y],?_,Old.put d G af _⟩
  rw [<- HZ.o.1,HZ.o.2]
theorem Ob (g:Nat) (F:Nat->Prop) (l:dW) (N:Nat) (c q:Int) (f:l.qs.length=N) (d:N<=50000) (w:World) (h:eZ w g F l) :
 aS 241 #[g,zi c,zi q] w fun e W'=>
  e=.returned (.tuple #[zi (kY l.qs c q),.bool (decide (kY l.qs c q≠0))])/\Old w W':=callsIn_wide.1 (Oa g F l N c q f d w h)
end
section
open Go.RowKit Go.Shelf
attribute [local go_sem] Oper.semAt_some
theorem zh (g:Nat) (F:Nat->Prop) (l:dW) (n m:Int) (d:n < 0∨m < 1∨(l.qs.length:Int)<=n) (w:World) (h:eZ w g F l) :
 aS 65 #[g,zi n,zi m] w fun e w'=>e=.returned aQ/\Old w w':=
 Ed _ n m l.qs.length (.inr ⟨g,F,l,w,rfl,rfl,h,rfl⟩) w (fun W f=>AM g F l _ rfl W (h.old f)) d
def jh (qs:List aG) (n m:Int):List aG:=if n < 0 then [] else (qs.drop n.toNat).take m.toNat
end
abbrev aar:=List (Nat×TypeId×Array Value)
section
variable {w wr w':World} {g:Nat} {l:dW} {D:aar}
end
theorem Fb {l:dW} {q:aG} (h:l.may q=true):l.put q=⟨l.aI,l.qs ++ [q],l.k⟩/\l.err q=0/\l.at_ q=l.qs.length + 1:=by
 obtain ⟨d,e,f⟩:=dW.rY.1 h
 refine ⟨by unfold dW.put;rw [h];rfl,?_,by unfold dW.at_;rw [h];rfl⟩
 unfold dW.err
 rw [d,e]
 exact if_pos f
def dW.clean (l:dW) (i:Int):Bool:=decide (0<=i) && decide (i<=31) && decide (pQ l.qs i<=l.k)
def dW.dR (l:dW) (q:aG):om:=if Fv q.q then (if l.clean q.id then l.st.ask q.q else om.zero) else om.zero
def dW.dE (l:dW) (q:aG):Int:=if Fv q.q then (if l.clean q.id then 0 else 4) else 1
def dW.dA (l:dW) (q:aG):Nat:=if Fv q.q then (if l.clean q.id then l.k else 0) else 0
def aG.eqb (q r:aG):Bool:=decide (q.client=r.client) && decide (q.seq=r.seq) && decide (q.kind=r.kind) && decide (q.id=r.id) && decide (q.eD=r.eD) && decide (q.data=r.data)
structure bR where
 client:Int
 seq:Int
 ans:Bool
 q:aG
 r:om
 A:Option Addr
 cap:Nat
 at_:Int
instance:Inhabited bR:=⟨⟨0,0,false,default,om.zero,none,0,0⟩⟩
def bR.cells (a:bR):List Value:=[zi a.client,zi a.seq,.bool a.ans,zi a.q.client,zi a.q.seq,zi a.q.kind,zi a.q.id,zi a.q.eD,.string a.q.data,
 zi a.r.code,zi a.r.fQ,.string a.r.data,.slice a.A a.r.vs.length a.cap,zi a.at_]
def bR.same (a b:bR):Bool:=decide (a.client=b.client) && decide (a.seq=b.seq) && decide (a.ans=b.ans) && a.q.eqb b.q && decide (a.at_=b.at_) && a.r.same b.r
structure PV where
 n:Nat
 last:Int->Int
 wait:Int->Option aG
def PV.new:PV:=⟨0,fun _=>0,fun _=>none⟩
def PV.mV (s:PV) (q:aG):Int:=if q.q.may then (if (s.wait q.client).isSome then 4 else if s.last q.client < q.seq then 0 else 9) else 1
def PV.asked (s:PV) (q:aG):PV:=⟨s.n + 1,fun c=>if c=q.client then q.seq else s.last c,fun c=>if c=q.client then some q else s.wait c⟩
def PV.ask (s:PV) (q:aG):PV:=if s.mV q=0 then s.asked q else s
def PV.Eg (s:PV) (c q at_:Int):Int:=if at_ < 0∨1073741824 < at_ then 1 else match s.wait c with
 | none=>4
 | some r=>if r.seq=q then 0 else 4
def PV.answered (s:PV) (c:Int):PV:=⟨s.n + 1,s.last,fun x=>if x=c then none else s.wait x⟩
def PV.ans (s:PV) (c q at_:Int):PV:=if s.Eg c q at_=0 then s.answered c else s
def PV.isW (s:PV) (c:Int) (q:aG):Bool:=match s.wait c with
 | none=>false
 | some r=>r.eqb q
def PV.step (s:PV) (a:bR):Option PV:=
 if a.ans then (if s.Eg a.client a.seq a.at_=0/\s.isW a.client a.q=true then some (s.answered a.client) else none)
 else (if s.mV a.q=0/\a.client=a.q.client/\a.seq=a.q.seq/\a.at_=0/\a.r.same om.zero=true then some (s.asked a.q) else none)
structure uJ (w:World) (p:Nat) (cs:Array Value) (V:Value) (n:Nat) (xs:List Value):Prop where
 bk:Bk w p 167 cs
 row:w.ownsRow 0 51 14 V n xs
def nJ (w:World) (F:Nat->Prop) (v:Option Value) (q:Option aG):Prop:=match q with
 | none=>v=some (.pointer none)
 | some q=>∃ b,v=some (.pointer (some ⟨b,0,none⟩))/\Bk w b 36 #[.int .i64 q.client,.int .i64 q.seq,.int .i64 q.kind,.int .i64 q.id,.int .i64 q.eD,.string q.data]/\F b
structure IX (w:World) (cs:Array Value) (V:Value) (F:Nat->Prop) (s:PV):Prop where
 c0:cs[0]?=some V
 lc:∀ c:Nat,c < 4->cs[1 + c]?=some (zi (s.last c))
 wc:∀ c:Nat,c < 4->nJ w F cs[5 + c]? (s.wait c)
structure ru (w:World) (p:Nat) (F:Nat->Prop) (s:PV):Prop where
 ex:∃ cs V xs,uJ w p cs V s.n xs/\IX w cs V F s/\∀ b,V.ownBlock=some b->F b
 gF:F p
 lt:∀ k,F k->k < w.heap.size
 wn:∀ c,¬ (0<=c/\c < 4)->s.wait c=none
section
variable {w w':World} {p n:Nat} {cs:Array Value} {V:Value} {xs:List Value} {F S:Nat->Prop} {s:PV}
theorem uJ.fr (h:uJ w p cs V n xs) (d:Fr S w w') (e:¬ S p) (f:∀ b,V.ownBlock=some b->¬ S b):uJ w' p cs V n xs:=⟨h.bk.fr d e,dh h.row d f⟩
theorem uJ.old (h:uJ w p cs V n xs) (d:Old w w'):uJ w' p cs V n xs:=h.fr (S:=fun _=>False) (Fr.aj d) id (fun _ _=>id)
theorem uJ.ne (h:uJ w p cs V n xs):V.ownBlock≠some p:=aK h.row h.bk aW
theorem uJ.bH (h:uJ w p cs V n xs) (i:Nat) (u:Value):uJ (w.setCell ⟨p,i,none⟩ u) p (cs.setIfInBounds i u) V n xs:=⟨h.bk.bH i u,bz h.row h.ne u⟩
theorem nJ.fr {v:Option Value} {q:Option aG} (h:nJ w F v q) (e:Fr S w w') (f:∀ k,F k->¬ S k):nJ w' F v q:=by
 cases q with
 | none=>exact h
 | some q=>obtain ⟨b,g,i,d⟩:=h;exact ⟨b,g,i.fr e (f b d),d⟩
theorem nJ.mono {v:Option Value} {q:Option aG} {G:Nat->Prop} (h:nJ w F v q) (d:∀ k,F k->G k):nJ w G v q:=by
 cases q with
 | none=>exact h
 | some q=>obtain ⟨b,e,f,g⟩:=h;exact ⟨b,e,f,d b g⟩
theorem IX.fr (h:IX w cs V F s) (d:Fr S w w') (e:∀ k,F k->¬ S k):IX w' cs V F s:=⟨h.c0,h.lc,fun c f=>(h.wc c f).fr d e⟩
theorem ru.fr (h:ru w p F s) (d:Fr S w w') (e:∀ k,F k->¬ S k):ru w' p F s:=by
 obtain ⟨cs,V,xs,g,i,f⟩:=h.ex
 exact ⟨⟨cs,V,xs,g.fr d (e p h.gF) (fun b j=>e b (f b j)),i.fr d e,f⟩,h.gF,fun k l=>iD (h.lt k l) d.size,h.wn⟩
theorem uJ.app {w1 d:World} {ca c2:Nat} {A A2:Option Addr} {f:List Value} (h:uJ w p cs (.slice A n ca) n xs) (g:Old w w1) (h2:fZ w1 0 51 14 (.slice A n ca) (n + 1) f (.slice A2 (n + 1) c2) d) :
 uJ (d.setCell ⟨p,0,none⟩ (.slice A2 (n + 1) c2)) p (cs.setIfInBounds 0 (.slice A2 (n + 1) c2)) (.slice A2 (n + 1) c2) (n + 1) f/\
 Fr (fun b=>b=p∨(Value.slice A n ca).ownBlock=some b) w (d.setCell ⟨p,0,none⟩ (.slice A2 (n + 1) c2))/\
 (∀ b,(Value.slice A2 (n + 1) c2).ownBlock=some b->(Value.slice A n ca).ownBlock=some b∨w.heap.size<=b):=by
 have u:=g.size
 have l:=h.old g
 have m:Fr (fun b=>(Value.slice A n ca).ownBlock=some b) w1 d:=h2.fr (fun k _ i=>i)
 have j:∀ b,(Value.slice A2 (n + 1) c2).ownBlock=some b->(Value.slice A n ca).ownBlock=some b∨w1.heap.size=b:=fun b hb=>Ri
 have r:uJ d p cs (.slice A2 (n + 1) c2) (n + 1) f:=⟨l.bk.fr m l.ne,h2.own⟩
 refine ⟨r.bH 0 _,?_,fun b hb=>?_⟩
 ·exact Fr.setCell (p:=⟨p,0,none⟩) ((Fr.aj g).trans (m.mono fun k _ i=>.inr i)) (.inr (.inl rfl)) _
 ·rcases j b hb with e | e
  ·exact .inl e
  ·right;omega
end
def sI:Array Value:=#[aQ,zi 0,zi 0,zi 0,zi 0,.pointer none,.pointer none,.pointer none,.pointer none]
theorem Sb {w:World} {p:Nat} (h:Bk w p 167 sI):ru w p (fun k=>k=p) PV.new:=
 ⟨⟨sI,aQ,[],⟨h,World.ownsRow_nil _ _ _ _⟩,⟨rfl,fun c d=>by rcases (by omega:c=0∨c=1∨c=2∨c=3) with rfl | rfl | rfl | rfl <;> rfl,fun c d=>by rcases (by omega:c=0∨c=1∨c=2∨c=3) with rfl | rfl | rfl | rfl <;> rfl⟩,fun b e=>by simp [Value.ownBlock] at e⟩,rfl,fun k f=>f▸h.lt,fun _ _=>rfl⟩
def AO (w:World) (p n:Nat) (cells:List Value):Prop:=∃ b o ca,w.cell? ⟨p,0,none⟩=some (.slice (some ⟨b,o,none⟩) (n + 1) ca)/\b < w.heap.size/\∀ j u,cells[j]?=some u->w.cell? ⟨b,o + n * 14 + j,none⟩=some u
theorem uJ.last {w:World} {p n c2:Nat} {cs:Array Value} {A2:Option Addr} {xs d:List Value} (h:uJ w p cs (.slice A2 (n + 1) c2) (n + 1) (xs ++ d)) (g:cs[0]?=some (.slice A2 (n + 1) c2)) (i:xs.length=n * 14) (hy:d.length=14):AO w p n d:=by
 obtain ⟨b,o,rfl,k,f⟩:=ah.bA h.row (fun e=>by have:=congrArg List.length e;simp [hy] at this)
 refine ⟨b,o,c2,(h.bk.cell 0).trans g,k,fun j u l=>?_⟩
 have:=f (n * 14 + j) u (by rw [Dr af,i,Nat.add_sub_cancel_left];exact l)
 rwa [<- Nat.add_assoc] at this
def Kz (w:World) (p n:Nat) (w':World) (new:List Value):Prop:=∃ V xs V',w.cell? ⟨p,0,none⟩=some V/\w.ownsRow 0 51 14 V n xs/\w'.cell? ⟨p,0,none⟩=some V'/\w'.ownsRow 0 51 14 V' (n + 1) (xs ++ new)
end Go.Proofs.YthihpfpbiajddaaGreat
