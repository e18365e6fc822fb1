/- Parts of the proof. -/
import Derived.Test.YthihpfpbiajddaaGreatHQWorldNobody31
set_option maxRecDepth 100000
set_option maxHeartbeats 8000000
open Go.Proofs.Tryz
namespace Go.Proofs.YthihpfpbiajddaaGreat
open Go.RowKit
structure kD (w:World) (A:Option Addr) (l:List bR):Prop where
 row:ah w A (l.flatMap bR.cells)
 vs:∀ a∈l,aP w a.A a.r.vs
theorem vw (l:List bR):(l.flatMap bR.cells).length=l.length * 14:=by
 induction l with
 | nil=>rfl
 | cons q l ih=>
  have:q.cells.length=14:=rfl
  simp only [List.flatMap_cons,ja,iR,ih,this]
  omega
theorem Bv (l:List bR):∀ k j,k < l.length->j < 14->(l.flatMap bR.cells)[k * 14 + j]?=(l[k]?.getD default).cells[j]?:=by
 induction l with
 | nil=>intro k j h;simp at h
 | cons q l ih=>
  intro k j e f
  rw [List.flatMap_cons]
  have d:q.cells.length=14:=rfl
  cases k with
  | zero=>rw [BG (by rw [d];omega)];simp
  | succ k=>
   rw [Dr (by rw [d];omega),d,show (k + 1) * 14 + j - 14=k * 14 + j from by omega]
   simpa using ih k j (by simpa using e) f
theorem kD.at_ {w:World} {A:Option Addr} {l:List bR} (h:kD w A l) {k:Nat} (d:k < l.length) :
 ∃ b o,A=some ⟨b,o,none⟩/\b < w.heap.size/\∀ j u,j < 14->(l[k]?.getD default).cells[j]?=some u->w.cell? ⟨b,o + k * 14 + j,none⟩=some u:=by
 obtain ⟨b,o,rfl,f,g⟩:=h.row (fun e=>by have:=vw l;rw [e] at this;simp at this;omega)
 exact ⟨b,o,rfl,f,fun j u i m=>by rw [Nat.add_assoc];exact g _ _ ((Bv l k j d i).trans m)⟩
theorem kD.old {w w':World} {A:Option Addr} {l:List bR} (h:kD w A l) (d:Old w w'):kD w' A l:=⟨ah.old h.row d,fun a e=>ah.old (h.vs a e) d⟩
theorem YO {w:World} {b:Nat} {t:TypeId} {u0 u1 u2 u3 u4 u5 u6 u7 u8 u9 dF dD dK eu:Value} (h:Bk w b t #[u0,u1,u2,u3,u4,u5,u6,u7,u8,u9,dF,dD,dK,eu]) :
 (w.cell? ⟨b,0,none⟩=some u0/\w.cell? ⟨b,1,none⟩=some u1/\w.cell? ⟨b,2,none⟩=some u2/\w.cell? ⟨b,3,none⟩=some u3/\w.cell? ⟨b,4,none⟩=some u4/\w.cell? ⟨b,5,none⟩=some u5/\w.cell? ⟨b,6,none⟩=some u6/\
  w.cell? ⟨b,7,none⟩=some u7/\w.cell? ⟨b,8,none⟩=some u8/\w.cell? ⟨b,9,none⟩=some u9/\w.cell? ⟨b,10,none⟩=some dF/\w.cell? ⟨b,11,none⟩=some dD/\w.cell? ⟨b,12,none⟩=some dK/\w.cell? ⟨b,13,none⟩=some eu)/\b < w.heap.size:=
 ⟨⟨h.cell 0,h.cell 1,h.cell 2,h.cell 3,h.cell 4,h.cell 5,h.cell 6,h.cell 7,h.cell 8,h.cell 9,h.cell 10,h.cell 11,h.cell 12,h.cell 13⟩,h.lt⟩
theorem PT (F:Fence) (m:Nat) (h6:F.fn 96) (d:F.round=none) (p:Nat) (w:World) :
 CallsIn F m prog 96 #[p] w fun e w'=>e=.returned (.func (.func 158) #[] #[w.heap.size])/\w'=w.alloc (.cells #[p] 79):=by
 refine callsIn_of_wp func96 rfl h6 ?_ d
 simp only [ntmps96,List.size_toArray,iR,jV,Nat.reduceAdd,Nat.reduceSub,Array.replicate_succ,Array.replicate_zero,List.push_toArray,List.append_toArray,qz,xZ]
 gi_wp2
 go_ret
 exact ⟨rfl,rfl⟩
def Bw (a:bR):Array Value:=#[.agg a.cells.toArray]
def YP (l:List bR) (pre:List bR) (x:bR) (W:World):Prop:=pre.length < l.length/\(l[pre.length]?.getD default)={ x with A:=(l[pre.length]?.getD default).A,cap:=(l[pre.length]?.getD default).cap }/\W.ownsRow 0 3 1 (.slice x.A x.r.vs.length x.cap) x.r.vs.length (x.r.vs.map (Value.int .i64))
theorem xS {w:World} {b b':Nat} {e:TypeId} {size n:Nat} {V:Value} {xs:List Value} (h:w.ownsRow b e size V n xs) (i:b'<=b):w.ownsRow b' e size V n xs:=⟨h.1,h.2.imp id (fun ⟨g,d,f,e,j,r⟩=>⟨g,d,f,e,ic i j,r⟩)⟩
theorem Mw {w:World} {b:Nat} {e:TypeId} {size n:Nat} {V:Value} {xs:List Value} (h:w.ownsRow b e size V n xs):w.ownsRow 0 e size V n xs:=⟨h.1,h.2.imp id (fun ⟨g,d,f,e,_,r⟩=>⟨g,d,f,e,Nat.zero_le _,r⟩)⟩
def Alike (l' l:List bR):Prop:=l'.length=l.length/\∀ k,k < l.length->l[k]?.getD default={ l'[k]?.getD default with A:=(l[k]?.getD default).A,cap:=(l[k]?.getD default).cap }
theorem YQ (m:Nat) (hm:1<=m) (yl Z p n:Nat) (A:Option Addr) (ca:Nat) (l:List bR) (G:l.length=n) (Ql:n<=50000) (H:∀ a∈l,a.r.vs.length<=50000) (J:List bR->World->Prop)
 (hJ:∀ pre W,J pre W->W.cell? ⟨Z,0,none⟩=some (av p 0)/\Z < W.heap.size/\W.cell? ⟨p,0,none⟩=some (.slice A n ca)/\p < W.heap.size/\kD W A l) (I:∀ pre W W',J pre W->Old W W'->J pre W')
 (hY:∀ pre x W,J pre W->YP l pre x W->YieldAt Fence.wide (m - 1) prog yl (Bw x) W fun e W'=>e=.returned (.bool true)/\J (pre ++ [x]) W')
 (W:World) (h0:J [] W) :
 CallsIn Fence.wide m prog 158 #[.func (.yield yl) #[] #[],av Z 0] W fun e W'=>(∃ v,e=.returned v)/\∃ L,Alike L l/\J L W':=by
 obtain ⟨c0,cB,hV,cp,-⟩:=hJ _ _ h0
 have X:=aa G
 have HY:=aa hY
 have HJ:=aa hJ
 have HJO:=aa I
 have HVS:=aa H
 clear G hY hJ I H
 refine callsIn_of_wp func158 rfl trivial ?_ rfl
 simp only [ntmps158,List.size_toArray,iR,jV,Nat.reduceAdd,Nat.reduceSub,Array.replicate_succ,Array.replicate_zero,List.push_toArray,List.append_toArray,qz,xZ]
 gi_wp2
 gi_loopw [12] (fun i wr=>∃ k:Nat,k<=n/\i=zi (k:Int)/\kN (∃ pre,pre.length=k/\(∀ j,j < k->l[j]?.getD default={ pre[j]?.getD default with A:=(l[j]?.getD default).A,cap:=(l[j]?.getD default).cap })/\J pre wr)) (fun i _=>n - (intOf i).toNat)
 case atStart=>exact ⟨0,Nat.zero_le _,rfl,[],rfl,fun j hj=>af,h0⟩
 case round=>
  obtain ⟨k,hk,rfl,hI⟩:=hrel
  have HI:=aa hI.o
  obtain ⟨abL,-,-,B⟩:=hI.o
  obtain ⟨-,-,-,-,r⟩:=HJ.o _ _ B
  clear c0 cB hV cp
  by_cases K:k < n
  ·have s:k < l.length:=by have:=X.o;omega
   obtain ⟨b0,o,rfl,hb0,d⟩:=r.at_ (k:=k) s
   obtain ⟨x,M⟩:=aR (l[k]?.getD default)
   rw [M] at d
   have g:x∈l:=by rw [gG s] at M;exact (by simpa using M:l[k]=x)▸List.getElem_mem s
   obtain ⟨N,u⟩:=aR (x.r.vs.length)
   have cC:=aa (fun W' (hW:Old wr W')=>jg x.A N x.cap x.r.vs (by have:=HVS.o x g;omega) u.symm W' ((r.vs x g).old hW))
   have d0:=d 0 _ af rfl
   have d1:=d 1 _ af rfl
   have d2:=d 2 _ af rfl
   have d3:=d 3 _ af rfl
   have d4:=d 4 _ af rfl
   have d5:=d 5 _ af rfl
   have d6:=d 6 _ af rfl
   have d7:=d 7 _ af rfl
   have d8:=d 8 _ af rfl
   have d9:=d 9 _ af rfl
   have d10:=d 10 _ af rfl
   have d11:=d 11 _ af rfl
   have d12:=d 12 _ af rfl
   have d13:=d 13 _ af rfl
   simp only [u] at d12
   simp only [I9] at d0
   have HX:=aa M
   have O:=aa u
   have HK:=aa K
   have hkn:(k:Int) < (n:Int):=af
   obtain ⟨W1,C⟩:=aR (wr.alloc (.cells #[zi x.client,zi x.seq,.bool x.ans,zi x.q.client,zi x.q.seq,zi x.q.kind,zi x.q.id,zi x.q.eD,.string x.q.data,zi x.r.code,zi x.r.fQ,.string x.r.data,.slice x.A N x.cap,zi x.at_] 51))
   have o1:Old wr W1:=C▸(Old.refl' wr).ag _
   have P:=aa (show Bk W1 wr.heap.size 51 #[zi x.client,zi x.seq,.bool x.ans,zi x.q.client,zi x.q.seq,zi x.q.kind,zi x.q.id,zi x.q.eD,.string x.q.data,zi x.r.code,zi x.r.fQ,.string x.r.data,.slice x.A N x.cap,zi x.at_] from C▸Bk.new wr 51 _)
   have O1:=aa o1
   clear d M g u K hI o1 s B r
   have R:=P.o.cell 12
   have kl:=P.o.lt
   simp only [iZ,je,nW] at R
   gi_wp2_with (refine ⟨trivial,?_⟩;gi_at_call 61;refine (callsIn_wide.2 (cC.o W1 O1.o)).mono ?_;rintro e w2 ⟨A2,c2,rfl,h,Y⟩;obtain ⟨⟨z0,z1,z2,z3,z4,z5,z6,z7,z8,z9,z10,z11,z12,ZN⟩,zl⟩:=YO (P.o.old Y);have zf:=(P.o.old Y).frozen 12;have S:=aa h;have O2:=aa Y;clear R kl h Y C)
   have D:Old wr (w2.setCell ⟨wr.heap.size,12,none⟩ (.slice A2 N c2)):=(O1.o.trans' O2.o).aJ (dN _) _
   obtain ⟨W3,E⟩:=aR (w2.setCell ⟨wr.heap.size,12,none⟩ (.slice A2 N c2))
   rw [E] at D ⊢
   obtain ⟨pre,f,y,z⟩:=HI.o
   have T:W3.ownsRow 0 3 1 (.slice A2 x.r.vs.length c2) x.r.vs.length (x.r.vs.map (Value.int .i64)):=by
    rw [O.o,<- E]
    exact Mw (bz S.o (aK S.o (P.o.old O2.o) aW) _)
   obtain ⟨fn,tmps,assign,body,hy,hR⟩:=HY.o pre { x with A:=A2,cap:=c2 } W3 (HJO.o _ _ _ z D) ⟨by rw [f,X.o];exact HK.o,by rw [f,HX.o],T⟩
   unfold Bw bR.cells at hy
   rw [O.o] at hy
   have Un:=aa y
   have F:=aa f
   clear D E T y f z z0 z1 z2 z3 z4 z5 z6 z7 z8 z9 z10 z11 z12 ZN zl zf d0 d1 d2 d3 d4 d5 d6 d7 d8 d9 d10 d11 d12 d13 hb0
   gi_wp2
   refine hR.mono ?_
   rintro e W4 ⟨rfl,U⟩
   have Zz:=aa U
   clear U hR hy
   gi_wp2
   go_roundw
   case rel=>
    refine ⟨k + 1,HK.o,oP,aa ⟨pre ++ [{ x with A:=A2,cap:=c2 }],by simp [F.o],fun j hj=>?_,Zz.o⟩⟩
    by_cases hjk:j=k
    ·subst hjk
     rw [HX.o,<- F.o]
     simp
    ·rw [Un.o j af,BG (by rw [F.o];omega)]
   case measure=>
    have:=HK.o
    simp [intOf]
    omega
  ·have hkn:¬ (k:Int) < (n:Int):=by omega
   have V:k=n:=af
   have HF:=aa (show ∃ L,Alike L l/\J L wr by
    obtain ⟨pre,f,y,z⟩:=HI.o
    exact ⟨pre,⟨by rw [f,X.o,V],fun j hj=>y j (by rw [X.o] at hj;omega)⟩,z⟩)
   clear hI V HI B r
   gi_wp2
   go_end0
   exact ⟨⟨_,rfl⟩,HF.o⟩
section
attribute [local go_sem] Oper.semAt_some
theorem abn (p:Tmp) (x:Value) (T:Array Value):((#[p]:Array Tmp).zip #[x]).foldl (fun t (p,v)=>t.setIfInBounds p v) T=T.setIfInBounds p x:=bE
structure qP (w0:World) (p:Nat) (pre:List bR) (W:World):Prop where
 old:Old w0 W
 o:∃ V,Bk W w0.heap.size 46 #[V]/\W.ownsRow w0.heap.size 51 14 V pre.length (pre.flatMap bR.cells)
 bs:Bk W (w0.heap.size + 1) 79 #[p]
 vs:∀ a∈pre,W.ownsRow 0 3 1 (.slice a.A a.r.vs.length a.cap) a.r.vs.length (a.r.vs.map (Value.int .i64))
theorem qP.old' {w0 W W':World} {p:Nat} {pre:List bR} (h:qP w0 p pre W) (d:Old W W'):qP w0 p pre W':=by
 obtain ⟨V,e,f⟩:=h.o
 exact ⟨h.old.trans' d,⟨V,e.old d,bF f d⟩,h.bs.old d,fun a g=>bF (h.vs a g) d⟩
theorem xU {W:World} {b:Nat} {e:TypeId} {size n:Nat} {V:Value} {xs:List Value} (g:W.ownsRow b e size V n xs) {D:Nat} {o:Obj} (d:W.heap[D]?=some o) (h:o.isCells=false) {k:Nat} (i:V.ownBlock=some k):k≠D:=fun e=>by
 subst e
 obtain ⟨-,j,f⟩:=iO g i
 unfold Bk at f
 rw [f] at d
 cases d
 cases h
theorem By {W:World} {b:Nat} {e:TypeId} {size n:Nat} {V:Value} {xs:List Value} (d:W.ownsRow b e size V n xs) {D:Nat} {o:Obj} (g:W.heap[D]?=some o) (h:o.isCells=false) (f:Obj):(W.putObj D f).ownsRow b e size V n xs:=
 dh d (Fr.gU (S:=fun k=>k=D) (grownBy_putObj' W D f) (fun k _ e=>by cases e;rfl)) (fun _ i=>xU d g h i)
theorem qP.put {w0 W:World} {p:Nat} {pre:List bR} (h:qP w0 p pre W) {D:Nat} {o:Obj} (hd:w0.heap.size<=D) (e:W.heap[D]?=some o) (f:o.isCells=false) (d:Obj):qP w0 p pre (W.putObj D d):=by
 obtain ⟨V,g,i⟩:=h.o
 exact ⟨h.old.put e hd d,⟨V,g.put e f d,By i e f d⟩,h.bs.put e f d,fun a j=>By (h.vs a j) e f d⟩
theorem qP.more {w0 W d:World} {p:Nat} {pre:List bR} {x:bR} {V f:Value} (h:qP w0 p pre W) (m:Bk W w0.heap.size 46 #[V]) (C:W.ownsRow 0 3 1 (.slice x.A x.r.vs.length x.cap) x.r.vs.length (x.r.vs.map (Value.int .i64))) (y:d.ownsRow w0.heap.size 51 14 f (pre.length + 1) (pre.flatMap bR.cells ++ x.cells)) (r:W.grownBy d V.ownBlock) (z:w0.heap.size + 1 < W.heap.size) :
 qP w0 p (pre ++ [x]) (d.setCell ⟨w0.heap.size,0,none⟩ f)/\d.frozen? ⟨w0.heap.size,0,none⟩=false/\(∃ v,d.cell? ⟨w0.heap.size,0,none⟩=some v)/\w0.heap.size < d.heap.size/\Fr (fun k=>k=w0.heap.size∨V.ownBlock=some k) W (d.setCell ⟨w0.heap.size,0,none⟩ f):=by
 obtain ⟨V',D,s⟩:=h.o
 obtain rfl:V=V':=by
  have A:=m.cell 0
  rw [D.cell 0] at A
  exact (Option.some.inj A).symm
 have B:=Fr.gU (S:=fun k=>V.ownBlock=some k) r (fun k _ g=>g)
 have i:Bk d w0.heap.size 46 #[V]:=m.grown r (Ne.symm (aK s m aW))
 have j:∀ {n:Nat} {U:Value} {xs:List Value},W.ownsRow 0 3 1 U n xs->(d.setCell ⟨w0.heap.size,0,none⟩ f).ownsRow 0 3 1 U n xs:=fun u=>by
  refine bz (dh u B (fun k g e=>?_)) (fun e=>?_) _
  ·obtain ⟨-,E,z⟩:=iO u g
   exact aK s z aW e
  ·exact aK u m aW e
 refine ⟨⟨?_,⟨f,?_,?_⟩,?_,fun a l=>?_⟩,i.frozen 0,⟨_,i.cell 0⟩,i.lt,(B.mono fun _ _ e=>.inr e).setCell (p:=⟨w0.heap.size,0,none⟩) (.inr (.inl rfl)) _⟩
 ·exact Old.aJ (h.old.grown r h.old.size (fun k g=>(iO s g).1)) (dN _) _
 ·simpa using i.bH 0 f
 ·have h9:=bz y (p:=⟨w0.heap.size,0,none⟩) (aK y i aW) f
  rw [ja,List.flatMap_append]
  simpa using h9
 ·exact (h.bs.grown r (Ne.symm (aK s h.bs aW))).far (by show w0.heap.size + 1≠w0.heap.size;omega) _
 ·rcases List.mem_append.1 l with l | l
  ·exact j (h.vs a l)
  ·rw [List.mem_singleton.1 l];exact j C
theorem YR (p n:Nat) (A:Option Addr) (ca:Nat) (l:List bR) (S:l.length=n) (Ql:n<=50000) (T:∀ a∈l,a.r.vs.length<=50000) (w:World) (hp:w.cell? ⟨p,0,none⟩=some (.slice A n ca)) (U:p < w.heap.size) (hA:kD w A l) :
 aS 43 #[p] w fun e w'=>∃ A' c' L,e=.returned (.slice A' n c')/\Alike L l/\kD w' A' L/\Old w w':=by
 have HP:=aa hp
 have X:=aa U
 have HA:=aa hA
 have HL:=aa S
 have HVS:=aa T
 clear hp U hA S T
 refine callsIn_wide.1 (callsIn_of_wp_marks (n:=5) func43 rfl trivial ?_ rfl)
 simp only [ntmps43,List.size_toArray,iR,jV,Nat.reduceAdd,Nat.reduceSub,Array.replicate_succ,Array.replicate_zero,List.push_toArray,List.append_toArray,qz,xZ]
 refine wpIn_mono (Q:=Ug _) ?_ (fun _ _ _ h=>h.o)
 refine wpIn_wide.2 ?_
 have cA:=aa (fun W=>callsIn_wide.1 (PT Fence.wide 5 trivial rfl p W))
 obtain ⟨w1,k⟩:∃ x,x=w.alloc (.cells #[aQ] 46):=⟨_,rfl⟩
 have B1:=aa (show Bk w1 w.heap.size 46 #[aQ] from k▸Bk.new w _ _)
 have O1:=aa (show Old w w1 from k▸(Old.refl' w).ag _)
 have S1:=aa (show w1.heap.size=w.heap.size + 1 by rw [k,jW])
 go_wp2_with fail
 rw [<- k]
 clear k
 refine (cA.o w1).mono ?_
 rintro e f ⟨rfl,y⟩
 rw [S1.o]
 have B2:=aa (show Bk f (w.heap.size + 1) 79 #[p] from S1.o▸y▸Bk.new w1 _ _)
 have O2:=aa (show Old w1 f from y▸(Old.refl' w1).ag _)
 have S2:=aa (show f.heap.size=w.heap.size + 1 + 1 by rw [y,jW,S1.o])
 clear y
 go_wp2_with fail
 refine (wpIn_wide (n:=5)).1 ?_
 refine zD (α:=bR) (F:=Fence.wide) rfl aW (gf:=158) (lb:=#[av (w.heap.size + 1) 0]) rfl trivial (enters_of func158 ay rfl) Bw (fun _=>rfl) (YP l) (fun L=>Alike L l) (fun pre W=>qP w p pre W/\∃ r,W.heap[f.heap.size + 1]?=some (.loop r)) ?h0 ?hI ?OD ?hseq ?oI ?hdone
 case h0=>
  intro r
  have o8:Old f ((f.alloc (.deferred (some []))).alloc (.loop r)):=((Old.refl' f).ag _).ag _
  exact ⟨⟨(O1.o.trans' O2.o).trans' o8,⟨_,(B1.o.old O2.o).old o8,World.ownsRow_nil _ _ _ _⟩,B2.o.old o8,fun a ha=>by cases ha⟩,r,by have:=World.alloc_heap_new (f.alloc (.deferred (some []))) (.loop r);rwa [jW] at this⟩
 case OD=>exact fun pre W W' h ho=>⟨h.1.old' ho,h.2.elim fun r Y=>⟨r,(ho.block _ (Array.getElem?_eq_some_iff.1 Y).1).trans Y⟩⟩
 case hI=>
  rintro pre W r ⟨h,r0,Y⟩
  exact ⟨h.put (by have:=S2.o;omega) Y rfl _,r,World.putObj_heap_same (Array.getElem?_eq_some_iff.1 Y).1⟩
 case hseq=>
  intro J W' hJ Zt h0 hY
  exact YQ 4 aW (f.heap.size + 1) (w.heap.size + 1) p n A ca l HL.o Ql HVS.o J (fun pre W hj=>by
   have h9:=(hJ _ _ hj).1
   have hc:=h9.bs.cell 0
   simp only [iZ,je] at hc
   exact ⟨hc,h9.bs.lt,(h9.old.cell (p:=⟨p,0,none⟩) X.o).trans HP.o,iD X.o h9.old.size,HA.o.old h9.old⟩) Zt hY W' h0
 case oI=>
  rintro pre x W' ⟨hI,-⟩ ⟨I,hxe,Z⟩ hd ⟨r,hl⟩
  obtain ⟨g,K⟩:=aR (x.r.vs.length)
  have HVN:=aa K
  have HI:=aa hI
  have HXO:=aa Z
  have HD:=aa hd
  have Ud:=aa hl
  have Fp:=aa (show pre.length < n by rw [HL.o] at I;exact I)
  have ldw:f.heap.size + 1 < W'.heap.size:=(Array.getElem?_eq_some_iff.1 hl).1
  have z:=aa ldw
  unfold Bw bR.cells
  rw [K]
  clear hI I hxe Z hd hl K ldw
  dsimp only
  rw [abn]
  simp only [ZR,fJ,fM]
  gi_wp2
  refine ⟨Below.heap_alloc _ _ _ (by have:=z.o;omega),Below.heap_alloc _ _ _ z.o,fun r9=>?_⟩
  have G:(W'.alloc (.cells #[zi x.client,zi x.seq,.bool x.ans,zi x.q.client,zi x.q.seq,zi x.q.kind,zi x.q.id,zi x.q.eD,.string x.q.data,zi x.r.code,zi x.r.fQ,.string x.r.data,.slice x.A g x.cap,zi x.at_] 51)).heap[f.heap.size + 1]?=some (.loop r):=(Below.heap_alloc _ _ _ z.o).trans Ud.o
  have e0:(W'.alloc (.cells #[zi x.client,zi x.seq,.bool x.ans,zi x.q.client,zi x.q.seq,zi x.q.kind,zi x.q.id,zi x.q.eD,.string x.q.data,zi x.r.code,zi x.r.fQ,.string x.r.data,.slice x.A g x.cap,zi x.at_] 51)).heap[f.heap.size]?=some (.deferred (some [])):=(Below.heap_alloc _ _ _ (by have:=z.o;omega)).trans HD.o
  have oa:Old W' (W'.alloc (.cells #[zi x.client,zi x.seq,.bool x.ans,zi x.q.client,zi x.q.seq,zi x.q.kind,zi x.q.id,zi x.q.eD,.string x.q.data,zi x.r.code,zi x.r.fQ,.string x.r.data,.slice x.A g x.cap,zi x.at_] 51)):=(Old.refl' W').ag _
  have h9:=(HI.o.old' oa).put (by have:=S2.o;omega) G rfl (.loop r9)
  have M:=(Bk.new W' 51 #[zi x.client,zi x.seq,.bool x.ans,zi x.q.client,zi x.q.seq,zi x.q.kind,zi x.q.id,zi x.q.eD,.string x.q.data,zi x.r.code,zi x.r.fQ,.string x.r.data,.slice x.A g x.cap,zi x.at_]).put G rfl (.loop r9)
  have m:=By (bF HXO.o oa) G rfl (.loop r9)
  have B:((W'.alloc (.cells #[zi x.client,zi x.seq,.bool x.ans,zi x.q.client,zi x.q.seq,zi x.q.kind,zi x.q.id,zi x.q.eD,.string x.q.data,zi x.r.code,zi x.r.fQ,.string x.r.data,.slice x.A g x.cap,zi x.at_] 51)).putObj (f.heap.size + 1) (.loop r9)).heap[f.heap.size]?=some (.deferred (some [])):=(World.putObj_heap_other af).trans e0
  have C:((W'.alloc (.cells #[zi x.client,zi x.seq,.bool x.ans,zi x.q.client,zi x.q.seq,zi x.q.kind,zi x.q.id,zi x.q.eD,.string x.q.data,zi x.r.code,zi x.r.fQ,.string x.r.data,.slice x.A g x.cap,zi x.at_] 51)).putObj (f.heap.size + 1) (.loop r9)).heap[f.heap.size + 1]?=some (.loop r9):=World.putObj_heap_same (Array.getElem?_eq_some_iff.1 G).1
  obtain ⟨W1,hW1⟩:=aR ((W'.alloc (.cells #[zi x.client,zi x.seq,.bool x.ans,zi x.q.client,zi x.q.seq,zi x.q.kind,zi x.q.id,zi x.q.eD,.string x.q.data,zi x.r.code,zi x.r.fQ,.string x.r.data,.slice x.A g x.cap,zi x.at_] 51)).putObj (f.heap.size + 1) (.loop r9))
  rw [hW1] at h9 M m B C ⊢
  obtain ⟨V,H,d⟩:=h9.o
  obtain ⟨R,vc,rfl,-⟩:=bI d
  have v0:=H.cell 0
  have vl:=H.lt
  simp only [iZ,je] at v0
  obtain ⟨⟨z0,z1,z2,z3,z4,z5,z6,z7,z8,z9,z10,z11,z12,ZN⟩,zl⟩:=YO M
  have Uj:=h9.bs.lt
  have HM:=aa (fun V2 W2 (hA:W2.ownsRow w.heap.size 51 14 V2 (pre.length + 1) (pre.flatMap bR.cells ++ [zi x.client,zi x.seq,.bool x.ans,zi x.q.client,zi x.q.seq,zi x.q.kind,zi x.q.id,zi x.q.eD,.string x.q.data,zi x.r.code,zi x.r.fQ,.string x.r.data,.slice x.A g x.cap,zi x.at_])) (hg:(W1.alloc (.cells #[zi x.client,zi x.seq,.bool x.ans,zi x.q.client,zi x.q.seq,zi x.q.kind,zi x.q.id,zi x.q.eD,.string x.q.data,zi x.r.code,zi x.r.fQ,.string x.r.data,.slice x.A g x.cap,zi x.at_] 51)).grownBy W2 (Value.slice R pre.length vc).ownBlock)=>(h9.old' ((Old.refl' W1).ag (.cells #[zi x.client,zi x.seq,.bool x.ans,zi x.q.client,zi x.q.seq,zi x.q.kind,zi x.q.id,zi x.q.eD,.string x.q.data,zi x.r.code,zi x.r.fQ,.string x.r.data,.slice x.A g x.cap,zi x.at_] 51))).more (x:=x) (H.alloc _) (m.alloc _) (by unfold bR.cells;rw [HVN.o];exact hA) hg (by rw [jW];omega))
  have HR:=aa d
  have N:=aa (show (W1.alloc (.cells #[zi x.client,zi x.seq,.bool x.ans,zi x.q.client,zi x.q.seq,zi x.q.kind,zi x.q.id,zi x.q.eD,.string x.q.data,zi x.r.code,zi x.r.fQ,.string x.r.data,.slice x.A g x.cap,zi x.at_] 51)).heap[f.heap.size]?=some (.deferred (some [])) from (Below.heap_alloc _ _ _ (Array.getElem?_eq_some_iff.1 B).1).trans B)
  have O:=aa (show (W1.alloc (.cells #[zi x.client,zi x.seq,.bool x.ans,zi x.q.client,zi x.q.seq,zi x.q.kind,zi x.q.id,zi x.q.eD,.string x.q.data,zi x.r.code,zi x.r.fQ,.string x.r.data,.slice x.A g x.cap,zi x.at_] 51)).heap[f.heap.size + 1]?=some (.loop r9) from (Below.heap_alloc _ _ _ (Array.getElem?_eq_some_iff.1 C).1).trans C)
  have HW9:=aa (show w.heap.size<=(W1.alloc (.cells #[zi x.client,zi x.seq,.bool x.ans,zi x.q.client,zi x.q.seq,zi x.q.kind,zi x.q.id,zi x.q.eD,.string x.q.data,zi x.r.code,zi x.r.fQ,.string x.r.data,.slice x.A g x.cap,zi x.at_] 51)).heap.size by rw [jW];omega)
  obtain ⟨i0,hi,hz0,hz1,hz2⟩:=info_parts xH
  clear h9 M m B C H d Uj e0 G oa hW1
  gi_wp2_with (gi_at_builtin;refine wpListIn_append_own _ rfl _ _ 46 rfl w.heap.size 51 i0 (.agg #[zi 0,zi 0,.bool false,zi 0,zi 0,zi 0,zi 0,zi 0,.string { data:=#[] },zi 0,zi 0,.string { data:=#[] },aQ,zi 0]) 14 144 underlying46 hi hz0 hz1 hz2 rfl aW _ _ _ rfl (HR.o.alloc _) ⟨W1.heap.size,0,none⟩ 1 1 [zi x.client,zi x.seq,.bool x.ans,zi x.q.client,zi x.q.seq,zi x.q.kind,zi x.q.id,zi x.q.eD,.string x.q.data,zi x.r.code,zi x.r.fQ,.string x.r.data,.slice x.A g x.cap,zi x.at_] rfl rfl (fun j u hj=>by rw [lS];exact (Bk.new W1 51 #[zi x.client,zi x.seq,.bool x.ans,zi x.q.client,zi x.q.seq,zi x.q.kind,zi x.q.id,zi x.q.eD,.string x.q.data,zi x.r.code,zi x.r.fQ,.string x.r.data,.slice x.A g x.cap,zi x.at_]).cell (0 + j) |>.trans (by rw [mE];simpa using hj)) tC (by have:=Fp.o;unfold maxLen;omega) (by have:=Fp.o;omega) HW9.o ?_;intro v' w9 i s h3;obtain ⟨g',cap',rfl⟩:=ownsRow_succ i;obtain ⟨m1,m2,⟨m3v,m3⟩,m4,m5⟩:=HM.o _ _ i s;have M1:=aa m1;have M5:=aa m5;clear m1 m5 i s h3)
  unfold Ev
  dsimp only
  have hne:∀ D o,(W1.alloc (.cells #[zi x.client,zi x.seq,.bool x.ans,zi x.q.client,zi x.q.seq,zi x.q.kind,zi x.q.id,zi x.q.eD,.string x.q.data,zi x.r.code,zi x.r.fQ,.string x.r.data,.slice x.A g x.cap,zi x.at_] 51)).heap[D]?=some o->o.isCells=false->D≠w.heap.size->¬ (D=w.heap.size∨(Value.slice R pre.length vc).ownBlock=some D):=fun D o hD hc hn h=>by
   rcases h with h | h
   ·exact hn h
   ·exact xU (HR.o.alloc _) hD hc h rfl
  have:=S2.o
  have k0:=(M5.o.block _ (Array.getElem?_eq_some_iff.1 N.o).1 (hne _ _ N.o rfl af)).trans N.o
  have k1:=(M5.o.block _ (Array.getElem?_eq_some_iff.1 O.o).1 (hne _ _ O.o rfl af)).trans O.o
  exact ⟨k0,k1,M1.o,r9,k1⟩
 case hdone=>
  rintro L W' hL ⟨hI,-⟩ hd
  have hD:=hd
  have h9:=hI.put (by have:=S2.o;omega) hd rfl (.deferred none)
  obtain ⟨V,H,d⟩:=h9.o
  obtain ⟨R,vc,rfl,-⟩:=bI d
  have HZ:=aa (show kD (W'.putObj f.heap.size (.deferred none)) R L/\Old w (W'.putObj f.heap.size (.deferred none)) from ⟨⟨ah.bA d,fun a ha=>ah.bA (h9.vs a ha)⟩,h9.old⟩)
  have Un:=aa hL
  have hLn:L.length=n:=hL.1.trans HL.o
  rw [hLn] at H
  obtain ⟨V',E,P⟩:=hI.o
  have e9:V'=.slice R n vc:=by
   have G:=(E.put hd rfl (.deferred none)).cell 0
   rw [H.cell 0] at G
   exact (Option.some.inj G).symm
  subst e9
  have v0:=E.cell 0
  have vl:=E.lt
  simp only [iZ,je] at v0
  clear h9 H d P E hI hL hd
  go_wp2_with fail
  unfold Ug
  dsimp only
  refine ⟨bE,.inl ⟨_,_,rfl,run_takeDeferred hD,?_⟩⟩
  exact ⟨_,by simp [results,Tryz.f43,go_sem],R,vc,L,rfl,Un.o,HZ.o.1,HZ.o.2⟩
end
def Mx (base N:Nat) (xs:List Value) (v:Value) (w:World):Prop:=∃ A c,v=.slice A N c/\w.ownsRow base 36 6 (.slice A N c) N xs
instance (base N:Nat) (xs:List Value):uT Old (Mx base N xs):=⟨fun _ _ _ ho ⟨A,c,h1,h2⟩=>⟨A,c,h1,bF h2 ho⟩⟩
section
variable {w w':World} {own own':Nat->Tag} {c W:Nat} {u:bV} {gs cs:List Nat} {l:List bR} {s:WV}
theorem Alike.strip {L l:List bR} (h:Alike L l):L.map bR.strip=l.map bR.strip:=by
 apply List.ext_getElem?
 intro k
 rw [List.getElem?_map,List.getElem?_map]
 by_cases d:k < l.length
 ·have e:=h.2 k d
  have f:k < L.length:=by rw [h.1];exact d
  rw [gG d,gG f] at e ⊢
  simp only [Gu,Option.map_some,Option.some.injEq] at e ⊢
  rw [e]
  rfl
 ·rw [Jb (by rw [h.1];omega),Jb af]
theorem YS (h:gZ w own c W u gs cs l s) (n:Nat) (E:s.acts.length=n) (p:n<=50000) (i:∀ a∈s.acts,a.r.vs.length<=50000) :
 aS 12 #[W] w fun e w'=>∃ A r L,e=.returned (.slice A n r)/\L.map bR.strip=s.acts/\kD w' A L/\Old w w':=by
 have f:l.length=n:=by rw [<- E,<- h.acts,List.length_map]
 have g:=h.past
 obtain ⟨V,x,d,y⟩:=(g:Dn w u.pp _ _ s.past l).row
 obtain ⟨A,ca,rfl,z,B⟩:=bI d
 have j:s.past.n=n:=by rw [<- f];exact (g:Dn w u.pp _ _ s.past l).len.symm
 rw [j] at x d
 have k:kD w A l:=⟨ah.bA d,fun a C=>((g:Dn w u.pp _ _ s.past l).rep a C).1⟩
 have m:u.pp < w.heap.size:=(g:Dn w u.pp _ _ s.past l).at_.lt _ (g:Dn w u.pp _ _ s.past l).at_.gF
 have I:=aa (YR u.pp n A ca l f p (fun a C=>by
  have:=i a.strip (by rw [<- h.acts];exact List.mem_map.2 ⟨a,C,rfl⟩)
  exact this) w x m k)
 have D:=aa h.acts
 obtain ⟨-,-,-,-,-,-,c7,J⟩:=h.cells
 clear h E i g x d y z B j k m f
 go_enter func12,ntmps12
 go_wp2_with fail
 refine I.o.mono ?_
 rintro e w1 ⟨A',r,L,rfl,F,G,H⟩
 have K:=aa (show L.map bR.strip=s.acts/\kD w1 A' L/\Old w w1 from ⟨F.strip.trans D.o,G,H⟩)
 clear F G H c7 J
 go_wp2_with fail
 go_ret
 exact ⟨A',r,L,rfl,K.o⟩
theorem abo (h:gZ w own c W u gs cs l s) (i:Nat) (n:dM) (G:s.nodes[i]?=some n) (m:n.up=true) (N:Nat) (M:n.kept.log.qs.length=N) (r:N<=50000) :
 aS 20 #[W,zi (i:Int)] w fun e w'=>∃ A O,e=.returned (.slice A N O)/\w'.ownsRow w.heap.size 36 6 (.slice A N O) N (n.kept.log.qs.flatMap aG.cells)/\Old w w':=by
 have H:i < s.nodes.length:=(List.getElem?_eq_some_iff.1 G).1
 obtain ⟨d,f⟩:=aR (gs[i]?.getD 0)
 have x:gs[i]?=some d:=by rw [<- f,gG (by have:=h.len;omega)];rfl
 have U:=aa (WOf h i (some d) (by rw [if_pos (by omega),EZ];exact x))
 have F:=h.node i n G
 rw [f] at F
 obtain ⟨p,I⟩:=F.ex
 have y:=aa (show eZ w p.lg (fun k=>own k=bM c i 6) n.kept.log from I.at_ 6)
 have P:=aa (aV.ub (I.at_ 3):aV w (fun k=>own k=bM c i 3) (fun k=>own k=aB) W d p n)
 have R:=aa F.self
 have J:=aa m
 have S:=aa M
 clear h H f x F I G m M
 go_enter func20,ntmps20
 go_wp2_with fail
 refine U.o.mono ?_
 rintro e w1 ⟨rfl,K⟩
 unfold xF
 obtain ⟨u0,u1,u2,u3,u4,u5,u6,u8,u9,dF,dD,dK,eu,aX,V⟩:=(P.o.old K).c R.o
 rw [show n.up=true from J.o] at u2
 have z:=aa K
 clear u0 u1 u3 u4 u5 u6 u8 u9 dF dD dK eu aX K
 go_wp2_with fail
 refine bG Old w1 [.val d,.val d,.val (av d 4),.val (av d 5),.val p.lg,.val d,.val d,.val (av d 4),.val (av d 5),.val p.lg,.val (zi (N:Nat)),.rel (Mx w1.heap.size N (n.kept.log.qs.flatMap aG.cells)),.rel (Mx w1.heap.size N (n.kept.log.qs.flatMap aG.cells))] ((Old.refl' _).drew') ?st ?en
 case st=>
  refine .cons (sp [] [(5,d)] ?_)<|.cons (sp [(0,18)] [] ?_)<|.cons (sp [(1,19)] [] ?_)<|.cons (sp [(2,20)] [] ?_)<|.cons (sp [(3,21)] [] ?_)<|.cons (sp [] [(5,d)] ?_)<|.cons (sp [(5,23)] [] ?_)<|.cons (sp [(6,24)] [] ?_)<|.cons (sp [(7,25)] [] ?_)<|.cons (sp [(8,26)] [] ?_)<|.cons (sc 59 func59 [(9,27)] [] _ ?c10)<|.cons (sc 65 func65 [(4,22),(10,28)] [] _ ?c11)<|.cons (sp [(11,29)] [] ?c12)<|.nil
  case c10=>
   intro E w' g L
   rintro X
   exact ⟨_,jQ,.of (AM p.lg _ n.kept.log N S.o w' ((y.o.old z.o).old g)) fun e Y h=>⟨_,h.1,rfl,by first | exact h.2 | (rw [h.2];exact Old.refl' _)⟩⟩
  case c11=>
   intro E w' g L
   rintro Z e28
   exact ⟨_,jQ,.of (KD p.lg _ n.kept.log N S.o r w' ((y.o.old z.o).old g)) fun e Y h=>by obtain ⟨A,c,h1,h2,h3⟩:=h;exact ⟨_,h1,⟨A,c,rfl,xS h2 g.size⟩,h3⟩⟩
  case c12=>
   intro E w' g L hf
   rintro _ ⟨B,c9,rfl,j⟩ e29
   exact ⟨_,dP,⟨B,c9,rfl,j⟩⟩
  all_goals
   intro E w' g L hf
   obtain ⟨u0,u1,u2,u3,u4,u5,u6,u8,u9,dF,dD,dK,eu,aX,V⟩:=((P.o.old z.o).old g).c R.o
   clear u0 u1 u2 u3 u4 u6 u8 u9 dF dD dK eu aX
   repeat intro _
   exact ⟨_,dP,rfl⟩
 case en=>
  intro jA T C
  iterate 11 refine Ends.eqv _ _ rfl (fun _ h=>h) ?_
  refine Ends.ex _ rfl ?_
  rintro _ _ ⟨B,c9,rfl,j⟩
  refine Ends.ex _ rfl ?_
  rintro _ _ ⟨B,c9,rfl,D⟩
  refine Ends.nil ?_
  simp only [aC,ax,fM,fJ]
  have HZ:=aa (show T.ownsRow w.heap.size 36 6 (.slice B N c9) N (n.kept.log.qs.flatMap aG.cells)/\Old w T from ⟨xS D z.o.size,z.o.trans' C⟩)
  clear D C j
  go_wp2_with fail
  go_ret
  exact ⟨B,c9,rfl,HZ.o⟩
end
structure Q0 (w:World) (A:Option Addr) (l:List bC):Prop where
 ex:∃ rs:List iU,rs.map (·.1)=l/\ah w A (rs.flatMap iU.cells)/\∀ x∈rs,aP w x.2.1 x.1.nodes
theorem xV (l:List iU):(l.flatMap iU.cells).length=l.length * 2:=by
 induction l with
 | nil=>rfl
 | cons q l ih=>
  have:q.cells.length=2:=rfl
  simp only [List.flatMap_cons,ja,iR,ih,this]
  omega
theorem uQ (l:List iU):∀ k j,k < l.length->j < 2->(l.flatMap iU.cells)[k * 2 + j]?=(l[k]?.getD (.zero,none,0)).cells[j]?:=by
 induction l with
 | nil=>intro k j h;simp at h
 | cons q l ih=>
  intro k j e f
  rw [List.flatMap_cons]
  have d:q.cells.length=2:=rfl
  cases k with
  | zero=>rw [BG (by rw [d];omega)];simp
  | succ k=>
   rw [Dr (by rw [d];omega),d,show (k + 1) * 2 + j - 2=k * 2 + j from by omega]
   simpa using ih k j (by simpa using e) f
section
variable {w w':World} {own own':Nat->Tag} {c W:Nat} {u:bV} {gs cs:List Nat} {l:List bR} {s:WV}
structure Q6 (w0:World) (rs:List iU) (k:Nat) (V:Value) (W:World):Prop where
 old:Old w0 W
 ex:∃ rt:List iU,rt.map (·.1)=(rs.take k).map (·.1)/\W.ownsRow w0.heap.size 59 2 V k (rt.flatMap iU.cells)/\∀ x∈rt,W.ownsRow w0.heap.size 3 1 (.slice x.2.1 x.1.nodes.length x.2.2) x.1.nodes.length (x.1.nodes.map (Value.int .i64))
theorem Q6.more {w0 W i:World} {rs:List iU} {k:Nat} {V p:Value} (h:Q6 w0 rs k V W) (d:k < rs.length) {A2:Option Addr} {c2:Nat} (r:W.ownsRow w0.heap.size 3 1 (.slice A2 (rs[k]?.getD (.zero,none,0)).1.nodes.length c2) (rs[k]?.getD (.zero,none,0)).1.nodes.length ((rs[k]?.getD (.zero,none,0)).1.nodes.map (Value.int .i64)))
 (f:∀ xs,W.ownsRow w0.heap.size 59 2 V k xs->fZ W w0.heap.size 59 2 V (k + 1) (xs ++ [zi (rs[k]?.getD (.zero,none,0)).1.az,.slice A2 (rs[k]?.getD (.zero,none,0)).1.nodes.length c2]) p i):Q6 w0 rs (k + 1) p i:=by
 obtain ⟨A,B,j,C⟩:=h.ex
 have f:=f _ j
 have D:Old w0 i:=f.old h.old (fun k d=>(iO j d).1)
 have g:∀ {n:Nat} {U:Value} {xs:List Value},W.ownsRow w0.heap.size 3 1 U n xs->i.ownsRow w0.heap.size 3 1 U n xs:=fun z=>dh z (f.fr (S:=fun k=>V.ownBlock=some k) (fun k _ d=>d)) (fun k d e=>by
  obtain ⟨-,E,F⟩:=iO z d
  exact aK j F aW e)
 obtain ⟨y,hy⟩:=aR (rs[k]?.getD (.zero,none,0))
 rw [hy] at r f
 refine ⟨D,A ++ [(y.1,A2,c2)],?_,?_,fun x m=>?_⟩
 ·rw [MG d,BH,BH,B]
  rw [gG d,Gu] at hy
  rw [hy]
  rfl
 ·rw [List.flatMap_append]
  simpa [iU.cells] using f.own
 ·rcases List.mem_append.1 m with h9 | h9
  ·exact g (C x h9)
  ·rw [List.mem_singleton.1 h9];exact g r
theorem Q6.old' {w0 W W':World} {rs:List iU} {k:Nat} {V:Value} (h:Q6 w0 rs k V W) (d:Old W W'):Q6 w0 rs k V W':=by
 obtain ⟨e,f,g,i⟩:=h.ex
 exact ⟨h.old.trans' d,e,f,bF g d,fun x j=>bF (i x j) d⟩
theorem PU (h:gZ w own c W u gs cs l s) (n:Nat) (hn:s.aA.length=n) (Ql:n<=1099511627776) (h5:∀ x∈s.aA,x.nodes.length<=1000) :
 aS 18 #[W] w fun e w'=>∃ A c',e=.returned (.slice A n c')/\Q0 w' A s.aA/\Old w w':=by
 obtain ⟨n0,K⟩:=h.n0
 obtain ⟨p,hp⟩:=(h.node 0 n0 K).ex
 have h0:iB w (fun k=>own k=bM c 0 0) (fun k=>own k=aB) W s.conf u s.aA:=hp.at_ 0
 obtain ⟨rs,A,q,P,r2,r3,r4,r5⟩:=h0.ex
 have E:rs.length=n:=by rw [<- hn,<- P,List.length_map]
 rw [E] at r2 r3
 have c9:=r2.cell 9
 have hW:=r2.lt
 have HR:=aa (show ah w A (rs.flatMap iU.cells) from ah.bA r3)
 have T:=aa (fun x f=>(r5 x f).2.1)
 have U:=aa P
 have F:=aa E
 have H5:=aa (fun x (f:x∈rs)=>h5 x.1 (by rw [<- P];exact List.mem_map.2 ⟨x,f,rfl⟩))
 simp only [gL,iZ,nW,je] at c9
 clear h hn h5 K hp h0 P r2 r3 r4 r5 E
 go_enter func18,ntmps18
 go_wp2_with fail
 go_loopw [3,13] (fun ov iv wr=>∃ k:Nat,k<=n/\iv=zi (k:Int)/\∃ B G,ov=.slice B k G/\kN (Q6 w rs k (.slice B k G) wr)) (fun _ iv _=>n - (intOf iv).toNat)
 case atStart=>exact ⟨0,Nat.zero_le _,rfl,none,0,rfl,Old.refl' _,[],rfl,World.ownsRow_nil _ _ _ _,fun x f=>by cases f⟩
 case round=>
  obtain ⟨k,hk,rfl,B,G,rfl,V⟩:=hrel
  have y:=aa V.o
  by_cases L:k < n
  ·have i:k < rs.length:=by have:=F.o;omega
   obtain ⟨x,f⟩:=aR (rs[k]?.getD (.zero,none,0))
   obtain ⟨X,o0,Y,z,Z⟩:=HR.o (by intro e;have:=xV rs;rw [e] at this;simp at this;omega)
   have d0:=Z (k * 2) _ ((uQ rs k 0 i af).trans (by rw [f];rfl))
   have d1:=Z (k * 2 + 1) _ ((uQ rs k 1 i af).trans (by rw [f];rfl))
   subst Y
   have e0:=(y.o.old.cell (p:=⟨X,o0 + k * 2,none⟩) z).trans d0
   have e1:=(y.o.old.cell (p:=⟨X,o0 + (k * 2 + 1),none⟩) z).trans d1
   rw [<- Nat.add_assoc] at e1
   have j:x∈rs:=by rw [gG i] at f;exact (by simpa using f:rs[k]=x)▸List.getElem_mem i
   obtain ⟨m,R⟩:=aR (x.1.nodes.length)
   have cC:=aa (fun W' (hW:Old wr W')=>jg x.2.1 m x.2.2 x.1.nodes (by have:=H5.o x j;omega) R.symm W' ((ah.old (T.o x j) y.o.old).old hW))
   rw [R] at e1
   have HX:=aa f
   have HM:=aa R
   have HK:=aa L
   have hkn:(k:Int) < (n:Int):=af
   obtain ⟨g,H⟩:=aR (x.1.az)
   rw [H] at e0
   have HEP:=aa H
   obtain ⟨W1,I⟩:=aR (wr.alloc (.cells #[zi g,.slice x.2.1 m x.2.2] 59))
   have M:=aa (show Bk W1 wr.heap.size 59 #[zi g,.slice x.2.1 m x.2.2] from I▸Bk.new wr 59 _)
   have O1:=aa (show Old wr W1 from I▸(Old.refl' wr).ag _)
   have k1:=M.o.cell 1
   have kl:=M.o.lt
   simp only [iZ,je,nW] at k1
   have N:=aa (fun A2 c2 r (d:r.ownsRow W1.heap.size 3 1 (.slice A2 m c2) m (x.1.nodes.map (Value.int .i64))) (J:Old W1 r)=>(show ∃ D:List iU,((r.setCell ⟨wr.heap.size,1,none⟩ (.slice A2 m c2)).alloc (.cells #[zi g,.slice A2 m c2] 59)).ownsRow w.heap.size 59 2 (.slice B k G) k (D.flatMap iU.cells)/\ah ((r.setCell ⟨wr.heap.size,1,none⟩ (.slice A2 m c2)).alloc (.cells #[zi g,.slice A2 m c2] 59)) (some ⟨r.heap.size,0,none⟩) [zi g,.slice A2 m c2]/\w.heap.size<=((r.setCell ⟨wr.heap.size,1,none⟩ (.slice A2 m c2)).alloc (.cells #[zi g,.slice A2 m c2] 59)).heap.size/\∀ V2 W2,fZ ((r.setCell ⟨wr.heap.size,1,none⟩ (.slice A2 m c2)).alloc (.cells #[zi g,.slice A2 m c2] 59)) w.heap.size 59 2 (.slice B k G) (k + 1) (D.flatMap iU.cells ++ [zi g,.slice A2 m c2]) V2 W2->Q6 w rs (k + 1) V2 W2 by
    obtain ⟨S,C⟩:=aR (r.setCell ⟨wr.heap.size,1,none⟩ (.slice A2 m c2))
    have es:r.heap.size=S.heap.size:=by rw [<- C];simp
    have O3:Old wr S:=C▸Old.aJ (O1.o.trans' J) (dN _) _
    have HX3:S.ownsRow w.heap.size 3 1 (.slice A2 m c2) m (x.1.nodes.map (Value.int .i64)):=C▸bz (xS d (by have:=y.o.old.size;have:=O1.o.size;omega)) (aK d (M.o.old J) aW) _
    rw [C,es]
    obtain ⟨D,t1,t2,t3⟩:=y.o.ex
    have O:=bF t2 (O3.ag (.cells #[zi g,.slice A2 m c2] 59))
    refine ⟨D,O,cz (Bk.new S 59 #[zi g,.slice A2 m c2]),by rw [jW];have:=y.o.old.size;have:=O3.size;omega,fun V2 W2 hA=>?_⟩
    exact (y.o.old' (O3.ag (.cells #[zi g,.slice A2 m c2] 59))).more (by have:=F.o;have:=HK.o;omega) (by rw [HX.o,HM.o];exact HX3.alloc _) (fun xs hxs=>by rw [HX.o,HM.o,HEP.o,CV hxs O];exact hA)))
   obtain ⟨i0,hi0,hz0,hz1,hz2⟩:=info_parts K5
   have hb1:X < wr.heap.size:=iD z y.o.old.size
   have hw1:IntKind.i64.wrap ((k:Int) + 1)=((k + 1:Nat):Int):=(kP _ af).trans af
   clear f j R L V Z d0 d1 z i H
   go_wp2_with
    (first
    | (at_builtin;refine bT _ rfl (.tmp 21) (.tmp 23) 31 rfl w.heap.size 59 i0 (.agg #[.int .i64 0,.slice none 0 0]) 2 32 Tryz.underlying31 hi0 hz0 hz1 hz2 rfl aW (.slice B k G) k (D.flatMap iU.cells) rfl Q1.o _ 1 1 [.int .i64 g,.slice A2 m c2] rfl rfl Q2.o tC qy af Q3.o (k + 1) rfl _ rfl ?_;intro A3 c3 w8 h9;have ZA:=aa (Q4.o _ _ h9);clear h9)
    | (go_at_call 61;refine (cC.o W1 O1.o).mono ?_;rintro e r ⟨A2,c2,rfl,d,J⟩;obtain ⟨z0,z1,zl⟩:=aaD (M.o.old J);have zf:=(M.o.old J).frozen 1;obtain ⟨D,q1,q2,q3,q4⟩:=N.o A2 c2 r d J;have Q1:=aa q1;have Q2:=aa q2;have Q3:=aa q3;have Q4:=aa q4;clear k1 kl d J I q1 q2 q3 q4))
   go_roundw
   case rel=>exact ⟨k + 1,HK.o,bE,A3,c3,rfl,ZA⟩
   case measure=>
    have:=HK.o
    simp [intOf]
    omega
  ·have hkn:¬ (k:Int) < (n:Int):=by omega
   have hke:k=n:=af
   have HZ:=aa (show Q0 wr B s.aA/\Old w wr by
    obtain ⟨D,h1,h2,h3⟩:=y.o.ex
    refine ⟨⟨D,?_,ah.bA h2,fun x f=>ah.bA (h3 x f)⟩,y.o.old⟩
    rw [h1,List.take_of_length_le (by rw [F.o];omega)]
    exact U.o)
   subst hke
   clear V
   go_wp2_with fail
   go_ret
   exact ⟨B,⟨G,rfl⟩,HZ.o⟩
end
end Go.Proofs.YthihpfpbiajddaaGreat
