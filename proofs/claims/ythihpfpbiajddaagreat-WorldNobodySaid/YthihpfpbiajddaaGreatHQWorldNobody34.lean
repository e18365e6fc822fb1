/- Parts of the proof. -/
import Derived.Test.YthihpfpbiajddaaGreatHQWorldNobody33
set_option maxRecDepth 100000
set_option maxHeartbeats 8000000
open Go.Proofs.Tryz
namespace Go.Proofs.YthihpfpbiajddaaGreat
open Go.RowKit
theorem aF.at_ {s:NS} {i k:Nat} (h:aF s i k) {n:dM} {b:List jy} {v:Int->bU->List Int} {c:List bC} {t:Int} {d:dZ} (e:s.n=n) (f:s.aA=c) (g:s.conf=d) (j:b.length + k * 65536<=1099511627776) (l:0<=t/\t<=1099511627776):aF ⟨n,b,v,c,t,d⟩ i k:=by
 subst e f g
 exact ⟨h.conf,l,h.acc,h.log,h.join,h.disk,h.junk,h.hold,h.gr,h.wa,h.hd,h.rf,h.seen,h.p,j,h.aA,h.last,h.well⟩
theorem Mc:rz xQ 0:=⟨aW,aW,aW,aW,aW⟩
theorem Db:((([dO 1]:List bC)≠[])/\∀ x∈[dO 1],x.may=true):=⟨bE,fun x d=>by rw [List.mem_singleton.1 d];decide⟩
theorem Gc:aF N1 0 5000:=
 (aF.start (s:=(WV.made xQ).ns 0 (gH 0 xQ)) (i:=0) (k:=5000) Mc ⟨aW,aW⟩ (LB 5000 aW) (by show (jE bB.new).1.length + 5000<=50000;decide) (by show 0 + 5000 * 65536<=1099511627776;decide) ⟨Db,by show 1 + 5000<=1099511627776;decide⟩).at_ rfl rfl rfl (by show 0 + 5000 * 65536<=1099511627776;decide) ⟨aW,aW⟩
theorem Gd:S1.conf=xQ:=ay
theorem Xu:aF S1 0 4996:=aF.onRequest (k:=4996) Gc m1
theorem QH:aF N2 0 4996:=Xu.at_ rfl rfl Gd (by show S1.bO.length + 4996 * 65536<=1099511627776;rw [show S1.bO.length=1 from EJ.1];decide) (by show 0<=N2.now/\N2.now<=1099511627776;decide +kernel)
theorem Gf:S2.conf=xQ:=ay
theorem Xv:aF S2 0 4980:=aF.tick (k:=4980) QH
theorem ID:S2.aA=T5.aA:=ay
theorem Gg:T5.conf=xQ:=ay
theorem Xw:aF N3 0 4980:=Xv.at_ rfl ID (Gf.trans Gg.symm) (by show T5.bO.length + 4980 * 65536<=1099511627776;rw [show T5.bO.length=0 by decide +kernel];decide) (by show 0<=N3.now/\N3.now<=1099511627776;decide +kernel)
theorem Pk:S2=N2.asks.jO.advance:=NS.zJ rfl iV iV QE
theorem Pm:S3=N3.asks.jO.advance:=NS.zJ (by show T5.conf.nodes=1;rw [Gg]) iV iV QF
theorem Bo:0<=N2.n.hold.last.id/\N2.n.hold.last.id<=100000000000/\N2.now<=1000000000000:=iV
theorem Bp:0<=N3.n.hold.last.id/\N3.n.hold.last.id<=100000000000/\N3.now<=1000000000000:=iV
theorem Tk:xO m1:=⟨iV,iV,iV,iV,iV⟩
theorem Md:xO m2:=⟨iV,iV,iV,iV,iV⟩
theorem NS.Me {s:NS} {m:aO} (d:m.q.q.may=true) (e:dU m.q.kind=true) (f:(s.write m.q).n.self=s.known.nodes.head?.getD (-1)):s.onRequest m=s.write m.q:=by
 unfold NS.onRequest
 rw [if_neg (by rw [d];decide)]
 simp only [bC.head,e,if_true]
 exact if_neg (fun h=>h.1 f.symm)
theorem Mf:m1.q.q.may=true:=iV
theorem QI:dU m1.q.kind=true:=iV
theorem Gh:N1.known.nodes.head?.getD (-1)=((0:Nat):Int):=iV
theorem Pn:kY N1.n.kept.log.qs m1.q.client m1.q.seq=0:=iV
theorem Tm:N1.n.kept.log.err m1.q=0:=iV
theorem Xx:N1.write m1.q=S1:=(NS.Me Mf QI iV).symm
theorem Po {d:List Int} {e:Int} {kn:List Int} {f r2 r3 r4:Rd} {q:aG} {g:Bool} (h:Rd.gu ⟨d,false⟩=(9,f)) (i:f.chain=(⟨e,kn⟩,r2)) (j:r2.req=(q,r3)) (h4:r3.yes=(g,r4)):wY d={ aO.zero with kind:=9,known:=⟨e,kn⟩,q:=q,hop:=g }:=by
 unfold wY
 simp [h,i,j,h4]
def Xy:Rd:=(Rd.gu ⟨y1.bs,false⟩).2
def ZE:Rd:=Xy.chain.2
def Xz:Rd:=ZE.req.2
theorem XA:Rd.gu ⟨y1.bs,false⟩=(9,Xy):=Prod.ext (by show (Rd.gu ⟨y1.bs,false⟩).1=9;decide +kernel) rfl
theorem XD:iq y1.bs:=by unfold iq;decide +kernel
theorem XE:y1.bs.length<=100000:=iV
theorem Tn (W':World) (A:Option Addr) (q:Nat) (h:ah W' A (eB y1.bs)):aS 72 #[.slice A y1.bs.length q] W' (iY W' m1):=by
 have e:m1={ aO.zero with kind:=9,known:=⟨Xy.chain.1.az,Xy.chain.1.nodes⟩,q:=ZE.req.1,hop:=Xz.yes.1 }:=Po XA (r2:=ZE) rfl (r3:=Xz) rfl (r4:=Xz.yes.2) rfl
 rw [e]
 exact Ti A y1.bs.length q y1.bs rfl XE XD _ _ Xy ZE _ _ _ _ _ _ _ Xz Xz.yes.2 XA rfl rfl rfl W' h
theorem Mg {d:List Int} {e:Int} {kn:List Int} {f r2 r3 r4 r5 r6 r7 g r9:Rd} {q:aG} {h i j:Int} {k:List Int} (l:Rd.gu ⟨d,false⟩=(10,f)) (m:f.chain=(⟨e,kn⟩,r2)) (n:r2.req=(q,r3)) (h4:r3.yes=(true,r4)) (h5:r4.gu=(h,r5)) (h6:r5.gu=(i,r6)) (h7:r6.gu=(j,r7)) (h8:r7.gu=(0,g)) (h9:g.text 64=(k,r9)):wY d={ aO.zero with kind:=10,known:=⟨e,kn⟩,q:=q,ans:=true,at_:=h,rep:=⟨i,j,iA k,[]⟩ }:=by
 unfold wY
 simp [l,m,n,h4,h5,h6,h7,h8,h9,Rd.Sc]
 rfl
def XF:Rd:=(Rd.gu ⟨y2.bs,false⟩).2
def ZF:Rd:=XF.chain.2
def XG:Rd:=ZF.req.2
def ZG:Rd:=XG.yes.2
def ZH:Rd:=ZG.gu.2
def ZI:Rd:=ZH.gu.2
def XH:Rd:=ZI.gu.2
def XI:Rd:=XH.gu.2
theorem XJ:Rd.gu ⟨y2.bs,false⟩=(10,XF):=Prod.ext (by show (Rd.gu ⟨y2.bs,false⟩).1=10;decide +kernel) rfl
theorem XK:XG.yes=(true,ZG):=Prod.ext (by show XG.yes.1=true;decide +kernel) rfl
theorem XL:XH.gu=(0,XI):=Prod.ext (by show XH.gu.1=0;decide +kernel) rfl
theorem XN:iq y2.bs:=by unfold iq;decide +kernel
theorem XO:y2.bs.length<=100000:=iV
theorem Tp (W':World) (A:Option Addr) (q:Nat) (h:ah W' A (eB y2.bs)):aS 72 #[.slice A y2.bs.length q] W' (iY W' m2):=by
 have e:m2={ aO.zero with kind:=10,known:=⟨XF.chain.1.az,XF.chain.1.nodes⟩,q:=ZF.req.1,ans:=true,at_:=ZG.gu.1,rep:=⟨ZH.gu.1,ZI.gu.1,iA (XI.text 64).1,[]⟩ }:=Mg XJ (r2:=ZF) rfl (r3:=XG) rfl XK (r5:=ZH) rfl (r6:=ZI) rfl (r7:=XH) rfl XL (r9:=(XI.text 64).2) rfl
 rw [e]
 exact Ma A y2.bs.length q y2.bs rfl XO XN _ _ XF ZF _ _ _ _ _ _ _ _ _ _ XG ZG ZH ZI XH XI (XI.text 64).2 XJ rfl rfl XK rfl rfl rfl XL rfl W' h
theorem Pp (m:Nat) (d:1<=m) (h9:m<=9):∀ w,(Instr.makeSlice 34 (zi (m:Int)) (zi (m:Int))).run prog w=.ok (.slice (some ⟨w.heap.size,0,none⟩) m m) (w.alloc (.cells ((List.replicate m (0:Int)).map (Value.int .i64)).toArray 3)):=fun w=>by
 rcases (by omega:m=1∨m=2∨m=3∨m=4∨m=5∨m=6∨m=7∨m=8∨m=9) with rfl | rfl | rfl | rfl | rfl | rfl | rfl | rfl | rfl
 all_goals kernel_rfl
structure IE (w:World) (g a b:Nat) (all now:List Int) (n:Nat):Prop where
 blk:Bk w g 145 #[.slice (some ⟨a,0,none⟩) n n,.slice (some ⟨b,0,none⟩) n n]
 ba:Bk w a 3 (all.map (Value.int .i64)).toArray
 bb:Bk w b 3 (now.map (Value.int .i64)).toArray
 ne:a≠b
 la:all.length=n
 lb:now.length=n
theorem aa4 (n:Nat) (i:1<=n) (h9:n<=9) (w:World):aS 25 #[zi (n:Int)] w fun e w'=>∃ g a b,e=.returned (av g 0)/\IE w' g a b (List.replicate n 0) (List.replicate n 0) n/\(w.heap.size<=g/\w.heap.size<=a/\w.heap.size<=b)/\Old w w':=by
 have f:=Pp n i h9
 have r:¬ ((n:Int) < 1):=af
 have s:¬ (9 < (n:Int)):=af
 obtain ⟨Z,d⟩:=aR (((List.replicate n (0:Int)).map (Value.int .i64)).toArray)
 rw [d] at f
 have j:=aa (fun a b (h:a=w.heap.size/\b=w.heap.size + 1∨a=w.heap.size + 1/\b=w.heap.size)=>(show IE (((w.alloc (.cells Z 3)).alloc (.cells Z 3)).alloc (.cells #[.slice (some ⟨a,0,none⟩) n n,.slice (some ⟨b,0,none⟩) n n] 145)).drew (w.heap.size + 1 + 1) a b (List.replicate n 0) (List.replicate n 0) n by
  have k:(w.alloc (.cells Z 3)).heap.size=w.heap.size + 1:=jW ..
  have p:((w.alloc (.cells Z 3)).alloc (.cells Z 3)).heap.size=w.heap.size + 1 + 1:=by rw [jW,k]
  have l:Bk (((w.alloc (.cells Z 3)).alloc (.cells Z 3)).alloc (.cells #[.slice (some ⟨a,0,none⟩) n n,.slice (some ⟨b,0,none⟩) n n] 145)) w.heap.size 3 Z:=((Bk.new w 3 Z).alloc _).alloc _
  have b1:Bk (((w.alloc (.cells Z 3)).alloc (.cells Z 3)).alloc (.cells #[.slice (some ⟨a,0,none⟩) n n,.slice (some ⟨b,0,none⟩) n n] 145)) (w.heap.size + 1) 3 Z:=k▸((Bk.new (w.alloc (.cells Z 3)) 3 Z).alloc _)
  have b2:=p▸Bk.new ((w.alloc (.cells Z 3)).alloc (.cells Z 3)) 145 #[.slice (some ⟨a,0,none⟩) n n,.slice (some ⟨b,0,none⟩) n n]
  rcases h with ⟨rfl,rfl⟩ | ⟨rfl,rfl⟩
  ·exact ⟨b2,d▸l,d▸b1,af,bE,bE⟩
  ·exact ⟨b2,d▸b1,d▸l,af,bE,bE⟩))
 have m:=aa (fun o=>((((Old.refl' w).ag (.cells Z 3)).ag (.cells Z 3)).ag o).drew')
 clear d i h9
 go_enter func25,ntmps25
 go_wp2_with fail
 go_region
 ·go_wp2_with fail
  go_ret
  exact ⟨_,w.heap.size,w.heap.size + 1,rfl,j.o _ _ (.inl ⟨rfl,rfl⟩),⟨af,af,af⟩,m.o _⟩
 ·go_wp2_with fail
  go_ret
  exact ⟨_,w.heap.size + 1,w.heap.size,rfl,j.o _ _ (.inr ⟨rfl,rfl⟩),⟨af,af,af⟩,m.o _⟩
theorem Dc (l:List Int) (k:Nat) (v:Int):(l.map (Value.int .i64)).toArray.setIfInBounds k (zi v)=((l.set k v).map (Value.int .i64)).toArray:=by
 simp [List.map_set]
theorem zL {w:World} {a k:Nat} {l:List Int} {t:Int} (h:Bk w a 3 (l.map (Value.int .i64)).toArray) (d:l[k]?=some t):w.cell? ⟨a,k,none⟩=some (zi t):=by
 rw [h.cell k]
 simp [d]
theorem XP {w:World} {g a b n:Nat} {all now:List Int} (h:IE w g a b all now n) (k:Nat) (t s:Int) (f:all[k]?=some t) (u:now[k]?=some s) (i:0<=s/\s<=1) (j:0<=t/\t<=1099511627776) (h9:n<=9) :
 aS 109 #[g,zi (k:Int)] w fun e w'=>e=.returned (.bool true)/\IE w' g a b (all.set k (t + 1)) (now.set k (s + 1)) n/\Fr (fun x=>x=a∨x=b) w w':=by
 have l:k < n:=by rw [<- h.la];exact (List.getElem?_eq_some_iff.1 f).1
 have d:=h.ne
 have m:g≠a:=h.blk.vC h.ba aW
 have r:g≠b:=h.blk.vC h.bb aW
 have y:IntKind.i64.wrap (t + 1)=t + 1:=kP _ af
 have z:IntKind.i64.wrap (s + 1)=s + 1:=kP _ af
 have C:¬ ((k:Int) < 0):=af
 have D:¬ ((n:Int)<=(k:Int)):=af
 have E:¬ ((1:Int) < s):=af
 have F:(k:Int) < (n:Int):=af
 have x0:=h.blk.cell 0
 have x1:=h.blk.cell 1
 have G:=h.blk.lt
 have H:=zL h.ba f
 have I:=zL h.bb u
 have J:=h.ba.lt
 have lb:=h.bb.lt
 have K:=h.ba.frozen k
 have L:=h.bb.frozen k
 simp only [iZ,je,nW] at x0 x1
 have A:=aa (show IE ((w.setCell ⟨a,k,none⟩ (zi (t + 1))).setCell ⟨b,k,none⟩ (zi (s + 1))) g a b (all.set k (t + 1)) (now.set k (s + 1)) n from
  ⟨(h.blk.far m _).far r _,by have:=(h.ba.bH k (zi (t + 1))).far (p:=⟨b,k,none⟩) d (zi (s + 1));rwa [Dc] at this,by have:=(h.bb.far (p:=⟨a,k,none⟩) (Ne.symm d) (zi (t + 1))).bH k (zi (s + 1));rwa [Dc] at this,d,by simp [h.la],by simp [h.lb]⟩)
 have B:=aa (show Fr (fun x=>x=a∨x=b) w ((w.setCell ⟨a,k,none⟩ (zi (t + 1))).setCell ⟨b,k,none⟩ (zi (s + 1))) from
  ((Fr.refl _ w).setCell (p:=⟨a,k,none⟩) (.inr (.inl rfl)) _).setCell (p:=⟨b,k,none⟩) (.inr (.inr rfl)) _)
 clear h f u i j l
 go_enter func109,ntmps109
 go_wp2_with fail
 go_ret
 exact ⟨rfl,A.o,B.o⟩
def zN (k n:Int):Array Value:=#[zi k,zi n,zi 0,zi 0,zi 0,zi 0,zi 0,zi 0,.string ByteArray.empty]
structure Pq (w:World) (gP W nn nc:Nat):Prop where
 c0:w.cell? ⟨gP,0,none⟩=some (av W 0)
 c1:w.cell? ⟨gP,1,none⟩=some (zi (nn:Int))
 c2:w.cell? ⟨gP,2,none⟩=some (zi (nc:Int))
 lt:gP < w.heap.size
theorem EK (d W g:Nat) (k:Int) (w:World) (x0:w.cell? ⟨d,4,none⟩=some (av g 0)) (x1:w.cell? ⟨d,5,none⟩=some (.bool true)) (n:d < w.heap.size) (R Q:World->Prop)
 (h:aS 109 #[g,zi k] w fun e w1=>e=.returned (.bool true)/\R w1)
 (i:∀ w1,R w1->(w1.cell? ⟨d,0,none⟩=some (av W 0)/\d < w1.heap.size)/\aS 9 #[W,.agg (zN 4 k)] w1 fun e j=>(∃ v,e=.returned v)/\Q j) :
 aS 70 #[d,zi k] w fun e w'=>e=.returned (.tuple #[])/\Q w':=by
 have p:=aa h
 have r:=aa i
 clear h i
 go_enter func70,ntmps70
 go_wp2_with fail
 refine p.o.mono ?_
 rintro e w1 ⟨rfl,l⟩
 obtain ⟨⟨s,u⟩,f⟩:=r.o w1 l
 unfold zN at f
 have x:=aa f
 clear x0 x1 n l f
 go_wp2_with fail
 refine x.o.mono ?_
 rintro e j ⟨⟨v,rfl⟩,m⟩
 have HQ:=aa m
 clear m s u
 go_wp2_with fail
 go_end0
 exact ⟨rfl,HQ.o⟩
theorem Tq (A W n f g:Nat) (F:n<=1099511627776) (M:f + g<=1000) (I J:Nat->World->Prop) (hI:∀ j w,I j w->Pq w A W f g) (G:∀ j w,J j w->Pq w A W f g) (m:∀ j w,J j w->J j w.drew) (p:∀ w,I n w->J 0 w)
 (H:∀ w,I 0 w->aS 22 #[W] w fun e w'=>e=.returned (zi (n:Int))/\I 0 w')
 (B:∀ j w,j < n->I j w->aS 9 #[W,.agg (zN 1 0)] w fun e w'=>(∃ v,e=.returned v)/\I (j + 1) w')
 (K:∀ k w,k < f + g->J k w->aS 70 #[A,zi (k:Int)] w fun e w'=>e=.returned (.tuple #[])/\J (k + 1) w') (w:World) (h:I 0 w) :
 aS 27 #[A] w fun e w'=>e=.returned (.tuple #[])/\J (f + g) w':=by
 obtain ⟨c0,-,-,r⟩:=hI _ _ h
 have N:=aa (H w h)
 have O:=aa hI
 have P:=aa G
 have s:=aa m
 have C:=aa p
 unfold zN at B
 have R:=aa B
 have S:=aa K
 have T:=aa F
 have U:=aa (show IntKind.i64.wrap ((f:Int) + g)=((f + g:Nat):Int) from (kP _ af).trans af)
 clear hI G m p H B K h F
 go_enter func27,ntmps27
 go_wp2_with fail
 refine N.o.mono ?_
 rintro e w1 ⟨rfl,L⟩
 have V:=aa L
 clear L c0 r
 go_wp2_with fail
 go_loopw [3] (fun iv wr=>∃ j:Nat,j<=n/\iv=zi (j:Int)/\kN (I j wr)) (fun iv _=>n - (intOf iv).toNat)
 case atStart=>exact ⟨0,Nat.zero_le _,rfl,V.o⟩
 case round=>
  obtain ⟨j,hj,rfl,i⟩:=hrel
  by_cases d:j < n
  ·obtain ⟨c0,-,-,r⟩:=O.o _ _ i.o
   have X:=aa (R.o j wr d i.o)
   have u:=aa d
   have x:(j:Int) < (n:Int):=af
   have D:IntKind.i64.wrap ((j:Int) + 1)=((j + 1:Nat):Int):=(kP _ (by have:=T.o;omega)).trans af
   clear i d
   go_wp2_with fail
   refine X.o.mono ?_
   rintro e Y ⟨⟨v,rfl⟩,y⟩
   have E:=aa y
   clear y c0 r
   go_wp2_with fail
   go_roundw
   case rel=>exact ⟨j + 1,u.o,rfl,E.o⟩
   case measure=>
    have:=u.o
    simp [intOf]
    omega
  ·obtain rfl:j=n:=by omega
   have x:¬ (j:Int) < (j:Int):=af
   have Z:=aa (C.o _ i.o)
   clear i d
   go_wp2_with fail
   go_loopw [4] (fun iv wr=>∃ k:Nat,k<=f + g/\iv=zi (k:Int)/\kN (J k wr)) (fun iv _=>f + g - (intOf iv).toNat)
   case atStart=>exact ⟨0,Nat.zero_le _,rfl,Z.o⟩
   case round=>
    obtain ⟨k,hk,rfl,l⟩:=hrel
    obtain ⟨c0,c1,c2,r⟩:=P.o _ _ l.o
    have hw:=U.o
    by_cases d:k < f + g
    ·have cT:=aa (S.o k _ d (s.o _ _ l.o))
     have u:=aa d
     have z:(k:Int) < ((f + g:Nat):Int):=af
     have D:IntKind.i64.wrap ((k:Int) + 1)=((k + 1:Nat):Int):=(kP _ af).trans af
     clear l d
     go_wp2_with fail
     go_region
     go_wp2_with fail
     refine cT.o.mono ?_
     rintro e Y ⟨rfl,y⟩
     have E:=aa y
     clear y c0 c1 c2 r
     go_wp2_with fail
     go_roundw
     case rel=>exact ⟨k + 1,u.o,rfl,E.o⟩
     case measure=>
      have:=u.o
      simp [intOf]
      omega
    ·obtain rfl:k=f + g:=by omega
     have z:¬ ((f + g:Nat):Int) < ((f + g:Nat):Int):=af
     have H4:=aa (s.o _ _ l.o)
     clear l d
     go_wp2_with fail
     go_region
     go_wp2_with fail
     go_end0
     exact ⟨rfl,H4.o⟩
def upF (own:Nat->Tag) (c i:Nat) (p:iC) (F4 FL:Nat->Prop) (q k:Nat):Prop:=match q with
 | 3=>own k=bM c i 3
 | 4=>F4 k
 | 5=>k=p.ac
 | 6=>FL k
 | 7=>k=p.ho
 | 8=>k=p.ak
 | 9=>k=p.gr
 | 10=>k=p.wa
 | _=>False
structure Mh (w w':World) (own:Nat->Tag) (c i W g:Nat) (p:iC) (n:dM) (F4 FL FA FJ:Nat->Prop) (b1 b2:Nat) (cs:Array Value) (JA:Option Addr) (jq:Nat):Prop where
 h3:Bk w' g 115 cs
 c3:Cu W p n (.slice JA n.kept.join.nodes.length jq) cs
 jl:n.kept.join.nodes.length<=jq
 jn:fD w' FJ JA n.kept.join.nodes
 h4:fA w' F4 p.dk n.disk
 g4:∀ k,F4 k->own k=bM c i 4∨w.heap.size<=k/\k < b1
 h5:iy w' (fun k=>k=p.ac) FA p.ac n.kept.acc
 h6:eZ w' p.lg FL n.kept.log
 h7:dz w' (fun k=>k=p.ho) p.ho n.hold
 h8:mq w' (fun k=>k=p.ak) p.ak n.asked
 h9:fH w' p.gr 252 n.grants.n n.grants.gJ n.grants.till
 h10:fH w' p.wa 254 n.watch.n n.watch.self n.watch.heard
 h11:n.p=none
 o1:w.heap.size<=b1
 dA:∀ k,FA k∨k=p.ac->b1<=k/\k < b2/\¬ FL k
 dJ:∀ k,FJ k->b1<=k/\k < b2/\¬ FL k/\k≠p.ac
 dL:∀ k,FL k->b1<=k/\k < b2
 d7:b2<=p.ho/\p.ho < p.gr/\p.gr < p.wa/\p.wa < p.ak
section
variable {w w':World} {own:Nat->Tag} {c i W g dk:Nat} {u:bV} {s s':NS} {p:iC} {F4 FL FA FJ:Nat->Prop} {b1 b2:Nat} {cs:Array Value} {JA:Option Addr} {jq:Nat}
theorem Mh.up (B:eF w own (bM c i) (OP u W g dk s)) (D:Bh w own c i W g u s) (M:Mh w w' own c i W g p s'.n F4 FL FA FJ b1 b2 cs JA jq) (hd:p.dk=dk) (Y:s'.bO=s.bO) (Z:s'.bY=s.bY) (hc:s'.aA=s.aA) (C:s'.conf=s.conf) (A:s'.now=s.now) (hs:s'.n.self=i)
 (E:Fr (fun k=>own k=bM c i 3∨own k=bM c i 4) w w'):∃ j,aN w' j c i W g u s'/\fT w own c i w' j:=by
 have i5:=D.i5
 have F:own g=bM c i 3:=(B.at_ 3).gF
 have new:∀ k q,w.heap.size<=k->own k≠bM c i q:=fun k q f e=>jN c i q (e.symm.trans (B.top k f))
 have o1:=M.o1
 obtain ⟨e1,e2,e3,e4⟩:=M.d7
 have G:=M.dA p.ac (.inr rfl)
 have l7:=M.h7.lt p.ho rfl
 have l8:=M.h8.lt p.ak rfl
 have l5:=M.h5.lt p.ac rfl
 have l:∀ k,b1<=k->k < b2->¬ FL k->k≠p.ac->own k=aB/\∀ r,(3<=r/\r<=11)->¬ upF own c i p F4 FL r k:=fun k R S H h4=>by
  refine ⟨B.top k af,fun r I d=>?_⟩
  obtain ⟨r1,r2⟩:=I
  rcases (by omega:r=3∨r=4∨r=5∨r=6∨r=7∨r=8∨r=9∨r=10∨r=11) with rfl | rfl | rfl | rfl | rfl | rfl | rfl | rfl | rfl
  ·exact new k 3 af d
  ·rcases M.g4 k d with h | h
   ·exact new k 4 af h
   ·omega
  ·exact h4 d
  ·exact H d
  ·have:k=p.ho:=d;omega
  ·have:k=p.ak:=d;omega
  ·have:k=p.gr:=d;omega
  ·have:k=p.wa:=d;omega
  ·exact d
 obtain ⟨j,R,S,H⟩:=B.turns (A':=oO u W g p s') (w':=w') (jN c i) (fun a b=>qg c i a b i5) (fun q=>3<=q/\q<=11) (upF own c i p F4 FL) (fun q y=>by
  match q with
  | 0=>show kT W s'.conf u s'.aA=kT W s.conf u s.aA;rw [C,hc]
  | 1=>show KC u.pb s'.bO=KC u.pb s.bO;rw [Y]
  | 2=>show xg u.pv s'.bY=xg u.pv s.bY;rw [Z]
  | 3 | 4 | 5 | 6 | 7 | 8 | 9 | 10 | 11=>exact absurd af y
  | 12=>rfl
  | q + 13=>rfl) (fun q y=>by
  obtain ⟨q1,J⟩:=y
  rcases (by omega:q=3∨q=4∨q=5∨q=6∨q=7∨q=8∨q=9∨q=10∨q=11) with rfl | rfl | rfl | rfl | rfl | rfl | rfl | rfl | rfl
  ·refine aV.bl ⟨⟨cs,JA,jq,M.h3,M.c3,M.jl,M.jn.mono fun k f d=>?_⟩,F,fun k f=>?_⟩
   ·obtain ⟨K,L,N,j4⟩:=M.dJ k d
    exact ⟨l k K L N j4,fun e=>new k 3 af e⟩
   ·rcases Nat.lt_or_ge k w.heap.size with z | z
    ·exact iD z E.size
    ·exact absurd f (new k 3 z)
  ·exact M.h4
  ·refine iy.mono M.h5 (fun _ h=>h) M.h5.lt fun k f d T=>?_
   obtain ⟨K,L,N⟩:=M.dA k (.inl d)
   exact ⟨l k K L N T,T⟩
  ·exact M.h6
  ·exact M.h7
  ·exact M.h8
  ·exact ⟨M.h9,rfl,fun k f=>by have:k=p.gr:=f;omega⟩
  ·exact ⟨M.h10,rfl,fun k f=>by have:k=p.wa:=f;omega⟩
  ·exact ⟨fun k f=>f.elim,fun x U=>by have h:=M.h11;rw [h] at U;cases U⟩) (fun q y k d=>by
  obtain ⟨q1,J⟩:=y
  rcases (by omega:q=3∨q=4∨q=5∨q=6∨q=7∨q=8∨q=9∨q=10∨q=11) with rfl | rfl | rfl | rfl | rfl | rfl | rfl | rfl | rfl
  ·exact .inl d
  ·exact (M.g4 k d).imp id (·.1)
  ·have:k=p.ac:=d;right;omega
  ·have:=M.dL k d;right;omega
  ·have:k=p.ho:=d;right;omega
  ·have:k=p.ak:=d;right;omega
  ·have:k=p.gr:=d;right;omega
  ·have:k=p.wa:=d;right;omega
  ·exact d.elim) (fun q r y I k f O P=>by
  have key:∀ q,3<=q/\q<=11->upF own c i p F4 FL q k->(q=4/\k < b1)∨(q=5/\k=p.ac)∨(q=6/\FL k)∨(q=7/\k=p.ho)∨(q=8/\k=p.ak)∨(q=9/\k=p.gr)∨(q=10/\k=p.wa):=fun q y d=>by
   obtain ⟨q1,J⟩:=y
   rcases (by omega:q=3∨q=4∨q=5∨q=6∨q=7∨q=8∨q=9∨q=10∨q=11) with rfl | rfl | rfl | rfl | rfl | rfl | rfl | rfl | rfl
   ·exact absurd d (new k 3 f)
   ·rcases M.g4 k d with h | h
    ·exact absurd h (new k 4 f)
    ·exact .inl ⟨rfl,h.2⟩
   ·exact .inr (.inl ⟨rfl,d⟩)
   ·exact .inr (.inr (.inl ⟨rfl,d⟩))
   ·exact .inr (.inr (.inr (.inl ⟨rfl,d⟩)))
   ·exact .inr (.inr (.inr (.inr (.inl ⟨rfl,d⟩))))
   ·exact .inr (.inr (.inr (.inr (.inr (.inl ⟨rfl,d⟩)))))
   ·exact .inr (.inr (.inr (.inr (.inr (.inr ⟨rfl,d⟩)))))
   ·exact d.elim
  have V:FL k->b1<=k/\k < b2:=M.dL k
  have X:k=p.ac->¬ FL k:=fun e=>e▸G.2.2
  have m:=key q y O
  have n:=key r I P
  rcases m with ⟨rfl,m⟩ | ⟨rfl,m⟩ | ⟨rfl,m⟩ | ⟨rfl,m⟩ | ⟨rfl,m⟩ | ⟨rfl,m⟩ | ⟨rfl,m⟩ <;> rcases n with ⟨rfl,n⟩ | ⟨rfl,n⟩ | ⟨rfl,n⟩ | ⟨rfl,n⟩ | ⟨rfl,n⟩ | ⟨rfl,n⟩ | ⟨rfl,n⟩
  all_goals first
   | rfl
   | omega
   | (have:=V n;omega)
   | (have:=V m;omega)
   | exact absurd n (X m)
   | exact absurd m (X n)) (E.mono fun k _ f=>by
  rcases f with f | f
  ·exact ⟨3,⟨af,af⟩,f⟩
  ·exact ⟨4,⟨af,af⟩,f⟩)
 refine ⟨j,⟨⟨p,R⟩,by rw [A];exact D.dQ,hs,i5⟩,S,E.mono fun k _ f=>?_,fun k f=>?_⟩
 ·rcases f with f | f
  ·show mine c i (own k);rw [f];exact nN c i 3 af
  ·show mine c i (own k);rw [f];exact nN c i 4 af
 ·rcases H k f with h | ⟨q,⟨q1,J⟩,h⟩
  ·exact .inl h
  ·exact .inr (.inr (by rw [h];exact nN c i q (by omega)))
end
def Mi (_:Value) (_:World):Prop:=True
instance (T:World->World->Prop):uT T Mi:=⟨fun _ _ _ _ _=>trivial⟩
section
variable {P:Program} {Q:Exit->Act->World->Prop} {l:List Oper} {a a0:Act} {W0:World} {D:Nat->Prop} {c d k:Nat} {Q1:Value->World->World->Prop} {Q2:Value->World->World->Prop} {Rs:List RR} {o:Oper}
def EL (W0:World) (c d:Nat) (Q1:Value->World->World->Prop) (Q2:Value->World->World->Prop) (σ:Nat->Option Value) (w:World):Prop:=match σ c with
 | none=>Old W0 w/\σ d=none
 | some v=>∃ x y,Old W0 x/\Q1 v x y/\Old y w/\∀ u,σ d=some u->∃ p q,Old y p/\Q2 u p q/\Old q w
theorem EL.fr {σ:Nat->Option Value} {w:World} (h:EL W0 c d Q1 Q2 σ w) (e:∀ v x y,Q1 v x y->Fr D x y):Fr D W0 w:=by
 unfold EL at h
 split at h
 ·exact Fr.aj h.1
 ·obtain ⟨x,y,f,g,i,-⟩:=h
  exact (Fr.aj f).trans ((e _ x y g).trans (Fr.aj i))
theorem EL.step {σ:Nat->Option Value} {w w':World} {v:Value} (h:EL W0 c d Q1 Q2 σ w) (j:k≠c) (hd:k≠d) (f:Old w w'):EL W0 c d Q1 Q2 (upd σ k v) w':=by
 have e:upd σ k v c=σ c:=by unfold upd;rw [if_neg (Ne.symm j)]
 have g:upd σ k v d=σ d:=by unfold upd;rw [if_neg (Ne.symm hd)]
 unfold EL at h ⊢
 rw [e]
 split at h
 ·exact ⟨h.1.trans' f,by rw [g];exact h.2⟩
 ·obtain ⟨x,y,m,n,r,h4⟩:=h
  refine ⟨x,y,m,n,r.trans' f,fun u i=>?_⟩
  rw [g] at i
  obtain ⟨p,q,s,z,A⟩:=h4 u i
  exact ⟨p,q,s,z,A.trans' f⟩
abbrev ZJ (D:Nat->Prop) (c d:Nat) (Q1:Value->World->World->Prop) (Q2:Value->World->World->Prop) (P:Program) (Q:Exit->Act->World->Prop) (l:List Oper) (a0:Act) (Rs:List RR) (W0:World):Nat->Oper->Prop:=ig P Q l a0 (bQ Rs) (EL W0 c d Q1 Q2) (Fr D)
theorem sp2 (i:∀ v x y,Q1 v x y->Fr D x y) (deps:List (Nat×Tmp)) (outs:List (Tmp×Value))
 (h:∀ (E:Operand->Value) (w:World),Fr D W0 w->(∀ v,E (.const v)=v)->(∀ f,E (.func f)=.func (.func f) #[] #[])->Gv Rs w E (aU E (∃ v,(execOp E o).run P w=.ok (.value v) w/\bQ Rs k v w) outs) deps)
 (g:decide (k≠c/\k≠d)=true:=by decide) (j:o.guard=none:=by rfl) (m:l[k]?=some o:=by rfl) (hd:dw l o a0.tmps.size deps=true:=by kernel_rfl) (n:gN l k outs=true:=by kernel_rfl)
 (r:(outs.map fun p=>a0.tmps[p.1]?)=(outs.map fun p=>some p.2):=by rfl):ZJ D c d Q1 Q2 P Q l a0 Rs W0 k o:=by
 have e:=ZQ g
 exact mH deps outs j m hd n r (Fr.refl D) (fun _ _ w h=>h.step e.1 e.2 (Old.refl' w)) (fun σ E w _ _ s u z=>gq (h E w (s.fr i) u z))
theorem aa5 (J:∀ v x y,Q1 v x y->Fr D x y) (f:FuncId) {fn:Func} (K:P.funcs[f]?=some fn) (deps:List (Nat×Tmp)) (outs:List (Tmp×Value)) (xs:List Operand) {j:Array TypeId}
 (h:∀ (E:Operand->Value) (w:World),Old W0 w->(∀ v,E (.const v)=v)->Gv Rs w E (aU E (∃ g,xs.map E=g/\Calls P f g.toArray w (fun e w'=>∃ v,e=.returned v/\bQ Rs k v w'/\Q1 v w w')) outs) deps)
 (i:k=c:=by rfl) (m:decide (c≠d)=true:=by decide) (n:o.op=.call { callee:=.value (.func f),args:=xs.toArray,argTypes:=j }:=by rfl)
 (L:(fn.name == "runtime.NumGoroutine")=false:=by kernel_rfl) (r:fn.body.isNone=false:=by kernel_rfl)
 (M:o.guard=none:=by rfl) (N:l[k]?=some o:=by rfl) (hd:dw l o a0.tmps.size deps=true:=by kernel_rfl) (O:gN l k outs=true:=by kernel_rfl)
 (s:(outs.map fun p=>a0.tmps[p.1]?)=(outs.map fun p=>some p.2):=by rfl):ZJ D c d Q1 Q2 P Q l a0 Rs W0 k o:=by
 intro σ a w G z A R B C
 have F:Old W0 w/\σ d=none:=by
  unfold EL at A
  rw [<- i,G] at A
  exact A
 obtain ⟨g,S,T⟩:=gp G C B O s (fE (deps:=deps) z R hd (gq (h a.eval w F.1 (fun _=>rfl))))
 refine eT (by simpa using N) M (fI f fn K L r xs j n g S T (fun e w' ⟨v,s,U,H⟩=>⟨v,s,v,rfl,U,J _ _ _ H,?_⟩))
 unfold EL
 have e:upd σ k v c=some v:=by unfold upd;rw [if_pos i.symm]
 rw [e]
 refine ⟨w,w',F.1,H,Old.refl' w',fun u I=>?_⟩
 have V:upd σ k v d=none:=by unfold upd;rw [if_neg (fun e=>ZQ m (i▸e.symm)),F.2]
 rw [V] at I
 cases I
theorem aa6 (j:∀ u p q,Q2 u p q->Old p q) (s:Tmp) (f:FuncId) {fn:Func} (T:P.funcs[f]?=some fn) (deps:List (Nat×Tmp)) (outs:List (Tmp×Value)) (xs:List Operand) {m:Array TypeId}
 (h:∀ (E:Operand->Value) (w:World) (v:Value) (x y:World),Old W0 x->Q1 v x y->Old y w->(∀ v,E (.const v)=v)->E (.tmp s)=v->Gv Rs w E (aU E (∃ g,xs.map E=g/\Calls P f g.toArray w (fun e w'=>∃ u,e=.returned u/\bQ Rs k u w'/\Q2 u w w')) outs) deps)
 (n:k=d:=by rfl) (C:decide (c≠d)=true:=by decide) (F:o.op=.call { callee:=.value (.func f),args:=xs.toArray,argTypes:=m }:=by rfl)
 (U:(fn.name == "runtime.NumGoroutine")=false:=by kernel_rfl) (H:fn.body.isNone=false:=by kernel_rfl)
 (V:o.guard=none:=by rfl) (W:l[k]?=some o:=by rfl) (hd:dw l o a0.tmps.size ((c,s) :: deps)=true:=by kernel_rfl) (X:gN l k outs=true:=by kernel_rfl)
 (I:(outs.map fun p=>a0.tmps[p.1]?)=(outs.map fun p=>some p.2):=by rfl):ZJ D c d Q1 Q2 P Q l a0 Rs W0 k o:=by
 intro σ a w Y r z S J K
 have i:=z
 obtain ⟨g,Z,h2⟩:=gp Y K J X I (fE (deps:=(c,s) :: deps) r S hd (fun v A hR ev=>by
  unfold EL at i
  rw [A] at i
  obtain ⟨x,y,L,M,B,-⟩:=i
  exact gq (h a.eval w v x y L M B (fun _=>rfl) ev)))
 refine eT (by simpa using W) V (fI f fn T U H xs m F g Z h2 (fun e w' ⟨u,I,hr,N⟩=>⟨u,I,u,rfl,hr,Fr.aj (j _ _ _ N),?_⟩))
 have ec:upd σ k u c=σ c:=by unfold upd;rw [if_neg (fun e=>ZQ C (e.trans n))]
 have ed:upd σ k u d=some u:=by unfold upd;rw [if_pos n.symm]
 unfold EL at z ⊢
 rw [ec,ed]
 split at z
 ·rename_i e0
  have O:=fE (deps:=(c,s) :: []) (R:=bQ Rs) (G:=False) r S (by
   unfold dw at hd ⊢
   simp only [List.all_cons,kE] at hd
   simp only [List.all_cons,List.all_nil,Bool.and_true,kE]
   exact hd.1) (fun v A _ _=>by rw [e0] at A;cases A)
  exact O.elim
 ·obtain ⟨x,y,L,M,B,-⟩:=z
  exact ⟨x,y,L,M,B.trans' (j _ _ _ N),fun u' hu=>by cases hu;exact ⟨w,w',B,N,Old.refl' w'⟩⟩
end
section
variable {P:Program} {Q:Exit->Act->World->Prop} {l:List Oper} {a:Act}
theorem IG (y:(Nat->Option Value)->World->Prop) (T:World->World->Prop) (fr ts:List Nat) {g:Nat} {w:World} (Rs:List RR) {d:Array Bool} {F D:Act} (H:F=a) (h0:y (nU fr Rs) w) [hs:Fe T Rs]
 (steps:aH (fun k o=>(fr.contains k || ts.contains k)=true∨ig P Q l a (bQ Rs) y T k o) 0 l)
 (ends:∀ σ w',y σ w'->(∀ k,k < l.length->k∉ts->(σ k).isSome=true)->dx (bQ Rs) w' σ ts (fun a'=>wpList P l.toArray Q (ts.filterMap fun i=>l[i]?) a' w') 0 l a)
 (z:D=bW l (nU fr Rs) a l.length:=by rfl) (r:d=((List.range l.length).map fun k=>fr.contains k).toArray:=by rfl) (A:(List.range l.length).countP (fun k=>!(fr.contains k))<=g:=by decide)
 (hok:fU l=true:=by kernel_rfl) (E:(jB l).all (fun t=>decide (t < a.tmps.size))=true:=by kernel_rfl) (I:ts.Pairwise (· < ·):=by decide) (B:yQ l fr ts=true:=by kernel_rfl) (hfo:Aa l fr ts Rs=true:=by kernel_rfl) :
 wpAny P .any l.toArray Q g d D w:=by
 have hn:(jB l).Nodup:=zR
 have f:∀ k∈fr,k∉ts/\(∃ v,oQ Rs k=.val v)/\∃ o,l[k]?=some o/\∀ e∈o.after,Region.binds .any e=true->e.on∈fr:=fun k hk=>UD
 have m:∀ k,(nU fr Rs k).isSome=fr.contains k:=fun k=>by
  unfold nU
  by_cases hk:k∈fr
  ·obtain ⟨_,⟨v,hv⟩,_⟩:=f k hk
   simp [hk,hv,I7]
  ·simp [hk]
 have s:∀ k v,nU fr Rs k=some v->oQ Rs k=.val v:=fun k v h=>U3
 rw [z]
 refine pI (P:=P) (Q:=Q) (a:=a) hok fr ts I B (fun k hk=>(f k hk).1) (fun k ok hk u e he hb=>by
  obtain ⟨_,_,o,ho,h⟩:=f k hk
  rw [u] at ho
  cases ho
  exact (f _ (h e he hb)).1) (fun σ w'=>y σ w'/\(∀ j v,σ j=some v->bQ Rs j v w')) ?_ ?_ g d (nU fr Rs) w (by rw [r];simp) (fun k hk=>by rw [r,m];simp [hk]) (fun k hk=>by
  have h:=m k
  rw [show fr.contains k=false by simpa using fun h=>(f k h).1 hk] at h
  simpa using h) (fun k hk=>by rw [m];simpa using hk) (fun j oj hj x e he hb=>by
  rw [m] at x ⊢
  obtain ⟨_,_,o,ho,h⟩:=f j (by simpa using x)
  rw [hj] at ho
  cases ho
  simpa using h e he hb) ?_ ⟨h0,fun j v hv=>by
   show Rt (oQ Rs j) v w
   rw [s j v hv]
   rfl⟩
 ·exact UC
 ·rintro σ w' n p ⟨hS1,hR⟩
  have:=oh (G:=fun a'=>wpList P l.toArray Q (ts.filterMap fun i=>l[i]?) a' w') l [] (ends σ w' hS1 n) (fun k hk hkt=>by
   have C:k < l.length:=by simpa using hk
   cases hv:σ k with
   | none=>have:=n k C hkt;rw [hv] at this;simp at this
   | some v=>exact ⟨v,rfl,hR k v hv⟩) p
  simpa using this
 ·have e:(List.range l.length).countP (fun k=>(nU fr Rs k).isNone)=(List.range l.length).countP (fun k=>!(fr.contains k)):=by
   congr 1;funext k
   have:=m k
   cases h:nU fr Rs k <;> rw [h] at this <;> simp at this <;> simp [this]
  rw [e]
  exact A
theorem Bq (D:Nat->Prop) (c d:Nat) (n:Value->World->World->Prop) (r:Value->World->World->Prop) (fr ts:List Nat) {g:Nat} {w:World} (W0:World) (Rs:List RR) {f:Array Bool} {N K:Act} (s:N=a) (h0:Old W0 w) [hs:Fe (Fr D) Rs]
 (steps:aH (fun k o=>(fr.contains k || ts.contains k)=true∨ZJ D c d n r P Q l a Rs W0 k o) 0 l)
 (ends:∀ σ w' v u x y p q,σ c=some v->σ d=some u->Old W0 x->n v x y->Old y p->r u p q->Old q w'->dx (bQ Rs) w' σ ts (fun O=>wpList P l.toArray Q (ts.filterMap fun i=>l[i]?) O w') 0 l a)
 (j:(decide (c < l.length) && decide (d < l.length) && !(ts.contains c) && !(ts.contains d) && !(fr.contains c) && !(fr.contains d))=true:=by kernel_rfl)
 (z:K=bW l (nU fr Rs) a l.length:=by rfl) (A:f=((List.range l.length).map fun k=>fr.contains k).toArray:=by rfl) (B:(List.range l.length).countP (fun k=>!(fr.contains k))<=g:=by decide)
 (C:fU l=true:=by kernel_rfl) (m:(jB l).all (fun t=>decide (t < a.tmps.size))=true:=by kernel_rfl) (R:ts.Pairwise (· < ·):=by decide) (E:yQ l fr ts=true:=by kernel_rfl) (F:Aa l fr ts Rs=true:=by kernel_rfl) :
 wpAny P .any l.toArray Q g f K w:=by
 simp only [kE,rJ,Bool.not_eq_true',List.contains_eq_mem,decide_eq_false_iff_not] at j
 obtain ⟨⟨⟨⟨⟨S,hd⟩,G⟩,H⟩,I⟩,J⟩:=j
 have n0:∀ k,k∉fr->nU fr Rs k=none:=fun k T=>by unfold nU;simp [T]
 refine IG (EL W0 c d n r) (Fr D) fr ts Rs s (by unfold EL;rw [n0 c I];exact ⟨h0,n0 d J⟩) steps (fun σ w' hI h=>?_) z A B C m R E F
 have L:=h c S G
 have M:=h d hd H
 unfold EL at hI
 split at hI
 ·rename_i e;rw [e] at L;cases L
 ·rename_i v e
  obtain ⟨x,y,U,V,k3,W⟩:=hI
  cases e2:σ d with
  | none=>rw [e2] at M;cases M
  | some u=>
   obtain ⟨p,q,X,Y,Z⟩:=W u e2
   exact ends σ w' v u x y p q e e2 U V X Y Z
end
end Go.Proofs.YthihpfpbiajddaaGreat
