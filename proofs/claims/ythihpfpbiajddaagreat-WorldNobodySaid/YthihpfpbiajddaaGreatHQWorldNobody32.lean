/- Parts of the proof. -/
import Derived.Test.YthihpfpbiajddaaGreatHQWorldNobody31
set_option maxRecDepth 100000
set_option maxHeartbeats 8000000
open Go.Proofs.Tryz
namespace Go.Proofs.YthihpfpbiajddaaGreat
open Go.RowKit
theorem IA (F K:Nat->Prop) (g:Nat) (c:jc) (seq r:Int) (A:Option Addr) (m f:Nat) (ns:List Int) (hl:m=ns.length) (hm:m<=1000) (y:m<=f) (k1:c.is seq=true) (k2:bC.may ⟨r,ns⟩=true) (k3:c.known.az<=r) (w:World) (hK:∀ k,w.heap.size<=k->K k) (h:gM w F K g c) (hA:aP w A ns) :
 aS 74 #[g,zi seq,.agg #[zi r,.slice A m f]] w fun e w'=>e=.returned (.tuple #[])/\gM w' F K g { c with known:=⟨r,ns⟩ }/\Fr F w w':=by
 obtain ⟨i,hvb⟩:=aR (w.heap.size)
 obtain ⟨W0,B⟩:=aR ((w.alloc (.cells #[zi r,.slice A m f] 59)).drew)
 have J:Old w W0:=by rw [<- B];exact ((Old.refl' w).ag _).drew'
 have L:Bk W0 i 59 #[zi r,.slice A m f]:=by rw [<- B,<- hvb];exact (Bk.new w _ _).drew
 have cI:=aa (fun W (hW:Old W0 W)=>WN F K g c seq true k1 W (h.old (J.trans' hW)))
 have cM:=aa (fun W (hW:Old W0 W)=>wu r A m f ns true hl af y k2 W (hA.old (J.trans' hW)))
 obtain ⟨A9,q9,V9,u,-,-,-⟩:=h.ex
 obtain ⟨id,n,sq,⟨ce,cn⟩,p⟩:=c
 simp only at u k3
 have hG:=u.old J
 have hD:=aa (fun (U:World) (hS:Old W0 U)=>(⟨((L.old hS).cell 0).trans rfl,((L.old hS).cell 1).trans rfl,((hG.old hS).cell 3).trans rfl,(L.old hS).lt,(hG.old hS).lt⟩:U.cell? ⟨i,0,none⟩=some (zi r)/\U.cell? ⟨i,1,none⟩=some (.slice A m f)/\U.cell? ⟨g,3,none⟩=some (zi ce)/\i < U.heap.size/\g < U.heap.size))
 have HNE:kN (¬ g=i):=aa (by have:=u.lt;omega)
 have M:kN (w.heap.size<=i):=aa af
 have HO:=aa J
 have HX:=aa L
 have C:=aa h
 have HA:=aa hA
 have HK:=aa hK
 have HL:=aa hl
 clear h u hG L J hA hK hl y k1 k2
 go_enter func74,ntmps74
 go_upto_region 1 with fail
 refine aY (R:=pick [eqv (av g 0),eqv (zi seq),eqv (.bool true),eqv (.bool true),eqv (.agg #[zi r,.slice A m f]),eqv (.bool true),eqv (.bool true),eqv (.bool true),eqv (av i 0),eqv (zi r),eqv (av g 0),eqv (av g 0),eqv (av g 3),eqv (av g 3),eqv (zi ce),eqv (.bool true),eqv (.bool true)]) (S:=fun _ w'=>Old W0 w') (T:=Old) ay ay ay (ai.pick (ai.eqv (ai.eqv (ai.eqv (ai.eqv (ai.eqv (ai.eqv (ai.eqv (ai.eqv (ai.eqv (ai.eqv (ai.eqv (ai.eqv (ai.eqv (ai.eqv (ai.eqv (ai.eqv (ai.eqv (ai.nil))))))))))))))))))) ((by rw [<- B];exact Old.refl' _)) ?steps ?ends
 case steps=>
  refine .cons (zp [] [(0,g)]) <|.cons (zp [] [(1,zi seq)]) ?_
  refine aH.cons (bP [(0,6),(1,7)] [] rfl rfl ay ay rfl ?_) ?_
  ·rintro d a w' l s hS _ q0 rfl e6 _ q1 rfl e7 
   first | refine Given.nil (aU.nil ?_) | refine aU.nil ?_
   refine fI 131 _ func131 ay ay _ _ iW [av g 0,zi seq] zap (cI.o _ hS) ?_
   rintro e w1 ⟨rfl,rfl⟩
   exact ⟨_,rfl,_,rfl,rfl,Old.refl' _,hS⟩
  refine .cons (zp [(2,8)] []) ?_
  refine .cons (zg 3 9 true [] [(5,i)] (fun d E w' l s hS N O=>by rintro  e5;obtain ⟨u0,u1,u2,u3,u4⟩:=hD.o w' hS;exact ⟨_,by go_simp,rfl⟩)) ?_
  refine aH.cons (lC 3 9 true rfl rfl ay (fun _ _ h=>h) [(4,10)] [] ay ay rfl ?_) ?_
  ·rintro d a w' l s hS _ q4 rfl e10 
   first | refine Given.nil (aU.nil ?_) | refine aU.nil ?_
   refine fI 132 _ func132 ay ay _ _ iW [.agg #[zi r,.slice A m f]] zap (cM.o _ hS) ?_
   rintro e w1 ⟨rfl,hb⟩
   exact ⟨_,rfl,_,rfl,rfl,hb,hS.trans' hb⟩
  refine .cons (zp [(3,9),(5,11)] [] (fun d E w' l s hS N O=>by rintro _ q3 rfl e9 _ q5 rfl e11 ;exact ⟨_,by go_simp,rfl⟩)) ?_
  refine .cons (zp [(6,12)] []) <|.cons (zg 7 13 true [] [(5,i)]) ?_
  refine .cons (zg 7 13 true [(8,14)] [] (fun d E w' l s hS N O=>by rintro _ q8 rfl e14 ;obtain ⟨u0,u1,u2,u3,u4⟩:=hD.o w' hS;exact ⟨_,by go_simp,rfl⟩)) ?_
  refine .cons (zg 7 13 true [] [(0,g)]) <|.cons (zg 7 13 true [(10,16)] []) <|.cons (zg 7 13 true [(11,17)] []) <|.cons (zg 7 13 true [(12,18)] []) ?_
  refine .cons (zg 7 13 true [(13,19)] [] (fun d E w' l s hS N O=>by rintro _ TT rfl e19 ;obtain ⟨u0,u1,u2,u3,u4⟩:=hD.o w' hS;exact ⟨_,by go_simp,rfl⟩)) ?_
  refine .cons (zg 7 13 true [(9,15),(14,20)] [] (fun d E w' l s hS N O=>by rintro _ q9 rfl e15 _ Qk rfl e20 ;exact ⟨_,by go_simp,rfl⟩)) ?_
  refine .cons (zp [(7,13),(15,21)] [] (fun d E w' l s hS N O=>by rintro _ q7 rfl e13 _ q15 rfl e21 ;exact ⟨_,by go_simp,rfl⟩)) ?_
  exact aH.nil
 case ends=>
  intro jA w9 D IW
  iterate 17 refine .eqv _ _ rfl (fun _ h=>h) ?_
  refine Ends.nil ?_
  clear IW
  simp only [aC,ax,fM,fJ]
  have P:=aa (HO.o.trans' D)
  have X9:=aa (HX.o.old D)
  obtain ⟨wa,rfl⟩:∃ W:World,W=w9:=⟨_,rfl⟩
  have cC:=aa (jg A m f ns af HL.o wa (HA.o.old P.o))
  obtain ⟨x0,x1,x2,x3,x4⟩:=bk2 X9.o
  clear D
  go_wp2_with fail
  refine cC.o.mono ?_
  rintro e G ⟨z,c1,rfl,j,x⟩
  obtain ⟨A0,q0,V0,u,l1,h3,h4⟩:=(C.o.old (P.o.trans' x)).ex
  have X2:=X9.o.old x
  obtain ⟨y0,y1,y2,y3,y4⟩:=bk2 X2
  obtain ⟨v3,hv3⟩:∃ v,G.cell? ⟨g,3,none⟩=some v:=⟨_,(u.cell 3).trans rfl⟩
  obtain ⟨v4,hv4⟩:∃ v,G.cell? ⟨g,4,none⟩=some v:=⟨_,(u.cell 4).trans rfl⟩
  have f3:=u.frozen 3
  have f4:=u.frozen 4
  have hg2:=u.lt
  have H:=P.o.trans' x
  have hsz:=H.size
  have hne:¬ g=i:=HNE.o
  have V:Fr (fun k=>k=i∨k=g) G (((G.setCell ⟨i,1,none⟩ (.slice z m c1)).setCell ⟨g,3,none⟩ (zi r)).setCell ⟨g,4,none⟩ (.slice z m c1)):=
   Fr.setCell (p:=⟨g,4,none⟩) (Fr.setCell (p:=⟨g,3,none⟩) (Fr.setCell (p:=⟨i,1,none⟩) (Fr.refl _ _) (.inr (.inl rfl)) _) (.inr (.inr rfl)) _) (.inr (.inr rfl)) _
  have X:Bk (G.setCell ⟨i,1,none⟩ (.slice z m c1)) g 87 _:=u.fr (S:=fun k=>k=i) (Fr.setCell (S:=fun k=>k=i) (p:=⟨i,1,none⟩) (Fr.refl _ _) (.inr rfl) _) hne
  have I:=(X.bH 3 (zi r)).bH 4 (.slice z m c1)
  have Y:m<=c1:=by obtain ⟨_,_,e3,h3,_⟩:=bI j;cases e3;exact h3
  have Z:fD G (fun k=>(K k/\¬ F k)/\k≠i) z ns:=fD.bA (by first | exact j | (have:=HL.o;subst this;exact j)) fun k hk1 hk2=>⟨⟨HK.o k (by have:=P.o.size;omega),fun hF=>by have:=C.o.lt k hF;have:=P.o.size;omega⟩,by have:=X9.o.lt;omega⟩
  have HF:=aa (show gM (((G.setCell ⟨i,1,none⟩ (.slice z m c1)).setCell ⟨g,3,none⟩ (zi r)).setCell ⟨g,4,none⟩ (.slice z m c1)) F K g ⟨id,n,sq,⟨r,ns⟩,p⟩ from
   ⟨⟨z,c1,V0,by have e:=HL.o;rw [e] at I ⊢;simpa using I,HL.o▸Y,(Z.fr V (fun k l e=>by
    rcases e with rfl | rfl
    ·exact l.2 rfl
    ·exact l.1.2 C.o.gF)).mono (fun k _ l=>l.1),h4.fr V (fun k l hkg e=>by
    rcases e with rfl | rfl
    ·have:=C.o.lt _ l;have:=M.o;omega
    ·exact hkg rfl)⟩,C.o.gF,fun k l=>by have:=C.o.lt k l;have:=V.size;omega⟩)
  have HR:=aa ((Fr.aj (S:=F) H).trans' V (fun k l e=>by
   rcases e with rfl | rfl
   ·have:=M.o;omega
   ·exact C.o.gF))
  clear u l1 h3 h4 j x X2 H V X I Y Z
  go_wp2_with fail
  go_end0
  exact ⟨rfl,HF.o,HR.o⟩
theorem LU (F K:Nat->Prop) (g:Nat) (c C:jc) (now D:Int) (q1 X i j l:Int) (m:ByteArray) (M:c.p=none) (N:1<=c.n) (s:c.n<=1000) (r:c.known.nodes.length<=1000) (O:0<=c.seq/\c.seq<=1099511627776) (u:0<=now/\now<=1099511627776) (E:mX c.id (c.seq + 1) i j l m=true) (G:({ c with seq:=c.seq + 1 }:jc).Cr now ⟨c.id,c.seq + 1,i,j,l,m⟩ 0=(C,D)) (w:World) (h:gM w F K g c) :
 aS 33 #[g,zi now,.agg #[zi q1,zi X,zi i,zi j,zi l,.string m]] w fun e w'=>e=.returned (.tuple #[zi D,zi 0])/\(∃ F',gM w' F' K g C/\jH w F F')/\Fr F w w':=by
 have x:=aa h
 obtain ⟨A9,q9,V9,f,-,-,-⟩:=h.ex
 obtain ⟨id,n,d,kn,p⟩:=c
 simp only at f O E M G N s r
 subst M
 obtain ⟨s0,s1⟩:=O
 obtain ⟨w0,w9⟩:=u
 have n0:¬ now < 0:=af
 have n1:¬ 1099511627776 < now:=af
 have Y:=aa (fun W=>lG id (d + 1) i j l m true E W)
 have c0:w.cell? ⟨g,0,none⟩=some (zi id):=(f.cell 0).trans rfl
 have c2:w.cell? ⟨g,2,none⟩=some (zi d):=(f.cell 2).trans rfl
 have hg:=f.lt
 have Z:IntKind.i64.wrap (d + 1)=d + 1:=kP _ af
 have HC:=aa G
 clear h f E G
 go_enter func33,ntmps33
 go_upto_region 3 with fail
 go_region
 go_wp2_with fail
 refine (Y.o _).mono ?_
 rintro e w1 ⟨rfl,H⟩
 have I:=aa (((Old.refl' w).ag (.cells #[zi id,zi (d + 1),zi i,zi j,zi l,.string m] 36)).drew'.trans' H)
 have XR:=aa ((Bk.new w 36 #[zi id,zi (d + 1),zi i,zi j,zi l,.string m]).drew.old H)
 obtain ⟨⟨x0,x1,x2,x3,x4,x5⟩,xl⟩:=lH XR.o
 clear H
 obtain ⟨A,q,V,f,J,L,h4⟩:=(x.o.old I.o).ex
 have e:V=.pointer none:=h4
 subst e
 simp only at f J L
 have y2:w1.cell? ⟨g,2,none⟩=some (zi d):=(f.cell 2).trans rfl
 have y5:w1.cell? ⟨g,5,none⟩=some (.pointer none):=(f.cell 5).trans rfl
 have f2:=f.frozen 2
 have f5:=f.frozen 5
 have hg1:=f.lt
 have hxg:¬ w.heap.size=g:=af
 have H1:=aa f
 have H3:=aa L
 have L1:=aa J
 clear f J L h4
 go_wp2_with fail
 have B:Fr (fun k=>k=g) w1 (((w1.setCell ⟨g,2,none⟩ (zi (d + 1))).setCell ⟨g,5,none⟩ (av w1.heap.size 0)).alloc (.cells #[zi id,zi (d + 1),zi i,zi j,zi l,.string m,zi 0,zi 0] 163)):=
  (Fr.setCell (S:=fun k=>k=g) (p:=⟨g,5,none⟩) (Fr.setCell (S:=fun k=>k=g) (p:=⟨g,2,none⟩) (Fr.refl _ _) (.inr rfl) _) (.inr rfl) _).alloc _
 have hs1:=I.o.size
 have y:gM (((w1.setCell ⟨g,2,none⟩ (zi (d + 1))).setCell ⟨g,5,none⟩ (av w1.heap.size 0)).alloc (.cells #[zi id,zi (d + 1),zi i,zi j,zi l,.string m,zi 0,zi 0] 163)) (fun k=>F k∨k=w1.heap.size) K g ⟨id,n,d + 1,kn,some (⟨id,d + 1,i,j,l,m⟩,0,0)⟩:=
  ⟨⟨A,q,_,by simpa using ((H1.o.bH 2 (zi (d + 1))).bH 5 (av w1.heap.size 0)).alloc (.cells #[zi id,zi (d + 1),zi i,zi j,zi l,.string m,zi 0,zi 0] 163),L1.o,
   (H3.o.mono (K':=fun k=>K k/\¬ (F k∨k=w1.heap.size)) fun k r z=>⟨z.1,fun e=>e.elim z.2 (fun e=>af)⟩).fr B (fun k r e=>r.2 (.inl (e▸x.o.gF))),
   ⟨w1.heap.size,rfl,af,.inr rfl,by simpa [sW] using Bk.new ((w1.setCell ⟨g,2,none⟩ (zi (d + 1))).setCell ⟨g,5,none⟩ (av w1.heap.size 0)) 163 #[zi id,zi (d + 1),zi i,zi j,zi l,.string m,zi 0,zi 0]⟩⟩,.inl x.o.gF,fun k r=>by
    rcases r with r | rfl
    ·have:=x.o.lt k r;have:=B.size;omega
    ·simp⟩
 have P:=WX (fun k=>F k∨k=w1.heap.size) K g ⟨id,n,d + 1,kn,some (⟨id,d + 1,i,j,l,m⟩,0,0)⟩ C ⟨id,d + 1,i,j,l,m⟩ now 0 0 D rfl N s r ⟨af,af⟩ HC.o _ y
 refine P.mono ?_
 rintro e w5 ⟨rfl,R,U⟩
 have K1:=aa R
 have HR:=aa ((Fr.aj (S:=F) I.o).trans' ((B.mono (T:=fun k=>F k∨k=w1.heap.size) fun k _ e=>.inl (e▸x.o.gF)).trans U) (fun k r e=>e.elim (fun e=>e) (fun e=>af)))
 clear R U P y B
 go_wp2_with fail
 go_ret2
 exact ⟨rfl,⟨_,K1.o,fun k r=>r.elim .inl (fun e=>.inr af)⟩,HR.o⟩
theorem WY {w:World} {g:Nat} {t:TypeId} {a b c d e f x y z:Value} (h:Bk w g t #[x,y,z,a,b,c,d,e,f]):∀ (j:Nat) v,#[a,b,c,d,e,f][j]?=some v->w.cell? ⟨g,3 + j,none⟩=some v:=fun j v i=>by
 rw [h.cell]
 match j,i with
 | 0,i=>exact i
 | 1,i=>exact i
 | 2,i=>exact i
 | 3,i=>exact i
 | 4,i=>exact i
 | 5,i=>exact i
 | j + 6,i=>simp at i
section
variable {w w':World} {own own':Nat->Tag} {c W:Nat} {u:bV} {gs cs:List Nat} {l:List bR} {s:WV}
end
def CQ (own:Nat->Tag) (c j gc:Nat) (x':jc) (x y:World):Prop:=(∃ F',gM y F' (fun b=>own b=aB) gc x'/\jH x (fun b=>own b=kZ c j) F')/\Fr (fun b=>own b=kZ c j) x y
def AQ (own:Nat->Tag) (c pp:Nat) (v:PV) (l:List bR) (x y:World):Prop:=(∃ F',Dn y pp F' (fun b=>own b=aB) v l/\∀ b,F' b->own b=oJ c∨x.heap.size<=b)/\Fr (fun b=>own b=oJ c) x y
theorem gT.keep {w w':World} {own own':Nat->Tag} {c:Nat} (h:gT w own c w' own') {b:Nat} {t:TypeId} {cs:Array Value} (d:Bk w b t cs) (e:(own b).1≠c + 1):Bk w' b t cs:=d.fr h.fr e
section
variable {w w':World} {own own':Nat->Tag} {c W:Nat} {u:bV} {gs cs:List Nat} {l:List bR} {s:WV}
theorem Ph (h:gZ w own c W u gs cs l s) (j:Nat) (m q1 q2 g i n:Int) (p:ByteArray) (x x':jc) (I:Int) (hx:s.au[j]?=some x) (J:aaX x) (K:0<=s.clocks[s.conf.nodes + j]?.getD 0/\s.clocks[s.conf.nodes + j]?.getD 0<=1099511627776) (hp:x.p=none) (hm:mX x.id (x.seq + 1) g i n p=true)
 (B:({ x with seq:=x.seq + 1 }:jc).Cr (s.clocks[s.conf.nodes + j]?.getD 0) ⟨x.id,x.seq + 1,g,i,n,p⟩ 0=(x',I)) (hE:s.past.mV ⟨x.id,x.seq + 1,g,i,n,p⟩=0) (X:s.past.n<=50000) (hN:s.bO.length<=1099511627776) :
 aS 9 #[W,.agg #[zi 7,zi (j:Int),zi m,zi q1,zi q2,zi g,zi i,zi n,.string p]] w (ek w own c W gs cs (((({ s with au:=s.au.set j x' }:WV).asked ⟨x.id,x.seq + 1,g,i,n,p⟩)).qL j I ⟨x.id,x.seq + 1,g,i,n,p⟩) (.bool true)):=by
 obtain ⟨F,P⟩:=aR (cs[j]?.getD 0)
 have hjl:=(List.getElem?_eq_some_iff.1 hx).1
 have hcs:(if 0<=(j:Int) then cs[(j:Int).toNat]? else none)=some F:=by
  rw [if_pos af,<- P,EZ,gG (by have:=h.len;omega)]
  rfl
 obtain ⟨nn,Z⟩:∃ x:Int,(s.conf.nodes:Int)=x:=⟨_,rfl⟩
 obtain ⟨now,hnw⟩:=aR (s.clocks[s.conf.nodes + j]?.getD 0)
 rw [hnw] at K B
 obtain ⟨d,G⟩:=aR (x.id)
 obtain ⟨f,H⟩:=aR (x.seq + 1)
 obtain ⟨s9,IY⟩:=aR (((({ s with au:=s.au.set j x' }:WV).asked ⟨x.id,x.seq + 1,g,i,n,p⟩)).qL j I ⟨x.id,x.seq + 1,g,i,n,p⟩)
 rw [IY]
 obtain ⟨V,hWb,hWt⟩:=h.block
 obtain ⟨w1,L⟩:∃ x,x=w.alloc (.cells #[zi 7,zi (j:Int),zi m,zi q1,zi q2,zi g,zi i,zi n,.string p] 38):=⟨_,rfl⟩
 have o1:Old w w1:=L▸(Old.refl' w).ag _
 have M:=aa (show Bk w1 w.heap.size 38 #[zi 7,zi (j:Int),zi m,zi q1,zi q2,zi g,zi i,zi n,.string p] from L▸Bk.new w 38 _)
 have XW:=aa (show Bk w1 W 82 #[zi nn,zi s.conf.au,zi s.conf.aI,u.nodes,u.au,.slice u.uY u.dQ.length u.Se,ptr u.pb,ptr u.pp,.map (some u.pv),V] by rw [<- Z];exact hWb.old o1)
 have O1:=aa o1
 have H1:=aa (h.old o1)
 have HT:=aa h.top
 have Ii:=aa Z
 have HWD:=aa (show ¬ own W=kZ c j by rw [hWt];simp [kZ];omega)
 have WU:=aa (show ¬ own w.heap.size=kZ c j by rw [h.top _ (dN _)];simp [aB,kZ])
 have LM:=aa (show IntKind.i64.wrap (nn + j)=nn + j from kP _ (by have:=h.conf;have:=h.len;omega))
 have cC:=aa (fun W' (N:Old w1 W')=>Tc (H1.o.old N) j (some F) hcs)
 have cW:=aa (fun W' (N:Old w1 W')=>Ta (H1.o.old N) (nn + j) now (by
  rw [if_pos af,<- hnw]
  congr 2
  omega))
 have hC1:gM w1 (fun b=>own b=kZ c j) (fun b=>own b=aB) F x:=by
  have:=H1.o.client j x hx
  rw [P] at this
  exact this
 have cK:=aa (fun W' (N:Old w1 W')=>(LU _ _ F x x' now I q1 q2 g i n p hp J.n.1 J.n.2 J.known J.seq K hm B W' ((gy F x).fr hC1 (Fr.aj (S:=fun _=>False) N) (fun _ _ h=>h))).mono fun e O hh=>(show e=.returned (.tuple #[zi I,zi 0])/\CQ own c j F x' W' O from hh))
 obtain ⟨pp,OV⟩:=aR (u.pp)
 have Td:=aa OV
 have HJ:=aa hjl
 have Zz:=aa (show j<=4 by have:=h.conf;have:=h.len;omega)
 have HGC:=aa P
 have HXP:=aa (show x'.p=some (⟨d,f,g,i,n,p⟩,now,1) by
  rw [<- G,<- H]
  unfold jc.Cr at B
  rw [<- (Prod.mk.inj B).1]
  rfl)
 have HE:=aa (show s.past.mV ⟨d,f,g,i,n,p⟩=0 by rw [<- G,<- H];exact hE)
 have IB:=aa (show ((({ s with au:=s.au.set j x' }:WV).asked ⟨d,f,g,i,n,p⟩)).qL j I ⟨d,f,g,i,n,p⟩=s9 by rw [<- G,<- H];exact IY)
 have HFW:=aa X
 have HBG:=aa hN
 clear h o1 hcs Z hnw IY hx J K hp hm B hE X hN P hjl hWb hWt hC1 OV G H
 unfold xF at cC
 go_enter func9,ntmps9
 have x0:=M.o.cell 0
 have xl:=M.o.lt
 simp only [iZ,je] at x0
 rw [L] at x0 xl
 go_wp2_with fail
 rw [<- L]
 clear L x0 xl
 refine bG Old w1 [.val W,.val W,.val (av W 4),.val (av w.heap.size 1),.val (zi (j:Int)),.val F,.val F] ((Old.refl' _).drew') ?st ?en
 case st=>
  refine .cons (sp [] [(0,W)] ?_)<|.cons (sp [(0,49)] [] ?_)<|.cons (sp [(1,50)] [] ?_)<|.cons (sp [] [(3,w.heap.size)] ?_)<|.cons (sp [(3,52)] [] ?_)<|.cons (sc 32 func32 [(2,51),(4,53)] [] _ ?c5)<|.cons (sp [(5,54)] [] ?_)<|.nil
  case c5=>
   intro E w' z B
   rintro e51 e53
   exact ⟨_,jQ,.of (cC.o w' z) fun e O h=>⟨_,h.1,rfl,h.2⟩⟩
  all_goals
   intro E w' z B Y
   have y1:=(M.o.old z).cell 1
   have yl:=(M.o.old z).lt
   simp only [iZ,je,nW] at y1
   repeat intro _
   exact ⟨_,dP,rfl⟩
 case en=>
  intro jA w9 C
  iterate 7 refine Ends.eqv _ _ rfl (fun _ h=>h) ?_
  refine Ends.nil ?_
  simp only [aC,ax,fM,fJ]
  have O2:=aa (O1.o.trans' C)
  have H2:=aa (H1.o.old C)
  have M:=aa (M.o.old C)
  have XW:=aa (XW.o.old C)
  have cW:=aa (fun W' (N:Old w9 W')=>cW.o W' (C.trans' N))
  have cK:=aa (fun W' (N:Old w9 W')=>cK.o W' (C.trans' N))
  obtain ⟨O,rfl⟩:∃ x,x=w9:=⟨_,rfl⟩
  clear C
  go_wp2_with fail
  refine qo (fun k=>own k=kZ c j) 13 (CQ own c j F x') 19 aW O [.val F,.val W,.val W,.val W,.val W,.val W,.val (zi nn),.val (av w.heap.size 1),.val (zi (j:Int)),.val (zi (nn + j)),.val (zi now),.val (av w.heap.size 3),.val (.agg #[zi q1,zi q2,zi g,zi i,zi n,.string p]),.val (.tuple #[zi I,zi 0]),.val (.tuple #[zi I,zi 0]),.val (zi I),.val (zi 0),.val (zi I),.val (zi 0)] ((Old.refl' _).drew') ?st ?en
  case st=>
   refine .cons (sp1 (fun _ _ h=>h.2) [] [(5,F)] ?_)<|.cons (sp1 (fun _ _ h=>h.2) [] [(0,W)] ?_)<|.cons (sp1 (fun _ _ h=>h.2) [] [(0,W)] ?_)<|.cons (sp1 (fun _ _ h=>h.2) [(2,58)] [] ?_)<|.cons (sp1 (fun _ _ h=>h.2) [(3,59)] [] ?_)<|.cons (sp1 (fun _ _ h=>h.2) [(4,60)] [] ?_)<|.cons (sp1 (fun _ _ h=>h.2) [(5,61)] [] ?c6)<|.cons (sp1 (fun _ _ h=>h.2) [] [(3,w.heap.size)] ?_)<|.cons (sp1 (fun _ _ h=>h.2) [(7,63)] [] ?c8)<|.cons (sp1 (fun _ _ h=>h.2) [(6,62),(8,64)] [] ?c9)<|.cons (SI (fun _ _ h=>h.2) 34 func34 [(1,57),(9,65)] [] _ ?c10)<|.cons (sp1 (fun _ _ h=>h.2) [] [(3,w.heap.size)] ?_)<|.cons (sp1 (fun _ _ h=>h.2) [(11,67)] [] ?c12)<|.cons (Et (fun _ _ h=>h.2) 33 func33 [(0,56),(10,66),(12,68)] [] _ ?c13)<|.cons (sp1 (fun _ _ h=>h.2) [(13,69)] [] ?_)<|.cons (sp1 (fun _ _ h=>h.2) [(14,55)] [] ?_)<|.cons (sp1 (fun _ _ h=>h.2) [(14,55)] [] ?_)<|.cons (sp1 (fun _ _ h=>h.2) [(15,70)] [] ?_)<|.cons (sp1 (fun _ _ h=>h.2) [(16,71)] [] ?_)<|.nil
   case c6=>
    intro E w' z B Y
    rintro e61
    have x0:=(XW.o.fr z HWD.o).cell 0
    have xl:=(XW.o.fr z HWD.o).lt
    simp only [iZ,je,nW] at x0
    exact ⟨_,dP,rfl⟩
   case c8=>
    intro E w' z B Y
    rintro e63
    have y1:=(M.o.fr z WU.o).cell 1
    have yl:=(M.o.fr z WU.o).lt
    simp only [iZ,je,nW] at y1
    exact ⟨_,dP,rfl⟩
   case c9=>
    intro E w' z B Y
    rintro e62 e64
    exact ⟨_,by go_simp;exact LM.o,rfl⟩
   case c10=>
    intro E w' z B
    rintro e57 e65
    exact ⟨_,jQ,.of (cW.o w' z) fun e O h=>⟨_,h.1,rfl,h.2⟩⟩
   case c12=>
    intro E w' z B Y
    rintro e67
    exact ⟨_,eH 36 (.tmp 67) rfl w.heap.size 3 _ _ (by assumption) (WY (M.o.fr z WU.o)) underlying36 rfl Bn,rfl⟩
   case c13=>
    intro E w' z B
    rintro e56 e66 e68
    exact ⟨_,jQ,(cK.o w' z).mono fun e O h=>⟨_,h.1,rfl,h.2⟩⟩
   all_goals
    intro E w' z B Y
    repeat intro _
    exact ⟨_,dP,rfl⟩
  case en=>
   intro jA w9 x9 y9 A vG D
   iterate 19 refine Ends.eqv _ _ rfl (fun _ h=>h) ?_
   refine Ends.nil ?_
   simp only [aC,ax,fM,fJ]
   simp only [MH,Ja,List.drop_nil]
   obtain ⟨⟨F',hC,hG⟩,hF⟩:=vG
   have hTx:=(O2.o.trans' A).size
   obtain ⟨r,h4,d4⟩:=(H2.o.old A).Bj HJ.o (F':=F') (x':=x') (by rw [HGC.o];exact (gy F x').fr hC (Fr.aj (S:=fun _=>False) D) (fun _ _ h=>h)) hG (hF.trans (Fr.aj D))
   have D2:=(gT.refl c HT.o).old (O2.o.trans' A)
   obtain ⟨w4,rfl⟩:∃ x,x=w9:=⟨_,rfl⟩
   have H4:=aa h4
   have D4:=aa (D2.trans d4)
   have TR:=aa (show r w.heap.size=aB from (d4.ext _ (iD (M.o.lt) A.size)).trans (HT.o _ (dN _)))
   have ZB:=aa (d4.keep (M.o.old A) (by rw [HT.o _ (dN _)];simp [aB]))
   have hx4:({ s with au:=s.au.set j x' }:WV).au[j]?=some x':=ME HJ.o
   have hC4:gM w4 (fun b=>r b=kZ c j) (fun b=>r b=aB) F x':=by
    have:=H4.o.client j x' hx4
    rw [HGC.o] at this
    exact this
   have cP:=aa (Iz _ _ F x' ⟨d,f,g,i,n,p⟩ (by rw [HXP.o];rfl) w4 hC4)
   rw [HXP.o] at cP
   clear hC hG hF A D h4 d4 D2 hTx hx4 hC4
   go_wp2_with fail
   refine cP.o.mono ?_
   rintro e R ⟨rfl,o5⟩
   obtain ⟨w6,T⟩:∃ y,y=R.alloc (.cells #[zi d,zi f,zi g,zi i,zi n,.string p] 36):=⟨_,rfl⟩
   have U:Old R w6:=T▸(Old.refl' R).ag _
   have XQ:=aa (show Bk w6 R.heap.size 36 #[zi d,zi f,zi g,zi i,zi n,.string p] from T▸Bk.new R 36 _)
   have H6:=aa (H4.o.old (o5.trans' U))
   have D6:=aa (D4.o.old (o5.trans' U))
   have XB6:=aa (ZB.o.old (o5.trans' U))
   have HQ6:=aa (show r R.heap.size=aB from H4.o.top _ o5.size)
   have cS:=aa (fun W' (N:Old w6 W')=>(WQ pp (fun b=>r b=oJ c) (fun b=>r b=aB) s.past l HFW.o ⟨d,f,g,i,n,p⟩ HE.o W' (Td.o▸(H6.o.old N).past)).mono fun e O hh=>(show e=.returned (zi 0)/\AQ r c pp (s.past.asked ⟨d,f,g,i,n,p⟩) (l ++ [EE ⟨d,f,g,i,n,p⟩]) W' O from hh))
   clear o5 U
   go_wp2_with fail
   rw [<- T]
   clear T
   refine qo (fun k=>r k=oJ c) 5 (AQ r c pp (s.past.asked ⟨d,f,g,i,n,p⟩) (l ++ [EE ⟨d,f,g,i,n,p⟩])) 6 aW w6 [.val W,.val W,.val (av W 7),.val pp,.val (.agg #[zi d,zi f,zi g,zi i,zi n,.string p]),.val (zi 0)] ((Old.refl' _).drew') ?st ?en
   case st=>
    refine .cons (sp1 (fun _ _ h=>h.2) [] [(0,W)] ?_)<|.cons (sp1 (fun _ _ h=>h.2) [(0,79)] [] ?_)<|.cons (sp1 (fun _ _ h=>h.2) [(1,80)] [] ?_)<|.cons (ve (fun _ _ h=>h.2) [(2,81)] [] ?c3)<|.cons (ve (fun _ _ h=>h.2) [] [(8,R.heap.size)] ?c4)<|.cons (Et (fun _ _ h=>h.2) 36 func36 [(3,82),(4,83)] [] _ ?c5)<|.nil
    case c3=>
     intro E w' z B Y
     rintro e81
     have x7:=(H6.o.old z).cells.2.2.2.2.2.2.1
     have xl:=(H6.o.old z).cells.2.2.2.2.2.2.2
     rw [Td.o] at x7
     exact ⟨_,dP,rfl⟩
    case c4=>
     intro E w' z B Y
     rintro e8
     exact ⟨_,eH 36 (.tmp 8) rfl R.heap.size 0 _ _ (by assumption) (LJ (XQ.o.old z)) underlying36 rfl Bn,rfl⟩
    case c5=>
     intro E w' z B
     rintro e82 e83
     exact ⟨_,jQ,(cS.o w' z).mono fun e O h=>⟨_,h.1,rfl,h.2⟩⟩
    all_goals
     intro E w' z B Y
     repeat intro _
     exact ⟨_,dP,rfl⟩
   case en=>
    intro jA w9 x9 y9 A vG D
    iterate 6 refine Ends.eqv _ _ rfl (fun _ h=>h) ?_
    refine Ends.nil ?_
    simp only [aC,ax,fM,fJ]
    simp only [MH,Ja,List.drop_nil]
    obtain ⟨⟨F',hC,hG⟩,hF⟩:=vG
    obtain ⟨Eu,h7,d7⟩:=(H6.o.old A).Lm (F':=F') (v':=s.past.asked ⟨d,f,g,i,n,p⟩) (l':=l ++ [EE ⟨d,f,g,i,n,p⟩]) (by rw [Td.o];exact (sZ pp _ _).fr hC (Fr.aj (S:=fun _=>False) D) (fun _ _ h=>h)) hG (hF.trans (Fr.aj D))
    obtain ⟨w7,rfl⟩:∃ x,x=w9:=⟨_,rfl⟩
    have XB7:=aa (d7.keep (XB6.o.old A) (by rw [TR.o];simp [aB]))
    have XQ7:=aa (d7.keep (XQ.o.old A) (by rw [HQ6.o];simp [aB]))
    have D7:=aa ((D6.o.old A).trans d7)
    have cZ:=aa ((aaW h7 j Zz.o I d f g i n p HBG.o).mono fun e O hh=>(show e=.returned (.tuple #[])/\ek w own c W gs cs s9 (.bool true) (.returned (.bool true)) O from ⟨hh.1,by
     obtain ⟨CL,h8,d8⟩:=hh.2
     refine ⟨rfl,CL,u,l ++ [EE ⟨d,f,g,i,n,p⟩],?_,D7.o.trans d8⟩
     have e1:(({ s with au:=s.au.set j x' }:WV).asked ⟨d,f,g,i,n,p⟩)=({ s with au:=s.au.set j x',past:=s.past.asked ⟨d,f,g,i,n,p⟩,acts:=(l ++ [EE ⟨d,f,g,i,n,p⟩]).map bR.strip }:WV):=by
      unfold WV.asked
      rw [if_pos HE.o,BH,H4.o.acts]
      rfl
     rw [<- IB.o,e1]
     exact h8⟩))
    clear hC hG hF A D h7 d7
    have y1:=XB7.o.cell 1
    have yl:=XB7.o.lt
    simp only [iZ,je,nW] at y1
    have hz:=LJ XQ7.o
    go_wp2_with ((with_reducible refine bZ 36 (.tmp 8) R.heap.size 0 #[zi d,zi f,zi g,zi i,zi n,.string p] _ ?_ hz underlying36 rfl ?_ ?_);(· rfl);(· exact Bn))
    clear hz y1 yl
    refine cZ.o.mono ?_
    rintro e w8 ⟨rfl,hZ⟩
    have HZ:=aa hZ
    clear hZ
    go_wp2_with fail
    go_ret
    exact HZ.o
end
theorem Te (N m q1 i j k l:Int) (g:Nat) (n:ByteArray) (b:Bool) (w:World) (R:Ending->World->Prop) (p:∀ e w',R e w'->e=.returned (.bool b))
 (h:∀ w1,Old w w1->aS 28 #[g,zi N] w1 R) :
 aS 9 #[g,.agg #[zi 1,zi N,zi m,zi q1,zi i,zi j,zi k,zi l,.string n]] w R:=by
 obtain ⟨w1,d⟩:∃ x,x=w.alloc (.cells #[zi 1,zi N,zi m,zi q1,zi i,zi j,zi k,zi l,.string n] 38):=⟨_,rfl⟩
 have r:Old w w1:=d▸(Old.refl' w).ag _
 have s:=aa (h w1 r)
 have u:=aa p
 clear p h r
 go_enter func9,ntmps9
 go_wp2_with fail
 rw [<- d]
 clear d
 refine s.o.mono ?_
 rintro e z f
 obtain rfl:=u.o _ _ f
 have y:=aa f
 clear f
 go_wp2_with fail
 exact y.o
theorem Tf (N m q1 i j k l:Int) (g:Nat) (n:ByteArray) (b:Bool) (w:World) (R:Ending->World->Prop) (p:∀ e w',R e w'->e=.returned (.bool b))
 (h:∀ w1,Old w w1->aS 31 #[g,zi N] w1 R) :
 aS 9 #[g,.agg #[zi 4,zi N,zi m,zi q1,zi i,zi j,zi k,zi l,.string n]] w R:=by
 obtain ⟨w1,d⟩:∃ x,x=w.alloc (.cells #[zi 4,zi N,zi m,zi q1,zi i,zi j,zi k,zi l,.string n] 38):=⟨_,rfl⟩
 have r:Old w w1:=d▸(Old.refl' w).ag _
 have s:=aa (h w1 r)
 have u:=aa p
 clear p h r
 go_enter func9,ntmps9
 go_wp2_with fail
 rw [<- d]
 clear d
 refine s.o.mono ?_
 rintro e z f
 obtain rfl:=u.o _ _ f
 have y:=aa f
 clear f
 go_wp2_with fail
 exact y.o
structure xO (m:aO):Prop where
 k:m.known.nodes.length<=1000
 v:m.bN.chain.nodes.length<=1000
 c:m.chain.nodes.length<=1000
 r:m.rep.vs.length<=1000
 l:m.l.length<=1000
theorem WZ {w:World} {g:Nat} {t:TypeId} {M:Array Value} (h:Bk w g t M):∀ (j:Nat) v,M[j]?=some v->w.cell? ⟨g,0 + j,none⟩=some v:=fun j v d=>by rw [mE,h.cell j];exact d
theorem CO.ZC {w w':World} {own:Nat->Tag} {V:Value} {ns:List Int} (h:CO w w' V ns) (f:vO w own) (g:ns.length<=1000):qN w' own V ns:=by
 obtain ⟨A,q,rfl,d⟩:=h
 obtain ⟨A',m,e,i,j⟩:=bI d
 cases e
 exact ⟨A,q,rfl,g,i,ah.bA d,fun _ a k=>f _ (j a k).1⟩
theorem iY.W9 {w w':World} {own:Nat->Tag} {m:aO} {e:Ending} (h:iY w m e w') (d:vO w own) (f:xO m):∃ M,e=.returned (.agg M)/\Old w w'/\fe w' own m M/\∀ v∈M.toList,v.oneCell'=true:=by
 obtain ⟨K,V,C,R,L,rfl,g,i,j,k,h4,h5⟩:=h
 obtain ⟨p,r,n,x,-,c4,t4⟩:=h4.ZC d f.r
 refine ⟨_,rfl,g,⟨_,_,_,_,_,rfl,i.ZC d f.k,j.ZC d f.v,k.ZC d f.c,⟨p,r,n,x,c4,t4⟩,?_⟩,?_⟩
 ·obtain ⟨A,q,rfl,g⟩:=h5
  obtain ⟨A',E,e,y,z⟩:=bI g
  cases e
  exact ⟨A,q,rfl,f.l,y,ah.bA g,fun _ a B=>d _ (z a B).1⟩
 ·obtain ⟨F,G,rfl,-⟩:=i
  obtain ⟨H,I,rfl,-⟩:=j
  obtain ⟨J,N,rfl,-⟩:=k
  obtain ⟨O,P,rfl,-⟩:=h5
  subst n
  intro v D
  exact (Array.all_eq_true_iff_forall_mem.1 (pg ..)) v (by simpa using D)
section
variable {w w':World} {own own':Nat->Tag} {c W:Nat} {u:bV} {gs cs:List Nat} {l:List bR} {s:WV}
theorem yJ (h:gZ w own c W u gs cs l s) (k:Nat) (x:jy) (hk:s.bO[k]?=some x) (hN:s.bO.length<=1099511627776) (m:aO) (hl:xO m) (hR:∀ W' A q,ah W' A (eB x.bs)->aS 72 #[.slice A x.bs.length q] W' (iY W' m))
 (i:Nat) (n:dM) (J:x.BX=i) (hi:s.nodes[i]?=some n) (S:NS) (K:WV) (hS:K=if n.up then ({ s with bO:=s.bO.eraseIdx k,nodes:=s.nodes.set i S.n }:WV) else { s with bO:=s.bO.eraseIdx k })
 (r:n.up=true->∀ w1 d M,aN w1 d c i W (gs[i]?.getD 0) u (({ s with bO:=s.bO.eraseIdx k }:WV).ns i n)->fe w1 d m M->aS 73 #[av (gs[i]?.getD 0) 0,zi x.gJ,.agg M] w1 (fO w1 d c i W (gs[i]?.getD 0) u S)) (L:n.up=true->S.conf=s.conf/\S.now=s.clocks[i]?.getD 0) :
 aS 28 #[W,zi (k:Int)] w (ek w own c W gs cs (if n.up then { K with bO:=S.bO,bY:=S.bY,aA:=S.aA } else K) (.bool true)):=by
 obtain ⟨s8,E⟩:=aR ((if n.up then ({ K with bO:=S.bO,bY:=S.bY,aA:=S.aA }:WV) else K))
 rw [E]
 obtain ⟨-,-,-,-,-,c6,-,hW⟩:=h.cells
 have hlt:i < s.nodes.length:=(List.getElem?_eq_some_iff.1 hi).1
 obtain ⟨gi,z⟩:=aR (gs[i]?.getD 0)
 have N:gs[i]?=some gi:=by rw [<- z,gG (by have:=h.len;omega)];rfl
 rw [z] at r
 obtain ⟨gJ,BX,bs⟩:=x
 simp only at J hR r
 subst J
 have cT:=aa (KL _ _ u.pb k s.bO ⟨gJ,i,bs⟩ hk hN w h.bO)
 obtain ⟨pb,F⟩:=aR (u.pb)
 have WW:=aa F
 rw [F] at c6 cT
 have H0:=aa h
 have HI:=aa hi
 have HGS:=aa N
 have O:=aa z
 have HR:=aa hR
 have HON:=aa r
 have P:=aa L
 have R:=aa hS
 have T:=aa E
 have ZD:=aa hl
 obtain ⟨up,U⟩:=aR (n.up)
 have f:=aa U
 clear h hk hN hi N z hR r L hS E hl U F hlt
 go_enter func28,ntmps28
 go_wp2_with fail
 refine cT.o.mono ?_
 rintro e w1 ⟨_,rfl,V,⟨A,q,rfl,hA,-⟩,X⟩
 simp only at hA
 obtain ⟨d,h1,d1⟩:=H0.o.ql (F':=fun k=>own k=(c + 1,0,1)) (b':=s.bO.eraseIdx k) (by rw [WW.o];exact V) (fun k hk=>.inl hk) X
 have cR:=aa (HR.o w1 A q hA)
 have H1:=aa h1
 have D1:=aa d1
 clear h1 d1 V X hA c6 hW
 go_wp2_with fail
 refine cR.o.mono ?_
 intro e B hr
 obtain ⟨M,rfl,o2,hM,D⟩:=hr.W9 H1.o.top ZD.o
 clear hr
 have g:=hM.size
 obtain ⟨w3,j⟩:∃ y,y=setAt (B.alloc (.cells zM 110)) B.heap.size 0 M.toList:=⟨_,rfl⟩
 have XM:=aa (show Bk w3 B.heap.size 110 M by
  have h9:=(Bk.new B 110 zM).setAt M.toList 0
  rw [pX _ _ (by rw [vK,Array.length_toList,g]),<- j] at h9
  simpa using h9)
 have C:Old B w3:=j▸ji ((Old.refl' B).ag _) (dN _) _ 0
 have H3:=aa (H1.o.old (o2.trans' C))
 have D3:=aa (D1.o.old (o2.trans' C))
 have WI:=aa (hM.old C)
 have G:=Bk.new B 110 zM
 have Y:(prog.info? 110).map (·.size)=some M.toList.length:=by rw [Array.length_toList,g];exact sU
 have H:0 + M.toList.length<=zM.size:=by rw [Array.length_toList,g];decide
 have HMS:=aa g
 have cA:=aa (LF H3.o i (some gi) (by rw [if_pos (by omega),EZ];exact HGS.o))
 unfold zM at G H j
 clear o2 C hM g
 go_wp2_with ((refine aL 110 (.tmp 9) (.tmp 26) B.heap.size 0 M.toList rfl (by show M=M.toList.toArray;simp) 110 _ G Y H D ?_);rw [<- j];clear j)
 clear G Y H D
 refine cA.o.mono ?_
 rintro e w4 ⟨rfl,I⟩
 have N3:=(H3.o.old I).node i n HI.o
 rw [O.o] at N3
 obtain ⟨p,hp⟩:=N3.ex
 have h3:aV w4 (fun k=>d k=bM c i 3) (fun k=>d k=aB) W gi p n:=aV.ub (hp.at_ 3)
 obtain ⟨u0,u1,u2,u3,u4,u5,u6,u8,u9,dF,dD,dK,eu,aX,ug⟩:=h3.c N3.self
 rw [f.o] at u2
 have H4:=aa (H3.o.old I)
 have D4:=aa (D3.o.old I)
 have N4:=aa N3
 have HM4:=aa (WI.o.old I)
 have XM4:=aa (XM.o.old I)
 clear u0 u1 u3 u4 u5 u6 u8 u9 dF dD dK eu aX hp h3 I N3
 unfold xF
 cases up with
 | false=>
  have HZ:=aa (show ek w own c W gs cs s8 (.bool true) (.returned (.bool true)) w4 from ⟨rfl,d,u,l,by rw [<- T.o,if_neg (by rw [f.o];decide),R.o,if_neg (by rw [f.o];decide)];exact H4.o,D4.o⟩)
  go_wp2_with fail
  go_ret
  exact HZ.o
 | true=>
  have cO:=aa (HON.o f.o w4 d M N4.o HM4.o)
  have Z:=WZ XM4.o
  go_wp2_with ((with_reducible refine bZ 110 (.tmp 9) B.heap.size 0 M _ ?_ Z underlying110 rfl ?_ ?_);(· rfl);(· rw [HMS.o];exact xx))
  clear Z
  refine cO.o.mono ?_
  rintro e w5 ⟨rfl,Er,n5,d5⟩
  have HZ:=aa (show ek w own c W gs cs s8 (.bool true) (.returned (.bool true)) w5 from ⟨rfl,Er,u,l,by
   have h9:=H4.o.act HI.o (O.o▸n5) d5 (P.o f.o).1 (P.o f.o).2
   rw [<- T.o,if_pos f.o,R.o,if_pos f.o]
   exact h9,D4.o.trans d5.w⟩)
  clear n5 d5
  go_wp2_with fail
  go_ret
  exact HZ.o
end
end Go.Proofs.YthihpfpbiajddaaGreat
