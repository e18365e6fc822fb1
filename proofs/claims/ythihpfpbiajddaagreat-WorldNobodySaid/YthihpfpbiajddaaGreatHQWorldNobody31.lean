/- Parts of the proof. -/
import Derived.Test.YthihpfpbiajddaaGreatHQWorldNobody30
set_option maxRecDepth 100000
set_option maxHeartbeats 8000000
open Go.Proofs.Tryz
namespace Go.Proofs.YthihpfpbiajddaaGreat
open Go.RowKit
section
variable {w w':World} {own own':Nat->Tag} {c W:Nat} {u:bV} {gs cs:List Nat} {l:List bR} {s:WV}
theorem gZ.n0 (h:gZ w own c W u gs cs l s):∃ n,s.nodes[0]?=some n:=⟨_,gG (by have:=h.len.1;have:=h.conf.1.1;omega)⟩
theorem gZ.block (h:gZ w own c W u gs cs l s):∃ V,Bk w W 82 (gL s.conf u V)/\own W=(c + 1,0,0):=by
 obtain ⟨n,d⟩:=h.n0
 obtain ⟨p,e⟩:=(h.node 0 n d).ex
 have h0:iB w (fun k=>own k=bM c 0 0) (fun k=>own k=aB) W s.conf u s.aA:=e.at_ 0
 obtain ⟨rs,A,q,g,f,-⟩:=h0.ex
 exact ⟨_,f,h0.gF⟩
theorem gZ.cells (h:gZ w own c W u gs cs l s):w.cell? ⟨W,0,none⟩=some (zi s.conf.nodes)/\w.cell? ⟨W,1,none⟩=some (zi s.conf.au)/\w.cell? ⟨W,3,none⟩=some u.nodes/\w.cell? ⟨W,4,none⟩=some u.au/\w.cell? ⟨W,5,none⟩=some (.slice u.uY u.dQ.length u.Se)/\w.cell? ⟨W,6,none⟩=some (av u.pb 0)/\w.cell? ⟨W,7,none⟩=some (av u.pp 0)/\W < w.heap.size:=by
 obtain ⟨V,d,-⟩:=h.block
 exact ⟨d.cell 0,d.cell 1,d.cell 3,d.cell 4,d.cell 5,d.cell 6,d.cell 7,d.lt⟩
theorem gZ.clocks (h:gZ w own c W u gs cs l s):aP w u.uY s.clocks/\u.dQ.length=s.clocks.length/\s.clocks.length<=9:=by
 obtain ⟨n,e⟩:=h.n0
 obtain ⟨p,f⟩:=(h.node 0 n e).ex
 have d:aP w u.uY u.dQ:=(f.at_ 12).1
 rw [h.dQ.1] at d
 exact ⟨d,by rw [h.dQ.1],by have:=h.dQ.2;have:=h.conf;omega⟩
theorem gZ.bO (h:gZ w own c W u gs cs l s):kL w (fun k=>own k=(c + 1,0,1)) (fun k=>own k=aB) u.pb s.bO:=by
 obtain ⟨n,d⟩:=h.n0
 obtain ⟨p,e⟩:=(h.node 0 n d).ex
 exact e.at_ 1
theorem Ta (h:gZ w own c W u gs cs l s) (k:Int) (r:Int) (f:(if 0<=k then s.clocks[k.toNat]?.getD 0 else 0)=r) :
 aS 34 #[W,zi k] w fun e w'=>e=.returned (zi r)/\Old w w':=by
 obtain ⟨-,-,-,-,c5,-,-,C⟩:=h.cells
 obtain ⟨hI,g,h9⟩:=h.clocks
 rw [g] at c5
 obtain ⟨n,i⟩:=aR (s.clocks.length)
 obtain ⟨A,m⟩:=aR (u.uY)
 obtain ⟨q,p⟩:=aR (u.Se)
 rw [i] at c5 h9
 rw [m] at hI c5
 rw [p] at c5
 by_cases D:k < 0
 ·have d:r=0:=by rw [<- f,if_neg af]
  subst d
  clear f h hI g i m p
  go_enter func34,ntmps34
  go_wp2_with fail
  go_ret
  exact ⟨rfl,Old.refl' _⟩
 ·by_cases x:(n:Int)<=k
  ·have d:r=0:=by rw [<- f,if_pos af,Jb af];rfl
   subst d
   clear f h hI g i m p
   go_enter func34,ntmps34
   go_wp2_with fail
   go_ret
   exact ⟨rfl,Old.refl' _⟩
  ·obtain ⟨j,rfl⟩:∃ j:Nat,k=j:=⟨k.toNat,af⟩
   obtain ⟨b1,E,rfl,y,c1⟩:=hI.at_ (k:=j) af
   have d:s.clocks[j]?.getD 0=r:=by rw [<- f,if_pos (by omega)];rfl
   rw [d] at c1
   have z:(j:Int) < (n:Int):=af
   have B:(0:Int)<=(j:Int):=af
   clear f d h hI g i m p
   go_enter func34,ntmps34
   go_wp2_with fail
   go_ret
   exact ⟨rfl,Old.refl' _⟩
theorem gZ.aaU (h:gZ w own c W u gs cs l s):∃ A q,u.nodes=.slice A gs.length q/\iM w A gs:=by
 obtain ⟨⟨A,q,e,d,f⟩,-⟩:=h.rn
 exact ⟨A,q,e,d⟩
theorem gZ.aaV (h:gZ w own c W u gs cs l s):∃ A q,u.au=.slice A cs.length q/\iM w A cs:=by
 obtain ⟨⟨A,q,e,d,f⟩,-⟩:=h.rc
 exact ⟨A,q,e,d⟩
theorem LF (h:gZ w own c W u gs cs l s) (k:Int) (r:Option Nat) (d:(if 0<=k then gs[k.toNat]? else none)=r) :
 aS 38 #[av W 3,zi k] w fun e w'=>e=.returned (xF r)/\Old w w':=by
 obtain ⟨A,q,e,f⟩:=h.aaU
 obtain ⟨-,-,c3,-,-,-,-,g⟩:=h.cells
 rw [e] at c3
 exact aaQ W 3 A _ q gs rfl (by have:=h.len.2.1;have:=h.conf;omega) k r d w c3 g f
theorem Tc (h:gZ w own c W u gs cs l s) (k:Int) (r:Option Nat) (d:(if 0<=k then cs[k.toNat]? else none)=r) :
 aS 32 #[av W 4,zi k] w fun e w'=>e=.returned (xF r)/\Old w w':=by
 obtain ⟨A,q,e,f⟩:=h.aaV
 obtain ⟨-,-,-,c4,-,-,-,g⟩:=h.cells
 rw [e] at c4
 exact aaR W 4 A _ q cs rfl (by have:=h.len.2.2.2;have:=h.conf;omega) k r d w c4 g f
theorem WOf (h:gZ w own c W u gs cs l s) (k:Int) (r:Option Nat) (d:(if 0<=k then gs[k.toNat]? else none)=r) :
 aS 55 #[W,zi k] w fun e w'=>e=.returned (xF r)/\Old w w':=by
 have f:=aa (LF h k r d)
 obtain ⟨-,-,-,-,-,-,-,i⟩:=h.cells
 clear h d
 go_enter func55,ntmps55
 go_wp2_with fail
 refine f.o.mono ?_
 rintro e w1 ⟨rfl,g⟩
 go_wp2_with fail
 go_ret
 exact ⟨rfl,g⟩
theorem Pb (h:gZ w own c W u gs cs l s) (n:Nat) (g:s.bO.length=n) :
 aS 22 #[W] w fun e w'=>e=.returned (zi (n:Int))/\Old w w':=by
 obtain ⟨-,-,-,-,-,c6,-,j⟩:=h.cells
 obtain ⟨k,A,q,i,b1,-⟩:=h.bO.ex
 have d:k.length=n:=by rw [<- g,<- i,List.length_map]
 rw [d] at b1
 have x0:=b1.cell 0
 have m:=b1.lt
 simp only [iZ,je] at x0
 obtain ⟨p,f⟩:=aR (u.pb)
 rw [f] at c6 x0 m
 clear h g i d b1 f
 go_enter func22,ntmps22
 go_wp2_with fail
 refine (show aS 67 #[p] w (fun e w'=>e=.returned (zi (n:Int))/\w=w') by
  clear c6 j
  go_enter func67,ntmps67
  go_wp2_with fail
  go_ret
  exact ⟨rfl,rfl⟩).mono ?_
 rintro e w1 ⟨rfl,rfl⟩
 go_wp2_with fail
 go_ret
 exact ⟨rfl,Old.refl' _⟩
end
theorem LH (q1 d e f g:Int) (h:ByteArray):prog.built 110 [(0,zi 9),(10,.agg #[zi q1,zi d,zi e,zi f,zi g,.string h])]=some (iX 9 { aO.zero with kind:=9,q:=⟨q1,d,e,f,g,h⟩ } aQ aQ aQ aQ aQ):=ay
theorem LJ {w:World} {g:Nat} {t:TypeId} {M:Array Value} (h:Bk w g t M):∀ (j:Nat) v,M[j]?=some v->w.cell? ⟨g,0 + j,none⟩=some v:=fun j v d=>by rw [mE,h.cell j];exact d
theorem Bn:(prog.info? 36).map (·.size)=some 6:=ay
def BQ (own:Nat->Tag) (c pb:Nat) (l:List jy) (x y:World):Prop:=(∃ F',kL y F' (fun k=>own k=aB) pb l/\jH x (fun k=>own k=(c + 1,0,1)) F')/\Fr (fun k=>own k=(c + 1,0,1)) x y
section
variable {w w':World} {own own':Nat->Tag} {c W:Nat} {u:bV} {gs cs:List Nat} {l:List bR} {s:WV}
theorem gZ.ql (h:gZ w own c W u gs cs l s) {F':Nat->Prop} {b':List jy} (g:kL w' F' (fun k=>own k=aB) u.pb b') (i:jH w (fun k=>own k=(c + 1,0,1)) F') (m:Fr (fun k=>own k=(c + 1,0,1)) w w') :
 ∃ own',gZ w' own' c W u gs cs l { s with bO:=b' }/\gT w own c w' own':=by
 obtain ⟨n,d⟩:=h.n0
 have N:=h.node 0 n d
 obtain ⟨p,r⟩:=N.ex
 obtain ⟨own',x,d1⟩:=aN.ql r N g i m
 have:=h.act d x d1 rfl rfl
 have e:s.nodes.set 0 n=s.nodes:=by
  apply List.ext_getElem?
  intro j
  by_cases f:0=j
  ·subst f;rw [ME (List.getElem?_eq_some_iff.1 d).1,d]
  ·rw [MF f]
 refine ⟨own',?_,d1.w⟩
 unfold WV.ns at this
 simp only [e] at this
 exact this
theorem Pd (q:aG):rD { aO.zero with kind:=9,q:=q }:=rD.of (m:={ aO.zero with kind:=9,q:=q }) ⟨(show (1:Int)<=9/\(9:Int)<=10 by decide),fun y hy=>(by
 simp only [tF,yh,or_false] at hy
 rcases hy with rfl | rfl | rfl | rfl | rfl | rfl | rfl | rfl
 all_goals exact KV),eY,eY,eY,vJ,fun v d=>(by cases d)⟩ (Nat.zero_le _) (Nat.zero_le _)
theorem aaW (h:gZ w own c W u gs cs l s) (k:Nat) (hk:k<=4) (d:Int) (q1 g i j m:Int) (n:ByteArray) (hN:s.bO.length<=1099511627776) :
 aS 37 #[W,zi (k:Int),zi d,.agg #[zi q1,zi g,zi i,zi j,zi m,.string n]] w fun e w'=>e=.returned (.tuple #[])/\∃ own',gZ w' own' c W u gs cs l (s.qL k d ⟨q1,g,i,j,m,n⟩)/\gT w own c w' own':=by
 obtain ⟨V,hb,M⟩:=h.block
 obtain ⟨C,p⟩:=aR (({ aO.zero with kind:=9,q:=⟨q1,g,i,j,m,n⟩ }:aO).bytes)
 obtain ⟨Z,r⟩:=aR (C.length)
 have O:Z<=100000:=by have:=(Pd ⟨q1,g,i,j,m,n⟩).1;rw [p,r] at this;exact this
 obtain ⟨P,D⟩:=aR (iX 9 { aO.zero with kind:=9,q:=⟨q1,g,i,j,m,n⟩ } aQ aQ aQ aQ aQ)
 have HMQ:=aa (show prog.built 110 [(0,zi 9),(10,.agg #[zi q1,zi g,zi i,zi j,zi m,.string n])]=some P from D▸LH q1 g i j m n)
 obtain ⟨w1,z⟩:∃ x,x=w.alloc (.cells #[zi q1,zi g,zi i,zi j,zi m,.string n] 36):=⟨_,rfl⟩
 have K:Old w w1:=z▸(Old.refl' w).ag _
 have XB:=aa (show Bk w1 w.heap.size 36 #[zi q1,zi g,zi i,zi j,zi m,.string n] from z▸Bk.new w 36 _)
 have O1:=aa K
 have HH:=aa (h.old K)
 have HT:=aa h.top
 have L:=aa (hb.old K)
 obtain ⟨R,A⟩:=aR (u.pb)
 obtain ⟨B,F⟩:∃ x:Int,(s.conf.nodes:Int)=x:=⟨_,rfl⟩
 have Ii:=aa F
 obtain ⟨N,S⟩:∃ x:Int,(s.bO.length:Int)=x:=⟨_,rfl⟩
 have NJ:=aa p
 have T:=aa (show ¬ own W=(c + 1,0,1) by rw [M];simp)
 have WU:=aa (show ¬ own w.heap.size=(c + 1,0,1) by rw [h.top _ (dN _)];simp [aB])
 have Wv:=aa (show ∀ k,w1.heap.size<=k->¬ own k=(c + 1,0,1) from fun k hk=>by rw [h.top k (ic K.size hk)];simp [aB])
 have LM:=aa (show IntKind.i64.wrap (B + k)=B + k from kP _ (by have:=h.conf;omega))
 have cB:=aa (fun W' (hW:Old w1 W')=>(show jY Old prog 84 [.agg P] W' (SA (fun k=>own k=(c + 1,0,1)) w1.heap.size 5 Z (eB C)) from
  (fe.Sv (own:=own) (⟨_,_,_,_,_,D.symm,qN.nil _ _,qN.nil _ _,qN.nil _ _,FR.nil _ _,uj.nil _ _⟩:fe W' own _ P) rfl p r hW.size).mono fun e w2 ⟨v,e1,e2,e3⟩=>⟨v,e1,⟨e2,Wv.o⟩,e3⟩))
 have cA:=aa (fun W' (hW:Old w1 W') U q9 (hA:ah W' U (eB C))=>(Qv (fun k=>own k=(c + 1,0,1)) (fun k=>own k=aB) R s.bO s.bO.length rfl hN (B + k) d U Z q9 C r.symm O W' (fun y hy=>h.top y (ic (K.trans' hW).size hy)) (by rw [<- A];exact (HH.o.old hW).bO) hA).mono fun e w2 hh=>(show e=.returned (zi N)/\BQ own c R (s.bO ++ [⟨B + k,d,C⟩]) W' w2 from ⟨by rw [<- S];exact hh.1,hh.2⟩))
 skip
 have L:=aa (show Bk w1 W 82 #[zi B,zi s.conf.au,zi s.conf.aI,u.nodes,u.au,.slice u.uY u.dQ.length u.Se,av R 0,ptr u.pp,.map (some u.pv),V] by rw [<- F,<- A];exact L.o)
 have WW:=aa A
 clear K h hb M p r O D F S hN hk A
 go_enter func37,ntmps37
 go_wp2_with fail
 rw [<- z]
 clear z
 refine qo (fun k=>own k=(c + 1,0,1)) 15 (BQ own c R (s.bO ++ [⟨B + k,d,C⟩])) 16 aW w1 [.val W,.val W,.val (av W 6),.val R,.val W,.val W,.val W,.val W,.val (zi B),.val (zi (k:Int)),.val (zi (B + k)),.val (zi d),.val (.agg #[zi q1,zi g,zi i,zi j,zi m,.string n]),.val (.agg P),.rel (SA (fun k=>own k=(c + 1,0,1)) w1.heap.size 5 Z (eB C)),.val (zi N)] ((Old.refl' _).drew') ?st ?en
 case st=>
  refine .cons (sp1 (fun _ _ h=>h.2) [] [(0,W)] ?_)<|.cons (sp1 (fun _ _ h=>h.2) [(0,8)] [] ?_)<|.cons (sp1 (fun _ _ h=>h.2) [(1,9)] [] ?_)<|.cons (ve (fun _ _ h=>h.2) [(2,10)] [] ?c3)<|.cons (sp1 (fun _ _ h=>h.2) [] [(0,W)] ?_)<|.cons (sp1 (fun _ _ h=>h.2) [(4,12)] [] ?_)<|.cons (sp1 (fun _ _ h=>h.2) [(5,13)] [] ?_)<|.cons (sp1 (fun _ _ h=>h.2) [(6,14)] [] ?_)<|.cons (sp1 (fun _ _ h=>h.2) [(7,15)] [] ?c8)<|.cons (sp1 (fun _ _ h=>h.2) [] [(1,zi (k:Int))] ?_)<|.cons (sp1 (fun _ _ h=>h.2) [(8,16),(9,17)] [] ?c10)<|.cons (sp1 (fun _ _ h=>h.2) [] [(2,zi d)] ?_)<|.cons (sp1 (fun _ _ h=>h.2) [] [(7,w.heap.size)] ?c12)<|.cons (sp1 (fun _ _ h=>h.2) [(12,20)] [] ?c13)<|.cons (SI (fun _ _ h=>h.2) 84 func84 [(13,21)] [] _ ?c14)<|.cons (Et (fun _ _ h=>h.2) 78 func78 [(3,11),(10,18),(11,19),(14,22)] [] _ ?c15)<|.nil
  case c3=>
   intro E w' f G X
   rintro e10
   have x6:=(L.o.old f).cell 6
   have xl:=(L.o.old f).lt
   simp only [gL,iZ,je,nW] at x6
   exact ⟨_,dP,rfl⟩
  case c8=>
   intro E w' f G X
   rintro e15
   have x0:=(L.o.fr f T.o).cell 0
   have xl:=(L.o.fr f T.o).lt
   simp only [gL,iZ,je,nW] at x0
   exact ⟨_,dP,rfl⟩
  case c10=>
   intro E w' f G X
   rintro e16 e17
   exact ⟨_,by go_simp;exact LM.o,rfl⟩
  case c12=>
   intro E w' f G X
   rintro e7
   exact ⟨_,eH 36 (.tmp 7) rfl w.heap.size 0 _ _ (by assumption) (LJ (XB.o.fr f WU.o)) underlying36 rfl Bn,rfl⟩
  case c13=>
   intro E w' f G X
   rintro e20
   exact ⟨_,mh 110 _ rfl P [(0,zi 9),(10,.agg #[zi q1,zi g,zi i,zi j,zi m,.string n])] Up HMQ.o,rfl⟩
  case c14=>
   intro E w' f G
   rintro e21
   exact ⟨_,jQ,cB.o w' f⟩
  case c15=>
   intro E w' f G
   rintro e11 e18 e19 _ ⟨⟨U,q9,rfl,H⟩,Y⟩ e22
   exact ⟨_,jQ,(cA.o w' f U q9 (ah.bA H)).mono fun e w2 h=>⟨_,h.1,rfl,h.2⟩⟩
  all_goals
   intro E w' f G X
   repeat intro _
   exact ⟨_,dP,rfl⟩
 case en=>
  intro jA w9 x9 y9 I vG J
  iterate 14 refine Ends.eqv _ _ rfl (fun _ h=>h) ?_
  refine Ends.ex _ rfl ?_
  rintro _ _ ⟨⟨U,q9,rfl,H⟩,Y⟩
  iterate 1 refine Ends.eqv _ _ rfl (fun _ h=>h) ?_
  refine Ends.nil ?_
  simp only [aC,ax,fM,fJ]
  simp only [MH,Ja,List.drop_nil]
  obtain ⟨⟨F',hB,hG⟩,hF⟩:=vG
  obtain ⟨own',h2,d2⟩:=(HH.o.old I).ql (WW.o▸hB.old J) hG (hF.trans (Fr.aj J))
  have HZ:=aa (show ∃ own',gZ w9 own' c W u gs cs l (s.qL k d ⟨q1,g,i,j,m,n⟩)/\gT w own c w9 own' from ⟨own',by unfold WV.qL;rw [NJ.o,Ii.o];exact h2,((gT.refl c HT.o).old (O1.o.trans' I)).trans d2⟩)
  clear h2 d2 hB hG hF I J H Y
  go_wp2_with fail
  go_end0
  exact ⟨rfl,HZ.o⟩
end
section
variable {w w':World} {own own':Nat->Tag} {c W:Nat} {u:bV} {gs cs:List Nat} {l:List bR} {s:WV}
theorem WV.Iy {s:WV} {i:Nat} {n:dM} (d:s.nodes[i]?=some n) (e:i < s.clocks.length):(s.tick i).1=if n.up then ({ s with clocks:=s.clocks.set i (s.clocks[i]?.getD 0 + 1) }:WV).act i NS.tick else { s with clocks:=s.clocks.set i (s.clocks[i]?.getD 0 + 1) }:=by
 unfold WV.tick
 rw [if_neg af]
 simp only [EZ,d]
theorem xN (h:gZ w own c W u gs cs l s) (i:Nat) (n:dM) (O:s.nodes[i]?=some n) (y:0<=s.clocks[i]?.getD 0/\s.clocks[i]?.getD 0<=1099511627776) (S:NS) (P:n.up=true->S=(({ s with clocks:=s.clocks.set i (s.clocks[i]?.getD 0 + 1) }:WV).ns i n).tick)
 (E:n.up=true->∀ w1 u1,aN w1 own c i W (gs[i]?.getD 0) u1 (({ s with clocks:=s.clocks.set i (s.clocks[i]?.getD 0 + 1) }:WV).ns i n)->aS 79 #[av (gs[i]?.getD 0) 0] w1 (fO w1 own c i W (gs[i]?.getD 0) u1 S)) (z:n.up=true->S.conf=s.conf/\S.now=s.clocks[i]?.getD 0 + 1) :
 aS 31 #[W,zi (i:Int)] w (ek w own c W gs cs (s.tick i).1 (.bool true)):=by
 have R:i < s.nodes.length:=(List.getElem?_eq_some_iff.1 O).1
 have m:i < s.clocks.length:=by have:=h.dQ.2;have:=h.len.1;omega
 rw [WV.Iy O m]
 obtain ⟨s9,f⟩:∃ x,(if n.up=true then ({ s with clocks:=s.clocks.set i (s.clocks[i]?.getD 0 + 1) }:WV).act i NS.tick else { s with clocks:=s.clocks.set i (s.clocks[i]?.getD 0 + 1) })=x:=⟨_,rfl⟩
 rw [f]
 obtain ⟨-,-,-,-,c5,-,-,hW⟩:=h.cells
 rw [h.dQ.1] at c5
 obtain ⟨nl,F⟩:=aR (s.clocks.length)
 obtain ⟨t,T⟩:=aR (s.clocks[i]?.getD 0)
 rw [T] at P E y z f
 obtain ⟨b,eb,cb,bl,bf,D,d1⟩:=h.tq m (t + 1)
 rw [T] at cb
 obtain ⟨w1,A⟩:∃ x,x=w.setCell ⟨b,i,none⟩ (zi (t + 1)):=⟨_,rfl⟩
 rw [<- A] at D d1
 rw [F,eb] at c5
 have hin:(i:Int) < (nl:Int):=af
 have hwr:IntKind.i64.wrap (t + 1)=t + 1:=kP _ af
 obtain ⟨U,r⟩:=aR (gs[i]?.getD 0)
 have G:gs[i]?=some U:=by rw [<- r,gG (by have:=h.len;omega)];rfl
 obtain ⟨V,g⟩:=aR (({ s with clocks:=s.clocks.set i (t + 1) }:WV))
 rw [g] at D P E f
 have H:=aa f
 have B:V.nodes[i]?=some n:=by rw [<- g];exact O
 have N1:=D.node i n B
 rw [r] at N1 E
 have j:V.clocks[i]?.getD 0=t + 1:=by rw [<- g];show (s.clocks.set i (t + 1))[i]?.getD 0=_;rw [ME m];rfl
 have I:V.conf=s.conf:=by rw [<- g]
 have cA:=aa (LF D i (some U) (by rw [if_pos (by omega)];exact G))
 have H1:=aa D
 have D1:=aa d1
 have C:=aa N1
 have J:=aa B
 have X:=aa j
 have Y:=aa I
 have Z:=aa r
 have HS:=aa P
 have HT:=aa E
 have K:=aa z
 obtain ⟨up,L⟩:=aR (n.up)
 have d:=aa L
 clear f h O R m y T F eb D d1 G g B N1 j I r P E z L
 go_enter func31,ntmps31
 go_wp2_with fail
 rw [<- A]
 clear A cb bl bf c5 hW
 refine cA.o.mono ?_
 rintro e w2 ⟨rfl,M⟩
 obtain ⟨p,hp⟩:=(C.o.old M).ex
 have h3:aV w2 (fun k=>own k=bM c i 3) (fun k=>own k=aB) W U p n:=aV.ub (hp.at_ 3)
 obtain ⟨u0,u1,u2,u3,u4,u5,u6,u8,u9,dF,dD,dK,eu,aX,ug⟩:=h3.c C.o.self
 rw [d.o] at u2
 have H2:=aa (H1.o.old M)
 have D2:=aa (D1.o.old M)
 have N2:=aa (C.o.old M)
 clear u0 u1 u3 u4 u5 u6 u8 u9 dF dD dK eu aX hp h3 M
 unfold xF
 cases up with
 | false=>
  have HZ:=aa (show ek w own c W gs cs s9 (.bool true) (.returned (.bool true)) w2 from ⟨rfl,own,_,_,by rw [<- H.o,if_neg (by rw [d.o];decide)];exact H2.o,D2.o⟩)
  go_wp2_with fail
  go_ret
  exact HZ.o
 | true=>
  have cT:=aa (HT.o d.o w2 _ N2.o)
  go_wp2_with fail
  refine cT.o.mono ?_
  rintro e w3 ⟨rfl,N,n3,d3⟩
  have HZ:=aa (show ek w own c W gs cs s9 (.bool true) (.returned (.bool true)) w3 from ⟨rfl,N,_,l,by
   rw [<- H.o,if_pos d.o]
   have:=H2.o.act J.o (Z.o▸n3) d3 ((K.o d.o).1.trans Y.o.symm) ((K.o d.o).2.trans X.o.symm)
   unfold WV.act
   rw [J.o]
   rw [HS.o d.o] at this
   exact this,D2.o.trans d3.w⟩)
  clear n3 d3
  go_wp2_with fail
  go_ret
  exact HZ.o
end
theorem LP (F K:Nat->Prop) (g:Nat) (c f:jc) (seq:Int) (b:Bool) (j:c.is seq=b) (i:(if b then { c with p:=none } else c)=f) (w:World) (h:gM w F K g c) :
 aS 75 #[g,zi seq] w fun e w'=>e=.returned (.bool b)/\gM w' F K g f/\Fr F w w':=by
 have s:=aa (WN F K g c seq b j w h)
 obtain ⟨A,q,V,d,l,m,h4⟩:=h.ex
 obtain ⟨z,u⟩:∃ v,w.cell? ⟨g,5,none⟩=some v:=⟨_,(d.cell 5).trans rfl⟩
 have f5:=d.frozen 5
 have B:=d.lt
 cases b with
 | false=>
  have e:c=f:=i
  subst e
  have H:=aa h
  clear h d l m h4 i j
  go_enter func75,ntmps75
  go_wp2_with (go_at_call 131;refine s.o.mono ?_;rintro e w1 ⟨rfl,rfl⟩)
  go_ret
  exact ⟨rfl,H.o,Fr.refl _ _⟩
 | true=>
  have e:({ c with p:=none }:jc)=f:=i
  subst e
  have n:=Fr.setCell (S:=fun k=>k=g) (p:=⟨g,5,none⟩) (Fr.refl _ w) (.inr rfl) (.pointer none)
  have x:=aa (show gM (w.setCell ⟨g,5,none⟩ (.pointer none)) F K g { c with p:=none } from
   ⟨⟨A,q,.pointer none,by simpa using d.bH 5 (.pointer none),l,m.fr n (fun k r e=>r.2 (e▸h.gF)),rfl⟩,h.gF,fun k r=>by have:=h.lt k r;simpa using this⟩)
  have y:=aa (n.mono (T:=F) fun k _ e=>e▸h.gF)
  clear h d l m h4 i j n
  go_enter func75,ntmps75
  go_wp2_with (go_at_call 131;refine s.o.mono ?_;rintro e w1 ⟨rfl,rfl⟩)
  go_ret
  exact ⟨rfl,x.o,y.o⟩
theorem Iz (F K:Nat->Prop) (g:Nat) (c:jc) (q:aG) (f:(c.p.map (·.1)).getD ⟨0,0,0,0,0,ByteArray.empty⟩=q) (w:World) (h:gM w F K g c) :
 aS 35 #[g] w fun e w'=>e=.returned (.tuple #[.agg #[zi q.client,zi q.seq,zi q.kind,zi q.id,zi q.eD,.string q.data],.bool c.p.isSome])/\Old w w':=by
 obtain ⟨A,D,V,i,-,-,h4⟩:=h.ex
 have E:=i.lt
 have c5:=(i.cell 5).trans rfl
 obtain ⟨id,n,G,kn,p⟩:=c
 cases p with
 | none=>
  have e:V=.pointer none:=h4
  subst e
  have j:q=⟨0,0,0,0,0,ByteArray.empty⟩:=f.symm
  subst j
  clear i h4 h f
  obtain ⟨⟨x0,x1,x2,k,l,m⟩,r⟩:=lH (Bk.new w 36 #[zi 0,zi 0,zi 0,zi 0,zi 0,.string ByteArray.empty])
  go_enter func35,ntmps35
  go_wp2
  exact bodyPost_ret (v:=.tuple #[.agg #[zi 0,zi 0,zi 0,zi 0,zi 0,.string ByteArray.empty],.bool false]) (by simp [results,results35,go_sem,x0,x1,x2,k,l,m,r,qT]) rfl ⟨rfl,(Old.refl' w).ag _⟩
 | some p=>
  obtain ⟨bk,rfl,-,-,d⟩:=h4
  have j:q=p.1:=f.symm
  subst j
  obtain ⟨⟨q1,s,u,x,y,z⟩,H,pt⟩:=p
  have d0:w.cell? ⟨bk,0,none⟩=some (zi q1):=(d.cell 0).trans rfl
  have d1:w.cell? ⟨bk,1,none⟩=some (zi s):=(d.cell 1).trans rfl
  have d2:w.cell? ⟨bk,2,none⟩=some (zi u):=(d.cell 2).trans rfl
  have d3:w.cell? ⟨bk,3,none⟩=some (zi x):=(d.cell 3).trans rfl
  have d4:w.cell? ⟨bk,4,none⟩=some (zi y):=(d.cell 4).trans rfl
  have d5:w.cell? ⟨bk,5,none⟩=some (.string z):=(d.cell 5).trans rfl
  have B:w.cell? ⟨g,5,none⟩=some (av bk 0):=c5
  have C:=d.lt
  clear i d h f c5
  obtain ⟨⟨x0,x1,x2,k,l,m⟩,r⟩:=lH (Bk.new w 36 #[zi q1,zi s,zi u,zi x,zi y,.string z])
  go_enter func35,ntmps35
  go_wp2
  exact bodyPost_ret (v:=.tuple #[.agg #[zi q1,zi s,zi u,zi x,zi y,.string z],.bool true]) (by simp [results,results35,go_sem,x0,x1,x2,k,l,m,r]) rfl ⟨rfl,(Old.refl' w).ag _⟩
theorem Pe (F K:Nat->Prop) (g:Nat) (c:jc) (now:Int) (i:c.p=none) (w:World) (h:gM w F K g c) :
 aS 80 #[g,zi now] w fun e w'=>e=.returned (.tuple #[zi (-1),.bool false])/\gM w' F K g c/\Fr F w w':=by
 obtain ⟨A,q,V,f,j,k,h4⟩:=h.ex
 have HH:=aa h
 rw [i] at h4
 have e:V=.pointer none:=h4
 subst e
 have l:=aa (fun (U:World) (d:Old w U)=>(⟨((f.old d).cell 5).trans rfl,(f.old d).lt⟩:U.cell? ⟨g,5,none⟩=some (.pointer none)/\g < U.heap.size))
 clear h f j k h4
 go_enter func80,ntmps80
 go_upto_region 1 with fail
 refine bG Old w [.val g,.val (.bool false),.val (.bool false),.val g,.val g,.val (av g 5),.val (.pointer none),.val (.bool true),.val (.bool true),.val (.bool true),.val (undef),.val (undef),.val (undef),.val (undef),.val (undef),.val (undef),.val (undef),.val (undef),.val (undef),.val (undef),.val (undef),.val (undef),.val (undef),.val (undef),.val (undef),.val (undef),.val (undef),.val (.bool true)] ((Old.refl' _).drew') ?st ?en
 case st=>
  refine .cons (sp [] [(0,g)] ?_)<|.cons (sp [(0,6)] [] ?_)<|.cons (sp [(1,7)] [] ?_)<|.cons (fC 2 8 false [] [(0,g)] ?_)<|.cons (fC 2 8 false [(3,9)] [] ?_)<|.cons (fC 2 8 false [(4,10)] [] ?_)<|.cons (fC 2 8 false [(5,11)] [] ?_)<|.cons (fC 2 8 false [(6,12)] [] ?_)<|.cons (sp [(2,8),(7,13)] [] ?_)<|.cons (sp [(8,14)] [] ?_)<|.cons (sk 9 15 true)<|.cons (sk 9 15 true)<|.cons (sk 9 15 true)<|.cons (sk 9 15 true)<|.cons (sk 9 15 true)<|.cons (sk 9 15 true)<|.cons (sk 9 15 true)<|.cons (sk 9 15 true)<|.cons (sk 9 15 true)<|.cons (sk 9 15 true)<|.cons (sk 9 15 true)<|.cons (sk 9 15 true)<|.cons (sk 9 15 true)<|.cons (sk 9 15 true)<|.cons (sk 9 15 true)<|.cons (sk 9 15 true)<|.cons (sk 9 15 true)<|.cons (sp [(9,15),(26,32)] [] ?_)<|.nil
  all_goals
   intro E w' d m n
   obtain ⟨u0,u1⟩:=l.o w' d
   repeat intro _
   exact ⟨_,dP,rfl⟩
 case en=>exact UM
theorem Pf (F K:Nat->Prop) (g:Nat) (c:jc) (n:aG) (now asked f:Int) (p:c.p=some (n,asked,f)) (r:0<=f) (i:0<=now/\now<=2199023255552) (j:0<=asked/\asked<=2199023255552) (k:decide (wX f<=now - asked)=false) (w:World) (h:gM w F K g c) :
 aS 80 #[g,zi now] w fun e w'=>e=.returned (.tuple #[zi (-1),.bool false])/\gM w' F K g c/\Fr F w w':=by
 obtain ⟨A,q,V,m,s,u,h4⟩:=h.ex
 have HH:=aa h
 rw [p] at h4
 obtain ⟨bk,rfl,-,-,l⟩:=h4
 have x:=aa (fun W=>aaP now asked f false i j r k W)
 have y:=aa (fun (U:World) (d:Old w U)=>(⟨((m.old d).cell 5).trans rfl,((l.old d).cell 6).trans rfl,((l.old d).cell 7).trans rfl,(m.old d).lt,(l.old d).lt⟩:U.cell? ⟨g,5,none⟩=some (av bk 0)/\U.cell? ⟨bk,6,none⟩=some (zi asked)/\U.cell? ⟨bk,7,none⟩=some (zi f)/\g < U.heap.size/\bk < U.heap.size))
 clear h m s u l k
 go_enter func80,ntmps80
 go_upto_region 1 with fail
 refine bG Old w [.val g,.val (.bool false),.val (.bool false),.val g,.val g,.val (av g 5),.val bk,.val (.bool false),.val (.bool false),.val (.bool false),.val (zi now),.val g,.val g,.val (av g 5),.val bk,.val bk,.val (av bk 6),.val (zi asked),.val g,.val g,.val (av g 5),.val bk,.val bk,.val (av bk 7),.val (zi f),.val (.bool false),.val (.bool true),.val (.bool true)] ((Old.refl' _).drew') ?st ?en
 case st=>
  refine .cons (sp [] [(0,g)] ?_)<|.cons (sp [(0,6)] [] ?_)<|.cons (sp [(1,7)] [] ?_)<|.cons (fC 2 8 false [] [(0,g)] ?_)<|.cons (fC 2 8 false [(3,9)] [] ?_)<|.cons (fC 2 8 false [(4,10)] [] ?_)<|.cons (fC 2 8 false [(5,11)] [] ?_)<|.cons (fC 2 8 false [(6,12)] [] ?_)<|.cons (sp [(2,8),(7,13)] [] ?_)<|.cons (sp [(8,14)] [] ?_)<|.cons (fC 9 15 false [] [(1,zi now)] ?_)<|.cons (fC 9 15 false [] [(0,g)] ?_)<|.cons (fC 9 15 false [(11,17)] [] ?_)<|.cons (fC 9 15 false [(12,18)] [] ?_)<|.cons (fC 9 15 false [(13,19)] [] ?_)<|.cons (fC 9 15 false [(14,20)] [] ?_)<|.cons (fC 9 15 false [(15,21)] [] ?_)<|.cons (fC 9 15 false [(16,22)] [] ?_)<|.cons (fC 9 15 false [] [(0,g)] ?_)<|.cons (fC 9 15 false [(18,24)] [] ?_)<|.cons (fC 9 15 false [(19,25)] [] ?_)<|.cons (fC 9 15 false [(20,26)] [] ?_)<|.cons (fC 9 15 false [(21,27)] [] ?_)<|.cons (fC 9 15 false [(22,28)] [] ?_)<|.cons (fC 9 15 false [(23,29)] [] ?_)<|.cons (IU 9 15 false 139 func139 [(10,16),(17,23),(24,30)] [] _ ?c25)<|.cons (fC 9 15 false [(25,31)] [] ?_)<|.cons (sp [(9,15),(26,32)] [] ?_)<|.nil
  case c25=>
   intro E w' d z
   rintro B C D
   exact ⟨_,jQ,.of (x.o w') fun e G h=>⟨_,h.1,rfl,h.2▸Old.refl' _⟩⟩
  all_goals
   intro E w' d z H
   obtain ⟨u0,u1,u2,u3,u4⟩:=y.o w' d
   repeat intro _
   exact ⟨_,dP,rfl⟩
 case en=>exact UM
structure aaX (x:jc):Prop where
 n:1<=x.n/\x.n<=1000
 known:x.known.nodes.length<=1000
 seq:0<=x.seq/\x.seq<=1099511627776
 p:∀ q a t,x.p=some (q,a,t)->(0<=t/\t<=1099511627776)/\0<=a/\a<=2199023255552
theorem WV.C9 {s:WV} {j d:Nat} {x:jc} (e:d=s.conf.nodes + j) (k:s.nodes.length=s.conf.nodes) (f:s.au[j]?=some x) (g:d < s.clocks.length):(s.tick d).1=match x.tick (s.clocks[d]?.getD 0 + 1) with
 | none=>({ s with clocks:=s.clocks.set d (s.clocks[d]?.getD 0 + 1) }:WV)
 | some (cl,dst,q)=>({ s with clocks:=s.clocks.set d (s.clocks[d]?.getD 0 + 1),au:=s.au.set j cl }:WV).qL j dst q:=by
 unfold WV.tick
 rw [if_neg af]
 have h:s.nodes[d]?=none:=Jb af
 have i:d - s.conf.nodes=j:=af
 simp only [EZ,h,i,f,ME g,Gu]
 rfl
section
variable {w w':World} {own own':Nat->Tag} {c W:Nat} {u:bV} {gs cs:List Nat} {l:List bR} {s:WV}
theorem gZ.Pg (h:gZ w own c W u gs cs l s) {j:Nat} (d:j < s.clocks.length):∃ b,u.uY=some ⟨b,0,none⟩/\w.cell? ⟨b,j,none⟩=some (zi (s.clocks[j]?.getD 0))/\b < w.heap.size/\w.cell? ⟨W,5,none⟩=some (.slice (some ⟨b,0,none⟩) s.clocks.length u.Se)/\W < w.heap.size:=by
 obtain ⟨b,e,f,g,-⟩:=h.tq d 0
 obtain ⟨-,-,-,-,c5,-,-,i⟩:=h.cells
 rw [h.dQ.1,e] at c5
 exact ⟨b,e,f,g,c5,i⟩
theorem qO (h:gZ w own c W u gs cs l s) (j d:Nat) (C:d=s.conf.nodes + j) (x:jc) (Z:s.au[j]?=some x) (m:0<=s.clocks[d]?.getD 0/\s.clocks[d]?.getD 0<=1099511627776)
 (hT:∀ F K g W',gM W' F K g x->aS 80 #[g,zi (s.clocks[d]?.getD 0 + 1)] W' fun e w'=>e=.returned (.tuple #[zi (-1),.bool false])/\gM w' F K g x/\Fr F W' w')
 (hn:x.tick (s.clocks[d]?.getD 0 + 1)=none) :
 aS 31 #[W,zi (d:Int)] w (ek w own c W gs cs (s.tick d).1 (.bool true)):=by
 have D:j < s.au.length:=(List.getElem?_eq_some_iff.1 Z).1
 have n:d < s.clocks.length:=by have:=h.dQ.2;have:=h.len;omega
 rw [WV.C9 C h.len.1 Z n,hn]
 obtain ⟨-,-,-,-,c5,-,-,G⟩:=h.cells
 rw [h.dQ.1] at c5
 obtain ⟨nl,H⟩:=aR (s.clocks.length)
 obtain ⟨t,ht⟩:=aR (s.clocks[d]?.getD 0)
 rw [ht] at m hT hn ⊢
 obtain ⟨b,eb,I,bl,bf,J,d1⟩:=h.tq n (t + 1)
 rw [ht] at I
 obtain ⟨w1,y⟩:∃ x,x=w.setCell ⟨b,d,none⟩ (zi (t + 1)):=⟨_,rfl⟩
 rw [<- y] at J d1
 rw [H,eb] at c5
 have hin:(d:Int) < (nl:Int):=af
 have hwr:IntKind.i64.wrap (t + 1)=t + 1:=kP _ af
 obtain ⟨B,z⟩:=aR (cs[j]?.getD 0)
 have L:cs[j]?=some B:=by rw [<- z,gG (by have:=h.len;omega)];rfl
 have M:gs[d]?=none:=Jb (by have:=h.len;omega)
 obtain ⟨p,f⟩:=aR (({ s with clocks:=s.clocks.set d (t + 1) }:WV))
 rw [f] at J
 show Calls _ _ _ w (ek w own c W gs cs ({ s with clocks:=s.clocks.set d (t + 1) }:WV) (.bool true))
 rw [f]
 have N:p.au[j]?=some x:=by rw [<- f];exact Z
 have O:d < p.clocks.length:=by rw [<- f];show d < (s.clocks.set d (t + 1)).length;rw [Rm];exact n
 have P:p.clocks[d]?.getD 0=t + 1:=by rw [<- f];show (s.clocks.set d (t + 1))[d]?.getD 0=_;rw [ME n];rfl
 obtain ⟨nn,A⟩:∃ x:Int,(p.conf.nodes:Int)=x:=⟨_,rfl⟩
 have R:nn=s.conf.nodes:=by rw [<- A,<- f]
 have Ii:=aa A
 have LM:=aa (show IntKind.i64.wrap ((d:Int) - nn)=j from (kP _ (by have:=h.conf;have:=h.len;omega)).trans af)
 have cA:=aa (LF J d none (by rw [if_pos (by omega)];exact M))
 have H1:=aa J
 have D1:=aa d1
 have HX:=aa N
 have HK:=aa O
 have HT:=aa P
 have HJ:=aa (show j < p.au.length by rw [<- f];exact D)
 have Zz:=aa (show j<=4 by have:=h.conf;have:=h.len;omega)
 have HCS:=aa L
 have S:=aa z
 have ZA:=aa m
 have UB:=aa f
 have HTK:=aa hT
 clear h Z m hT hn D n ht H eb J d1 z L M f N O P A R C
 go_enter func31,ntmps31
 go_wp2_with fail
 rw [<- y]
 clear y I bl bf c5 G hwr
 refine cA.o.mono ?_
 rintro e w2 ⟨rfl,o2⟩
 have H2:=aa (H1.o.old o2)
 have D2:=aa (D1.o.old o2)
 have cC:=aa (fun W' (G:Old w2 W')=>Tc (H2.o.old G) j (some B) (by rw [if_pos (by omega)];exact HCS.o))
 clear o2
 unfold xF at cC ⊢
 go_wp2_with fail
 refine bG Old w2 [.val W,.val W,.val (av W 4),.val (zi (d:Int)),.val W,.val W,.val W,.val W,.val (zi nn),.val (zi (j:Int)),.val B,.val B] ((Old.refl' _).drew') ?st ?en
 case st=>
  refine .cons (sp [] [(0,W)] ?_)<|.cons (sp [(0,44)] [] ?_)<|.cons (sp [(1,45)] [] ?_)<|.cons (sp [] [(1,zi (d:Int))] ?_)<|.cons (sp [] [(0,W)] ?_)<|.cons (sp [(4,48)] [] ?_)<|.cons (sp [(5,49)] [] ?_)<|.cons (sp [(6,50)] [] ?_)<|.cons (sp [(7,51)] [] ?_)<|.cons (sp [(3,47),(8,52)] [] ?c9)<|.cons (sc 32 func32 [(2,46),(9,53)] [] _ ?c10)<|.cons (sp [(10,54)] [] ?_)<|.nil
  case c9=>
   intro E w' T hc hf
   rintro e47 e52
   exact ⟨_,by go_simp;exact LM.o,rfl⟩
  case c10=>
   intro E w' T hc
   rintro e46 e53
   exact ⟨_,jQ,.of (cC.o w' T) fun e w2 h=>⟨_,h.1,rfl,h.2⟩⟩
  all_goals
   intro E w' T hc hf
   have x0:=(H2.o.old T).cells.1
   have xl:=(H2.o.old T).cells.2.2.2.2.2.2.2
   rw [Ii.o] at x0
   repeat intro _
   exact ⟨_,dP,rfl⟩
 case en=>
  intro jA w9 r
  iterate 12 refine Ends.eqv _ _ rfl (fun _ h=>h) ?_
  refine Ends.nil ?_
  simp only [aC,ax,fM,fJ]
  have O3:=aa r
  have H3:=aa (H2.o.old r)
  have D3:=aa (D2.o.old r)
  obtain ⟨w3,rfl⟩:∃ x,x=w9:=⟨_,rfl⟩
  clear r
  obtain ⟨b,eb,I,bl,c5,G⟩:=H3.o.Pg HK.o
  rw [HT.o] at I
  obtain ⟨m1,U⟩:=aR (p.clocks.length)
  have hkm:(d:Int) < (m1:Int):=by have:=HK.o;omega
  rw [U] at c5
  have hC:gM w3 (fun b=>own b=kZ c j) (fun b=>own b=aB) B x:=by
   have:=H3.o.client j x HX.o
   rw [S.o] at this
   exact this
  have HC:=aa hC
  clear hC eb U
  have cT:=aa (HTK.o _ _ B w3 HC.o)
  go_wp2_with fail
  refine cT.o.mono ?_
  rintro e w4 ⟨rfl,V,X⟩
  have HZ:=aa (show ek w own c W gs cs p (.bool true) (.returned (.bool true)) w4 by
   obtain ⟨Y,h4,d4⟩:=H3.o.Bj HJ.o (F':=fun b=>own b=kZ c j) (x':=x) (by rw [S.o];exact V) (fun k hk=>.inl hk) X
   refine ⟨rfl,Y,{ u with dQ:=u.dQ.set d (t + 1) },l,?_,D3.o.trans d4⟩
   have e:p.au.set j x=p.au:=by
    apply List.ext_getElem?
    intro i
    by_cases hi:j=i
    ·subst hi;rw [ME HJ.o,HX.o]
    ·rw [MF hi]
   rw [e] at h4
   exact h4)
  clear V X I bl c5 G
  go_wp2_with fail
  go_ret
  exact HZ.o
end
theorem WX (F K:Nat->Prop) (g:Nat) (c c':jc) (qv:aG) (now asked f O:Int) (hp:c.p=some (qv,asked,f)) (hn:1<=c.n) (P:c.n<=1000) (i:c.known.nodes.length<=1000) (ht:0<=f/\f<=1099511627776) (y:c.Cr now qv f=(c',O)) (w:World) (h:gM w F K g c) :
 aS 82 #[g,zi now] w fun e w'=>e=.returned (zi O)/\gM w' F K g c'/\Fr F w w':=by
 obtain ⟨A,q,V,J,l1,h3,h4⟩:=h.ex
 have TV:=h.gF
 have X:=h.lt
 obtain ⟨id,n,sq,⟨ep,ns⟩,p⟩:=c
 simp only at hp hn P i J l1 h3 h4
 subst hp
 obtain ⟨bk,rfl,z,B,C⟩:=h4
 obtain ⟨q1,L,D,Y,Z,M⟩:=qv
 obtain ⟨t0,t1⟩:=ht
 injection y with G r
 simp only at G r
 obtain ⟨wb,H⟩:=aR (dU D)
 rw [H] at r
 obtain ⟨m,hm⟩:∃ m,m=ns.length:=⟨_,rfl⟩
 rw [<- hm] at i J l1
 have cW:=aa (fun W=>kr q1 L D Y Z M wb H W)
 have s:Bk ((w.setCell ⟨bk,6,none⟩ (zi now)).setCell ⟨bk,7,none⟩ (zi (f + 1))) bk 163 (sW (⟨q1,L,D,Y,Z,M⟩,now,f + 1)):=by simpa [sW] using (C.bH 6 (zi now)).bH 7 (zi (f + 1))
 have l:=Fr.setCell (S:=fun k=>k=bk) (p:=⟨bk,7,none⟩) (Fr.setCell (S:=fun k=>k=bk) (p:=⟨bk,6,none⟩) (Fr.refl _ w) (.inr rfl) (zi now)) (.inr rfl) (zi (f + 1))
 have u:=J.fr l (fun e=>z e.symm)
 have x:=h3.fr l (fun k i e=>i.2 (e▸B))
 have hR:=l.mono (T:=F) fun k _ e=>e▸B
 have g5:w.cell? ⟨g,5,none⟩=some (av bk 0):=(J.cell 5).trans rfl
 have g6:w.cell? ⟨bk,6,none⟩=some (zi asked):=(C.cell 6).trans rfl
 have g7:w.cell? ⟨bk,7,none⟩=some (zi f):=(C.cell 7).trans rfl
 have f6:=C.frozen 6
 have f7:=C.frozen 7
 have hgl:=J.lt
 have hbl:=C.lt
 have hwr:IntKind.i64.wrap (f + 1)=f + 1:=kP _ af
 obtain ⟨w5,I⟩:=aR ((w.setCell ⟨bk,6,none⟩ (zi now)).setCell ⟨bk,7,none⟩ (zi (f + 1)))
 rw [I] at s u x hR
 have HF:=aa (show gM w5 F K g c' from by
  rw [<- G]
  exact ⟨⟨A,q,_,by rw [<- hm];exact u,by rw [<- hm];exact l1,x,⟨bk,rfl,z,B,s⟩⟩,TV,fun k i=>iD (X k i) hR.size⟩)
 have HR:=aa hR
 have cT:=aa (fun W (hW:Old w5 W)=>OL ep A m q ns n (f + 1) wb O hn P ⟨af,af⟩ hm i r W (x.1.old hW))
 have N:=aa (fun (U:World) (hS:Old w5 U)=>(by
  have a:=u.old hS
  have b:=s.old hS
  exact ⟨(a.cell 1).trans rfl,(a.cell 3).trans rfl,(a.cell 4).trans rfl,(a.cell 5).trans rfl,(b.cell 0).trans rfl,(b.cell 1).trans rfl,(b.cell 2).trans rfl,(b.cell 3).trans rfl,(b.cell 4).trans rfl,(b.cell 5).trans rfl,(b.cell 7).trans rfl,a.lt,b.lt⟩:U.cell? ⟨g,1,none⟩=some (zi n)/\U.cell? ⟨g,3,none⟩=some (zi ep)/\U.cell? ⟨g,4,none⟩=some (.slice A m q)/\U.cell? ⟨g,5,none⟩=some (av bk 0)/\U.cell? ⟨bk,0,none⟩=some (zi q1)/\U.cell? ⟨bk,1,none⟩=some (zi L)/\U.cell? ⟨bk,2,none⟩=some (zi D)/\U.cell? ⟨bk,3,none⟩=some (zi Y)/\U.cell? ⟨bk,4,none⟩=some (zi Z)/\U.cell? ⟨bk,5,none⟩=some (.string M)/\U.cell? ⟨bk,7,none⟩=some (zi (f + 1))/\g < U.heap.size/\bk < U.heap.size))
 have HW5:=aa I
 have hne2:g≠bk:=z.symm
 clear h J h3 C s u x hR l G r hm l1 X I H
 go_enter func82,ntmps82
 go_upto_region 3 with fail
 rw [HW5.o]
 refine aY (R:=pick [eqv (av g 0),eqv (av g 0),eqv (av g 3),eqv (.agg #[zi ep,.slice A m q]),eqv (av g 0),eqv (av g 0),eqv (av g 1),eqv (zi n),eqv (av g 0),eqv (av g 0),eqv (av g 5),eqv (av bk 0),eqv (av bk 0),eqv (av bk 7),eqv (zi (f + 1)),eqv (av g 0),eqv (av g 0),eqv (av g 5),eqv (av bk 0),eqv (av bk 0),eqv (av bk 0),eqv (.agg #[zi q1,zi L,zi D,zi Y,zi Z,.string M]),eqv (.bool wb),eqv (zi O),eqv (zi O)]) (S:=fun _ w'=>Old w5 w') (T:=Old) ay ay ay (ai.pick (ai.eqv (ai.eqv (ai.eqv (ai.eqv (ai.eqv (ai.eqv (ai.eqv (ai.eqv (ai.eqv (ai.eqv (ai.eqv (ai.eqv (ai.eqv (ai.eqv (ai.eqv (ai.eqv (ai.eqv (ai.eqv (ai.eqv (ai.eqv (ai.eqv (ai.eqv (ai.eqv (ai.eqv (ai.eqv (ai.nil))))))))))))))))))))))))))) ((Old.refl' _).drew') ?steps ?ends
 case steps=>
  refine .cons (zp [] [(0,g)]) <|.cons (zp [(0,22)] []) <|.cons (zp [(1,23)] []) ?_
  refine .cons (zp [(2,24)] [] (fun d E w' i j hS y l=>by rintro _ L rfl e24 ;obtain ⟨u0,u1,u2,u3,u4,u5,u6,u7,u8,u9,dF,dD,dK⟩:=N.o w' hS;exact ⟨_,by go_simp,rfl⟩)) ?_
  refine .cons (zp [] [(0,g)]) <|.cons (zp [(4,26)] []) <|.cons (zp [(5,27)] []) ?_
  refine .cons (zp [(6,28)] [] (fun d E w' i j hS y l=>by rintro _ M rfl e28 ;obtain ⟨u0,u1,u2,u3,u4,u5,u6,u7,u8,u9,dF,dD,dK⟩:=N.o w' hS;exact ⟨_,by go_simp,rfl⟩)) ?_
  refine .cons (zp [] [(0,g)]) <|.cons (zp [(8,30)] []) <|.cons (zp [(9,31)] []) ?_
  refine .cons (zp [(10,32)] [] (fun d E w' i j hS y l=>by rintro _ GI rfl e32 ;obtain ⟨u0,u1,u2,u3,u4,u5,u6,u7,u8,u9,dF,dD,dK⟩:=N.o w' hS;exact ⟨_,by go_simp,rfl⟩)) ?_
  refine .cons (zp [(11,33)] []) <|.cons (zp [(12,34)] []) ?_
  refine .cons (zp [(13,35)] [] (fun d E w' i j hS y l=>by rintro _ TT rfl e35 ;obtain ⟨u0,u1,u2,u3,u4,u5,u6,u7,u8,u9,dF,dD,dK⟩:=N.o w' hS;exact ⟨_,by go_simp,rfl⟩)) ?_
  refine .cons (zp [] [(0,g)]) <|.cons (zp [(15,37)] []) <|.cons (zp [(16,38)] []) ?_
  refine .cons (zp [(17,39)] [] (fun d E w' i j hS y l=>by rintro _ q17 rfl e39 ;obtain ⟨u0,u1,u2,u3,u4,u5,u6,u7,u8,u9,dF,dD,dK⟩:=N.o w' hS;exact ⟨_,by go_simp,rfl⟩)) ?_
  refine .cons (zp [(18,40)] []) <|.cons (zp [(19,41)] []) ?_
  refine .cons (zp [(20,42)] [] (fun d E w' i j hS y l=>by rintro _ q20 rfl e42 ;obtain ⟨u0,u1,u2,u3,u4,u5,u6,u7,u8,u9,dF,dD,dK⟩:=N.o w' hS;exact ⟨_,by go_simp,rfl⟩)) ?_
  refine aH.cons (bP [(21,43)] [] rfl rfl ay ay rfl ?_) ?_
  ·rintro d a w' i j hS _ q21 rfl e43 
   first | refine Given.nil (aU.nil ?_) | refine aU.nil ?_
   refine fI 142 _ func142 ay ay _ _ iW [.agg #[zi q1,zi L,zi D,zi Y,zi Z,.string M]] zap (cW.o _) ?_
   rintro e w1 ⟨rfl,hb⟩
   exact ⟨_,rfl,_,rfl,rfl,hb,hS.trans' hb⟩
  refine aH.cons (bP [(3,25),(7,29),(14,36),(22,44)] [] rfl rfl ay ay rfl ?_) ?_
  ·rintro d a w' i j hS _ D rfl e25 _ q7 rfl e29 _ Qk rfl e36 _ q22 rfl e44 
   first | refine Given.nil (aU.nil ?_) | refine aU.nil ?_
   refine fI 141 _ func141 ay ay _ _ iW [.agg #[zi ep,.slice A m q],zi n,zi (f + 1),.bool wb] zap (cT.o _ hS) ?_
   rintro e w1 ⟨rfl,hb⟩
   exact ⟨_,rfl,_,rfl,rfl,hb,hS.trans' hb⟩
  refine .cons (zp [(23,45)] []) ?_
  exact aH.nil
 case ends=>
  intro jA w9 nT IW
  iterate 25 refine .eqv _ _ rfl (fun _ h=>h) ?_
  refine Ends.nil ?_
  clear IW
  simp only [aC,ax,fM,fJ]
  have O9:=aa nT
  clear nT
  go_wp2
  go_ret
  exact ⟨rfl,HF.o.old O9.o,HR.o.trans (Fr.aj O9.o)⟩
end Go.Proofs.YthihpfpbiajddaaGreat
