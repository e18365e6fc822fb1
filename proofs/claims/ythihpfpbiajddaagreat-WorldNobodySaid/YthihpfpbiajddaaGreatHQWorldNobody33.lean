/- Parts of the proof. -/
import Derived.Test.YthihpfpbiajddaaGreatHQWorldNobody32
set_option maxRecDepth 100000
set_option maxHeartbeats 8000000
open Go.Proofs.Tryz
namespace Go.Proofs.YthihpfpbiajddaaGreat
open Go.RowKit
structure MAt (M:Array Value) (m:aO) (A1:Option Addr) (q1:Nat) (A4:Option Addr) (q4:Nat):Prop where
 c0:M[0]?=some (zi m.kind)
 c1:M[1]?=some (zi m.known.az)
 c2:M[2]?=some (.slice A1 m.known.nodes.length q1)
 c19:M[19]?=some (zi m.q.client)
 c20:M[20]?=some (zi m.q.seq)
 c27:M[27]?=some (.bool m.ans)
 c28:M[28]?=some (zi m.rep.code)
 c29:M[29]?=some (zi m.rep.fQ)
 c30:M[30]?=some (.string m.rep.data)
 c31:M[31]?=some (.slice A4 m.rep.vs.length q4)
 c32:M[32]?=some (zi m.at_)
theorem fe.eD {w:World} {own:Nat->Tag} {m:aO} {M:Array Value} (h:fe w own m M):∃ e q1 d f,MAt M m e q1 d f/\(m.known.nodes.length<=q1/\aP w e m.known.nodes)/\aP w d m.rep.vs/\(m.rep.vs≠[]->∀ a,d=some a->own a.block=aB):=by
 obtain ⟨K,V,C,R,L,rfl,⟨e,q1,rfl,i,g,i1,t1⟩,-,-,⟨d,f,rfl,j,i4,t4⟩,-⟩:=h.ex
 exact ⟨e,q1,d,f,⟨rfl,rfl,rfl,rfl,rfl,rfl,rfl,rfl,rfl,rfl,rfl⟩,⟨g,i1⟩,i4,t4⟩
theorem Xa {w:World} {g:Nat} {M:Array Value} {m:aO} {i e:Option Addr} {q1 f:Nat} (h:Bk w g 110 M) (a:MAt M m i q1 e f):∀ (j:Nat) v,#[zi m.rep.code,zi m.rep.fQ,.string m.rep.data,(.slice e m.rep.vs.length f:Value)][j]?=some v->w.cell? ⟨g,28 + j,none⟩=some v:=fun j v d=>by
 rw [h.cell]
 match j,d with
 | 0,d=>exact a.c28.trans d
 | 1,d=>exact a.c29.trans d
 | 2,d=>exact a.c30.trans d
 | 3,d=>exact a.c31.trans d
 | j + 4,d=>simp at d
theorem Pj:(prog.info? 49).map (·.size)=some 4:=ay
def NQ (own:Nat->Tag) (c pp:Nat) (v:PV) (cl sq:Int) (q:aG) (r:om) (a:Int) (l:List bR) (x y:World):Prop:=(∃ F' AV cV,Dn y pp F' (fun b=>own b=aB) v (l ++ [⟨cl,sq,true,q,r,AV,cV,a⟩])/\∀ b,F' b->own b=oJ c∨x.heap.size<=b)/\Fr (fun b=>own b=oJ c) x y
section
variable {w w':World} {own own':Nat->Tag} {c W:Nat} {u:bV} {gs cs:List Nat} {l:List bR} {s:WV}
theorem uu (h:gZ w own c W u gs cs l s) (k:Nat) (x:jy) (V:s.bO[k]?=some x) (hN:s.bO.length<=1099511627776) (m:aO) (hl:xO m) (hR:∀ W' A q,ah W' A (eB x.bs)->aS 72 #[.slice A x.bs.length q] W' (iY W' m))
 (j X:Nat) (hkk:X=s.conf.nodes + j) (y:jc) (hto:x.BX=X) (hy:s.au[j]?=some y) (h10:m.kind=10) (y1:jc) (hy1:y.told m.q.seq m.known=y1) (b:Bool) (hb:y1.is m.q.seq=b) (qw:aG)
 (hp:(m.ans && b)=true->(s.past.wait m.q.client=some qw/\s.past.Eg m.q.client m.q.seq m.at_=0)/\s.past.n<=50000) (s9:WV)
 (IY:s9=if (m.ans && b)=true then ({ s with bO:=s.bO.eraseIdx k,au:=s.au.set j { y1 with p:=none },past:=s.past.answered m.q.client,acts:=s.acts ++ [⟨m.q.client,m.q.seq,true,qw,m.rep,none,0,m.at_⟩] }:WV) else { s with bO:=s.bO.eraseIdx k,au:=s.au.set j y1 })
 (hTl:∀ (F K:Nat->Prop) (g:Nat) (A:Option Addr) (cap:Nat) W',m.known.nodes.length<=cap->(∀ k,W'.heap.size<=k->K k)->gM W' F K g y->aP W' A m.known.nodes->aS 74 #[g,zi m.q.seq,.agg #[zi m.known.az,.slice A m.known.nodes.length cap]] W' fun e w'=>e=.returned (.tuple #[])/\gM w' F K g (y.told m.q.seq m.known)/\Fr F W' w') :
 aS 28 #[W,zi (k:Int)] w (ek w own c W gs cs s9 (.bool true)):=by
 obtain ⟨-,-,-,-,-,c6,-,hW⟩:=h.cells
 have hlt:j < s.au.length:=(List.getElem?_eq_some_iff.1 hy).1
 obtain ⟨Y,hgc⟩:=aR (cs[j]?.getD 0)
 have hcs:cs[j]?=some Y:=by rw [<- hgc,gG (by have:=h.len;omega)];rfl
 have hgs:gs[X]?=none:=Jb (by have:=h.len;omega)
 obtain ⟨nn,hnn⟩:∃ x:Int,(s.conf.nodes:Int)=x:=⟨_,rfl⟩
 obtain ⟨gJ,BX,bs⟩:=x
 simp only at hto hR
 subst hto
 have cT:=aa (KL _ _ u.pb k s.bO ⟨gJ,X,bs⟩ V hN w h.bO)
 obtain ⟨pb,hpb⟩:=aR (u.pb)
 obtain ⟨pp,OV⟩:=aR (u.pp)
 have WW:=aa hpb
 have Td:=aa OV
 rw [hpb] at c6 cT
 have H0:=aa h
 have HY:=aa hy
 have HCS:=aa hcs
 have HGS:=aa hgs
 have L:=aa hgc
 have HR:=aa hR
 have IB:=aa IY
 have ZD:=aa hl
 have HTL:=aa hTl
 have N:=aa hnn
 have HJ:=aa hlt
 have HY1:=aa hy1
 have HBB:=aa hb
 have HPA:=aa hp
 have H10:=aa h10
 have LM:=aa (show IntKind.i64.wrap ((X:Int) - nn)=j from (kP _ (by have:=h.conf;have:=h.len;omega)).trans af)
 clear h V hN hy hcs hgs hgc hR IY hTl hl hnn hlt hy1 hb hp h10 hpb OV hkk
 go_enter func28,ntmps28
 go_wp2_with fail
 refine cT.o.mono ?_
 rintro e w1 ⟨_,rfl,hB1,⟨A,q,rfl,hA,-⟩,hF1⟩
 simp only at hA
 obtain ⟨z,h1,d1⟩:=H0.o.ql (F':=fun k=>own k=(c + 1,0,1)) (b':=s.bO.eraseIdx k) (by rw [WW.o];exact hB1) (fun k V=>.inl V) hF1
 have cR:=aa (HR.o w1 A q hA)
 obtain ⟨s1,n⟩:=aR (({ s with bO:=s.bO.eraseIdx k }:WV))
 rw [n] at h1
 have H:=aa n
 have H1:=aa h1
 have D1:=aa d1
 have aaY:=aa (show (s1.conf.nodes:Int)=nn by rw [<- n];exact N.o)
 have HY2:=aa (show s1.au[j]?=some y by rw [<- n];exact HY.o)
 have HJ1:=aa (show j < s1.au.length by rw [<- n];exact HJ.o)
 clear h1 d1 hB1 hF1 hA c6 hW n N
 have N:=aaY
 go_wp2_with fail
 refine cR.o.mono ?_
 intro e d hr
 obtain ⟨M,rfl,o2,hM,Z⟩:=hr.W9 H1.o.top ZD.o
 clear hr
 have O:=hM.size
 obtain ⟨w3,I⟩:∃ y,y=setAt (d.alloc (.cells zM 110)) d.heap.size 0 M.toList:=⟨_,rfl⟩
 have XM:=aa (show Bk w3 d.heap.size 110 M by
  have h9:=(Bk.new d 110 zM).setAt M.toList 0
  rw [pX _ _ (by rw [vK,Array.length_toList,O]),<- I] at h9
  simpa using h9)
 have P:Old d w3:=I▸ji ((Old.refl' d).ag _) (dN _) _ 0
 have H3:=aa (H1.o.old (o2.trans' P))
 have D3:=aa (D1.o.old (o2.trans' P))
 have WI:=aa (hM.old P)
 obtain ⟨A1,q1,A4,q4,hma,⟨hk1,hi1⟩,hi4,ht4⟩:=WI.o.eD
 have r:=aa hma
 have HK1:=aa hk1
 have HI1:=aa hi1
 have HI4:=aa hi4
 have Xb:=aa ht4
 have Uh:=aa (show z d.heap.size=aB from H1.o.top _ o2.size)
 have HX1:=aa (show w1.heap.size<=d.heap.size from o2.size)
 have hzb:=Bk.new d 110 zM
 have hsz:(prog.info? 110).map (·.size)=some M.toList.length:=by rw [Array.length_toList,O];exact sU
 have n:0 + M.toList.length<=zM.size:=by rw [Array.length_toList,O];decide
 have cA:=aa (LF H3.o X none (by rw [if_pos (by omega),EZ];exact HGS.o))
 unfold zM at hzb n I
 clear o2 P hM O hma hk1 hi1 hi4 ht4
 go_wp2_with ((refine aL 110 (.tmp 9) (.tmp 26) d.heap.size 0 M.toList rfl (by show M=M.toList.toArray;simp) 110 _ hzb hsz n Z ?_);rw [<- I];clear I)
 clear hzb hsz n Z
 refine cA.o.mono ?_
 rintro e w4 ⟨rfl,o4⟩
 have H4:=aa (H3.o.old o4)
 have D4:=aa (D3.o.old o4)
 have XM4:=aa (XM.o.old o4)
 have aaZ:=aa (HI1.o.old o4)
 have aa0:=aa (HI4.o.old o4)
 have cC:=aa (fun W' (hW:Old w4 W')=>Tc (H4.o.old hW) j (some Y) (by rw [if_pos (by omega),EZ];exact HCS.o))
 clear o4
 unfold xF at cC ⊢
 go_wp2_with fail
 refine bG Old w4 [.val W,.val W,.val (av W 4),.val (zi (X:Int)),.val W,.val W,.val W,.val W,.val (zi nn),.val (zi (j:Int)),.val Y,.val Y] ((Old.refl' _).drew') ?st ?en
 case st=>
  refine .cons (sp [] [(0,W)] ?_)<|.cons (sp [(0,42)] [] ?_)<|.cons (sp [(1,43)] [] ?_)<|.cons (sp [] [(6,zi (X:Int))] ?_)<|.cons (sp [] [(0,W)] ?_)<|.cons (sp [(4,46)] [] ?_)<|.cons (sp [(5,47)] [] ?_)<|.cons (sp [(6,48)] [] ?_)<|.cons (sp [(7,49)] [] ?_)<|.cons (sp [(3,45),(8,50)] [] ?c9)<|.cons (sc 32 func32 [(2,44),(9,51)] [] _ ?c10)<|.cons (sp [(10,52)] [] ?_)<|.nil
  case c9=>
   intro E w' i R hf
   rintro e45 e50
   exact ⟨_,by go_simp;exact LM.o,rfl⟩
  case c10=>
   intro E w' i R
   rintro e44 e51
   exact ⟨_,jQ,.of (cC.o w' i) fun e d h=>⟨_,h.1,rfl,h.2⟩⟩
  all_goals
   intro E w' i R hf
   have x0:=(H4.o.old i).cells.1
   have xl:=(H4.o.old i).cells.2.2.2.2.2.2.2
   rw [N.o] at x0
   repeat intro _
   exact ⟨_,dP,rfl⟩
 case en=>
  intro jA w9 G
  iterate 12 refine Ends.eqv _ _ rfl (fun _ h=>h) ?_
  refine Ends.nil ?_
  simp only [aC,ax,fM,fJ]
  have H5:=aa (H4.o.old G)
  have D5:=aa (D4.o.old G)
  have C:=aa (XM4.o.old G)
  have aa1:=aa (aaZ.o.old G)
  have Xc:=aa (aa0.o.old G)
  obtain ⟨w5,rfl⟩:∃ x,x=w9:=⟨_,rfl⟩
  clear G
  have hC5:gM w5 (fun b=>z b=kZ c j) (fun b=>z b=aB) Y y:=by
   have:=H5.o.client j y HY2.o
   rw [L.o] at this
   exact this
  have cT2:=aa (HTL.o _ _ Y A1 q1 w5 HK1.o H5.o.top hC5 aa1.o)
  have z0:=(C.o.cell 0).trans r.o.c0
  have z1:=(C.o.cell 1).trans r.o.c1
  have z2:=(C.o.cell 2).trans r.o.c2
  have T:=(C.o.cell 20).trans r.o.c20
  have zl:=C.o.lt
  rw [H10.o] at z0
  clear hC5
  go_wp2_with fail
  refine cT2.o.mono ?_
  rintro e w6 ⟨rfl,J,Lp⟩
  obtain ⟨f,h6,d6⟩:=H5.o.Bj HJ1.o (F':=fun b=>z b=kZ c j) (x':=y1) (by rw [L.o,<- HY1.o];exact J) (fun k V=>.inl V) Lp
  have H6:=aa h6
  have D6:=aa (D5.o.trans d6)
  have U:=aa (d6.keep C.o (by rw [Uh.o];simp [aB]))
  have D6e:=aa d6.ext
  have HG6:=aa (show f d.heap.size=aB from (d6.ext _ C.o.lt).trans Uh.o)
  have aa2:=aa (fun hn:m.rep.vs≠[]=>(show aP w6 A4 m.rep.vs from ah.fr Xc.o d6.fr (fun _ a e=>by show ¬ (z a.block).1=c + 1;rw [Xb.o hn a e];simp [aB])))
  clear J Lp h6 d6 z0 z1 z2 T zl
  have T:=(U.o.cell 20).trans r.o.c20
  have z27:=(U.o.cell 27).trans r.o.c27
  have zl:=U.o.lt
  obtain ⟨an,han⟩:=aR (m.ans)
  rw [han] at z27
  have HAN:=aa han
  clear han
  cases an with
  | false=>
   have HZ:=aa (show ek w own c W gs cs s9 (.bool true) (.returned (.bool true)) w6 from ⟨rfl,f,u,l,by
    rw [IB.o,if_neg (by rw [HAN.o];simp)]
    have h9:=H6.o
    rw [<- H.o] at h9
    exact h9,D6.o⟩)
   go_wp2_with fail
   go_ret
   exact HZ.o
  | true=>
   have hy6:({ s1 with au:=s1.au.set j y1 }:WV).au[j]?=some y1:=ME HJ1.o
   have J:gM w6 (fun b=>f b=kZ c j) (fun b=>f b=aB) Y y1:=by
    have:=H6.o.client j y1 hy6
    rw [L.o] at this
    exact this
   obtain ⟨y2,hy2⟩:=aR ((if b then { y1 with p:=none } else y1))
   have HYY:=aa hy2
   have cN:=aa (LP _ _ Y y1 y2 m.q.seq b HBB.o hy2 w6 J)
   clear hy6 J hy2
   go_wp2_with fail
   refine cN.o.mono ?_
   rintro e w7 ⟨rfl,hC7,QC⟩
   obtain ⟨B,h7,d7⟩:=H6.o.Bj (by show j < (s1.au.set j y1).length;rw [Rm];exact HJ1.o) (F':=fun b=>f b=kZ c j) (x':=y2) (by rw [L.o];exact hC7) (fun k V=>.inl V) QC
   have H7:=aa h7
   have D7:=aa (D6.o.trans d7)
   have D:=aa (d7.keep U.o (by rw [HG6.o];simp [aB]))
   have aa3:=aa (fun hn:m.rep.vs≠[]=>(show aP w7 A4 m.rep.vs from ah.fr (aa2.o hn) d7.fr (fun _ a e=>by
    obtain ⟨b',o',e1,hb',-⟩:=Xc.o (by simpa using hn)
    rw [e1] at e
    cases e
    have e2:=Xb.o hn _ e1
    show ¬ (f b').1=c + 1
    have e3:f b'=z b':=D6e.o b' hb'
    rw [e3,e2]
    simp [aB])))
   clear hC7 QC h7 d7 T z27 zl
   cases b with
   | false=>
    have HZ:=aa (show ek w own c W gs cs s9 (.bool true) (.returned (.bool true)) w7 from ⟨rfl,B,u,l,by
     rw [IB.o,if_neg bE]
     have h9:=H7.o
     rw [<- HYY.o,<- H.o] at h9
     simp only [List.set_set,Bool.false_eq_true,if_false] at h9
     exact h9,D7.o⟩)
    go_wp2_with fail
    go_ret
    exact HZ.o
   | true=>
    obtain ⟨⟨hw,hE⟩,Ao⟩:=HPA.o (by rw [HAN.o];rfl)
    have cS:=aa (fun W' (hW:Old w7 W')=>(WR pp (fun b=>B b=oJ c) (fun b=>B b=aB) s.past l Ao m.q.client m.q.seq m.at_ m.rep A4 m.rep.vs.length q4 rfl (ic ZD.o.r af) qw hw hE W' (H7.o.old hW).top (by
     have h9:=(H7.o.old hW).past
     rw [Td.o,<- H.o] at h9
     exact h9) (by
      by_cases hn:m.rep.vs=[]
      ·rw [hn];exact ah.nil _ _
      ·exact (aa3.o hn).old hW)).mono fun e d hh=>(show e=.returned (zi 0)/\NQ B c pp (s.past.answered m.q.client) m.q.client m.q.seq qw m.rep m.at_ l W' d from hh))
    clear hw hE Ao
    go_wp2_with fail
    refine qo (fun k=>B k=oJ c) 14 (NQ B c pp (s.past.answered m.q.client) m.q.client m.q.seq qw m.rep m.at_ l) 15 aW w7 [.val W,.val W,.val (av W 7),.val pp,.val (av d.heap.size 19),.val (av d.heap.size 19),.val (zi m.q.client),.val (av d.heap.size 19),.val (av d.heap.size 20),.val (zi m.q.seq),.val (av d.heap.size 28),.val (.agg #[zi m.rep.code,zi m.rep.fQ,.string m.rep.data,.slice A4 m.rep.vs.length q4]),.val (av d.heap.size 32),.val (zi m.at_),.val (zi 0)] ((Old.refl' _).drew') ?st ?en
    case st=>
     refine .cons (sp1 (fun _ _ h=>h.2) [] [(0,W)] ?_)<|.cons (sp1 (fun _ _ h=>h.2) [(0,76)] [] ?_)<|.cons (sp1 (fun _ _ h=>h.2) [(1,77)] [] ?_)<|.cons (ve (fun _ _ h=>h.2) [(2,78)] [] ?c3)<|.cons (sp1 (fun _ _ h=>h.2) [] [(9,d.heap.size)] ?_)<|.cons (sp1 (fun _ _ h=>h.2) [(4,80)] [] ?_)<|.cons (ve (fun _ _ h=>h.2) [(5,81)] [] ?c6)<|.cons (sp1 (fun _ _ h=>h.2) [] [(9,d.heap.size)] ?_)<|.cons (sp1 (fun _ _ h=>h.2) [(7,83)] [] ?_)<|.cons (ve (fun _ _ h=>h.2) [(8,84)] [] ?c9)<|.cons (sp1 (fun _ _ h=>h.2) [] [(9,d.heap.size)] ?_)<|.cons (ve (fun _ _ h=>h.2) [(10,86)] [] ?c11)<|.cons (sp1 (fun _ _ h=>h.2) [] [(9,d.heap.size)] ?_)<|.cons (ve (fun _ _ h=>h.2) [(12,88)] [] ?c13)<|.cons (Et (fun _ _ h=>h.2) 76 func76 [(3,79),(6,82),(9,85),(11,87),(13,89)] [] _ ?c14)<|.nil
     case c3=>
      intro E w' i R hf
      rintro e78
      have x7:=(H7.o.old i).cells.2.2.2.2.2.2.1
      have xl:=(H7.o.old i).cells.2.2.2.2.2.2.2
      rw [Td.o] at x7
      exact ⟨_,dP,rfl⟩
     case c6=>
      intro E w' i R hf
      rintro e81
      have z19:=((D.o.old i).cell 19).trans r.o.c19
      have zl:=(D.o.old i).lt
      exact ⟨_,dP,rfl⟩
     case c9=>
      intro E w' i R hf
      rintro e84
      have T:=((D.o.old i).cell 20).trans r.o.c20
      have zl:=(D.o.old i).lt
      exact ⟨_,dP,rfl⟩
     case c11=>
      intro E w' i R hf
      rintro e86
      exact ⟨_,eH 49 (.tmp 86) rfl d.heap.size 28 _ _ (by assumption) (Xa (D.o.old i) r.o) underlying49 rfl Pj,rfl⟩
     case c13=>
      intro E w' i R hf
      rintro e88
      have z32:=((D.o.old i).cell 32).trans r.o.c32
      have zl:=(D.o.old i).lt
      exact ⟨_,dP,rfl⟩
     case c14=>
      intro E w' i R
      rintro e79 e82 e85 e87 e89
      exact ⟨_,jQ,(cS.o w' i).mono fun e d h=>⟨_,h.1,rfl,h.2⟩⟩
     all_goals
      intro E w' i R hf
      repeat intro _
      exact ⟨_,dP,rfl⟩
    case en=>
     intro jA w9 x9 y9 OI vG Lf
     iterate 15 refine Ends.eqv _ _ rfl (fun _ h=>h) ?_
     refine Ends.nil ?_
     simp only [aC,ax,fM,fJ]
     simp only [MH,Ja,List.drop_nil]
     obtain ⟨⟨F',AV,cV,hC,hG⟩,hF⟩:=vG
     obtain ⟨CL,h8,d8⟩:=(H7.o.old OI).Lm (F':=F') (v':=s.past.answered m.q.client) (l':=l ++ [⟨m.q.client,m.q.seq,true,qw,m.rep,AV,cV,m.at_⟩]) (by rw [Td.o];exact (sZ pp _ _).fr hC (Fr.aj (S:=fun _=>False) Lf) (fun _ _ h=>h)) hG (hF.trans (Fr.aj Lf))
     have HZ:=aa (show ek w own c W gs cs s9 (.bool true) (.returned (.bool true)) w9 from ⟨rfl,CL,u,l ++ [⟨m.q.client,m.q.seq,true,qw,m.rep,AV,cV,m.at_⟩],by
      rw [IB.o,if_pos (by rw [HAN.o];rfl)]
      have h9:=h8
      have ha:=H7.o.acts
      rw [<- HYY.o,<- H.o,BH] at h9
      rw [<- H.o] at ha
      simp only [List.set_set,if_true] at h9 ha
      rw [ha] at h9
      exact h9,((D7.o.old OI).trans d8)⟩)
     clear hC hG hF OI Lf h8 d8
     go_wp2_with fail
     go_ret
     exact HZ.o
end
section
variable {s:NS} {i:Nat}
theorem NS.xP (d:s.conf.nodes=1) (e:s.n.self=0) (m:aO):s.others m=s:=by
 unfold NS.others NS.range
 rw [d]
 simp [e]
theorem NS.IC (g:s.n.self=(i:Int)) (h:Lone s i):s.lead=s.jO:=by
 obtain ⟨⟨A,f⟩,r,m,u,p,j,x⟩:=h
 have d:s.take=s:=by
  unfold NS.take
  simp only [j]
  split
  ·rfl
  ·rw [if_pos (.inl aW)]
 have e:s.wanted=(if s.gD=true then s.aZ fun n=>{ n with well:=s.now } else s,none):=by
  have y:s.member=true:=by unfold NS.member;rw [f,g];simp [bC.has]
  have z:(s.known.nodes.filter fun i=>!(s.there i))=[]:=by rw [f];simp [r]
  have k:s.known.tail=s.n.self:=by rw [f,g];rfl
  have l:(s.known.nodes.all fun i=>decide (i=s.n.self) || (s.same i && (s.iQ i).hop))=true:=by rw [f,g];simp
  unfold NS.wanted
  rw [if_neg (by rw [y];decide)]
  simp only [z,k,l,Bool.and_true,ne_eq,not_true_eq_false,false_and,if_false,u,false_or]
  cases hle:s.gD with
  | true=>
   simp only [if_true]
   rw [if_neg (by show ¬ s.isOpen=true;rw [m];decide),if_neg (by rintro ⟨h,-⟩;omega),if_pos ⟨aW,by show s.now - s.now < 60;omega⟩]
  | false=>
   simp only [Bool.false_eq_true,if_false]
   rw [if_neg (by rw [m];decide),if_neg (by rintro ⟨h,-⟩;omega),if_pos ⟨aW,by rw [hle] at p;simpa using p⟩]
 unfold NS.lead NS.jO
 simp only [d,x,if_true,e]
def NS.Ga (s:NS):NS:=if s.member/\s.now - s.n.last≥4 then
 let s:=s.aZ fun n=>{ n with last:=s.now }
 let id:=s.n.hold.mV s.now s.known.az
 let s:=s.aZ fun n=>{ n with hold:=n.hold.ask s.now s.known.az }
 if 0 < id then
  let s:=s.aZ fun n=>{ n with asked:=fun x=>if x=id - 4 then none else if x=id then some s.now else n.asked x }
  let m:aO:={ aO.zero with kind:=3,id:=id,asked:=s.now }
  let s:=s.others m
  s.bJ.kG s.n.self m
 else s
 else s
theorem NS.LV (e:s.conf.nodes=1) (f:s.n.self=0):s.Ga=s.asks:=by
 unfold NS.Ga NS.asks
 by_cases d:s.member/\s.now - s.n.last≥4
 ·rw [if_pos d,if_pos d]
  simp only
  split
  ·rw [NS.xP (by exact e) (by exact f)]
  ·rfl
 ·rw [if_neg d,if_neg d]
theorem NS.zJ (d:s.conf.nodes=1) (f:s.n.self=0) (g:s.asks.n.self=0) (h:Lone s.asks 0):s.tick=s.asks.jO.advance:=by
 rw [<- NS.IC g h,<- NS.LV d f]
 have e:s.tick=(s.others { aO.zero with kind:=1,n:=s.n.kept.log.qs.length,bD:=s.n.kept.log.k,bL:=s.bL + 1,hop:=s.gD,open_:=s.n.kept.acc.bN.has }).Ga.lead.advance:=by
  unfold NS.tick NS.Ga
  rfl
 rw [e,NS.xP d f]
end
theorem Gb {s:NS} (d:Int) (h:(decide (s.known.az=d) && decide (s.known.nodes=[0]) && s.there 0 && !s.isOpen && decide (s.bL=-1) && (s.gD || decide (s.now - s.n.well < 60)) && decide (s.kK=-1) && s.leads)=true):Lone s 0:=by
 simp only [kE,rJ,Bool.or_eq_true,Bool.not_eq_true'] at h
 obtain ⟨⟨⟨⟨⟨⟨⟨e,f⟩,g⟩,h4⟩,h5⟩,h6⟩,h7⟩,h8⟩:=h
 exact ⟨⟨d,by rw [<- e];show s.known=⟨s.known.az,[0]⟩;rw [<- f]⟩,g,h4,h5,h6,h7,h8⟩
abbrev xQ:dZ:=⟨1,1,5⟩
def qd1:ByteArray:={ data:=#[97] }
def q1:aG:=⟨0,1,1,1,0,qd1⟩
def T0:WV:=WV.new xQ
def x0:jc:=jc.new 0 1
def x1:jc:=(({ x0 with seq:=1 }:jc).Cr 0 q1 0).1
def T1:WV:=(({ T0 with au:=T0.au.set 0 x1 }:WV).asked q1).qL 0 0 q1
def n0:dM:=((WV.made xQ).ns 0 (gH 0 xQ)).start.n
def y1:jy:=T1.bO[0]?.getD ⟨0,0,[]⟩
def m1:aO:=wY y1.bs
def N1:NS:=({ T1 with bO:=T1.bO.eraseIdx 0 }:WV).ns 0 n0
def S1:NS:=N1.onRequest m1
def T2:WV:={ T1 with nodes:=T1.nodes.set 0 S1.n,bO:=S1.bO,bY:=S1.bY,aA:=S1.aA }
def N2:NS:=({ T2 with clocks:=T2.clocks.set 0 (T2.clocks[0]?.getD 0 + 1) }:WV).ns 0 S1.n
def S2:NS:=N2.tick
def T3:WV:=(T2.tick 0).1
def T4:WV:=(T3.tick 1).1
def y2:jy:=T4.bO[0]?.getD ⟨0,0,[]⟩
def m2:aO:=wY y2.bs
def x2:jc:=x1.told m2.q.seq m2.known
def T5:WV:={ T4 with bO:=T4.bO.eraseIdx 0,au:=T4.au.set 0 { x2 with p:=none },past:=T4.past.answered m2.q.client,acts:=T4.acts ++ [⟨m2.q.client,m2.q.seq,true,q1,m2.rep,none,0,m2.at_⟩] }
def N3:NS:=({ T5 with clocks:=T5.clocks.set 0 (T5.clocks[0]?.getD 0 + 1) }:WV).ns 0 S2.n
def S3:NS:=N3.tick
def T6:WV:=(T5.tick 0).1
def T7:WV:=(T6.tick 1).1
theorem QE:Lone N2.asks 0:=Gb 1 iV
theorem QF:Lone N3.asks 0:=Gb 1 iV
theorem Da:T1.bO.length=1/\y1.BX=0/\y1.gJ=1/\m1.kind=9/\m1.q.q.may=true:=iV
theorem EJ:T2.bO.length=1/\S1.now=0/\S1.n.up=true/\S2.n.up=true/\S2.now=1:=iV
theorem uP:T4.bO.length=1/\y2.BX=1/\m2.kind=10/\m2.ans=true/\x2.is m2.q.seq=true/\T4.past.Eg m2.q.client m2.q.seq m2.at_=0/\T4.past.n=1:=iV
theorem zK:T7.acts.length=2/\(T7.acts[1]?.map fun a=>(a.ans,a.r.code,a.at_))=some (true,1,1)/\S3.n.kept.log.qs.length=1/\S3.n.up=true/\1<=T7.aA.length:=iV
theorem Tg (d:Int) (kn:List Int) (e:Option Addr) (f g:Nat) (h i j k l:Int) (m:ByteArray) (n:Bool):bg (bg (iX 9 { aO.zero with kind:=9,known:=⟨d,kn⟩ } (.slice e f g) aQ aQ aQ aQ) 19 [zi h,zi i,zi j,zi k,zi l,.string m]) 25 [.bool n]=iX 9 ({ aO.zero with kind:=9,known:=⟨d,kn⟩,q:=⟨h,i,j,k,l,m⟩,hop:=n }:aO) (.slice e f g) aQ aQ aQ aQ:=ay
section
theorem Ti (A:Option Addr) (n c:Nat) (O:List Int) (hl:O.length=n) (hn:n<=100000) (S8:iq O) (J:Int) (kn:List Int) (r1 r2:Rd) (f g i l m:Int) (p:ByteArray) (s:Bool) (r3 r4:Rd) (h1:Rd.gu ⟨O,false⟩=(9,r1)) (h2:r1.chain=(⟨J,kn⟩,r2)) (h3:r2.req=(⟨f,g,i,l,m,p⟩,r3)) (h4:r3.yes=(s,r4)) (w:World) (h:ah w A (eB O)) :
 aS 72 #[.slice A n c] w (iY w ({ aO.zero with kind:=9,known:=⟨J,kn⟩,q:=⟨f,g,i,l,m,p⟩,hop:=s }:aO)):=by
 have o0:=(Old.refl' w).ag (.cells zM 110)
 have X0:=aa (Bk.new w 110 zM)
 have cN:=aa (Fj A n c O hl af S8 _ (h.old o0))
 have L0:(⟨O,false⟩:Rd).b.length<=1000000:=by show O.length<=_;omega
 have L1:=aa (ic (Rd.nQ h1) L0)
 have L2:=aa (ic (Rd.zC h2) L1.o)
 have L3:=aa (ic (Rd.FW h3) L2.o)
 have H3:=aa h3
 have L4:=aa (ic (Rd.FV h4) L3.o)
 have H4:=aa h4
 have H1:=aa h1
 have H2:=aa h2
 have HL0:=aa L0
 have HO:=aa o0
 clear h S8 o0 h1 h2 hl L0
 go_enter func72,ntmps72
 go_wp2_with
  (first
   | ((with_reducible refine Go.Great.wpList_allocTo rfl _ rfl _ (.cells zM 110) (kM rfl) ?_)))
 refine cN.o.mono ?_
 rintro e w1 ⟨R,rfl,hgr,hrd,o1⟩
 go_wp2_with fail
 refine (Ho R ⟨O,false⟩ r1 9 H1.o HL0.o w1 hrd).mono ?_
 rintro e w2 ⟨rfl,u,f2⟩
 go_wp2_with fail
 refine (Qr R r1 r2 ⟨J,kn⟩ H2.o L1.o u.yw w2 u).mono ?_
 rintro e y ⟨T,U,rfl,V,W,f3⟩
 obtain ⟨X,K⟩:=aR (kn.length)
 have Sa:=aa K
 simp only [K]
 obtain ⟨d,r⟩:∃ x,x=iX 9 { aO.zero with kind:=9,known:=⟨J,kn⟩ } (.slice T X U) aQ aQ aQ aQ:=⟨_,rfl⟩
 have Em:=aa (show prog.built 110 [(0,zi 9),(1,.agg #[zi J,.slice T X U])]=some d from by rw [r];exact CP 9 J T X U kn)
 have z:=aa (show d.size=34 by rw [r];rfl)
 have Y:d.all (·.oneCell')=true:=by rw [r];exact pg ..
 have Z:(prog.info? 110).map (·.size)=some d.size:=by rw [z.o];exact sU
 have LW:zM.size=d.size:=by rw [z.o];rfl
 have m0:d[0]?=some (zi 9):=by rw [r];rfl
 obtain ⟨L,hgm⟩:=aR (y.heap.size)
 have Uh:=aa hgm
 obtain ⟨w4,hw4⟩:∃ x,x=y.alloc (.cells d 110):=⟨_,rfl⟩
 obtain ⟨R0,hR0⟩:∃ x:List Ik,x=[⟨3,1,.slice T X U,X,kn.map (Value.int .i64)⟩]:=⟨_,rfl⟩
 have hs1:=HO.o.size
 have hs3:w1.heap.size<=y.heap.size:=ic f2.size f3.size
 have LX:=o1.size
 simp only [jW] at hs1 hgr LX
 have M:Fr (fun k=>k=R) w1 y:=f2.trans f3
 have B:=aa (show RM w w4 L R zM d r2 R0 by
  have hX:=(X0.o.old o1).fr M af
  have ho:Old w y:=((Fr.aj (S:=fun _=>False) (HO.o.trans' o1)).trans' M (fun x hx e=>af)).old
  rw [hw4,<- hgm]
  refine ⟨ho.ag _,hX.alloc _,Bk.new y 110 _,W.old ((Old.refl' y).ag _),fun x hx=>?_,af,af⟩
  rw [hR0] at hx
  obtain rfl:=List.mem_singleton.1 hx
  refine ⟨bF (dX (K▸V) (ic ?_ f2.size)) ((Old.refl' y).ag _),show (3:TypeId)≠284 by decide,show (3:TypeId)≠110 by decide⟩
  omega)
 have HM0:=aa r
 have HR0:=aa hR0
 have hA3:=World.alloc_heap_new y (.cells zM 110)
 have Xd:=xB y zM d 110
 clear V W f3 f2 u o1 hrd M hs1 hs3 LX hgr X0 cN r hR0 hgm
 go_upto_region 3 with
  (first
   | ((with_reducible refine Go.wpList_buildTo rfl 110 _ rfl _ rfl d ?_ ?_);(· exact ((congrArg (Tryz.prog.built 110) (show _=[(0,.int .i64 9),(1,.agg #[.int .i64 J,.slice T X U])] by kernel_rfl)).trans Em.o)))
   | ((with_reducible refine Go.Great.wpList_allocTo rfl _ rfl _ (.cells zM 110) (kM rfl) ?_))
   | ((with_reducible refine Go.wpList_store_rowTo rfl 110 (.tmp 4) (.tmp 14) rfl rfl y.heap.size d ?_ ?_ 110 zM hA3 Z LW Y ?_);(· rfl);(· rfl)))
 rw [Xd,<- hw4]
 simp only [Uh.o]
 clear hw4 hA3 Xd Y K Z LW
 have x0:=(B.o.ms.cell 0).trans m0
 have xl:=B.o.ms.lt
 clear m0
 go_wp2_with fail
 clear x0 xl
 refine (Qs R r2 r3 ⟨f,g,i,l,m,p⟩ H3.o L2.o B.o.rd.yw w4 B.o.rd).mono ?_
 rintro e w5 ⟨rfl,hr,M⟩
 have Xe:=aa (B.o.read hr M)
 clear hr M
 obtain ⟨w6,LY⟩:∃ x,x=setAt (w5) L 19 [zi f,zi g,zi i,zi l,zi m,.string p]:=⟨_,rfl⟩
 have Xf:=aa (by rw [LY];exact ((Xe.o).setAt [zi f,zi g,zi i,zi l,zi m,.string p] 19):RM w w6 L R zM (bg (d) 19 [zi f,zi g,zi i,zi l,zi m,.string p]) r3 (R0))
 have C:=aa ((Xe.o.ms))
 have D:=aa (show ∀ v∈([zi f,zi g,zi i,zi l,zi m,.string p]:List Value),v.oneCell'=true by simp [Value.oneCell'])
 have E:=aa (show 19 + ([zi f,zi g,zi i,zi l,zi m,.string p]:List Value).length<=(d).size by have:=z.o;simp only [aT,iR,jV];omega)
 go_wp2_with
  (first
   | ((with_reducible refine aL 36 (.tmp 103) (.tmp 102) L 19 [.int .i64 f,.int .i64 g,.int .i64 i,.int .i64 l,.int .i64 m,.string p] ?_ ?_ 110 _ C.o ?_ E.o D.o ?_);(· rfl);(· rfl);(· exact Qz);rw [<- LY];clear LY C E D))
 refine (P9 R r3 s r4 H4.o L3.o w6 Xf.o.rd).mono ?_
 rintro e w7 ⟨rfl,hr,M⟩
 have Xg:=aa (Xf.o.read hr M)
 clear hr M
 obtain ⟨w8,hw8⟩:∃ x,x=setAt (w7) L 25 [.bool s]:=⟨_,rfl⟩
 have F:=aa (by rw [hw8];exact ((Xg.o).setAt [.bool s] 25):RM w w8 L R zM (bg (bg (d) 19 [zi f,zi g,zi i,zi l,zi m,.string p]) 25 [.bool s]) r4 (R0))
 have C:=aa ((Xg.o.ms))
 have D:=aa (show ∀ v∈([.bool s]:List Value),v.oneCell'=true by simp [Value.oneCell'])
 have E:=aa (show 25 + ([.bool s]:List Value).length<=(bg (d) 19 [zi f,zi g,zi i,zi l,zi m,.string p]).size by have:=z.o;simp only [aT,iR,jV];omega)
 obtain ⟨M9,N⟩:∃ x,x=bg (bg (d) 19 [zi f,zi g,zi i,zi l,zi m,.string p]) 25 [.bool s]:=⟨_,rfl⟩
 rw [<- N] at F
 have hmc:M9=iX 9 ({ aO.zero with kind:=9,known:=⟨J,kn⟩,q:=⟨f,g,i,l,m,p⟩,hop:=s }:aO) (.slice T X U) aQ aQ aQ aQ:=by
  rw [N,HM0.o]
  exact Tg ..
 have G:M9.size=34:=by rw [N];simp only [aT];exact z.o
 have hz:∀ (j:Nat) v,M9[j]?=some v->w8.cell? ⟨L,0 + j,none⟩=some v:=fun j v hv=>by rw [mE,F.o.ms.cell j];exact hv
 have h1c:∀ v∈M9.toList,v.oneCell'=true:=U9
 have H:=F.o.rs
 have hle:w.heap.size < w8.heap.size:=H.lt
 obtain ⟨wf,I⟩:∃ x,x=setAt w8 w.heap.size 0 M9.toList:=⟨_,rfl⟩
 have Xh:Bk wf w.heap.size 110 M9:=by
  have:=H.setAt M9.toList 0
  rw [pX _ _ (by rw [vK];simpa using G.symm)] at this
  rw [I]
  simpa using this
 have Xi:Fr (fun k=>k=w.heap.size) w8 wf:=by rw [I];exact Fr.setAt (S:=fun k=>k=w.heap.size) (.inr rfl) _ _ _ (Fr.refl _ _)
 have hof:Old w wf:=by rw [I];exact ji F.o.o (dN _) _ _
 have HF:=aa (show iY w ({ aO.zero with kind:=9,known:=⟨J,kn⟩,q:=⟨f,g,i,l,m,p⟩,hop:=s }:aO) (.returned (.agg M9)) wf from by
  have hk:∀ x∈(R0),wf.ownsRow w.heap.size x.e x.s x.v x.n x.xs:=fun x hx=>by
   obtain ⟨k1,k2,k3⟩:=F.o.rows x hx
   exact dh k1 Xi (fun k hk e=>aK k1 H k3 (e▸hk))
  rw [HR0.o] at hk
  have hn:CO w wf aQ []:=⟨none,0,rfl,World.ownsRow_nil _ _ _ _⟩
  refine ⟨.slice T X U,aQ,aQ,aQ,aQ,by rw [hmc],hof,⟨T,U,by rw [Sa.o],by have:=hk _ (List.mem_cons_self ..);rw [Sa.o];exact this⟩,hn,hn,hn,⟨none,0,rfl,World.ownsRow_nil _ _ _ _⟩⟩)
 have hi9:(prog.info? 110).map (·.size)=some M9.size:=by rw [G];exact sU
 have hi9':(prog.info? 110).map (·.size)=some M9.toList.length:=by rw [Array.length_toList,G];exact sU
 have IY:0 + M9.toList.length<=zM.size:=by rw [Array.length_toList,G];decide
 have HZ9:=aa hz
 have S7:=aa hi9
 have Tj:=aa hi9'
 have IB:=aa IY
 have H1C:=aa h1c
 have TU:=aa H
 have HBF:=aa Xh
 clear N hmc hz hi9 hi9' IY h1c H Xh G Xi hof
 go_upto_region 48 with
  (first
   | ((with_reducible refine aL 4 (.tmp 106) (.tmp 105) L 25 [.bool s] ?_ ?_ 110 _ C.o ?_ E.o D.o ?_);(· rfl);(· rfl);(· exact SF);rw [<- hw8];clear hw8 C E D))
 apply wp_region_lit
 refine bZ 110 (.tmp 4) L 0 M9 _ ?_ HZ9.o underlying110 ?_ S7.o ?_
 ·rfl
 ·rfl
 refine kR 110 (.tmp 2) (.tmp 154) w.heap.size 0 M9.toList ?_ ?_ 110 _ TU.o Tj.o IB.o H1C.o ?_
 ·rfl
 ·show Value.agg M9=.agg M9.toList.toArray
  simp
 rw [<- I]
 clear I
 simp only [aC,ax,fM,fJ]
 go_wp2_with fail
 have hload:=iK (P:=prog) wf w.heap.size 0 110 M9 _ (fun j v hv=>by rw [mE,HBF.o.cell j];exact hv) underlying110 rfl S7.o
 refine bodyPost_ret (v:=.agg M9) ?_ rfl HF.o
 unfold results
 rw [results72]
 simp [Sem.run_bind,Sem.run_pure,Result.andThen_ok,asAddr,hload]
end
theorem LZ (d:Int) (kn:List Int) (e:Option Addr) (f g:Nat) (h i j k l:Int) (m:ByteArray) (n p r:Int) (s:List Int):bg (bg (bg (bg (bg (bg (iX 10 { aO.zero with kind:=10,known:=⟨d,kn⟩ } (.slice e f g) aQ aQ aQ aQ) 19 [zi h,zi i,zi j,zi k,zi l,.string m]) 27 [.bool true]) 32 [zi n]) 28 [zi p]) 29 [zi r]) 30 [.string (iA s)]=iX 10 ({ aO.zero with kind:=10,known:=⟨d,kn⟩,q:=⟨h,i,j,k,l,m⟩,ans:=true,at_:=n,rep:=⟨p,r,iA s,[]⟩ }:aO) (.slice e f g) aQ aQ aQ aQ:=ay
section
theorem Ma (A:Option Addr) (n c:Nat) (bs:List Int) (hl:bs.length=n) (hn:n<=100000) (S8:iq bs) (W:Int) (kn:List Int) (r1 r2:Rd) (m p r s u:Int) (y:ByteArray) (D F H:Int) (K:List Int) (r3 r4 r5 r6 r7 r8 r9:Rd) (h1:Rd.gu ⟨bs,false⟩=(10,r1)) (h2:r1.chain=(⟨W,kn⟩,r2)) (h3:r2.req=(⟨m,p,r,s,u,y⟩,r3)) (h4:r3.yes=(true,r4)) (h5:r4.gu=(D,r5)) (h6:r5.gu=(F,r6)) (h7:r6.gu=(H,r7)) (h8:r7.gu=(0,r8)) (h9:r8.text 64=(K,r9)) (w:World) (h:ah w A (eB bs)) :
 aS 72 #[.slice A n c] w (iY w ({ aO.zero with kind:=10,known:=⟨W,kn⟩,q:=⟨m,p,r,s,u,y⟩,ans:=true,at_:=D,rep:=⟨F,H,iA K,[]⟩ }:aO)):=by
 have o0:=(Old.refl' w).ag (.cells zM 110)
 have X0:=aa (Bk.new w 110 zM)
 have cN:=aa (Fj A n c bs hl af S8 _ (h.old o0))
 have L0:(⟨bs,false⟩:Rd).b.length<=1000000:=by show bs.length<=_;omega
 have L1:=aa (ic (Rd.nQ h1) L0)
 have L2:=aa (ic (Rd.zC h2) L1.o)
 have L3:=aa (ic (Rd.FW h3) L2.o)
 have H3:=aa h3
 have L4:=aa (ic (Rd.FV h4) L3.o)
 have H4:=aa h4
 have L5:=aa (ic (Rd.nQ h5) L4.o)
 have H5:=aa h5
 have L6:=aa (ic (Rd.nQ h6) L5.o)
 have H6:=aa h6
 have L7:=aa (ic (Rd.nQ h7) L6.o)
 have H7:=aa h7
 have L8:=aa (ic (Rd.nQ h8) L7.o)
 have H8:=aa h8
 have L9:=aa (ic (Rd.Bf h9) L8.o)
 have H9:=aa h9
 have H1:=aa h1
 have H2:=aa h2
 have HL0:=aa L0
 have HO:=aa o0
 clear h S8 o0 h1 h2 hl L0
 go_enter func72,ntmps72
 go_wp2_with
  (first
   | ((with_reducible refine Go.Great.wpList_allocTo rfl _ rfl _ (.cells zM 110) (kM rfl) ?_)))
 refine cN.o.mono ?_
 rintro e w1 ⟨G,rfl,hgr,hrd,o1⟩
 go_wp2_with fail
 refine (Ho G ⟨bs,false⟩ r1 10 H1.o HL0.o w1 hrd).mono ?_
 rintro e w2 ⟨rfl,L,f2⟩
 go_wp2_with fail
 refine (Qr G r1 r2 ⟨W,kn⟩ H2.o L1.o L.yw w2 L).mono ?_
 rintro e M ⟨K1,kq,rfl,hown,Xj,f3⟩
 obtain ⟨km,X⟩:=aR (kn.length)
 have Sa:=aa X
 simp only [X]
 obtain ⟨g,I⟩:∃ x,x=iX 10 { aO.zero with kind:=10,known:=⟨W,kn⟩ } (.slice K1 km kq) aQ aQ aQ aQ:=⟨_,rfl⟩
 have Em:=aa (show prog.built 110 [(0,zi 10),(1,.agg #[zi W,.slice K1 km kq])]=some g from by rw [I];exact CP 10 W K1 km kq kn)
 have z:=aa (show g.size=34 by rw [I];rfl)
 have Xk:g.all (·.oneCell')=true:=by rw [I];exact pg ..
 have Xl:(prog.info? 110).map (·.size)=some g.size:=by rw [z.o];exact sU
 have LW:zM.size=g.size:=by rw [z.o];rfl
 have m0:g[0]?=some (zi 10):=by rw [I];rfl
 obtain ⟨B,hgm⟩:=aR (M.heap.size)
 have Uh:=aa hgm
 obtain ⟨w4,hw4⟩:∃ x,x=M.alloc (.cells g 110):=⟨_,rfl⟩
 obtain ⟨R0,hR0⟩:∃ x:List Ik,x=[⟨3,1,.slice K1 km kq,km,kn.map (Value.int .i64)⟩]:=⟨_,rfl⟩
 have hs1:=HO.o.size
 have hs3:w1.heap.size<=M.heap.size:=ic f2.size f3.size
 have LX:=o1.size
 simp only [jW] at hs1 hgr LX
 have f:Fr (fun k=>k=G) w1 M:=f2.trans f3
 have N:=aa (show RM w w4 B G zM g r2 R0 by
  have hX:=(X0.o.old o1).fr f af
  have ho:Old w M:=((Fr.aj (S:=fun _=>False) (HO.o.trans' o1)).trans' f (fun x hx e=>af)).old
  rw [hw4,<- hgm]
  refine ⟨ho.ag _,hX.alloc _,Bk.new M 110 _,Xj.old ((Old.refl' M).ag _),fun x hx=>?_,af,af⟩
  rw [hR0] at hx
  obtain rfl:=List.mem_singleton.1 hx
  refine ⟨bF (dX (X▸hown) (ic ?_ f2.size)) ((Old.refl' M).ag _),show (3:TypeId)≠284 by decide,show (3:TypeId)≠110 by decide⟩
  omega)
 have HM0:=aa I
 have HR0:=aa hR0
 have hA3:=World.alloc_heap_new M (.cells zM 110)
 have Xd:=xB M zM g 110
 clear hown Xj f3 f2 L o1 hrd f hs1 hs3 LX hgr X0 cN I hR0 hgm
 go_upto_region 3 with
  (first
   | ((with_reducible refine Go.wpList_buildTo rfl 110 _ rfl _ rfl g ?_ ?_);(· exact ((congrArg (Tryz.prog.built 110) (show _=[(0,.int .i64 10),(1,.agg #[.int .i64 W,.slice K1 km kq])] by kernel_rfl)).trans Em.o)))
   | ((with_reducible refine Go.Great.wpList_allocTo rfl _ rfl _ (.cells zM 110) (kM rfl) ?_))
   | ((with_reducible refine Go.wpList_store_rowTo rfl 110 (.tmp 4) (.tmp 14) rfl rfl M.heap.size g ?_ ?_ 110 zM hA3 Xl LW Xk ?_);(· rfl);(· rfl)))
 rw [Xd,<- hw4]
 simp only [Uh.o]
 clear hw4 hA3 Xd Xk X Xl LW
 have x0:=(N.o.ms.cell 0).trans m0
 have xl:=N.o.ms.lt
 clear m0
 go_wp2_with fail
 clear x0 xl
 refine (Qs G r2 r3 ⟨m,p,r,s,u,y⟩ H3.o L2.o N.o.rd.yw w4 N.o.rd).mono ?_
 rintro e w5 ⟨rfl,C,f⟩
 have Xe:=aa (N.o.read C f)
 clear C f
 obtain ⟨w6,LY⟩:∃ x,x=setAt (w5) B 19 [zi m,zi p,zi r,zi s,zi u,.string y]:=⟨_,rfl⟩
 have Xf:=aa (by rw [LY];exact ((Xe.o).setAt [zi m,zi p,zi r,zi s,zi u,.string y] 19):RM w w6 B G zM (bg (g) 19 [zi m,zi p,zi r,zi s,zi u,.string y]) r3 (R0))
 have d:=aa ((Xe.o.ms))
 have i:=aa (show ∀ v∈([zi m,zi p,zi r,zi s,zi u,.string y]:List Value),v.oneCell'=true by simp [Value.oneCell'])
 have l:=aa (show 19 + ([zi m,zi p,zi r,zi s,zi u,.string y]:List Value).length<=(g).size by have:=z.o;simp only [aT,iR,jV];omega)
 go_wp2_with
  (first
   | ((with_reducible refine aL 36 (.tmp 111) (.tmp 110) B 19 [.int .i64 m,.int .i64 p,.int .i64 r,.int .i64 s,.int .i64 u,.string y] ?_ ?_ 110 _ d.o ?_ l.o i.o ?_);(· rfl);(· rfl);(· exact Qz);rw [<- LY];clear LY d l i))
 refine (P9 G r3 true r4 H4.o L3.o w6 Xf.o.rd).mono ?_
 rintro e w7 ⟨rfl,C,f⟩
 have Xg:=aa (Xf.o.read C f)
 clear C f
 obtain ⟨w8,hw8⟩:∃ x,x=setAt (w7) B 27 [.bool true]:=⟨_,rfl⟩
 have Y:=aa (by rw [hw8];exact ((Xg.o).setAt [.bool true] 27):RM w w8 B G zM (bg (bg (g) 19 [zi m,zi p,zi r,zi s,zi u,.string y]) 27 [.bool true]) r4 (R0))
 have d:=aa ((Xg.o.ms))
 have i:=aa (show ∀ v∈([.bool true]:List Value),v.oneCell'=true by simp [Value.oneCell'])
 have l:=aa (show 27 + ([.bool true]:List Value).length<=(bg (g) 19 [zi m,zi p,zi r,zi s,zi u,.string y]).size by have:=z.o;simp only [aT,iR,jV];omega)
 have x27:w8.cell? ⟨B,27,none⟩=some (.bool true):=(Y.o.ms.cell 27).trans (by have:=p8 [.bool true] (bg (g) 19 [zi m,zi p,zi r,zi s,zi u,.string y]) 27 0 (by have:=z.o;simp only [aT,iR,jV];omega) (by simp);simpa using this)
 have xl:=Y.o.ms.lt
 go_wp2_with
  (first
   | ((with_reducible refine aL 4 (.tmp 114) (.tmp 113) B 27 [.bool true] ?_ ?_ 110 _ d.o ?_ l.o i.o ?_);(· rfl);(· rfl);(· exact SF);rw [<- hw8];clear hw8 d l i))
 clear x27 xl
 refine (Ho G r4  r5 D H5.o L4.o w8 Y.o.rd).mono ?_
 rintro e w9 ⟨rfl,C,f⟩
 have RM9:=aa (Y.o.read C f)
 clear C f
 go_wp2_with fail
 refine (Ho G r5  r6 F H6.o L5.o w9 RM9.o.rd).mono ?_
 rintro e qF ⟨rfl,C,f⟩
 have Xm:=aa (RM9.o.read C f)
 clear C f
 go_wp2_with fail
 refine (Ho G r6  r7 H H7.o L6.o qF Xm.o.rd).mono ?_
 rintro e QG ⟨rfl,C,f⟩
 have Xn:=aa (Xm.o.read C f)
 clear C f
 obtain ⟨G4,O⟩:∃ x,x=setAt (setAt (setAt (QG) B 32 [zi D]) B 28 [zi F]) B 29 [zi H]:=⟨_,rfl⟩
 have Xo:=aa (by rw [O];exact ((((((Xn.o).setAt [zi D] 32)).setAt [zi F] 28)).setAt [zi H] 29):RM w G4 B G zM (bg (bg (bg (bg (bg (g) 19 [zi m,zi p,zi r,zi s,zi u,.string y]) 27 [.bool true]) 32 [zi D]) 28 [zi F]) 29 [zi H]) r7 (R0))
 have d:=aa ((Xn.o.ms))
 have i:=aa (show ∀ v∈([zi D]:List Value),v.oneCell'=true by simp [Value.oneCell'])
 have l:=aa (show 32 + ([zi D]:List Value).length<=(bg (bg (g) 19 [zi m,zi p,zi r,zi s,zi u,.string y]) 27 [.bool true]).size by have:=z.o;simp only [aT,iR,jV];omega)
 have hB1:=aa ((d.o.setAt [zi D] 32))
 have Xp:=aa (show ∀ v∈([zi F]:List Value),v.oneCell'=true by simp [Value.oneCell'])
 have hS1:=aa (show 28 + ([zi F]:List Value).length<=(bg (bg (bg (g) 19 [zi m,zi p,zi r,zi s,zi u,.string y]) 27 [.bool true]) 32 [zi D]).size by have:=z.o;simp only [aT,iR,jV];omega)
 have hB2:=aa ((hB1.o.setAt [zi F] 28))
 have hO2:=aa (show ∀ v∈([zi H]:List Value),v.oneCell'=true by simp [Value.oneCell'])
 have hS2:=aa (show 29 + ([zi H]:List Value).length<=(bg (bg (bg (bg (g) 19 [zi m,zi p,zi r,zi s,zi u,.string y]) 27 [.bool true]) 32 [zi D]) 28 [zi F]).size by have:=z.o;simp only [aT,iR,jV];omega)
 go_wp2_with
  (first
   | ((with_reducible refine aL 3 (.tmp 123) (.tmp 118) B 32 [.int .i64 D] ?_ ?_ 110 _ d.o ?_ l.o i.o ?_);(· rfl);(· rfl);(· exact Il))
   | ((with_reducible refine aL 3 (.tmp 125) (.tmp 120) B 28 [.int .i64 F] ?_ ?_ 110 _ hB1.o ?_ hS1.o Xp.o ?_);(· rfl);(· rfl);(· exact Il))
   | ((with_reducible refine aL 3 (.tmp 127) (.tmp 122) B 29 [.int .i64 H] ?_ ?_ 110 _ hB2.o ?_ hS2.o hO2.o ?_);(· rfl);(· rfl);(· exact Il);rw [<- O];clear O d l i hB1 hS1 Xp hB2 hS2 hO2))
 refine (Ho G r7  r8 0 H8.o L7.o G4 Xo.o.rd).mono ?_
 rintro e Xq ⟨rfl,C,f⟩
 have Xr:=aa (Xo.o.read C f)
 clear C f
 go_wp2_with fail
 refine (Ai G r8 64 K r9 H9.o af L8.o Xq Xr.o.rd).mono ?_
 rintro e Mb ⟨rfl,C,f⟩
 have Xt:=aa (Xr.o.read C f)
 clear C f
 obtain ⟨J,R⟩:∃ x,x=setAt (Mb) B 30 [.string (iA K)]:=⟨_,rfl⟩
 have E:=aa (by rw [R];exact ((Xt.o).setAt [.string (iA K)] 30):RM w J B G zM (bg (bg (bg (bg (bg (bg (g) 19 [zi m,zi p,zi r,zi s,zi u,.string y]) 27 [.bool true]) 32 [zi D]) 28 [zi F]) 29 [zi H]) 30 [.string (iA K)]) r9 (R0))
 have d:=aa ((Xt.o.ms))
 have i:=aa (show ∀ v∈([.string (iA K)]:List Value),v.oneCell'=true by simp [Value.oneCell'])
 have l:=aa (show 30 + ([.string (iA K)]:List Value).length<=(bg (bg (bg (bg (bg (g) 19 [zi m,zi p,zi r,zi s,zi u,.string y]) 27 [.bool true]) 32 [zi D]) 28 [zi F]) 29 [zi H]).size by have:=z.o;simp only [aT,iR,jV];omega)
 obtain ⟨M9,Z⟩:∃ x,x=bg (bg (bg (bg (bg (bg (g) 19 [zi m,zi p,zi r,zi s,zi u,.string y]) 27 [.bool true]) 32 [zi D]) 28 [zi F]) 29 [zi H]) 30 [.string (iA K)]:=⟨_,rfl⟩
 rw [<- Z] at E
 have hmc:M9=iX 10 ({ aO.zero with kind:=10,known:=⟨W,kn⟩,q:=⟨m,p,r,s,u,y⟩,ans:=true,at_:=D,rep:=⟨F,H,iA K,[]⟩ }:aO) (.slice K1 km kq) aQ aQ aQ aQ:=by
  rw [Z,HM0.o]
  exact LZ ..
 have T:M9.size=34:=by rw [Z];simp only [aT];exact z.o
 have hz:∀ (j:Nat) v,M9[j]?=some v->J.cell? ⟨B,0 + j,none⟩=some v:=fun j v hv=>by rw [mE,E.o.ms.cell j];exact hv
 have h1c:∀ v∈M9.toList,v.oneCell'=true:=U9
 have U:=E.o.rs
 have hle:w.heap.size < J.heap.size:=U.lt
 obtain ⟨wf,V⟩:∃ x,x=setAt J w.heap.size 0 M9.toList:=⟨_,rfl⟩
 have Xh:Bk wf w.heap.size 110 M9:=by
  have:=U.setAt M9.toList 0
  rw [pX _ _ (by rw [vK];simpa using T.symm)] at this
  rw [V]
  simpa using this
 have Xi:Fr (fun k=>k=w.heap.size) J wf:=by rw [V];exact Fr.setAt (S:=fun k=>k=w.heap.size) (.inr rfl) _ _ _ (Fr.refl _ _)
 have hof:Old w wf:=by rw [V];exact ji E.o.o (dN _) _ _
 have HF:=aa (show iY w ({ aO.zero with kind:=10,known:=⟨W,kn⟩,q:=⟨m,p,r,s,u,y⟩,ans:=true,at_:=D,rep:=⟨F,H,iA K,[]⟩ }:aO) (.returned (.agg M9)) wf from by
  have hk:∀ x∈(R0),wf.ownsRow w.heap.size x.e x.s x.v x.n x.xs:=fun x hx=>by
   obtain ⟨k1,k2,k3⟩:=E.o.rows x hx
   exact dh k1 Xi (fun k hk e=>aK k1 U k3 (e▸hk))
  rw [HR0.o] at hk
  have hn:CO w wf aQ []:=⟨none,0,rfl,World.ownsRow_nil _ _ _ _⟩
  refine ⟨.slice K1 km kq,aQ,aQ,aQ,aQ,by rw [hmc],hof,⟨K1,kq,by rw [Sa.o],by have:=hk _ (List.mem_cons_self ..);rw [Sa.o];exact this⟩,hn,hn,hn,⟨none,0,rfl,World.ownsRow_nil _ _ _ _⟩⟩)
 have hi9:(prog.info? 110).map (·.size)=some M9.size:=by rw [T];exact sU
 have hi9':(prog.info? 110).map (·.size)=some M9.toList.length:=by rw [Array.length_toList,T];exact sU
 have IY:0 + M9.toList.length<=zM.size:=by rw [Array.length_toList,T];decide
 have HZ9:=aa hz
 have S7:=aa hi9
 have Tj:=aa hi9'
 have IB:=aa IY
 have H1C:=aa h1c
 have TU:=aa U
 have HBF:=aa Xh
 clear Z hmc hz hi9 hi9' IY h1c U Xh T Xi hof
 go_wp2_with
  (first
   | ((with_reducible refine aL 9 (.tmp 133) (.tmp 131) B 30 [.string (iA K)] ?_ ?_ 110 _ d.o ?_ l.o i.o ?_);(· rfl);(· rfl);(· exact aaF);rw [<- R];clear R d l i))
 go_loopw [136] (fun iv wr=>iv=zi 0/\wr=J) (fun _ _=>0)
 case atStart=>exact ⟨rfl,rfl⟩
 case round=>
  obtain ⟨rfl,rfl⟩:=hrel
  go_upto_region 48 with fail
  apply wp_region_lit
  refine bZ 110 (.tmp 4) B 0 M9 _ ?_ HZ9.o underlying110 ?_ S7.o ?_
  ·rfl
  ·rfl
  refine kR 110 (.tmp 2) (.tmp 154) w.heap.size 0 M9.toList ?_ ?_ 110 _ TU.o Tj.o IB.o H1C.o ?_
  ·rfl
  ·show Value.agg M9=.agg M9.toList.toArray
   simp
  rw [<- V]
  clear V
  simp only [aC,ax,fM,fJ]
  go_wp2_with fail
  have hload:=iK (P:=prog) wf w.heap.size 0 110 M9 _ (fun j v hv=>by rw [mE,HBF.o.cell j];exact hv) underlying110 rfl S7.o
  refine bodyPost_ret (v:=.agg M9) ?_ rfl HF.o
  unfold results
  rw [results72]
  simp [Sem.run_bind,Sem.run_pure,Result.andThen_ok,asAddr,hload]
end
end Go.Proofs.YthihpfpbiajddaaGreat
