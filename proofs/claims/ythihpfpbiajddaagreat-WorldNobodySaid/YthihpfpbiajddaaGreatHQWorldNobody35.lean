/- Parts of the proof. -/
import Derived.Test.YthihpfpbiajddaaGreatHQWorldNobody34
set_option maxRecDepth 100000
set_option maxHeartbeats 8000000
open Go.Proofs.Tryz
namespace Go.Proofs.YthihpfpbiajddaaGreat
open Go.RowKit
section
variable {w w':World} {own:Nat->Tag} {c i W g k:Nat} {u:bV} {s:NS}
theorem XT (D:Bh w own c i W g u s) :
 aS 92 #[g] w fun e w'=>e=.returned (zi s.now)/\Old w w':=by
 obtain ⟨y,d⟩:=D.ex
 have f:uq w (fun k=>own k=bM c i 3) W g y s.n.self.toNat:=d.at_ 3
 have h0:iB w (fun k=>own k=bM c i 0) (fun k=>own k=aB) W s.conf u s.aA:=d.at_ 0
 obtain ⟨cs,b1,b2,h,j,z⟩:=f.ex
 have n0:=(b1.cell 0).trans h
 have l:=(b1.cell 1).trans j
 have B:=b1.lt
 obtain ⟨-,-,n,-,C⟩:=h0.cells
 have p:aP w u.uY u.dQ:=(d.at_ 12).1
 have r:=(List.getElem?_eq_some_iff.1 D.dQ.1).1
 obtain ⟨b,o,x,E,c1⟩:=p.at_ (k:=i) r
 rw [D.dQ.1] at c1
 have A:=D.dQ.2
 rw [D.self] at l
 simp only [Gu] at c1
 rw [x] at n
 generalize u.dQ.length=m at n r A
 generalize s.now=t at c1 ⊢
 have q1:(i:Int) < (m:Int):=af
 have F:(0:Int)<=(i:Int):=af
 simp only [EZ] at l
 unfold ptr at n0
 clear f h0 d D x b1 b2 h j z p
 go_enter func92,ntmps92
 go_wp2_with fail
 go_region
 all_goals
  go_wp2
  go_ret
  exact ⟨rfl,(Old.refl' w).drew'⟩
def OpQ (own:Nat->Tag) (c i dk:Nat) (recs:List (List Int)) (d':bB) (v:Value) (x y:World):Prop:=∃ B n q vs F',v=.slice B n q/\n=recs.length/\ah y B vs/\Ca y x.heap.size vs recs/\(fA y F' dk d'/\jH x (fun k=>own k=bM c i 4) F')/\Fr (fun k=>own k=bM c i 4) x y
def KpQ (K:oN) (v:Value) (x y:World):Prop:=∃ ga gl JA jq FA FL FJ,v=.agg #[av ga 0,av gl 0,zi K.join.az,.slice JA K.join.nodes.length jq]/\KF x y K ga gl JA jq FA FL FJ
theorem XU:(prog.info? 101).map (·.size)=some 1:=ay
theorem XV:(prog.info? 103).map (·.size)=some 1:=ay
theorem QJ:(prog.info? 104).map (·.size)=some 1:=ay
theorem XX:(prog.info? 102).map (·.size)=some 1:=ay
theorem XY:(prog.info? 113).map (·.size)=some 1:=ay
theorem aa7:(prog.info? 111).map (·.size)=some 170:=ay
theorem aa8:(prog.info? 112).map (·.size)=some 5:=ay
theorem EM {E:Operand->Value} {w:World} {o:Oper} (d:o.op=.makeMap 102 none):(execOp E o).run prog w=.ok (.value (.map (some w.heap.size))) (w.alloc (.map #[] 0)):=by
 unfold execOp
 simp only [d]
 kernel_rfl
def abM:Array Value:=zM ++ zM ++ zM ++ zM ++ zM
theorem De:abM.size=170:=ay
theorem Df:prog.built 111 []=some abM:=ay
theorem Pt:∀ v∈abM.toList,v.oneCell'=true:=by
 have h:abM.all (·.oneCell')=true:=ay
 intro v d
 exact (Array.all_eq_true_iff_forall_mem.1 h) v (by simpa using d)
theorem Pv:∀ a,a < 5->∀ j v,tZ .zero j=some v->abM.toList[a * 34 + j]?=some v:=by
 intro a d j v h
 unfold tZ at h
 split at h
 all_goals first
  | (
   injection h with h
   subst h
   rcases (by omega:a=0∨a=1∨a=2∨a=3∨a=4) with rfl | rfl | rfl | rfl | rfl <;> kernel_rfl)
  | cases h
def WaR (base n:Nat) (self now:Int) (v:Value) (w:World):Prop:=∃ g,v=.tuple #[av g 0,zi 0]/\base<=g/\fH w g 254 n self (lk now n)
instance (base n:Nat) (self now:Int):uT (Fr fun _=>False) (WaR base n self now):=⟨fun _ _ _ ho ⟨g,h1,h2,h3⟩=>⟨g,h1,h2,h3.fr ho id⟩⟩
def WaP (base n:Nat) (self now:Int) (v:Value) (w:World):Prop:=∃ g,v=av g 0/\base<=g/\fH w g 254 n self (lk now n)
instance (base n:Nat) (self now:Int):uT (Fr fun _=>False) (WaP base n self now):=⟨fun _ _ _ ho ⟨g,h1,h2,h3⟩=>⟨g,h1,h2,h3.fr ho id⟩⟩
theorem eP (l:List Value) (_ _:Unit) (cs:Array Value) (o j k:Nat) (d:j=o + k) (e:k < l.length) (f:o + l.length<=cs.size):(bg cs o l)[j]?=l[k]?:=by
 subst d
 exact p8 l cs o k f e
theorem Pw:(prog.info? 100).map (·.size)=some 4:=ay
theorem Px (D:Bh w own c i W g u s) (hc:rz s.conf i) (zS:0<=s.now/\s.now<=1099511627776)
 (hOp:∀ dk W',fA W' (fun k=>own k=bM c i 4) dk s.n.disk->aS 41 #[dk] W' fun e w'=>∃ v,e=.returned v/\Mi v w'/\OpQ own c i dk (jE s.n.disk).1 (jE s.n.disk).2 v W' w')
 (hKp:∀ W' B N nc base vs,N=(jE s.n.disk).1.length->ah W' B vs->Ca W' base vs (jE s.n.disk).1->aS 40 #[.agg #[zi s.conf.nodes,zi s.conf.au,zi s.conf.aI],.slice B N nc] W' fun e w'=>∃ v,e=.returned v/\Mi v w'/\KpQ (sS s.conf.nodes s.conf.aI (jE s.n.disk).1) v W' w') :
 aS 42 #[g] w (fO w own c i W g u s.start):=by
 obtain ⟨dk,hp⟩:=D.ex
 have h3:uq w (fun k=>own k=bM c i 3) W g dk i:=by
  have h:uq w (fun k=>own k=bM c i 3) W g dk s.n.self.toNat:=hp.at_ 3
  rw [D.self] at h
  exact h
 have h0:iB w (fun k=>own k=bM c i 0) (fun k=>own k=aB) W s.conf u s.aA:=hp.at_ 0
 have h4:fA w (fun k=>own k=bM c i 4) dk s.n.disk:=hp.at_ 4
 have ne:∀ a b,a≠b->∀ k,own k=bM c i a->own k=bM c i b->False:=fun a b h k h1 h2=>h (qg c i a b D.i5 (h1.symm.trans h2))
 obtain ⟨U,hnn⟩:=aR (s.conf.nodes)
 obtain ⟨cl,hcl⟩:∃ x:Int,(s.conf.au:Int)=x:=⟨_,rfl⟩
 obtain ⟨qu,ZK⟩:∃ x:Int,(s.conf.aI:Int)=x:=⟨_,rfl⟩
 obtain ⟨now,hnw⟩:=aR (s.now)
 obtain ⟨recs,hrc⟩:=aR ((jE s.n.disk).1)
 obtain ⟨d1,hd1⟩:=aR ((jE s.n.disk).2)
 obtain ⟨K,hK⟩:=aR (sS U qu recs)
 have Ii:=aa (show 1<=U/\U<=5 by rw [<- hnn];exact ⟨hc.n1,hc.n5⟩)
 have Y7:=aa hc
 have V5:=aa (show 0<=now/\now<=1099511627776 by rw [<- hnw];exact zS)
 have HEQ:=aa (And.intro hnn (And.intro hcl (And.intro ZK (And.intro hnw (And.intro hrc (And.intro hd1 hK))))))
 have cN:=aa (XT D)
 rw [hnw] at cN
 have Ui:=aa h3.gF
 have ZL:=aa (fun W' (hW:Fr (fun k=>own k=bM c i 4) w W')=>(show ∃ cs:Array Value,Bk W' g 115 cs/\cs.size=193/\cs[0]?=some (av W 0)/\cs[1]?=some (zi i)/\cs[3]?=some (av dk 0) by
  obtain ⟨cs,b1,b2⟩:=h3.ex
  exact ⟨cs,b1.fr hW (fun e=>ne 3 4 af g h3.gF e),b2⟩))
 have Wy:=aa (fun W' (hW:Fr (fun k=>own k=bM c i 3∨own k=bM c i 4) w W')=>(show W'.cell? ⟨W,0,none⟩=some (zi U)/\W'.cell? ⟨W,1,none⟩=some (zi cl)/\W'.cell? ⟨W,2,none⟩=some (zi qu)/\W < W'.heap.size by
  obtain ⟨rs,A,q,-,h2,-⟩:=h0.ex
  have h2':=h2.fr hW (fun e=>by rcases e with e | e;exact ne 0 3 (by omega) W h0.gF e;exact ne 0 4 (by omega) W h0.gF e)
  refine ⟨?_,?_,?_,h2'.lt⟩
  ·rw [h2'.cell 0,<- hnn];rfl
  ·rw [h2'.cell 1,<- hcl];rfl
  ·rw [h2'.cell 2,<- ZK];rfl))
 have HCE:=aa (fun W' (hW:Fr (fun k=>own k=bM c i 4) w W')=>(show W'.cell? ⟨g,0,none⟩=some (av W 0)/\W'.cell? ⟨g,1,none⟩=some (zi i)/\W'.cell? ⟨g,3,none⟩=some (av dk 0)/\g < W'.heap.size/\W'.cell? ⟨W,0,none⟩=some (zi U)/\W'.cell? ⟨W,1,none⟩=some (zi cl)/\W'.cell? ⟨W,2,none⟩=some (zi qu)/\W < W'.heap.size by
  obtain ⟨cs,b1,b2,b3,b4,b5⟩:=ZL.o W' hW
  obtain ⟨k1,k2,k3,k4⟩:=Wy.o W' (hW.mono fun k _ h=>.inr h)
  exact ⟨(b1.cell 0).trans b3,(b1.cell 1).trans b4,(b1.cell 3).trans b5,b1.lt,k1,k2,k3,k4⟩))
 have Tt:=aa (fun W' (hW:Old w W')=>hOp dk W' (h4.old hW))
 rw [hrc,hd1] at Tt
 have cKp:=aa hKp
 rw [hrc,hnn,hcl,ZK,hK] at cKp
 have HIN:=aa (show 0<=(i:Int)/\(i:Int) < U by have:=hc.iN;rw [hnn] at this;omega)
 have HP:=aa hp
 have HDN:=aa D
 clear h3 h0 h4 ne hnn hcl ZK hnw hrc hd1 hK hc zS hOp hKp D hp
 go_enter func42,ntmps42
 go_wp2_with fail
 refine cN.o.mono ?_
 rintro e w1 ⟨rfl,o1⟩
 have O1:=aa o1
 have ZL:=aa (fun W' (hW:Fr (fun k=>own k=bM c i 4) w1 W')=>ZL.o W' ((Fr.aj o1).trans hW))
 have HCE:=aa (fun W' (hW:Fr (fun k=>own k=bM c i 4) w1 W')=>HCE.o W' ((Fr.aj o1).trans hW))
 have XZ:=aa (fun W' (hW:Fr (fun k=>own k=bM c i 3∨own k=bM c i 4) w1 W')=>(And.intro (Wy.o W' ((Fr.aj o1).trans hW)).1 (Wy.o W' ((Fr.aj o1).trans hW)).2.2.2))
 have cOp:=aa (fun W' (hW:Old w1 W')=>Tt.o W' (o1.trans' hW))
 clear o1 cN Tt
 go_wp2_with fail
 refine yS fun a0 ha0=>?_
 refine vW 1 (some 6) (av g 0) ?hy ?_
 case hy=>intro w;go_simp
 simp only [aC,ax,fM,fJ]
 refine vW 2 (some 7) (av g 0) ?hy ?_
 case hy=>intro w;go_simp
 simp only [aC,ax,fM,fJ]
 refine Bq (fun k=>own k=bM c i 4) 14 15 (OpQ own c i dk recs d1) (KpQ K) [1,2] [16,17,18,19,20,21,22,23,24] w1 [.val g,.val g,.val g,.val g,.val g,.val g,.val W,.val W,.val W,.val (.agg #[zi U,zi cl,zi qu]),.val g,.val g,.val (av g 3),.val dk,.rel Mi,.rel Mi,.val undef,.val undef,.val undef,.val undef,.val undef,.val undef,.val undef,.val undef,.val undef] ha0 ((Old.refl' _).drew') ?st ?en
 case st=>
  refine .cons (.inr (sp2 (fun _ _ _ h=>h.choose_spec.choose_spec.choose_spec.choose_spec.choose_spec.2.2.2.2.2) [] [(0,g)] ?_))<|.cons (.inl rfl)<|.cons (.inl rfl)<|.cons (.inr (sp2 (fun _ _ _ h=>h.choose_spec.choose_spec.choose_spec.choose_spec.choose_spec.2.2.2.2.2) [] [(0,g)] ?_))<|.cons (.inr (sp2 (fun _ _ _ h=>h.choose_spec.choose_spec.choose_spec.choose_spec.choose_spec.2.2.2.2.2) [(3,8)] [] ?_))<|.cons (.inr (sp2 (fun _ _ _ h=>h.choose_spec.choose_spec.choose_spec.choose_spec.choose_spec.2.2.2.2.2) [(4,9)] [] ?_))<|.cons (.inr (sp2 (fun _ _ _ h=>h.choose_spec.choose_spec.choose_spec.choose_spec.choose_spec.2.2.2.2.2) [(5,10)] [] ?_))<|.cons (.inr (sp2 (fun _ _ _ h=>h.choose_spec.choose_spec.choose_spec.choose_spec.choose_spec.2.2.2.2.2) [(6,11)] [] ?_))<|.cons (.inr (sp2 (fun _ _ _ h=>h.choose_spec.choose_spec.choose_spec.choose_spec.choose_spec.2.2.2.2.2) [(7,12)] [] ?_))<|.cons (.inr (sp2 (fun _ _ _ h=>h.choose_spec.choose_spec.choose_spec.choose_spec.choose_spec.2.2.2.2.2) [(8,13)] [] ?_))<|.cons (.inr (sp2 (fun _ _ _ h=>h.choose_spec.choose_spec.choose_spec.choose_spec.choose_spec.2.2.2.2.2) [] [(0,g)] ?_))<|.cons (.inr (sp2 (fun _ _ _ h=>h.choose_spec.choose_spec.choose_spec.choose_spec.choose_spec.2.2.2.2.2) [(10,15)] [] ?_))<|.cons (.inr (sp2 (fun _ _ _ h=>h.choose_spec.choose_spec.choose_spec.choose_spec.choose_spec.2.2.2.2.2) [(11,16)] [] ?_))<|.cons (.inr (sp2 (fun _ _ _ h=>h.choose_spec.choose_spec.choose_spec.choose_spec.choose_spec.2.2.2.2.2) [(12,17)] [] ?_))<|.cons (.inr (aa5 (fun _ _ _ h=>h.choose_spec.choose_spec.choose_spec.choose_spec.choose_spec.2.2.2.2.2) 41 func41 [(13,18)] [] _ ?c14))<|.cons (.inr (aa6 (fun _ _ _ h=>h.choose_spec.choose_spec.choose_spec.choose_spec.choose_spec.choose_spec.choose_spec.2.o) 19 40 func40 [(9,14)] [] _ ?c15))<|.cons (.inl rfl)<|.cons (.inl rfl)<|.cons (.inl rfl)<|.cons (.inl rfl)<|.cons (.inl rfl)<|.cons (.inl rfl)<|.cons (.inl rfl)<|.cons (.inl rfl)<|.cons (.inl rfl)<|.nil
  case c14=>
   intro E w' hS hc
   rintro e18
   exact ⟨_,jQ,cOp.o w' hS⟩
  case c15=>
   intro E w' v9 x9 y9 hx9 hq9 hy9 hc ev9
   obtain ⟨B,N,nc,vs,F',rfl,hN,hcB,hrR,-,-⟩:=hq9
   rintro e14
   exact ⟨_,jQ,cKp.o w' B N nc x9.heap.size vs hN (hcB.old hy9) (hrR.fr (S:=fun _=>False) (Fr.aj hy9) (fun _ _ _ _ h=>h))⟩
  all_goals
   intro E w' hS hc hf
   obtain ⟨n0,n1,n3,ng,v0,v1,v2,vl⟩:=HCE.o w' hS
   repeat intro _
   exact ⟨_,dP,rfl⟩
 case en=>
  intro jA w9 v9 u9 x9 y9 p9 q9 e19 e29 I vG H hR9 Tu
  iterate 14 refine dx.eqv _ _ rfl (fun _ h=>h) ?_
  refine dx.ex _ rfl ?_
  intro v8 h8 Uf
  clear Uf
  rw [e19] at h8
  cases h8
  refine dx.ex _ rfl ?_
  intro v8 h8 Uf
  clear Uf
  rw [e29] at h8
  cases h8
  iterate 9 refine dx.skip ?_
  refine dx.nil ?_
  simp only [aC,ax,fM,fJ,List.filterMap_cons,List.filterMap_nil,je,nW]
  obtain ⟨B,N,nc,vs,F4,rfl,hN,hcB,hrR,⟨hD4,hG4⟩,Vz⟩:=vG
  obtain ⟨ga,gl,JA,jq,FA,FL,FJ,rfl,ZM⟩:=hR9
  have Tv:Fr (fun k=>own k=bM c i 4) w1 w9:=(Fr.aj I).trans (Vz.trans (Fr.aj ((H.trans' ZM.o).trans' Tu)))
  obtain ⟨R,Uj,X7,hc0,hc1,hc3⟩:=ZL.o w9 Tv
  have aa9:=aa Uj
  have I1:=aa X7
  have QK:=aa hc0
  have QL:=aa hc1
  have X8:=aa hc3
  have HD4:=aa (And.intro (hD4.old ((H.trans' ZM.o).trans' Tu)) (And.intro hG4 hD4.lt))
  have HKF:=aa ZM
  have HPY:=aa (And.intro I (And.intro H (And.intro Tu Vz.size)))
  have aba:=aa Tv
  clear Uj X7 hc0 hc1 hc3 hD4 hG4 Vz ZM I H Tu Tv hcB hrR hN e19 e29 ha0
  have J:=aa (aa9.o)
  have QM:=aa (show ∀ v∈([.bool true]:List Value),v.oneCell'=true by simp [Value.oneCell'])
  have hS0:=aa (show 2 + ([.bool true]:List Value).length<=(R).size by have:=I1.o;(try simp only [aT]);simp only [iR,jV];omega)
  have hB1:=aa ((J.o.setAt [.bool true] 2))
  have Xp:=aa (show ∀ v∈([av ga 0,av gl 0,zi K.join.az,.slice JA K.join.nodes.length jq]:List Value),v.oneCell'=true by simp [Value.oneCell'])
  have hS1:=aa (show 4 + ([av ga 0,av gl 0,zi K.join.az,.slice JA K.join.nodes.length jq]:List Value).length<=(bg (R) 2 [.bool true]).size by have:=I1.o;(try simp only [aT]);simp only [iR,jV];omega)
  have hB2:=aa ((hB1.o.setAt [av ga 0,av gl 0,zi K.join.az,.slice JA K.join.nodes.length jq] 4))
  have hO2:=aa (show ∀ v∈([zi 0]:List Value),v.oneCell'=true by simp [Value.oneCell'])
  have hS2:=aa (show 8 + ([zi 0]:List Value).length<=(bg (bg (R) 2 [.bool true]) 4 [av ga 0,av gl 0,zi K.join.az,.slice JA K.join.nodes.length jq]).size by have:=I1.o;(try simp only [aT]);simp only [iR,jV];omega)
  obtain ⟨qF,Py⟩:∃ x,x=setAt (setAt (setAt (w9) g 2 [.bool true]) g 4 [av ga 0,av gl 0,zi K.join.az,.slice JA K.join.nodes.length jq]) g 8 [zi 0]:=⟨_,rfl⟩
  obtain ⟨L,V⟩:∃ x,x=bg (bg (bg (R) 2 [.bool true]) 4 [av ga 0,av gl 0,zi K.join.az,.slice JA K.join.nodes.length jq]) 8 [zi 0]:=⟨_,rfl⟩
  have X:=aa (show Bk qF g 115 L by rw [Py,V];exact (hB2.o.setAt [zi 0] 8))
  have QN:=aa (show L.size=193 by rw [V];simp only [aT];exact I1.o)
  have y:=aa V
  have Mj:=aa (show Fr (fun k=>k=g) w9 qF by rw [Py];exact (Fr.setAt (S:=fun k=>k=g) (.inr rfl) [zi 0] _ 8 (Fr.setAt (S:=fun k=>k=g) (.inr rfl) [av ga 0,av gl 0,zi K.join.az,.slice JA K.join.nodes.length jq] _ 4 (Fr.setAt (S:=fun k=>k=g) (.inr rfl) [.bool true] _ 2 (Fr.refl (fun k=>k=g) w9)))))
  clear V
  have QO:=aa (show Fr (fun k=>own k=bM c i 3∨own k=bM c i 4) w1 qF from (aba.o.mono fun k _ h=>.inr h).trans (Mj.o.mono fun k _ (e:k=g)=>.inl (by rw [e];exact Ui.o)))
  have Mk:=aa (show L[0]?=some (av W 0) by rw [y.o];rw [aD _ _ _ _ EU];rw [aD _ _ _ _ EU];rw [aD _ _ _ _ EU];exact QK.o)
  have Ml:=aa (show L[1]?=some (zi i) by rw [y.o];rw [aD _ _ _ _ EU];rw [aD _ _ _ _ EU];rw [aD _ _ _ _ EU];exact QL.o)
  have n0:=(X.o.cell 0).trans Mk.o
  have n1:=(X.o.cell 1).trans Ml.o
  have ng:=X.o.lt
  obtain ⟨v0,vl⟩:=XZ.o qF QO.o
  have cH:=aa (aag U Ii.o.1 Ii.o.2 qF)
  iterate 70 (try (first
   | ((with_reducible refine aL 4 (.tmp 22) (.const (.bool true)) g 2 [.bool true] ?_ ?_ 115 _ J.o ?_ hS0.o QM.o ?_);(· rfl);(· rfl);(· exact SF))
   | ((with_reducible refine aL 100 (.tmp 24) (.tmp 20) g 4 [.pointer (some ⟨ga,0,none⟩),.pointer (some ⟨gl,0,none⟩),.int .i64 K.join.az,.slice JA K.join.nodes.length jq] ?_ ?_ 115 _ hB1.o ?_ hS1.o Xp.o ?_);(· rfl);(· rfl);(· exact Pw))
   | ((with_reducible refine aL 3 (.tmp 26) (.const (.int .i64 0)) g 8 [.int .i64 0] ?_ ?_ 115 _ hB2.o ?_ hS2.o hO2.o ?_);(· rfl);(· rfl);(· exact Il);rw [<- Py];clear Py J hS0 QM hB1 hS1 Xp hB2 hS2 hO2)
   | go_values | go_skip | go_guarded | go_step | go_upon | go_back | go_simp))
  refine cH.o.mono ?_
  rintro e QG ⟨rfl,hH,o11⟩
  obtain ⟨gh,hgh⟩:=aR (qF.heap.size)
  rw [hgh] at hH
  simp only [hgh]
  have HGH:=aa hgh
  have HH:=aa hH
  have Pz:=aa o11
  clear n0 n1 ng v0 vl cH o11 hH hgh
  have Ya:=aa (X.o.old Pz.o)
  have QS:=aa QN.o
  have J:=aa (Ya.o)
  have QM:=aa (show ∀ v∈([av gh 0]:List Value),v.oneCell'=true by simp [Value.oneCell'])
  have hS0:=aa (show 9 + ([av gh 0]:List Value).length<=(L).size by have:=QS.o;(try simp only [aT]);simp only [iR,jV];omega)
  obtain ⟨G4,PD⟩:∃ x,x=setAt (QG) g 9 [av gh 0]:=⟨_,rfl⟩
  obtain ⟨M,Y⟩:∃ x,x=bg (L) 9 [av gh 0]:=⟨_,rfl⟩
  have Z:=aa (show Bk G4 g 115 M by rw [PD,Y];exact (J.o.setAt [av gh 0] 9))
  have QT:=aa (show M.size=193 by rw [Y];simp only [aT];exact QS.o)
  have r:=aa Y
  have Mm:=aa (show Fr (fun k=>k=g) QG G4 by rw [PD];exact (Fr.setAt (S:=fun k=>k=g) (.inr rfl) [av gh 0] _ 9 (Fr.refl (fun k=>k=g) QG)))
  clear Y
  have Yb:=aa (QO.o.trans (Fr.aj Pz.o))
  have QU:=aa (Yb.o.trans (Mm.o.mono fun k _ (e:k=g)=>.inl (by rw [e];exact Ui.o)))
  have Mo:=aa (show M[0]?=some (av W 0) by rw [r.o];rw [aD _ _ _ _ EU];exact Mk.o)
  have Mq:=aa (show M[1]?=some (zi i) by rw [r.o];rw [aD _ _ _ _ EU];exact Ml.o)
  have n0:=(Z.o.cell 0).trans Mo.o
  have n1:=(Z.o.cell 1).trans Mq.o
  have ng:=Z.o.lt
  obtain ⟨v0,vl⟩:=XZ.o G4 QU.o
  have cG:=aa (VU U now Ii.o.1 Ii.o.2 V5.o G4)
  iterate 70 (try (first
   | ((with_reducible refine aL 101 (.tmp 41) (.tmp 38) g 9 [.pointer (some ⟨gh,0,none⟩)] ?_ ?_ 115 _ J.o ?_ hS0.o QM.o ?_);(· rfl);(· rfl);(· exact XU);rw [<- PD];clear PD J hS0 QM)
   | go_values | go_skip | go_guarded | go_step | go_upon | go_back | go_simp))
  refine cG.o.mono ?_
  rintro e Xq ⟨gg,rfl,hgg,hG,o13⟩
  have V8:=aa hgg
  have HG:=aa hG
  have PE:=aa o13
  clear n0 n1 ng v0 vl cG o13 hG hgg
  have Yc:=aa (Z.o.old PE.o)
  have QV:=aa QT.o
  have J:=aa (Yc.o)
  have QM:=aa (show ∀ v∈([av gg 0]:List Value),v.oneCell'=true by simp [Value.oneCell'])
  have hS0:=aa (show 12 + ([av gg 0]:List Value).length<=(M).size by have:=QV.o;(try simp only [aT]);simp only [iR,jV];omega)
  obtain ⟨Mb,PG⟩:∃ x,x=setAt (Xq) g 12 [av gg 0]:=⟨_,rfl⟩
  obtain ⟨G,Gi⟩:∃ x,x=bg (M) 12 [av gg 0]:=⟨_,rfl⟩
  have rM:=aa (show Bk Mb g 115 G by rw [PG,Gi];exact (J.o.setAt [av gg 0] 12))
  have Gj:=aa (show G.size=193 by rw [Gi];simp only [aT];exact QV.o)
  have m:=aa Gi
  have Mr:=aa (show Fr (fun k=>k=g) Xq Mb by rw [PG];exact (Fr.setAt (S:=fun k=>k=g) (.inr rfl) [av gg 0] _ 12 (Fr.refl (fun k=>k=g) Xq)))
  clear Gi
  have Yd:=aa (QU.o.trans (Fr.aj PE.o))
  have Ms:=aa (Yd.o.trans (Mr.o.mono fun k _ (e:k=g)=>.inl (by rw [e];exact Ui.o)))
  have EN:=aa (show G[0]?=some (av W 0) by rw [m.o];rw [aD _ _ _ _ EU];exact Mo.o)
  have EP:=aa (show G[1]?=some (zi i) by rw [m.o];rw [aD _ _ _ _ EU];exact Mq.o)
  have n0:=(rM.o.cell 0).trans EN.o
  have n1:=(rM.o.cell 1).trans EP.o
  have ng:=rM.o.lt
  obtain ⟨v0,vl⟩:=XZ.o Mb Ms.o
  iterate 70 (try (first
   | ((with_reducible refine aL 103 (.tmp 57) (.tmp 54) g 12 [.pointer (some ⟨gg,0,none⟩)] ?_ ?_ 115 _ J.o ?_ hS0.o QM.o ?_);(· rfl);(· rfl);(· exact XV);rw [<- PG];clear PG J hS0 QM)
   | go_values | go_skip | go_guarded | go_step | go_upon | go_back | go_simp))
  clear n0 n1 ng v0 vl
  go_cut [] from 58 to 77 (fun w'=>∃ gw,Mb.heap.size<=gw/\fH w' gw 254 U i (lk now U)/\Bk w' g 115 (bg G 13 [av gw 0])/\Fr (fun k=>k=g) Mb w'/\gw < w'.heap.size)
  case first=>
   refine La (D:=(fun _=>False)) (W0:=Mb) 14 Old 20 17 aW [.val g,.val g,.val g,.val g,.val W,.val W,.val W,.val W,.val (zi U),.val g,.val g,.val (av g 1),.val (zi i),.val (zi now),.rel (WaR Mb.heap.size U i now),.rel (WaR Mb.heap.size U i now),.rel (WaP Mb.heap.size U i now),.val (zi 0),.val g,.val (av g 13)] ((Old.refl' _).drew') ?st ?en1 ?en2
   case st=>
    refine .cons (sp1 (fun _ _ h=>Fr.aj h) [] [(0,g)] ?_)<|.cons (sp1 (fun _ _ h=>Fr.aj h) [] [(0,g)] ?_)<|.cons (sp1 (fun _ _ h=>Fr.aj h) [(1,60)] [] ?_)<|.cons (sp1 (fun _ _ h=>Fr.aj h) [(2,61)] [] ?_)<|.cons (sp1 (fun _ _ h=>Fr.aj h) [(3,62)] [] ?_)<|.cons (sp1 (fun _ _ h=>Fr.aj h) [(4,63)] [] ?_)<|.cons (sp1 (fun _ _ h=>Fr.aj h) [(5,64)] [] ?_)<|.cons (sp1 (fun _ _ h=>Fr.aj h) [(6,65)] [] ?_)<|.cons (sp1 (fun _ _ h=>Fr.aj h) [(7,66)] [] ?_)<|.cons (sp1 (fun _ _ h=>Fr.aj h) [] [(0,g)] ?_)<|.cons (sp1 (fun _ _ h=>Fr.aj h) [(9,68)] [] ?_)<|.cons (sp1 (fun _ _ h=>Fr.aj h) [(10,69)] [] ?_)<|.cons (sp1 (fun _ _ h=>Fr.aj h) [(11,70)] [] ?_)<|.cons (sp1 (fun _ _ h=>Fr.aj h) [] [(2,zi now)] ?_)<|.cons (Et (fun _ _ h=>Fr.aj h) 95 func95 [(8,67),(12,71),(13,72)] [] _ ?c14)<|.cons (sp1 (fun _ _ h=>Fr.aj h) [(14,73)] [] ?c15)<|.cons (sp1 (fun _ _ h=>Fr.aj h) [(15,58)] [] ?c16)<|.cons (sp1 (fun _ _ h=>Fr.aj h) [(15,58)] [] ?c17)<|.cons (sp1 (fun _ _ h=>Fr.aj h) [(0,59)] [] ?_)<|.cons (sp1 (fun _ _ h=>Fr.aj h) [(18,76)] [] ?_)<|.nil
    case c14=>
     intro E w' hS hc
     rintro e67 e71 e72
     exact ⟨_,jQ,(VV U i now Ii.o.1 Ii.o.2 HIN.o V5.o w').mono fun e w2 h=>⟨_,h.choose_spec.1,⟨_,rfl,ic hS.size h.choose_spec.2.1,h.choose_spec.2.2.1⟩,h.choose_spec.2.2.2⟩⟩
    case c15=>
     intro E w' hS hc hf
     rintro _ ⟨gw,rfl,hgw,hWa⟩ ZP
     exact ⟨_,dP,⟨gw,rfl,hgw,hWa⟩⟩
    case c16=>
     intro E w' hS hc hf
     rintro _ ⟨gw,rfl,hgw,hWa⟩ e58
     exact ⟨_,dP,⟨gw,rfl,hgw,hWa⟩⟩
    case c17=>
     intro E w' hS hc hf
     rintro _ ⟨gw,rfl,hgw,hWa⟩ e58
     exact ⟨_,dP,rfl⟩
    all_goals
     intro E w' hS hc hf
     have n0:=((rM.o.old hS.old).cell 0).trans EN.o
     have n1:=((rM.o.old hS.old).cell 1).trans EP.o
     have ng:=(rM.o.old hS.old).lt
     obtain ⟨v0,vl⟩:=XZ.o w' (Ms.o.trans (Fr.aj hS.old))
     repeat intro _
     exact ⟨_,dP,rfl⟩
   case en1=>
    intro jA w9 x9 y9 I vG H
    iterate 14 refine Ends.eqv _ _ rfl (fun _ h=>h) ?_
    refine Ends.ex _ rfl ?_
    rintro _ _ ⟨gw,rfl,hgw,hWa⟩
    refine Ends.ex _ rfl ?_
    rintro _ _ ⟨gw,rfl,hgw,hWa⟩
    refine Ends.ex _ rfl ?_
    rintro _ _ ⟨gw,rfl,hgw,hWa⟩
    iterate 3 refine Ends.eqv _ _ rfl (fun _ h=>h) ?_
    refine Ends.nil ?_
    simp only [aC,ax,fM,fJ,Option.toList_some,nW,je,xZ,qz,MH,Ja]
    have ho:=(I.trans' vG).trans' H
    have TR:=aa (rM.o.old ho)
    have Uk:=aa (show 13 + ([av gw 0]:List Value).length<=G.size by have:=Gj.o;simp only [iR,jV];omega)
    have HO4:=aa (show ∀ v∈([av gw 0]:List Value),v.oneCell'=true by simp [Value.oneCell'])
    have HN4:=aa (And.intro ho (And.intro hgw (And.intro hWa hWa.lt)))
    clear ho I vG H hgw hWa
    iterate 70 (try (first
     | ((with_reducible refine aL 104 (.tmp 77) (.tmp 74) g 13 [.pointer (some ⟨gw,0,none⟩)] ?_ ?_ 115 _ TR.o ?_ Uk.o HO4.o ?_);(· rfl);(· rfl);(· exact QJ))
     | go_values | go_skip | go_guarded | go_step | go_upon | go_back | go_simp))
    go_meet
    case rel=>exact UJ
   case en2=>
    intro jA w9 x9 y9 I vG H
    iterate 14 refine dx.eqv _ _ rfl (fun _ h=>h) ?_
    refine dx.ex _ rfl ?_
    rintro _ _ ⟨gw,rfl,hgw,hWa⟩
    refine dx.ex _ rfl ?_
    rintro _ _ ⟨gw,rfl,hgw,hWa⟩
    refine dx.ex _ rfl ?_
    rintro _ _ ⟨gw,rfl,hgw,hWa⟩
    refine dx.skip ?_
    iterate 2 refine dx.eqv _ _ rfl (fun _ h=>h) ?_
    refine dx.nil ?_
    simp only [aC,ax,fM,fJ,Option.toList_some,nW,je,xZ,qz,MH,Ja]
    have ho:=(I.trans' vG).trans' H
    have TR:=aa (rM.o.old ho)
    have Uk:=aa (show 13 + ([av gw 0]:List Value).length<=G.size by have:=Gj.o;simp only [iR,jV];omega)
    have HO4:=aa (show ∀ v∈([av gw 0]:List Value),v.oneCell'=true by simp [Value.oneCell'])
    have HN4:=aa (And.intro ho (And.intro hgw (And.intro hWa hWa.lt)))
    clear ho I vG H hgw hWa
    iterate 70 (try (first
     | ((with_reducible refine aL 104 (.tmp 77) (.tmp 74) g 13 [.pointer (some ⟨gw,0,none⟩)] ?_ ?_ 115 _ TR.o ?_ Uk.o HO4.o ?_);(· rfl);(· rfl);(· exact QJ))
     | go_values | go_skip | go_guarded | go_step | go_upon | go_back | go_simp))
    go_meet
    case rel=>exact UJ
  case rest=>
   obtain ⟨gw,hgw,hWa,hbk,hfr,hlt⟩:=hcut
   obtain ⟨C,Gl⟩:∃ x,x=bg G 13 [av gw 0]:=⟨_,rfl⟩
   rw [<- Gl] at hbk
   obtain ⟨w16,rfl⟩:∃ x,x=wc:=⟨_,rfl⟩
   have Gm:=aa hbk
   have l:=aa Gl
   have PX:=aa (show C.size=193 by rw [Gl];simp only [aT];exact Gj.o)
   have Mt:=aa hfr
   have HGW:=aa (And.intro hgw hlt)
   have HWA:=aa hWa
   clear hgw hWa hbk hfr hlt Gl
   have QW:=aa (Ms.o.trans (Mt.o.mono fun k _ (e:k=g)=>.inl (by rw [e];exact Ui.o)))
   have Tw:=aa (show C[0]?=some (av W 0) by rw [l.o];rw [aD _ _ _ _ EU];exact EN.o)
   have Tx:=aa (show C[1]?=some (zi i) by rw [l.o];rw [aD _ _ _ _ EU];exact EP.o)
   have n0:=(Gm.o.cell 0).trans Tw.o
   have n1:=(Gm.o.cell 1).trans Tx.o
   have ng:=Gm.o.lt
   obtain ⟨v0,vl⟩:=XZ.o w16 QW.o
   obtain ⟨Ul,PI⟩:∃ x,x=w16.alloc (.map #[] 0):=⟨_,rfl⟩
   obtain ⟨gk,hgk⟩:=aR (w16.heap.size)
   have HGK:=aa hgk
   have Ty:=aa (show Old w16 Ul by rw [PI];exact (Old.refl' w16).ag _)
   have HMV:=aa (show fP Ul prog 3 gk []/\gk < Ul.heap.size by rw [PI,<- hgk];exact ⟨fP.made _ _ _,bE⟩)
   have Ye:=aa (Gm.o.old Ty.o)
   have O:=aa PX.o
   have Tz:=aa (Ye.o)
   have Yf:=aa (show ∀ v∈([.map (some gk)]:List Value),v.oneCell'=true by simp [Value.oneCell'])
   have Yg:=aa (show 10 + ([.map (some gk)]:List Value).length<=(C).size by have:=O.o;(try simp only [aT]);simp only [iR,jV];omega)
   have TA:=aa ((Tz.o.setAt [.map (some gk)] 10))
   have Yh:=aa (show ∀ v∈([zi (now - 4)]:List Value),v.oneCell'=true by simp [Value.oneCell'])
   have Yi:=aa (show 11 + ([zi (now - 4)]:List Value).length<=(bg (C) 10 [.map (some gk)]).size by have:=O.o;(try simp only [aT]);simp only [iR,jV];omega)
   have TC:=aa ((TA.o.setAt [zi (now - 4)] 11))
   have Yj:=aa (show ∀ v∈([zi now]:List Value),v.oneCell'=true by simp [Value.oneCell'])
   have Yk:=aa (show 192 + ([zi now]:List Value).length<=(bg (bg (C) 10 [.map (some gk)]) 11 [zi (now - 4)]).size by have:=O.o;(try simp only [aT]);simp only [iR,jV];omega)
   have TE:=aa ((TC.o.setAt [zi now] 192))
   have Yl:=aa (show ∀ v∈([.pointer none]:List Value),v.oneCell'=true by simp [Value.oneCell'])
   have Ym:=aa (show 191 + ([.pointer none]:List Value).length<=(bg (bg (bg (C) 10 [.map (some gk)]) 11 [zi (now - 4)]) 192 [zi now]).size by have:=O.o;(try simp only [aT]);simp only [iR,jV];omega)
   obtain ⟨Yn,PK⟩:∃ x,x=setAt (setAt (setAt (setAt (Ul) g 10 [.map (some gk)]) g 11 [zi (now - 4)]) g 192 [zi now]) g 191 [.pointer none]:=⟨_,rfl⟩
   obtain ⟨z,Gn⟩:∃ x,x=bg (bg (bg (bg (C) 10 [.map (some gk)]) 11 [zi (now - 4)]) 192 [zi now]) 191 [.pointer none]:=⟨_,rfl⟩
   have Yo:=aa (show Bk Yn g 115 z by rw [PK,Gn];exact (TE.o.setAt [.pointer none] 191))
   have yK:=aa (show z.size=193 by rw [Gn];simp only [aT];exact O.o)
   have f:=aa Gn
   have QX:=aa (show Fr (fun k=>k=g) Ul Yn by rw [PK];exact (Fr.setAt (S:=fun k=>k=g) (.inr rfl) [.pointer none] _ 191 (Fr.setAt (S:=fun k=>k=g) (.inr rfl) [zi now] _ 192 (Fr.setAt (S:=fun k=>k=g) (.inr rfl) [zi (now - 4)] _ 11 (Fr.setAt (S:=fun k=>k=g) (.inr rfl) [.map (some gk)] _ 10 (Fr.refl (fun k=>k=g) Ul))))))
   clear Gn
   have Yp:=aa (QW.o.trans (Fr.aj Ty.o))
   have Yq:=aa (Yp.o.trans (QX.o.mono fun k _ (e:k=g)=>.inl (by rw [e];exact Ui.o)))
   have LM:=aa (show IntKind.i64.wrap (now - 4)=now - 4 from kP _ (by have:=V5.o;omega))
   have hwr:=LM.o
   obtain ⟨T,Um⟩:∃ x,x=abM:=⟨_,rfl⟩
   have HZH:=aa Um
   have HZB:=aa (show prog.built 111 []=some T by rw [Um];exact Df)
   have HZS:=aa (show T.size=170 by rw [Um];exact De)
   have YT:=aa (show T.toList.length=170 by rw [Array.length_toList,Um];exact De)
   have H1Z:=aa (show ∀ v∈T.toList,v.oneCell'=true by rw [Um];exact Pt)
   clear Um
   have TF:=aa (Yo.o)
   have Yr:=aa (show ∀ v∈(T.toList:List Value),v.oneCell'=true by exact H1Z.o)
   have Yt:=aa (show 14 + (T.toList:List Value).length<=(z).size by have:=yK.o;(try simp only [aT]);rw [Array.length_toList,HZS.o];omega)
   have hBx1:=aa ((TF.o.setAt T.toList 14))
   have Yu:=aa (show ∀ v∈([zi 0,zi 0,zi 0,zi 0,zi 0]:List Value),v.oneCell'=true by simp [Value.oneCell'])
   have Yv:=aa (show 184 + ([zi 0,zi 0,zi 0,zi 0,zi 0]:List Value).length<=(bg (z) 14 T.toList).size by have:=yK.o;(try simp only [aT]);simp only [iR,jV];omega)
   have hBx2:=aa ((hBx1.o.setAt [zi 0,zi 0,zi 0,zi 0,zi 0] 184))
   have Yw:=aa (show ∀ v∈([zi 0,zi 0]:List Value),v.oneCell'=true by simp [Value.oneCell'])
   have Yx:=aa (show 189 + ([zi 0,zi 0]:List Value).length<=(bg (bg (z) 14 T.toList) 184 [zi 0,zi 0,zi 0,zi 0,zi 0]).size by have:=yK.o;(try simp only [aT]);simp only [iR,jV];omega)
   obtain ⟨MO,PL⟩:∃ x,x=setAt (setAt (setAt (Yn) g 14 T.toList) g 184 [zi 0,zi 0,zi 0,zi 0,zi 0]) g 189 [zi 0,zi 0]:=⟨_,rfl⟩
   obtain ⟨TG,Gp⟩:∃ x,x=bg (bg (bg (z) 14 T.toList) 184 [zi 0,zi 0,zi 0,zi 0,zi 0]) 189 [zi 0,zi 0]:=⟨_,rfl⟩
   have Yy:=aa (show Bk MO g 115 TG by rw [PL,Gp];exact (hBx2.o.setAt [zi 0,zi 0] 189))
   have Yz:=aa (show TG.size=193 by rw [Gp];simp only [aT];exact yK.o)
   have d:=aa Gp
   have QY:=aa (show Fr (fun k=>k=g) Yn MO by rw [PL];exact (Fr.setAt (S:=fun k=>k=g) (.inr rfl) [zi 0,zi 0] _ 189 (Fr.setAt (S:=fun k=>k=g) (.inr rfl) [zi 0,zi 0,zi 0,zi 0,zi 0] _ 184 (Fr.setAt (S:=fun k=>k=g) (.inr rfl) T.toList _ 14 (Fr.refl (fun k=>k=g) Yn)))))
   clear Gp
   have YA:=aa (Yq.o.trans (QY.o.mono fun k _ (e:k=g)=>.inl (by rw [e];exact Ui.o)))
   iterate 120 (try (first
    | ((with_reducible refine Go.Great.wpList_allocTo rfl _ rfl _ (.map #[] 0) (EM rfl) ?_);rw [<- PI];clear PI;simp only [HGK.o])
    | ((with_reducible refine aL 102 (.tmp 87) (.tmp 82) g 10 [.map (some gk)] ?_ ?_ 115 _ Tz.o ?_ Yg.o Yf.o ?_);(· rfl);(· rfl);(· exact XX))
    | ((with_reducible refine aL 3 (.tmp 89) (.tmp 84) g 11 [.int .i64 (now - 4)] ?_ ?_ 115 _ TA.o ?_ Yi.o Yh.o ?_);(· rfl);(· rfl);(· exact Il))
    | ((with_reducible refine aL 3 (.tmp 91) (.tmp 85) g 192 [.int .i64 now] ?_ ?_ 115 _ TC.o ?_ Yk.o Yj.o ?_);(· rfl);(· rfl);(· exact Il))
    | ((with_reducible refine aL 113 (.tmp 93) (.const (.pointer none)) g 191 [.pointer none] ?_ ?_ 115 _ TE.o ?_ Ym.o Yl.o ?_);(· rfl);(· rfl);(· exact XY);rw [<- PK];clear PK Tz Yg Yf TA Yi Yh TC Yk Yj TE Ym Yl)
    | ((with_reducible refine Go.wpList_buildTo rfl 111 _ rfl _ rfl T ?_ ?_);(· exact ((congrArg (Tryz.prog.built 111) (show _=[] by kernel_rfl)).trans HZB.o)))
    | ((with_reducible refine aL 111 (.tmp 101) (.tmp 97) g 14 T.toList ?_ ?_ 115 _ TF.o ?_ Yt.o Yr.o ?_);(· rfl);(· rfl);(· rw [YT.o];exact aa7))
    | ((with_reducible refine aL 112 (.tmp 103) (.tmp 98) g 184 [.int .i64 0,.int .i64 0,.int .i64 0,.int .i64 0,.int .i64 0] ?_ ?_ 115 _ hBx1.o ?_ Yv.o Yu.o ?_);(· rfl);(· rfl);(· exact aa8))
    | ((with_reducible refine aL 106 (.tmp 105) (.tmp 99) g 189 [.int .i64 0,.int .i64 0] ?_ ?_ 115 _ hBx2.o ?_ Yx.o Yw.o ?_);(· rfl);(· rfl);(· exact SG);rw [<- PL];clear PL TF Yt Yr hBx1 Yv Yu hBx2 Yx Yw)
    | go_values | go_skip | go_guarded | go_step | go_upon | go_back | go_simp))
   have HZ:∃ own',aN MO own' c i W g u s.start/\fT w own c i MO own':=by
    obtain ⟨e1,e2,e3,e4,e5,e6,e7⟩:=HEQ.o
    have hp:=HP.o
    have D:=HDN.o
    have h3:uq w (fun k=>own k=bM c i 3) W g dk s.n.self.toNat:=hp.at_ 3
    have hgl:=h3.lt g h3.gF
    obtain ⟨hD4,hG4,hL4⟩:=HD4.o
    obtain ⟨I,H,Tu,hxy⟩:=HPY.o
    have kf:=HKF.o
    have s1:=O1.o.size
    have s2:=I.size
    have s3:=H.size
    have s4:=kf.o.size
    have s5:=Tu.size
    have s10:=Mj.o.size
    have s11:=Pz.o.size
    have s12:=Mm.o.size
    have s13:=PE.o.size
    have s14:=Mr.o.size
    have s16:=Mt.o.size
    have egh:=HGH.o
    have egk:=HGK.o
    have hgg:=V8.o
    have hgw:=HGW.o
    have hmv:=HMV.o
    have f18:=QY.o
    have f17:=QX.o.trans f18
    have f16:=(Fr.aj (S:=fun k=>k=g) Ty.o).trans f17
    have f14:=Mt.o.trans f16
    have f13:=Mr.o.trans f14
    have f12:=(Fr.aj (S:=fun k=>k=g) PE.o).trans f13
    have f11:=Mm.o.trans f12
    have f10:=(Fr.aj (S:=fun k=>k=g) Pz.o).trans f11
    have f9:=Mj.o.trans f10
    have f9q:=(Fr.aj (S:=fun k=>k=g) Tu).trans f9
    have hh7:=HH.o
    have l7:=hh7.lt gh rfl
    have l9:=HG.o.lt
    have lac:=kf.acc.lt ga rfl
    have hs:s.start={ s with n:=⟨s.n.self,true,(jE s.n.disk).2,mO s.conf (jE s.n.disk).1,0,⟨s.conf.nodes,[]⟩,fun _=>none,s.now - 4,.new s.conf.nodes s.now,.new s.conf.nodes s.n.self s.now,List.replicate 5 .zero,List.replicate 5 0,.zero,none,s.now⟩ }:=rfl
    have hn:(⟨s.n.self,true,(jE s.n.disk).2,mO s.conf (jE s.n.disk).1,0,⟨s.conf.nodes,[]⟩,fun _=>none,s.now - 4,.new s.conf.nodes s.now,.new s.conf.nodes s.n.self s.now,List.replicate 5 .zero,List.replicate 5 0,.zero,none,s.now⟩:dM)=⟨(i:Int),true,d1,K,0,⟨U,[]⟩,fun _=>none,now - 4,.new U now,.new U i now,List.replicate 5 .zero,List.replicate 5 0,.zero,none,now⟩:=by
     rw [CK,e5,e6,e1,e3,e7,e4,D.self]
    rw [hs,hn]
    refine Mh.up (p:=⟨dk,ga,gl,gh,gk,gg,gw,0⟩) (F4:=F4) (FL:=FL) (FA:=fun k=>FA k/\k < q9.heap.size) (FJ:=fun k=>FJ k/\k < q9.heap.size) (b1:=p9.heap.size) (b2:=q9.heap.size) (cs:=TG) (JA:=JA) (jq:=jq) hp D ⟨Yy.o,⟨Yz.o,fun j v P=>?one,fun a ha j v P=>?hd,fun a ha=>?rf⟩,kf.jl,?jn,?h4,?g4,?h5,?h6,?h7,?h8,?h9,?h10,rfl,af,?dA,?dJ,?dL,?d7⟩ rfl rfl rfl rfl rfl rfl rfl ?fr
    case one=>
     have ho:=Ei P
     rcases (by omega:j=0∨j=1∨j=2∨j=3∨j=4∨j=5∨j=6∨j=7∨j=8∨j=9∨j=10∨j=11∨j=12∨j=13∨j=189∨j=190∨j=191∨j=192) with rfl | rfl | rfl | rfl | rfl | rfl | rfl | rfl | rfl | rfl | rfl | rfl | rfl | rfl | rfl | rfl | rfl | rfl
     ·injection P with e
      rw [<- e]
      rw [d.o]
      iterate 3 rw [aD _ _ _ _ iw]
      rw [f.o]
      iterate 4 rw [aD _ _ _ _ iw]
      rw [l.o]
      rw [aD _ _ _ _ iw]
      rw [m.o]
      rw [aD _ _ _ _ iw]
      rw [r.o]
      rw [aD _ _ _ _ iw]
      rw [y.o]
      iterate 3 rw [aD _ _ _ _ iw]
      exact QK.o
     ·injection P with e
      rw [<- e]
      rw [d.o]
      iterate 3 rw [aD _ _ _ _ iw]
      rw [f.o]
      iterate 4 rw [aD _ _ _ _ iw]
      rw [l.o]
      rw [aD _ _ _ _ iw]
      rw [m.o]
      rw [aD _ _ _ _ iw]
      rw [r.o]
      rw [aD _ _ _ _ iw]
      rw [y.o]
      iterate 3 rw [aD _ _ _ _ iw]
      exact QL.o
     ·injection P with e
      rw [<- e]
      rw [d.o]
      iterate 3 rw [aD _ _ _ _ iw]
      rw [f.o]
      iterate 4 rw [aD _ _ _ _ iw]
      rw [l.o]
      rw [aD _ _ _ _ iw]
      rw [m.o]
      rw [aD _ _ _ _ iw]
      rw [r.o]
      rw [aD _ _ _ _ iw]
      rw [y.o]
      iterate 2 rw [aD _ _ _ _ iw]
      exact eP _ () () (R) 2 2 0 rfl bE TP
     ·injection P with e
      rw [<- e]
      rw [d.o]
      iterate 3 rw [aD _ _ _ _ iw]
      rw [f.o]
      iterate 4 rw [aD _ _ _ _ iw]
      rw [l.o]
      rw [aD _ _ _ _ iw]
      rw [m.o]
      rw [aD _ _ _ _ iw]
      rw [r.o]
      rw [aD _ _ _ _ iw]
      rw [y.o]
      iterate 3 rw [aD _ _ _ _ iw]
      exact X8.o
     ·injection P with e
      rw [<- e]
      rw [d.o]
      iterate 3 rw [aD _ _ _ _ iw]
      rw [f.o]
      iterate 4 rw [aD _ _ _ _ iw]
      rw [l.o]
      rw [aD _ _ _ _ iw]
      rw [m.o]
      rw [aD _ _ _ _ iw]
      rw [r.o]
      rw [aD _ _ _ _ iw]
      rw [y.o]
      rw [aD _ _ _ _ iw]
      exact eP _ () () (bg (R) 2 [.bool true]) 4 4 0 rfl bE TP
     ·injection P with e
      rw [<- e]
      rw [d.o]
      iterate 3 rw [aD _ _ _ _ iw]
      rw [f.o]
      iterate 4 rw [aD _ _ _ _ iw]
      rw [l.o]
      rw [aD _ _ _ _ iw]
      rw [m.o]
      rw [aD _ _ _ _ iw]
      rw [r.o]
      rw [aD _ _ _ _ iw]
      rw [y.o]
      rw [aD _ _ _ _ iw]
      exact eP _ () () (bg (R) 2 [.bool true]) 4 5 1 rfl bE TP
     ·injection P with e
      rw [<- e]
      rw [d.o]
      iterate 3 rw [aD _ _ _ _ iw]
      rw [f.o]
      iterate 4 rw [aD _ _ _ _ iw]
      rw [l.o]
      rw [aD _ _ _ _ iw]
      rw [m.o]
      rw [aD _ _ _ _ iw]
      rw [r.o]
      rw [aD _ _ _ _ iw]
      rw [y.o]
      rw [aD _ _ _ _ iw]
      exact eP _ () () (bg (R) 2 [.bool true]) 4 6 2 rfl bE TP
     ·injection P with e
      rw [<- e]
      rw [d.o]
      iterate 3 rw [aD _ _ _ _ iw]
      rw [f.o]
      iterate 4 rw [aD _ _ _ _ iw]
      rw [l.o]
      rw [aD _ _ _ _ iw]
      rw [m.o]
      rw [aD _ _ _ _ iw]
      rw [r.o]
      rw [aD _ _ _ _ iw]
      rw [y.o]
      rw [aD _ _ _ _ iw]
      exact eP _ () () (bg (R) 2 [.bool true]) 4 7 3 rfl bE TP
     ·injection P with e
      rw [<- e]
      rw [d.o]
      iterate 3 rw [aD _ _ _ _ iw]
      rw [f.o]
      iterate 4 rw [aD _ _ _ _ iw]
      rw [l.o]
      rw [aD _ _ _ _ iw]
      rw [m.o]
      rw [aD _ _ _ _ iw]
      rw [r.o]
      rw [aD _ _ _ _ iw]
      rw [y.o]
      exact eP _ () () (bg (bg (R) 2 [.bool true]) 4 [av ga 0,av gl 0,zi K.join.az,.slice JA K.join.nodes.length jq]) 8 8 0 rfl bE TP
     ·injection P with e
      rw [<- e]
      rw [d.o]
      iterate 3 rw [aD _ _ _ _ iw]
      rw [f.o]
      iterate 4 rw [aD _ _ _ _ iw]
      rw [l.o]
      rw [aD _ _ _ _ iw]
      rw [m.o]
      rw [aD _ _ _ _ iw]
      rw [r.o]
      exact eP _ () () (L) 9 9 0 rfl bE (by have:=QN.o;(try simp only [aT]);simp only [iR,jV];omega)
     ·injection P with e
      rw [<- e]
      rw [d.o]
      iterate 3 rw [aD _ _ _ _ iw]
      rw [f.o]
      iterate 3 rw [aD _ _ _ _ iw]
      exact eP _ () () (C) 10 10 0 rfl bE YV
     ·injection P with e
      rw [<- e]
      rw [d.o]
      iterate 3 rw [aD _ _ _ _ iw]
      rw [f.o]
      iterate 2 rw [aD _ _ _ _ iw]
      exact eP _ () () (bg (C) 10 [.map (some gk)]) 11 11 0 rfl bE YV
     ·injection P with e
      rw [<- e]
      rw [d.o]
      iterate 3 rw [aD _ _ _ _ iw]
      rw [f.o]
      iterate 4 rw [aD _ _ _ _ iw]
      rw [l.o]
      rw [aD _ _ _ _ iw]
      rw [m.o]
      exact eP _ () () (M) 12 12 0 rfl bE (by have:=QT.o;(try simp only [aT]);simp only [iR,jV];omega)
     ·injection P with e
      rw [<- e]
      rw [d.o]
      iterate 3 rw [aD _ _ _ _ iw]
      rw [f.o]
      iterate 4 rw [aD _ _ _ _ iw]
      rw [l.o]
      exact eP _ () () (G) 13 13 0 rfl bE (by have:=Gj.o;(try simp only [aT]);simp only [iR,jV];omega)
     ·injection P with e
      rw [<- e]
      rw [d.o]
      exact eP _ () () (bg (bg (z) 14 T.toList) 184 [zi 0,zi 0,zi 0,zi 0,zi 0]) 189 189 0 rfl bE Q7
     ·injection P with e
      rw [<- e]
      rw [d.o]
      exact eP _ () () (bg (bg (z) 14 T.toList) 184 [zi 0,zi 0,zi 0,zi 0,zi 0]) 189 190 1 rfl bE Q7
     ·injection P with e
      rw [<- e]
      rw [d.o]
      iterate 3 rw [aD _ _ _ _ iw]
      rw [f.o]
      exact eP _ () () (bg (bg (bg (C) 10 [.map (some gk)]) 11 [zi (now - 4)]) 192 [zi now]) 191 191 0 rfl bE YV
     ·injection P with e
      rw [<- e]
      rw [d.o]
      iterate 3 rw [aD _ _ _ _ iw]
      rw [f.o]
      rw [aD _ _ _ _ iw]
      exact eP _ () () (bg (bg (C) 10 [.map (some gk)]) 11 [zi (now - 4)]) 192 192 0 rfl bE YV
    case hd=>
     have e0:((List.replicate 5 aO.zero)[a]?.getD .zero)=.zero:=by rw [List.getElem?_replicate,if_pos ha];rfl
     simp only [e0] at P
     have hj3:=zq P
     rw [d.o]
     rw [aD _ _ _ _ (.inl af),aD _ _ _ _ (.inl af)]
     rw [eP _ () () z 14 (14 + a * 34 + j) (a * 34 + j) af (by rw [YT.o];omega) (by rw [YT.o,yK.o];decide),HZH.o]
     exact Pv a ha j v P
    case rf=>
     rcases (by omega:a=0∨a=1∨a=2∨a=3∨a=4) with rfl | rfl | rfl | rfl | rfl
     ·rw [d.o]
      rw [aD _ _ _ _ iw]
      exact eP _ () () (bg (z) 14 T.toList) 184 184 0 rfl bE Q7
     ·rw [d.o]
      rw [aD _ _ _ _ iw]
      exact eP _ () () (bg (z) 14 T.toList) 184 185 1 rfl bE Q7
     ·rw [d.o]
      rw [aD _ _ _ _ iw]
      exact eP _ () () (bg (z) 14 T.toList) 184 186 2 rfl bE Q7
     ·rw [d.o]
      rw [aD _ _ _ _ iw]
      exact eP _ () () (bg (z) 14 T.toList) 184 187 3 rfl bE Q7
     ·rw [d.o]
      rw [aD _ _ _ _ iw]
      exact eP _ () () (bg (z) 14 T.toList) 184 188 4 rfl bE Q7
    case jn=>exact (kf.jn.mono (K':=fun k=>FJ k/\k < q9.heap.size) fun k F hF=>⟨hF,F⟩).fr f9q fun k F e=>by have:=(kf.dJ k F.1).1;omega
    case h4=>
     exact hD4.fr f9 fun k F e=>by
      rcases hG4 k F with h | h
      ·rw [e] at h
       exact absurd (qg c i 3 4 D.i5 (h3.gF.symm.trans h)) af
      ·omega
    case g4=>exact fun k F=>(hG4 k F).imp id fun h=>⟨af,by have:=hL4 k F;omega⟩
    case h5=>
     refine (iy.mono (K':=fun k=>FA k/\k < q9.heap.size) kf.acc (fun _ h=>h) kf.acc.lt fun k F hF hne=>⟨⟨hF,F⟩,hne⟩).fr f9q fun k F e=>?_
     rcases F with F | ⟨F,-⟩
     ·have:=(kf.dA ga (.inr rfl)).1;have e2:k=ga:=F;omega
     ·have:=(kf.dA k (.inl F.1)).1;omega
    case h6=>exact kf.log.fr f9q fun k F e=>by have:=kf.dL k F;omega
    case h7=>exact hh7.fr f11 fun k F e=>by have e2:k=gh:=F;omega
    case h8=>exact ⟨⟨[],hmv.1.fr f17 (fun e=>af),fun x a=>⟨fun h=>(by cases h),fun h=>(by cases h)⟩⟩,rfl,fun k F=>by have e2:k=gk:=F;have:=hmv.2;have:=f17.size;omega⟩
    case h9=>exact HG.o.fr f13 (fun e=>af)
    case h10=>exact HWA.o.fr f16 (fun e=>af)
    case dA=>
     rintro k (⟨F,hk2⟩ | F)
     ·exact ⟨(kf.dA k (.inl F)).1,hk2,(kf.dA k (.inl F)).2⟩
     ·have e2:k=ga:=F
      subst e2
      exact ⟨(kf.dA _ (.inr rfl)).1,lac,(kf.dA _ (.inr rfl)).2⟩
    case dJ=>exact fun k F=>⟨(kf.dJ k F.1).1,F.2,(kf.dJ k F.1).2⟩
    case dL=>exact fun k F=>⟨kf.dL k F,kf.log.lt k F⟩
    case d7=>exact ⟨by show q9.heap.size<=gh;omega,by show gh < gg;omega,by show gg < gw;omega,by show gw < gk;omega⟩
    case fr=>
     have h1:Fr (fun k=>own k=bM c i 3∨own k=bM c i 4) w w1:=Fr.aj O1.o
     exact h1.trans YA.o
   go_end0
   exact ⟨rfl,HZ⟩
end
end Go.Proofs.YthihpfpbiajddaaGreat
