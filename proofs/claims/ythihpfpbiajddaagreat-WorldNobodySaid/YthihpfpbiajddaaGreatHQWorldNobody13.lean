/- Parts of the proof. -/
import Derived.Test.YthihpfpbiajddaaGreatHQWorldNobody11
import Derived.Test.YthihpfpbiajddaaGreatHQWorldNobody12
set_option maxRecDepth 100000
set_option maxHeartbeats 8000000
open Go.Proofs.Tryz
namespace Go.Proofs.YthihpfpbiajddaaGreat
open Go.RowKit
theorem FC (a b c d e f h i:Value):∀ w,(Instr.field 261 (.agg #[a,b,c,d,e,f,h,i]) 2).run prog w=.ok c w:=fun _=>ay
theorem Ki (n:Nat) (d:1<=n) (h5:n<=5) (w:World):aS 162 #[zi n] w fun e w'=>e=.returned (zi (uD n))/\w=w':=by
 rcases (by omega:n=1∨n=2∨n=3∨n=4∨n=5) with rfl | rfl | rfl | rfl | rfl
 all_goals
  go_enter func162,ntmps162
  go_wp2
  go_ret
  exact ⟨rfl,rfl⟩
theorem Kj (g:Nat) (h:kV) (id node:Int) (d:¬ (0<=node/\node < h.n)) (F:Nat->Prop) (w:World) (H:dz w F g h) :
 aS 124 #[g,zi id,zi node] w fun e w'=>e=.returned (.bool false)/\w=w':=by
 obtain ⟨V,f,i,j⟩:=H.ex
 obtain ⟨c0,c1,f0,f1,k⟩:=bk2 f
 clear f i j H
 by_cases l:node < 0
 ·clear d
  go_enter func124,ntmps124
  go_wp2
  go_ret
  exact ⟨rfl,rfl⟩
 ·have m:(h.n:Int)<=node:=by omega
  clear d
  go_enter func124,ntmps124
  go_wp2
  go_ret
  exact ⟨rfl,rfl⟩
theorem Ci (id node d:Int):∀ (row:List uU) (k:Nat),(∀ j y,j < k->row[j]?=some y->¬ (y.id=id/\y.az=d))->∀ x,row[k]?=some x->x.id=id->x.az=d->nG id node d row=row.set k { x with told:=x.told.set node.toNat true }
 | [],k,_,x,hx,_,_=>by simp at hx
 | y :: l,0,_,x,hx,h1,h2=>by
  simp only [je,Option.some.injEq] at hx
  subst hx
  simp [nG,h1,h2]
 | y :: l,k + 1,hj,x,hx,h1,h2=>by
  have h0:=hj 0 y af rfl
  simp only [nW] at hx
  simp only [nG,if_neg h0,fJ]
  rw [Ci id node d l k (fun j z e f=>hj (j + 1) z af (by simpa using f)) x hx h1 h2]
theorem wM (id node d:Int):∀ (row:List uU),(∀ y∈row,¬ (y.id=id/\y.az=d))->nG id node d row=row
 | [],_=>rfl
 | y :: l,hj=>by
  simp only [nG,if_neg (hj y bE)]
  rw [wM id node d l fun z e=>hj z (by simp [e])]
theorem Cj {α:Type} (f:α->List Value) (size:Nat):∀ (l:List α) (k:Nat) (x y:α) (j:Nat) (u:Value),l[k]?=some x->(∀ z∈l,(f z).length=size)->j < size->f y=(f x).set j u->(l.set k y).flatMap f=(l.flatMap f).set (k * size + j) u
 | [],k,x,y,j,u,hx,_,_,_=>by simp at hx
 | z :: l,0,x,y,j,u,hx,hs,hj,hy=>by
  simp only [je,Option.some.injEq] at hx
  subst hx
  simp only [fM,List.flatMap_cons,Nat.zero_mul,mE,hy]
  rw [List.set_append_left _ _ (by rw [hs z (by simp)];exact hj)]
 | z :: l,k + 1,x,y,j,u,hx,hs,hj,hy=>by
  simp only [nW] at hx
  have d:=hs z bE
  simp only [fJ,List.flatMap_cons]
  rw [Cj f size l k x y j u hx (fun a e=>hs a (by simp [e])) hj hy,List.set_append_right _ _ (by rw [d,Nat.add_mul];omega),d]
  congr 2
  rw [Nat.add_mul]
  omega
def Kk (F:Nat->Prop) (g:Nat) (h':kV) (w:World) (e:Ending) (w':World):Prop:=∃ b,e=.returned (.bool b)/\dz w' F g h'/\Fr F w w'
theorem Kl (F:Nat->Prop) (g:Nat) (h h':kV) (hn:h.row.length<=4) (h5:h.n<=5) (id:Int) (node:Nat) (hb:node < h.n) (hh:h.told id node=h') (w:World) (H:dz w F g h) :
 aS 124 #[g,zi id,zi node] w (Kk F g h' w):=by
 have z:(⟨h.n,nG id node h.last.az h.row⟩:kV)=h':=by rw [<- hh];unfold kV.told;rw [if_pos ⟨by omega,by omega⟩]
 clear hh
 obtain ⟨lx,C,e1,e2,e3⟩:=Kg h
 have hl5:=Kh H.five C
 rw [<- e3] at z
 clear e1 e2 e3
 obtain ⟨M,O,le,tl⟩:=lx
 obtain ⟨l0,P,U,X,Y,rfl⟩:=five hl5
 simp only at z
 have cL:=aa (fun W (hW:Old w W)=>(show aS 185 #[g] W (fun e w'=>e=.returned (.agg #[zi M,zi O,zi le,.bool l0,.bool P,.bool U,.bool X,.bool Y])/\Old W w') from Qi F g h hn _ C W (H.old hW)))
 obtain ⟨V,h1,h2,h3⟩:=H.ex
 obtain ⟨A,ca,rfl,l⟩:=h2.shape
 have H5:=aa H.five
 have HH:=aa H
 have H8:=aa H.len8
 obtain ⟨N,row⟩:=h
 simp only at *
 obtain ⟨m,hm⟩:=aR (row.length)
 rw [hm] at h1 h2 l hn h3
 have B0:=aa h1
 have R0:=aa h2
 have HM:=aa hm
 have HP:=aa z
 have H3:=aa h3
 obtain ⟨c0,c1,f0,f1,hgl⟩:=bk2 h1
 clear h1 h2 h3 H hm C z
 have abt:(node:Int) < N:=af
 go_enter func124,ntmps124
 go_wp2
 go_loopw [29] (fun iv wr=>∃ k:Nat,k<=m/\iv=zi k/\(∀ j y,j < k->row[j]?=some y->¬ (y.id=id/\y.az=le))/\Old w wr) (fun iv _=>m - (intOf iv).toNat)
 case atStart=>exact ⟨0,af,rfl,fun j y hj=>af,Old.refl' w⟩
 case round=>
  obtain ⟨k,hk,rfl,Z,hO⟩:=hrel
  have B:=aa Z
  have OW:=aa hO
  clear Z
  obtain ⟨c0,c1,f0,f1,hgl⟩:=bk2 (B0.o.old hO)
  by_cases hlt:k < m
  ·obtain ⟨b,o,rfl,I,hr,hfz⟩:=(R0.o.old hO).cells af
   clear hO
   have hkr:k < row.length:=by have:=HM.o;omega
   obtain ⟨x,C⟩:∃ x,row[k]?=some x:=⟨_,gG hkr⟩
   obtain ⟨r,xa,s,tl⟩:=x
   have J:=(sw qK 8 row H8.o).2 k
   have r0:wr.cell? ⟨b,o + k * 8,none⟩=some (zi r):=hr (k * 8) _ ((J 0 _ C af).trans rfl)
   have r2:wr.cell? ⟨b,o + k * 8 + 2,none⟩=some (zi s):=(by rw [Nat.add_assoc];exact hr (k * 8 + 2) _ (J 2 _ C (by omega)))
   have f:=aa (fun W (hS:Old wr W)=>(⟨(hS.cell (p:=⟨b,o + k * 8,none⟩) I).trans r0,(hS.cell (p:=⟨b,o + k * 8 + 2,none⟩) I).trans r2,iD I hS.size,trivial⟩:W.cell? ⟨b,o + k * 8,none⟩=some (zi r)/\W.cell? ⟨b,o + k * 8 + 2,none⟩=some (zi s)/\b < W.heap.size/\True))
   have L:=aa C
   clear J hr hfz C
   have hki:(k:Int) < m:=af
   by_cases q1:r=id
   ·subst q1
    by_cases q2:s=le
    ·subst q2
     go_upto_region 7 with fail
     refine aY (R:=pick [eqv (av b (o + k * 8)),eqv (av b (o + k * 8)),eqv (av b (o + k * 8)),eqv (zi r),eqv (zi r),eqv (.bool true),eqv (.bool true),eqv (av b (o + k * 8)),eqv (av b (o + k * 8)),eqv (av b (o + k * 8 + 2)),eqv (zi s),eqv (av g 0),eqv (.agg #[zi M,zi O,zi s,.bool l0,.bool P,.bool U,.bool X,.bool Y]),eqv (zi s),eqv (.bool true),eqv (.bool true)]) (S:=fun _ w'=>Old wr w') (T:=Old) ay ay ay (ai.pick (ai.eqv (ai.eqv (ai.eqv (ai.eqv (ai.eqv (ai.eqv (ai.eqv (ai.eqv (ai.eqv (ai.eqv (ai.eqv (ai.eqv (ai.eqv (ai.eqv (ai.eqv (ai.eqv (ai.nil)))))))))))))))))) ((Old.refl' _).drew') ?steps ?ends
     case steps=>
      refine .cons (zp [] [(8,av b (o + k * 8))]) <|.cons (zp [(0,39)] []) <|.cons (zp [(1,40)] []) ?_
      refine .cons (zp [(2,41)] [] (fun d E w' hk hda hS l n=>by rintro _ q2 rfl e41 ;obtain ⟨u0,u1,u2,u3⟩:=f.o w' hS;exact ⟨_,by go_simp,rfl⟩)) ?_
      refine .cons (zp [] [(1,zi r)]) ?_
      refine .cons (zp [(3,42),(4,43)] [] (fun d E w' hk hda hS l n=>by rintro _ q3 rfl e42 _ q4 rfl e43 ;exact ⟨_,by go_simp,rfl⟩)) ?_
      refine .cons (zp [(5,44)] []) <|.cons (zg 6 45 true [] [(8,av b (o + k * 8))]) <|.cons (zg 6 45 true [(7,46)] []) <|.cons (zg 6 45 true [(8,47)] []) ?_
      refine .cons (zg 6 45 true [(9,48)] [] (fun d E w' hk hda hS l n=>by rintro _ q9 rfl e48 ;obtain ⟨u0,u1,u2,u3⟩:=f.o w' hS;exact ⟨_,by go_simp,rfl⟩)) ?_
      refine .cons (zg 6 45 true [] [(0,g)]) ?_
      refine aH.cons (lC 6 45 true rfl rfl ay (fun _ _ h=>h) [(11,50)] [] ay ay rfl ?_) ?_
      ·exact UG
      refine .cons (zg 6 45 true [(12,51)] [] (fun d E w' hk hda hS l n=>by rintro _ MJ rfl e51 ;have q0:=FC (zi M) (zi O) (zi s) (.bool l0) (.bool P) (.bool U) (.bool X) (.bool Y) w';exact ⟨_,by go_simp,rfl⟩)) ?_
      refine .cons (zg 6 45 true [(10,49),(13,52)] [] (fun d E w' hk hda hS l n=>by rintro _ GI rfl e49 _ TT rfl e52 ;exact ⟨_,by go_simp,rfl⟩)) ?_
      refine .cons (zp [(6,45),(14,53)] [] (fun d E w' hk hda hS l n=>by rintro _ q6 rfl e45 _ Qk rfl e53 ;exact ⟨_,by go_simp,rfl⟩)) ?_
      exact aH.nil
     case ends=>
      intro jA w9 i u
      iterate 16 refine .eqv _ _ rfl (fun _ h=>h) ?_
      refine Ends.nil ?_
      clear u
      simp only [aC,ax,fM,fJ]
      have D:=aa (OW.o.trans' i)
      have K:=R0.o.old D.o
      have HRR:=aa K
      obtain ⟨b',o',eA,abx,hr9,G⟩:=K.cells af
      injection eA with eA
      injection eA with eA1 eA2
      subst eA1 eA2
      have VB:=H5.o _ (EY L.o)
      obtain ⟨t9,ht9⟩:∃ t,tl[node]?=some t:=⟨_,gG (by rw [VB];omega)⟩
      have ea:o + k * 8 + 3 + node=o + (k * 8 + (3 + node)):=af
      have y0:w9.cell? ⟨b,o + k * 8 + 3 + node,none⟩=some (.bool t9):=(by rw [ea];exact hr9 _ _ (((sw qK 8 row H8.o).2 k (3 + node) _ L.o (by omega)).trans (by rw [Nat.add_comm 3 node];simp [qK,ht9])))
      have y1:w9.frozen? ⟨b,o + k * 8 + 3 + node,none⟩=false:=(by rw [ea];exact G _)
      have EA:=aa ea
      clear ea
      have Zb:=aa (B0.o.old D.o)
      clear i K hr9 G
      have Ql:(node:Int) < 5:=af
      go_wp2
      go_ret
      have hne:¬ g=b:=fun e=>HRR.o.Fz Zb.o aW (by rw [e];rfl)
      have e:=Ci r node s row k B.o _ L.o rfl rfl
      refine ⟨true,rfl,?_,(Fr.aj D.o).setCell (p:=⟨b,o + k * 8 + 3 + node,none⟩) (.inr (H3.o b rfl)) _⟩
      rw [<- HP.o,e]
      refine ⟨⟨.slice (some ⟨b,o,none⟩) m ca,Zb.o.fr (S:=fun k=>k=b) (Fr.setCell (S:=fun k=>k=b) (p:=⟨b,o + k * 8 + 3 + node,none⟩) (Fr.refl _ _) (.inr rfl) _) hne,?_,H3.o⟩,fun y hy=>?_,HH.o.gF,fun k hk=>by have:=HH.o.lt k hk;have:=D.o.size;simp;omega⟩
      ·have hs:=Cj qK 8 row k _ (⟨r,xa,s,tl.set node true⟩:uU) (3 + node) (.bool true) L.o H8.o af (by rw [Nat.add_comm 3 node];simp [qK,List.map_set])
       show eX _ _ _ _ (row.set k _).length ((row.set k (⟨r,xa,s,tl.set node true⟩:uU)).flatMap qK)
       rw [hs,Rm,HM.o,EA.o]
       exact HRR.o.store _ _
      ·rcases List.mem_or_eq_of_mem_set hy with e | rfl
       ·exact H5.o y e
       ·simpa using VB
    ·go_upto_region 7 with fail
     refine aY (R:=pick [eqv (av b (o + k * 8)),eqv (av b (o + k * 8)),eqv (av b (o + k * 8)),eqv (zi r),eqv (zi r),eqv (.bool true),eqv (.bool true),eqv (av b (o + k * 8)),eqv (av b (o + k * 8)),eqv (av b (o + k * 8 + 2)),eqv (zi s),eqv (av g 0),eqv (.agg #[zi M,zi O,zi le,.bool l0,.bool P,.bool U,.bool X,.bool Y]),eqv (zi le),eqv (.bool false),eqv (.bool false)]) (S:=fun _ w'=>Old wr w') (T:=Old) ay ay ay (ai.pick (ai.eqv (ai.eqv (ai.eqv (ai.eqv (ai.eqv (ai.eqv (ai.eqv (ai.eqv (ai.eqv (ai.eqv (ai.eqv (ai.eqv (ai.eqv (ai.eqv (ai.eqv (ai.eqv (ai.nil)))))))))))))))))) ((Old.refl' _).drew') ?steps ?ends
     case steps=>
      refine .cons (zp [] [(8,av b (o + k * 8))]) <|.cons (zp [(0,39)] []) <|.cons (zp [(1,40)] []) ?_
      refine .cons (zp [(2,41)] [] (fun d E w' hk hda hS l n=>by rintro _ q2 rfl e41 ;obtain ⟨u0,u1,u2,u3⟩:=f.o w' hS;exact ⟨_,by go_simp,rfl⟩)) ?_
      refine .cons (zp [] [(1,zi r)]) ?_
      refine .cons (zp [(3,42),(4,43)] [] (fun d E w' hk hda hS l n=>by rintro _ q3 rfl e42 _ q4 rfl e43 ;exact ⟨_,by go_simp,rfl⟩)) ?_
      refine .cons (zp [(5,44)] []) <|.cons (zg 6 45 true [] [(8,av b (o + k * 8))]) <|.cons (zg 6 45 true [(7,46)] []) <|.cons (zg 6 45 true [(8,47)] []) ?_
      refine .cons (zg 6 45 true [(9,48)] [] (fun d E w' hk hda hS l n=>by rintro _ q9 rfl e48 ;obtain ⟨u0,u1,u2,u3⟩:=f.o w' hS;exact ⟨_,by go_simp,rfl⟩)) ?_
      refine .cons (zg 6 45 true [] [(0,g)]) ?_
      refine aH.cons (lC 6 45 true rfl rfl ay (fun _ _ h=>h) [(11,50)] [] ay ay rfl ?_) ?_
      ·exact UG
      refine .cons (zg 6 45 true [(12,51)] [] (fun d E w' hk hda hS l n=>by rintro _ MJ rfl e51 ;have q0:=FC (zi M) (zi O) (zi le) (.bool l0) (.bool P) (.bool U) (.bool X) (.bool Y) w';exact ⟨_,by go_simp,rfl⟩)) ?_
      refine .cons (zg 6 45 true [(10,49),(13,52)] [] (fun d E w' hk hda hS l n=>by rintro _ GI rfl e49 _ TT rfl e52 ;exact ⟨_,by go_simp,rfl⟩)) ?_
      refine .cons (zp [(6,45),(14,53)] [] (fun d E w' hk hda hS l n=>by rintro _ q6 rfl e45 _ Qk rfl e53 ;exact ⟨_,by go_simp,rfl⟩)) ?_
      exact aH.nil
     case ends=>
      intro jA w9 i u
      iterate 16 refine .eqv _ _ rfl (fun _ h=>h) ?_
      refine Ends.nil ?_
      clear u
      simp only [aC,ax,fM,fJ]
      have D:=aa (OW.o.trans' i)
      clear i
      go_wp2
      go_roundw
      case rel=>exact ⟨k + 1,af,oP,fun j y hj hy=>by
       by_cases e:j=k
       ·subst e
        rw [L.o] at hy
        injection hy with hy
        subst hy
        exact fun h=>q2 h.2
       ·exact B.o j y af hy,D.o⟩
      case measure=>simp [intOf];omega
   ·go_upto_region 7 with fail
    refine aY (R:=pick [eqv (av b (o + k * 8)),eqv (av b (o + k * 8)),eqv (av b (o + k * 8)),eqv (zi r),eqv (zi id),eqv (.bool false),eqv (.bool false),eqv (undef),eqv (undef),eqv (undef),eqv (undef),eqv (undef),eqv (undef),eqv (undef),eqv (undef),eqv (.bool false)]) (S:=fun _ w'=>Old wr w') (T:=Old) ay ay ay (ai.pick (ai.eqv (ai.eqv (ai.eqv (ai.eqv (ai.eqv (ai.eqv (ai.eqv (ai.eqv (ai.eqv (ai.eqv (ai.eqv (ai.eqv (ai.eqv (ai.eqv (ai.eqv (ai.eqv (ai.nil)))))))))))))))))) ((Old.refl' _).drew') ?steps ?ends
    case steps=>
     refine .cons (zp [] [(8,av b (o + k * 8))]) <|.cons (zp [(0,39)] []) <|.cons (zp [(1,40)] []) ?_
     refine .cons (zp [(2,41)] [] (fun d E w' hk hda hS l n=>by rintro _ q2 rfl e41 ;obtain ⟨u0,u1,u2,u3⟩:=f.o w' hS;exact ⟨_,by go_simp,rfl⟩)) ?_
     refine .cons (zp [] [(1,zi id)]) ?_
     refine .cons (zp [(3,42),(4,43)] [] (fun d E w' hk hda hS l n=>by rintro _ q3 rfl e42 _ q4 rfl e43 ;exact ⟨_,by go_simp,rfl⟩)) ?_
     refine .cons (zp [(5,44)] []) <|.cons (zk 6 45 false) <|.cons (zk 6 45 false) <|.cons (zk 6 45 false) <|.cons (zk 6 45 false) <|.cons (zk 6 45 false) <|.cons (zk 6 45 false) <|.cons (zk 6 45 false) <|.cons (zk 6 45 false) ?_
     refine .cons (zp [(6,45),(14,53)] [] (fun d E w' hk hda hS l n=>by rintro _ q6 rfl e45 _ Qk rfl e53 ;exact ⟨_,by go_simp,rfl⟩)) ?_
     exact aH.nil
    case ends=>
     intro jA w9 i u
     iterate 16 refine .eqv _ _ rfl (fun _ h=>h) ?_
     refine Ends.nil ?_
     clear u
     simp only [aC,ax,fM,fJ]
     have D:=aa (OW.o.trans' i)
     clear i
     go_wp2
     go_roundw
     case rel=>exact ⟨k + 1,af,oP,fun j y hj hy=>by
      by_cases e:j=k
      ·subst e
       rw [L.o] at hy
       injection hy with hy
       subst hy
       exact fun h=>q1 h.1
      ·exact B.o j y af hy,D.o⟩
     case measure=>simp [intOf];omega
  ·obtain rfl:k=m:=by omega
   clear hO
   go_wp2
   go_ret
   refine ⟨false,rfl,?_,Fr.aj OW.o⟩
   have e:nG id node le row=row:=wM _ _ _ _ fun y hy=>by
    obtain ⟨j,hj,rfl⟩:=List.getElem_of_mem hy
    exact B.o j _ (by have:=HM.o;omega) (gG hj)
   have:=HP.o
   rw [e] at this
   rw [<- this]
   exact HH.o.old OW.o
def ku (l:List Bool) (j:Nat):Nat:=(l.take j).count true
def AJ (n:Nat) (now az:Int) (x:uU):Bool:=decide (x.az=az) && decide (uD n<=x.told.count true) && decide (x.asked<=now) && decide (now - x.asked < 20)
theorem RV (F:Nat->Prop) (g:Nat) (h:kV) (hn:h.row.length<=4) (Y:1<=h.n) (Z:h.n<=5) (now d:Int) (zS:0<=now/\now<=1152921504606846976) (K:∀ x∈h.row,0<=x.asked/\x.asked<=1152921504606846976) (bb:Bool) (hb:h.valid now d=bb) (w:World) (H:dz w F g h) :
 aS 103 #[g,zi now,zi d] w fun e w'=>e=.returned (.bool bb)/\Old w w':=by
 obtain ⟨hw1,hw2⟩:=zS
 obtain ⟨V,h1,h2,h3⟩:=H.ex
 obtain ⟨A,ca,rfl,hc⟩:=h2.shape
 have H5:=aa H.five
 have H8:=aa H.len8
 have HAS:=aa K
 obtain ⟨N,row⟩:=h
 simp only at *
 have HB:kN (row.any (AJ N now d)=bb):=aa hb
 have U:=aa (fun W=>Ki N Y Z W)
 obtain ⟨M,hM⟩:=aR (uD N)
 have hM5:M<=3:=by rw [<- hM];unfold uD;omega
 rw [hM] at U
 have HMO:=aa hM
 obtain ⟨m,hm⟩:=aR (row.length)
 rw [hm] at h1 h2 hc hn h3
 have B0:=aa h1
 have R0:=aa h2
 have HM:=aa hm
 obtain ⟨c0,c1,f0,f1,O⟩:=bk2 h1
 clear h1 h2 h3 H hm K hb hM Y Z
 go_enter func103,ntmps103
 go_wp2
 go_loopw [20] (fun iv wr=>∃ k:Nat,k<=m/\iv=zi k/\(∀ j y,j < k->row[j]?=some y->AJ N now d y=false)/\Old w wr) (fun iv _=>m - (intOf iv).toNat)
 case atStart=>exact ⟨0,af,rfl,fun j y J=>af,Old.refl' w⟩
 case round=>
  obtain ⟨k,hk,rfl,hno,hO⟩:=hrel
  have n:=aa hno
  have OW:=aa hO
  clear hno
  obtain ⟨c0,c1,f0,f1,O⟩:=bk2 (B0.o.old hO)
  by_cases hlt:k < m
  ·obtain ⟨b,o,rfl,hbl,hr,hfz⟩:=(R0.o.old hO).cells af
   clear hO hfz
   have hkr:k < row.length:=by have:=HM.o;omega
   obtain ⟨x,hx⟩:∃ x,row[k]?=some x:=⟨_,gG hkr⟩
   have P:=EY hx
   have VB:=H5.o x P
   have R:=HAS.o x P
   obtain ⟨p,i,l,tl⟩:=x
   obtain ⟨t0,t1,t2,t3,t4,rfl⟩:=five VB
   simp only at R
   obtain ⟨R,aby⟩:=R
   have S:=(sw qK 8 row H8.o).2 k
   have r0:wr.cell? ⟨b,o + k * 8,none⟩=some (zi p):=hr (k * 8) _ ((S 0 _ hx af).trans rfl)
   have L:∀ (j:Nat) (u:Value),j < 8->(qK ⟨p,i,l,[t0,t1,t2,t3,t4]⟩)[j]?=some u->wr.cell? ⟨b,o + k * 8 + j,none⟩=some u:=fun j u J hu=>by
    rw [Nat.add_assoc]
    exact hr (k * 8 + j) _ ((S j _ hx J).trans hu)
   have r1:=L 1 _ af rfl
   have r2:=L 2 _ af rfl
   have r3:=L 3 _ af rfl
   have r4:=L 4 _ af rfl
   have r5:=L 5 _ af rfl
   have r6:=L 6 _ af rfl
   have r7:=L 7 _ af rfl
   have HX:=aa hx
   clear S hr L hx P VB hkr
   have hki:(k:Int) < m:=af
   obtain ⟨wo,rfl⟩:∃ wo:World,wo=wr:=⟨_,rfl⟩
   go_wp2
   have X:=aa (OW.o.trans' ((Old.refl' wo).ag (.cells #[zi p,zi i,zi l,.bool t0,.bool t1,.bool t2,.bool t3,.bool t4] 261)))
   obtain ⟨x0,x1,x2,x3,x4,x5,x6,x7,x8⟩:=VA (Bk.new wo 261 #[zi p,zi i,zi l,.bool t0,.bool t1,.bool t2,.bool t3,.bool t4])
   clear r0 r1 r2 r3 r4 r5 r6 r7
   generalize wo.alloc (.cells #[zi p,zi i,zi l,.bool t0,.bool t1,.bool t2,.bool t3,.bool t4] 261)=wn at *
   clear c0 c1 f0 f1 O
   obtain ⟨c0,c1,f0,f1,O⟩:=bk2 (B0.o.old X.o)
   go_loopw [9,26] (fun v9 T wr=>∃ j:Nat,j<=5/\v9=zi (ku [t0,t1,t2,t3,t4] j)/\T=zi j/\wr=wn) (fun _ T _=>5 - (intOf T).toNat)
   case atStart=>exact ⟨0,af,rfl,rfl,rfl⟩
   case round=>
    obtain ⟨j,J,rfl,rfl,rfl⟩:=hrel
    rcases (by omega:j=0∨j=1∨j=2∨j=3∨j=4∨j=5) with rfl | rfl | rfl | rfl | rfl | rfl
    ·have r:kN (ku [t0,t1,t2,t3,t4] 1=ku [t0,t1,t2,t3,t4] 0 + (if t0 then 1 else 0)):=aa Uo
     obtain ⟨c,hc⟩:=aR (ku [t0,t1,t2,t3,t4] 0)
     have s:c<=5:=TQ
     rw [hc] at r ⊢
     have z:IntKind.i64.wrap ((c:Int) + 1)=(c:Int) + 1:=kP _ af
     clear hc
     cases t0
     ·have e:ku _ 1=c:=r.o
      have E:=aa e
      clear r e
      go_wp2
      rename_i f
      refine f _ _ ?_
      go_wp2
      go_roundw
      case rel=>exact ⟨1,af,by rw [E.o],rfl,IQ⟩
      case measure=>simp [intOf]
     ·have e:ku _ 1=c + 1:=r.o
      have E:=aa e
      clear r e
      go_wp2
      rename_i f
      refine f _ _ ?_
      go_wp2
      go_roundw
      case rel=>exact ⟨1,af,by rw [E.o];go_num,rfl,IQ⟩
      case measure=>simp [intOf]
    ·have B:kN (ku [t0,t1,t2,t3,t4] 2=ku [t0,t1,t2,t3,t4] 1 + (if t1 then 1 else 0)):=aa Uo
     obtain ⟨c,hc⟩:=aR (ku [t0,t1,t2,t3,t4] 1)
     have s:c<=5:=TQ
     rw [hc] at B ⊢
     have z:IntKind.i64.wrap ((c:Int) + 1)=(c:Int) + 1:=kP _ af
     clear hc
     cases t1
     ·have e:ku _ 2=c:=B.o
      have E:=aa e
      clear B e
      go_wp2
      rename_i f
      refine f _ _ ?_
      go_wp2
      go_roundw
      case rel=>exact ⟨2,af,by rw [E.o],rfl,IQ⟩
      case measure=>simp [intOf]
     ·have e:ku _ 2=c + 1:=B.o
      have E:=aa e
      clear B e
      go_wp2
      rename_i f
      refine f _ _ ?_
      go_wp2
      go_roundw
      case rel=>exact ⟨2,af,by rw [E.o];go_num,rfl,IQ⟩
      case measure=>simp [intOf]
    ·have C:kN (ku [t0,t1,t2,t3,t4] 3=ku [t0,t1,t2,t3,t4] 2 + (if t2 then 1 else 0)):=aa Uo
     obtain ⟨c,hc⟩:=aR (ku [t0,t1,t2,t3,t4] 2)
     have s:c<=5:=TQ
     rw [hc] at C ⊢
     have z:IntKind.i64.wrap ((c:Int) + 1)=(c:Int) + 1:=kP _ af
     clear hc
     cases t2
     ·have e:ku _ 3=c:=C.o
      have E:=aa e
      clear C e
      go_wp2
      rename_i f
      refine f _ _ ?_
      go_wp2
      go_roundw
      case rel=>exact ⟨3,af,by rw [E.o],rfl,IQ⟩
      case measure=>simp [intOf]
     ·have e:ku _ 3=c + 1:=C.o
      have E:=aa e
      clear C e
      go_wp2
      rename_i f
      refine f _ _ ?_
      go_wp2
      go_roundw
      case rel=>exact ⟨3,af,by rw [E.o];go_num,rfl,IQ⟩
      case measure=>simp [intOf]
    ·have D:kN (ku [t0,t1,t2,t3,t4] 4=ku [t0,t1,t2,t3,t4] 3 + (if t3 then 1 else 0)):=aa Uo
     obtain ⟨c,hc⟩:=aR (ku [t0,t1,t2,t3,t4] 3)
     have s:c<=5:=TQ
     rw [hc] at D ⊢
     have z:IntKind.i64.wrap ((c:Int) + 1)=(c:Int) + 1:=kP _ af
     clear hc
     cases t3
     ·have e:ku _ 4=c:=D.o
      have E:=aa e
      clear D e
      go_wp2
      rename_i f
      refine f _ _ ?_
      go_wp2
      go_roundw
      case rel=>exact ⟨4,af,by rw [E.o],rfl,IQ⟩
      case measure=>simp [intOf]
     ·have e:ku _ 4=c + 1:=D.o
      have E:=aa e
      clear D e
      go_wp2
      rename_i f
      refine f _ _ ?_
      go_wp2
      go_roundw
      case rel=>exact ⟨4,af,by rw [E.o];go_num,rfl,IQ⟩
      case measure=>simp [intOf]
    ·have G:kN (ku [t0,t1,t2,t3,t4] 5=ku [t0,t1,t2,t3,t4] 4 + (if t4 then 1 else 0)):=aa Uo
     obtain ⟨c,hc⟩:=aR (ku [t0,t1,t2,t3,t4] 4)
     have s:c<=5:=TQ
     rw [hc] at G ⊢
     have z:IntKind.i64.wrap ((c:Int) + 1)=(c:Int) + 1:=kP _ af
     clear hc
     cases t4
     ·have e:ku _ 5=c:=G.o
      have E:=aa e
      clear G e
      go_wp2
      rename_i f
      refine f _ _ ?_
      go_wp2
      go_roundw
      case rel=>exact ⟨5,af,by rw [E.o],rfl,IQ⟩
      case measure=>simp [intOf]
     ·have e:ku _ 5=c + 1:=G.o
      have E:=aa e
      clear G e
      go_wp2
      rename_i f
      refine f _ _ ?_
      go_wp2
      go_roundw
      case rel=>exact ⟨5,af,by rw [E.o];go_num,rfl,IQ⟩
      case measure=>simp [intOf]
    ·obtain ⟨c,hc⟩:=aR (ku [t0,t1,t2,t3,t4] 5)
     have s:c<=5:=TQ
     have I:AJ N now d ⟨p,i,l,[t0,t1,t2,t3,t4]⟩=(decide (l=d) && decide (M<=c) && decide (i<=now) && decide (now - i < 20)):=by
      unfold AJ
      rw [HMO.o,show List.count true [t0,t1,t2,t3,t4]=c from hc]
     rw [hc]
     clear hc
     have z:IntKind.i64.wrap (now - i)=now - i:=kP _ af
     by_cases q1:l=d
     ·by_cases q2:M<=c
      ·by_cases q3:i<=now
       ·by_cases q4:now - i < 20
        ·have NT:kN (AJ N now d ⟨p,i,l,[t0,t1,t2,t3,t4]⟩=true):=aa (by rw [I,decide_eq_true q1,decide_eq_true q2,decide_eq_true q3,decide_eq_true q4];rfl)
         clear I
         go_wp2_with (go_at_call 162;refine (U.o _).mono ?_;rintro e w1 ⟨rfl,rfl⟩)
         go_ret
         have e:bb=true:=by rw [<- HB.o];exact List.any_eq_true.2 ⟨_,EY HX.o,NT.o⟩
         subst e
         exact ⟨rfl,X.o⟩
        ·have HBAD:kN (AJ N now d ⟨p,i,l,[t0,t1,t2,t3,t4]⟩=false):=aa (by rw [I,decide_eq_false q4,Bool.and_false])
         clear I
         go_wp2_with (go_at_call 162;refine (U.o _).mono ?_;rintro e w1 ⟨rfl,rfl⟩)
         go_roundw
         case rel=>exact ⟨k + 1,af,oP,fun j y J hy=>by
          by_cases e:j=k
          ·exact MV
          ·exact n.o j y af hy,X.o⟩
         case measure=>simp [intOf];omega
       ·have HBAD:kN (AJ N now d ⟨p,i,l,[t0,t1,t2,t3,t4]⟩=false):=aa (by rw [I,decide_eq_false q3,Bool.and_false,Bool.false_and])
        clear I
        go_wp2_with (go_at_call 162;refine (U.o _).mono ?_;rintro e w1 ⟨rfl,rfl⟩)
        go_roundw
        case rel=>exact ⟨k + 1,af,oP,fun j y J hy=>by
         by_cases e:j=k
         ·exact MV
         ·exact n.o j y af hy,X.o⟩
        case measure=>simp [intOf];omega
      ·have HBAD:kN (AJ N now d ⟨p,i,l,[t0,t1,t2,t3,t4]⟩=false):=aa (by rw [I,decide_eq_false q2,Bool.and_false,Bool.false_and,Bool.false_and])
       clear I
       go_wp2_with (go_at_call 162;refine (U.o _).mono ?_;rintro e w1 ⟨rfl,rfl⟩)
       go_roundw
       case rel=>exact ⟨k + 1,af,oP,fun j y J hy=>by
        by_cases e:j=k
        ·exact MV
        ·exact n.o j y af hy,X.o⟩
       case measure=>simp [intOf];omega
     ·have HBAD:kN (AJ N now d ⟨p,i,l,[t0,t1,t2,t3,t4]⟩=false):=aa (by rw [I,decide_eq_false q1,Bool.false_and,Bool.false_and,Bool.false_and])
      clear I
      go_wp2_with (go_at_call 162;refine (U.o _).mono ?_;rintro e w1 ⟨rfl,rfl⟩)
      go_roundw
      case rel=>exact ⟨k + 1,af,oP,fun j y J hy=>by
       by_cases e:j=k
       ·exact MV
       ·exact n.o j y af hy,X.o⟩
      case measure=>simp [intOf];omega
  ·obtain rfl:k=m:=by omega
   clear hO
   go_wp2
   go_ret
   have e:bb=false:=by
    rw [<- HB.o]
    refine List.any_eq_false.2 fun y hy=>?_
    obtain ⟨j,J,rfl⟩:=List.getElem_of_mem hy
    rw [n.o j _ (by have:=HM.o;omega) (gG J)]
    decide
   subst e
   exact ⟨rfl,OW.o⟩
structure wN (w:World) (F K:Nat->Prop) (g:Nat) (t:jF):Prop where
 ex:∃ A1 q1 A2 q2 A3 q3 A4 q4,Bk w g 304 #[zi t.n,zi t.b.round,zi t.b.node,zi t.c.az,.slice A1 t.c.nodes.length q1,.slice A2 t.promised.length q2,.slice A3 t.said.length q3,.bool t.best.isSome,zi (t.best.getD (.zero,.zero)).1.round,zi (t.best.getD (.zero,.zero)).1.node,zi (t.best.getD (.zero,.zero)).2.az,.slice A4 (t.best.getD (.zero,.zero)).2.nodes.length q4]/\
  t.c.nodes.length<=q1/\fD w (fun k=>K k/\¬ F k) A1 t.c.nodes/\
  w.ownsRow 0 3 1 (.slice A2 t.promised.length q2) t.promised.length (t.promised.map (Value.int .i64))/\(∀ k,(Value.slice A2 t.promised.length q2).ownBlock=some k->F k)/\
  w.ownsRow 0 3 1 (.slice A3 t.said.length q3) t.said.length (t.said.map (Value.int .i64))/\(∀ k,(Value.slice A3 t.said.length q3).ownBlock=some k->F k)/\(∀ k,(Value.slice A2 t.promised.length q2).ownBlock=some k->(Value.slice A3 t.said.length q3).ownBlock≠some k)/\
  (t.best.getD (.zero,.zero)).2.nodes.length<=q4/\fD w (fun k=>K k/\¬ F k) A4 (t.best.getD (.zero,.zero)).2.nodes
 gF:F g
 lt:∀ k,F k->k < w.heap.size
theorem wN.fr {w w':World} {F K S:Nat->Prop} {g:Nat} {t:jF} (h:wN w F K g t) (e:Fr S w w') (f:∀ k,F k∨K k->¬ S k):wN w' F K g t:=by
 obtain ⟨i,q1,A2,j,l,m,n,p,r,s,u,x,h4,h5,h6,h7,y,h8⟩:=h.ex
 exact ⟨⟨i,q1,A2,j,l,m,n,p,r.fr e (f g (.inl h.gF)),s,u.fr e (fun k d=>f k (.inr d.1)),dh x e (fun k d=>f k (.inl (h4 k d))),h4,dh h5 e (fun k d=>f k (.inl (h6 k d))),h6,h7,y,h8.fr e (fun k d=>f k (.inr d.1))⟩,h.gF,fun k d=>iD (h.lt k d) e.size⟩
def wO:List aG->Int->Int
 | [],_=>0
 | q :: r,c=>if q.client=c then q.seq else wO r c
def AL:List aG->Int->Nat
 | [],_=>0
 | q :: r,i=>if q.id=i then r.length + 1 else AL r i
def fK (qs:List aG) (c:Int):Int:=wO qs.reverse c
def pQ (qs:List aG) (i:Int):Nat:=AL qs.reverse i
theorem oz (d:List aG) (q:aG) (c:Int):fK (d ++ [q]) c=if q.client=c then q.seq else fK d c:=by simp [fK,wO]
theorem uH (d:List aG) (q:aG) (i:Int):pQ (d ++ [q]) i=if q.id=i then d.length + 1 else pQ d i:=by simp [pQ,AL]
structure dW where
 aI:Int
 qs:List aG
 k:Nat
def dW.new (aI:Int):dW:=⟨aI,[],0⟩
def dW.may (l:dW) (q:aG):Bool:=q.q.may && dU q.kind && decide (fK l.qs q.client < q.seq)
def dW.put (l:dW) (q:aG):dW:=if l.may q then ⟨l.aI,l.qs ++ [q],l.k⟩ else l
def dW.err (l:dW) (q:aG):Int:=if q.q.may && dU q.kind then (if fK l.qs q.client < q.seq then 0 else 9) else 1
def dW.at_ (l:dW) (q:aG):Nat:=if l.may q then l.qs.length + 1 else 0
def dW.st (l:dW):fG:=iP l.aI (l.qs.take l.k)
def dW.bD (l:dW) (n:Nat):dW:=⟨l.aI,l.qs,n⟩
def dW.rep (l:dW) (j:Nat):om:=(iP l.aI (l.qs.take j)).rep (l.qs[j]?.getD default).q
def wP (qs:List aG):Prop:=∀ j q,qs[j]?=some q->q.q.may=true/\dU q.kind=true/\fK (qs.take j) q.client < q.seq
theorem wP.nil:wP []:=fun j q h=>by simp at h
theorem wP.snoc {e:List aG} (h:wP e) {q:aG} (i:q.q.may=true) (m:dU q.kind=true) (p:fK e q.client < q.seq):wP (e ++ [q]):=fun j x d=>by
 rcases Nat.lt_trichotomy j e.length with f | f | f
 ·rw [BG f] at d
  have:=h j x d
  rwa [List.take_append_of_le_length af]
 ·subst f
  simp at d
  subst d
  rw [List.take_append_of_le_length (dN _),List.take_of_length_le (dN _)]
  exact ⟨i,m,p⟩
 ·rw [Jb jR] at d
  cases d
theorem dW.rY {l:dW} {q:aG}:l.may q=true↔q.q.may=true/\dU q.kind=true/\fK l.qs q.client < q.seq:=by
 simp [dW.may,and_assoc]
theorem qZ (d:Int) {f:List aG} (h:wP f):∀ k,k<=f.length->(iP d (f.take k)).n=k/\∀ c,((iP d (f.take k)).ss c).seq=fK (f.take k) c:=by
 intro k
 induction k with
 | zero=>intro _;exact ⟨rfl,fun c=>rfl⟩
 | succ k ih=>
  intro u
  obtain ⟨i1,i2⟩:=ih af
  have i:k < f.length:=af
  obtain ⟨m,p,r⟩:=h k f[k] (gG i)
  rw [MG i,y7]
  have s:(iP d (f.take k)).may f[k].q=true:=by
   unfold fG.may
   rw [m,show f[k].q.kind=f[k].kind from rfl,p,show f[k].q.client=f[k].client from rfl,i2,show f[k].q.seq=f[k].seq from rfl]
   simpa using r
  have e:(iP d (f.take k)).put f[k].q=(iP d (f.take k)).done f[k].q:=by unfold fG.put;rw [s];rfl
  rw [e]
  refine ⟨by show (iP d (f.take k)).n + 1=k + 1;rw [i1],fun c=>?_⟩
  rw [oz]
  show (if c=f[k].client then (⟨f[k].seq,_,_⟩:jZ) else (iP d (f.take k)).ss c).seq=_
  by_cases j:f[k].client=c
  ·rw [if_pos j.symm,if_pos j]
  ·rw [if_neg (fun e=>j e.symm),if_neg j,i2]
theorem Ck (d:Int) {e:List aG} (h:wP e) {k:Nat} (f:k < e.length) :
 (iP d (e.take k)).err e[k].q=0/\(iP d (e.take k)).may e[k].q=true/\(iP d (e.take k)).put e[k].q=iP d (e.take (k + 1)):=by
 obtain ⟨i1,i2⟩:=qZ d h k af
 obtain ⟨m,p,r⟩:=h k e[k] (gG f)
 have i:((iP d (e.take k)).ss e[k].q.client).seq < e[k].q.seq:=by
  rw [show e[k].q.client=e[k].client from rfl,i2];exact r
 have j:(e[k].q.may && dU e[k].q.kind)=true:=by rw [m];exact p
 refine ⟨?_,?_,?_⟩
 ·unfold fG.err
  rw [j,if_pos rfl,if_pos i]
 ·unfold fG.may
  rw [j]
  simpa using i
 ·rw [MG f,y7]
theorem dW.aai {l:dW} (h:wP l.qs) (d:l.k<=l.qs.length):l.st.n=l.k:=(qZ l.aI h l.k d).1
theorem RX {s:fG} {q:Q}:(s.rep q).vs=[]:=by
 unfold fG.rep
 split
 ·rename_i h
  unfold fG.may at h
  simp only [kE] at h
  exact JY h.1.2
 ·rfl
structure nH (w:World) (g:Nat) (cs:Array Value) (V:Value) (n:Nat) (xs:List Value) (R:Value) (k:Nat) (rs:List Value) (gs:Nat) (Fs:Nat->Prop) (st:fG):Prop where
 bk:Bk w g 199 cs
 row:w.ownsRow 0 36 6 V n xs
 qD:w.ownsRow 0 49 4 R k rs
 He:kS w gs Fs st
 sg:¬ Fs g
 sv:∀ b,V.ownBlock=some b->¬ Fs b
 sr:∀ b,R.ownBlock=some b->¬ Fs b
def RY (g:Nat) (V R:Value) (Fs:Nat->Prop) (k:Nat):Prop:=k=g∨V.ownBlock=some k∨R.ownBlock=some k∨Fs k
structure MK (cs:Array Value) (V R:Value) (gs:Nat) (aI:Int) (qs:List aG):Prop where
 q0:cs[0]?=some (zi aI)
 l0:cs[1]?=some V
 sq:∀ c:Nat,c < 4->cs[2 + c]?=some (zi (fK qs c))
 tc:∀ i:Nat,i < 32->cs[6 + i]?=some (zi (pQ qs i))
 s0:cs[38]?=some (av gs 0)
 r0:cs[39]?=some R
def pR (l:dW) (rs:List Value):Prop:=∀ j,j < l.k->rs[j * 4]?=some (zi (l.rep j).code)/\rs[j * 4 + 1]?=some (zi (l.rep j).fQ)/\rs[j * 4 + 2]?=some (.string (l.rep j).data)/\∃ A c,rs[j * 4 + 3]?=some (.slice A 0 c)
structure eZ (w:World) (g:Nat) (F:Nat->Prop) (l:dW):Prop where
 ex:∃ cs V R rs gs Fs,nH w g cs V l.qs.length (l.qs.flatMap aG.cells) R l.k rs gs Fs l.st/\MK cs V R gs l.aI l.qs/\pR l rs/\∀ k,RY g V R Fs k->F k
 ok:wP l.qs
 kl:l.k<=l.qs.length
 lt:∀ k,F k->k < w.heap.size
section
variable {w w':World} {g n k gs:Nat} {cs:Array Value} {V R:Value} {xs rs:List Value} {F Fs S:Nat->Prop} {st:fG} {l:dW}
theorem nH.fr (h:nH w g cs V n xs R k rs gs Fs st) (e:Fr S w w') (f:∀ k,RY g V R Fs k->¬ S k):nH w' g cs V n xs R k rs gs Fs st:=
 ⟨h.bk.fr e (f g (.inl rfl)),dh h.row e (fun b d=>f b (.inr (.inl d))),dh h.qD e (fun b d=>f b (.inr (.inr (.inl d)))),h.He.fr e (fun b d=>f b (.inr (.inr (.inr d)))),h.sg,h.sv,h.sr⟩
theorem nH.old (h:nH w g cs V n xs R k rs gs Fs st) (d:Old w w'):nH w' g cs V n xs R k rs gs Fs st:=h.fr (S:=fun _=>False) (Fr.aj d) (fun _ _ h=>h)
theorem jK {e:TypeId} {size:Nat} (h:w.ownsRow 0 e size V n xs) {b:Nat} (d:V.ownBlock=some b):b < w.heap.size:=(iO h d).2.elim fun _ h=>h.lt
theorem nH.lt (h:nH w g cs V n xs R k rs gs Fs st) {b:Nat} (d:RY g V R Fs b):b < w.heap.size:=by
 rcases d with rfl | d | d | d
 ·exact h.bk.lt
 ·exact jK h.row d
 ·exact jK h.qD d
 ·exact h.He.lt b d
theorem nH.Qm (h:nH w g cs V n xs R k rs gs Fs st) {b:Nat} (d:V.ownBlock=some b):R.ownBlock≠some b:=fun e=>by
 obtain ⟨-,c1,b1⟩:=iO h.row d
 obtain ⟨-,c2,b2⟩:=iO h.qD e
 exact Bk.vC b1 b2 aW rfl
theorem nH.Km (h:nH w g cs V n xs R k rs gs Fs st):V.ownBlock≠some g:=aK h.row h.bk aW
theorem nH.Kn (h:nH w g cs V n xs R k rs gs Fs st):R.ownBlock≠some g:=aK h.qD h.bk aW
theorem nH.bH (h:nH w g cs V n xs R k rs gs Fs st) (i:Nat) (u:Value):nH (w.setCell ⟨g,i,none⟩ u) g (cs.setIfInBounds i u) V n xs R k rs gs Fs st:=by
 have d:Fr (fun k=>k=g) w (w.setCell ⟨g,i,none⟩ u):=Fr.setCell (S:=fun k=>k=g) (p:=⟨g,i,none⟩) (Fr.refl _ w) (.inr rfl) u
 exact ⟨h.bk.bH i u,bz h.row h.Km u,bz h.qD h.Kn u,h.He.fr d (fun b f e=>h.sg (e▸f)),h.sg,h.sv,h.sr⟩
theorem eZ.fr (h:eZ w g F l) (e:Fr S w w') (f:∀ k,F k->¬ S k):eZ w' g F l:=by
 obtain ⟨⟨cs,V,R,rs,gs,Fs,i,j,m,h4⟩,h5,h6,h7⟩:=h
 exact ⟨⟨cs,V,R,rs,gs,Fs,i.fr e (fun k d=>f k (h4 k d)),j,m,h4⟩,h5,h6,fun k d=>iD (h7 k d) e.size⟩
theorem eZ.old (h:eZ w g F l) (d:Old w w'):eZ w' g F l:=h.fr (S:=fun _=>False) (Fr.aj d) (fun _ _ h=>h)
end
def sD (aI:Int) (gs:Nat):Array Value:=#[zi aI,aQ,zi 0,zi 0,zi 0,zi 0,
 zi 0,zi 0,zi 0,zi 0,zi 0,zi 0,zi 0,zi 0,zi 0,zi 0,zi 0,zi 0,zi 0,zi 0,zi 0,zi 0,
 zi 0,zi 0,zi 0,zi 0,zi 0,zi 0,zi 0,zi 0,zi 0,zi 0,zi 0,zi 0,zi 0,zi 0,zi 0,zi 0,
 av gs 0,aQ]
theorem DX (d:Int) (gs:Nat):sD d gs=(#[zi d,aQ] ++ Array.replicate 36 (zi 0)) ++ #[av gs 0,aQ]:=ay
theorem uI (d:Int) (gs i:Nat) (e:i < 36):(sD d gs)[2 + i]?=some (zi 0):=by
 rw [DX,Array.getElem?_append_left jR,Array.getElem?_append_right bE]
 simp [Array.getElem?_replicate,e]
theorem RZ {w:World} {g gs:Nat} {Fs:Nat->Prop} {d:Int} (h:Bk w g 199 (sD d gs)) (m:kS w gs Fs (fG.new d)) (p:¬ Fs g):eZ w g (fun k=>k=g∨Fs k) (dW.new d):=
 ⟨⟨sD d gs,aQ,aQ,[],gs,Fs,⟨h,World.ownsRow_nil _ _ _ _,World.ownsRow_nil _ _ _ _,m,p,fun b f=>by simp [Value.ownBlock] at f,fun b f=>by simp [Value.ownBlock] at f⟩,
  ⟨rfl,rfl,fun c s=>uI d gs c af,fun i u=>by have:=uI d gs (4 + i) (by omega);rw [<- Nat.add_assoc] at this;exact this,rfl,rfl⟩,fun j r=>absurd r (Nat.not_lt_zero _),fun k e=>by
   rcases e with e | e | e | e
   ·exact .inl e
   ·simp [Value.ownBlock] at e
   ·simp [Value.ownBlock] at e
   ·exact .inr e⟩,wP.nil,dN _,fun k e=>by
   rcases e with rfl | e
   ·exact h.lt
   ·exact m.lt k e⟩
structure VC (w:World) (g:Nat) (l:dW) (A:Option Addr) (n ca gs:Nat) (Fs:Nat->Prop) (B:Option Addr) (cb:Nat) (rs:List Value):Prop where
 gl:g < w.heap.size
 q0:w.cell? ⟨g,0,none⟩=some (zi l.aI)
 l0:w.cell? ⟨g,1,none⟩=some (.slice A n ca)
 sq:∀ c:Nat,c < 4->w.cell? ⟨g,2 + c,none⟩=some (zi (fK l.qs c))
 tc:∀ i:Nat,i < 32->w.cell? ⟨g,6 + i,none⟩=some (zi (pQ l.qs i))
 s0:w.cell? ⟨g,38,none⟩=some (av gs 0)
 r0:w.cell? ⟨g,39,none⟩=some (.slice B l.k cb)
 row:ou w A l.qs
 qD:ah w B rs
 rok:pR l rs
 rl:rs.length=l.k * 4
 He:kS w gs Fs l.st
 fz:∀ o,w.frozen? ⟨g,o,none⟩=false
theorem eZ.see {w:World} {g:Nat} {F:Nat->Prop} {l:dW} (h:eZ w g F l) {n:Nat} (m:l.qs.length=n):∃ A ca gs Fs B j rs,VC w g l A n ca gs Fs B j rs:=by
 subst m
 obtain ⟨⟨cs,V,R,rs,gs,Fs,d,e,p,h4⟩,h5,h6,h7⟩:=h
 obtain ⟨A,ca,rfl,-,-⟩:=bI d.row
 obtain ⟨B,j,rfl,-,-⟩:=bI d.qD
 have f:=d.bk.cell
 exact ⟨A,ca,gs,Fs,B,j,rs,d.bk.lt,(f 0).trans e.q0,(f 1).trans e.l0,fun c k=>(f _).trans (e.sq c k),fun i r=>(f _).trans (e.tc i r),(f 38).trans e.s0,(f 39).trans e.r0,
  ah.bA d.row,ah.bA d.qD,p,d.qD.1,d.He,d.bk.frozen⟩
theorem R3 (d:Int) (i:1<=d/\d<=100) (w:World) :
 aS 87 #[zi d] w fun e w'=>∃ g F,e=.returned (.tuple #[av g 0,zi 0])/\eZ w' g F (dW.new d)/\(∀ k,F k->w.heap.size<=k)/\Old w w':=by
 have j:=aa (RL d i w)
 go_enter func87,ntmps87
 go_wp2_with (go_at_call 151;refine j.o.mono ?_;rintro e w1 ⟨rfl,f,h⟩)
 refine bodyPost_ret (v:=.tuple #[w1.heap.size,zi 0]) (by simp [results,results87,go_sem]) rfl ?_
 refine ⟨w1.heap.size,_,rfl,RZ (gs:=w.heap.size) (Fs:=fun k=>k=w.heap.size) (Bk.new w1 199 (sD d w.heap.size)) (f.old ((Old.refl' w1).ag _)) (fun e=>?_),fun k l=>?_,h.ag _⟩
 ·have:=f.lt _ rfl;omega
 ·have:=h.size;omega
theorem AM (g:Nat) (F:Nat->Prop) (l:dW) (n:Nat) (d:l.qs.length=n) (w:World) (h:eZ w g F l) :
 aS 59 #[g] w fun e w'=>e=.returned (zi n)/\w=w':=by
 obtain ⟨A,ca,gs,Fs,B,i,rs,f⟩:=h.see d
 have l0:=f.l0
 clear h f d
 go_enter func59,ntmps59
 go_wp2
 go_ret
 exact ⟨rfl,rfl⟩
theorem tX (g:Nat) (F:Nat->Prop) (l:dW) (k:Nat) (f:l.k=k) (w:World) (h:eZ w g F l) :
 aS 60 #[g] w fun e w'=>e=.returned (zi k)/\w=w':=by
 obtain ⟨A,ca,gs,Fs,B,j,rs,d⟩:=h.see rfl
 have m:=d.s0
 have i:=aa (by have:=RN gs Fs l.st w d.He;rwa [dW.aai h.ok h.kl,f] at this)
 clear h d
 go_enter func60,ntmps60
 go_wp2_with (go_at_call 104;refine i.o.mono ?_;rintro e w1 ⟨rfl,rfl⟩)
 go_ret
 exact ⟨rfl,rfl⟩
theorem aaj (K:Nat->Prop) (n:Nat) (r:1<=n) (h5:n<=5) (w:World) (s:∀ k,w.heap.size<=k->K k) :
 aS 86 #[zi n] w fun e w'=>∃ g,e=.returned (.tuple #[av g 0,zi 0])/\w.heap.size<=g/\iy w' (fun k=>k=g) K g (.new n)/\Old w w':=by
 have y:=aa (J9 n r h5 w)
 have z:=aa s
 have H:=aa h5
 clear r h5 s
 go_enter func86,ntmps86
 go_wp2_with fail
 refine y.o.mono ?_
 rintro e w1 ⟨A,c,rfl,h,u⟩
 have B:=aa (Bk.new w1 59 #[zi 1,.slice A n c])
 obtain ⟨x0,x1,x2,I,J⟩:=bk2 B.o
 obtain ⟨d,i⟩:∃ d,d=w1.alloc (.cells #[zi 1,.slice A n c] 59):=⟨_,rfl⟩
 have f:Old w1 d:=i▸(Old.refl' w1).ag _
 have m:(dO n).nodes.length=n:=by simp [dO]
 have j:n<=c:=by obtain ⟨_,_,C,D,_⟩:=bI h;cases C;exact D
 have hI:fD w1 (fun k=>K k/\¬ k=d.heap.size) A (dO n).nodes:=(fD.bA h fun k p E=>⟨z.o k p,by have:=f.size;omega⟩)
 have x:=aa (show iy (d.alloc (.cells #[zi n,zi 1,.slice A n c,zi 0,zi 0,zi 0,zi 0,.bool false,zi 0,aQ] 239)) (fun k=>k=d.heap.size) K d.heap.size (.new n) from
  ⟨⟨A,c,none,0,by show Bk _ _ _ (NP (.new n) (.slice A (dO n).nodes.length c) aQ);rw [m];exact Bk.new d 239 _,by rw [show (dY.new n).known.nodes.length=n from m];exact j,(hI.old f).old ((Old.refl' d).ag _),dN _,fD.nil _ _ _⟩,rfl,fun k F=>by subst F;simp⟩)
 have G:=aa ((u.trans' f).ag (.cells #[zi n,zi 1,.slice A n c,zi 0,zi 0,zi 0,zi 0,.bool false,zi 0,aQ] 239))
 have L:=u.size
 have l:w1.heap.size + 1=d.heap.size:=by rw [i];simp
 rw [<- l] at x
 clear l
 subst i
 clear f hI m j
 go_wp2_with fail
 go_ret2
 exact ⟨_,rfl,af,x.o,G.o⟩
end Go.Proofs.YthihpfpbiajddaaGreat
