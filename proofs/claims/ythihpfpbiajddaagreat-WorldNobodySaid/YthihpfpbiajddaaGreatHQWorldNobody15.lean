/- Parts of the proof. -/
import Derived.Test.YthihpfpbiajddaaGreatHQWorldNobody14
set_option maxRecDepth 100000
set_option maxHeartbeats 8000000
open Go.Proofs.Tryz
namespace Go.Proofs.YthihpfpbiajddaaGreat
open Go.RowKit
theorem R7 {w W:World} {b:Nat} {u0 u1 u2 u3:Value} (h:Fr (fun k=>k=b) w W) :
 Fr (fun k=>k=b) w ((((W.setCell ⟨b,0,none⟩ u0).setCell ⟨b,1,none⟩ u1).setCell ⟨b,2,none⟩ u2).setCell ⟨b,3,none⟩ u3):=by
 have Ap:∀ {W:World} (j:Nat) (u:Value),Fr (fun k=>k=b) w W->Fr (fun k=>k=b) w (W.setCell ⟨b,j,none⟩ u):=fun j u h=>Fr.setCell (p:=⟨b,j,none⟩) h (.inr rfl) u
 exact Ap _ _ (Ap _ _ (Ap _ _ (Ap _ _ h)))
theorem NY (g:Nat) (F:Nat->Prop) (l:dW) (n:Int) (m:¬ ((l.k:Int)<=n/\n<=l.qs.length)) (w:World) (h:eZ w g F l) :
 aS 224 #[g,zi n] w fun e w'=>e=.returned (zi 6)/\w=w':=by
 obtain ⟨N,d⟩:=aR (l.qs.length)
 obtain ⟨k,f⟩:=aR (l.k)
 obtain ⟨A,ca,gs,Fs,B,p,rs,i⟩:=h.see d
 have l0:=i.l0
 have j:=aa (tX g F l k f w h)
 rw [d,f] at m
 clear i h f d
 by_cases r:n < k
 ·go_enter func224,ntmps224
  go_wp2_with (go_at_call 60;refine j.o.mono ?_;rintro e w1 ⟨rfl,rfl⟩)
  go_ret
  exact ⟨rfl,rfl⟩
 ·have s:(N:Int) < n:=by omega
  go_enter func224,ntmps224
  go_wp2_with (go_at_call 60;refine j.o.mono ?_;rintro e w1 ⟨rfl,rfl⟩)
  go_ret
  exact ⟨rfl,rfl⟩
def Ap (o:Option Value) (a b:fG):fG:=match o with
 | none=>a
 | some _=>b
def FE (w wr:World) (g:Nat) (F:Nat->Prop) (aI:Int) (qs:List aG) (V:Value) (N gs k:Nat):Prop:=
 ∃ cs B cb rs Fs,nH wr g cs V N (qs.flatMap aG.cells) (.slice B k cb) k rs gs Fs (iP aI (qs.take k))/\MK cs V (.slice B k cb) gs aI qs/\pR ⟨aI,qs,k⟩ rs/\(∀ c,RY g V (.slice B k cb) Fs c->F c∨w.heap.size<=c)/\Fr F w wr
def iL (l:dW):Prop:=∀ i x,l.qs[i]?=some x->wE (iP l.aI (l.qs.take i)) x.q
theorem Eb (g:Nat) (F:Nat->Prop) (l:dW) (k m M:Nat) (f:l.k=k) (hm0:0 < m) (hM:M=k + m) (hm:k + m<=l.qs.length) (Ao:l.qs.length<=50000) (hPA:iL l) (w:World) (h:eZ w g F l) :
 aS 224 #[g,zi M] w fun e w'=>e=.returned (zi 0)/\(∃ F',eZ w' g F' (l.bD M)/\∀ b,F' b->F b∨w.heap.size<=b)/\Fr F w w':=by
 have HLP:=aa hPA
 clear hPA
 obtain ⟨j0,hj0,Av,Aw,Ay⟩:=info_parts Ea
 obtain ⟨N,hN⟩:=aR (l.qs.length)
 have cK:=aa (fun (W:World) (hW:Old w W)=>tX g F l k f W (h.old hW))
 have hh:=h
 obtain ⟨⟨cs,V,R,rs,gs,Fs,G,hC,hR,H⟩,hok,hkl,hFl⟩:=hh
 obtain ⟨B,cb,rfl,-,-⟩:=bI G.qD
 rw [hN] at G hm Ao
 rw [f] at G hC H
 have hgl:=G.bk.lt
 have l0':=hC.l0
 have est:l.st=iP l.aI (l.qs.take k):=by unfold dW.st;rw [f]
 rcases G.row.2 with ⟨-,h0⟩ | ⟨b,ca,cur,rfl,-,-,hnc,hcm,-,-⟩
 ·omega
 have K:FE w w g F l.aI l.qs (.slice (some ⟨b,0,none⟩) N ca) N gs (k + 0):=⟨cs,B,cb,rs,Fs,by have q:=G;rw [est] at q;exact q,hC,fun j hj=>hR j (by rw [f];exact hj),fun c i=>.inl (H c i),Fr.refl _ _⟩
 have hL:=aa (fun (W:World) (hW:Old w W)=>(((hW.cell (p:=⟨g,1,none⟩) hgl).trans (G.bk.cell 1)).trans l0':W.cell? ⟨g,1,none⟩=some (.slice (some ⟨b,0,none⟩) N ca)))
 have l0:=hL.o _ (Old.refl' w)
 have HFL:=aa hFl
 have NT:=aa hok
 have HN:=aa hN
 have hi0:(0:Int)<=k:=af
 have hi1:(M:Int)<=N:=af
 have hi2:¬ ((M:Int) < k):=af
 have hi3:¬ ((N:Int) < M):=af
 have hi4:(k:Int)<=M:=af
 have hi5:(M:Int)<=ca:=af
 have abC:¬ ca<=k:=af
 have abD:¬ (ca - k=0):=af
 have abE:¬ (ca=k):=af
 have hmm:M - k=m:=af
 have abF:((M:Int) - (k:Int)).toNat=m:=af
 have Ze:=aa hM
 clear hM
 clear G hC hR H h hok hkl hFl hN l0' est
 go_enter func224,ntmps224
 go_wp2_with (go_at_call 60;refine (cK.o _ (Old.refl' w)).mono ?_;rintro e w1 ⟨rfl,rfl⟩)
 refine aY (R:=pick [eqv (av g 0),eqv (av g 0),eqv (av g 1),eqv (.slice (some ⟨b,0,none⟩) N ca),eqv (av g 0),eqv (zi k),eqv (zi M),eqv (.slice (some ⟨b,k * 6,none⟩) m (ca - k)),eqv (zi m),eqv (zi 0)]) (S:=fun _ w'=>Old w w') (T:=Old) ay ay ay (ai.pick (ai.eqv (ai.eqv (ai.eqv (ai.eqv (ai.eqv (ai.eqv (ai.eqv (ai.eqv (ai.eqv (ai.eqv (ai.nil)))))))))))) ((Old.refl' w).drew') ?steps ?ends
 case steps=>
  refine .cons (zp [] [(0,g)]) <|.cons (zp [(0,24)] []) <|.cons (zp [(1,25)] []) ?_
  refine .cons (zp [(2,26)] [] (fun d E w' f s hS i hf=>by rintro _ q2 rfl e26 ;obtain t1:=hL.o _ hS;exact ⟨_,by go_simp,rfl⟩)) ?_
  refine .cons (zp [] [(0,g)]) ?_
  refine aH.cons (bP [(4,28)] [] rfl rfl ay ay rfl ?_) ?_
  ·rintro d a w' f s hS _ q4 rfl e28 
   first | refine Given.nil (aU.nil ?_) | refine aU.nil ?_
   refine fI 60 _ func60 ay ay _ _ iW [av g 0] zap (cK.o _ hS) ?_
   rintro e w1 ⟨rfl,rfl⟩
   exact ⟨_,rfl,_,rfl,rfl,Old.refl' _,hS⟩
  refine .cons (zp [] [(1,zi M)]) ?_
  refine .cons (zp [(3,27),(5,29),(6,30)] [] (fun d E w' f s hS i hf=>by rintro _ q3 rfl e27 _ q5 rfl e29 _ q6 rfl e30 ;obtain t1:=hL.o _ hS;exact ⟨_,by go_simp,rfl⟩)) ?_
  refine .cons (zp [(7,31)] []) ?_
  refine .cons (zp [] [] (fun d E w' f s hS i hf=>by exact ⟨_,by go_simp,rfl⟩)) ?_
  exact aH.nil
 case ends=>
  intro jA w9 X Y
  iterate 10 refine .eqv _ _ rfl (fun _ h=>h) ?_
  refine Ends.nil ?_
  clear Y
  simp only [aC,ax,fM,fJ]
  have o9:=X
  clear X
  have Qp:FE w w9 g F l.aI l.qs (.slice (some ⟨b,0,none⟩) N ca) N gs (k + 0):=by
   obtain ⟨cs,B,cb,rs,Fs,q1,q2,q3,q4,q5⟩:=K
   exact ⟨cs,B,cb,rs,Fs,q1.old o9,q2,q3,q4,q5.trans (Fr.aj o9)⟩
  clear K o9 l0 cK hL
  go_wp2_with fail
  have VH:¬ M < k:=af
  have VI:¬ N < M:=af
  simp only [VH,VI,decide_false,Bool.or_false]
  clear hi2 hi3 VH VI
  go_loopw [33] (fun iv wr=>∃ j:Nat,j<=m/\iv=zi j/\FE w wr g F l.aI l.qs (.slice (some ⟨b,0,none⟩) N ca) N gs (k + j)) (fun iv _=>m - (intOf iv).toNat)
  case atStart=>exact ⟨0,Nat.zero_le _,rfl,Qp⟩
  case round=>
   clear Qp
   obtain ⟨j,hj,rfl,K⟩:=hrel
   by_cases hlt:j < m
   ·obtain ⟨cs,B,cb,rs,Fs,G,hC,hR,H,Zf⟩:=K
    obtain ⟨r,hkj⟩:=aR (k + j)
    have abG:r < N:=af
    rw [hkj] at G hC hR H
    have hkq:r < l.qs.length:=by have:=HN.o;omega
    obtain ⟨x,hx⟩:=aR (l.qs[r])
    have hxx:l.qs[r]?.getD default=x:=by rw [gG hkq];exact hx
    obtain ⟨p1,p2,p3⟩:=Ck l.aI NT.o hkq
    rw [hx] at p1 p2 p3
    have hnn:=(qZ l.aI NT.o r af).1
    obtain ⟨s0,hs0⟩:=aR (iP l.aI (l.qs.take r))
    rw [hs0] at p1 p2 p3 G hnn
    have hrp:(⟨l.aI,l.qs,r⟩:dW).rep r=s0.rep x.q:=by unfold dW.rep;show (iP l.aI (l.qs.take r)).rep (l.qs[r]?.getD default).q=_;rw [hs0,hxx]
    obtain ⟨rp,hrr⟩:=aR (s0.rep x.q)
    rw [hrr] at hrp
    obtain ⟨c0,hc0⟩:=aR (rp.code)
    obtain ⟨v0,hv0⟩:=aR (rp.fQ)
    obtain ⟨d0,hd0⟩:=aR (rp.data)
    obtain ⟨E,hE⟩:∃ c:Int,c=0:=⟨_,rfl⟩
    obtain ⟨s1,hs1⟩:=aR (s0.put x.q)
    have hpa:wE s0 x.q:=by rw [<- hs0,<- hx];exact HLP.o r _ (gG hkq)
    have hP:=aa (fun (Fs:Nat->Prop) (W:World) (hW:kS W gs Fs s0)=>hpa.at_ gs Fs c0 v0 E d0 s1 (by rw [hrr];exact hc0) (by rw [hrr];exact hv0) (by rw [hrr];exact hd0) (p1.trans hE.symm) hs1 W hW)
    obtain ⟨b',o',e',hb',i⟩:=(show ou wr (some ⟨b,0,none⟩) l.qs from ah.bA G.row).Vu (k:=r) hkq
    cases e'
    rw [hxx] at i
    simp only [mE] at i
    have e6:r * 6=k * 6 + j * 6:=af
    rw [e6] at i
    have x0:wr.cell? ⟨b,k * 6 + j * 6,none⟩=some (zi x.client):=i 0 _ af rfl
    have x1:=i 1 _ af rfl
    have x2:=i 2 _ af rfl
    have x3:=i 3 _ af rfl
    have x4:=i 4 _ af rfl
    have x5:=i 5 _ af rfl
    have VJ:=hC.s0
    have aan:=hC.r0
    have hB0:=G.old ((Old.refl' wr).ag (.cells #[zi x.client,zi x.seq,zi x.kind,zi x.id,zi x.eD,.string x.data] 36))
    have Qe:=Bk.new wr 36 #[zi x.client,zi x.seq,zi x.kind,zi x.id,zi x.eD,.string x.data]
    have hq0:¬ Fs wr.heap.size:=fun h=>by have:=G.He.lt _ h;omega
    have Zg:∀ c,RY g (.slice (some ⟨b,0,none⟩) N ca) (.slice B r cb) Fs c->c < wr.heap.size:=fun c i=>G.lt i
    obtain ⟨bq,hbq⟩:=aR (wr.heap.size)
    rw [hbq] at Qe hq0 Zg
    have HHB:=aa G
    have HBQ:=aa hbq
    have HC:=aa hC
    have HR:=aa hR
    have Z:=aa H
    have Zh:=aa Zf
    have HPS:=aa (hs1.symm.trans p3)
    have HCV:=aa (show rp.code=c0/\rp.fQ=v0/\rp.data=d0 from ⟨hc0,hv0,hd0⟩)
    have HRP:=aa hrp
    have HJ:=aa hkj
    clear i hx hxx p1 p2 p3 hs0 hrp hrr hc0 hv0 hd0 hE hs1 G hC hR H Zf e6 hkj hnn
    have HNF:=aa (fun (y:Nat) (C:Nat->Prop) (g1:¬ C y) (g2:bq<=y) (f:RY g (.slice (some ⟨b,0,none⟩) N ca) (.slice B r cb) C y)=>(by
     rcases f with h | h | h | h
     ·have:=Zg _ (.inl h);omega
     ·have:=Zg _ (.inr (.inl h));omega
     ·have:=Zg _ (.inr (.inr (.inl h)));omega
     ·exact g1 h:False))
    obtain ⟨xs,hxs⟩:=aR (l.qs.flatMap aG.cells)
    rw [hxs] at hB0
    have HXS:=aa hxs
    obtain ⟨WD,NK⟩:=aR (wr.alloc (.cells #[zi x.client,zi x.seq,zi x.kind,zi x.id,zi x.eD,.string x.data] 36))
    have aao:bq<=WD.heap.size:=by rw [<- NK,<- HBQ.o];simp
    go_wp2_with fail
    simp only [HBQ.o,NK] at hB0 Qe ⊢
    clear x0 x1 x2 x3 x4 x5 hxs
    refine aY (R:=pick [eqv (av g 0),eqv (av g 0),eqv (av g 38),eqv (av gs 0),eqv (.agg #[zi x.client,zi x.seq,zi x.kind,zi x.id,zi x.eD,.string x.data]),fun v w'=>∃ n c4,v=.tuple #[.agg #[zi c0,zi v0,.string d0,.slice n 0 c4],zi E],fun v w'=>∃ n c4,v=.tuple #[.agg #[zi c0,zi v0,.string d0,.slice n 0 c4],zi E],fun v w'=>∃ n c4,v=.agg #[zi c0,zi v0,.string d0,.slice n 0 c4],eqv (zi E),fun v w'=>∃ y,v=av y 0,eqv (undef),eqv (zi E)]) (S:=fun σ w'=>∃ Zi,nH w' g cs (.slice (some ⟨b,0,none⟩) N ca) N xs (.slice B r cb) r rs gs Zi (Ap (σ 5) s0 s1)/\Bk w' bq 36 #[zi x.client,zi x.seq,zi x.kind,zi x.id,zi x.eD,.string x.data]/\¬ Zi bq/\Fr Fs WD w'/\(∀ b,Zi b->Fs b∨WD.heap.size<=b)/\(∀ v,σ 9=some v->∃ y,v=av y 0/\¬ Zi y/\WD.heap.size<=y/\(σ 10=none->Bk w' y 49 #[zi 0,zi 0,.string { data:=#[] },aQ])/\(σ 10≠none->∃ n c4,Bk w' y 49 #[zi c0,zi v0,.string d0,.slice n 0 c4]))) (T:=(fun _ _=>True)) ay ay ay (ai.pick (ai.eqv (ai.eqv (ai.eqv (ai.eqv (ai.eqv (ai.cons (fun _ _ _ _ h=>h) (ai.cons (fun _ _ _ _ h=>h) (ai.cons (fun _ _ _ _ h=>h) (ai.eqv (ai.cons (fun _ _ _ _ h=>h) (ai.eqv (ai.eqv (ai.nil)))))))))))))) (⟨Fs,hB0.old (Old.refl' _).drew',Qe.drew,hq0,(Fr.refl _ _).drew,fun b hb=>.inl hb,fun v hv=>by cases hv⟩) ?steps ?ends
    case steps=>
     refine .cons (zp [] [(0,g)]) <|.cons (zp [(0,38)] []) <|.cons (zp [(1,39)] []) ?_
     refine .cons (zp [(2,40)] [] (fun d E w' f s hS i hf=>by rintro _ q2 rfl e40 ;obtain ⟨C,u,D,I,z,J,O⟩:=hS;obtain ⟨⟨y0,y1,y2,y3,y4,y5⟩,l9⟩:=lH D;have t1:=(u.bk.cell 38).trans VJ;exact ⟨_,by go_simp,rfl⟩)) ?_
     refine .cons (zp [] [(6,bq)] (fun d E w' f s hS i hf=>by rintro  e6;obtain ⟨C,u,D,I,z,J,O⟩:=hS;obtain ⟨⟨y0,y1,y2,y3,y4,y5⟩,l9⟩:=lH D;have t1:=(u.bk.cell 38).trans VJ;exact ⟨_,by go_simp,rfl⟩)) ?_
     refine aH.cons (bP [(3,41),(4,42)] [] rfl rfl ay ay rfl ?_) ?_
     ·rintro d a w' f s hS _ q3 rfl e41 _ q4 rfl e42 
      first | refine Given.nil (aU.nil ?_) | refine aU.nil ?_
      obtain ⟨C,u,D,I,z,J,O⟩:=hS
      rw [f 5 ay] at u
      refine fI 255 _ func255 ay ay _ _ iW [av gs 0,.agg #[zi x.client,zi x.seq,zi x.kind,zi x.id,zi x.eD,.string x.data]] zap (hP.o C _ u.He) ?_
      rintro e w1 ⟨⟨n,c4,rfl⟩,⟨F',st',hn'⟩,hf'⟩
      refine ⟨_,rfl,_,rfl,⟨n,c4,rfl⟩,trivial,F',?_,D.fr hf' I,fun h=>?_,?_,fun b hb=>?_,fun v hv=>?_⟩
      ·have e5:upd d 5 (.tuple #[.agg #[zi c0,zi v0,.string d0,.slice n 0 c4],zi E]) 5=some (.tuple #[.agg #[zi c0,zi v0,.string d0,.slice n 0 c4],zi E]):=by simp [upd]
       rw [e5]
       exact u.put hf' st' hn'
      ·rcases hn' _ h with h | h
       ·exact I h
       ·have:=D.lt;omega
      ·exact z.trans' hf' (fun b hb hF=>(J b hF).elim id (fun h=>af))
      ·rcases hn' _ hb with h | h
       ·exact J b h
       ·have:=z.size;exact .inr af
      ·have e9:upd d 5 (.tuple #[.agg #[zi c0,zi v0,.string d0,.slice n 0 c4],zi E]) 9=d 9:=by simp [upd]
       have e10:upd d 5 (.tuple #[.agg #[zi c0,zi v0,.string d0,.slice n 0 c4],zi E]) 10=d 10:=vL
       rw [e9] at hv
       rw [e10]
       obtain ⟨y,rfl,g1,g2,g3,g4⟩:=O v hv
       refine ⟨y,rfl,fun h=>?_,g2,fun h=>(g3 h).fr hf' g1,fun h=>absurd (f 10 ay) h⟩
       rcases hn' _ h with h | h
       ·exact g1 h
       ·have:=(g3 (f 10 ay)).lt;omega
     refine aH.cons (bP [(5,43)] [] rfl rfl ay ay rfl ?_) ?_
     ·rintro d a w' f s hS _ q5 ⟨n,c4,rfl⟩ e43 
      first | refine Given.nil (aU.nil ?_) | refine aU.nil ?_
      refine jC (w':=w') (.tuple #[.agg #[zi c0,zi v0,.string d0,.slice n 0 c4],zi E]) (by revert e43;generalize a.eval=E9;intro e43;go_simp) ⟨_,rfl,⟨n,c4,rfl⟩,trivial,by simpa [upd] using hS⟩
     refine aH.cons (bP [(6,37)] [] rfl rfl ay ay rfl ?_) ?_
     ·rintro d a w' f s hS _ q6 ⟨n,c4,rfl⟩ e37 
      first | refine Given.nil (aU.nil ?_) | refine aU.nil ?_
      refine jC (w':=w') (.agg #[zi c0,zi v0,.string d0,.slice n 0 c4]) (by revert e37;generalize a.eval=E9;intro e37;go_simp) ⟨_,rfl,⟨n,c4,rfl⟩,trivial,by simpa [upd] using hS⟩
     refine .cons (zp [(6,37)] [] (fun d E w' f s hS i hf=>by rintro _ q6 ⟨n,c4,rfl⟩ e37 ;exact ⟨_,by go_simp,rfl⟩)) ?_
     refine aH.cons (bP [] [] rfl rfl ay ay rfl ?_) ?_
     ·rintro d a w' f s hS  
      first | refine Given.nil (aU.nil ?_) | refine aU.nil ?_
      obtain ⟨C,u,D,I,z,J,O⟩:=hS
      refine jC (w':=w'.alloc (.cells #[zi 0,zi 0,.string { data:=#[] },aQ] 49)) (av w'.heap.size 0) (by generalize a.eval=E9;go_simp) ⟨_,rfl,⟨_,rfl⟩,trivial,C,?_,D.alloc _,I,z.alloc _,J,fun v hv=>?_⟩
      ·have e5:upd d 9 (av w'.heap.size 0) 5=d 5:=by simp [upd]
       rw [e5]
       exact u.old ((Old.refl' _).ag _)
      ·have e9:upd d 9 (av w'.heap.size 0) 9=some (av w'.heap.size 0):=by simp [upd]
       have e10:upd d 9 (av w'.heap.size 0) 10=d 10:=vL
       rw [e9] at hv
       injection hv with hv
       subst hv
       rw [e10]
       exact ⟨_,rfl,fun h=>by have:=u.He.lt _ h;omega,z.size,fun _=>Bk.new _ _ _,fun h=>absurd (f 10 ay) h⟩
     refine aH.cons (dH [(9,7),(7,44)] [] rfl rfl ay ay rfl (fun d E w' f s hS i hf=>by rintro _ q9 ⟨y,rfl⟩ e7 _ q7 ⟨n,c4,rfl⟩ e44 ;obtain ⟨C,u,D,I,z,J,O⟩:=hS;obtain ⟨b8,e8,g1,g2,g3,g4⟩:=O _ q9;injection e8 with e8;injection e8 with e8;injection e8 with e8;subst e8;have hz:=g3 (f 10 (by kernel_rfl));obtain ⟨⟨z0,z1,z2,z3⟩,⟨f0,f1,f2,f3⟩,lz⟩:=Fx hz;exact ⟨((((w'.setCell ⟨y,0,none⟩ (zi c0)).setCell ⟨y,1,none⟩ (zi v0)).setCell ⟨y,2,none⟩ (.string d0)).setCell ⟨y,3,none⟩ (.slice n 0 c4)),by go_simp,rfl,trivial,⟨C,(by have e5:upd d 10 undef 5=d 5:=(by simp [upd]);rw [e5];exact u.fr (S:=fun k=>k=y) (R7 (Fr.refl _ _)) (fun k f e=>by subst e;exact HNF.o _ _ g1 (ic aao g2) f)),D.fr (R7 (Fr.refl _ _)) (fun e=>by have:=Qe.lt;omega),I,(z.trans' (T:=fun k=>k=y) (R7 (Fr.refl _ _)) (fun b hb e=>by omega)),J,fun v hv=>⟨y,by rw [show upd d 10 undef 9=d 9 by simp [upd],q9] at hv;injection hv with hv;exact hv.symm,g1,g2,fun h=>by simp [upd] at h,fun _=>⟨n,c4,Bk.Vn hz⟩⟩⟩⟩)) ?_
     refine .cons (zp [(8,45)] []) ?_
     exact aH.nil
    case ends=>
     intro jA w9 X Y
     iterate 5 refine .eqv _ _ rfl (fun _ h=>h) ?_
     refine Ends.ex (some 43) rfl ?_
     rintro _ p5 ⟨n,c4,rfl⟩
     refine Ends.ex (some 37) rfl ?_
     rintro _ p6 ⟨n,c4,rfl⟩
     refine Ends.ex (some 44) rfl ?_
     rintro _ p7 ⟨n,c4,rfl⟩
     refine .eqv _ _ rfl (fun _ h=>h) ?_
     refine Ends.ex (some 7) rfl ?_
     rintro _ p9 ⟨y,rfl⟩
     iterate 2 refine .eqv _ _ rfl (fun _ h=>h) ?_
     refine Ends.nil ?_
     have L:=Y
     clear Y
     simp only [aC,ax,fM,fJ]
     obtain ⟨C,u,D,I,z,J,O⟩:=X
     obtain ⟨u5,hu5⟩:=Option.isSome_iff_exists.1 (L 5 bE)
     obtain ⟨dF,VK⟩:=Option.isSome_iff_exists.1 (L 10 bE)
     rw [hu5] at u
     obtain ⟨b8,e8,g1,g2,-,g4⟩:=O _ p9
     injection e8 with e8;injection e8 with e8;injection e8 with e8;subst e8
     obtain ⟨A5,c5,h7⟩:=g4 (by rw [VK];exact fun h=>by cases h)
     clear O g4 hu5 VK L
     have abH:wr.heap.size<=WD.heap.size:=by rw [<- NK];simp
     have hwr:=Zh.o.size
     have VL:=z.size
     have hFW:Fr F w w9.drew:=(((Zh.o.trans (Fr.aj (NK▸(Old.refl' wr).ag _))).trans' z (fun c i hF=>(Z.o c (.inr (.inr (.inr hF)))).elim id (fun h=>af)))).drew
     have Ec:=u.old (Old.refl' w9).drew'
     have Zj:=h7.drew
     have aap:WD.heap.size<=w9.drew.heap.size:=VL
     obtain ⟨W8,R8⟩:=aR (w9.drew)
     rw [R8] at Ec Zj hFW aap
     clear u D I z h7 VL hB0 Qe
     have Dm:=Ec.bk
     have wR:=Ec.qD
     have Fy:=Ec.Kn
     have hX1:=aan
     obtain ⟨n,hA4⟩:∃ A,A=A5:=⟨_,rfl⟩
     obtain ⟨c4,hc4⟩:∃ A,A=c5:=⟨_,rfl⟩
     rw [<- hA4,<- hc4] at Zj
     clear hA4 hc4
     have CS:=aa (fun (U:World) (h:Old W8 U)=>(⟨(Fx (Zj.old h)).1,((Dm.old h).cell 39).trans hX1⟩:(U.cell? ⟨y,0,none⟩=some (zi c0)/\U.cell? ⟨y,1,none⟩=some (zi v0)/\U.cell? ⟨y,2,none⟩=some (.string d0)/\U.cell? ⟨y,3,none⟩=some (.slice n 0 c4))/\U.cell? ⟨g,39,none⟩=some (.slice B r cb)))
     obtain ⟨VM,Az⟩:∃ P:World->Prop,P=fun U=>FE w U g F l.aI l.qs (.slice (some ⟨b,0,none⟩) N ca) N gs (r + 1):=⟨_,rfl⟩
     have wS:=fun (A2:Option Addr) (c2:Nat) (W2:World) (h2:fZ (W8.alloc (.cells #[zi c0,zi v0,.string d0,.slice n 0 c4] 49)) 0 49 4 (.slice B r cb) (r + 1) (rs ++ [zi c0,zi v0,.string d0,.slice n 0 c4]) (.slice A2 (r + 1) c2) W2)=>(by
      obtain ⟨a1,a2,a3⟩:=Ec.apr ((Old.refl' W8).ag _) h2
      obtain ⟨v1,v2,v3⟩:=HCV.o
      rw [Az]
      have hrl:rs.length=r * 4:=HHB.o.qD.1
      have hro:=pR.snoc (A:=n) (c:=c4) HR.o hrl HRP.o
      rw [v1,v2,v3] at hro
      refine ⟨_,A2,c2,_,C,?_,HC.o.rep,hro,fun c i=>?_,?_⟩
      ·rw [HXS.o,<- HPS.o];exact a1
      ·rcases i with i | i | i | i
       ·exact Z.o c (.inl i)
       ·exact Z.o c (.inr (.inl i))
       ·rcases a3 c i with h | h
        ·exact Z.o c (.inr (.inr (.inl h)))
        ·right;omega
       ·rcases J c i with h | h
        ·exact Z.o c (.inr (.inr (.inr h)))
        ·right;omega
      ·refine hFW.trans' a2 (fun c i h=>?_)
       rcases h with h | h
       ·exact (Z.o c (.inl h)).elim id (fun h=>af)
       ·exact (Z.o c (.inr (.inr (.inl h)))).elim id (fun h=>af):VM (W2.setCell ⟨g,39,none⟩ (.slice A2 (r + 1) c2)))
     clear Ec Zj
     go_wp2_with fail
     refine aY (R:=pick [eqv (av g 0),eqv (av g 0),eqv (av g 0),eqv (av g 39),eqv (.slice B r cb),eqv (.agg #[zi c0,zi v0,.string d0,.slice n 0 c4]),eqv (.slice (some ⟨W8.heap.size,0,none⟩) 1 1),fun v w'=>∃ A2 c2,v=.slice A2 (r + 1) c2,eqv (av g 0),eqv (av g 39),eqv (undef)]) (S:=fun σ w'=>(σ 10≠none->VM w')/\(σ 10=none->σ 7≠none->∃ A2 c2,σ 7=some (.slice A2 (r + 1) c2)/\fZ (W8.alloc (.cells #[zi c0,zi v0,.string d0,.slice n 0 c4] 49)) 0 49 4 (.slice B r cb) (r + 1) (rs ++ [zi c0,zi v0,.string d0,.slice n 0 c4]) (.slice A2 (r + 1) c2) w')/\(σ 10=none->σ 7=none->σ 6≠none->w'=(W8.alloc (.cells #[zi c0,zi v0,.string d0,.slice n 0 c4] 49)))/\(σ 10=none->σ 7=none->σ 6=none->w'=W8)) (T:=(fun _ _=>True)) ay ay ay (ai.pick (ai.eqv (ai.eqv (ai.eqv (ai.eqv (ai.eqv (ai.eqv (ai.eqv (ai.cons (fun _ _ _ _ h=>h) (ai.eqv (ai.eqv (ai.eqv (ai.nil))))))))))))) (⟨fun h=>absurd rfl h,fun _ h=>absurd rfl h,fun _ _ h=>absurd rfl h,fun _ _ _=>R8⟩) ?steps ?ends
     case steps=>
      refine .cons (zp [] [(0,g)]) <|.cons (zp [] [(0,g)]) <|.cons (zp [(1,47)] []) <|.cons (zp [(2,48)] []) ?_
      refine .cons (zp [(3,49)] [] (fun d E w' f s hS i hf=>by rintro _ q3 rfl e49 ;obtain ⟨⟨y0,y1,y2,y3⟩,t1⟩:=CS.o w' ((Classical.em (d 6=none)).elim (fun R9=>by rw [hS.2.2.2 (f 10 (by kernel_rfl)) (f 7 (by kernel_rfl)) R9];exact Old.refl' _) (fun R9=>by rw [hS.2.2.1 (f 10 (by kernel_rfl)) (f 7 (by kernel_rfl)) R9];exact (Old.refl' _).ag _));exact ⟨_,by go_simp,rfl⟩)) ?_
      refine .cons (zp [] [(7,y)] (fun d E w' f s hS i hf=>by rintro  e7;obtain ⟨⟨y0,y1,y2,y3⟩,t1⟩:=CS.o w' ((Classical.em (d 6=none)).elim (fun R9=>by rw [hS.2.2.2 (f 10 (by kernel_rfl)) (f 7 (by kernel_rfl)) R9];exact Old.refl' _) (fun R9=>by rw [hS.2.2.1 (f 10 (by kernel_rfl)) (f 7 (by kernel_rfl)) R9];exact (Old.refl' _).ag _));exact ⟨_,by go_simp,rfl⟩)) ?_
      refine aH.cons (bP [(5,51)] [] rfl rfl ay ay rfl ?_) ?_
      ·rintro d a w' f s hS _ q5 rfl e51 
       first | refine Given.nil (aU.nil ?_) | refine aU.nil ?_
       obtain rfl:=(hS.2.2.2 (f 10 ay) (f 7 ay) (f 6 ay)).symm
       refine jC (w':=(W8.alloc (.cells #[zi c0,zi v0,.string d0,.slice n 0 c4] 49))) (.slice (some ⟨W8.heap.size,0,none⟩) 1 1) (by revert e51;generalize a.eval=E;intro e51;go_simp) ⟨_,rfl,rfl,trivial,?_⟩
       exact ⟨fun h=>absurd (f 10 ay) yg,fun _ h=>absurd (f 7 ay) yg,fun _ _ _=>rfl,fun _ _ h=>xX⟩
      refine aH.cons (bP [(4,50),(6,52)] [] rfl rfl ay ay rfl ?_) ?_
      ·rintro d a w' f s hS _ q4 rfl e50 _ q6 rfl e52 
       first | refine Given.nil (aU.nil ?_) | refine aU.nil ?_
       obtain rfl:=hS.2.2.1 (f 10 ay) (f 7 ay) (by rw [q6];simp)
       refine qU _ (.tmp 50) (.tmp 52) 197 rfl 0 49 j0 (.agg #[zi 0,zi 0,.string { data:=#[] },aQ]) 4 56 underlying197 hj0 Av Aw Ay rfl aW (.slice B r cb) r (rs) e50 (wR.alloc _) (some ⟨W8.heap.size,0,none⟩) 1 1 [zi c0,zi v0,.string d0,.slice n 0 c4] e52 rfl (cz (Bk.new W8 49 #[zi c0,zi v0,.string d0,.slice n 0 c4])) tC qy af (Nat.zero_le _) (r + 1) rfl _ rfl ?_
       intro A2 c2 W2 h2
       exact ⟨_,rfl,⟨A2,c2,rfl⟩,trivial,fun h=>absurd (f 10 ay) yg,fun _ _=>⟨A2,c2,vL,h2⟩,fun _ h=>xX,fun _ h=>xX⟩
      refine .cons (zp [(0,46)] []) <|.cons (zp [(8,54)] []) ?_
      refine aH.cons (dH [(9,55),(7,53)] [] rfl rfl ay ay rfl (fun d E w' f s hS i hf=>by rintro _ q9 rfl e55 _ q7 ⟨A2,c2,rfl⟩ e53 ;obtain ⟨A3,c3,e14,h2⟩:=hS.2.1 (f 10 (by kernel_rfl)) (by rw [q7];simp);rw [q7] at e14;injection e14 with e14;injection e14 with AB _ AF;subst AB AF;have hG2:=h2.bk (Dm.alloc _) Fy;have y0:=(hG2.cell 39).trans hX1;have y1:=hG2.frozen 39;exact ⟨w'.setCell ⟨g,39,none⟩ (.slice A2 (r + 1) c2),by go_simp,rfl,trivial,⟨fun _=>wS _ _ _ h2,fun h=>by simp [upd] at h,fun h=>by simp [upd] at h,fun h=>by simp [upd] at h⟩⟩)) ?_
      exact aH.nil
     case ends=>
      intro jA w9 X Y
      iterate 7 refine .eqv _ _ rfl (fun _ h=>h) ?_
      refine Ends.ex (some 53) rfl ?_
      rintro _ p7 ⟨A2,c2,rfl⟩
      iterate 3 refine .eqv _ _ rfl (fun _ h=>h) ?_
      refine Ends.nil ?_
      have L:=Y
      clear Y
      simp only [aC,ax,fM,fJ]
      have hfin:=X.1 (by have:=L 10 (by simp);intro e;rw [e] at this;simp at this)
      clear X L
      rw [Az] at hfin
      have aaq:=aa hfin
      clear hfin CS wS Dm wR Fy Az R8
      go_wp2_with fail
      go_roundw
      case rel=>
       exact ⟨j + 1,af,oP,by rw [<- Nat.add_assoc,HJ.o];exact aaq.o⟩
      case measure=>simp [intOf];omega
   ·obtain rfl:j=m:=by omega
    have HM:=aa K
    clear K
    go_wp2_with fail
    go_ret
    obtain ⟨cs,B,cb,rs,Fs,G,hC,hR,H,Zf⟩:=HM.o
    rw [<- Ze.o] at G hC hR H
    refine ⟨rfl,⟨fun b=>(F b∨w.heap.size<=b)/\b < wr.heap.size,⟨⟨cs,_,_,rs,gs,Fs,?_,hC,hR,fun c i=>⟨H c i,G.lt i⟩⟩,NT.o,?_,fun c i=>i.2⟩,fun c i=>i.1⟩,Zf⟩
    ·show nH wr g cs _ l.qs.length _ _ M rs gs Fs (iP l.aI (l.qs.take M))
     rw [HN.o]
     exact G
    ·show M<=l.qs.length
     have:=Ze.o
     have:=HN.o
     omega
theorem Kt {w W:World} {b:Nat} (h:Old w W) (d:w.heap.size<=b) (u0 u1 u2 u3:Value):Old w ((((W.setCell ⟨b,0,none⟩ u0).setCell ⟨b,1,none⟩ u1).setCell ⟨b,2,none⟩ u2).setCell ⟨b,3,none⟩ u3):=
 Old.aJ (p:=⟨b,3,none⟩) (Old.aJ (p:=⟨b,2,none⟩) (Old.aJ (p:=⟨b,1,none⟩) (Old.aJ (p:=⟨b,0,none⟩) h d _) d _) d _) d _
theorem NZ (g:Nat) (F:Nat->Prop) (l:dW) (n:Int) (f:¬ (1<=n/\n<=l.k)) (w:World) (h:eZ w g F l) :
 aS 256 #[g,zi n] w fun e w'=>e=.returned (.tuple #[.agg #[zi 0,zi 0,.string ByteArray.empty,aQ],zi 6])/\Old w w':=by
 obtain ⟨k,d⟩:=aR (l.k)
 have i:=aa (fun (W:World) (j:Old w W)=>tX g F l k d W (h.old j))
 rw [d] at f
 clear h d
 by_cases m:n < 1
 ·go_enter func256,ntmps256
  go_wp2
  refine bodyPost_ret (v:=.tuple #[.agg #[zi 0,zi 0,.string ByteArray.empty,aQ],zi 6]) ?_ rfl ⟨rfl,?_⟩
  ·simp [results,results256,go_sem]
   try rfl
  ·exact (Old.refl' w).ag _
 ·have p:(k:Int) < n:=by omega
  go_enter func256,ntmps256
  go_wp2_with (go_at_call 60;refine (i.o _ ((Old.refl' w).ag _)).mono ?_;rintro e w1 ⟨rfl,rfl⟩)
  refine bodyPost_ret (v:=.tuple #[.agg #[zi 0,zi 0,.string ByteArray.empty,aQ],zi 6]) ?_ rfl ⟨rfl,?_⟩
  ·simp [results,results256,go_sem]
   try rfl
  ·exact (Old.refl' w).ag _
theorem Ku (g:Nat) (F:Nat->Prop) (l:dW) (j:Nat) (u:j < l.k) (c0 v0:Int) (d0:ByteArray) (y:(l.rep j).code=c0) (z:(l.rep j).fQ=v0) (C:(l.rep j).data=d0) (i:l.qs.length<=50000) (w:World) (h:eZ w g F l) :
 aS 256 #[g,zi ((j:Int) + 1)] w fun e w'=>∃ A c,e=.returned (.tuple #[.agg #[zi c0,zi v0,.string d0,.slice A 0 c],zi 0])/\Old w w':=by
 obtain ⟨k,n⟩:=aR (l.k)
 have D:=aa (fun (W:World) (J:Old w W)=>tX g F l k n W (h.old J))
 obtain ⟨A,ca,gs,Fs,B,P,rs,f⟩:=h.see rfl
 have K:=f.gl
 have L:=f.r0
 have d:=f.rl
 rw [n] at L d u
 have x:=h.kl
 obtain ⟨E,y1,y2,r,c3,G⟩:=f.rok j (by rw [n];exact u)
 obtain ⟨R,o,rfl,M,m⟩:=f.qD (fun e=>by rw [e] at d;simp at d;omega)
 have x0:=m _ _ E
 have x1:=m _ _ y1
 have x2:=m _ _ y2
 have N:=m _ _ G
 rw [y] at x0
 rw [z] at x1
 rw [C] at x2
 rw [<- Nat.add_assoc] at x1 x2 N
 have q1:¬ ((j:Int) + 1 < 1):=af
 have S:¬ ((k:Int) < (j:Int) + 1):=af
 have T:(j:Int) < k:=af
 have U:(j:Int) + 1 - 1=j:=af
 have V:(j:Int)<=50000:=af
 have H:=aa (fun (W:World)=>jg r 0 c3 [] af rfl W (ah.nil _ _))
 have X:=aa (Old.refl' w)
 clear h f m E y1 y2 G y z C n d x u i
 go_enter func256,ntmps256
 go_wp2_with (go_at_call 60;refine (D.o _ ((Old.refl' w).ag _)).mono ?_;rintro e w1 ⟨rfl,rfl⟩)
 refine (H.o _).mono ?_
 rintro e Y ⟨I,c4,rfl,-,s⟩
 obtain ⟨⟨Z,a1,a2,a3⟩,⟨f0,f1,f2,f3⟩,la⟩:=Fx (((Bk.new w 49 #[zi 0,zi 0,.string { data:=#[] },aQ]).alloc (.cells #[zi c0,zi v0,.string d0,.slice r 0 c3] 49)).old s)
 obtain ⟨⟨z0,z1,z2,z3⟩,⟨g0,g1,g2,g3⟩,lz⟩:=Fx ((fV w (.cells #[zi 0,zi 0,.string { data:=#[] },aQ] 49) 49 #[zi c0,zi v0,.string d0,.slice r 0 c3]).old s)
 have O:=aa ((((Old.refl' w).ag (.cells #[zi 0,zi 0,.string { data:=#[] },aQ] 49)).ag (.cells #[zi c0,zi v0,.string d0,.slice r 0 c3] 49)).trans' s)
 clear s H D
 go_wp2_with fail
 refine bodyPost_ret (v:=.tuple #[.agg #[zi c0,zi v0,.string d0,.slice I 0 c4],zi 0]) ?_ rfl ⟨I,c4,rfl,?_⟩
 ·simp [results,results256,go_sem, *]
 ·exact Kt (Old.aJ (p:=⟨w.heap.size + 1,3,none⟩) O.o (ym _) _) (dN _) _ _ _ _
section
open Go.RowKit Go.Shelf
attribute [local go_sem] Oper.semAt_some
def mM (qs:List aG) (s k:Nat):List (Nat×aG):=(List.range k).map fun j=>(s + j + 1,qs[s + j]?.getD default)
theorem oC (d:List aG) (s k:Nat):mM d s (k + 1)=mM d s k ++ [(s + k + 1,d[s + k]?.getD default)]:=by simp [mM,List.range_succ]
theorem jL (d:List aG) (s k:Nat):(mM d s k).length=k:=by simp [mM]
abbrev encR (x:Nat×aG):Array Value:=#[zi (x.1:Int),.agg #[zi x.2.client,zi x.2.seq,zi x.2.kind,zi x.2.id,zi x.2.eD,.string x.2.data]]
def Kc (n₀ B1 B2:Nat) (W W':World):Prop:=Below n₀ W W'/\(∀ v,W.cell? ⟨B1,0,none⟩=some v->W'.cell? ⟨B1,0,none⟩=some v)/\∀ v,W.cell? ⟨B2,0,none⟩=some v->W'.cell? ⟨B2,0,none⟩=some v
theorem Kc.refl (d e f:Nat) (W:World):Kc d e f W W:=⟨Below.refl _ _,fun _ h=>h,fun _ h=>h⟩
theorem Kc.t {d e f:Nat} {A B C:World} (h:Kc d e f A B) (k:Kc d e f B C):Kc d e f A C:=⟨h.1.trans k.1,fun v g=>k.2.1 v (h.2.1 v g),fun v g=>k.2.2 v (h.2.2 v g)⟩
theorem Kc.mk' {d e f:Nat} {A B:World} (h:Kb d e A B) (k:Kb d f A B):Kc d e f A B:=⟨h.1,h.2,k.2⟩
theorem Kc.b {d k m:Nat} {w:World} (f:d<=w.heap.size) (W:World) (l:Nat) (o e:Obj) (g:w.heap.size<=l) (h:W.heap[l]?=some o) (i:o.isCells=false) (j:o.isWalk=false):Kc d k m W (W.putObj l e):=
 Kc.mk' (Kb.b f W l o e g h i j) (Kb.b f W l o e g h i j)
theorem Kv (F:Fence) (m:Nat) (h8:F.fn 59) (d:F.round=none) (g:Nat) (A:Option Addr) (n ca:Nat) (w:World) (l0:w.cell? ⟨g,1,none⟩=some (.slice A n ca)) :
 CallsIn F m prog 59 #[g] w fun e w'=>e=.returned (zi n)/\w=w':=by
 refine callsIn_of_wp func59 rfl h8 ?_ d
 simp only [ntmps59,List.size_toArray,iR,jV,Nat.reduceAdd,Nat.reduceSub,Array.replicate_succ,Array.replicate_zero,List.push_toArray,List.append_toArray,qz,xZ]
 gi_wp2
 go_ret
 exact ⟨rfl,rfl⟩
theorem Kw (F:Fence) (m:Nat) (h8:F.fn 166) (h7:F.fn 59) (y:F.round=none) (hm:2<=m) (l D E j g n ca s:Nat) (A:Option Addr) (u:List aG) (hn:n<=100000) (hs:s<=100000) (O:n=u.length) (J P:List (Nat×aG)->World->Prop)
 (X:∀ pre x W,J pre W->pre.length < n - s->YieldAt F (m - 1) prog l (encR x) W fun e W'=>
  (e=.returned (.bool true)/\J (pre ++ [x]) W'/\Kc j D E W W')∨(e=.returned (.bool false)/\P (pre ++ [x]) W'))
 (W:World) (Y:W.cell? ⟨D,0,none⟩=some (zi ((s:Int) + 1))) (G:W.cell? ⟨E,0,none⟩=some (av g 0)) (Z:g < j) (l0:W.cell? ⟨g,1,none⟩=some (.slice A n ca)) (hc:ou W A u) (z:0 < n->∀ a,A=some a->a.block < j) (h0:J [] W) :
 CallsIn F m prog 166 #[.func (.yield l) #[] #[],av D 0,av E 0] W fun e W'=>(∃ v,e=.returned v)/\
  ((∃ R,R=mM u s (n - s)/\J R W')∨(∃ pre,(∃ k,k<=n - s/\pre=mM u s k)/\P pre W')):=by
 have HL:=aa O
 clear O
 refine callsIn_of_wp func166 rfl h8 ?_ y
 simp only [ntmps166,List.size_toArray,iR,jV,Nat.reduceAdd,Nat.reduceSub,Array.replicate_succ,Array.replicate_zero,List.push_toArray,List.append_toArray,qz,xZ]
 gi_wp2
 gi_loopw [4] (fun i wr=>∃ k:Nat,k<=n - s/\i=zi ((s:Int) + k + 1)/\J (mM u s k) wr/\Kc j D E W wr)
  (fun i _=>n + 2 - (intOf i).toNat)
 case atStart=>exact ⟨0,Nat.zero_le _,bE,h0,Kc.refl _ _ _ _⟩
 case round=>
  obtain ⟨k,hk,rfl,B,d⟩:=hrel
  have S:=d.2.2 _ G
  have H:=(d.1.cell (p:=⟨g,1,none⟩) Z).trans l0
  have T:=aa (Kv F (m - 1) h7 y g A n ca wr H)
  by_cases hlt:s + k < n
  ·have I:s + k < u.length:=by have:=HL.o;omega
   obtain ⟨b,o,rfl,hb,f⟩:=hc.Vu (k:=s + k) I
   have r:=z af _ rfl
   obtain ⟨x,K⟩:=aR (u[s + k]?.getD default)
   rw [K] at f
   have U:=aa K
   have x0:wr.cell? ⟨b,o + (s + k) * 6,none⟩=some (zi x.client):=(d.1.cell (p:=⟨b,o + (s + k) * 6,none⟩) r).trans (f 0 _ af rfl)
   have x1:=(d.1.cell (p:=⟨b,o + (s + k) * 6 + 1,none⟩) r).trans (f 1 _ af rfl)
   have x2:=(d.1.cell (p:=⟨b,o + (s + k) * 6 + 2,none⟩) r).trans (f 2 _ af rfl)
   have x3:=(d.1.cell (p:=⟨b,o + (s + k) * 6 + 3,none⟩) r).trans (f 3 _ af rfl)
   have x4:=(d.1.cell (p:=⟨b,o + (s + k) * 6 + 4,none⟩) r).trans (f 4 _ af rfl)
   have x5:=(d.1.cell (p:=⟨b,o + (s + k) * 6 + 5,none⟩) r).trans (f 5 _ af rfl)
   obtain ⟨fn,V,assign,body,hy,hR⟩:=X _ (s + k + 1,x) wr B (by rw [jL];omega)
   dsimp only [encR] at hy
   have h:((s + k + 1:Nat):Int)=(s:Int) + k + 1:=af
   rw [h] at hy
   have L:(s:Int) + k + 1<=n:=af
   have hi2:(s:Int) + k + 1 - 1=((s + k:Nat):Int):=af
   have hi3:((s + k:Nat):Int) < n:=af
   have HC:=aa h
   clear h K f
   gi_wp2_with (refine ⟨fun _=>af,?_⟩;gi_at_call 59;refine T.o.mono ?_;rintro e w1 ⟨rfl,rfl⟩)
   refine ⟨fun _=>af,hR.mono ?_⟩
   rintro e W3 (⟨rfl,M,N⟩ | ⟨rfl,C⟩)
   ·gi_wp2
    go_roundw
    case rel=>
     refine ⟨k + 1,af,oP,?_,d.t N⟩
     rw [oC,U.o];exact M
    case measure=>simp [intOf];omega
   ·gi_wp2
    refine bodyPost_ret (results_none rfl _ _ _) rfl ?_
    refine ⟨⟨_,rfl⟩,.inr ⟨_,⟨k + 1,af,?_⟩,C⟩⟩
    rw [oC,U.o]
  ·obtain rfl:k=n - s:=by omega
   have L:¬ ((s:Int) + ((n - s:Nat):Int) + 1<=n):=af
   gi_wp2_with (refine ⟨fun _=>af,?_⟩;gi_at_call 59;refine T.o.mono ?_;rintro e w1 ⟨rfl,rfl⟩)
   go_end0
   exact ⟨⟨_,rfl⟩,.inl ⟨_,rfl,B⟩⟩
theorem FF (F:Fence) (m:Nat) (h6:F.fn 107) (d:F.round=none) (g:Nat) (a:Int) (w:World) :
 CallsIn F m prog 107 #[g,zi a] w fun e w'=>e=.returned (.func (.func 166) #[] #[av (w.heap.size + 1) 0,av w.heap.size 0])/\
  w'=(w.alloc (.cells #[g] 98)).alloc (.cells #[zi a] 3):=by
 refine callsIn_of_wp func107 rfl h6 ?_ d
 simp only [ntmps107,List.size_toArray,iR,jV,Nat.reduceAdd,Nat.reduceSub,Array.replicate_succ,Array.replicate_zero,List.push_toArray,List.append_toArray,qz,xZ]
 gi_wp2
 go_ret
 exact ⟨rfl,rfl⟩
theorem wU (F:Fence) (m:Nat) (h8:F.fn 166) (h7:F.fn 59) (r:F.round=none) (C:2<=m) (e f d g n ca s:Nat) (A:Option Addr) (h:List aG) (D:n<=100000) (E:s<=100000) (G:n=h.length) (w:World) (u:e < w.heap.size) (x:f < w.heap.size)
 (y:w.cell? ⟨e,0,none⟩=some (zi ((s:Int) + 1))) (z:w.cell? ⟨f,0,none⟩=some (av g 0)) (H:g < d) (B:g < w.heap.size) (l0:w.cell? ⟨g,1,none⟩=some (.slice A n ca)) (I:ou w A h) (i:0 < n->∀ a,A=some a->a.block < d) :
 SeqStopsK F m prog 166 #[e,av f 0] encR (Kc d e f) (fun K=>K=mM h s (n - s))
  (fun pre=>∃ k,k<=n - s/\pre=mM h s k) (n - s) w:=fun l J L W j _ _ M h0=>
 Kw F m h8 h7 r C l e f d g n ca s A h D E G J L M W ((j.cell (p:=⟨e,0,none⟩) u).trans y) ((j.cell (p:=⟨f,0,none⟩) x).trans z) H ((j.cell (p:=⟨g,1,none⟩) B).trans l0) (ah.old I j) i h0
end
end Go.Proofs.YthihpfpbiajddaaGreat
