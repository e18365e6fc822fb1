/- Parts of the proof. -/
import Derived.Test.YthihpfpbiajddaaGreatHQWorldNobody10
set_option maxRecDepth 100000
set_option maxHeartbeats 8000000
open Go.Proofs.Tryz
namespace Go.Proofs.YthihpfpbiajddaaGreat
open Go.RowKit
theorem dI.drew {w:World} {g:Nat} {r:Rd} (h:dI w g r):dI w.drew g r:=⟨h.ex,h.yw⟩
theorem y8:(prog.info? 3).map (fun i=>(i.zero,i.size,i.bytes))=some (some (zi 0),1,8):=ay
theorem tV (most:Nat):∀ (k:Nat) (r:Rd),r.nums most (k + 1)=((r.nums most k).1 ++ [(((r.nums most k).2.num most).1:Int)],((r.nums most k).2.num most).2)
 | 0,r=>by simp [Rd.nums]
 | k + 1,r=>by
  have e:r.nums most (k + 1 + 1)=(((r.num most).1:Int) :: ((r.num most).2.nums most (k + 1)).1,((r.num most).2.nums most (k + 1)).2):=rfl
  rw [e,tV most k (r.num most).2]
  rfl
theorem wG (most:Nat):∀ (k:Nat) (r:Rd),(r.nums most k).1.length=k/\(r.nums most k).2.b.length<=r.b.length
 | 0,r=>⟨rfl,dN _⟩
 | k + 1,r=>by
  rw [tV]
  have d:=wG most k r
  have e:=(r.nums most k).2.fq most
  simp only [ja,iR,jV]
  omega
def G9 (bs:List Int):bC×Int:=match fF bs with
 | some c=>(c,0)
 | none=>(.zero,2)
def wH (WD:World) (g:Nat) (r:Rd) (W:World):Prop:=dI W g r/\Fr (fun k=>k=g) WD W
def NI (w:World) (g cb bs0 k ep:Nat) (ns:List Int) (r:Rd) (w':World):Prop:=
 ∃ A2 c2,dI w' g r/\Bk w' cb 59 #[zi ep,.slice A2 k c2]/\w'.ownsRow bs0 3 1 (.slice A2 k c2) k (ns.map (Value.int .i64))/\Old w w'
theorem J4 (A:Option Addr) (n c:Nat) (bs:List Int) (hl:bs.length=n) (hn:n<=1000000) (h8:iq bs) (w:World) (h:ah w A (eB bs)) (cv:bC) (dd:Int) (hq:G9 bs=(cv,dd)) :
 aS 91 #[.slice A n c] w fun e w'=>∃ A2 c2,e=.returned (.tuple #[.agg #[zi cv.az,.slice A2 cv.nodes.length c2],zi dd])/\w'.ownsRow w.heap.size 3 1 (.slice A2 cv.nodes.length c2) cv.nodes.length (cv.nodes.map (Value.int .i64))/\Old w w':=by
 obtain ⟨j0,hj0,Av,Aw,Ay⟩:=info_parts y8
 obtain ⟨H,r1,h1⟩:∃ (v:Nat) (x:Rd),Rd.num 1073741824 ⟨bs,false⟩=(v,x):=⟨_,_,rfl⟩
 have E1:=Rd.fq ⟨bs,false⟩ 1073741824
 rw [h1] at E1
 obtain ⟨v2,r2,u⟩:∃ (v:Nat) (x:Rd),r1.num 5=(v,x):=⟨_,_,rfl⟩
 have E2:=r1.fq 5
 rw [u] at E2
 simp only at E1 E2
 have f:(if (r2.nums 5 v2).2.end_=0/\bC.may ⟨(H:Int),(r2.nums 5 v2).1⟩=true then (⟨(H:Int),(r2.nums 5 v2).1⟩,(0:Int)) else (bC.zero,2))=(cv,dd):=by
  rw [<- hq];unfold G9 fF;dsimp only;rw [h1];dsimp only;rw [u];dsimp only;generalize Rd.nums 5 v2 r2=p;obtain ⟨l,r3⟩:=p;dsimp only;split <;> rfl
 have K:=aa f
 clear f hq
 have B0:=aa (Bk.new w 59 #[zi 0,aQ])
 have cN:=aa (Fj A n c bs hl hn h8 _ (h.alloc (.cells #[zi 0,aQ] 59)))
 have c1:=aa (fun g W hR=>wh g ⟨bs,false⟩ 1073741824 H r1 h1 af jR W hR)
 have c2:=aa (fun g W hR=>wh g r1 5 v2 r2 u af af W hR)
 have hw1:wrap64 (H:Int)=H:=IntWalk.wrap64_in _ af
 go_enter func91,ntmps91
 go_wp2_with fail
 refine cN.o.mono ?_
 rintro e w1 ⟨g,rfl,hg,hR,ho⟩
 go_wp2_with fail
 refine (c1.o g w1 hR).mono ?_
 rintro e w2 ⟨rfl,hR2,hF2⟩
 have R2:=hR2.alloc (.cells #[zi H,aQ] 59)
 have B2:=Bk.new w2 59 #[zi H,aQ]
 have O2:Old (w.alloc (.cells #[zi 0,aQ] 59)) w2:=Old.iE ho hF2 (fun k i=>by subst i;exact hg)
 obtain ⟨y,hcb⟩:=aR (w2.heap.size)
 rw [hcb] at B2
 have hs2:=O2.size
 have hgw:(w.alloc (.cells #[zi 0,aQ] 59)).heap.size<=g:=hg
 have hcw:(w.alloc (.cells #[zi 0,aQ] 59)).heap.size<=y:=af
 go_wp2_with fail
 refine (c2.o g _ R2).mono ?_
 rintro e w3 ⟨rfl,hR3,hF3⟩
 have B3:=R2.bx B2 aW hF3
 have O3:Old (w.alloc (.cells #[zi 0,aQ] 59)) w3:=Old.iE (O2.ag _) hF3 (fun k i=>by subst i;exact hgw)
 obtain ⟨j,Vw⟩:=aR (y + 1)
 have hb3:j<=w3.heap.size:=by have:=B3.lt;omega
 have HCB:=aa hcb
 have NJ:=aa Vw
 clear hcb Vw hR hR2 hF2 R2 B2 O2 hF3 ho hg hs2
 go_wp2_with fail
 go_loopw [14] (fun iv wr=>∃ k:Nat,k<=v2/\iv=.int .u64 k/\NI (w.alloc (.cells #[zi 0,aQ] 59)) g y j k H (r2.nums 5 k).1 (r2.nums 5 k).2 wr/\j<=wr.heap.size) (fun iv _=>v2 - (intOf iv).toNat)
 case atStart=>exact ⟨0,af,rfl,⟨none,0,hR3,B3,World.ownsRow_nil _ _ _ _,O3⟩,hb3⟩
 case round=>
  clear hR3 B3 O3 hb3
  obtain ⟨k,i,rfl,⟨A',C,L,U,m,V⟩,hb0⟩:=hrel
  by_cases hlt:k < v2
  ·obtain ⟨ns,s⟩:=aR ((r2.nums 5 k).1)
   obtain ⟨r,I⟩:=aR ((r2.nums 5 k).2)
   have M:=wG 5 k r2
   have X:=tV 5 k r2
   rw [s,I] at X M
   rw [I] at L
   rw [s] at m
   obtain ⟨v,D,hv⟩:∃ (v:Nat) (x:Rd),r.num 5=(v,x):=⟨_,_,rfl⟩
   have E:=r.fq 5
   rw [hv] at E X
   simp only at E M X
   have HSN:=aa X
   obtain ⟨B,Vx⟩:=M
   have TS:=aa B
   clear X s I B
   obtain ⟨J,NK⟩:∃ W,W=wr.drew:=⟨_,rfl⟩
   have N:=L.drew
   have O:=U.drew
   have P:=Jc m
   have hOW:Old (w.alloc (.cells #[zi 0,aQ] 59)) wr.drew:=V.drew'
   rw [<- NK] at N O P hOW
   have cR:=aa (wh g r 5 v D hv af af J N)
   have hWc:J.cell? ⟨y,1,none⟩=some (.slice A' k C):=O.cell 1
   have hgc:g≠y:=Ne.symm (by obtain ⟨_,_,hg9,_⟩:=N.ex;exact Bk.vC O hg9 (by decide))
   have Za:=aa (fun W1 (h:wH J g D W1)=>(N.bx O aW h.2))
   have hMc:∀ W,wH J g D W->W.cell? ⟨y,1,none⟩=some (.slice A' k C)/\y < W.heap.size:=fun W h=>⟨(Za.o W h).cell 1,(Za.o W h).lt⟩
   have hMs:∀ W,wH J g D W->j<=W.heap.size:=fun W h=>by have:=h.2.size;rw [NK] at this;exact ic hb0 this
   have hNG:(.slice A' k C:Value).ownBlock≠some g:=by obtain ⟨_,_,hg9,_⟩:=N.ex;exact aK P hg9 (by decide)
   have Fy:=aa (aK P O aW)
   have Y:=aa (fun W1 (h:wH J g D W1)=>(dh P h.2 (fun k i e=>hNG (by rw [i,e]))))
   have Az:=aa (fun W1 (h:wH J g D W1) A2 c2 W2 (u:fZ (W1.alloc (.cells #[zi v] 3)) j 3 1 (.slice A' k C) (k + 1) (ns.map (Value.int .i64) ++ [zi v]) (.slice A2 (k + 1) c2) W2)=>(show NI (w.alloc (.cells #[zi 0,aQ] 59)) g y j (k + 1) H (ns ++ [(v:Int)]) D (W2.setCell ⟨y,1,none⟩ (.slice A2 (k + 1) c2)) by
    have hB2:=u.bk ((Za.o W1 h).alloc _) Fy.o
    have hf2:Fr (fun b=>(.slice A' k C:Value).ownBlock=some b) (W1.alloc (.cells #[zi v] 3)) W2:=u.fr (fun k _ i=>i)
    have hR1:=h.1.alloc (.cells #[zi v] 3)
    have hR2:dI W2 g D:=by
     obtain ⟨Ar,cr,k1,k2,k3,k4⟩:=hR1.ex
     have hrow:∀ b t cs,Bk (W1.alloc (.cells #[zi v] 3)) b t cs->t≠3->Bk W2 b t cs:=fun b t cs hb ht=>u.bk hb (aK ((Y.o W1 h).alloc _) hb (Ne.symm ht))
     refine ⟨⟨Ar,cr,hrow _ _ _ k1 aW,?_,fun hn a e=>(k3 hn a e).imp fun cs hb=>hrow _ _ _ hb aW,k4⟩,hR1.yw⟩
     by_cases hn:D.b=[]
     ·rw [hn];exact ah.nil _ _
     ·exact k2.fr hf2 (fun _ a e hs=>by
       obtain ⟨cs,hb⟩:=k3 hn a e
       exact aK ((Y.o W1 h).alloc _) hb aW hs)
    refine ⟨A2,c2,hR2.far hB2 aW aW _,by have:=hB2.bH 1 (.slice A2 (k + 1) c2);simpa using this,?_,?_⟩
    ·have:=bz (p:=⟨y,1,none⟩) u.own (aK u.own hB2 aW) (.slice A2 (k + 1) c2)
     simpa using this
    ·have o1:Old (w.alloc (.cells #[zi 0,aQ] 59)) W1:=Old.iE hOW h.2 (fun k i=>by subst i;exact hgw)
     have o2:Old (w.alloc (.cells #[zi 0,aQ] 59)) W2:=u.old (o1.ag _) (fun b hb=>ic hcw (ic (by have:=NJ.o;omega) (P.lt b hb).1))
     exact o2.aJ (p:=⟨y,1,none⟩) hcw _))
   have J5:=aa NK.symm
   clear NK
   have abw:IntKind.i64.wrap (v:Int)=v:=kP _ af
   have hwv:wrap64 (v:Int)=v:=IntWalk.wrap64_in _ af
   obtain ⟨E1',E2'⟩:=E
   clear L U m V hv N O P hOW hNG
   go_wp2_with fail
   have Vy:=aa (fun (σ:Nat->Option Value) (w':World) (hS:(σ 8≠none->NI (w.alloc (.cells #[zi 0,aQ] 59)) g y j (k + 1) H (ns ++ [(v:Int)]) D w')/\(σ 8=none->σ 6≠none->∃ W1 A2 c2,wH J g D W1/\σ 6=some (.slice A2 (k + 1) c2)/\fZ (W1.alloc (.cells #[zi v] 3)) j 3 1 (.slice A' k C) (k + 1) (ns.map (Value.int .i64) ++ [zi v]) (.slice A2 (k + 1) c2) w')/\(σ 8=none->σ 6=none->σ 5≠none->∃ W1,wH J g D W1/\σ 5=some (.slice (some ⟨W1.heap.size,0,none⟩) 1 1)/\w'=W1.alloc (.cells #[zi v] 3))/\(σ 8=none->σ 6=none->σ 5=none->σ 3≠none->wH J g D w')/\(σ 8=none->σ 6=none->σ 5=none->σ 3=none->w'=J)) (h1:σ 8=none) (u:σ 6=none)=>(show w'.cell? ⟨y,1,none⟩=some (.slice A' k C) by
    rcases Classical.em (σ 5=none) with hB | hB
    ·rcases Classical.em (σ 3=none) with hC | hC
     ·rw [hS.2.2.2.2 h1 u hB hC];exact hWc
     ·exact (hMc _ (hS.2.2.2.1 h1 u hB hC)).1
    ·obtain ⟨W1,h1,-,u⟩:=hS.2.2.1 h1 u hB
     obtain ⟨z1,z2⟩:=hMc _ h1
     rw [u,World.cell?_alloc_lt W1 _ ⟨y,1,none⟩ z2];exact z1))
   refine aY (R:=pick [eqv (av y 1),eqv (.slice A' k C),eqv (av g 0),eqv (.int .u64 v),eqv (zi v),fun v w'=>∃ b,v=.slice (some ⟨b,0,none⟩) 1 1,fun v w'=>∃ A2 c2,v=.slice A2 (k + 1) c2,eqv (av y 1),eqv (undef)]) (S:=fun σ w'=>(σ 8≠none->NI (w.alloc (.cells #[zi 0,aQ] 59)) g y j (k + 1) H (ns ++ [(v:Int)]) D w')/\(σ 8=none->σ 6≠none->∃ W1 A2 c2,wH J g D W1/\σ 6=some (.slice A2 (k + 1) c2)/\fZ (W1.alloc (.cells #[zi v] 3)) j 3 1 (.slice A' k C) (k + 1) (ns.map (Value.int .i64) ++ [zi v]) (.slice A2 (k + 1) c2) w')/\(σ 8=none->σ 6=none->σ 5≠none->∃ W1,wH J g D W1/\σ 5=some (.slice (some ⟨W1.heap.size,0,none⟩) 1 1)/\w'=W1.alloc (.cells #[zi v] 3))/\(σ 8=none->σ 6=none->σ 5=none->σ 3≠none->wH J g D w')/\(σ 8=none->σ 6=none->σ 5=none->σ 3=none->w'=J)) (T:=(fun _ _=>True)) ay ay ay (ai.pick (ai.eqv (ai.eqv (ai.eqv (ai.eqv (ai.eqv (ai.cons (fun _ _ _ _ h=>h) (ai.cons (fun _ _ _ _ h=>h) (ai.eqv (ai.eqv (ai.nil))))))))))) (⟨fun h=>absurd rfl h,fun _ h=>absurd rfl h,fun _ _ h=>absurd rfl h,fun _ _ _ h=>absurd rfl h,fun _ _ _ _=>J5.o⟩) ?steps ?ends
   case steps=>
    refine .cons (zp [] [(5,y)]) ?_
    refine .cons (zp [(0,16)] [] (fun d E w' i hda hS hc hf=>by rintro _ q0 rfl e16 ;have hcell:=Vy.o _ _ hS (i 8 (by kernel_rfl)) (i 6 (by kernel_rfl));exact ⟨_,by go_simp,rfl⟩)) ?_
    refine .cons (zp [] [(4,g)]) ?_
    refine aH.cons (bP [(2,18)] [] rfl rfl ay ay rfl ?_) ?_
    ·rintro d a w' i hda hS _ q2 rfl e18 
     first | refine Given.nil (aU.nil ?_) | refine aU.nil ?_
     obtain rfl:=(hS.2.2.2.2 (i 8 ay) (i 6 ay) (i 5 ay) (i 3 ay)).symm
     refine fI 157 _ func157 ay ay _ _ iW [av g 0,.int .u64 5] zap (cR.o) ?_
     rintro e w1 ⟨rfl,hR4,Vz⟩
     exact ⟨_,rfl,_,rfl,rfl,trivial,⟨fun h=>absurd (i 8 ay) yg,fun _ h=>absurd (i 6 ay) yg,fun _ _ h=>absurd (i 5 ay) yg,fun _ _ _ _=>⟨hR4,Vz⟩,fun _ _ _ h=>xX⟩⟩
    refine .cons (zp [(3,19)] []) ?_
    refine aH.cons (DW [(4,20)] [] rfl rfl ay ay rfl ?_) ?_
    ·rintro d a w' i hda hS hcl _ q4 rfl e20 
     first | refine Given.nil (aU.nil ?_) | refine aU.nil ?_
     have F:=hS.2.2.2.1 (i 8 ay) (i 6 ay) (i 5 ay) (Option.isSome_iff_ne_none.1 (prev hcl 4 3 ay (by rw [q4];rfl)))
     refine jC (w':=w'.alloc (.cells #[zi v] 3)) (.slice (some ⟨w'.heap.size,0,none⟩) 1 1) (by revert e20;generalize a.eval=E;intro e20;go_simp) ⟨_,rfl,⟨_,rfl⟩,trivial,?_⟩
     exact ⟨fun h=>absurd (i 8 ay) yg,fun _ h=>absurd (i 6 ay) yg,fun _ _ _=>⟨w',F,vL,rfl⟩,fun _ _ h=>xX,fun _ _ h=>xX⟩
    refine aH.cons (bP [(1,17),(5,21)] [] rfl rfl ay ay rfl ?_) ?_
    ·rintro d a w' i hda hS _ q1 rfl e17 _ q5 ⟨b1,rfl⟩ e21 
     first | refine Given.nil (aU.nil ?_) | refine aU.nil ?_
     obtain ⟨W1,F,G,rfl⟩:=hS.2.2.1 (i 8 ay) (i 6 ay) (by rw [q5];simp)
     rw [q5] at G
     injection G with G
     injection G with G
     injection G with G
     injection G with G
     subst G
     refine qU _ (.tmp 17) (.tmp 21) 34 rfl j 3 j0 (zi 0) 1 8 underlying34 hj0 Av Aw Ay rfl aW (.slice A' k C) k (ns.map (Value.int .i64)) e17 ((Y.o W1 F).alloc _) (some ⟨W1.heap.size,0,none⟩) 1 1 ([zi v]) e21 rfl (cz (Bk.new W1 3 _)) tC qy af (by have:=hMs W1 F;simp;omega) (k + 1) rfl _ rfl ?_
     intro A2 c2 W2 u
     exact ⟨_,rfl,⟨A2,c2,rfl⟩,trivial,fun h=>absurd (i 8 ay) yg,fun _ _=>⟨W1,A2,c2,F,vL,u⟩,fun _ h=>xX,fun _ h=>xX,fun _ h=>xX⟩
    refine .cons (zp [] [(5,y)]) ?_
    refine aH.cons (dH [(7,23),(6,22)] [] rfl rfl ay ay rfl (fun d E w' i hda hS hc hf=>by rintro _ q7 rfl e23 _ q6 ⟨A2,c2,rfl⟩ e22 ;obtain ⟨W1,A3,c3,F,G,u⟩:=hS.2.1 (i 8 (by kernel_rfl)) (by rw [q6];simp);rw [q6] at G;injection G with G;injection G with e9a _ e9b;subst e9a e9b;have hG2:=u.bk ((Za.o W1 F).alloc _) (Fy.o);have y0:=hG2.cell 1;have y1:=hG2.frozen 1;exact ⟨w'.setCell ⟨y,1,none⟩ (.slice A2 (k + 1) c2),by go_simp,rfl,trivial,⟨fun _=>Az.o W1 F A2 c2 _ u,fun h=>by simp [upd] at h,fun h=>by simp [upd] at h,fun h=>by simp [upd] at h,fun h=>by simp [upd] at h⟩⟩)) ?_
    exact aH.nil
   case ends=>
    intro jA w9 nT IW
    iterate 5 refine .eqv _ _ rfl (fun _ h=>h) ?_
    refine Ends.ex (some 21) rfl ?_
    rintro _ p5 ⟨b1,rfl⟩
    refine Ends.ex (some 22) rfl ?_
    rintro _ p6 ⟨A2,c2,rfl⟩
    iterate 2 refine .eqv _ _ rfl (fun _ h=>h) ?_
    refine Ends.nil ?_
    have J6:=IW
    clear IW
    simp only [aC,ax,fM,fJ]
    have Z:=nT.1 (by have:=J6 8 (by simp);intro e;rw [e] at this;simp at this)
    clear nT J6
    have HF:=aa Z
    have hbW:kN (j<=w9.heap.size):=aa (by obtain ⟨_,_,_,z,_,_⟩:=Z;have:=z.lt;have:=NJ.o;omega)
    clear Z
    go_wp2_with fail
    go_roundw
    case rel=>exact ⟨k + 1,af,oP,by rw [HSN.o];exact HF.o,hbW.o⟩
    case measure=>simp [intOf];omega
  ·obtain rfl:k=v2:=by omega
   obtain ⟨ns,s⟩:=aR ((r2.nums 5 k).1)
   obtain ⟨r,I⟩:=aR ((r2.nums 5 k).2)
   have M:=wG 5 k r2
   have f:=K.o
   rw [s,I] at f M
   rw [I] at L
   rw [s] at m
   obtain ⟨ed,hed⟩:=aR (r.end_)
   obtain ⟨mb,hmb⟩:=aR (bC.may ⟨(H:Int),ns⟩)
   rw [hed,hmb] at f
   obtain ⟨B,Vx⟩:=M
   have cE:=aa (Qa g r ed hed af wr L)
   have hcap:k<=C:=by obtain ⟨_,_,G,h9,_⟩:=bI m;cases G;exact h9
   have hI:aP wr A' ns:=ah.bA m
   have cM:=aa (wu H A' k C ns mb B.symm af hcap hmb wr hI)
   have X0:=B0.o.old V
   obtain ⟨x0,x1,x2,x3,x4⟩:=bk2 U
   obtain ⟨y0,y1,y2,y3,y4⟩:=bk2 X0
   have hne:w.heap.size≠y:=by have:=B0.o.lt;omega
   have OW:=aa (((Old.refl' w).ag (.cells #[zi 0,aQ] 59)).trans' V)
   have aac:=aa (dX m (by have:=NJ.o;simp at hcw;omega:w.heap.size<=j))
   have HX:=aa X0
   have TU:=aa U
   have HL:=aa B
   clear L U m V s I Vx hed hmb hI X0 B
   have hfO:=aa (fun W u0 u1 (o:Old w W)=>(show Old w ((W.setCell ⟨w.heap.size,0,none⟩ u0).setCell ⟨w.heap.size,1,none⟩ u1) from (o.aJ (dN _) _).aJ (dN _) _))
   have hfR:=aa (fun W u0 u1 (o:Old wr W)=>(show World.ownsRow ((W.setCell ⟨w.heap.size,0,none⟩ u0).setCell ⟨w.heap.size,1,none⟩ u1) w.heap.size 3 1 (.slice A' k C) k (ns.map (Value.int .i64)) by
    have h0:=bF aac.o o
    have hb:=HX.o.old o
    exact bz (bz h0 (aK h0 hb aW) _) (aK h0 hb aW) _))
   have ARM:True:=trivial
   clear ARM
   by_cases he:ed=0
   ·subst he
    cases mb with
    | true=>
     rw [if_pos ⟨rfl,rfl⟩] at f
     injection f with e1 e2
     subst e1 e2
     clear K
     go_wp2_with (first | (go_at_call 155;refine cE.o.mono ?_;rintro e w4 ⟨rfl,rfl⟩) | (go_at_call 132;refine cM.o.mono ?_;rintro e w5 ⟨rfl,o5⟩;clear x0 x1 x2 x3 x4 y0 y1 y2 y3 y4;obtain ⟨x0,x1,x2,x3,x4⟩:=bk2 (TU.o.old o5);obtain ⟨y0,y1,y2,y3,y4⟩:=bk2 (HX.o.old o5)))
     refine bodyPost_ret (v:=.tuple #[.agg #[zi H,.slice A' k C],zi 0]) (by simp [results,results91,go_sem,y0,y1,y4]) rfl ⟨A',C,?_,?_,hfO.o _ _ _ (OW.o.trans' o5)⟩
     ·show _=Ending.returned (.tuple #[.agg #[zi H,.slice A' ns.length C],zi 0])
      rw [HL.o]
     ·show World.ownsRow _ _ _ _ (.slice A' ns.length C) ns.length _
      rw [HL.o]
      exact hfR.o _ _ _ o5
    | false=>
     rw [if_neg bE] at f
     injection f with e1 e2
     subst e1 e2
     clear K
     go_wp2_with (first | (go_at_call 155;refine cE.o.mono ?_;rintro e w4 ⟨rfl,rfl⟩) | (go_at_call 132;refine cM.o.mono ?_;rintro e w5 ⟨rfl,o5⟩;clear x0 x1 x2 x3 x4 y0 y1 y2 y3 y4;obtain ⟨x0,x1,x2,x3,x4⟩:=bk2 (TU.o.old o5);obtain ⟨y0,y1,y2,y3,y4⟩:=bk2 (HX.o.old o5)))
     exact bodyPost_ret (v:=.tuple #[.agg #[zi 0,aQ],zi 2]) (by simp [results,results91,go_sem,y0,y1,y4]) rfl ⟨none,0,rfl,World.ownsRow_nil _ _ _ _,hfO.o _ _ _ (OW.o.trans' o5)⟩
   ·rw [if_neg (fun h=>he h.1)] at f
    injection f with e1 e2
    subst e1 e2
    have he':(ed != 0)=true:=by simpa using he
    clear K he
    go_wp2_with (go_at_call 155;refine cE.o.mono ?_;rintro e w4 ⟨rfl,rfl⟩)
    exact bodyPost_ret (v:=.tuple #[.agg #[zi 0,aQ],zi 2]) (by simp [results,results91,go_sem,y0,y1,y4]) rfl ⟨none,0,rfl,World.ownsRow_nil _ _ _ _,hfO.o _ _ _ OW.o⟩
theorem NL (f:Int) (A:Option Addr) (n d:Nat) (ns:List Int) (x:Int) (b:Bool) (g:n=ns.length) (i:n<=100000) (j:ns.contains x=b) (w:World) (h:aP w A ns) :
 aS 57 #[.agg #[zi f,.slice A n d],zi x] w fun e w'=>e=.returned (.bool b)/\Old w w':=by
 have k:=aa (mW A n d ns x b g i j _ (h.alloc (.cells #[zi f,.slice A n d] 59)))
 have l:=aa ((Old.refl' w).ag (.cells #[zi f,.slice A n d] 59))
 clear g i j h
 go_enter func57,ntmps57
 go_wp2_with (go_at_call 101;refine k.o.mono ?_;rintro e w1 ⟨rfl,rfl⟩)
 go_ret
 exact ⟨rfl,l.o⟩
theorem J7 (r:Int) (A:Option Addr) (n d:Nat) (ns:List Int) (x:Int) (g:n=ns.length) (z:n<=100000) (f:ns.head?.getD (-1)=x) (w:World) (h:aP w A ns) :
 aS 195 #[.agg #[zi r,.slice A n d]] w fun e w'=>e=.returned (zi x)/\Old w w':=by
 have i:=aa ((Old.refl' w).ag (.cells #[zi r,.slice A n d] 59))
 by_cases h0:n=0
 ·have:x=-1:=by rw [<- f,List.eq_nil_of_length_eq_zero (by omega:ns.length=0)];rfl
  subst this h0
  clear g f h
  go_enter func195,ntmps195
  go_wp2
  go_ret
  exact ⟨rfl,i.o⟩
 ·obtain ⟨b,o,rfl,j,m⟩:=h.at_ (k:=0) af
  have s:ns[0]?.getD 0=x:=by
   cases ns with
   | nil=>simp at g;omega
   | cons a l=>simpa using f
  rw [s,I9] at m
  have B:((n:Int) == 0)=false:=jR
  have y:=(i.o.cell (p:=⟨b,o,none⟩) j).trans m
  have u:0 < n:=af
  clear s f g h m h0
  go_enter func195,ntmps195
  go_wp2
  go_ret
  exact ⟨rfl,i.o⟩
theorem yL (l:Int) (A:Option Addr) (n d:Nat) (ns:List Int) (x:Int) (r:n=ns.length) (z:n<=100000) (f:ns.getLast?.getD (-1)=x) (w:World) (h:aP w A ns) :
 aS 179 #[.agg #[zi l,.slice A n d]] w fun e w'=>e=.returned (zi x)/\Old w w':=by
 have g:=aa ((Old.refl' w).ag (.cells #[zi l,.slice A n d] 59))
 by_cases h0:n=0
 ·have:x=-1:=by rw [<- f,List.eq_nil_of_length_eq_zero (by omega:ns.length=0)];rfl
  subst this h0
  clear r f h
  go_enter func179,ntmps179
  go_wp2
  go_ret
  exact ⟨rfl,g.o⟩
 ·obtain ⟨m,rfl⟩:∃ m,n=m + 1:=⟨n - 1,af⟩
  obtain ⟨b,o,rfl,i,j⟩:=h.at_ (k:=m) af
  have s:ns[m]?.getD 0=x:=by
   rw [List.getLast?_eq_getElem?,show ns.length - 1=m by omega,gG af] at f
   rw [gG af]
   simpa using f
  rw [s] at j
  have B:(((m + 1:Nat):Int) == 0)=false:=jR
  have u:((m:Int) + 1 == 0)=false:=jR
  have y:=(g.o.cell (p:=⟨b,o + m,none⟩) i).trans j
  clear s f r h j h0
  go_enter func179,ntmps179
  go_wp2
  go_ret
  exact ⟨rfl,g.o⟩
theorem NM (ns:List Int) (x:Int):-1<=tN ns x/\tN ns x < ns.length:=by
 unfold tN
 cases h:ns.idxOf? x with
 | none=>simp;omega
 | some k=>
  obtain ⟨d,_,_⟩:=List.findIdx?_eq_some_iff_getElem.1 h
  simp only
  omega
theorem NN (s:Int) (A:Option Addr) (n g:Nat) (ns:List Int) (x d r:Int) (j:n=ns.length) (H:n<=100000) (hd:-1<=d/\d<=1) (l:bC.beside ⟨s,ns⟩ x d=r) (w:World) (h:aP w A ns) :
 aS 223 #[.agg #[zi s,.slice A n g],zi x,zi d] w fun e w'=>e=.returned (zi r)/\Old w w':=by
 have m:=aa ((Old.refl' w).ag (.cells #[zi s,.slice A n g] 59))
 obtain ⟨i,f⟩:=aR (tN ns x)
 have u:=aa (vZ A n g ns x i j H f _ (h.alloc (.cells #[zi s,.slice A n g] 59)))
 have E:=NM ns x
 rw [f] at E
 obtain ⟨I,J⟩:=hd
 obtain ⟨K,z⟩:=E
 rw [<- j] at z
 have key:r=if i < 0 then -1 else if i + d < 0 then -1 else (ns[(i + d).toNat]?).getD (-1):=by
  rw [<- l]
  unfold bC.beside
  unfold tN at f
  cases hc:ns.idxOf? x with
  | none=>rw [hc] at f;simp only at f;subst f;rfl
  | some k=>rw [hc] at f;simp only at f;subst f;simp only [hc,if_neg (show ¬ ((k:Int) < 0) by omega)]
 by_cases y:i < 0
 ·have e:r=-1:=by rw [key,if_pos y]
  subst e
  clear l key h j f
  go_enter func223,ntmps223
  go_wp2_with (go_at_call 161;refine u.o.mono ?_;rintro e w1 ⟨rfl,rfl⟩)
  go_ret
  exact ⟨rfl,m.o⟩
 ·by_cases B:i + d < 0
  ·have e:r=-1:=by rw [key,if_neg y,if_pos B]
   subst e
   clear l key h j f
   go_enter func223,ntmps223
   go_wp2_with (go_at_call 161;refine u.o.mono ?_;rintro e w1 ⟨rfl,rfl⟩)
   go_ret
   exact ⟨rfl,m.o⟩
  ·by_cases O:(n:Int)<=i + d
   ·have e:r=-1:=by rw [key,if_neg y,if_neg B,Jb af];rfl
    subst e
    clear l key h j f
    go_enter func223,ntmps223
    go_wp2_with (go_at_call 161;refine u.o.mono ?_;rintro e w1 ⟨rfl,rfl⟩)
    go_ret
    exact ⟨rfl,m.o⟩
   ·obtain ⟨k,F⟩:∃ k:Nat,i + d=k:=⟨(i + d).toNat,af⟩
    have L:k < n:=af
    obtain ⟨b,o,rfl,C,D⟩:=h.at_ (k:=k) af
    have G:ns[k]?.getD 0=r:=by
     rw [key,if_neg y,if_neg B,F,EZ,gG af];rfl
    rw [G] at D
    have M:=(m.o.cell (p:=⟨b,o + k,none⟩) C).trans D
    obtain rfl:i=(k:Int) - d:=af
    have N:wrap64 ((k:Int) - d + d)=k:=by rw [show (k:Int) - d + d=k by omega];exact IntWalk.wrap64_in _ (by omega)
    clear G l key h j f D F
    go_enter func223,ntmps223
    go_wp2_with (go_at_call 161;refine u.o.mono ?_;rintro e w1 ⟨rfl,rfl⟩)
    go_ret
    exact ⟨rfl,m.o⟩
theorem RQ (f:Int) (A:Option Addr) (n d:Nat) (ns:List Int) (x r:Int) (g:n=ns.length) (i:n<=100000) (j:bC.above ⟨f,ns⟩ x=r) (w:World) (h:aP w A ns) :
 aS 180 #[.agg #[zi f,.slice A n d],zi x] w fun e w'=>e=.returned (zi r)/\Old w w':=by
 have k:=aa ((Old.refl' w).ag (.cells #[zi f,.slice A n d] 59))
 have l:=aa (NN f A n d ns x (-1) r g i af j _ (h.alloc (.cells #[zi f,.slice A n d] 59)))
 clear g i j h
 go_enter func180,ntmps180
 go_wp2_with (go_at_call 223;refine l.o.mono ?_;rintro e w1 ⟨rfl,m⟩)
 go_ret
 exact ⟨rfl,k.o.trans' m⟩
theorem aad (bx:Nat) (n x:Int) (b:Bool) (j:(decide (x < 0) || decide (n<=x))=b) (w:World) (h:Bk w bx 3 #[zi n]) :
 aS 208 #[zi x,av bx 0] w fun e w'=>e=.returned (.bool b)/\w=w':=by
 obtain ⟨c0,f0⟩:=pK h
 have k:=h.lt
 subst j
 by_cases g:x < 0
 ·go_enter func208,ntmps208
  go_wp2
  go_ret
  exact ⟨by simp [g],rfl⟩
 ·by_cases i:n<=x
  ·go_enter func208,ntmps208
   go_wp2
   go_ret
   exact ⟨jG (by simp [i]),rfl⟩
  ·have d:decide (x < 0)=false:=by simpa using g
   have f:decide (n<=x)=false:=by simpa using i
   rw [d,f]
   go_enter func208,ntmps208
   go_wp2
   go_ret
   exact ⟨rfl,rfl⟩
theorem aae (bx:Nat) (f:Int) (A:Option Addr) (n j:Nat) (ns:List Int) (b:Bool) (p:n=ns.length) (E:n<=100000) (g:(ns.any fun x=>decide (x < 0) || decide (f<=x))=b) (w:World) (C:aP w A ns) (h:Bk w bx 3 #[zi f]) :
 aS 249 #[.slice A n j,.func (.func 208) #[] #[bx]] w fun e w'=>(∃ i:Int,e=.returned (zi i)/\decide (0<=i)=b)/\w=w':=by
 have HL:=aa p
 have r:=aa g
 have s:=aa (fun x b g=>aad bx f x b g w h)
 clear p g h
 go_enter func249,ntmps249
 go_wp2
 go_loopw [8] (fun iv wr=>∃ k:Nat,k<=n/\iv=zi k/\kN ((ns.take k).any (fun x=>decide (x < 0) || decide (f<=x))=false)/\w=wr) (fun iv _=>n - (intOf iv).toNat)
 case atStart=>exact ⟨0,af,rfl,aa bE,rfl⟩
 case round=>
  obtain ⟨k,u,rfl,y,rfl⟩:=hrel
  by_cases hlt:k < n
  ·obtain ⟨x,l⟩:∃ x,ns[k]?=some x:=⟨ns[k]'MQ,gG _⟩
   obtain ⟨F,o,rfl,D,z⟩:=C.at_ (k:=k) MQ
   rw [l] at z
   simp only [Gu] at z
   have B:=aa l
   clear l
   cases hc:(decide (x < 0) || decide (f<=x)) with
   | true=>
    have d:=aa (s.o x true hc)
    have e:b=true:=by rw [<- r.o,List.any_eq_true];exact ⟨x,EY B.o,hc⟩
    subst e
    clear hc
    go_wp2_with (go_at_call 208;refine d.o.mono ?_;rintro e w1 ⟨rfl,rfl⟩)
    go_ret
    exact ⟨⟨_,rfl,bE⟩,rfl⟩
   | false=>
    have d:=aa (s.o x false hc)
    have m:=aa (show (ns.take (k + 1)).any (fun x=>decide (x < 0) || decide (f<=x))=false by
     obtain ⟨u,e⟩:=List.getElem?_eq_some_iff.1 B.o
     rw [MG u,e,List.any_append,y.o];simp only [List.any_cons,List.any_nil,hc];rfl)
    clear hc
    go_wp2_with (go_at_call 208;refine d.o.mono ?_;rintro e w1 ⟨rfl,rfl⟩)
    go_roundw
    case rel=>exact ⟨k + 1,af,oP,m,trivial⟩
    case measure=>simp [intOf];omega
  ·have e:b=false:=by rw [<- r.o,<- y.o,List.take_of_length_le I4]
   subst e
   go_wp2
   go_ret
   exact ⟨⟨_,rfl,rfl⟩,rfl⟩
theorem aaf (bx:Nat) (f:Int) (A:Option Addr) (n d:Nat) (ns:List Int) (b:Bool) (g:n=ns.length) (j:n<=100000) (k:(ns.any fun x=>decide (x < 0) || decide (f<=x))=b) (w:World) (l:aP w A ns) (h:Bk w bx 3 #[zi f]) :
 aS 207 #[.slice A n d,.func (.func 208) #[] #[bx]] w fun e w'=>e=.returned (.bool b)/\w=w':=by
 have m:=aa (aae bx f A n d ns b g j k w l h)
 clear g j k l h
 go_enter func207,ntmps207
 go_wp2_with (go_at_call 249;refine m.o.mono ?_;rintro e w1 ⟨⟨i,rfl,p⟩,rfl⟩)
 go_ret
 exact ⟨rfl,rfl⟩
theorem J8 (f:Int) (ns:List Int) (n:Nat):(ns.any fun x=>decide (x < 0) || decide ((n:Int)<=x))=!(bC.fits ⟨f,ns⟩ n):=by
 unfold bC.fits
 rw [Bool.eq_iff_iff]
 simp only [List.any_eq_true,Bool.or_eq_true,rJ,Bool.not_eq_true',List.all_eq_false,kE,Bool.not_eq_true]
 constructor
 ·rintro ⟨x,d,e⟩;exact ⟨x,d,jR⟩
 ·rintro ⟨x,d,e⟩;exact ⟨x,d,by simp at e;omega⟩
section
open Go.RowKit Go.Shelf
attribute [local go_sem] Oper.semAt_some
end
theorem AA (n:Nat):(dO n).nodes.map (Value.int .i64)=(List.range n).map fun i:Nat=>Value.int .i64 (i:Int):=by simp [dO]
theorem J9 (n:Nat) (X:1<=n) (h5:n<=5) (w:World) :
 aS 49 #[zi n] w fun e w'=>∃ A c,e=.returned (.tuple #[.agg #[zi 1,.slice A n c],zi 0])/\w'.ownsRow w.heap.size 3 1 (.slice A n c) n ((dO n).nodes.map (Value.int .i64))/\Old w w':=by
 obtain ⟨I,y,l,m,r⟩:=info_parts y8
 have E:=(Bk.new w 59 #[zi 0,aQ]).alloc (.cells #[zi 1,aQ] 59)
 have F:=fV w (.cells #[zi 0,aQ] 59) 59 #[zi 1,aQ]
 have G:=((Old.refl' w).ag (.cells #[zi 0,aQ] 59)).ag (.cells #[zi 1,aQ] 59)
 have H:(((w.alloc (.cells #[zi 0,aQ] 59)).alloc (.cells #[zi 1,aQ] 59))).heap.size=w.heap.size + 2:=bE
 have J:=aa H
 clear H
 go_enter func49,ntmps49
 go_wp2
 go_loopw [15] (fun iv wr=>∃ (k:Nat) (A':Option Addr) (f:Nat),k<=n/\iv=zi k/\Bk wr w.heap.size 59 #[zi 0,aQ]/\Bk wr (w.heap.size + 1) 59 #[zi 1,.slice A' k f]/\wr.ownsRow (w.heap.size + 2) 3 1 (.slice A' k f) k ((List.range k).map fun i:Nat=>Value.int .i64 (i:Int))/\Old w wr/\w.heap.size + 2<=wr.heap.size) (fun iv _=>n - (intOf iv).toNat)
 case atStart=>exact ⟨0,none,0,af,rfl,E,F,World.ownsRow_nil _ _ _ _,G,by rw [J.o];exact dN _⟩
 case round=>
  clear E F G
  obtain ⟨k,A',f,Y,rfl,g,h,d,x,Z⟩:=hrel
  obtain ⟨x0,x1,x2,x3,K⟩:=bk2 g
  obtain ⟨b0,b1,b2,b3,b4⟩:=bk2 h
  by_cases L:k < n
  ·have s:=aa (fun A2 c2 (w1:World) (h9:fZ (wr.alloc (.cells #[zi (k:Int)] 3)) (w.heap.size + 2) 3 1 (.slice A' k f) (k + 1) ((List.range (k + 1)).map fun i:Nat=>Value.int .i64 (i:Int)) (.slice A2 (k + 1) c2) w1)=>(show
    Bk (w1.setCell ⟨w.heap.size + 1,1,none⟩ (.slice A2 (k + 1) c2)) w.heap.size 59 #[zi 0,aQ]/\Bk (w1.setCell ⟨w.heap.size + 1,1,none⟩ (.slice A2 (k + 1) c2)) (w.heap.size + 1) 59 #[zi 1,.slice A2 (k + 1) c2]/\(w1.setCell ⟨w.heap.size + 1,1,none⟩ (.slice A2 (k + 1) c2)).ownsRow (w.heap.size + 2) 3 1 (.slice A2 (k + 1) c2) (k + 1) ((List.range (k + 1)).map fun i:Nat=>Value.int .i64 (i:Int))/\Old w (w1.setCell ⟨w.heap.size + 1,1,none⟩ (.slice A2 (k + 1) c2))/\w.heap.size + 2<=(w1.setCell ⟨w.heap.size + 1,1,none⟩ (.slice A2 (k + 1) c2)).heap.size by
    have j:=h9.bk (h.alloc _) (aK d h aW)
    have z:=h9.bk (g.alloc _) (aK d g aW)
    have B:Old w w1:=h9.old (x.ag _) (fun b M=>by have:=(d.lt b M).1;omega)
    refine ⟨z.far (p:=⟨w.heap.size + 1,1,none⟩) bE _,by have:=j.bH 1 (.slice A2 (k + 1) c2);simpa using this,bz (p:=⟨w.heap.size + 1,1,none⟩) h9.own (aK h9.own j aW) _,B.aJ (p:=⟨w.heap.size + 1,1,none⟩) bE _,?_⟩
    have N:w1.heap.size<=(w1.setCell ⟨w.heap.size + 1,1,none⟩ (.slice A2 (k + 1) c2)).heap.size:=by simp [World.setCell]
    have:=j.lt
    omega))
   have C:=aa (fun A2 c2 (w1:World) (h9:fZ (wr.alloc (.cells #[zi (k:Int)] 3)) (w.heap.size + 2) 3 1 (.slice A' k f) (k + 1) ((List.range (k + 1)).map fun i:Nat=>Value.int .i64 (i:Int)) (.slice A2 (k + 1) c2) w1)=>h9.bk (h.alloc _) (aK d h aW))
   clear g h x
   go_wp2_with ((at_builtin;refine bT _ rfl (.tmp 19) (.tmp 21) 34 rfl (w.heap.size + 2) 3 I (zi 0) 1 8 underlying34 y l m r rfl aW (.slice A' k f) k ((List.range k).map fun i:Nat=>Value.int .i64 (i:Int)) rfl ((d.alloc _)) (some ⟨wr.heap.size,0,none⟩) 1 (1) ([zi (k:Int)]) rfl rfl (cz (Bk.new wr 3 #[zi (k:Int)])) tC qy af jR (k + 1) rfl ((List.range (k + 1)).map fun i:Nat=>Value.int .i64 (i:Int)) (by rw [List.range_succ,BH];rfl) ?_;intro A2 c2 w1 u);obtain ⟨y0,y1,y2,y3,y4⟩:=bk2 (C.o A2 c2 w1 u))
   have D:=aa (s.o A2 c2 w1 u)
   go_roundw
   case rel=>obtain ⟨O,P,R,S,T⟩:=D.o;exact ⟨k + 1,A2,c2,af,oP,O,P,R,S,T⟩
   case measure=>simp [intOf];omega
  ·obtain rfl:k=n:=by omega
   have U:w.heap.size≠w.heap.size + 1:=af
   have V:=aa x
   have W:=aa (show World.ownsRow ((wr.setCell ⟨w.heap.size,0,none⟩ (zi 1)).setCell ⟨w.heap.size,1,none⟩ (.slice A' k f)) w.heap.size 3 1 (.slice A' k f) k ((dO k).nodes.map (Value.int .i64)) by
    rw [AA]
    exact bz (bz (dX d af) (aK d g aW) _) (aK d g aW) _)
   clear g h d x
   go_wp2
   exact bodyPost_ret (v:=.tuple #[.agg #[zi 1,.slice A' k f],zi 0]) (by simp [results,results49,go_sem,x0,x1,K]) rfl ⟨A',f,rfl,W.o,(V.o.aJ (p:=⟨w.heap.size,0,none⟩) (dN _) _).aJ (p:=⟨w.heap.size,1,none⟩) (dN _) _⟩
section
open Go.RowKit Go.Shelf
attribute [local go_sem] Oper.semAt_some
end
theorem Qg (j:Int) (A:Option Addr) (n f:Nat) (ns:List Int) (u:n=ns.length) (K:n<=1000) (w:World) (h:aP w A ns) :
 aS 160 #[.agg #[zi j,.slice A n f]] w fun e w'=>∃ A2 c2,e=.returned (.agg #[zi j,.slice A2 n c2])/\w'.ownsRow w.heap.size 3 1 (.slice A2 n c2) n (ns.map (Value.int .i64))/\Old w w':=by
 have m:=((Old.refl' w).ag (.cells #[zi j,.slice A n f] 59)).ag (.cells #[zi 0,aQ] 59)
 have x:=h.old m
 have r:=aa ((Bk.new w 59 #[zi j,.slice A n f]).alloc (.cells #[zi 0,aQ] 59))
 have y:=aa (fV w (.cells #[zi j,.slice A n f] 59) 59 #[zi 0,aQ])
 obtain ⟨z,b1,b2,B,C⟩:=bk2 r.o
 have D:=aa (jg A n f ns af u _ x)
 have E:=aa m
 clear u h m x
 go_enter func160,ntmps160
 go_wp2_with (go_at_call 61;refine D.o.mono ?_;rintro e F ⟨k,c1,rfl,d,g⟩;clear z b1 b2 B C;obtain ⟨z,b1,b2,B,C⟩:=bk2 (r.o.old g);obtain ⟨x0,x1,x2,L,G⟩:=bk2 (y.o.old g))
 have H:=r.o.old g
 have I:=y.o.old g
 have s:=E.o.trans' g
 have l:=aK d H aW
 have i:=aK d I aW
 have J:World.ownsRow (((F.setCell ⟨w.heap.size,1,none⟩ (.slice k n c1)).setCell ⟨w.heap.size + 1,0,none⟩ (zi j)).setCell ⟨w.heap.size + 1,1,none⟩ (.slice k n c1)) w.heap.size 3 1 (.slice k n c1) n (ns.map (Value.int .i64)):=
  bz (bz (bz (dX d jR) l _) i _) i _
 exact bodyPost_ret (v:=.agg #[zi j,.slice k n c1]) (by simp [results,results160,go_sem,x0,x1,G]) rfl ⟨k,c1,rfl,J,((s.aJ (p:=⟨w.heap.size,1,none⟩) bE _).aJ (p:=⟨w.heap.size + 1,0,none⟩) bE _).aJ (p:=⟨w.heap.size + 1,1,none⟩) bE _⟩
def NP (a:dY) (V1 V2:Value):Array Value:=#[zi a.n,zi a.known.az,V1,zi a.bN.promised.round,zi a.bN.promised.node,zi a.bN.accepted.round,zi a.bN.accepted.node,.bool a.bN.has,zi a.bN.chain.az,V2]
structure iy (w:World) (F K:Nat->Prop) (g:Nat) (a:dY):Prop where
 ex:∃ A1 c1 A2 c2,Bk w g 239 (NP a (.slice A1 a.known.nodes.length c1) (.slice A2 a.bN.chain.nodes.length c2))/\a.known.nodes.length<=c1/\fD w (fun k=>K k/\¬ F k) A1 a.known.nodes/\a.bN.chain.nodes.length<=c2/\fD w (fun k=>K k/\¬ F k) A2 a.bN.chain.nodes
 gF:F g
 lt:∀ k,F k->k < w.heap.size
section
variable {w w':World} {F F' K K' S:Nat->Prop} {g:Nat} {a:dY}
theorem iy.fr (h:iy w F K g a) (e:Fr S w w') (f:∀ k,F k∨K k/\¬ F k->¬ S k):iy w' F K g a:=by
 obtain ⟨i,c1,A2,c2,j,l,m,n,p⟩:=h.ex
 exact ⟨⟨i,c1,A2,c2,j.fr e (f g (.inl h.gF)),l,m.fr e (fun k d=>f k (.inr d)),n,p.fr e (fun k d=>f k (.inr d))⟩,h.gF,fun k d=>iD (h.lt k d) e.size⟩
theorem iy.old (h:iy w F K g a) (d:Old w w'):iy w' F K g a:=h.fr (S:=fun _=>False) (Fr.aj d) (fun _ _ h=>h)
theorem iy.mono (h:iy w F K g a) (i:∀ k,F k->F' k) (j:∀ k,F' k->k < w.heap.size) (f:∀ k,k < w.heap.size->K k->¬ F k->K' k/\¬ F' k):iy w F' K' g a:=by
 obtain ⟨l,c1,A2,c2,m,n,p,r,s⟩:=h.ex
 exact ⟨⟨l,c1,A2,c2,m,n,p.mono (fun k e d=>f k e d.1 d.2),r,s.mono (fun k e d=>f k e d.1 d.2)⟩,i g h.gF,j⟩
end
def wI (w:World) (c:bC) (e:Ending) (w':World):Prop:=∃ A q,e=.returned (.agg #[zi c.az,.slice A c.nodes.length q])/\w'.ownsRow w.heap.size 3 1 (.slice A c.nodes.length q) c.nodes.length (c.nodes.map (Value.int .i64))/\Old w w'
theorem RS (F K:Nat->Prop) (g:Nat) (a:dY) (D:a.known.nodes.length<=1000) (w:World) (h:iy w F K g a) :
 aS 100 #[g] w (wI w a.known):=by
 obtain ⟨E,q1,A2,J,i,G,s,L,H⟩:=h.ex
 obtain ⟨n,⟨u,kn⟩,v⟩:=a
 simp only at *
 unfold wI
 simp only
 obtain ⟨m,k⟩:=aR (kn.length)
 rw [k] at i G D ⊢
 have j:=(Old.refl' w).ag (.cells #[zi 0,aQ] 59)
 have x:=aa (Bk.new w 59 #[zi 0,aQ])
 have l:=i.old j
 have d1:=l.cell 1
 have d2:=l.cell 2
 simp [NP] at d1 d2
 have M:=i.lt
 have y:=aa (Qg u E m q1 kn k.symm af _ (s.1.old j))
 have z:=aa j
 clear h i s H k j
 go_enter func100,ntmps100
 go_wp2_with fail
 refine y.o.mono ?_
 rintro e N ⟨A,c,rfl,d,B⟩
 have C:=aa (x.o.old B)
 have f:=aK d C.o aW
 have r:=aa (z.o.trans' B)
 obtain ⟨x0,x1,x2,O,I⟩:=bk2 C.o
 clear y l d1 d2 z x
 go_wp2_with fail
 exact bodyPost_ret (v:=.agg #[zi u,.slice A m c]) (by simp [results,results100,go_sem,x0,x1,I]) rfl ⟨A,c,rfl,bz (bz (dX d bE) f _) f _,((r.o).aJ (p:=⟨w.heap.size,0,none⟩) bE _).aJ (p:=⟨w.heap.size,1,none⟩) bE _⟩
def wJ (w:World) (v:oM) (e:Ending) (w':World):Prop:=∃ A q,e=.returned (.agg #[zi v.promised.round,zi v.promised.node,zi v.accepted.round,zi v.accepted.node,.bool v.has,zi v.chain.az,.slice A v.chain.nodes.length q])/\w'.ownsRow w.heap.size 3 1 (.slice A v.chain.nodes.length q) v.chain.nodes.length (v.chain.nodes.map (Value.int .i64))/\Old w w'
theorem Ka (F K:Nat->Prop) (g:Nat) (a:dY) (X:a.bN.chain.nodes.length<=1000) (w:World) (h:iy w F K g a) :
 aS 186 #[g] w (wJ w a.bN):=by
 obtain ⟨A1,q1,A2,r,z,l1,Y,Z,B⟩:=h.ex
 obtain ⟨n,⟨ke,kn⟩,⟨⟨s,u⟩,⟨x,an⟩,y,l,H⟩⟩:=a
 simp only at *
 unfold wJ
 simp only
 obtain ⟨m,C⟩:=aR (H.length)
 rw [C] at z Z X ⊢
 have D:=(Old.refl' w).ag (.cells #[zi 0,zi 0,zi 0,zi 0,.bool false,zi 0,aQ] 108)
 have I:=aa ((Bk.new w 108 #[zi 0,zi 0,zi 0,zi 0,.bool false,zi 0,aQ]).alloc (.cells #[zi s,zi u,zi x,zi an,.bool y,zi l,.slice A2 m r] 108))
 have J:=aa (fV w (.cells #[zi 0,zi 0,zi 0,zi 0,.bool false,zi 0,aQ] 108) 108 #[zi s,zi u,zi x,zi an,.bool y,zi l,.slice A2 m r])
 have L:=z.old D
 have M:∀ (j:Nat) v,(#[zi s,zi u,zi x,zi an,.bool y,zi l,.slice A2 m r]:Array Value)[j]?=some v->(w.alloc (.cells #[zi 0,zi 0,zi 0,zi 0,.bool false,zi 0,aQ] 108)).cell? ⟨g,3 + j,none⟩=some v:=by
  intro j v hv
  have:=L.cell (3 + j)
  rw [this,<- hv]
  match j with
  | 0 | 1 | 2 | 3 | 4 | 5 | 6=>rfl
  | j + 7=>rw [Array.getElem?_eq_none (by simp [NP];omega),Array.getElem?_eq_none bE]
 have N:=aa M
 have hg:=z.lt
 have HK:=aa B
 have p:=D.ag (.cells #[zi s,zi u,zi x,zi an,.bool y,zi l,.slice A2 m r] 108)
 have O:=aa (Qg l A2 m r H C.symm af _ (B.1.old p))
 have P:=aa p
 clear h z Y B C D M L p HK
 go_enter func186,ntmps186
 have R:=N.o
 go_wp2_with ((with_reducible refine bZ 108 (.tmp 9) g 3 #[zi s,zi u,zi x,zi an,.bool y,zi l,.slice A2 m r] _ ?_ R underlying108 rfl ?_ ?_);(· rfl);(· kernel_rfl))
 refine O.o.mono ?_
 rintro e w2 ⟨A,c,rfl,d,E⟩
 have f:=aa (I.o.old E)
 have k:=aa (J.o.old E)
 have hne:=aK d f.o aW
 have hny:=aK d k.o aW
 have G:=aa (P.o.trans' E)
 have y0:=k.o.cell 0
 have y1:=k.o.cell 1
 have y2:=k.o.cell 2
 have y3:=k.o.cell 3
 have y4:=k.o.cell 4
 have y5:=k.o.cell 5
 have y6:=k.o.cell 6
 have x0:=f.o.cell 0
 have x1:=f.o.cell 1
 have x2:=f.o.cell 2
 have T:=f.o.cell 3
 have U:=f.o.cell 4
 have V:=f.o.cell 5
 have W:=f.o.cell 6
 have yf:=fun i=>k.o.frozen i
 have xf:=fun i=>f.o.frozen i
 have yl:=k.o.lt
 have xl:=f.o.lt
 simp at x0 x1 x2 T U V W y0 y1 y2 y3 y4 y5 y6
 clear O P I J R N
 go_wp2_with fail
 refine bodyPost_ret (v:=.agg #[zi s,zi u,zi x,zi an,.bool y,zi l,.slice A m c]) (by simp [results,results186,go_sem,x0,x1,x2,T,U,V,W,xf,xl]) rfl ⟨A,c,rfl,?_,?_⟩
 ·have d:=dX d (b:=w.heap.size) jR
  (repeat (with_reducible refine bz ?_ (by assumption) _))
  exact d
 ·(repeat (with_reducible refine Old.aJ ?_ bE _))
  exact G.o
end Go.Proofs.YthihpfpbiajddaaGreat
