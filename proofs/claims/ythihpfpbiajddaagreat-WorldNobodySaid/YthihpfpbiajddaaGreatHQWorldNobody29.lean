/- Parts of the proof. -/
import Derived.Test.YthihpfpbiajddaaGreatHQWorldNobody28
set_option maxRecDepth 100000
set_option maxHeartbeats 8000000
open Go.Proofs.Tryz
namespace Go.Proofs.YthihpfpbiajddaaGreat
open Go.RowKit
theorem IX.answered {w w':World} {cs:Array Value} {V g:Value} {F G:Nat->Prop} {st:PV} {c:Nat} (h:IX w cs V F st) (i:c < 4) (j:∀ v q,nJ w F v q->nJ w' G v q) :
 IX w' ((cs.setIfInBounds 0 g).setIfInBounds (5 + c) (.pointer none)) g G (st.answered c):=by
 refine ⟨?_,fun f d=>?_,fun f d=>?_⟩
 ·rw [bK af];exact get_eq h.c0 _
 ·rw [bK af,bK af];exact h.lc f d
 ·show nJ w' G _ (if (f:Int)=(c:Int) then none else st.wait f)
  by_cases e:c=f
  ·subst e
   rw [if_pos rfl]
   have h0:=h.wc c i
   obtain ⟨v,k⟩:∃ v,cs[5 + c]?=some v:=Vb
   exact get_eq (v:=v) (by rw [bK (by omega)];exact k) _
  ·rw [bK af,bK af,if_neg af]
   exact j _ _ (h.wc f d)
theorem ED (p:Nat) (F:Nat->Prop) (st:PV) (n:Nat) (hn:st.n=n) (Ao:n<=50000) (c:Nat) (X:c < 4) (u at_:Int) (h1:¬ at_ < 0) (h2:¬ 1073741824 < at_) (r:om) (A:Option Addr) (j ca:Nat) (hvn:r.vs.length=j) (hv:j<=50000) (q:aG) (hw:st.wait c=some q) (hs:q.seq=u) (w:World) (h:ru w p F st) (hI:aP w A r.vs) :
 aS 76 #[p,zi c,zi u,.agg #[zi r.code,zi r.fQ,.string r.data,.slice A j ca],zi at_] w fun e w'=>e=.returned (zi 0)/\(∃ F',ru w' p F' (st.answered c)/\(∀ b,F' b->F b∨w.heap.size<=b)/\∀ b,F' b->F b∨∃ V',w'.cell? ⟨p,0,none⟩=some V'/\V'.ownBlock=some b)/\Fr F w w'/\∃ i l,AO w' p n [zi c,zi u,.bool true,zi q.client,zi q.seq,zi q.kind,zi q.id,zi q.eD,.string q.data,zi r.code,zi r.fQ,.string r.data,.slice i j l,zi at_]/\aP w' i r.vs/\Kz w p n w' [zi c,zi u,.bool true,zi q.client,zi q.seq,zi q.kind,zi q.id,zi q.eD,.string q.data,zi r.code,zi r.fQ,.string r.data,.slice i j l,zi at_]/\∀ a,i=some a->w.heap.size<=a.block/\∀ V',w'.cell? ⟨p,0,none⟩=some V'->V'.ownBlock≠some a.block:=by
 obtain ⟨j0,hj0,Av,Aw,Ay⟩:=info_parts xH
 obtain ⟨⟨cs,V,xs,Y,hC,hV⟩,gF,hlt,hwn⟩:=h
 have h5:=hC.wc c X
 rw [hw] at h5
 obtain ⟨bw,h5,hq,hbF⟩:=h5
 rw [hn] at Y
 obtain ⟨V,G,rfl,-,-⟩:=bI Y.row
 have hxl:xs.length=n * 14:=Y.row.1
 have hgl:=Y.bk.lt
 have hc4:(c:Int) < 4:=af
 have hc0:¬ ((c:Int) < 0):=af
 have hc5:¬ (4<=(c:Int)):=af
 have HO:=aa ((Old.refl' w).ag (.cells #[zi r.code,zi r.fQ,.string r.data,.slice A j ca] 49))
 have t0:=(HO.o.cell (p:=⟨p,5 + c,none⟩) hgl).trans ((Y.bk.cell _).trans h5)
 obtain ⟨⟨x0,x1,x2,x3,x4,x5⟩,lx⟩:=lH (hq.old HO.o)
 obtain ⟨⟨y0,y1,y2,y3⟩,-,ly⟩:=Fx (Bk.new w 49 #[zi r.code,zi r.fQ,.string r.data,.slice A j ca])
 have cC:=aa (jg A j ca r.vs af hvn.symm (w.alloc (.cells #[zi r.code,zi r.fQ,.string r.data,.slice A j ca] 49)) (ah.alloc hI _))
 have HK8:=aa (Bk.new w 49 #[zi r.code,zi r.fQ,.string r.data,.slice A j ca])
 have e1:(q.seq == u)=true:=by simpa using hs
 have hbp:bw≠p:=fun e=>by rw [e] at hq;exact Bk.vC hq Y.bk (by decide) rfl
 have hbv:(Value.slice V n G).ownBlock≠some bw:=aK Y.row hq aW
 have hbl:=hq.lt
 have HB:=aa Y
 have HC:=aa hC
 have HV:=aa hV
 have Ws:=aa hwn
 have Fp:=aa hlt
 have Z:=aa gF
 have Zx:=aa hxl
 have HQ:=aa hq
 have H5:=aa h5
 have HVN:=aa hvn
 clear hw Y hC hV hlt hwn gF hxl hq h5 hs hI hvn
 go_enter func76,ntmps76
 go_wp2_with fail
 refine cC.o.mono ?_
 rintro e w2 ⟨i,l,rfl,s,b2⟩
 have hIV:aP w2 i r.vs:=ah.bA s
 have HR2:=aa s
 have z:∀ a,i=some a->w.heap.size + 1<=a.block:=fun a W=>by
  subst W
  have:=(iO s (k:=a.block) rfl).1
  simpa using this
 have k8:=HK8.o.old b2
 obtain ⟨⟨z0,z1,z2,z3⟩,⟨g0,g1,g2,g3⟩,lz⟩:=Fx k8
 clear x0 x1 x2 x3 x4 x5 lx y0 y1 y2 y3 ly t0 s
 go_wp2_with fail
 have hO2:=HO.o.trans' b2
 have hO3:Old w (w2.setCell ⟨w.heap.size,3,none⟩ (.slice i j l)):=Old.aJ (p:=⟨w.heap.size,3,none⟩) hO2 (dN _) _
 have k9:Bk (w2.setCell ⟨w.heap.size,3,none⟩ (.slice i j l)) w.heap.size 49 #[zi r.code,zi r.fQ,.string r.data,.slice i j l]:=by
  have:=k8.bH 3 (.slice i j l)
  simpa using this
 have hI3:aP (w2.setCell ⟨w.heap.size,3,none⟩ (.slice i j l)) i r.vs:=ah.bH hIV (fun a W=>by have:=z a W;show a.block≠w.heap.size;omega) _
 have ML:=HB.o.old hO3
 have MM:=HQ.o.old hO3
 clear z0 z1 z2 z3 g0 g1 g2 g3 lz k8 hIV hO2
 obtain ⟨y,m⟩:=aR ((w2.setCell ⟨w.heap.size,3,none⟩ (.slice i j l)).drew)
 have OU:Old w y:=m▸hO3.drew'
 have k9:Bk y w.heap.size 49 #[zi r.code,zi r.fQ,.string r.data,.slice i j l]:=m▸k9.drew
 have hI5:aP y i r.vs:=m▸ah.drew hI3
 have K:∀ k,(Value.slice i j l).ownBlock=some k->w.heap.size + 1<=k:=fun k f=>by
  cases i with
  | none=>simp [Value.ownBlock] at f
  | some a=>
   have e:a.block=k:=by simpa [Value.ownBlock] using f
   have:=z a rfl
   omega
 have HR5:=aa (⟨_,by rw [<- m];exact bF (bz (p:=⟨w.heap.size,3,none⟩) HR2.o (fun e=>by have h:w.heap.size + 1<=w.heap.size:=K _ e;omega) _) ((Old.refl' _).drew')⟩:∃ base,y.ownsRow base 3 1 (.slice i j l) j (r.vs.map (Value.int .i64)))
 have HAV:=aa K
 clear HR2 K
 have L:uJ y p cs (.slice V n G) n xs:=HB.o.old OU
 have SY:=HQ.o.old OU
 obtain ⟨b8,Vp⟩:=aR (w.heap.size)
 rw [Vp] at k9
 simp only [Vp] at m ⊢
 have HB8:=aa Vp
 have NF:p≠b8:=af
 have Dm:=L.bk
 have wR:=L.row
 have Fy:=L.ne
 have hX1:cs[0]?=some (.slice V n G):=HC.o.c0
 have CS:=aa (fun (U:World) (h:Old y U)=>(⟨((Dm.old h).cell 0).trans hX1,((Dm.old h).cell _).trans H5.o,(lH (SY.old h)).1,(Fx (k9.old h)).1⟩:U.cell? ⟨p,0,none⟩=some (.slice V n G)/\U.cell? ⟨p,5 + c,none⟩=some (av bw 0)/\_/\_))
 obtain ⟨Fin,M⟩:∃ F:World->Prop,F=fun U=>∃ I c3,uJ U p (cs.setIfInBounds 0 (.slice I (n + 1) c3)) (.slice I (n + 1) c3) (n + 1) (xs ++ [zi c,zi u,.bool true,zi q.client,zi q.seq,zi q.kind,zi q.id,zi q.eD,.string q.data,zi r.code,zi r.fQ,.string r.data,.slice i j l,zi at_])/\
  Fr (fun b=>b=p∨(Value.slice V n G).ownBlock=some b) y U/\(∀ b,(Value.slice I (n + 1) c3).ownBlock=some b->(Value.slice V n G).ownBlock=some b∨y.heap.size<=b):=⟨_,rfl⟩
 have wS:=fun (I:Option Addr) (c3:Nat) (W3:World) (h3:fZ (y.alloc (.cells #[zi c,zi u,.bool true,zi q.client,zi q.seq,zi q.kind,zi q.id,zi q.eD,.string q.data,zi r.code,zi r.fQ,.string r.data,.slice i j l,zi at_] 51)) 0 51 14 (.slice V n G) (n + 1) (xs ++ [zi c,zi u,.bool true,zi q.client,zi q.seq,zi q.kind,zi q.id,zi q.eD,.string q.data,zi r.code,zi r.fQ,.string r.data,.slice i j l,zi at_]) (.slice I (n + 1) c3) W3)=>(by
  obtain ⟨a1,a2,a3⟩:=L.app ((Old.refl' y).ag _) h3
  rw [M]
  exact ⟨I,c3,a1,a2,a3⟩:Fin (W3.setCell ⟨p,0,none⟩ (.slice I (n + 1) c3)))
 have HK9:=aa k9
 have HI5:=aa hI5
 have HO5:=aa OU
 clear ML MM L SY hO3 hI3 k9 hI5 OU HO cC b2 Vp
 refine aY (R:=pick [eqv (av p 0),eqv (av p 0),eqv (av p 0),eqv (av p 0),eqv (.slice V n G),eqv (zi c),eqv (zi u),eqv (av p 0),eqv (zi c),eqv (av p 0),eqv (av p 5),eqv (av p (5 + c)),eqv (av bw 0),eqv (av bw 0),eqv (.agg #[zi q.client,zi q.seq,zi q.kind,zi q.id,zi q.eD,.string q.data]),eqv (.agg #[zi r.code,zi r.fQ,.string r.data,.slice i j l]),eqv (zi at_),eqv (.agg #[zi c,zi u,.bool true,zi q.client,zi q.seq,zi q.kind,zi q.id,zi q.eD,.string q.data,zi r.code,zi r.fQ,.string r.data,.slice i j l,zi at_]),eqv (.slice (some ⟨y.heap.size,0,none⟩) 1 1),fun v w'=>∃ A2 c2,v=.slice A2 (n + 1) c2,eqv (av p 0),eqv (av p 0),eqv (undef)]) (S:=fun σ w'=>(σ 22≠none->Fin w')/\(σ 22=none->σ 19≠none->∃ A2 c2,σ 19=some (.slice A2 (n + 1) c2)/\fZ (y.alloc (.cells #[zi c,zi u,.bool true,zi q.client,zi q.seq,zi q.kind,zi q.id,zi q.eD,.string q.data,zi r.code,zi r.fQ,.string r.data,.slice i j l,zi at_] 51)) 0 51 14 (.slice V n G) (n + 1) (xs ++ [zi c,zi u,.bool true,zi q.client,zi q.seq,zi q.kind,zi q.id,zi q.eD,.string q.data,zi r.code,zi r.fQ,.string r.data,.slice i j l,zi at_]) (.slice A2 (n + 1) c2) w')/\(σ 22=none->σ 19=none->σ 18≠none->w'=(y.alloc (.cells #[zi c,zi u,.bool true,zi q.client,zi q.seq,zi q.kind,zi q.id,zi q.eD,.string q.data,zi r.code,zi r.fQ,.string r.data,.slice i j l,zi at_] 51)))/\(σ 22=none->σ 19=none->σ 18=none->w'=y)) (T:=(fun _ _=>True)) ay ay ay (ai.pick (ai.eqv (ai.eqv (ai.eqv (ai.eqv (ai.eqv (ai.eqv (ai.eqv (ai.eqv (ai.eqv (ai.eqv (ai.eqv (ai.eqv (ai.eqv (ai.eqv (ai.eqv (ai.eqv (ai.eqv (ai.eqv (ai.eqv (ai.cons (fun _ _ _ _ h=>h) (ai.eqv (ai.eqv (ai.eqv (ai.nil))))))))))))))))))))))))) (⟨fun h=>absurd rfl h,fun _ h=>absurd rfl h,fun _ _ h=>absurd rfl h,fun _ _ _=>m⟩) ?steps ?ends
 case steps=>
  refine .cons (zp [] [(0,p)]) <|.cons (zp [] [(0,p)]) <|.cons (zp [(1,54)] []) <|.cons (zp [(2,55)] []) ?_
  refine .cons (zp [(3,56)] [] (fun d E w' f B hS X hf=>by rintro _ q3 rfl e56 ;obtain ⟨t0,t1,⟨s0,s1,s2,s3,s4,s5⟩,⟨y0,y1,y2,y3⟩⟩:=CS.o w' ((Classical.em (d 18=none)).elim (fun g=>by rw [hS.2.2.2 (f 22 (by kernel_rfl)) (f 19 (by kernel_rfl)) g];exact Old.refl' _) (fun g=>by rw [hS.2.2.1 (f 22 (by kernel_rfl)) (f 19 (by kernel_rfl)) g];exact (Old.refl' _).ag _));exact ⟨_,by go_simp,rfl⟩)) ?_
  refine .cons (zp [] [(1,zi c)]) <|.cons (zp [] [(2,zi u)]) <|.cons (zp [] [(0,p)]) <|.cons (zp [] [(1,zi c)]) <|.cons (zp [(7,60)] []) <|.cons (zp [(9,62)] []) ?_
  refine .cons (zp [(10,63),(8,61)] [] (fun d E w' f B hS X hf=>by rintro _ GI rfl e63 _ q8 rfl e61 ;obtain ⟨t0,t1,⟨s0,s1,s2,s3,s4,s5⟩,⟨y0,y1,y2,y3⟩⟩:=CS.o w' ((Classical.em (d 18=none)).elim (fun g=>by rw [hS.2.2.2 (f 22 (by kernel_rfl)) (f 19 (by kernel_rfl)) g];exact Old.refl' _) (fun g=>by rw [hS.2.2.1 (f 22 (by kernel_rfl)) (f 19 (by kernel_rfl)) g];exact (Old.refl' _).ag _));exact ⟨_,by go_simp,rfl⟩)) ?_
  refine .cons (zp [(11,64)] [] (fun d E w' f B hS X hf=>by rintro _ UH rfl e64 ;obtain ⟨t0,t1,⟨s0,s1,s2,s3,s4,s5⟩,⟨y0,y1,y2,y3⟩⟩:=CS.o w' ((Classical.em (d 18=none)).elim (fun g=>by rw [hS.2.2.2 (f 22 (by kernel_rfl)) (f 19 (by kernel_rfl)) g];exact Old.refl' _) (fun g=>by rw [hS.2.2.1 (f 22 (by kernel_rfl)) (f 19 (by kernel_rfl)) g];exact (Old.refl' _).ag _));exact ⟨_,by go_simp,rfl⟩)) ?_
  refine .cons (zp [(12,65)] []) ?_
  refine .cons (zp [(13,66)] [] (fun d E w' f B hS X hf=>by rintro _ TT rfl e66 ;obtain ⟨t0,t1,⟨s0,s1,s2,s3,s4,s5⟩,⟨y0,y1,y2,y3⟩⟩:=CS.o w' ((Classical.em (d 18=none)).elim (fun g=>by rw [hS.2.2.2 (f 22 (by kernel_rfl)) (f 19 (by kernel_rfl)) g];exact Old.refl' _) (fun g=>by rw [hS.2.2.1 (f 22 (by kernel_rfl)) (f 19 (by kernel_rfl)) g];exact (Old.refl' _).ag _));exact ⟨_,by go_simp,rfl⟩)) ?_
  refine .cons (zp [] [(8,b8)] (fun d E w' f B hS X hf=>by rintro  e8;obtain ⟨t0,t1,⟨s0,s1,s2,s3,s4,s5⟩,⟨y0,y1,y2,y3⟩⟩:=CS.o w' ((Classical.em (d 18=none)).elim (fun g=>by rw [hS.2.2.2 (f 22 (by kernel_rfl)) (f 19 (by kernel_rfl)) g];exact Old.refl' _) (fun g=>by rw [hS.2.2.1 (f 22 (by kernel_rfl)) (f 19 (by kernel_rfl)) g];exact (Old.refl' _).ag _));exact ⟨_,by go_simp,rfl⟩)) ?_
  refine .cons (zp [] [(4,zi at_)]) ?_
  refine .cons (zp [(5,58),(6,59),(14,67),(15,68),(16,69)] [] (fun d E w' f B hS X hf=>by rintro _ q5 rfl e58 _ q6 rfl e59 _ Qk rfl e67 _ q15 rfl e68 _ q16 rfl e69 ;exact ⟨_,by go_simp,rfl⟩)) ?_
  refine aH.cons (bP [(17,70)] [] rfl rfl ay ay rfl ?_) ?_
  ·rintro d a w' f B hS _ q17 rfl e70 
   first | refine Given.nil (aU.nil ?_) | refine aU.nil ?_
   obtain rfl:=(hS.2.2.2 (f 22 ay) (f 19 ay) (f 18 ay)).symm
   refine jC (w':=(y.alloc (.cells #[zi c,zi u,.bool true,zi q.client,zi q.seq,zi q.kind,zi q.id,zi q.eD,.string q.data,zi r.code,zi r.fQ,.string r.data,.slice i j l,zi at_] 51))) (.slice (some ⟨y.heap.size,0,none⟩) 1 1) (by revert e70;generalize a.eval=E;intro e70;go_simp) ⟨_,rfl,rfl,trivial,?_⟩
   exact ⟨fun h=>absurd (f 22 ay) yg,fun _ h=>absurd (f 19 ay) yg,fun _ _ _=>rfl,fun _ _ h=>xX⟩
  refine aH.cons (bP [(4,57),(18,71)] [] rfl rfl ay ay rfl ?_) ?_
  ·rintro d a w' f B hS _ q4 rfl e57 _ q18 rfl e71 
   first | refine Given.nil (aU.nil ?_) | refine aU.nil ?_
   obtain rfl:=hS.2.2.1 (f 22 ay) (f 19 ay) (by rw [q18];simp)
   refine qU _ (.tmp 57) (.tmp 71) 46 rfl 0 51 j0 (.agg #[zi 0,zi 0,.bool false,zi 0,zi 0,zi 0,zi 0,zi 0,.string { data:=#[] },zi 0,zi 0,.string { data:=#[] },aQ,zi 0]) 14 144 underlying46 hj0 Av Aw Ay rfl aW (.slice V n G) n (xs) e57 (wR.alloc _) (some ⟨y.heap.size,0,none⟩) 1 1 [zi c,zi u,.bool true,zi q.client,zi q.seq,zi q.kind,zi q.id,zi q.eD,.string q.data,zi r.code,zi r.fQ,.string r.data,.slice i j l,zi at_] e71 rfl (cz (Bk.new y 51 #[zi c,zi u,.bool true,zi q.client,zi q.seq,zi q.kind,zi q.id,zi q.eD,.string q.data,zi r.code,zi r.fQ,.string r.data,.slice i j l,zi at_])) tC qy af (Nat.zero_le _) (n + 1) rfl _ rfl ?_
   intro A2 c2 W2 h2
   exact ⟨_,rfl,⟨A2,c2,rfl⟩,trivial,fun h=>absurd (f 22 ay) yg,fun _ _=>⟨A2,c2,vL,h2⟩,fun _ h=>xX,fun _ h=>xX⟩
  refine .cons (zp [(0,53)] []) <|.cons (zp [(20,73)] []) ?_
  refine aH.cons (dH [(21,74),(19,72)] [] rfl rfl ay ay rfl (fun d E w' f B hS X hf=>by rintro _ q21 rfl e74 _ q19 ⟨A2,c2,rfl⟩ e72 ;obtain ⟨I,c3,e14,h2⟩:=hS.2.1 (f 22 (by kernel_rfl)) (by rw [q19];simp);rw [q19] at e14;injection e14 with e14;injection e14 with AB _ AF;subst AB AF;have hG2:=h2.bk (Dm.alloc _) Fy;have y0:=(hG2.cell 0).trans hX1;have y1:=hG2.frozen 0;exact ⟨w'.setCell ⟨p,0,none⟩ (.slice A2 (n + 1) c2),by go_simp,rfl,trivial,⟨fun _=>wS _ _ _ h2,fun h=>by simp [upd] at h,fun h=>by simp [upd] at h,fun h=>by simp [upd] at h⟩⟩)) ?_
  exact aH.nil
 case ends=>
  intro jA N nT IW
  iterate 19 refine .eqv _ _ rfl (fun _ h=>h) ?_
  refine Ends.ex (some 72) rfl ?_
  rintro _ p19 ⟨A2,c2,rfl⟩
  iterate 3 refine .eqv _ _ rfl (fun _ h=>h) ?_
  refine Ends.nil ?_
  have J6:=IW
  clear IW
  simp only [aC,ax,fM,fJ]
  have H:=nT.1 (by have:=J6 22 (by simp);intro e;rw [e] at this;simp at this)
  clear nT J6
  rw [M] at H
  obtain ⟨I,c3,D,O,WO⟩:=H
  clear CS wS Dm wR Fy M m
  have hsz5:=HO5.o.size
  have hlast:=D.last (get_eq (v:=.slice V n G) HC.o.c0 _) Zx.o rfl
  have hvF:∀ b,(Value.slice V n G).ownBlock=some b->b < w.heap.size:=fun b hb=>Fp.o _ (HV.o b hb)
  have hI8:aP N i r.vs:=ah.fr HI5.o O (fun _ a W e=>by
   have h1:=z a W
   rcases e with e | e
   ·omega
   ·have:=hvF _ e;omega)
  obtain ⟨cu,J⟩:=aR (cs.setIfInBounds 0 (Value.slice I (n + 1) c3))
  have h5u:cu[5 + c]?=some (av bw 0):=by rw [<- J,bK (by omega)];exact H5.o
  rw [J] at D
  have tp:=(D.bk.cell (5 + c)).trans h5u
  have tf:=D.bk.frozen (5 + c)
  have lp:=D.bk.lt
  have C:=D.bH (5 + c) (.pointer none)
  have P:Fr (fun b=>b=p) N (N.setCell ⟨p,5 + c,none⟩ (.pointer none)):=Fr.setCell (S:=fun b=>b=p) (p:=⟨p,5 + c,none⟩) (Fr.refl (fun b=>b=p) N) (.inr rfl) _
  have OV:p < w.heap.size:=Fp.o p Z.o
  have hfr:Fr F w (N.setCell ⟨p,5 + c,none⟩ (.pointer none)):=((Fr.aj (S:=F) HO5.o).trans' O (fun b _ hb=>by rcases hb with hb | hb;exact hb▸Z.o;exact HV.o b hb)).trans' P (fun b _ hb=>by rw [show b=p from hb];exact Z.o)
  have Zh:=aa hfr
  have S7:=aa (ah.fr hI8 P (fun _ a W e=>by have h1:=z a W;have h2:a.block=p:=e;omega):ah _ i _)
  have WE:=aa (show AO (N.setCell ⟨p,5 + c,none⟩ (.pointer none)) p n [zi c,zi u,.bool true,zi q.client,zi q.seq,zi q.kind,zi q.id,zi q.eD,.string q.data,zi r.code,zi r.fQ,.string r.data,.slice i j l,zi at_] from by
   refine C.last ?_ Zx.o rfl
   rw [bK af,<- J]
   exact get_eq HC.o.c0 _)
  have hc9:(N.setCell ⟨p,5 + c,none⟩ (.pointer none)).cell? ⟨p,0,none⟩=some (.slice I (n + 1) c3):=(C.bk.cell 0).trans (by rw [bK (by omega),<- J];exact get_eq HC.o.c0 _)
  have H:=aa (show ∃ F',ru (N.setCell ⟨p,5 + c,none⟩ (.pointer none)) p F' (st.answered c)/\(∀ b,F' b->F b∨w.heap.size<=b)/\∀ b,F' b->F b∨∃ V',(N.setCell ⟨p,5 + c,none⟩ (.pointer none)).cell? ⟨p,0,none⟩=some V'/\V'.ownBlock=some b from by
   refine ⟨fun b=>F b∨(Value.slice I (n + 1) c3).ownBlock=some b,⟨⟨_,_,_,by rw [show (st.answered c).n=n + 1 by rw [<- hn];rfl];exact C,?_,fun b hb=>.inr hb⟩,.inl Z.o,fun b hb=>?_,fun x hx=>?_⟩,fun b hb=>?_,fun b hb=>hb.imp id fun e=>⟨_,hc9,e⟩⟩
   ·rw [<- J]
    refine IX.answered HC.o X (fun v r' hv=>?_)
    cases r' with
    | none=>exact hv
    | some r'=>
     obtain ⟨bx,e1,e2,e3⟩:=hv
     have hxp:bx≠p:=fun e=>by rw [e] at e2;exact Bk.vC e2 HB.o.bk (by decide) rfl
     have hxv:(Value.slice V n G).ownBlock≠some bx:=aK HB.o.row e2 aW
     exact ⟨bx,e1,((e2.old HO5.o).fr O (fun e=>by rcases e with e | e;exact hxp e;exact hxv e)).fr P hxp,.inl e3⟩
   ·rcases hb with hb | hb
    ·exact iD (Fp.o b hb) hfr.size
    ·exact mU C.row hb
   ·show (if x=(c:Int) then none else st.wait x)=none
    rw [if_neg af]
    exact Ws.o x hx
   ·rcases hb with hb | hb
    ·exact .inl hb
    ·rcases WO b hb with hb | hb
     ·exact .inl (HV.o b hb)
     ·exact .inr af)
  have s:=aa (show Kz w p n (N.setCell ⟨p,5 + c,none⟩ (.pointer none)) [zi c,zi u,.bool true,zi q.client,zi q.seq,zi q.kind,zi q.id,zi q.eD,.string q.data,zi r.code,zi r.fQ,.string r.data,.slice i j l,zi at_] from ⟨.slice V n G,_,.slice I (n + 1) c3,(HB.o.bk.cell 0).trans HC.o.c0,HB.o.row,(C.bk.cell 0).trans (by rw [bK (by omega),<- J];exact get_eq HC.o.c0 _),C.row⟩)
  have hnw:=aa (fun a (W:i=some a)=>(show w.heap.size<=a.block/\∀ V',(N.setCell ⟨p,5 + c,none⟩ (.pointer none)).cell? ⟨p,0,none⟩=some V'->V'.ownBlock≠some a.block from ⟨ic (ym _) (z a W),fun V' hV' e=>by
   rw [hc9] at hV'
   cases hV'
   obtain ⟨base,hR⟩:=HR5.o
   have S8:=dh hR O (fun k f e=>by
    have h5:=HAV.o k f
    rcases e with e | e
    ·omega
    ·have:=hvF _ e;omega)
   have hR9:=dh S8 P (fun k f (e:k=p)=>by have h5:=HAV.o k f;omega)
   obtain ⟨cur,aaS⟩:=(iO C.row e).2
   exact aK hR9 aaS aW (by rw [W];rfl)⟩))
  clear D O WO hfr C P hI8 hlast
  go_wp2_with fail
  go_ret
  exact ⟨rfl,H.o,Zh.o,i,l,WE.o,S7.o,s.o,hnw.o⟩
theorem CV {w:World} {b b':Nat} {e x:TypeId} {s n:Nat} {V:Value} {xs i:List Value} (h:w.ownsRow b e s V n xs) (j:w.ownsRow b' x s V n i):xs=i:=by
 rcases h.2 with ⟨rfl,rfl⟩ | ⟨g,y,z,rfl,_,A,_,_,_,B⟩
 ·have k:=h.1
  have m:=j.1
  rw [Nat.zero_mul] at k m
  rw [List.eq_nil_of_length_eq_zero k,List.eq_nil_of_length_eq_zero m]
 ·rcases j.2 with ⟨f,_⟩ | ⟨D,r,u,f,_,d,_,_,_,C⟩
  ·cases f
  ·cases f
   rw [A] at d
   cases d
   rw [<- B,<- C]
section
variable {w w':World} {p:Nat} {F F' K:Nat->Prop} {st s':PV} {l:List bR}
theorem Dn.more (h:Dn w p F K st l) (m:Fr F w w') (j:ru w' p F' s') (n:∀ b,F' b->F b∨w.heap.size<=b) (d:s'.n=st.n + 1) {a:bR} (r:Kz w p st.n w' a.cells) (s:aP w' a.A a.r.vs/\(a.r.vs≠[]->∀ x,a.A=some x->K x.block/\¬ F' x.block)):Dn w' p F' K s' (l ++ [a]):=by
 obtain ⟨V,xs,V',u,r2,r3,r4⟩:=r
 obtain ⟨z,q1,A,-⟩:=h.row
 obtain rfl:z=V:=Option.some.inj (q1.symm.trans u)
 obtain rfl:=CV r2 A
 refine ⟨j,by rw [ja,List.length_singleton,h.len,d],⟨V',r3,?_,fun b g=>?_⟩,fun y hy=>?_⟩
 ·rw [d]
  have e:(l ++ [a]).flatMap bR.cells=l.flatMap bR.cells ++ a.cells:=bE
  rw [e]
  exact r4
 ·obtain ⟨cs,B,H,C,D,E⟩:=j.ex
  have e:B=V':=Option.some.inj (((C.bk.cell 0).trans D.c0).symm.trans r3)
  exact E b (e▸g)
 ·rcases List.mem_append.1 hy with hy | hy
  ·obtain ⟨k,i⟩:=h.rep y hy
   refine ⟨k.fr m (fun d x f=>(i (by simpa using d) x f).2),fun d x f=>⟨(i d x f).1,fun G=>?_⟩⟩
   obtain ⟨b,o,e,g,-⟩:=k (by simpa using d)
   rw [e] at f
   injection f with f
   subst f
   rcases n _ G with h5 | h5
   ·exact (i d _ e).2 h5
   ·exact absurd g (by show ¬ b < _;have:w.heap.size<=b:=h5;omega)
  ·rw [List.mem_singleton.1 hy]
   exact s
end
def EE (q:aG):bR:=⟨q.client,q.seq,false,q,om.zero,none,0,0⟩
theorem WQ (p:Nat) (F K:Nat->Prop) (st:PV) (l:List bR) (f:st.n<=50000) (q:aG) (d:st.mV q=0) (w:World) (h:Dn w p F K st l) :
 aS 36 #[av p 0,.agg #[zi q.client,zi q.seq,zi q.kind,zi q.id,zi q.eD,.string q.data]] w fun e w'=>e=.returned (zi 0)/\(∃ F',Dn w' p F' K (st.asked q) (l ++ [EE q])/\∀ b,F' b->F b∨w.heap.size<=b)/\Fr F w w':=by
 unfold PV.mV at d
 have g:q.q.may=true:=by
  by_cases e:q.q.may=true
  ·exact e
  ·rw [if_neg e] at d;exact absurd d aW
 rw [if_pos g] at d
 have i:st.wait q.client=none:=by
  cases e:st.wait q.client with
  | none=>rfl
  | some r=>rw [e] at d;simp at d
 rw [i] at d
 have m:st.last q.client < q.seq:=by
  by_cases e:st.last q.client < q.seq
  ·exact e
  ·rw [if_neg bE,if_neg e] at d;exact absurd d aW
 refine (EC p F st st.n rfl f q g i m w h.at_).mono ?_
 rintro e w' ⟨n,⟨F',s,j⟩,k,-,u⟩
 exact ⟨n,⟨F',h.more k s j rfl (a:=EE q) u ⟨ah.nil _ _,fun x=>absurd rfl x⟩,j⟩,k⟩
theorem WR (p:Nat) (F K:Nat->Prop) (st:PV) (l:List bR) (f:st.n<=50000) (c d at_:Int) (r:om) (A:Option Addr) (s ca:Nat) (u:r.vs.length=s) (H:s<=50000) (q:aG) (i:st.wait c=some q) (g:st.Eg c d at_=0) (w:World) (I:∀ k,w.heap.size<=k->K k) (h:Dn w p F K st l) (hI:aP w A r.vs) :
 aS 76 #[av p 0,zi c,zi d,.agg #[zi r.code,zi r.fQ,.string r.data,.slice A s ca],zi at_] w fun e w'=>e=.returned (zi 0)/\(∃ F' j m,Dn w' p F' K (st.answered c) (l ++ [⟨c,d,true,q,r,j,m,at_⟩])/\∀ b,F' b->F b∨w.heap.size<=b)/\Fr F w w':=by
 subst u
 have P:0<=c/\c < 4:=by
  refine Classical.byContradiction fun e=>?_
  rw [h.at_.wn c e] at i
  cases i
 obtain ⟨c,rfl⟩:∃ n:Nat,c=n:=⟨c.toNat,af⟩
 unfold PV.Eg at g
 have y:¬ (at_ < 0∨1073741824 < at_):=fun e=>by rw [if_pos e] at g;exact absurd g (by decide)
 rw [if_neg y,i] at g
 have J:q.seq=d:=by
  by_cases e:q.seq=d
  ·exact e
  ·simp [e] at g
 refine (ED p F st st.n rfl f c af d at_ (fun e=>y (.inl e)) (fun e=>y (.inr e)) r A r.vs.length ca rfl H q i J w h.at_ hI).mono ?_
 rintro e w' ⟨L,⟨F',M,E,z⟩,G,j,m,-,B,N,C⟩
 refine ⟨L,⟨F',j,m,h.more G M E rfl (a:=⟨c,d,true,q,r,j,m,at_⟩) N ⟨B,fun _ x D=>⟨I _ (C x D).1,fun O=>?_⟩⟩,E⟩,G⟩
 rcases z _ O with h5 | ⟨V',h5,h6⟩
 ·have h7:=(C x D).1
  have h8:=h.at_.lt _ h5
  omega
 ·exact (C x D).2 V' h5 h6
theorem QD {w:World} {g:Nat} {t:TypeId} {M:Array Value} (h:Bk w g t M):∀ (j:Nat) v,M[j]?=some v->w.cell? ⟨g,0 + j,none⟩=some v:=fun j v d=>by rw [mE,h.cell j];exact d
theorem I8:(prog.info? 23).map (·.size)=some 3:=ay
theorem OX:(prog.info? 59).map (·.size)=some 2:=ay
theorem WS (w:World):aS 51 #[] w fun e w'=>e=.returned (av w.heap.size 0)/\w'=w.alloc (.cells sI 167):=by
 go_enter func51,ntmps51
 go_wp2
 go_ret
 exact ⟨rfl,rfl⟩
def Ls (m:Nat):Array Value:=((List.replicate m (0:Int)).map (Value.int .i64)).toArray
def MkI (base m:Nat) (v:Value) (w:World):Prop:=∃ g,v=.slice (some ⟨g,0,none⟩) m m/\base<=g/\Bk w g 3 (Ls m)
instance (base m:Nat):uT Old (MkI base m):=⟨fun _ _ _ ho ⟨g,h1,h2,h3⟩=>⟨g,h1,h2,h3.old ho⟩⟩
def MkB (base:Nat) (v:Value) (w:World):Prop:=∃ g,v=av g 0/\base<=g/\Bk w g 155 #[aQ]
instance (base:Nat):uT Old (MkB base):=⟨fun _ _ _ ho ⟨g,h1,h2,h3⟩=>⟨g,h1,h2,h3.old ho⟩⟩
def MkP (base:Nat) (v:Value) (w:World):Prop:=∃ g,v=av g 0/\base<=g/\Bk w g 167 sI
instance (base:Nat):uT Old (MkP base):=⟨fun _ _ _ ho ⟨g,h1,h2,h3⟩=>⟨g,h1,h2,h3.old ho⟩⟩
theorem F6 {w w':World} {g:Nat} (h:w.heap[g]?=some (.map #[] 0)) (d:Old w w'):w'.heap[g]?=some (.map #[] 0):=(d.block g (Array.getElem?_eq_some_iff.1 h).1).trans h
def MkM (base:Nat) (v:Value) (w:World):Prop:=∃ g,v=.map (some g)/\base<=g/\w.heap[g]?=some (.map #[] 0)
instance (base:Nat):uT Old (MkM base):=⟨fun _ _ _ ho ⟨g,h1,h2,h3⟩=>⟨g,h1,h2,F6 h3 ho⟩⟩
def MkC (base:Nat) (A:Option Addr) (n q:Nat) (v:Value) (w:World):Prop:=∃ g,v=.slice (some ⟨g,0,none⟩) 1 1/\base<=g/\Bk w g 59 #[zi 1,.slice A n q]
instance (base:Nat) (A:Option Addr) (n q:Nat):uT Old (MkC base A n q):=⟨fun _ _ _ ho ⟨g,h1,h2,h3⟩=>⟨g,h1,h2,h3.old ho⟩⟩
def Iq (base m:Nat) (A:Option Addr) (n q g6 g7 g8 g9 g11:Nat) (w:World):Prop:=(base<=g6/\Bk w g6 3 (Ls m))/\(base<=g7/\Bk w g7 155 #[aQ])/\(base<=g8/\Bk w g8 167 sI)/\(base<=g9/\w.heap[g9]?=some (.map #[] 0))/\base<=g11/\Bk w g11 59 #[zi 1,.slice A n q]
theorem Iq.old {base m:Nat} {A:Option Addr} {n q f g i j d:Nat} {w w':World} (h:Iq base m A n q f g i j d w) (e:Old w w'):Iq base m A n q f g i j d w':=by
 obtain ⟨⟨k,l⟩,⟨b1,b2⟩,⟨c1,c2⟩,⟨d1,d2⟩,p,r⟩:=h
 exact ⟨⟨k,l.old e⟩,⟨b1,b2.old e⟩,⟨c1,c2.old e⟩,⟨d1,F6 d2 e⟩,p,r.old e⟩
def MkV (base a b d:Nat) (A:Option Addr) (q:Nat) (v:Value) (w:World):Prop:=∃ g6 g7 g8 g9 g11,v=.agg #[zi (a:Nat),zi (b:Nat),zi (d:Nat),aQ,aQ,.slice (some ⟨g6,0,none⟩) (a + b) (a + b),av g7 0,av g8 0,.map (some g9),.slice (some ⟨g11,0,none⟩) 1 1]/\Iq base (a + b) A a q g6 g7 g8 g9 g11 w
instance (base a b d:Nat) (A:Option Addr) (q:Nat):uT Old (MkV base a b d A q):=⟨fun _ _ _ ho ⟨g6,g7,g8,g9,g11,h1,h2⟩=>⟨g6,g7,g8,g9,g11,h1,h2.old ho⟩⟩
def MkW (base a b d:Nat) (A:Option Addr) (q:Nat) (v:Value) (w:World):Prop:=∃ gW g6 g7 g8 g9 g11,v=av gW 0/\base<=gW/\Bk w gW 82 #[zi (a:Nat),zi (b:Nat),zi (d:Nat),aQ,aQ,.slice (some ⟨g6,0,none⟩) (a + b) (a + b),av g7 0,av g8 0,.map (some g9),.slice (some ⟨g11,0,none⟩) 1 1]/\Iq base (a + b) A a q g6 g7 g8 g9 g11 w
instance (base a b d:Nat) (A:Option Addr) (q:Nat):uT Old (MkW base a b d A q):=⟨fun _ _ _ ho ⟨gW,g6,g7,g8,g9,g11,h1,h2,h3,h4⟩=>⟨gW,g6,g7,g8,g9,g11,h1,h2,h3.old ho,h4.old ho⟩⟩
def EF (a b g6 g7 g8 g9:Nat):bV:=⟨aQ,aQ,some ⟨g6,0,none⟩,a + b,List.replicate (a + b) 0,g7,g8,g9⟩
theorem pY {w:World} {g i:Nat} {t j:TypeId} {cs cs':Array Value} (h:Bk w g t cs) (d:Bk w i j cs') (f:t≠j):g≠i:=fun e=>by
 subst e
 unfold Bk at h d
 rw [h] at d
 injection d with d
 injection d with _ k
 exact f k
theorem xI {w:World} {g d:Nat} {t:TypeId} {cs:Array Value} (h:Bk w g t cs) (f:w.heap[d]?=some (.map #[] 0)):g≠d:=fun e=>by
 subst e
 unfold Bk at h
 rw [h] at f
 cases f
theorem EG {w:World} {g:Nat} {t:TypeId} {cs:Array Value} {n size:Nat} (h:Bk w g t cs) (d:cs.size=n * size) (e:n<=1000):w.ownsRow 0 t size (.slice (some ⟨g,0,none⟩) n n) n cs.toList:=
 ⟨by rw [Array.length_toList,d],.inr ⟨g,n,cs,rfl,Nat.zero_le _,h,dN _,ic e aW,d,by rw [<- d,List.take_of_length_le (by rw [Array.length_toList];exact dN _)]⟩⟩
section
variable {w w':World} {own:Nat->Tag} {c:Nat}
theorem Lt (V:vO w own) (W:Old w w') (a b d:Nat) (A:Option Addr) (M D z B C s u:Nat) (lW:w.heap.size<=D)
 (G:Bk w' D 82 #[zi (a:Nat),zi (b:Nat),zi (d:Nat),aQ,aQ,.slice (some ⟨z,0,none⟩) (a + b) (a + b),av B 0,av C 0,.map (some s),.slice (some ⟨u,0,none⟩) 1 1])
 (N:Iq w.heap.size (a + b) A a M z B C s u w') (O:a<=M) (hI:aP w' A (dO a).nodes) (P:∀ x,A=some x->x.block < w.heap.size/\own x.block=aB) (X:∀ k,own k≠aB->(own k).1≠c + 1) :
 ∃ g,eF w' g (wT c) (jk D ⟨a,b,d⟩ (EF a b z B C s) [] [] [])/\Ext w own g/\∀ k,w.heap.size<=k->g k=aB∨∃ q,g k=wT c q:=by
 obtain ⟨⟨l6,H⟩,⟨l7,I⟩,⟨l8,E⟩,⟨l9,J⟩,Y,i⟩:=N
 have Z:=pY H I aW
 have n68:=pY H E aW
 have n6C:=pY H i aW
 have n6W:=pY H G aW
 have n78:=pY I E aW
 have n7C:=pY I i aW
 have n7W:=pY I G aW
 have n8C:=pY E i aW
 have n8W:=pY E G aW
 have nCW:=pY i G aW
 have n69:=xI H J
 have n79:=xI I J
 have n89:=xI E J
 have nC9:=xI i J
 have nW9:=xI G J
 have R:s < w'.heap.size:=(Array.getElem?_eq_some_iff.1 J).1
 have h0:eF w own (wT c) (fun _=>TY):=⟨fun p=>Lj V (jP c p),V⟩
 obtain ⟨F,y⟩:∃ F:Nat->Nat->Prop,∀ r k,F r k↔(r=0/\(k=D∨k=u)∨r=1/\k=B∨r=2/\k=s∨r=12/\k=z∨r=13/\k=C):=⟨fun r k=>_,fun _ _=>Iff.rfl⟩
 have hF':∀ r,F r=fun k=>(r=0/\(k=D∨k=u)∨r=1/\k=B∨r=2/\k=s∨r=12/\k=z∨r=13/\k=C):=fun r=>funext fun k=>propext (y r k)
 have j:∀ r k,F r k->k < w'.heap.size:=fun r k h=>by
  rcases (y r k).1 h with ⟨-,rfl | rfl⟩ | ⟨-,rfl⟩ | ⟨-,rfl⟩ | ⟨-,rfl⟩ | ⟨-,rfl⟩
  ·exact G.lt
  ·exact i.lt
  ·exact I.lt
  ·exact R
  ·exact H.lt
  ·exact E.lt
 have K:∀ r k,F r k->w.heap.size<=k:=fun r k h=>by
  rcases (y r k).1 h with ⟨-,rfl | rfl⟩ | ⟨-,rfl⟩ | ⟨-,rfl⟩ | ⟨-,rfl⟩ | ⟨-,rfl⟩ <;> assumption
 have hP:∀ q,(q < 3∨12<=q/\q < 16)->(jk D ⟨a,b,d⟩ (EF a b z B C s) [] [] [] q).P w' (F q) (fun k=>own k=aB/\∀ r,(r < 3∨12<=r/\r < 16)->¬ F r k):=by
  intro q S
  have T:∀ x,A=some x->own x.block=aB/\(∀ r,(r < 3∨12<=r/\r < 16)->¬ F r x.block)/\∀ r,¬ F r x.block:=fun x l=>⟨(P x l).2,fun r _ h=>by have:=K r _ h;have:=(P x l).1;omega,fun r h=>by have:=K r _ h;have:=(P x l).1;omega⟩
  rcases (by omega:q=0∨q=1∨q=2∨q=12∨q=13∨q=14∨q=15) with rfl | rfl | rfl | rfl | rfl | rfl | rfl
  ·refine (⟨⟨[(dO a,A,M)],some ⟨u,0,none⟩,1,rfl,?_,?_,fun k f=>?_,fun x l=>?_⟩,(y 0 D).2 (.inl ⟨rfl,.inl rfl⟩),fun k f=>j 0 k f⟩:iB w' (F 0) _ D ⟨a,b,d⟩ (EF a b z B C s) [dO a])
   ·unfold gL EF ptr
    simpa using G
   ·have:=EG (n:=1) (size:=2) i rfl af
    simpa [iU.cells,dO] using this
   ·simp [Value.ownBlock] at f
    exact (y 0 k).2 (.inl ⟨rfl,.inr f.symm⟩)
   ·simp only [Vd] at l
    subst l
    refine ⟨by simp [dO];exact O,hI,fun _ x l=>⟨⟨(T x l).1,(T x l).2.1⟩,(T x l).2.2 0⟩⟩
  ·exact (⟨⟨[],none,0,rfl,I,World.ownsRow_nil _ _ _ _,fun k f=>by simp [Value.ownBlock] at f,fun m hm=>by cases hm⟩,(y 1 B).2 af,fun k f=>j 1 k f⟩:kL w' (F 1) _ B [])
  ·exact (⟨⟨[],⟨⟨#[],0,J,rfl⟩,(fun p hp=>by cases hp),List.nodup_nil⟩,(fun x l=>by cases l),List.nodup_nil,fun _ _ _=>rfl⟩,(y 2 s).2 af,fun k f=>j 2 k f⟩:Ct w' (F 2) s (fun _ _=>[]))
  ·exact ⟨⟨z,rfl,H,(y 12 z).2 af⟩,fun k f=>j 12 k f⟩
  ·refine (⟨(Sb E).mono (fun k (e:k=C)=>by subst e;exact (y 13 k).2 (by omega)) (fun k f=>j 13 k f),rfl,⟨aQ,E.cell 0,World.ownsRow_nil _ _ _ _,fun b hb=>by simp [Value.ownBlock] at hb⟩,fun a L=>by cases L⟩:Dn w' C (F 13) _ PV.new [])
  ·exact ⟨⟨none,0,rfl,ah.nil _ _,fun a L=>by cases L⟩,fun k f=>j 14 k f⟩
  ·exact ⟨⟨none,0,rfl,ah.nil _ _,fun a L=>by cases L⟩,fun k f=>j 15 k f⟩
 obtain ⟨g,h1,h2,U⟩:=h0.turns (A':=jk D ⟨a,b,d⟩ (EF a b z B C s) [] [] []) (w':=w') (jP c) (lT c) (fun q=>q < 3∨12<=q/\q < 16) F (fun q S=>by
  unfold jk
  rw [if_neg af,if_neg af,if_neg af,if_neg af,if_neg af,if_neg af,if_neg af,if_neg bE,if_neg bE,if_neg bE]) hP (fun q S k f=>.inr (K q k f)) (fun q r S hr k f U h4=>by
  have e3:=(y q k).1 U
  have e4:=(y r k).1 h4
  omega) (Fr.aj W)
 exact ⟨g,h1,h2,fun k f=>(U k f).imp id fun ⟨q,_,e⟩=>⟨q,e⟩⟩
end
section
variable {w w':World} {own:Nat->Tag} {c W:Nat} {cf:dZ} {u:bV} {gs mR cs:List Nat}
theorem Ir (h:eF w own (wT c) (jk W cf u gs mR cs)) (Y:mR.length=gs.length) (h5:gs.length < 5) (l s g d:Nat) (hrb:own l=wT c 14∨w.heap.size<=l) (z:Fr (fun k=>k=W∨k=l∨own k=wT c 14) w w')
 (E:∀ O,Bk w W 82 (gL cf u O)->Bk w' W 82 (gL cf { u with nodes:=.slice (some ⟨l,0,none⟩) (gs ++ [g]).length s } O)) (Z:iM w' (some ⟨l,0,none⟩) (gs ++ [g])) (G:l < w'.heap.size)
 (hg:w.heap.size<=g) (hd:w.heap.size<=d) (hgd:g≠d) (hgr:g≠l) (hdr:d≠l) (P:uq w' (fun k=>k=g) W g d gs.length) (R:fA w' (fun k=>k=d) d .new) :
 ∃ f,eF w' f (wT c) (jk W cf { u with nodes:=.slice (some ⟨l,0,none⟩) (gs ++ [g]).length s } (gs ++ [g]) (mR ++ [d]) cs)/\Ext w own f/\∀ k,w.heap.size<=k->f k=aB∨∃ q,f k=wT c q:=by
 have y:own W=wT c 0:=(h.at_ 0:iB w (fun k=>own k=wT c 0) (fun k=>own k=aB) W cf u [dO cf.nodes]).gF
 obtain ⟨i,Vo⟩:∃ x,x=20 * (gs.length + 1) + 3:=⟨_,rfl⟩
 obtain ⟨F,m⟩:∃ F:Nat->Nat->Prop,∀ r k,F r k↔(r=0/\own k=wT c 0∨r=14/\(own k=wT c 14∨k=l)∨r=i/\k=g∨r=i + 1/\k=d):=⟨fun r k=>_,fun _ _=>Iff.rfl⟩
 have ni:∀ k j,w.heap.size<=k->own k≠wT c j:=fun k j hk e=>jP c j (e.symm.trans (h.top k hk))
 have gl:(gs ++ [g])[gs.length]?.getD 0=g:=bE
 have S:(mR ++ [d])[gs.length]?.getD 0=d:=by rw [<- Y];simp
 have H:∀ q,(q=0∨q=14∨q=i∨q=i + 1)->(jk W cf { u with nodes:=.slice (some ⟨l,0,none⟩) (gs ++ [g]).length s } (gs ++ [g]) (mR ++ [d]) cs q).P w' (F q) (fun k=>own k=aB/\∀ r,(r=0∨r=14∨r=i∨r=i + 1)->¬ F r k):=by
  intro q D
  rcases D with rfl | rfl | I | I
  ·obtain ⟨⟨rs,A,qc,b1,b2,b3,b4,T⟩,TV,J⟩:=(h.at_ 0:iB w (fun k=>own k=wT c 0) (fun k=>own k=aB) W cf u [dO cf.nodes])
   refine (⟨⟨rs,A,qc,b1,E _ b2,dh b3 z (fun k hk e=>?_),fun k hk=>(m 0 k).2 (.inl ⟨rfl,b4 k hk⟩),fun x U=>⟨(T x U).1,?_⟩⟩,(m 0 W).2 (.inl ⟨rfl,y⟩),fun k hk=>?_⟩:iB w' (F 0) _ W cf { u with nodes:=.slice (some ⟨l,0,none⟩) (gs ++ [g]).length s } [dO cf.nodes])
   ·exact UL
   ·obtain ⟨k1,k2⟩:=(T x U).2
    have V:∀ hn:x.1.nodes≠[],∀ a,x.2.1=some a->own a.block=aB/\a.block < w.heap.size:=fun hn a e=>U6
    refine ⟨ah.fr k1 z (fun hn a e=>?_),fun hn a e=>?_⟩
    ·obtain ⟨n,L⟩:=V (by simpa using hn) a e
     rintro (e2 | e2 | e2)
     ·exact jP c 0 ((e2▸y).symm.trans n)
     ·rcases hrb with p | p
      ·exact jP c 14 ((e2▸p).symm.trans n)
      ·omega
     ·exact jP c 14 (e2.symm.trans n)
    ·obtain ⟨n,L⟩:=V hn a e
     have B:∀ r,¬ F r a.block:=fun r X=>by
      rcases (m r _).1 X with ⟨-,e2⟩ | ⟨-,e2 | e2⟩ | ⟨-,e2⟩ | ⟨-,e2⟩
      ·exact jP c 0 (e2.symm.trans n)
      ·exact jP c 14 (e2.symm.trans n)
      ·rcases hrb with p | p
       ·exact jP c 14 ((e2▸p).symm.trans n)
       ·omega
      ·omega
      ·omega
     exact ⟨⟨n,fun r _=>B r⟩,B 0⟩
   ·rcases (m 0 k).1 hk with ⟨-,e⟩ | ⟨e,-⟩ | ⟨e,-⟩ | ⟨e,-⟩
    ·exact iD (J k e) z.size
    all_goals omega
  ·refine ⟨⟨some ⟨l,0,none⟩,s,rfl,Z,fun a ha=>by cases ha;exact (m 14 l).2 (by simp)⟩,fun k hk=>?_⟩
   rcases (m 14 k).1 hk with ⟨e,-⟩ | ⟨-,e | e⟩ | ⟨e,-⟩ | ⟨e,-⟩
   ·omega
   ·exact iD (Nat.lt_of_not_le fun h6=>ni k 14 h6 e) z.size
   ·exact e▸G
   all_goals omega
  ·rw [I]
   have e:jk W cf { u with nodes:=.slice (some ⟨l,0,none⟩) (gs ++ [g]).length s } (gs ++ [g]) (mR ++ [d]) cs i=FZ W g d gs.length:=by
    have C:i / 20 - 1=gs.length:=af
    unfold jk
    rw [if_neg af,if_neg af,if_neg af,if_neg af,if_neg af,if_neg af,if_neg af,if_pos (by rw [C];exact ⟨by omega,by omega,by simp⟩),C,gl,S]
   rw [e]
   exact ⟨P.ex,(m i g).2 bE,fun k hk=>by
    rcases (m i k).1 hk with ⟨e,-⟩ | ⟨e,-⟩ | ⟨-,e⟩ | ⟨e,-⟩
    ·omega
    ·omega
    ·exact P.lt k e
    ·omega⟩
  ·rw [I]
   have e:jk W cf { u with nodes:=.slice (some ⟨l,0,none⟩) (gs ++ [g]).length s } (gs ++ [g]) (mR ++ [d]) cs (i + 1)=zo d .new:=by
    have C:(i + 1) / 20 - 1=gs.length:=af
    unfold jk
    rw [if_neg af,if_neg af,if_neg af,if_neg af,if_neg af,if_neg af,if_neg af,if_neg af,if_pos (by rw [C];exact ⟨by omega,by omega,by simp⟩),C,S]
   rw [e]
   refine (zo d .new).mono (K:=fun _=>False) (F:=fun k=>k=d) R (fun k (e:k=d)=>(m (i + 1) k).2 (by simp [e])) (fun k hk=>?_) (fun k _ h=>h.elim)
   rcases (m (i + 1) k).1 hk with ⟨e,-⟩ | ⟨e,-⟩ | ⟨e,-⟩ | ⟨-,e⟩
   ·omega
   ·omega
   ·omega
   ·exact R.lt k e
 have hA:∀ q,¬ (q=0∨q=14∨q=i∨q=i + 1)->jk W cf { u with nodes:=.slice (some ⟨l,0,none⟩) (gs ++ [g]).length s } (gs ++ [g]) (mR ++ [d]) cs q=jk W cf u gs mR cs q:=by
  intro q D
  unfold jk
  rw [if_neg (show ¬ q=0 by omega),if_neg (show ¬ q=0 by omega),if_neg (show ¬ q=14 by omega),if_neg (show ¬ q=14 by omega)]
  by_cases hi:q / 20 - 1 < gs.length
  ·have e1:(gs ++ [g])[q / 20 - 1]?=gs[q / 20 - 1]?:=BG hi
   have e2:(mR ++ [d])[q / 20 - 1]?=mR[q / 20 - 1]?:=BG af
   have p:(q / 20 - 1 < (gs ++ [g]).length)=(q / 20 - 1 < gs.length):=jR
   simp only [e1,e2,p]
  ·by_cases he:q / 20 - 1=gs.length
   ·have M:¬ (q % 20=3/\20<=q/\q / 20 - 1 < (gs ++ [g]).length):=by omega
    have N:¬ (q % 20=4/\20<=q/\q / 20 - 1 < (gs ++ [g]).length):=af
    have e6:¬ (q % 20=3/\20<=q/\q / 20 - 1 < gs.length):=af
    have e7:¬ (q % 20=4/\20<=q/\q / 20 - 1 < gs.length):=af
    rw [if_neg M,if_neg N,if_neg e6,if_neg e7]
   ·have p:(q / 20 - 1 < (gs ++ [g]).length)=(q / 20 - 1 < gs.length):=by simp;omega
    have M:¬ (q % 20=3/\20<=q/\q / 20 - 1 < gs.length):=af
    have N:¬ (q % 20=4/\20<=q/\q / 20 - 1 < gs.length):=af
    simp only [p,if_neg M,if_neg N]
 obtain ⟨f,n,L,h3⟩:=h.turns (w':=w') (jP c) (lT c) (fun q=>q=0∨q=14∨q=i∨q=i + 1) F hA H (fun q D k hk=>by
  rcases (m q k).1 hk with ⟨rfl,e⟩ | ⟨rfl,e | e⟩ | ⟨-,e⟩ | ⟨-,e⟩
  ·exact .inl e
  ·exact .inl e
  ·rw [e];exact hrb
  ·right;omega
  ·right;omega) (fun q r D X k hk e1 e2=>by
  have e1:=(m q k).1 e1
  have e2:=(m r k).1 e2
  have z1:=ni k 0 hk
  have z2:=ni k 14 hk
  simp only [z1,z2,and_false,false_or] at e1 e2
  omega) (z.mono fun k hk e=>by
  rcases e with rfl | rfl | e
  ·exact ⟨0,.inl rfl,y⟩
  ·rcases hrb with e | e
   ·exact ⟨14,.inr (.inl rfl),e⟩
   ·omega
  ·exact ⟨14,.inr (.inl rfl),e⟩)
 exact ⟨f,n,L,fun k hk=>(h3 k hk).imp id fun ⟨q,_,e⟩=>⟨q,e⟩⟩
end
end Go.Proofs.YthihpfpbiajddaaGreat
