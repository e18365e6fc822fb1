/- Parts of the proof. -/
import Derived.Test.YthihpfpbiajddaaGreatHQWorldNobody36
set_option maxRecDepth 100000
set_option maxHeartbeats 8000000
open Go.Proofs.Tryz
namespace Go.Proofs.YthihpfpbiajddaaGreat
open Go.RowKit
section
variable {w:World} {own:Nat->Tag} {c i W g k:Nat} {u:bV} {s:NS}
theorem abe (N:aN w own c i W g u s) (ok:aF s i k) (m:aO) (M:Array Value) (Y:fe w own m M) (h9:m.kind=9) (A:Int) (Z:(s.conf.nodes:Int)<=A) (s':NS) (h:∀ W' d,aN W' d c i W g u s->fe W' d m M->aS 130 #[g,.agg M] W' (fO W' d c i W g u s')) :
 aS 73 #[g,zi A,.agg M] w (fO w own c i W g u s'):=by
 obtain ⟨n,hn⟩:=aR (s.conf.nodes)
 obtain ⟨me,J⟩:=aR (m.known.az)
 obtain ⟨I,B,C⟩:∃ ke kn,s.known=⟨ke,kn⟩:=⟨_,_,rfl⟩
 obtain ⟨D,F⟩:=aR (B.length)
 have y:D<=5:=by have:=ok.acc.len;rw [show s.n.kept.acc.known=⟨I,B⟩ from C] at this;exact F▸this
 obtain ⟨f,K,dB,hbt⟩:=N.box (.cells M 110)
 have G:=Y.did dB
 have H:=Bk.new w 110 M
 obtain ⟨wc,r⟩:∃ w1,w1=w.alloc (.cells M 110):=⟨_,rfl⟩
 rw [<- r] at K dB G H
 obtain ⟨p,hp⟩:=K.ex
 have h3:aV wc (fun k=>f k=bM c i 3) (fun k=>f k=aB) W g p s.n:=aV.ub (hp.at_ 3)
 have h0:iB wc (fun k=>f k=bM c i 0) (fun k=>f k=aB) W s.conf u s.aA:=hp.at_ 0
 obtain ⟨v0,-,-,-,vl⟩:=h0.cells
 rw [hn] at v0 Z
 obtain ⟨u0,u1,u2,u3,u4,u5,u6,u8,u9,dF,dD,dK,eu,aX,ug⟩:=h3.c N.self
 have L:=aa K
 have O:=aa dB
 have z:=aa G
 have XB:=aa H
 have HMs:=aa Y.size
 have Wq:=aa (show M[1]?=some (zi me) by rw [<- J];exact Y.at_.2.1)
 have HH:=aa h
 obtain ⟨cu,P⟩:∃ b,decide (me=I)=b:=⟨_,rfl⟩
 have aaC:(me == I)=cu:=by rw [<- P];rfl
 have cK:=aa (fun W' (hW:Old wc W')=>zu (K.old hW) (base:=wc.heap.size) hW.size C F y)
 have hf':¬ A < (n:Int):=af
 have R:=h9
 rw [r] at u0 ug v0 vl
 clear u1 u2 u3 u4 u5 u6 u8 u9 dF dD dK eu aX h3 h0 hp N ok Y K dB G H hbt hn J C F y h P Z h9
 have HKD:=aa R
 clear R
 go_enter func73,ntmps73
 go_wp2_with fail
 rw [<- r]
 clear r u0 ug v0 vl hf'
 refine bG Old wc [.val (av w.heap.size 1),.val (av w.heap.size 1),.val (zi me),.val g,.rel (rq wc.heap.size I D (B.map (Value.int .i64))),.val (zi I),.val (.bool cu),.val (.bool cu)] ((Old.refl' _).drew') ?st ?en
 case st=>
  refine .cons (sp [] [(5,w.heap.size)] ?_)<|.cons (sp [(0,38)] [] ?_)<|.cons (sp [(1,39)] [] ?_)<|.cons (sp [] [(0,g)] ?_)<|.cons (sc 56 func56 [(3,41)] [] _ ?c4)<|.cons (sp [(4,42)] [] ?c5)<|.cons (sp [(2,40),(5,43)] [] ?_)<|.cons (sp [(6,44)] [] ?_)<|.nil
  case c4=>
   intro E w' S hc
   rintro e41
   exact ⟨_,jQ,cK.o w' S⟩
  case c5=>
   intro E w' S hc Z
   rintro _ ⟨A1,q1,rfl,T⟩ e42
   have f1:=qR (zi I) (.slice A1 D q1)
   exact ⟨_,dP,rfl⟩
  all_goals
   intro E w' S hc Z
   have x1:=(XB.o.old S).cell 1
   rw [Wq.o] at x1
   have xl:=(XB.o.old S).lt
   repeat intro _
   exact ⟨_,dP,rfl⟩
 case en=>
  intro jA w9 j
  iterate 4 refine Ends.eqv _ _ rfl (fun _ h=>h) ?_
  refine Ends.ex _ rfl ?_
  rintro _ _ ⟨A1,q1,rfl,T⟩
  iterate 3 refine Ends.eqv _ _ rfl (fun _ h=>h) ?_
  refine Ends.nil ?_
  simp only [aC,ax,fM,fJ]
  clear T cK
  have N5:=aa (L.o.old j)
  have D5:=aa (O.o.old j)
  have l:=aa (z.o.old j)
  have x:=aa (XB.o.old j)
  clear L O z XB j
  obtain ⟨w5,U⟩:∃ w5,w5=w9:=⟨_,rfl⟩
  rw [<- U] at N5 D5 l x ⊢
  clear U
  have x0:=x.o.cell 0
  rw [l.o.at_.1,HKD.o] at x0
  have xl:=x.o.lt
  have cA:=aa (HH.o w5 f N5.o l.o)
  have V:=xy x.o
  go_wp2_with ((with_reducible refine bZ 110 (.tmp 5) w.heap.size 0 M _ ?_ V underlying110 rfl ?_ ?_);(· rfl);(· rw [HMs.o];exact xx))
  refine cA.o.mono ?_
  rintro e w6 ⟨rfl,X,n6,d6⟩
  have HZ:=aa (⟨X,n6,D5.o.trans d6⟩:∃ d,aN w6 d c i W g u s'/\fT w own c i w6 d)
  clear n6 d6 V x0 xl
  go_wp2_with fail
  go_end0
  exact ⟨rfl,HZ.o⟩
end
def LQ (c i:Nat) (own:Nat->Tag) (g:Nat) (l:dW) (x y:World):Prop:=(∃ F',eZ y g F' l/\∀ b,F' b->own b=bM c i 6∨x.heap.size<=b)/\Fr (fun k=>own k=bM c i 6) x y
theorem abf {w:World} {g:Nat} {t:TypeId} {M:Array Value} (h:Bk w g t M):∀ (j:Nat) v,M[j]?=some v->w.cell? ⟨g,0 + j,none⟩=some v:=fun j v d=>by rw [mE,h.cell j];exact d
theorem Bu:(prog.info? 36).map (·.size)=some 6:=ay
section
variable {w:World} {own:Nat->Tag} {c i W g k:Nat} {u:bV} {s:NS}
end
theorem zqM {w:World} {g:Nat} {M:Array Value} {cs:Array Value} (h:Bk w g 110 M) (hq:∀ (j:Nat) v,cs[j]?=some v->M[19 + j]?=some v):∀ (j:Nat) v,cs[j]?=some v->w.cell? ⟨g,19 + j,none⟩=some v:=fun j v hv=>(h.cell (19 + j)).trans (hq j v hv)
theorem fe.qt {w:World} {own:Nat->Tag} {m:aO} {M:Array Value} (h:fe w own m M):∀ (j:Nat) v,(#[zi m.q.client,zi m.q.seq,zi m.q.kind,zi m.q.id,zi m.q.eD,.string m.q.data]:Array Value)[j]?=some v->M[19 + j]?=some v:=by
 obtain ⟨K,V,C,R,L,rfl,-⟩:=h.ex
 intro j v d
 match j with
 | 0 | 1 | 2 | 3 | 4 | 5=>exact d
 | j + 6=>simp at d
section
variable {w:World} {own:Nat->Tag} {c i W g k:Nat} {u:bV} {s:NS}
end
section
variable {w:World} {own:Nat->Tag} {c i W g k:Nat} {u:bV} {s:NS}
theorem YG (N:aN w own c i W g u s) (ok:aF s i k) (m:aO) (M:Array Value) (hM:fe w own m M) (f:m.q.q.may=true) (l:dU m.q.kind=true) (C:s.known.nodes.head?.getD (-1)=(i:Int)) (s':NS)
 (x:∀ W' d,aN W' d c i W g u s->aS 196 #[g,.agg #[zi m.q.client,zi m.q.seq,zi m.q.kind,zi m.q.id,zi m.q.eD,.string m.q.data]] W' (fO W' d c i W g u s')) :
 aS 130 #[g,.agg M] w (fO w own c i W g u s'):=by
 obtain ⟨L,nB,dB,O⟩:=N.box (.cells M 110)
 have D:=Bk.new w 110 M
 have E:=hM.did dB
 obtain ⟨w1,F⟩:∃ w1,w1=w.alloc (.cells M 110):=⟨_,rfl⟩
 rw [<- F] at nB dB D E
 have N1:=aa nB
 have D1:=aa dB
 have h:=aa D
 have n:=aa O
 have P:=aa E
 clear nB dB D O E
 obtain ⟨⟨R,S,T,U,V,X⟩,hq⟩:∃ q,m.q=q:=⟨_,rfl⟩
 obtain ⟨hp,hhp⟩:=aR (m.hop)
 have G:=P.o.qt
 rw [hq] at G
 simp only at G
 have H:=aa G
 have Y:=aa (show M[25]?=some (.bool hp) by rw [<- hhp];exact P.o.at_.2.2.2.2.2.2.2.2.2.1)
 rw [hq] at f l x
 simp only at l x
 obtain ⟨ke,kn,hk⟩:∃ ke kn,(s).known=⟨ke,kn⟩:=⟨_,_,rfl⟩
 obtain ⟨mk,hm⟩:=aR (kn.length)
 have y:mk<=5:=Di
 obtain ⟨tl,htl⟩:=aR (kn.getLast?.getD (-1))
 have Z:kn.head?.getD (-1)=(i:Int):=by rw [hk] at C;exact C
 have HHX:=aa Z
 have HW:=aa x
 have I:=aa (And.intro hk (And.intro hm y))
 have cM:=aa (lG R S T U V X true f)
 have cWr:=aa (kr R S T U V X true l)
 have z:=zqM h.o H.o
 clear N ok hM hk hm y C Z x f l
 go_enter func130,ntmps130
 go_upto_region 1 with fail
 rw [<- F]
 clear F
 go_wp2_with
  (first
   | ((with_reducible refine bZ 36 (.tmp 9) w.heap.size 19 #[.int .i64 R,.int .i64 S,.int .i64 T,.int .i64 U,.int .i64 V,.string X] _ ?_ z Tryz.underlying36 rfl ?_ ?_);(· rfl);(· exact Bu)))
 refine (cM.o _).mono ?_
 rintro e w2 ⟨rfl,o2⟩
 have N2:=aa (N1.o.old o2)
 have D2:=aa (D1.o.old o2)
 have E2:=aa (N1.o.qQ o2)
 have c1:=zu N2.o (base:=w2.heap.size) af I.o.1 I.o.2.1 I.o.2.2
 go_wp2_with fail
 refine c1.mono ?_
 rintro e w3 ⟨_,rfl,⟨A,q,rfl,B⟩,o3⟩
 obtain ⟨w4,p⟩:∃ w4,w4=w3.alloc (.cells #[zi ke,.slice A mk q] 59):=⟨_,rfl⟩
 have o4:Old w3 w4:=p▸(Old.refl' w3).ag _
 have X0:=aa (show Bk w4 w3.heap.size 59 #[zi ke,.slice A mk q] from p▸Bk.new w3 59 _)
 have r:=o3.trans' o4
 have N4:=aa (N2.o.old r)
 have D4:=aa (D2.o.old r)
 have E4:=aa (E2.o.trans (N2.o.qQ r))
 have HO:=aa (bF B o4)
 clear B o3 o4 r c1 z
 go_wp2_with fail
 rw [<- p]
 clear p
 obtain ⟨x0,x1,x2,x3,x4⟩:=bk2 X0.o
 go_wp2_with fail
 refine (yL ke A mk q kn tl I.o.2.1.symm (by have:=I.o.2.2;omega) htl w4 (ah.bA HO.o)).mono ?_
 rintro e w5 ⟨rfl,J⟩
 have hCH:=aa (show ∀ W',Old w5 W'->aS 195 #[.agg #[zi ke,.slice A mk q]] W' (fun e w'=>e=.returned (zi i)/\Old W' w') from fun W' x=>J7 ke A mk q kn (i:Int) I.o.2.1.symm (by have:=I.o.2.2;omega) HHX.o W' (ah.bA (bF HO.o (J.trans' x))))
 have X5:=aa (X0.o.old J)
 have N5:=aa (N4.o.old J)
 have D5:=aa (D4.o.old J)
 have E5:=aa (E4.o.trans (N4.o.qQ J))
 clear x0 x1 x2 x3 x4 X0 J
 have z:=zqM (E5.o.keep h.o (.inr n.o)) H.o
 go_wp2_with
  (first
   | ((with_reducible refine bZ 36 (.tmp 17) w.heap.size 19 #[.int .i64 R,.int .i64 S,.int .i64 T,.int .i64 U,.int .i64 V,.string X] _ ?_ z Tryz.underlying36 rfl ?_ ?_);(· rfl);(· exact Bu)))
 refine (cWr.o _).mono ?_
 rintro e w6 ⟨rfl,K⟩
 have N6:=aa (N5.o.old K)
 have D6:=aa (D5.o.old K)
 have E6:=aa (E5.o.trans (N5.o.qQ K))
 have X6:=aa (X5.o.old K)
 have HCH:=aa (fun W' (x:Old w6 W')=>hCH.o W' (K.trans' x))
 clear K hCH z X5 N5 D5 E5 cM N2 D2 E2 N4 D4 E4 HO
 obtain ⟨x0,x1,x2,x3,x4⟩:=bk2 X6.o
 go_wp2_with fail
 refine (HCH.o w6 (Old.refl' w6)).mono ?_
 rintro e w7 ⟨rfl,o7⟩
 have N7:=aa (N6.o.old o7)
 have D7:=aa (D6.o.old o7)
 have E7:=aa (E6.o.trans (N6.o.qQ o7))
 have z:=zqM (E7.o.keep h.o (.inr n.o)) H.o
 have cW:=aa (HW.o w7 L N7.o)
 clear x0 x1 x2 x3 x4 X6 o7 HCH
 go_wp2_with
  (first
   | ((with_reducible refine bZ 36 (.tmp 23) w.heap.size 19 #[.int .i64 R,.int .i64 S,.int .i64 T,.int .i64 U,.int .i64 V,.string X] _ ?_ z Tryz.underlying36 rfl ?_ ?_);(· rfl);(· exact Bu)))
 refine cW.o.mono ?_
 rintro e w8 ⟨rfl,j,n8,d8⟩
 have N8:=aa n8
 have D8:=aa (D7.o.trans d8)
 have E8:=aa (E7.o.trans d8)
 clear z cW n8 d8 N7 D7 E7 N6 D6 E6
 obtain ⟨pp,OV⟩:=(N8.o).ex
 have hh:=(aV.ub (OV.at_ 3):aV w8 (fun k=>j k=bM c i 3) (fun k=>j k=aB) W g pp s'.n)
 have u1:=(hh.c (N8.o).self).2.1
 have ug:=hh.Oi
 have x25:=rG (E8.o.keep h.o (.inr n.o)) 25 Y.o
 have xl:=(E8.o.keep h.o (.inr n.o)).lt
 clear OV hh
 have hb:((i:Int) == (i:Int))=true:=bE
 have HZ:=aa (⟨j,N8.o,D8.o⟩:∃ d,aN w8 d c i W g u s'/\fT w own c i w8 d)
 go_wp2_with fail
 go_end0
 exact ⟨rfl,HZ.o⟩
end
theorem TL (A:Option Addr) (n G:Nat) (m:List iF) (hn:n<=100000) (V:n=m.length) (h0:n=0) (c s i f:Int) (d:ByteArray) (w:World) (hV:lu w A m) (hq:¬ f<=(n:Int)) :
 aS 263 #[.slice A n G,.agg #[zi c,zi s,zi 1,zi i,zi 0,.string d],zi f] w fun e w'=>
  ∃ v u,e=.returned (.tuple #[v,u])/\RH w w' v (DI m 1 0 f d).1/\Fu w w' u ⟨(DI m 1 0 f d).2.1,(DI m 1 0 f d).2.2,ByteArray.empty,[]⟩/\Old w w':=by
 obtain ⟨i0,J,K,L,M⟩:=info_parts Cc
 have hC:=aa (fun (W:World) (h:lu W A m)=>GL A n G m hn V W h)
 have hL:=aa (fun (W:World) (h:lu W A m)=>Jj A n G m hn V W h)
 have HL:=aa V
 clear V
 have N:=aa ((hV.alloc (.cells #[zi c,zi s,zi 1,zi i,zi 0,.string d] 36)).alloc (.cells #[zi 0,zi 0,.string ByteArray.empty,aQ] 49))
 obtain ⟨x,hx⟩:∃ x,x=qI m:=⟨_,rfl⟩
 obtain ⟨g,d1⟩:=x
 rw [<- hx] at hL
 have HX:=aa hx
 clear hx
 have hvs:m=[]:=List.eq_nil_of_length_eq_zero I4
 have h0l:n<=0:=af
 clear h0
 have e:DI m 1 0 f d=(m ++ [(false,d)],1,(n:Int) + 1):=by (have hn0:n=0:=by omega);subst hn0;simp [DI,hvs,hq] <;> omega
 go_enter func263,ntmps263
 go_wp2_with (first | (go_at_call 270;refine (hL.o _ N.o).mono ?_;rintro e w1 ⟨rfl,z⟩;obtain ⟨X,Y⟩:=Fa z;have E:w.heap.size + 1 < w1.heap.size:=(by have:=z.size;simp at this;omega);have F:w.heap.size < w1.heap.size:=af))
 generalize y:World.alloc (World.alloc w1 _) _=W0
 have f0:W0.cell? ⟨w1.heap.size + 1,0,none⟩=some (.bool false):=by rw [<- y];simp [go_sem]
 have f1:W0.cell? ⟨w1.heap.size + 1,1,none⟩=some (.string d):=by rw [<- y];simp [go_sem]
 have r0:W0.cell? ⟨w.heap.size + 1,0,none⟩=some (zi 0):=by rw [<- y];simp [go_sem,X,E,F]
 have r1:W0.cell? ⟨w.heap.size + 1,1,none⟩=some (zi 0):=by rw [<- y];simp [go_sem,X,E,F]
 have r2:W0.cell? ⟨w.heap.size + 1,2,none⟩=some (.string ByteArray.empty):=by rw [<- y];simp [go_sem,X,E,F,qT]
 have r3:W0.cell? ⟨w.heap.size + 1,3,none⟩=some aQ:=by rw [<- y];simp [go_sem,X,E,F]
 have g0:W0.frozen? ⟨w.heap.size + 1,0,none⟩=false:=by rw [<- y];simp [go_sem,Y,E,F]
 have g1:W0.frozen? ⟨w.heap.size + 1,1,none⟩=false:=by rw [<- y];simp [go_sem,Y,E,F]
 have g2:W0.frozen? ⟨w.heap.size + 1,2,none⟩=false:=by rw [<- y];simp [go_sem,Y,E,F]
 have g3:W0.frozen? ⟨w.heap.size + 1,3,none⟩=false:=by rw [<- y];simp [go_sem,Y,E,F]
 have O:Old w1 W0:=by rw [<- y];repeat (first | with_reducible refine Old.drew' ?_ | with_reducible refine Old.aJ ?_ bE _ | with_reducible refine Old.ag ?_ _ | with_reducible exact Old.refl' _)
 have P:W0.heap.size=w1.heap.size + 2:=by rw [<- y];simp
 have Z:w.heap.size + 1 < W0.heap.size:=af
 have zy:w1.heap.size + 1 < W0.heap.size:=af
 have hv0:=aa (ah.old (ah.old N.o z) O)
 have HS:=aa P
 clear y P
 go_region_held3 (fun w'=>w'.cell? ⟨w1.heap.size + 1,0,none⟩=some (.bool false)/\w'.cell? ⟨w1.heap.size + 1,1,none⟩=some (.string d))
  (first | go_keep | exact ⟨(wC af).trans ((H _ _ zy).trans f0),(wC af).trans ((H _ _ zy).trans f1)⟩)
  (first
   | (go_at_call 269;refine (hC.o _ (ah.old hv0.o (by first | exact (Old.refl' W0).drew' | exact ((Old.refl' W0).ag _).drew'))).mono ?_;rintro e R ⟨A2,c2,rfl,j,B⟩;have r:Old W0 R:=(by first | exact Old.trans' ((Old.refl' W0).drew') B | exact Old.trans' (((Old.refl' W0).ag _).drew') B);obtain ⟨p1,p2⟩:=Fa r)
   | (refine step_append_lies _ iW (.tmp 93) (.tmp 95) 279 iW _ 281 i0 _ 2 24 Tryz.underlying279 J K L M rfl af (.slice A2 n c2) n (dm m) iW (j.alloc _) ⟨R.heap.size,0,none⟩ 1 1 [.bool false,.string d] iW iW (World.news_of_block (cs:=#[.bool false,.string d]) (t:=281) (fr:=(0,0)) (heap_alloc_new R _)) tC af qy af (by have:=r.size;simp;omega) (R.heap.size + 1) bE ?_;intro gg cc w3 k l S T;have C:=yY (r.ag _) l (j.alloc _) bE;obtain ⟨H,j2⟩:=Fa C)
   | (refine step_append_lies _ iW (.tmp 93) (.tmp 95) 279 iW _ 281 i0 _ 2 24 Tryz.underlying279 J K L M rfl af (.slice A2 n c2) n (dm m) iW j ⟨W0.heap.size,0,none⟩ 1 1 [.bool false,.string d] iW iW (World.news_of_block (cs:=#[.bool false,.string d]) (t:=281) (fr:=(0,0)) (Bk.old (Bk.drew (Bk.new W0 _ _)) B)) tC af qy af B.size (R.heap.size) bE ?_;intro gg cc w3 k l S T;have C:=yY r l j bE;obtain ⟨H,j2⟩:=Fa C))
 all_goals
  go_wp2
  have t0:=(H _ 0 Z).trans r0
  have t1:=(H _ 1 Z).trans r1
  have t2:=(H _ 2 Z).trans r2
  have t3:=(H _ 3 Z).trans r3
  have hgg:=Ns k _ rfl
  simp at hgg
  have hwr:IntKind.i64.wrap ((n:Int) + 1)=(n:Int) + 1:=kP _ af
  have D:∀ a,some (⟨gg,0,none⟩:Addr)=some a->a.block≠w.heap.size + 1:=fun a I=>by injection I with I;subst I;simp;omega
  refine bodyPost_ret (v:=.tuple #[.slice (some ⟨gg,0,none⟩) (n + 1) cc,.agg #[zi 1,zi ((n:Int) + 1),.string ByteArray.empty,aQ]]) ?_ rfl ⟨_,_,rfl,?_,?_,?_⟩
  ·simp [results,results263,go_sem,t0,t1,t2,t3,qT,hwr]
  ·rw [e]
   refine ⟨some ⟨gg,0,none⟩,cc,by simp [HL.o],?_,fun a I=>by injection I with I;subst I;simp;omega,by have:=Nu k;simp [<- HL.o];omega⟩
   have U:=ah.bA k
   rw [show dm m ++ [Value.bool false,.string d]=dm (m ++ [(false,d)]) from by simp [uR,dm,qT]] at U
   exact (((U.bH (p:=⟨w.heap.size + 1,0,none⟩) D _).bH (p:=⟨w.heap.size + 1,1,none⟩) D _).bH (p:=⟨w.heap.size + 1,2,none⟩) D _).bH (p:=⟨w.heap.size + 1,3,none⟩) D _
  ·rw [e];exact Fu.nil _ _ _ _ _
  ·repeat (first | with_reducible refine Old.drew' ?_ | with_reducible refine Old.aJ ?_ bE _ | with_reducible refine Old.ag ?_ _ | with_reducible refine Old.trans' ?_ C | with_reducible refine Old.trans' ?_ O | with_reducible refine Old.trans' ?_ z | with_reducible exact Old.refl' _)
theorem GY.new {q:Q} {f:Int} (l:q.kind=1) (p:q.eD=0) (C:1<=f):GY [] q f:=fun A n j w h r=>by
 obtain ⟨c,s,k,i,m,d⟩:=q
 simp only at l p
 subst l p
 refine (TL A n j [] (by rw [h];decide) h h c s i f d w r (by rw [h];show ¬ f<=0;omega)).mono ?_
 rintro e w' ⟨v,u,rfl,⟨x,c1,rfl,y,g,z⟩,⟨A2,c2,rfl,D,_⟩,B⟩
 exact ⟨x,c1,A2,c2,by simp [Am,iT],⟨y,g,z⟩,B⟩
theorem wE.new {q:Q} {d:Int} (f:(q.may && dU q.kind)=true) (i:q.kind=1) (j:q.eD=0) (k:1<=d) (h4:0 < q.seq):wE (fG.new d) q:=fun g F w h=>by
 have hy:(fG.new d).may q=true:=by unfold fG.may;rw [f];simp [fG.new,jZ.zero,h4]
 refine (GZ g F _ q f (by simpa [fG.new,jZ.zero] using h4) (by show 0<=50000;omega) (GY.new i j k) w h).mono ?_
 unfold fG.rep fG.err fG.put
 rw [hy,f,if_pos rfl,if_pos rfl,if_pos rfl,if_pos (by simpa [fG.new,jZ.zero] using h4)]
 exact fun e w' h=>h
section
variable {w:World} {own:Nat->Tag} {c i W g k:Nat} {u:bV} {s:NS}
theorem PO (N:aN w own c i W g u s) (ok:aF s i (k + 4)) (q:aG) (h0:s.known.nodes.head?.getD (-1)=(i:Int)) (O:kY s.n.kept.log.qs q.client q.seq=0) (he:s.n.kept.log.err q=0) (T8:iL (s.n.kept.log.put q)) :
 aS 196 #[g,.agg #[zi q.client,zi q.seq,zi q.kind,zi q.id,zi q.eD,.string q.data]] w (fO w own c i W g u (s.write q)):=by
 obtain ⟨d,f,l,m,p,r⟩:=q
 simp only at O ⊢
 obtain ⟨B,nB,dB,hbt⟩:=N.box (.cells #[zi d,zi f,zi l,zi m,zi p,.string r] 36)
 have V:=Bk.new w 36 #[zi d,zi f,zi l,zi m,zi p,.string r]
 obtain ⟨w1,X⟩:∃ w1,w1=w.alloc (.cells #[zi d,zi f,zi l,zi m,zi p,.string r] 36):=⟨_,rfl⟩
 rw [<- X] at nB dB V
 have N1:=aa nB
 have D1:=aa dB
 have HX1:=aa V
 have MC:=aa hbt
 obtain ⟨s',Y⟩:=aR (s.write ⟨d,f,l,m,p,r⟩)
 rw [Y]
 obtain ⟨ke,kn,hk⟩:∃ ke kn,(s).known=⟨ke,kn⟩:=⟨_,_,rfl⟩
 obtain ⟨mk,hm⟩:=aR (kn.length)
 have P:mk<=5:=Di
 obtain ⟨hx,H⟩:=aR (kn.head?.getD (-1))
 obtain ⟨D,I⟩:=aR (kY s.n.kept.log.qs d f)
 have HE:=aa (show s'=if hx≠(i:Int) then s else if 0 < D then (if D<=s.n.kept.log.k then s.pU ⟨d,f,l,m,p,r⟩ D else s) else if s.n.kept.log.err ⟨d,f,l,m,p,r⟩=0 then ((s.aZ fun n=>{ n with kept:={ n.kept with log:=s.n.kept.log.put ⟨d,f,l,m,p,r⟩ } }).entry ⟨d,f,l,m,p,r⟩).advance else s by
  rw [<- Y]
  unfold NS.write
  rw [hk,N.self]
  simp only [bC.head,H,I])
 have Z:hx=(i:Int):=by rw [hk] at h0;exact H.symm.trans h0
 have hf0:¬ 0 < D:=by rw [<- I,O];exact Nat.lt_irrefl 0
 have abg:=aa he
 have HLP:=aa T8
 clear T8
 clear h0 O he
 have J:=aa ok
 have cK:=aa (fun W' (R:Old w1 W')=>zu (N1.o.old R) (base:=w1.heap.size) R.size hk hm P)
 have cHd:=aa (fun W' A q (h:aP W' A kn)=>J7 ke A mk q kn hx hm.symm af H W' h)
 obtain ⟨p1,hp1⟩:=N1.o.ex
 have UA:=aa (aV.ub (hp1.at_ 3):aV w1 (fun k=>B k=bM c i 3) (fun k=>B k=aB) W g p1 (s).n)
 have UB:=aa N1.o.self
 have HP1:=aa hp1
 clear hp1
 have HFA:=aa I
 have V7:=aa ok.log.few
 clear nB dB V hbt N ok Y hk hm P H I
 go_enter func196,ntmps196
 go_wp2_with fail
 rw [<- X]
 clear X
 have HE1:=aa (show s'=if 0 < D then (if D<=s.n.kept.log.k then s.pU ⟨d,f,l,m,p,r⟩ D else s) else if s.n.kept.log.err ⟨d,f,l,m,p,r⟩=0 then ((s.aZ fun n=>{ n with kept:={ n.kept with log:=s.n.kept.log.put ⟨d,f,l,m,p,r⟩ } }).entry ⟨d,f,l,m,p,r⟩).advance else s by
  rw [HE.o,if_neg (fun h=>h Z)])
 have hb:(hx == (i:Int))=true:=by simpa using Z
 clear HE
 refine bG Old w1 [.val g,.rel (rq w1.heap.size ke mk (kn.map (Value.int .i64))),.val (zi hx),.val g,.val g,.val (av g 1),.val (zi i),.val (.bool false)] ((Old.refl' _).drew') ?st ?en
 case st=>
  refine .cons (sp [] [(0,g)] ?_)<|.cons (sc 56 func56 [(0,8)] [] _ ?c1)<|.cons (sc 195 func195 [(1,9)] [] _ ?c2)<|.cons (sp [] [(0,g)] ?_)<|.cons (sp [(3,11)] [] ?_)<|.cons (sp [(4,12)] [] ?_)<|.cons (sp [(5,13)] [] ?_)<|.cons (sp [(2,10),(6,14)] [] ?_)<|.nil
  case c1=>
   intro E w' j S
   rintro e8
   exact ⟨_,jQ,cK.o w' j⟩
  case c2=>
   intro E w' j S
   rintro _ ⟨A1,q1,rfl,ho1⟩ e9
   exact ⟨_,jQ,.of (cHd.o w' A1 q1 (ah.bA ho1)) fun e K h=>⟨_,h.1,rfl,h.2⟩⟩
  all_goals
   intro E w' j S O
   obtain ⟨u0,u1,u2,u3,u4,u5,u6,u8,u9,dF,dD,dK,eu,aX,ug⟩:=(UA.o.old j).c UB.o
   clear u0 u2 u3 u4 u5 u6 u8 u9 dF dD dK eu aX
   repeat intro _
   exact ⟨_,dP,rfl⟩
 case en=>
  intro jA w9 z
  iterate 1 refine Ends.eqv _ _ rfl (fun _ h=>h) ?_
  refine Ends.ex _ rfl ?_
  rintro _ _ ⟨A1,q1,rfl,ho1⟩
  iterate 6 refine Ends.eqv _ _ rfl (fun _ h=>h) ?_
  refine Ends.nil ?_
  simp only [aC,ax,fM,fJ]
  obtain ⟨K,rfl⟩:∃ K,K=w9:=⟨_,rfl⟩
  have N2:=aa (N1.o.old z)
  have D2:=aa (D1.o.old z)
  have E2:=aa (N1.o.qQ z)
  have L:=aa (HX1.o.old z)
  obtain ⟨p2,hp2⟩:=N2.o.ex
  have H32:=aa (aV.ub (hp2.at_ 3):aV K (fun k=>B k=bM c i 3) (fun k=>B k=aB) W g p2 (s).n)
  have HS2:=aa N2.o.self
  have Sl:=aa hp2
  clear hp2
  have cF:=aa (fun W' (R:Old K W')=>(show aS 241 #[p2.lg,zi d,zi f] W' (fun e w'=>e=.returned (.tuple #[zi (D:Nat),.bool (decide (D≠0))])/\Old W' w') by
   have h:=Ob p2.lg _ s.n.kept.log s.n.kept.log.qs.length d f rfl (by have:=V7.o;omega) W' ((Sl.o.old R).at_ 6)
   rw [HFA.o] at h
   exact h))
  clear ho1 cK cHd z Z hb
  go_wp2_with fail
  have cF:=aa (fun W' (R:Old K W')=>(show aS 241 #[p2.lg,zi d,zi f] W' (fun e w'=>e=.returned (.tuple #[zi (D:Nat),.bool false])/\Old W' w') by
   have h:=cF.o W' R
   rw [show decide (D≠0)=false from by simp;omega] at h
   exact h))
  refine bG Old K [.val g,.val g,.val (av g 4),.val (av g 5),.val p2.lg,.val w.heap.size,.val (zi d),.val (av w.heap.size 1),.val (zi f),.val (.tuple #[zi (D:Nat),.bool false]),.val (.tuple #[zi (D:Nat),.bool false]),.val (zi (D:Nat)),.val (.bool false),.val (zi (D:Nat)),.val (.bool false)] ((Old.refl' _).drew') ?st ?en
  case st=>
   refine .cons (sp [] [(0,g)] ?_)<|.cons (sp [(0,17)] [] ?_)<|.cons (sp [(1,18)] [] ?_)<|.cons (sp [(2,19)] [] ?_)<|.cons (sp [(3,20)] [] ?_)<|.cons (sp [] [(3,w.heap.size)] ?_)<|.cons (sp [(5,22)] [] ?_)<|.cons (sp [] [(3,w.heap.size)] ?_)<|.cons (sp [(7,24)] [] ?_)<|.cons (sc 241 func241 [(4,21),(6,23),(8,25)] [] _ ?c9)<|.cons (sp [(9,26)] [] ?_)<|.cons (sp [(10,16)] [] ?_)<|.cons (sp [(10,16)] [] ?_)<|.cons (sp [(11,27)] [] ?_)<|.cons (sp [(12,28)] [] ?_)<|.nil
   case c9=>
    intro E w' j S
    rintro e21 e23 e25
    exact ⟨_,jQ,.of (cF.o w' j) fun e K h=>⟨_,h.1,rfl,h.2⟩⟩
   all_goals
    intro E w' j S O
    obtain ⟨u0,u1,u2,u3,u4,u5,u6,u8,u9,dF,dD,dK,eu,aX,ug⟩:=(H32.o.old j).c HS2.o
    clear u0 u1 u2 u3 u4 u6 u8 u9 dF dD dK eu aX
    have x0:=rG (L.o.old j) 0 rfl
    have x1:=rG (L.o.old j) 1 rfl
    have xl:=(L.o.old j).lt
    repeat intro _
    exact ⟨_,dP,rfl⟩
  case en=>
   intro jA w9 z
   iterate 15 refine Ends.eqv _ _ rfl (fun _ h=>h) ?_
   refine Ends.nil ?_
   simp only [aC,ax,fM,fJ]
   obtain ⟨y,C⟩:=aR (B)
   obtain ⟨T,rfl⟩:∃ T,T=w9:=⟨_,rfl⟩
   have N3:=aa (show aN T y c i W g u s from C▸N2.o.old z)
   have D3:=aa (show fT w own c i T y from C▸D2.o.old z)
   have E3:=aa (show fT w1 B c i T y from C▸E2.o.old z)
   have x:=aa (L.o.old z)
   obtain ⟨p3,M⟩:=N3.o.ex
   have H33:=aa (aV.ub (M.at_ 3):aV T (fun k=>y k=bM c i 3) (fun k=>y k=aB) W g p3 s.n)
   have HS3:=aa N3.o.self
   obtain ⟨AT,hAT⟩:=aR ((s.n.kept.log.at_ ⟨d,f,l,m,p,r⟩:Int))
   obtain ⟨E,hE⟩:=aR (s.n.kept.log.err ⟨d,f,l,m,p,r⟩)
   have cP:=aa (fun W' (R:Old T W')=>(show aS 90 #[p3.lg,.agg #[zi d,zi f,zi l,zi m,zi p,.string r]] W' (fun e w'=>e=.returned (.tuple #[zi AT,zi E])/\LQ c i y p3.lg (s.n.kept.log.put ⟨d,f,l,m,p,r⟩) W' w') from
    NW p3.lg _ s.n.kept.log s.n.kept.log.qs.length rfl (by have:=V7.o;omega) ⟨d,f,l,m,p,r⟩ AT E _ hAT hE rfl W' ((M.old R).at_ 6)))
   have HEE:=aa hE
   clear z cF C hAT hE
   have HE2:=aa (show s'=if E=0 then ((s.aZ fun n=>{ n with kept:={ n.kept with log:=s.n.kept.log.put ⟨d,f,l,m,p,r⟩ } }).entry ⟨d,f,l,m,p,r⟩).advance else s by
    rw [HE1.o,if_neg hf0,HEE.o])
   clear hf0
   go_wp2_with fail
   refine qo (fun k=>y k=bM c i 6) 6 (LQ c i y p3.lg (s.n.kept.log.put ⟨d,f,l,m,p,r⟩)) 12 aW T [.val g,.val g,.val (av g 4),.val (av g 5),.val p3.lg,.val (.agg #[zi d,zi f,zi l,zi m,zi p,.string r]),.val (.tuple #[zi AT,zi E]),.val (.tuple #[zi AT,zi E]),.val (zi AT),.val (zi E),.val (zi AT),.val (zi E)] ((Old.refl' _).drew') ?st ?en
   case st=>
    refine .cons (sp1 (fun _ _ h=>h.2) [] [(0,g)] ?_)<|.cons (sp1 (fun _ _ h=>h.2) [(0,43)] [] ?_)<|.cons (sp1 (fun _ _ h=>h.2) [(1,44)] [] ?_)<|.cons (sp1 (fun _ _ h=>h.2) [(2,45)] [] ?_)<|.cons (ve (fun _ _ h=>h.2) [(3,46)] [] ?c4)<|.cons (ve (fun _ _ h=>h.2) [] [(3,w.heap.size)] ?c5)<|.cons (Et (fun _ _ h=>h.2) 90 func90 [(4,47),(5,48)] [] _ ?c6)<|.cons (sp1 (fun _ _ h=>h.2) [(6,49)] [] ?_)<|.cons (sp1 (fun _ _ h=>h.2) [(7,42)] [] ?_)<|.cons (sp1 (fun _ _ h=>h.2) [(7,42)] [] ?_)<|.cons (sp1 (fun _ _ h=>h.2) [(8,50)] [] ?_)<|.cons (sp1 (fun _ _ h=>h.2) [(9,51)] [] ?_)<|.nil
    case c4=>
     intro E w' j S O
     rintro e46
     obtain ⟨u0,u1,u2,u3,u4,u5,u6,u8,u9,dF,dD,dK,eu,aX,ug⟩:=(H33.o.old j).c HS3.o
     clear u0 u1 u2 u3 u4 u6 u8 u9 dF dD dK eu aX
     have x0:=rG (x.o.old j) 0 rfl
     have x1:=rG (x.o.old j) 1 rfl
     have x2:=rG (x.o.old j) 2 rfl
     have x3:=rG (x.o.old j) 3 rfl
     have x4:=rG (x.o.old j) 4 rfl
     have x5:=rG (x.o.old j) 5 rfl
     have xl:=(x.o.old j).lt
     exact ⟨_,dP,rfl⟩
    case c5=>
     intro E w' j S O
     rintro e3
     obtain ⟨u0,u1,u2,u3,u4,u5,u6,u8,u9,dF,dD,dK,eu,aX,ug⟩:=(H33.o.old j).c HS3.o
     clear u0 u1 u2 u3 u4 u6 u8 u9 dF dD dK eu aX
     have x0:=rG (x.o.old j) 0 rfl
     have x1:=rG (x.o.old j) 1 rfl
     have x2:=rG (x.o.old j) 2 rfl
     have x3:=rG (x.o.old j) 3 rfl
     have x4:=rG (x.o.old j) 4 rfl
     have x5:=rG (x.o.old j) 5 rfl
     have xl:=(x.o.old j).lt
     exact ⟨_,dP,rfl⟩
    case c6=>
     intro E w' j S
     rintro e47 e48
     exact ⟨_,jQ,(cP.o w' j).mono fun e K h=>⟨_,h.1,rfl,h.2⟩⟩
    all_goals
     intro E w' j S O
     repeat intro _
     exact ⟨_,dP,rfl⟩
   case en=>
    intro jA w9 x9 y9 F vG Lf
    iterate 12 refine Ends.eqv _ _ rfl (fun _ h=>h) ?_
    refine Ends.nil ?_
    simp only [aC,ax,fM,fJ]
    have Wt:=M
    have O9:=aa F
    obtain ⟨⟨F',hA,hG⟩,hF⟩:=vG
    obtain ⟨SC,n6,d6⟩:=aN.FT (l':=s.n.kept.log.put ⟨d,f,l,m,p,r⟩) (M.old F) (N3.o.old F) (hA.old Lf) (fun k hk=>(hG k hk)) (hF.trans (Fr.aj Lf))
    have N6:=aa n6
    have D6:=aa ((D3.o.old F).trans d6)
    have E6:=aa ((E3.o.old F).trans d6)
    clear Wt n6 d6 hA hG hF F Lf
    obtain rfl:E=0:=HEE.o.symm.trans abg.o
    have HR6:=aa (show s'=((s.aZ fun n=>{ n with kept:={ n.kept with log:=s.n.kept.log.put ⟨d,f,l,m,p,r⟩ } }).entry ⟨d,f,l,m,p,r⟩).advance by rw [HE2.o,if_pos rfl])
    obtain ⟨s4,G⟩:=aR ((s.aZ fun n=>{ n with kept:={ n.kept with log:=s.n.kept.log.put ⟨d,f,l,m,p,r⟩ } }))
    have Uk:=aa G
    have N64:=aa (show aN w9 SC c i W g u s4 by rw [<- G];exact N6.o)
    have abh:=aa (show aF s4 i (k + 3) by rw [<- G];exact (J.o.mono af:aF s i (k + 3)).AY _ ((J.o.log.put (k:=k + 3) _)))
    have abj:=aa (show aF (s4.entry ⟨d,f,l,m,p,r⟩) i (k + 2) by rw [<- G];exact (J.o.mono af:aF s i (k + 2 + 1)).We _ _ ((J.o.mono af:aF s i (k + 2 + 1)).log.put _))
    have X6:=E6.o.keep HX1.o (.inr MC.o)
    have hz:=abf X6
    have cE:=aa (SB N64.o abh.o ⟨d,f,l,m,p,r⟩)
    clear X6 G
    go_wp2_with ((with_reducible refine bZ 36 (.tmp 3) w.heap.size 0 #[zi d,zi f,zi l,zi m,zi p,.string r] _ ?_ hz underlying36 rfl ?_ ?_);(· rfl);(· exact Bu))
    refine cE.o.mono ?_
    rintro e qF ⟨rfl,WJ,n10,d10⟩
    have cA:=aa (nO n10 (abj.o:aF _ i (k + 2)) (by rw [<- Uk.o];exact HLP.o))
    have D10:=aa (D6.o.trans d10)
    clear n10 d10 hz cE
    go_wp2_with fail
    refine cA.o.mono ?_
    rintro e QG ⟨rfl,YH,n11,d11⟩
    have HR:=aa (show s'=(s4.entry ⟨d,f,l,m,p,r⟩).advance by rw [HR6.o,Uk.o])
    have HZ:=aa (⟨YH,by rw [HR.o];exact n11,D10.o.trans d11⟩:∃ U,aN QG U c i W g u s'/\fT w own c i QG U)
    go_wp2_with fail
    go_end0
    exact ⟨rfl,HZ.o⟩
end
theorem iL.one {l:dW} {q:aG} (e:l.qs=[q]) (f:1<=l.aI) (g:(q.q.may && dU q.q.kind)=true) (h:q.q.kind=1) (j:q.q.eD=0) (h4:0 < q.q.seq):iL l:=fun i x d=>by
 rw [e] at d ⊢
 match i,d with
 | 0,d=>cases d;exact wE.new g h j f h4
 | i + 1,d=>simp at d
theorem YI:iL (N1.n.kept.log.put m1.q):=iL.one (q:=m1.q) ay iV iV iV iV iV
theorem YJ:iL N2.asks.n.kept.log:=iL.one (q:=m1.q) ay iV iV iV iV iV
theorem YK:iL N3.asks.n.kept.log:=iL.one (q:=m1.q) ay iV iV iV iV iV
section
variable {w:World} {own:Nat->Tag} {W:Nat} {u:bV} {gs cs:List Nat} {l:List bR}
theorem abk (h:gZ w own 0 W u gs cs l T0) (d:ByteArray) (f:d=qd1):aS 9 #[W,.agg #[zi 7,zi 0,zi 0,zi 0,zi 0,zi 1,zi 1,zi 0,.string d]] w (ek w own 0 W gs cs T1 (.bool true)):=by
 subst f
 exact Ph h 0 0 0 0 1 1 0 qd1 x0 x1 0 rfl ⟨aW,aW,aW,fun q a t e=>by cases e⟩ ⟨aW,aW⟩ rfl iV rfl iV aW aW
theorem YL (h:gZ w own 0 W u gs cs l T1):aS 28 #[W,zi 0] w (ek w own 0 W gs cs T2 (.bool true)):=by
 refine yJ h 0 y1 rfl (by rw [Da.1];decide) m1 Tk Tn 0 n0 Da.2.1 rfl S1 ({ T1 with bO:=T1.bO.eraseIdx 0,nodes:=T1.nodes.set 0 S1.n }:WV) rfl (fun _ w1 e M N i=>?_) (fun _=>⟨Gd,EJ.2.1⟩)
 rw [Da.2.2.1]
 exact abe N Gc m1 M i Da.2.2.2.1 1 aW S1 (fun W' f j d=>YG j Gc m1 M d Mf QI Gh S1 fun m g N2=>Xx▸PO (k:=4996) N2 Gc m1.q Gh Pn Tm YI)
theorem TM (h:gZ w own 0 W u gs cs l T2):aS 31 #[W,zi 0] w (ek w own 0 W gs cs T3 (.bool true)):=
 xN h 0 S1.n rfl iV S2 (fun _=>rfl) (fun _ w1 u1 N=>by
  rw [Pk]
  exact FX (k:=4980) N QH rfl ⟨Bo.1,Bo.2.1⟩ Bo.2.2 QE YJ (fun _=>⟨iV,iV,iV⟩)) (fun _=>⟨Gf,EJ.2.2.2.2⟩)
theorem abl (h:gZ w own 0 W u gs cs l T3):aS 31 #[W,zi 1] w (ek w own 0 W gs cs T4 (.bool true)):=
 qO h 0 1 iV x1 ay iV (fun F K g W' d=>Pf F K g x1 q1 _ 0 1 ay aW iV aW iV W' d) ay
theorem YM (h:gZ w own 0 W u gs cs l T4):aS 28 #[W,zi 0] w (ek w own 0 W gs cs T5 (.bool true)):=
 uu h 0 y2 ay (by rw [uP.1];decide) m2 Md Tp 0 1 iV x1 uP.2.1 ay uP.2.2.1 x2 rfl true uP.2.2.2.2.1 q1 (fun _=>⟨⟨ay,uP.2.2.2.2.2.1⟩,by rw [uP.2.2.2.2.2.2];decide⟩) T5 (by rw [uP.2.2.2.1];rfl) (fun F K g A d W' k m n h4=>by
  have f:x1.is m2.q.seq=true:=iV
  have i:bC.may m2.known=true:=iV
  have j:x1.known.az<=m2.known.az:=iV
  have e:x1.told m2.q.seq m2.known={ x1 with known:=m2.known }:=if_pos ⟨f,i,j⟩
  rw [e]
  exact IA F K g x1 m2.q.seq m2.known.az A _ d m2.known.nodes rfl Md.k k f i j W' m n h4)
theorem TN (h:gZ w own 0 W u gs cs l T5):aS 31 #[W,zi 0] w (ek w own 0 W gs cs T6 (.bool true)):=
 xN h 0 S2.n ay iV S3 (fun _=>rfl) (fun _ w1 u1 N=>by
  rw [Pm]
  exact FX (k:=4964) N Xw ay ⟨Bp.1,Bp.2.1⟩ Bp.2.2 QF YK (fun h=>absurd h.2 iV)) (fun _=>⟨ay,iV⟩)
theorem abm (h:gZ w own 0 W u gs cs l T6):aS 31 #[W,zi 1] w (ek w own 0 W gs cs T7 (.bool true)):=
 qO h 0 1 iV { x2 with p:=none } ay iV (fun F K g W' d=>Pe F K g _ _ rfl W' d) ay
end
structure QZ where
 W:Nat
 gs:List Nat
 cs:List Nat
 gP:Nat
 gK:Nat
 ka:Nat
 kb:Nat
def Is (w0:World) (p:QZ) (fair:Bool) (ask:Int) (V:Value) (s:WV) (a n:List Int) (w:World):Prop:=∃ own u l,oK w0 w own 0 p.W u p.gs p.cs l s p.gP p.gK p.ka p.kb fair ask V a n
section
variable {w0 w w':World} {p:QZ} {fair:Bool} {ask:Int} {V:Value} {s s':WV} {a n:List Int}
theorem Is.old (h:Is w0 p fair ask V s a n w) (d:Old w w'):Is w0 p fair ask V s a n w':=by
 obtain ⟨own,u,l,h⟩:=h
 exact ⟨own,u,l,h.abd d⟩
theorem Is.pc (h:Is w0 p fair ask V s a n w):Pq w p.gP p.W s.conf.nodes s.conf.au:=by
 obtain ⟨own,u,l,h⟩:=h
 exact h.pc
theorem Is.Mv {F:Nat} {args:Array Value} {v:Value} (h:Is w0 p fair ask V s a n w) (f:s'.conf=s.conf) (g:∀ own u l,gZ w own 0 p.W u p.gs p.cs l s->aS F args w (ek w own 0 p.W p.gs p.cs s' v)):aS F args w fun e w'=>e=.returned v/\Is w0 p fair ask V s' a n w':=by
 obtain ⟨own,u,l,h⟩:=h
 refine (g own u l h.at_).mono ?_
 rintro e w' ⟨rfl,d,i,l',j,D⟩
 exact ⟨rfl,d,i,l',h.did j D f⟩
theorem Is.AP (h:Is w0 p fair ask V s a n w) (d:s'.conf=s.conf) (f:∀ w own u l,gZ w own 0 p.W u p.gs p.cs l s->aS 28 #[p.W,zi 0] w (ek w own 0 p.W p.gs p.cs s' (.bool true))) :
 aS 9 #[p.W,.agg (zN 1 0)] w fun e w'=>(∃ v,e=.returned v)/\Is w0 p fair ask V s' a n w':=
 (Te 0 0 0 0 0 0 0 p.W ByteArray.empty true w (fun e w'=>e=.returned (.bool true)/\Is w0 p fair ask V s' a n w') (fun _ _ h=>h.1) (fun w1 g=>(h.old g).Mv d (f w1))).mono fun _ _ h=>⟨⟨_,h.1⟩,h.2⟩
theorem Is.YN (h:Is w0 p fair ask V s a n w) (k:Int) (d:s'.conf=s.conf) (f:∀ w own u l,gZ w own 0 p.W u p.gs p.cs l s->aS 31 #[p.W,zi k] w (ek w own 0 p.W p.gs p.cs s' (.bool true))) :
 aS 9 #[p.W,.agg (zN 4 k)] w fun e w'=>(∃ v,e=.returned v)/\Is w0 p fair ask V s' a n w':=
 (Tf k 0 0 0 0 0 0 p.W ByteArray.empty true w (fun e w'=>e=.returned (.bool true)/\Is w0 p fair ask V s' a n w') (fun _ _ h=>h.1) (fun w1 g=>(h.old g).Mv d (f w1))).mono fun _ _ h=>⟨⟨_,h.1⟩,h.2⟩
theorem Is.tick (h:Is w0 p true ask V s a n w) (k:Nat) (t x:Int) (j:a[k]?=some t) (m:n[k]?=some x) (d:0<=x/\x<=1) (f:0<=t/\t<=1099511627776) (r:s'.conf=s.conf)
 (y:∀ w own u l,gZ w own 0 p.W u p.gs p.cs l s->aS 31 #[p.W,zi (k:Int)] w (ek w own 0 p.W p.gs p.cs s' (.bool true))) :
 aS 70 #[p.gP,zi (k:Int)] w fun e w'=>e=.returned (.tuple #[])/\Is w0 p true ask V s' (a.set k (t + 1)) (n.set k (x + 1)) w':=by
 obtain ⟨own,u,l,h⟩:=h
 have h9:s.conf.nodes + s.conf.au<=9:=by have:=h.at_.conf;omega
 refine EK p.gP p.W p.gK k w (h.blk.cell 4) (h.blk.cell 5) h.blk.lt (fun w1=>Is w0 p true ask V s (a.set k (t + 1)) (n.set k (x + 1)) w1) _ ((XP h.k k t x j m d f h9).mono fun e w1 g=>⟨g.1,own,u,l,h.YF g.2.1 g.2.2⟩) (fun w1 i=>⟨⟨i.pc.c0,i.pc.lt⟩,i.YN k r y⟩)
end
theorem xR {w0 w:World} {p:QZ} {ask:Int} {V:Value} {f g i k:WV} (t:Int) (m:0<=t/\t<=1) (z:f.bO.length=1) (ca:f.conf=xQ) (r:g.conf=xQ) (x:i.conf=xQ) (y:k.conf=xQ)
 (A:∀ w own u l,gZ w own 0 p.W u p.gs p.cs l f->aS 28 #[p.W,zi 0] w (ek w own 0 p.W p.gs p.cs g (.bool true)))
 (B:∀ w own u l,gZ w own 0 p.W u p.gs p.cs l g->aS 31 #[p.W,zi 0] w (ek w own 0 p.W p.gs p.cs i (.bool true)))
 (C:∀ w own u l,gZ w own 0 p.W u p.gs p.cs l i->aS 31 #[p.W,zi 1] w (ek w own 0 p.W p.gs p.cs k (.bool true)))
 (h:Is w0 p true ask V f [t,t] [t,t] w):aS 27 #[p.gP] w fun e w'=>e=.returned (.tuple #[])/\Is w0 p true ask V k [t + 1,t + 1] [t + 1,t + 1] w':=by
 refine Tq p.gP p.W 1 1 1 aW aW (fun j w=>(j=0/\Is w0 p true ask V f [t,t] [t,t] w)∨(j=1/\Is w0 p true ask V g [t,t] [t,t] w)) (fun j w=>(j=0/\Is w0 p true ask V g [t,t] [t,t] w)∨(j=1/\Is w0 p true ask V i [t + 1,t] [t + 1,t] w)∨(j=2/\Is w0 p true ask V k [t + 1,t + 1] [t + 1,t + 1] w)) ?_ ?_ ?_ ?_ ?_ ?_ ?_ w (.inl ⟨rfl,h⟩) |>.mono ?_
 ·rintro j w (⟨-,h⟩ | ⟨-,h⟩)
  ·have:=h.pc;rwa [ca] at this
  ·have:=h.pc;rwa [r] at this
 ·rintro j w (⟨-,h⟩ | ⟨-,h⟩ | ⟨-,h⟩)
  ·have:=h.pc;rwa [r] at this
  ·have:=h.pc;rwa [x] at this
  ·have:=h.pc;rwa [y] at this
 ·rintro j w (⟨e,h⟩ | ⟨e,h⟩ | ⟨e,h⟩)
  ·exact .inl ⟨e,h.old (Old.refl' w).drew'⟩
  ·exact .inr (.inl ⟨e,h.old (Old.refl' w).drew'⟩)
  ·exact .inr (.inr ⟨e,h.old (Old.refl' w).drew'⟩)
 ·rintro w (⟨e,-⟩ | ⟨-,h⟩)
  ·omega
  ·exact .inl ⟨rfl,h⟩
 ·rintro w (⟨-,h⟩ | ⟨e,-⟩)
  ·obtain ⟨own,u,l,d⟩:=id h
   refine (Pb d.at_ 1 z).mono ?_
   rintro e w' ⟨rfl,D⟩
   exact ⟨rfl,.inl ⟨rfl,h.old D⟩⟩
  ·omega
 ·rintro j w E (⟨rfl,h⟩ | ⟨rfl,-⟩)
  ·exact (h.AP (r.trans ca.symm) A).mono fun _ _ d=>⟨d.1,.inr ⟨rfl,d.2⟩⟩
  ·omega
 ·rintro j w E (⟨rfl,h⟩ | ⟨rfl,h⟩ | ⟨rfl,-⟩)
  ·exact (h.tick 0 t t rfl rfl m ⟨m.1,af⟩ (x.trans r.symm) B).mono fun _ _ d=>⟨d.1,.inr (.inl ⟨rfl,d.2⟩)⟩
  ·exact (h.tick 1 t t rfl rfl m ⟨m.1,af⟩ (y.trans x.symm) C).mono fun _ _ d=>⟨d.1,.inr (.inr ⟨rfl,d.2⟩)⟩
  ·omega
 ·rintro e w' ⟨rfl,h⟩
  rcases h with ⟨e,-⟩ | ⟨e,-⟩ | ⟨-,h⟩
  ·omega
  ·omega
  ·exact ⟨rfl,h⟩
theorem jd:T1.conf=xQ/\T2.conf=xQ/\T3.conf=xQ/\T4.conf=xQ/\T5.conf=xQ/\T6.conf=xQ/\T7.conf=xQ:=⟨ay,ay,ay,ay,ay,ay,ay⟩
theorem PR {w0 w:World} {p:QZ} {ask:Int} {V:Value} (h:Is w0 p true ask V T1 [0,0] [0,0] w):aS 27 #[p.gP] w fun e w'=>e=.returned (.tuple #[])/\Is w0 p true ask V T4 [1,1] [1,1] w':=
 xR 0 aW Da.1 jd.1 jd.2.1 jd.2.2.1 jd.2.2.2.1 (fun _ _ _ _=>YL) (fun _ _ _ _=>TM) (fun _ _ _ _=>abl) h
theorem PS {w0 w:World} {p:QZ} {ask:Int} {V:Value} (h:Is w0 p true ask V T4 [1,1] [1,1] w):aS 27 #[p.gP] w fun e w'=>e=.returned (.tuple #[])/\Is w0 p true ask V T7 [2,2] [2,2] w':=
 xR 1 aW uP.1 jd.2.2.2.1 jd.2.2.2.2.1 jd.2.2.2.2.2.1 jd.2.2.2.2.2.2 (fun _ _ _ _=>YM) (fun _ _ _ _=>TN) (fun _ _ _ _=>abm) h
end Go.Proofs.YthihpfpbiajddaaGreat
