/- Parts of the proof. -/
import Derived.Test.YthihpfpbiajddaaGreatHQWorldNobody35
set_option maxRecDepth 100000
set_option maxHeartbeats 8000000
open Go.Proofs.Tryz
namespace Go.Proofs.YthihpfpbiajddaaGreat
open Go.RowKit
theorem TH (n:Nat) (T:1<=n) (U:n<=5) (A d:Int) (C:1<=d/\d<=100) (B:Option Addr) (nc:Nat) (w:World) :
 aS 40 #[.agg #[zi n,zi A,zi d],.slice B 0 nc] w fun e w'=>∃ i g JA jq FA FL FJ,e=.returned (.agg #[av i 0,av g 0,zi (sS n d []).join.az,.slice JA (sS n d []).join.nodes.length jq])/\KF w w' (sS n d []) i g JA jq FA FL FJ:=by
 let V:Obj:=.cells #[zi n,zi A,zi d] 23
 let u:Obj:=.cells #[.pointer none,.pointer none,zi 0,aQ] 100
 have N:=aa (((Bk.new w 23 #[zi n,zi A,zi d]).alloc u).alloc u)
 have X2:=aa ((fV w V 100 #[.pointer none,.pointer none,zi 0,aQ]).alloc u)
 have X:=aa (fV (w.alloc V) u 100 #[.pointer none,.pointer none,zi 0,aQ])
 have HO:=aa ((((Old.refl' w).ag V).ag u).ag u)
 simp only [jW] at X
 have xc:=N.o.cell
 have xl:=N.o.lt
 have cN:=aa (fun W=>aaj (fun k=>W.heap.size<=k/\True) n T U W fun k hk=>⟨hk,trivial⟩)
 have cL:=aa (fun W=>R3 d C W)
 clear C
 go_enter func40,ntmps40
 go_wp2_with fail
 refine (cN.o _).mono ?_
 rintro e w1 ⟨i,rfl,D,O,y⟩
 have E:=X.o.old y
 have Y:=E.cell
 have Z:=E.frozen
 have kl:=E.lt
 have j:=aa (N.o.old y)
 have xc:=j.o.cell
 have xl:=j.o.lt
 go_wp2_with fail
 refine (cL.o _).mono ?_
 rintro e z ⟨g,FL,rfl,F,f,P⟩
 have G:=y.size
 simp only [jW] at D G
 have H:=P.size
 have I:(w1.setCell ⟨w.heap.size + 1 + 1,0,none⟩ (av i 0)).heap.size=w1.heap.size:=by simp [World.setCell]
 rw [I] at H f
 have J:Fr (fun x=>x=w.heap.size + 1 + 1) w1 (w1.setCell ⟨w.heap.size + 1 + 1,0,none⟩ (av i 0)):=Fr.setCell (Fr.refl (fun x=>x=w.heap.size + 1 + 1) w1) (p:=⟨w.heap.size + 1 + 1,0,none⟩) (.inr rfl) _
 have m:Fr (fun x=>x=w.heap.size + 1 + 1) z (z.setCell ⟨w.heap.size + 1 + 1,1,none⟩ (av g 0)):=Fr.setCell (Fr.refl (fun x=>x=w.heap.size + 1 + 1) z) (p:=⟨w.heap.size + 1 + 1,1,none⟩) (.inr rfl) _
 have L:(z.setCell ⟨w.heap.size + 1 + 1,1,none⟩ (av g 0)).heap.size=z.heap.size:=by simp [World.setCell]
 have r:=((E.bH 0 (av i 0)).old P)
 have M:=(J.trans (Fr.aj P)).trans m
 have K0:=aa (show KI w (z.setCell ⟨w.heap.size + 1 + 1,1,none⟩ (av g 0)) w.heap.size n A d (.new n) (dW.new d) .zero i g none 0 (fun x=>((w.heap.size + 1 + 1 + 1)<=x/\x < w1.heap.size)) FL (fun _=>False) from by
  refine ⟨((Fr.aj (S:=fun _=>False) (HO.o.trans' y)).trans' M (fun x s e=>af)).old,dN _,j.o.fr M af,(X2.o.old y).fr M af,?_,?_,F.fr m ?_,fD.nil _ _ _,dN _,?_,fun _ h=>h.elim,?_,fun x s=>by rw [L];omega,fun _ h=>h.elim⟩
  ·simpa [bC.zero] using r.bH 1 (av g 0)
  ·refine (iy.mono (K':=fun x=>((w.heap.size + 1 + 1 + 1)<=x/\x < w1.heap.size)) O (fun _ h=>h) O.lt fun x h1 h2 h3=>⟨⟨by simpa using h2.1,h1⟩,h3⟩).fr M ?_
   rintro x (rfl | ⟨s,-⟩) <;> omega
  ·intro x s e;have:=f x s;omega
  ·rintro x (s | rfl)
   ·exact ⟨af,fun hF=>by have:=f x hF;omega⟩
   ·exact ⟨af,fun hF=>by have:=f _ hF;have:=O.lt _ rfl;omega⟩
  ·intro x s;have:=f x s;omega)
 have R:=r
 have Y:=R.cell
 have Z:=R.frozen
 have kl:=R.lt
 clear E r M J m I L G H f F O D y P cN cL N X2 X j xc xl
 go_wp2_with fail
 clear Y Z kl R
 go_loopw [29] (fun iv wr=>iv=zi 0/\kN (KI w wr w.heap.size n A d (.new n) (dW.new d) .zero i g none 0 (fun x=>((w.heap.size + 1 + 1 + 1)<=x/\x < w1.heap.size)) FL (fun _=>False))) (fun _ _=>0)
 case atStart=>exact ⟨rfl,K0⟩
 case round=>
  obtain ⟨rfl,HW⟩:=hrel
  clear K0
  have l:=HW.o
  have Y:=l.kc.cell
  have Z:=l.kc.frozen
  have kl:=l.kc.lt
  have rc:=l.rs.cell
  have rf:=l.rs.frozen
  have rl:=l.rs.lt
  have HKF:=aa (KI.fin (K:=sS n d []) l (W':=setAt wr (w.heap.size + 1) 0 [av i 0,av g 0,zi 0,aQ]) (Fr.setAt (S:=fun x=>x=w.heap.size + 1) (.inr rfl) _ _ _ (Fr.refl (fun x=>x=w.heap.size + 1) wr)))
  clear l HW
  go_wp2_with fail
  exact bodyPost_ret (v:=.agg #[i,av g 0,zi 0,aQ]) (by simp [results,results40,go_sem,rc,rf,rl,bC.zero]) rfl ⟨i,g,none,0,_,_,_,rfl,HKF.o⟩
section
open Go.RowKit Go.Shelf
attribute [local go_sem] Oper.semAt_some
theorem II (m:Nat) (l d f:Nat) (A:Option Addr) (Z:Prop) (J:World->Prop) (p:∀ W W',J W->Old W W'->J W') (W:World) (h:W.cell? ⟨d,0,none⟩=some (.slice A 0 f)) (g:d < W.heap.size) (h0:J W) :
 CallsIn Fence.wide m prog 163 #[.func (.yield l) #[] #[],av d 0] W fun e W'=>(∃ v,e=.returned v)/\(J W'∨Z):=by
 refine callsIn_of_wp func163 rfl trivial ?_ rfl
 simp only [ntmps163,List.size_toArray,iR,jV,Nat.reduceAdd,Nat.reduceSub,Array.replicate_succ,Array.replicate_zero,List.push_toArray,List.append_toArray,qz,xZ]
 gi_wp2
 gi_loopw [3] (fun i wr=>i=zi 0/\J wr/\wr.cell? ⟨d,0,none⟩=some (.slice A 0 f)/\d < wr.heap.size) (fun _ _=>0)
 case atStart=>exact ⟨rfl,h0,h,g⟩
 case round=>
  obtain ⟨rfl,k,j,n⟩:=hrel
  gi_wp2
  go_end0
  exact ⟨⟨_,rfl⟩,.inl k⟩
theorem TI (A:Option Addr) (f:Nat) (w:World):aS 62 #[.slice A 0 f] w fun e w'=>e=.returned (.tuple #[aQ,zi 0])/\Old w w':=by
 refine (callsIn_wide (n:=6)).1 ?_
 refine callsIn_of_wp_marks func62 rfl trivial ?_ rfl
 simp only [ntmps62,List.size_toArray,iR,jV,Nat.reduceAdd,Nat.reduceSub,Array.replicate_succ,Array.replicate_zero,List.push_toArray,List.append_toArray,qz,xZ]
 gi_wp2_with (refine ⟨trivial,?_⟩;gi_at_call 105;refine (GD _ _ _ _ _).mono ?_;rintro e w' ⟨rfl,rfl⟩)
 obtain ⟨W0,d⟩:=aR (((w.alloc (.cells #[aQ] 118)).alloc (.cells #[zi 0] 3)).alloc (.cells #[.slice A 0 f] 65))
 have I:Bk W0 w.heap.size 118 #[aQ]:=d▸((Bk.new w _ _).alloc _).alloc _
 have b1:Bk W0 (w.heap.size + 1) 3 #[zi 0]:=by
  have:=(Bk.new (w.alloc (.cells #[aQ] 118)) 3 #[zi 0]).alloc (.cells #[.slice A 0 f] 65)
  rwa [jW,d] at this
 have b2:Bk W0 (w.heap.size + 1 + 1) 65 #[.slice A 0 f]:=by
  have:=Bk.new ((w.alloc (.cells #[aQ] 118)).alloc (.cells #[zi 0] 3)) 65 #[.slice A 0 f]
  rwa [jW,jW,d] at this
 have s:Old w W0:=d▸(((Old.refl' w).ag _).ag _).ag _
 have K:W0.heap.size=w.heap.size + 3:=by rw [<- d];simp
 rw [d]
 clear d
 refine wpIn_rangeFunc_ownH (α:=Empty) (encs:=nofun) (N:=0) (S:=fun _=>True) (Sp:=fun _=>False) (Kp:=fun _ _=>True) rfl af (gf:=163) (lb:=#[av (w.heap.size + 1 + 1) 0]) rfl trivial (enters_of func163 ay rfl)
  (w0:=W0) ?stops (fun _ _=>trivial) (fun _ _ _ _ _ _ _ _=>trivial) (Below.refl _ _) nofun
  (fun _ W=>Old w W/\Bk W w.heap.size 118 #[aQ]/\Bk W (w.heap.size + 1) 3 #[zi 0]) (fun _ _ _=>False)
  ?turn (fun _ _ _ _ _ h _ _=>h)
  ⟨s,I,b1⟩
  nofun nofun nofun nofun ?done (fun _ _ _ _ _ h=>h.elim)
 case stops=>
  intro l J X W u L M Y h0
  refine (II _ l (w.heap.size + 1 + 1) f A False (J []) (fun U O h o=>L [] U O none h ⟨o.os,o.tape,o.output,o.size,fun k P _=>o.block k P⟩ (fun r e=>by cases e)) W ((u.cell (p:=⟨w.heap.size + 1 + 1,0,none⟩) (by show w.heap.size + 1 + 1 < _;omega)).trans ((b2.cell 0).trans rfl)) (iD af u.size) h0).mono ?_
  rintro e W' ⟨R,h | h⟩
  ·exact ⟨R,.inl ⟨[],trivial,h⟩⟩
  ·exact h.elim
 case turn=>
  intro pre W W' row ⟨x,y,z⟩ B C
  have E:Fr (fun k=>row=some k) W W':=Fr.gU B (fun _ _ h=>h)
  have g:∀ {k t cs},Bk W k t cs->¬ row=some k:=fun {k t cs} g e=>by
   obtain ⟨-,o,m,T⟩:=C k e
   unfold Bk at g
   rw [g] at m
   injection m with m
   subst m
   simp [Obj.isCells] at T
  exact ⟨x.grown B x.size (fun k e=>by have:=(C k e).1;omega),y.fr E (g y),z.fr E (g z)⟩
 case done=>
  rintro D xs W Z - ⟨F,i,j⟩ G
  have u0:=(i.cell 0).trans rfl
  have u1:=(j.cell 0).trans rfl
  have H:=aa G
  have V:=aa F
  clear i j G F
  gi_wp2
  gi_region
  gi_wp2
  refine ⟨bE,.inl ⟨_,_,rfl,run_takeDeferred (w:=W.drew) H.o,?_⟩⟩
  exact ⟨.tuple #[aQ,zi 0],by simp [results,Tryz.f62,go_sem],rfl,Old.put (show Old w W.drew from V.o.drew') (D:=D) (show W.drew.heap[D]?=_ from H.o) af _⟩
theorem TJ (g:Nat) (F:Nat->Prop) (w:World) (h:fA w F g bB.new) :
 aS 41 #[g] w fun e w'=>e=.returned aQ/\(∃ F',fA w' F' g bB.new/\jH w F F')/\Fr F w w':=by
 have m:=aa (RE g F bB.new 0 rfl af w h)
 have n:=aa (fun W (p:Old w W)=>ZV g F bB.new 0 (Nat.zero_le _) aW W (h.old p))
 clear h
 go_enter func41,ntmps41
 go_wp2_with fail
 refine m.o.mono ?_
 rintro B w1 ⟨A,c,rfl,d,f⟩
 have r:=aa (TI A c w1)
 have j:=aa f
 clear d f
 go_wp2_with fail
 refine r.o.mono ?_
 rintro C s ⟨rfl,i⟩
 have l:=aa (j.o.trans' i)
 clear i
 go_wp2_with fail
 refine (n.o s l.o).mono ?_
 rintro D E ⟨rfl,⟨F',u,x⟩,y⟩
 go_wp2
 go_ret
 exact ⟨rfl,⟨F',u,fun k z=>(x k z).imp id (by have:=l.o.size;omega)⟩,(Fr.aj l.o).trans y⟩
end
section
variable {w w':World} {own:Nat->Tag} {c i W g k:Nat} {u:bV} {s:NS}
theorem zO:jE bB.new=([],bB.new):=ay
theorem PM (D:Bh w own c i W g u s) (d:rz s.conf i) (f:0<=s.now/\s.now<=1099511627776) (hd:s.n.disk=bB.new) :
 aS 42 #[g] w (fO w own c i W g u s.start):=by
 refine Px D d f (fun l W' h4=>?_) fun W' B N m base x j _ _=>?_
 ·rw [hd] at h4 ⊢
  rw [zO]
  exact (TJ l _ W' h4).mono fun e w' ⟨h,⟨F',h7,h8⟩,h9⟩=>⟨_,h,trivial,none,0,0,[],F',rfl,rfl,ah.nil _ _,Ca.nil _ _,⟨h7,h8⟩,h9⟩
 ·rw [hd,zO] at j ⊢
  obtain rfl:N=0:=j
  exact (TH s.conf.nodes d.n1 d.n5 s.conf.au s.conf.aI ⟨by have:=d.q.1;omega,by have:=d.q.2;omega⟩ B m W').mono fun e w' ⟨n,p,JA,jq,FA,FL,FJ,h,r⟩=>⟨_,h,trivial,n,p,JA,jq,FA,FL,FJ,rfl,r⟩
end
theorem ES:(prog.info? 94).map (fun i=>(i.zero,i.size,i.bytes))=some (some (.pointer none),1,8):=ay
theorem Br:(prog.info? 83).map (fun i=>(i.zero,i.size,i.bytes))=some (some (.pointer none),1,8):=ay
def Bt (W k dk:Nat) (M:Array Value):Prop:=M.size=193/\M[0]?=some (ptr W)/\M[1]?=some (zi k)/\M[3]?=some (ptr dk)
theorem PN (W k d:Nat):∃ M,prog.built 115 [(0,W),(1,zi k),(3,d)]=some M/\Bt W k d M:=by
 have h:(prog.built 115 [(0,W),(1,zi k),(3,d)]).map (fun M=>(M.size,M[0]?,M[1]?,M[3]?))=some (193,some (ptr W),some (zi k),some (ptr d)):=ay
 obtain ⟨M,e⟩:∃ M,prog.built 115 [(0,W),(1,zi k),(3,d)]=some M:=by
  cases hb:prog.built 115 [(0,W),(1,zi k),(3,d)] with
  | none=>rw [hb] at h;cases h
  | some M=>exact ⟨M,rfl⟩
 rw [e] at h
 simp only [Option.map_some,Option.some.injEq,Prod.mk.injEq] at h
 exact ⟨M,e,h⟩
theorem IJ {E:Operand->Value} {w:World} {o:Oper} (x:Operand) (d:o.op=.box 115 x) (M:Array Value) (e:E x=.agg M) :
 (execOp E o).run prog w=.ok (.value (av w.heap.size 0)) (w.alloc (.cells M 115)):=by
 unfold execOp
 simp only [d,e]
 kernel_rfl
theorem Dh {E:Operand->Value} {w:World} {o:Oper} (x:Operand) (d:o.op=.buildSlice 72 1 #[(0,x)]) (g:Nat) (e:E x=av g 0) :
 (execOp E o).run prog w=.ok (.value (.slice (some ⟨w.heap.size,0,none⟩) 1 1)) (w.alloc (.cells #[g] 94)):=by
 unfold execOp
 simp only [d,List.map_toArray,BB,IV,e]
 kernel_rfl
def Gq (w:World) (own:Nat->Tag) (c:Nat) (cf:dZ) (e:Ending) (w':World):Prop:=∃ W own' u gs cs,e=.returned (.tuple #[av W 0,zi 0])/\gZ w' own' c W u gs cs [] (WV.new cf)/\gT w own c w' own'/\Old w w'
def DkN (base:Nat) (v:Value) (w:World):Prop:=∃ dk,v=av dk 0/\base<=dk/\fA w (fun b=>b=dk) dk .new
instance (base:Nat):uT Old (DkN base):=⟨fun _ _ _ ho ⟨dk,h1,h2,h3⟩=>⟨dk,h1,h2,h3.old ho⟩⟩
def NdV (base W k:Nat) (v:Value) (w:World):Prop:=∃ dk M,v=.agg M/\Bt W k dk M/\base<=dk/\fA w (fun b=>b=dk) dk .new
instance (base W k:Nat):uT Old (NdV base W k):=⟨fun _ _ _ ho ⟨dk,M,h1,h2,h3,h4⟩=>⟨dk,M,h1,h2,h3,h4.old ho⟩⟩
def NdB (base W k:Nat) (v:Value) (w:World):Prop:=∃ g dk M,v=av g 0/\base<=g/\Bk w g 115 M/\Bt W k dk M/\base<=dk/\fA w (fun b=>b=dk) dk .new
instance (base W k:Nat):uT Old (NdB base W k):=⟨fun _ _ _ ho ⟨g,dk,M,h1,h2,h3,h4,h5,h6⟩=>⟨g,dk,M,h1,h2,h3.old ho,h4,h5,h6.old ho⟩⟩
def NdS (base W k:Nat) (v:Value) (w:World):Prop:=∃ gb g dk M,v=.slice (some ⟨gb,0,none⟩) 1 1/\Bk w gb 94 #[av g 0]/\base<=g/\Bk w g 115 M/\Bt W k dk M/\base<=dk/\fA w (fun b=>b=dk) dk .new
instance (base W k:Nat):uT Old (NdS base W k):=⟨fun _ _ _ ho ⟨gb,g,dk,M,h1,h2,h3,h4,h5,h6,h7⟩=>⟨gb,g,dk,M,h1,h2.old ho,h3,h4.old ho,h5,h6,h7.old ho⟩⟩
theorem YB (a b d:Nat) (ha:1<=a/\a<=5) (hb:1<=b/\b<=4) (hd:1<=d/\d<=100) (w:World) (g:Nat->Tag) (c:Nat) (hT:vO w g) (hcl:∀ k,g k≠aB->(g k).1≠c + 1) :
 aS 15 #[.agg #[zi (a:Nat),zi (b:Nat),zi (d:Nat)]] w (Gq w g c ⟨a,b,d⟩):=by
 have s:=aa (And.intro ha hb)
 have HD:=aa (show (1:Int)<=(d:Int)/\(d:Int)<=100 by omega)
 have HT:=aa hT
 have Wk:=aa hcl
 clear hT hcl
 obtain ⟨w1,W⟩:∃ x,x=w.alloc (.cells #[zi (a:Nat),zi (b:Nat),zi (d:Nat)] 23):=⟨_,rfl⟩
 have o1:Old w w1:=W▸(Old.refl' w).ag _
 have X:=aa (show Bk w1 w.heap.size 23 #[zi (a:Nat),zi (b:Nat),zi (d:Nat)] from W▸Bk.new w 23 _)
 have O1:=aa o1
 have HAB:=aa (show 1<=a + b/\a + b<=9 by omega)
 have LM:=aa (show IntKind.i64.wrap ((a:Int) + b)=((a + b:Nat):Int) from (kP _ af).trans af)
 have cM:=aa (SN (a:Nat) (b:Nat) (d:Nat) af af af w1)
 have cF:=aa (fun W'=>J9 a ha.1 ha.2 W')
 have x0:=X.o.cell 0
 have x1:=X.o.cell 1
 have x2:=X.o.cell 2
 have xl:=X.o.lt
 simp only [iZ,je,nW] at x0 x1 x2
 have O1:=aa o1
 clear o1 ha hb hd
 refine callsIn_wide.1 (callsIn_of_wp_marks (n:=5) func15 rfl trivial ?_ rfl)
 simp only [ntmps15,List.size_toArray,iR,jV,Nat.reduceAdd,Nat.reduceSub,Array.replicate_succ,Array.replicate_zero,List.push_toArray,List.append_toArray,qz,xZ]
 refine wpIn_mono (Q:=Ug _) ?_ (fun _ _ _ h=>h.o)
 refine wpIn_wide.2 ?_
 go_wp2_with fail
 rw [<- W]
 clear W
 refine cM.o.mono ?_
 rintro e w2 ⟨rfl,o2⟩
 clear x0 x1 x2 xl
 have x0:=(X.o.old o2).cell 0
 have xl:=(X.o.old o2).lt
 simp only [iZ,je,nW] at x0
 have O2:=aa o2
 clear o2
 go_wp2_with fail
 refine (cF.o w2).mono ?_
 rintro e w3 ⟨A,q,rfl,I,o3⟩
 have HOW:=aa I
 obtain ⟨G,hw4⟩:∃ x,x=w3.alloc (.cells #[zi 1,.slice A a q] 59):=⟨_,rfl⟩
 have o4:Old w3 G:=hw4▸(Old.refl' w3).ag _
 have XC:=aa (show Bk G w3.heap.size 59 #[zi 1,.slice A a q] from hw4▸Bk.new w3 59 _)
 have O4:=aa (O2.o.trans' (o3.trans' o4))
 have Xb:=aa (HT.o.old (O1.o.trans' O4.o).size)
 have YC:=aa (bF I o4)
 have HQ:kN (a<=q):=aa (by obtain ⟨A',c',e,h,-⟩:=bI I;cases e;exact h)
 have Un:kN (∀ x,A=some x->x.block < G.heap.size/\g x.block=aB):=aa (by
  obtain ⟨A',c',e,-,h⟩:=bI I
  cases e
  exact fun x hx=>⟨iD (h x hx).2.1 o4.size,HT.o _ (ic (O1.o.trans' O2.o).size (h x hx).1)⟩)
 clear I o3 o4 x0 xl
 go_wp2_with fail
 rw [<- hw4]
 clear hw4
 refine bG Old G [.val (.agg #[zi (a:Nat),zi (b:Nat),zi (d:Nat)]),.val w.heap.size,.val (zi (a:Nat)),.val (av w.heap.size 1),.val (zi (b:Nat)),.val (zi ((a + b:Nat):Int)),.rel (MkI G.heap.size (a + b)),.rel (MkB G.heap.size),.rel (MkP G.heap.size),.rel (MkM G.heap.size),.val (.agg #[zi 1,.slice A a q]),.rel (MkC G.heap.size A a q),.rel (MkV G.heap.size a b d A q),.rel (MkW G.heap.size a b d A q),.rel (MkW G.heap.size a b d A q)] ((Old.refl' _).drew') ?st ?en
 case st=>
  refine .cons (sp [] [(1,w.heap.size)] ?c0)<|.cons (sp [] [(1,w.heap.size)] ?_)<|.cons (sp [(1,23)] [] ?_)<|.cons (sp [] [(1,w.heap.size)] ?_)<|.cons (sp [(3,25)] [] ?_)<|.cons (sp [(2,24),(4,26)] [] ?c5)<|.cons (sm [(5,27)] [] ?c6)<|.cons (sc 50 func50 [] [] _ ?c7)<|.cons (sc 51 func51 [] [] _ ?c8)<|.cons (sm [] [] ?c9)<|.cons (sp [] [(4,w3.heap.size)] ?c10)<|.cons (sm [(10,32)] [] ?c11)<|.cons (sp [(0,22),(6,28),(7,29),(8,30),(9,31),(11,33)] [] ?c12)<|.cons (sm [(12,34)] [] ?c13)<|.cons (sp [(13,35)] [] ?c14)<|.nil
  case c0=>
   intro E w' y H K
   rintro e1
   exact ⟨_,eH 23 (.tmp 1) rfl w.heap.size 0 _ _ (by assumption) (QD (X.o.old (O4.o.trans' y))) underlying23 rfl I8,rfl⟩
  case c5=>
   intro E w' y H K
   rintro e24 e26
   exact ⟨_,by go_simp;exact LM.o,rfl⟩
  case c6=>
   intro E w' y H K
   rintro e27
   exact ⟨_,_,yH (.tmp 27) rfl (a + b) HAB.o.1 HAB.o.2 (by assumption),⟨w'.heap.size,rfl,y.size,Bk.new _ _ _⟩,(Old.refl' _).ag _⟩
  case c7=>
   intro E w' y H
   exact ⟨_,jQ,(Nn w').mono fun e w2 h=>⟨_,h.1,⟨w'.heap.size,rfl,y.size,by rw [h.2];exact Bk.new _ _ _⟩,h.2▸(Old.refl' _).ag _⟩⟩
  case c8=>
   intro E w' y H
   exact ⟨_,jQ,(WS w').mono fun e w2 h=>⟨_,h.1,⟨w'.heap.size,rfl,y.size,by rw [h.2];exact Bk.new _ _ _⟩,h.2▸(Old.refl' _).ag _⟩⟩
  case c9=>
   intro E w' y H K
   exact ⟨_,_,Bi rfl,⟨w'.heap.size,rfl,y.size,World.alloc_heap_new _ _⟩,(Old.refl' _).ag _⟩
  case c10=>
   intro E w' y H K
   rintro e4
   exact ⟨_,eH 59 (.tmp 4) rfl w3.heap.size 0 _ _ (by assumption) (QD (XC.o.old y)) underlying59 rfl OX,rfl⟩
  case c11=>
   intro E w' y H K
   rintro e32
   exact ⟨_,_,yI (.tmp 32) rfl A a q (by assumption),⟨w'.heap.size,rfl,y.size,Bk.new _ _ _⟩,(Old.refl' _).ag _⟩
  case c12=>
   intro E w' y H K
   rintro e22 _ ⟨g6,rfl,l6,k6⟩ e28 _ ⟨g7,rfl,l7,k7⟩ e29 _ ⟨g8,rfl,l8,k8⟩ e30 _ ⟨g9,rfl,l9,R⟩ e31 _ ⟨C,rfl,l11,k11⟩ e33
   exact ⟨_,mh 82 _ rfl _ [(0,.agg #[zi (a:Nat),zi (b:Nat),zi (d:Nat)]),(3,.slice (some ⟨g6,0,none⟩) (a + b) (a + b)),(4,g7),(5,g8),(6,.map (some g9)),(7,.slice (some ⟨C,0,none⟩) 1 1)] Up (OT _ _ _ _ _ _ _ _ _),⟨g6,g7,g8,g9,C,rfl,⟨l6,k6⟩,⟨l7,k7⟩,⟨l8,k8⟩,⟨l9,R⟩,l11,k11⟩⟩
  case c13=>
   intro E w' y H K
   rintro _ ⟨g6,g7,g8,g9,C,rfl,L⟩ e34
   exact ⟨_,_,Ip (.tmp 34) rfl _ _ _ _ _ _ _ _ _ (by assumption),⟨w'.heap.size,g6,g7,g8,g9,C,rfl,y.size,Bk.new _ _ _,L.old ((Old.refl' _).ag _)⟩,(Old.refl' _).ag _⟩
  case c14=>
   intro E w' y H K
   rintro _ ⟨f,g6,g7,g8,g9,C,rfl,lW,kW,L⟩ e35
   exact ⟨_,dP,⟨f,g6,g7,g8,g9,C,rfl,lW,kW,L⟩⟩
  all_goals
   intro E w' y H K
   have y0:=(X.o.old (O4.o.trans' y)).cell 0
   have yl:=(X.o.old (O4.o.trans' y)).lt
   simp only [iZ,je,nW] at y0
   have y1:=(X.o.old (O4.o.trans' y)).cell 1
   have yl:=(X.o.old (O4.o.trans' y)).lt
   simp only [iZ,je,nW] at y1
   repeat intro _
   exact ⟨_,dP,rfl⟩
 case en=>
  intro jA Y D
  iterate 6 refine Ends.eqv _ _ rfl (fun _ h=>h) ?_
  refine Ends.ex _ rfl ?_
  rintro _ _ ⟨g6,rfl,l6,k6⟩
  refine Ends.ex _ rfl ?_
  rintro _ _ ⟨g7,rfl,l7,k7⟩
  refine Ends.ex _ rfl ?_
  rintro _ _ ⟨g8,rfl,l8,k8⟩
  refine Ends.ex _ rfl ?_
  rintro _ _ ⟨g9,rfl,l9,R⟩
  iterate 1 refine Ends.eqv _ _ rfl (fun _ h=>h) ?_
  refine Ends.ex _ rfl ?_
  rintro _ _ ⟨C,rfl,l11,k11⟩
  refine Ends.ex _ rfl ?_
  rintro _ _ ⟨g6,g7,g8,g9,C,rfl,L⟩
  refine Ends.ex _ rfl ?_
  rintro _ _ ⟨f,g6,g7,g8,g9,C,rfl,lW,kW,L⟩
  refine Ends.ex _ rfl ?_
  rintro _ _ ⟨f,h6,h7,h8,h9,h11,rfl,lW,kW,L⟩
  refine Ends.nil ?_
  simp only [aC,ax,fM,fJ]
  obtain ⟨abb,hA1,hA2,hA3⟩:=Lt Xb.o D a b d A q f h6 h7 h8 h9 h11 lW kW L HQ.o (ah.bA (bF YC.o D)) Un.o Wk.o
  have HN:=aa (show ∃ own u gs z cs,pZ G g c f ⟨a,b,d⟩ 0 0 Y own u gs z cs from ⟨abb,_,[],[],[],hA1,hA2,D,hA3,rfl,rfl,rfl,rfl,World.ownsRow_nil _ _ _ _,fun b hb=>by simp [EF,Value.ownBlock] at hb,World.ownsRow_nil _ _ _ _,fun b hb=>by simp [EF,Value.ownBlock] at hb,Wk.o⟩)
  have XB9:=aa (X.o.old (O4.o.trans' D))
  have O9:=aa D
  obtain ⟨w5,rfl⟩:∃ x,x=Y:=⟨_,rfl⟩
  have x0:=XB9.o.cell 0
  have xl:=XB9.o.lt
  simp only [iZ,je,nW] at x0
  clear hA1 hA2 hA3 lW kW L D HOW HQ Un Xb XC YC
  generalize hab:a + b=ab
  clear hab
  go_wp2_with fail
  go_loopw [38] (fun iv wr=>∃ k:Nat,k<=a/\iv=zi k/\kN (∃ own u gs z cs,pZ G g c f ⟨a,b,d⟩ k 0 wr own u gs z cs)) (fun iv _=>a - (intOf iv).toNat)
  case atStart=>exact ⟨0,Nat.zero_le _,rfl,HN.o⟩
  case round=>
   obtain ⟨k,hk,rfl,hI⟩:=hrel
   by_cases Z:k < a
   ·have T:(k:Int) < (a:Int):=by omega
    go_wp2_with fail
    obtain ⟨own,u,gs,z,cs,B⟩:=hI.o
    obtain ⟨V,hV⟩:=aR (u.nodes)
    have N:=aa B
    have HV:=aa hV
    have hV2:=hV
    obtain ⟨V0,hB,-⟩:=B.blk
    have HY:=aa (fun W' (hW:Old wr W')=>(show W'.cell? ⟨f,3,none⟩=some V/\f < W'.heap.size from ⟨hV▸(hB.old hW).cell 3,(hB.old hW).lt⟩))
    have HR:=aa (hV▸B.rn)
    have HK:=aa Z
    clear hI B hB hV Z T
    refine yS fun a0 ha0=>?_
    refine vW 0 (some 41) (av f 0) ?hy ?_
    case hy=>intro w;go_simp
    simp only [aC,ax,fM,fJ]
    refine Jh Old [0] [12,13,14,15,16] wr [.val f,.val f,.val f,.val (av f 3),.val (av f 3),.val (V),.val f,.val (zi (k:Nat)),.rel (DkN wr.heap.size),.rel (NdV wr.heap.size f k),.rel (NdB wr.heap.size f k),.rel (NdS wr.heap.size f k),.val undef,.val undef,.val undef,.val undef,.val undef] ha0 ((Old.refl' _).drew') ?st ?en
    case st=>
     refine .cons (.inl rfl)<|.cons (.inr (sp [] [(6,f)] ?_))<|.cons (.inr (sp [(1,42)] [] ?_))<|.cons (.inr (sp [(2,43)] [] ?_))<|.cons (.inr (sp [(3,44)] [] ?_))<|.cons (.inr (sp [(4,45)] [] ?_))<|.cons (.inr (sp [] [(6,f)] ?_))<|.cons (.inr (sp [] [(7,zi (k:Nat))] ?_))<|.cons (.inr (sc 52 func52 [] [] _ ?c8))<|.cons (.inr (sp [(6,47),(7,48),(8,49)] [] ?c9))<|.cons (.inr (sm [(9,50)] [] ?c10))<|.cons (.inr (sm [(10,51)] [] ?c11))<|.cons (.inl rfl)<|.cons (.inl rfl)<|.cons (.inl rfl)<|.cons (.inl rfl)<|.cons (.inl rfl)<|.nil
     case c8=>
      intro E w' y H
      exact ⟨_,jQ,.of (ZU w') fun e w2 h=>⟨_,h.1,⟨w'.heap.size,rfl,y.size,h.2.1⟩,h.2.2⟩⟩
     case c9=>
      intro E w' y H K
      rintro e47 e48 _ ⟨dk,rfl,ld,kd⟩ e49
      obtain ⟨M9,Uj,O⟩:=PN f k dk
      exact ⟨_,mh 115 _ rfl _ [(0,f),(1,zi (k:Nat)),(3,dk)] Up Uj,⟨dk,M9,rfl,O,ld,kd⟩⟩
     case c10=>
      intro E w' y H K
      rintro _ ⟨dk,M9,rfl,O,ld,kd⟩ e50
      exact ⟨_,_,IJ (.tmp 50) rfl M9 (by assumption),⟨w'.heap.size,dk,M9,rfl,y.size,Bk.new _ _ _,O,ld,kd.old ((Old.refl' _).ag _)⟩,(Old.refl' _).ag _⟩
     case c11=>
      intro E w' y H K
      rintro _ ⟨gn,dk,M9,rfl,ln,kn,O,ld,kd⟩ e51
      exact ⟨_,_,Dh (.tmp 51) rfl gn (by assumption),⟨w'.heap.size,gn,dk,M9,rfl,Bk.new _ _ _,ln,kn.old ((Old.refl' _).ag _),O,ld,kd.old ((Old.refl' _).ag _)⟩,(Old.refl' _).ag _⟩
     all_goals
      intro E w' y H K
      obtain ⟨y3,yl⟩:=HY.o w' y
      repeat intro _
      exact ⟨_,dP,rfl⟩
    case en=>
     intro jA Y D
     iterate 8 refine dx.eqv _ _ rfl (fun _ h=>h) ?_
     refine dx.ex _ rfl ?_
     rintro _ _ ⟨dk,rfl,ld,kd⟩
     refine dx.ex _ rfl ?_
     rintro _ _ ⟨dk,M9,rfl,O,ld,kd⟩
     refine dx.ex _ rfl ?_
     rintro _ _ ⟨gn,dk,M9,rfl,ln,kn,O,ld,kd⟩
     refine dx.ex _ rfl ?_
     rintro _ _ ⟨gb,hn,hd,M8,rfl,kb,ln2,kn2,hm8,ld2,kd2⟩
     iterate 5 refine dx.skip ?_
     refine dx.nil ?_
     simp only [aC,ax,fM,fJ,List.filterMap_cons,List.filterMap_nil,je,nW]
     have Zb:=aa kb
     have IB:=aa D
     have ZA:=aa kn2
     have HM9:=aa hm8
     have Wn:=aa kd2
     have V7:=aa ln2
     have HLD:=aa ld2
     have hl9:=kb.lt
     clear kb kn2 hm8 kd2 ln2 ld2 D ha0
     obtain ⟨i0,hi0,hz0,hz1,hz2⟩:=info_parts ES
     refine bT _ rfl (.tmp 46) (.tmp 52) 72 rfl 0 94 i0 (.pointer none) 1 8 underlying72 hi0 hz0 hz1 hz2 rfl aW V k (gs.map ptr) rfl (bF HR.o IB.o) (some ⟨gb,0,none⟩) 1 1 [av hn 0] rfl rfl (cz Zb.o) tC (by have:=HK.o;have:=s.o.1.2;unfold maxLen;omega) (by have:=HK.o;have:=s.o.1.2;omega) (Nat.zero_le _) (k + 1) rfl (gs.map ptr ++ [ptr hn]) rfl ?_
     intro A2 q2 w8 h9
     obtain ⟨Le,P⟩:=N.o.node (by have:=HK.o;have:=s.o.1.2;omega) IB.o HLD.o V7.o Wn.o ZA.o HM9.o (hV2.symm▸h9)
     have HI2:=aa (show ∃ own u gs z cs,pZ G g c f ⟨a,b,d⟩ (k + 1) 0 (w8.setCell ⟨f,3,none⟩ (.slice A2 (k + 1) q2)) own u gs z cs from ⟨Le,_,_,_,_,P⟩)
     have W:IntKind.i64.wrap ((k:Int) + 1)=((k + 1:Nat):Int):=(kP _ (by have:=HK.o;have:=s.o.1.2;omega)).trans af
     obtain ⟨V3,M⟩:∃ V3,Bk w8 f 82 (gL ⟨a,b,d⟩ u V3):=by
      obtain ⟨V0,hB,-⟩:=N.o.blk
      exact ⟨V0,h9.bk (hB.old IB.o) (hV2▸aK N.o.rn hB aW)⟩
     have z3:=M.cell 3
     have zl:=M.lt
     have zf:=M.frozen 3
     have HX2:=HI2
     clear M h9 P hl9
     go_wp2_with fail
     go_roundw
     case rel=>exact ⟨k + 1,HK.o,bE,HX2⟩
     case measure=>
      have:=HK.o
      simp [intOf]
      omega
   ·have hka:k=a:=by omega
    have T:¬ (k:Int) < (a:Int):=af
    have HN2:=aa (hka▸hI.o)
    obtain ⟨own,u,gs,z,cs,B⟩:=HN2.o
    have ZB:=aa (X.o.old O4.o)
    have xb:=ZB.o.old B.old
    have x1:=xb.cell 1
    have xl:=xb.lt
    simp only [iZ,je,nW] at x1
    clear B hI xb
    go_wp2_with fail
    go_loopw [60] (fun iv wr=>∃ j:Nat,j<=b/\iv=zi (j:Int)/\kN (∃ own u gs z cs,pZ G g c f ⟨a,b,d⟩ a j wr own u gs z cs)) (fun iv _=>b - (intOf iv).toNat)
    case atStart=>exact ⟨0,Nat.zero_le _,rfl,HN2.o⟩
    case round=>
     obtain ⟨j,hj,rfl,hI⟩:=hrel
     by_cases Z:j < b
     ·have T:(j:Int) < (b:Int):=by omega
      obtain ⟨own,u,gs,z,cs,B⟩:=hI.o
      obtain ⟨V,hV⟩:=aR (u.au)
      have N:=aa B
      have hV2:=hV
      obtain ⟨V0,hB,-⟩:=B.blk
      have HY:=aa (fun W' (hW:Old wr W')=>(show W'.cell? ⟨f,4,none⟩=some V/\f < W'.heap.size from ⟨hV▸(hB.old hW).cell 4,(hB.old hW).lt⟩))
      have HR:=aa (hV▸B.rc)
      have HK:=aa Z
      have cC:=aa (WM (fun _=>False) j a (by have:=s.o.2.2;omega) s.o.1.1 s.o.1.2 wr)
      have xb:=ZB.o.old B.old
      have x0:=xb.cell 0
      have xl:=xb.lt
      simp only [iZ,je,nW] at x0
      clear hI B hB hV Z xb
      go_wp2_with fail
      refine cC.o.mono ?_
      rintro e i ⟨rfl,hC,o6⟩
      obtain ⟨y4,yl⟩:=HY.o i o6
      have HO6:=aa o6
      have HC6:=aa (fun V2 w8 (h9:fZ (i.alloc (.cells #[av wr.heap.size 0] 83)) 0 83 1 V (j + 1) (cs.map ptr ++ [ptr wr.heap.size]) V2 w8)=>(show (∃ x,w8.cell? ⟨f,4,none⟩=some x)/\f < w8.heap.size/\w8.frozen? ⟨f,4,none⟩=false/\∃ own u gs z cs,pZ G g c f ⟨a,b,d⟩ a (j + 1) (w8.setCell ⟨f,4,none⟩ V2) own u gs z cs by
       obtain ⟨Le,P⟩:=N.o.client s.o.1.2 (o6.ag _) (dN _) ((gy wr.heap.size (jc.new (j:Int) a)).fr hC (Fr.aj (S:=fun _=>False) ((Old.refl' i).ag _)) (fun _ _ h=>h)) (hV2.symm▸h9)
       obtain ⟨V0,hB,-⟩:=N.o.blk
       have M:Bk w8 f 82 (gL ⟨a,b,d⟩ u V0):=h9.bk (hB.old (o6.ag _)) (hV2▸aK N.o.rc hB aW)
       exact ⟨⟨_,M.cell 4⟩,M.lt,M.frozen 4,Le,_,_,_,_,P⟩))
      have W:IntKind.i64.wrap ((j:Int) + 1)=((j + 1:Nat):Int):=(kP _ (by have:=HK.o;have:=s.o.2.2;omega)).trans af
      obtain ⟨i0,hi0,hz0,hz1,hz2⟩:=info_parts Br
      clear x0 xl hC o6
      go_wp2_with (at_builtin;refine bT _ rfl (.tmp 75) (.tmp 77) 75 rfl 0 83 i0 (.pointer none) 1 8 underlying75 hi0 hz0 hz1 hz2 rfl aW V j (cs.map ptr) rfl ((bF HR.o HO6.o).alloc _) (some ⟨i.heap.size,0,none⟩) 1 1 [av wr.heap.size 0] rfl rfl (cz (Bk.new i 83 #[av wr.heap.size 0])) tC (by have:=HK.o;have:=s.o.2.2;unfold maxLen;omega) (by have:=HK.o;have:=s.o.2.2;omega) (Nat.zero_le _) (j + 1) rfl (cs.map ptr ++ [ptr wr.heap.size]) rfl ?_;intro A2 q2 w8 h9;obtain ⟨⟨_,z4⟩,zl,zf,P⟩:=HC6.o _ _ h9;have HI2:=aa P;clear h9 P)
      go_roundw
      case rel=>exact ⟨j + 1,HK.o,bE,HI2⟩
      case measure=>
       have:=HK.o
       simp [intOf]
       omega
     ·have hjb:j=b:=by omega
      have T:¬ (j:Int) < (b:Int):=af
      obtain ⟨own,u,gs,z,cs,B⟩:=hI.o
      have U0:=aa (B.done rfl hjb s.o)
      have EW:=aa (show gT w g c wr own from ⟨fun k hk=>B.ext k (iD hk (O1.o.trans' O4.o).size),Fr.aj ((O1.o.trans' O4.o).trans' B.old),fun k hk=>by
       rcases Nat.lt_or_ge k G.heap.size with h4 | h4
       ·left;rw [B.ext k h4];exact HT.o k hk
       ·rcases B.new k h4 with h5 | ⟨p,h5⟩
        ·exact .inl h5
        ·right;right;rw [h5];exact WT c p⟩)
      have EO:=aa ((O1.o.trans' O4.o).trans' B.old)
      have LG:=aa B.lg
      have cA:=aa (callsIn_wide.1 (OM Fence.wide 5 trivial rfl f 3 wr))
      clear hI B Z hjb hj hka hk HN2 x1 xl
      go_wp2_with fail
      refine cA.o.mono ?_
      rintro e i ⟨rfl,LY⟩
      have o6:Old wr i:=LY▸(Old.refl' wr).ag _
      have B6:=aa (show Bk i wr.heap.size 169 #[av f 3] from LY▸Bk.new wr _ _)
      have O6:=aa o6
      clear LY o6
      go_wp2_with fail
      refine (wpIn_wide (n:=5)).1 ?_
      refine zF (α:=Nat×Nat) (F:=Fence.wide) rfl aW (gf:=99) (lb:=#[wr.heap.size]) rfl trivial (enters_of func99 ay rfl) OO (fun _=>rfl) (mY gs a)
       (fun pre W'=>∃ l,kU W' l c f u gs cs [] pre.length (WV.OZ ⟨a,b,d⟩ pre.length)/\gT wr own c W' l/\(l wr.heap.size=bS/\l i.heap.size=bS/\l (i.heap.size + 1)=bS)/\Bk W' wr.heap.size 169 #[av f 3]/\i.heap.size + 2<=W'.heap.size)
       ?h0 ?hI ?OD ?hseq ?oI ?hdone
      case h0=>
       intro r
       have o8:Old wr ((i.alloc (.deferred (some []))).alloc (.loop r)):=(O6.o.ag _).ag _
       have es:((i.alloc (.deferred (some []))).alloc (.loop r)).heap.size=i.heap.size + 2:=by rw [jW,jW]
       obtain ⟨m,h8,d8,t8⟩:=U0.o.lay o8
       have:=B6.o.lt
       have:=O6.o.size
       exact ⟨m,h8,d8,⟨t8 _ af af,t8 _ af af,t8 _ af af⟩,B6.o.old (((Old.refl' i).ag _).ag _),af⟩
      case OD=>
       rintro pre W' W2 ⟨m,h8,d8,t8,b8,s8⟩ ho
       exact ⟨m,h8.old ho,d8.old ho,t8,b8.old ho,ic s8 ho.size⟩
      case hI=>
       rintro pre W' r ⟨m,h8,d8,t8,b8,s8⟩
       have K:=Fr.gU (S:=fun k=>k=i.heap.size + 1) (grownBy_putObj' W' (i.heap.size + 1) (.loop r)) (fun k _ e=>by cases e;rfl)
       have:=O6.o.size
       have:=B6.o.lt
       exact ⟨m,h8.bg (K.mono fun k _ (e:k=i.heap.size + 1)=>by rw [e];exact t8.2.2),d8.qE af _,t8,b8.fr K af,ic s8 K.size⟩
      case hseq=>
       intro J W' hJ Zt h0 hY
       obtain ⟨A9,q9,YD,-⟩:=U0.o.row
       refine Lh Fence.wide 4 trivial rfl aW (i.heap.size + 1) wr.heap.size f 3 A9 a q9 gs LG.o (by have:=s.o.1.2;omega) J (fun pre W2 hj2=>?_) hY W' h0
       obtain ⟨m,h8,d8,t8,b8,s8⟩:=hJ _ _ hj2
       obtain ⟨A8,q8,hu8,Y9,hc8,hl8⟩:=h8.row
       rw [YD] at hu8 hc8
       injection hu8 with e1 e2 e3
       subst e1
       rw [LG.o] at hc8
       have z8:=b8.cell 0
       simp only [iZ,je] at z8
       exact ⟨z8,hc8,b8.lt,hl8,Y9⟩
      case oI=>
       rintro pre x W' ⟨m,h8,d8,t8,b8,s8⟩ hpre hd ⟨r,hl⟩
       obtain ⟨Ry,rfl⟩:=Lx hpre
       obtain ⟨R,hkk⟩:=aR (pre.length)
       obtain ⟨gx,hgx⟩:=aR (gs[R]?.getD 0)
       rw [hkk] at Ry h8 ⊢
       rw [hgx]
       have HUO:=aa (WV.Bl ⟨a,b,d⟩ R (Nat.le_of_lt Ry))
       have HK9:=aa Ry
       have hi9:=HUO.o.dn R (dN _) Ry
       have YE:=fun o=>Fr.gU (S:=fun k=>k=i.heap.size + 1) (grownBy_putObj' W' (i.heap.size + 1) o) (fun k _ e=>by cases e;rfl)
       have YD:=fun o=>h8.bg ((YE o).mono fun k _ (e:k=i.heap.size + 1)=>by rw [e];exact t8.2.2)
       have cS:=aa (fun o=>hgx▸PM ((YD o).dn R _ hi9 (dN _)) (HUO.o.S9 Ry s.o.1.2 s.o.2.2 HD.o) (by rw [HUO.o.now];omega) rfl)
       have HF:=aa (fun o Y U (n9:aN Y U c R f gx u ((WV.OZ ⟨a,b,d⟩ R).ns R (gH R ⟨a,b,d⟩)).start) (d9:fT (W'.putObj (i.heap.size + 1) (.loop o)) m c R Y U)=>(show Y.heap[i.heap.size]?=some (.deferred (some []))/\Y.heap[i.heap.size + 1]?=some (.loop o)/\∃ l,kU Y l c f u gs cs [] (R + 1) (WV.OZ ⟨a,b,d⟩ (R + 1))/\gT wr own c Y l/\(l wr.heap.size=bS/\l i.heap.size=bS/\l (i.heap.size + 1)=bS)/\Bk Y wr.heap.size 169 #[av f 3]/\i.heap.size + 2<=Y.heap.size by
        have l6:=O6.o.size
        have l7:=B6.o.lt
        have e1:(W'.putObj (i.heap.size + 1) (.loop o)).heap[i.heap.size]?=some (.deferred (some [])):=(World.putObj_heap_other af).trans hd
        have e2:(W'.putObj (i.heap.size + 1) (.loop o)).heap[i.heap.size + 1]?=some (.loop o):=World.putObj_heap_same af
        refine ⟨d9.um e1 t8.2.1,d9.um e2 t8.2.2,U,?_,(d8.qE af _).trans d9.w,⟨?_,?_,?_⟩,d9.keep (b8.fr (YE _) af) (.inr t8.1),ic s8 (ic (YE (.loop o)).size d9.fr.size)⟩
        ·rw [WV.CY]
         exact (YD _).act hi9 (hgx.symm▸n9) d9
        ·exact (d9.ext _ (iD b8.lt (YE (.loop o)).size)).trans t8.1
        ·exact (d9.ext _ (Array.getElem?_eq_some_iff.1 e1).1).trans t8.2.1
        ·exact (d9.ext _ (Array.getElem?_eq_some_iff.1 e2).1).trans t8.2.2))
       clear h8 d8 t8 b8 s8 hpre hd hl hi9 YE YD Ry
       unfold OO
       dsimp only
       rw [aaT]
       simp only [ZR,fJ,fM]
       gi_wp2
       refine ⟨rfl,rfl,fun r9=>?_⟩
       gi_wp2
       refine ⟨trivial,?_⟩
       rw [Oper.semAt_some _ _ _ (by intro c H;cases H)]
       go_simp
       refine (CallsIn.inRound _ (callsIn_wide.2 (cS.o (.loop r9)))).mono ?_
       rintro e Y ⟨rfl,U,n9,d9⟩
       have HF9:=aa (HF.o _ _ _ n9 d9)
       clear n9 d9
       gi_wp2
       unfold Ev
       dsimp only
       rw [ja,hkk]
       exact HF9.o
      case hdone=>
       rintro W' ⟨m,h8,d8,t8,b8,s8⟩ hd
       rw [LA] at h8
       have hD:=hd
       have WH:=Fr.gU (S:=fun k=>k=i.heap.size) (grownBy_putObj' W' i.heap.size (.deferred none)) (fun k _ e=>by cases e;rfl)
       have h9:=(h8.bg (WH.mono fun k _ (e:k=i.heap.size)=>by rw [e];exact t8.2.1)).done (Nat.le_of_eq (WV.Bl ⟨a,b,d⟩ a (dN _)).len)
       have HZ:=aa (show Gq w g c ⟨a,b,d⟩ (.returned (.tuple #[f,zi 0])) (W'.putObj i.heap.size (.deferred none)) from ⟨f,m,u,gs,cs,rfl,h9,EW.o.trans (d8.qE (by have:=O6.o.size;omega) _),by
        have f9:=(d8.qE (b:=i.heap.size) (by have:=O6.o.size;omega) (.deferred none)).fr
        exact (EO.o.iE f9 fun k (e:(own k).1=c + 1)=>by
         rcases Nat.lt_or_ge k w.heap.size with h4 | h4
         ·rw [EW.o.ext k h4] at e
          exact absurd e (Wk.o k (fun e0=>by rw [e0] at e;simp [aB] at e))
         ·exact h4)⟩)
       clear h8 d8 t8 b8 s8 h9 WH hd
       go_wp2_with fail
       unfold Ug
       dsimp only
       refine ⟨bE,.inl ⟨_,_,rfl,run_takeDeferred hD,?_⟩⟩
       exact ⟨_,by simp [results,Tryz.f15,go_sem],HZ.o⟩
structure oK (w0 w:World) (own:Nat->Tag) (c W:Nat) (u:bV) (gs cs:List Nat) (l:List bR) (s:WV) (gP gK ka kb:Nat) (fair:Bool) (asked:Int) (V:Value) (all now:List Int):Prop where
 at_:gZ w own c W u gs cs l s
 old:Old w0 w
 low:∀ k,k < w0.heap.size->own k=aB
 blk:Bk w gP 33 #[W,zi s.conf.nodes,zi s.conf.au,zi s.conf.aI,av gK 0,.bool fair,zi asked,V]
 tP:own gP=bS
 k:IE w gK ka kb all now (s.conf.nodes + s.conf.au)
 tK:own gK=bS/\own ka=bS/\own kb=bS
section
variable {w0 w w':World} {own own':Nat->Tag} {c W:Nat} {u u':bV} {gs cs:List Nat} {l l':List bR} {s s':WV} {gP gK ka kb:Nat} {fair:Bool} {asked:Int} {V:Value} {all now all' now':List Int}
theorem IE.keep {g a b n:Nat} (h:IE w g a b all now n) (D:gT w own c w' own') (t:own g=bS/\own a=bS/\own b=bS):IE w' g a b all now n:=
 ⟨D.mO h.blk (.inr t.1),D.mO h.ba (.inr t.2.1),D.mO h.bb (.inr t.2.2),h.ne,h.la,h.lb⟩
theorem IE.old {g a b n:Nat} (h:IE w g a b all now n) (d:Old w w'):IE w' g a b all now n:=⟨h.blk.old d,h.ba.old d,h.bb.old d,h.ne,h.la,h.lb⟩
theorem oK.did (h:oK w0 w own c W u gs cs l s gP gK ka kb fair asked V all now) (e:gZ w' own' c W u' gs cs l' s') (D:gT w own c w' own') (d:s'.conf=s.conf):oK w0 w' own' c W u' gs cs l' s' gP gK ka kb fair asked V all now:=by
 obtain ⟨f,g⟩:=D.low h.old h.low
 refine ⟨e,f,g,by rw [d];exact D.mO h.blk (.inr h.tP),D.bS h.blk.lt h.tP,by rw [d];exact h.k.keep D h.tK,D.bS h.k.blk.lt h.tK.1,D.bS h.k.ba.lt h.tK.2.1,D.bS h.k.bb.lt h.tK.2.2⟩
theorem oK.abd (h:oK w0 w own c W u gs cs l s gP gK ka kb fair asked V all now) (d:Old w w'):oK w0 w' own c W u gs cs l s gP gK ka kb fair asked V all now:=
 ⟨h.at_.old d,h.old.trans' d,h.low,h.blk.old d,h.tP,h.k.old d,h.tK⟩
theorem oK.ge (h:oK w0 w own c W u gs cs l s gP gK ka kb fair asked V all now) {b:Nat} (e:own b=bS):w0.heap.size<=b:=by
 rcases Nat.lt_or_ge b w0.heap.size with d | d
 ·exact absurd ((h.low b d).symm.trans e) (by simp [aB,bS])
 ·exact d
theorem oK.YF (h:oK w0 w own c W u gs cs l s gP gK ka kb fair asked V all now) (f:IE w' gK ka kb all' now' (s.conf.nodes + s.conf.au)) (d:Fr (fun x=>x=ka∨x=kb) w w'):oK w0 w' own c W u gs cs l s gP gK ka kb fair asked V all' now':=by
 have g:gP≠ka:=h.blk.vC h.k.ba aW
 have i:gP≠kb:=h.blk.vC h.k.bb aW
 refine ⟨h.at_.bg (d.mono fun b _ e=>?_),h.old.iE d fun b e=>?_,h.low,h.blk.fr d (by rintro (e | e);exact g e;exact i e),h.tP,f,h.tK⟩
 ·rcases e with rfl | rfl
  ·exact h.tK.2.1
  ·exact h.tK.2.2
 ·rcases e with rfl | rfl
  ·exact h.ge h.tK.2.1
  ·exact h.ge h.tK.2.2
theorem oK.ask (h:oK w0 w own c W u gs cs l s gP gK ka kb fair asked V all now) (a:Int):oK w0 (w.setCell ⟨gP,6,none⟩ (zi a)) own c W u gs cs l s gP gK ka kb fair a V all now:=by
 have d:Fr (fun x=>x=gP) w (w.setCell ⟨gP,6,none⟩ (zi a)):=(Fr.refl (fun x=>x=gP) w).setCell (p:=⟨gP,6,none⟩) (.inr rfl) _
 have f:gK≠gP:=h.k.blk.vC h.blk aW
 have g:ka≠gP:=h.k.ba.vC h.blk aW
 have i:kb≠gP:=h.k.bb.vC h.blk aW
 exact ⟨h.at_.bg (d.mono fun b _ (e:b=gP)=>by rw [e];exact h.tP),h.old.iE d fun b (e:b=gP)=>by rw [e];exact h.ge h.tP,h.low,h.blk.bH 6 _,h.tP,⟨h.k.blk.fr d f,h.k.ba.fr d g,h.k.bb.fr d i,h.k.ne,h.k.la,h.k.lb⟩,h.tK⟩
theorem oK.pc (h:oK w0 w own c W u gs cs l s gP gK ka kb fair asked V all now):Pq w gP W s.conf.nodes s.conf.au:=⟨h.blk.cell 0,h.blk.cell 1,h.blk.cell 2,h.blk.lt⟩
end
theorem Gq.o {w:World} {own:Nat->Tag} {c:Nat} {d:dZ} {e:Ending} {w':World} (h:Gq w own c d e w'):∃ W own' u gs cs,e=.returned (.tuple #[av W 0,zi 0])/\gZ w' own' c W u gs cs [] (WV.new d)/\gT w own c w' own'/\Old w w':=h
theorem TK (a b d:Nat) (O:1<=a/\a<=5) (P:1<=b/\b<=4) (hd:1<=d/\d<=100) (fair:Bool) (w:World) :
 aS 6 #[.agg #[zi (a:Nat),zi (b:Nat),zi (d:Nat)],.bool fair] w fun e w'=>∃ gP,e=.returned (av gP 0)/\∃ W gK ka kb own u gs cs,oK w w' own 0 W u gs cs [] (WV.new ⟨a,b,d⟩) gP gK ka kb fair 0 aQ (List.replicate (a + b) 0) (List.replicate (a + b) 0):=by
 obtain ⟨w1,g⟩:∃ x,x=w.alloc (.cells #[zi (a:Nat),zi (b:Nat),zi (d:Nat)] 23):=⟨_,rfl⟩
 have R:Old w w1:=g▸(Old.refl' w).ag _
 have p:=aa (show Bk w1 w.heap.size 23 #[zi (a:Nat),zi (b:Nat),zi (d:Nat)] from g▸Bk.new w 23 _)
 have S:=aa R
 have Z:=aa (YB a b d O P hd w1 (fun _=>aB) 0 (fun _ _=>rfl) (fun _ h=>absurd rfl h))
 have cK:=aa (fun W'=>aa4 (a + b) af af W')
 have i:IntKind.i64.wrap ((a:Int) + b)=((a + b:Nat):Int):=(kP _ af).trans af
 have x0:=p.o.cell 0
 have x1:=p.o.cell 1
 have x2:=p.o.cell 2
 have z:=p.o.lt
 simp only [iZ,je,nW] at x0 x1 x2
 have E:=aa i
 clear R O P hd i
 go_enter func6,ntmps6
 go_wp2_with fail
 rw [<- g]
 clear g
 refine Z.o.mono ?_
 intro e w2 T
 obtain ⟨W,U,u,gs,cs,rfl,X,Y,F⟩:=T.o
 have HA:=aa X
 have HD:=aa Y
 have O2:=aa F
 have f:=aa (p.o.old F)
 clear T X Y F x0 x1 x2 z
 have x0:=f.o.cell 0
 have x1:=f.o.cell 1
 have x2:=f.o.cell 2
 have z:=f.o.lt
 have i:=E.o
 simp only [iZ,je,nW] at x0 x1 x2
 go_wp2_with fail
 refine (cK.o w2).mono ?_
 rintro e n ⟨gK,ka,kb,rfl,A,⟨B,C,lb⟩,G⟩
 have HK:=aa A
 have H:=aa G
 have j:=aa (f.o.old G)
 have LK:=aa (And.intro B (And.intro C lb))
 clear A B C lb G x0 x1 x2 z i
 have x0:=j.o.cell 0
 have x1:=j.o.cell 1
 have x2:=j.o.cell 2
 have z:=j.o.lt
 simp only [iZ,je,nW] at x0 x1 x2
 have HZ:=aa (show ∃ W' I J K own' u' L cs',oK w (n.alloc (.cells #[W,zi (a:Nat),zi (b:Nat),zi (d:Nat),av gK 0,.bool fair,zi 0,aQ] 33)) own' 0 W' u' L cs' [] (WV.new ⟨a,b,d⟩) n.heap.size I J K fair 0 aQ (List.replicate (a + b) 0) (List.replicate (a + b) 0) from by
  have r:(WV.new ⟨a,b,d⟩).conf=⟨a,b,d⟩:=(WV.Bl ⟨a,b,d⟩ a (dN _)).conf
  have M:Old n (n.alloc (.cells #[W,zi (a:Nat),zi (b:Nat),zi (d:Nat),av gK 0,.bool fair,zi 0,aQ] 33)):=(Old.refl' n).ag _
  obtain ⟨y,N,D4,D⟩:=HA.o.lay (H.o.trans' M)
  have hs:=jW n (.cells #[W,zi (a:Nat),zi (b:Nat),zi (d:Nat),av gK 0,.bool fair,zi 0,aQ] 33)
  have m:=HK.o.old M
  have h3:=H.o.size
  obtain ⟨B,C,lb⟩:=LK.o
  refine ⟨W,gK,ka,kb,y,u,gs,cs,N,S.o.trans' (O2.o.trans' (H.o.trans' M)),fun k A=>?_,?_,D _ af af,?_,D _ B m.blk.lt,D _ C m.ba.lt,D _ lb m.bb.lt⟩
  ·rw [(HD.o.trans D4).ext k (iD A S.o.size)]
  ·rw [r];exact Bk.new n _ _
  ·rw [r];exact m)
 go_wp2_with fail
 go_ret
 exact ⟨_,rfl,HZ.o⟩
end Go.Proofs.YthihpfpbiajddaaGreat
