/- Parts of the proof. -/
import Derived.Test.YthihpfpbiajddaaGreatHQWorldNobody24
set_option maxRecDepth 100000
set_option maxHeartbeats 8000000
open Go.Proofs.Tryz
namespace Go.Proofs.YthihpfpbiajddaaGreat
open Go.RowKit
theorem OC (n c j:Int) (h o:Bool):prog.built 110 [(0,zi 1),(2,zi n),(3,zi c),(4,zi j),(11,.bool h),(12,.bool o)]=some (iX 1 { aO.zero with kind:=1,n:=n,bD:=c,bL:=j,hop:=h,open_:=o } aQ aQ aQ aQ aQ):=ay
def VoA (f:Option Addr->Nat->Value) (v:Value) (_:World):Prop:=∃ A q,v=f A q
instance (T:World->World->Prop) (f:Option Addr->Nat->Value):uT T (VoA f):=⟨fun _ _ _ _ h=>h⟩
def BoxM (base:Nat) (v:Value) (w:World):Prop:=∃ g,v=av g 0/\base<=g/\Bk w g 110 zM
instance (base:Nat):uT Old (BoxM base):=⟨fun _ _ _ ho ⟨g,h1,h2,h3⟩=>⟨g,h1,h2,h3.old ho⟩⟩
section
variable {w:World} {own:Nat->Tag} {c i W g k:Nat} {u:bV} {s:NS}
theorem Wx (N:aN w own c i W g u s) (ok:aF s i k) (hn:s.conf.nodes=1) (r:Nat) (hB:Bk w r 94 #[g]) (l:Nat) :
 aS 198 #[.func (.yield l) #[] #[],av r 0] w fun e w'=>(∃ v,e=.returned v)/\Old w w':=by
 obtain ⟨p,K⟩:=N.ex
 have h3:aV w (fun k=>own k=bM c i 3) (fun k=>own k=aB) W g p s.n:=aV.ub (K.at_ 3)
 have h0:iB w (fun k=>own k=bM c i 0) (fun k=>own k=aB) W s.conf u s.aA:=K.at_ 0
 have h5:iy w (fun k=>own k=bM c i 5) (fun k=>own k=aB) p.ac s.n.kept.acc:=K.at_ 5
 have h6:eZ w p.lg (fun k=>own k=bM c i 6) s.n.kept.log:=K.at_ 6
 have H3:=aa h3
 have HS:=aa N.self
 have HX:=aa hB
 have hi0:i=0:=by have:=ok.conf.iN;omega
 subst hi0
 obtain ⟨L,hL⟩:=aR (s.n.kept.log.qs.length)
 obtain ⟨Kc,hK⟩:=aR (s.n.kept.log.k)
 obtain ⟨jo,D⟩:=aR (s.bL)
 obtain ⟨lb,M⟩:=aR (s.gD)
 obtain ⟨⟨⟨pr,pn⟩,⟨ar,an⟩,F,⟨ce,cn⟩⟩,hv⟩:∃ x,s.n.kept.acc.bN=x:=⟨_,rfl⟩
 obtain ⟨O,P⟩:=aR (cn.length)
 have R:=aa (fun W' (m:Old w W')=>AM p.lg _ s.n.kept.log L hL W' (h6.old m))
 have S:=aa (fun W' (m:Old w W')=>tX p.lg _ s.n.kept.log Kc hK W' (h6.old m))
 have cJ:=aa (fun W' (m:Old w W')=>sQ (N.old m) ok jo D)
 have cL:=aa (fun W' (m:Old w W')=>FK (N.old m) ok lb M)
 have cV:=aa (fun W' (m:Old w W')=>(show aS 186 #[p.ac] W' (fun e w'=>∃ A q,e=.returned (.agg #[zi pr,zi pn,zi ar,zi an,.bool F,zi ce,.slice A O q])/\w'.ownsRow W'.heap.size 3 1 (.slice A O q) O (cn.map (Value.int .i64))/\Old W' w') by
  have y:=Ka _ _ p.ac s.n.kept.acc (by have:=ok.acc.c_;omega) W' (h5.old m)
  rw [hv] at y
  unfold wJ at y
  simp only [P] at y
  exact y))
 have HWJ:=aa (show IntKind.i64.wrap (jo + 1)=jo + 1 from kP _ (by have:=ok.zB;rw [D] at this;omega))
 obtain ⟨f,z⟩:∃ x,x=iX 1 { aO.zero with kind:=1,n:=(L:Int),bD:=(Kc:Int),bL:=jo + 1,hop:=lb,open_:=F } aQ aQ aQ aQ aQ:=⟨_,rfl⟩
 have Em:=aa (show prog.built 110 [(0,zi 1),(2,zi (L:Int)),(3,zi (Kc:Int)),(4,zi (jo + 1)),(11,.bool lb),(12,.bool F)]=some f by rw [z];exact OC _ _ _ _ _)
 have T:=aa (show f.size=34 by rw [z];rfl)
 have H1B:=aa (show ∀ v∈f.toList,v.oneCell'=true by
  have h:f.all (·.oneCell')=true:=by rw [z];exact pg ..
  intro v hv
  exact (Array.all_eq_true_iff_forall_mem.1 h) v (by simpa using hv))
 have Wy:=aa (fun W' (m:Old w W')=>(show W'.cell? ⟨g,0,none⟩=some (av W 0)/\W'.cell? ⟨g,1,none⟩=some (zi 0)/\g < W'.heap.size/\W < W'.heap.size/\W'.cell? ⟨W,0,none⟩=some (zi 1) by
  have G:=h3.old m
  obtain ⟨z0,-,-,-,zl⟩:=(h0.old m).cells
  rw [hn] at z0
  have hs0:=N.self
  refine ⟨G.cell 0 _ (fun _=>rfl),?_,G.Oi,zl,z0⟩
  have:=G.cell 1 _ (fun _=>rfl)
  rw [hs0] at this
  exact this))
 clear h3 h0 h5 h6 K N ok hn hB hL hK D M hv P z
 go_enter func198,ntmps198
 go_wp2_with fail
 refine kI Old 26 w [.val g,.val g,.val (av g 4),.val (av g 5),.val p.lg,.val (zi (L:Int)),.val g,.val g,.val (av g 4),.val (av g 5),.val p.lg,.val (zi (Kc:Int)),.val g,.val (zi jo),.val (zi (jo + 1)),.val g,.val (.bool lb),.val g,.val g,.val (av g 4),.val (av g 4),.val p.ac,.rel (VoA (fun A q=>.agg #[zi pr,zi pn,zi ar,zi an,.bool F,zi ce,.slice A O q])),.val (.bool F),.val (.agg f),.rel (BoxM w.heap.size)] ((Old.refl' _).drew') ?st ?en
 case st=>
  refine .cons (sp [] [(1,r)] ?_)<|.cons (sp [(0,5)] [] ?_)<|.cons (sp [(1,6)] [] ?_)<|.cons (sp [(2,7)] [] ?_)<|.cons (sp [(3,8)] [] ?_)<|.cons (sc 59 func59 [(4,9)] [] _ ?c5)<|.cons (sp [] [(1,r)] ?_)<|.cons (sp [(6,11)] [] ?_)<|.cons (sp [(7,12)] [] ?_)<|.cons (sp [(8,13)] [] ?_)<|.cons (sp [(9,14)] [] ?_)<|.cons (sc 60 func60 [(10,15)] [] _ ?c11)<|.cons (sp [] [(1,r)] ?_)<|.cons (sc 199 func199 [(12,17)] [] _ ?c13)<|.cons (sp [(13,18)] [] ?c14)<|.cons (sp [] [(1,r)] ?_)<|.cons (sc 58 func58 [(15,20)] [] _ ?c16)<|.cons (sp [] [(1,r)] ?_)<|.cons (sp [(17,22)] [] ?_)<|.cons (sp [(18,23)] [] ?_)<|.cons (sp [(19,24)] [] ?_)<|.cons (sp [(20,25)] [] ?_)<|.cons (sc 186 func186 [(21,26)] [] _ ?c22)<|.cons (sp [(22,27)] [] ?c23)<|.cons (sp [(5,10),(11,16),(14,19),(16,21),(23,28)] [] ?c24)<|.cons (sm [] [] ?c25)<|.nil
  case c5=>
   intro E w' d B
   rintro e9
   exact ⟨_,jQ,.of (R.o w' d) fun e w2 h=>⟨_,h.1,rfl,h.2▸Old.refl' _⟩⟩
  case c11=>
   intro E w' d B
   rintro e15
   exact ⟨_,jQ,.of (S.o w' d) fun e w2 h=>⟨_,h.1,rfl,h.2▸Old.refl' _⟩⟩
  case c13=>
   intro E w' d B
   rintro e17
   exact ⟨_,jQ,.of (cJ.o w' d) fun e w2 h=>⟨_,h.1,rfl,h.2⟩⟩
  case c14=>
   intro E w' d B hf
   rintro e18
   exact ⟨_,by go_simp;exact HWJ.o,rfl⟩
  case c16=>
   intro E w' d B
   rintro e20
   exact ⟨_,jQ,.of (cL.o w' d) fun e w2 h=>⟨_,h.1,rfl,h.2⟩⟩
  case c22=>
   intro E w' d B
   rintro e26
   exact ⟨_,jQ,(cV.o w' d).mono fun e w2 h=>⟨_,h.choose_spec.choose_spec.1,⟨_,_,rfl⟩,h.choose_spec.choose_spec.2.2⟩⟩
  case c23=>
   intro E w' d B hf
   rintro _ ⟨A9,q9,rfl⟩ e27
   have f1:=Cy (zi pr) (zi pn) (zi ar) (zi an) (.bool F) (zi ce) (.slice A9 O q9)
   exact ⟨_,dP,rfl⟩
  case c24=>
   intro E w' d B hf
   rintro e10 e16 e19 e21 e28
   exact ⟨_,mh 110 _ rfl f [(0,zi 1),(2,zi (L:Int)),(3,zi (Kc:Int)),(4,zi (jo + 1)),(11,.bool lb),(12,.bool F)] Up Em.o,rfl⟩
  case c25=>
   intro E w' d B hf
   exact ⟨_,w'.alloc (.cells zM 110),kM rfl,⟨w'.heap.size,rfl,d.size,Bk.new _ _ _⟩,(Old.refl' _).ag _⟩
  all_goals
   intro E w' d B hf
   obtain ⟨u0,u1,u2,u3,u4,u5,u6,u8,u9,dF,dD,dK,eu,aX,ug⟩:=(H3.o.old d).c HS.o
   clear u0 u1 u2 u3 u6 u8 u9 dF dD dK eu aX
   have x0:=(HX.o.old d).cell 0
   have xl:=(HX.o.old d).lt
   simp only [iZ,je] at x0
   repeat intro _
   exact ⟨_,dP,rfl⟩
 case en=>
  intro jA w9 U
  generalize V:List.drop 26 _=LD
  iterate 22 refine Ends.eqv _ _ rfl (fun _ h=>h) ?_
  refine Ends.ex _ rfl ?_
  rintro _ _ ⟨A9,q9,rfl⟩
  iterate 2 refine Ends.eqv _ _ rfl (fun _ h=>h) ?_
  refine Ends.ex _ rfl ?_
  rintro _ _ ⟨gb,rfl,X,Y⟩
  refine Ends.nil ?_
  simp only [MH,Ja] at V
  subst V
  simp only [aC,ax,fM,fJ]
  have ho:=ji U X f.toList 0
  have C:=aa ho
  obtain ⟨wm,H⟩:∃ x,x=setAt w9 gb 0 f.toList:=⟨_,rfl⟩
  have Z:0 + f.toList.length<=zM.size:=by rw [Array.length_toList,T.o];decide
  have hs2:(prog.info? 110).map (·.size)=some f.toList.length:=by rw [Array.length_toList,T.o];exact sU
  refine aL 110 _ _ gb 0 f.toList ?_ ?_ 110 zM Y hs2 Z H1B.o ?_
  ·rfl
  ·show f=f.toList.toArray
   simp
  rw [<- H]
  rw [<- H] at C
  have hxm:gb≠r:=by have:=HX.o.lt;omega
  have I:Bk wm r 94 #[g]:=HX.o.old C.o
  simp only [aC,ax,fM,fJ]
  have x0:=I.cell 0
  have xl:=I.lt
  simp only [iZ,je] at x0
  obtain ⟨v0,v1,vg,vl,vn⟩:=Wy.o wm C.o
  clear H Z hs2 U X Y ho I
  go_wp2_with fail
  go_loopw [38] (fun iv wr=>∃ j:Nat,j<=1/\iv=zi j/\Old wm wr) (fun iv _=>1 - (intOf iv).toNat)
  case atStart=>exact ⟨0,af,rfl,Old.refl' wm⟩
  case round=>
   obtain ⟨j,hj,rfl,J⟩:=hrel
   have x0r:=(J.cell (p:=⟨r,0,none⟩) xl).trans x0
   have xlr:=iD xl J.size
   have v1r:=(J.cell (p:=⟨g,1,none⟩) vg).trans v1
   have vgr:=iD vg J.size
   clear x0 xl v0 v1 vg vl vn
   by_cases hlt:j < 1
   ·obtain rfl:j=0:=by omega
    have hlt':(0:Int) < (1:Int):=af
    have HR:=aa J
    clear J
    go_wp2_with fail
    go_roundw
    case rel=>exact ⟨1,af,oP,HR.o⟩
    case measure=>simp [intOf]
   ·obtain rfl:j=1:=by omega
    have hlt':¬ (1:Int) < (1:Int):=af
    go_wp2_with fail
    go_end0
    exact ⟨⟨_,rfl⟩,C.o.trans' J⟩
end
def Ev {α:Type} (d:Nat) (r:Loop) (I:List α->World->Prop) (pre:List α):Exit->Act->World->Prop
 | .normal,_,W=>W.heap[d]?=some (.deferred (some []))/\W.heap[d + 1]?=some (.loop r)/\I pre W
 | _,_,_=>False
def K7 {α:Type} (F:Fence) (m:Nat) (P:Program) (body:Code) (d:Nat) (I:List α->World->Prop) (pre:List α) (W:World) (a1:Act) (W1:World):Prop:=
 W1.heap[d]?=W.heap[d]?/\W1.heap[d + 1]?=W.heap[d + 1]?/\∀ r:Loop,body.wpIn (F.inRound (d + 1)) m P (Ev d r I pre) a1 (W1.putObj (d + 1) (.loop r))
theorem zD {α:Type} {F:Fence} {n:Nat} {P:Program} {g:Operand} {y:Array Tmp} {assign body:Code} {Q:Exit->Act->World->Prop} {a:Act} {w:World}
 (z:F.round=none) (U:1<=n) {gf:Nat} {lb:Array Value} (V:a.eval g=.func (.func gf) #[] lb) (A:F.fn gf) (X:∀ args w,(callFunc gf args).run P w=.ok (.enter gf args) w)
 (encs:α->Array Value) (B:∀ x,(encs x).size=y.size) (Y:List α->α->World->Prop) (D:List α->Prop) (I:List α->World->Prop)
 (h0:∀ r:Loop,I [] ((w.alloc (.deferred (some []))).alloc (.loop r)))
 (hI:∀ pre W (r:Loop),I pre W->I pre (W.putObj (w.heap.size + 1) (.loop r))) (OD:∀ pre W W',I pre W->Old W W'->I pre W')
 (hseq:∀ (J:List α->World->Prop) (W:World),(∀ pre W,J pre W->I pre W)->(∀ pre W W',J pre W->Old W W'->J pre W')->J [] W->
  (∀ pre x W,J pre W->Y pre x W->YieldAt F (n - 1 - 1) P (w.heap.size + 1) (encs x) W fun e W'=>e=.returned (.bool true)/\J (pre ++ [x]) W')->
  CallsIn F (n - 1) P gf (#[.func (.yield (w.heap.size + 1)) #[] #[]] ++ lb) W fun e W'=>(∃ v,e=.returned v)/\∃ L,D L/\J L W')
 (oI:∀ (pre:List α) (x:α) (W:World),I pre W->Y pre x W->W.heap[w.heap.size]?=some (.deferred (some []))->(∃ r,W.heap[w.heap.size + 1]?=some (.loop r))->
  assign.wpIn (F.inRound (w.heap.size + 1)) (n - 1 - 1) P (Exit.then (K7 F (n - 1 - 1) P body w.heap.size I (pre ++ [x]) W) (fun _ _ _=>False)) { tmps:=(y.zip (encs x)).foldl (fun t (p,v)=>t.setIfInBounds p v) a.tmps,defers:=[] } W)
 (hdone:∀ (L:List α) (W:World),D L->I L W->W.heap[w.heap.size]?=some (.deferred (some []))->Q .normal { a with defers:={ target:=.collected w.heap.size,args:=#[] } :: a.defers } W) :
 (Code.rangeFunc g y assign body).wpIn F n P Q a w:=by
 refine wpIn_rangeFunc ?_
 intro fn C
 rw [z]
 obtain ⟨rec,d⟩:∃ rec:LoopState->Loop,rec=fun st=>{ state:=st,pending:=none,fn,tmps:=a.tmps,params:=y,assign,body,defers:=w.heap.size }:=⟨_,rfl⟩
 obtain ⟨W1,f⟩:=aR ((w.alloc (.deferred (some []))).alloc (.loop (rec .ready)))
 have E:W1.heap[w.heap.size + 1]?=some (.loop (rec .ready)):=by
  rw [<- f]
  have:=World.alloc_heap_new (w.alloc (.deferred (some []))) (.loop (rec .ready))
  rwa [jW] at this
 have G:W1.heap[w.heap.size]?=some (.deferred (some [])):=by
  rw [<- f]
  exact (Below.heap_alloc _ _ _ bE).trans (World.alloc_heap_new w _)
 have H:I [] W1:=f▸h0 _
 refine ⟨w.heap.size + 1,[{ target:=.collected w.heap.size,args:=#[] }],W1,{ target:=.fn (.func gf) lb,args:=#[.func (.yield (w.heap.size + 1)) #[] #[]] },W1,gf,#[.func (.yield (w.heap.size + 1)) #[] #[]] ++ lb,W1,?_,?_,?_,?_,fun _=>U,?_⟩
 ·rw [<- f,d]
  exact run_enterLoop_outer _ _ _ _ _
 ·simp only [resolve,V]
  simp [go_sem]
 ·intro f' i
  simp [Target.leads] at i
  subst i
  exact A
 ·simp [invoke,go_sem,X]
 refine (hseq (fun pre W=>I pre W/\W.heap[w.heap.size]?=some (.deferred (some []))/\W.heap[w.heap.size + 1]?=some (.loop (rec .ready))) W1 (fun _ _ h=>h.1) (fun pre W W' h K=>⟨OD pre W W' h.1 K,(K.block _ (Array.getElem?_eq_some_iff.1 h.2.1).1).trans h.2.1,(K.block _ (Array.getElem?_eq_some_iff.1 h.2.2).1).trans h.2.2⟩) ⟨H,G,E⟩ ?_).mono ?_
 ·rintro pre x W ⟨M,hd,j⟩ k
  have hy:=run_yield (P:=P) (args:=encs x) j (by rw [d];exact B x)
  rw [d] at hy
  refine ⟨fn,_,assign,body,hy,roundIn_of_wpIn C (wpIn_mono (oI pre x W M k hd ⟨_,j⟩) ?_)⟩
  rintro e a1 R S
  cases e with
  | normal=>
   obtain ⟨Z,e2,hb⟩:=S
   have l:=e2.trans j
   have hd2:=Z.trans hd
   have hlt:w.heap.size + 1 < R.heap.size:=(Array.getElem?_eq_some_iff.1 l).1
   refine ⟨_,run_beginRound l (by rw [d]),wpIn_mono (hb _) ?_⟩
   rintro e a3 W3 m
   cases e with
   | normal=>
    obtain ⟨N,s,O⟩:=m
    have u:w.heap.size + 1 < W3.heap.size:=(Array.getElem?_eq_some_iff.1 s).1
    refine ⟨_,_,run_endRound none s,rfl,hI _ _ _ O,(World.putObj_heap_other af).trans N,?_⟩
    rw [World.putObj_heap_same u,d]
    rfl
   | _=>exact m.elim
  | _=>exact S.elim
 ·rintro e R ⟨⟨v,rfl⟩,L,hD,M,hd,j⟩
  have T:=run_endLoop (P:=P) j (by rw [d];simp)
  rw [d] at T
  exact ⟨none,_,T,hdone L _ hD (hI _ _ _ M) ((World.putObj_heap_other af).trans hd)⟩
theorem zF {α:Type} {F:Fence} {n:Nat} {P:Program} {g:Operand} {d:Array Tmp} {assign body:Code} {Q:Exit->Act->World->Prop} {a:Act} {w:World}
 (f:F.round=none) (h:1<=n) {gf:Nat} {lb:Array Value} (k:a.eval g=.func (.func gf) #[] lb) (i:F.fn gf) (l:∀ args w,(callFunc gf args).run P w=.ok (.enter gf args) w)
 (encs:α->Array Value) (j:∀ x,(encs x).size=d.size) (L:List α) (I:List α->World->Prop)
 (h0:∀ r:Loop,I [] ((w.alloc (.deferred (some []))).alloc (.loop r)))
 (hI:∀ pre W (r:Loop),I pre W->I pre (W.putObj (w.heap.size + 1) (.loop r))) (OD:∀ pre W W',I pre W->Old W W'->I pre W')
 (hseq:∀ (J:List α->World->Prop) (W:World),(∀ pre W,J pre W->I pre W)->(∀ pre W W',J pre W->Old W W'->J pre W')->J [] W->
  (∀ pre x W,J pre W->pre ++ [x] <+: L->YieldAt F (n - 1 - 1) P (w.heap.size + 1) (encs x) W fun e W'=>e=.returned (.bool true)/\J (pre ++ [x]) W')->
  CallsIn F (n - 1) P gf (#[.func (.yield (w.heap.size + 1)) #[] #[]] ++ lb) W fun e W'=>(∃ v,e=.returned v)/\J L W')
 (oI:∀ (pre:List α) (x:α) (W:World),I pre W->pre ++ [x] <+: L->W.heap[w.heap.size]?=some (.deferred (some []))->(∃ r,W.heap[w.heap.size + 1]?=some (.loop r))->
  assign.wpIn (F.inRound (w.heap.size + 1)) (n - 1 - 1) P (Exit.then (K7 F (n - 1 - 1) P body w.heap.size I (pre ++ [x]) W) (fun _ _ _=>False)) { tmps:=(d.zip (encs x)).foldl (fun t (p,v)=>t.setIfInBounds p v) a.tmps,defers:=[] } W)
 (hdone:∀ W:World,I L W->W.heap[w.heap.size]?=some (.deferred (some []))->Q .normal { a with defers:={ target:=.collected w.heap.size,args:=#[] } :: a.defers } W) :
 (Code.rangeFunc g d assign body).wpIn F n P Q a w:=
 zD f h k i l encs j (fun pre x _=>pre ++ [x] <+: L) (fun m=>m=L) I h0 hI OD (fun J W h s u h4=>(hseq J W h s u h4).mono fun _ _ ⟨y,z⟩=>⟨y,L,rfl,z⟩) oI (fun _ W e A hd=>hdone W (e▸A) hd)
section
variable {w:World} {own:Nat->Tag} {c i W g k:Nat} {u:bV} {s:NS}
theorem Wz (N:aN w own c i W g u s) (ok:aF s i (k + 1)) (m:aO) (M:Array Value) (hM:fe w own m M) (L:Qx m) (z:s.known.nodes.contains (i:Int)=true) (O:s.left i=false) (G:s.n.grants.uE s.now i=true) :
 aS 123 #[g,zi i,.agg M] w (fO w own c i W g u (s.kG i m)):=by
 obtain ⟨ke,kn,hk⟩:∃ ke kn,s.known=⟨ke,kn⟩:=⟨_,_,rfl⟩
 obtain ⟨mk,hm⟩:=aR (kn.length)
 have FO:mk<=5:=Di
 obtain ⟨now,l⟩:=aR (s.now)
 obtain ⟨mid,r⟩:=aR (m.id)
 obtain ⟨j,y⟩:=aR (m.asked)
 obtain ⟨H,P,dB,hbt⟩:=N.box (.cells M 110)
 have R:=Bk.new w 110 M
 obtain ⟨w1,S⟩:∃ w1,w1=w.alloc (.cells M 110):=⟨_,rfl⟩
 rw [<- S] at P dB R
 obtain ⟨p,hp⟩:=P.ex
 have H3:=aa (show aV w1 (fun k=>H k=bM c i 3) (fun k=>H k=aB) W g p s.n from aV.ub (hp.at_ 3))
 have HP:=aa hp
 have HS:=aa N.self
 have MP:=aa P
 have Ua:=aa dB
 have HXB:=aa R
 have MC:=aa hbt
 have Y6:=aa (show M[6]?=some (zi mid) by rw [<- r];exact hM.at_.2.2.2.2.2.1)
 have HM7:=aa (show M[7]?=some (zi j) by rw [<- y];exact hM.at_.2.2.2.2.2.2.1)
 have Zn:=aa (show (0<=mid/\mid<=1099511627776)/\0<=j/\j<=1099511627776 from ⟨r▸L.id,y▸L.asked⟩)
 have HGN:=aa (show s.n.grants.n<=5 by rw [ok.gr];exact ok.conf.n5)
 have Zr:=aa (show 0<=now/\now<=1099511627876 by have:=ok.now;omega)
 have aaG:=aa (show aF (s.aZ fun n=>{ n with grants:=s.n.grants.give now (i:Int) }) i (k + 1) from ⟨ok.conf,ok.now,ok.acc,ok.log,ok.join,ok.disk,ok.junk,ok.hold,by show (s.n.grants.give now (i:Int)).n=s.conf.nodes;unfold Ag.give;split <;> exact ok.gr,ok.wa,ok.hd,ok.rf,ok.seen,ok.p,ok.bO,ok.aA,ok.last,ok.well⟩)
 have cK:=aa (fun W' (hW:Old w1 W')=>zu (P.old hW) (base:=w1.heap.size) hW.size hk hm FO)
 have cN:=aa (fun W' (hW:Old w1 W')=>l▸Cx (P.old hW))
 have T:kn.contains (i:Int)=true:=by rw [hk] at z;exact z
 have U:s.n.grants.uE now (i:Int)=true:=by rw [<- l];exact G
 have hi5:=N.i5
 have cH:=aa (fun W' A q (h:aP W' A kn)=>NL ke A mk q kn (i:Int) true hm.symm af T W' h)
 have HGB:=aa U
 have HE:=aa (show s.kG i m=(s.aZ fun n=>{ n with grants:=s.n.grants.give now (i:Int) }).bJ.lI i { aO.zero with kind:=4,id:=mid,asked:=j } by
  unfold NS.kG
  rw [show s.known.has (i:Int)=true by rw [<- T,hk];rfl,l,U,r,y,O,show ((i:Nat):Int)=s.n.self from N.self.symm]
  exact (if_pos rfl).trans (if_pos rfl))
 have cL:=aa (fun W' (hW:Old w1 W')=>V4 (P.old hW) ok i (by have:=ok.conf.n5;have:=ok.conf.iN;omega) false O)
 have NT:=aa ok
 clear N ok hM L l r y P dB R hbt hp hk hm FO T U z G O hi5
 go_enter func123,ntmps123
 go_wp2_with fail
 rw [<- S]
 clear S
 refine kI Old 18 w1 [.val g,.rel (rq w1.heap.size ke mk (kn.map (Value.int .i64))),.val (zi (i:Nat)),.val (.bool true),.val (.bool true),.val g,.val (zi (i:Nat)),.val (.bool false),.val (.bool true),.val (.bool true),.val (.bool true),.val g,.val g,.val (av g 12),.val p.gr,.val g,.val (zi now),.val (zi (i:Nat))] ((Old.refl' _).drew') ?st ?en
 case st=>
  refine .cons (sp [] [(0,g)] ?_)<|.cons (sc 56 func56 [(0,6)] [] _ ?c1)<|.cons (sp [] [(1,zi (i:Nat))] ?_)<|.cons (sc 57 func57 [(1,7),(2,8)] [] _ ?c3)<|.cons (sp [(3,9)] [] ?_)<|.cons (fC 4 10 true [] [(0,g)] ?_)<|.cons (fC 4 10 true [] [(1,zi (i:Nat))] ?_)<|.cons (IU 4 10 true 183 func183 [(5,11),(6,12)] [] _ ?c7)<|.cons (fC 4 10 true [(7,13)] [] ?_)<|.cons (sp [(4,10),(8,14)] [] ?_)<|.cons (sp [(9,15)] [] ?_)<|.cons (fC 10 16 true [] [(0,g)] ?_)<|.cons (fC 10 16 true [(11,17)] [] ?_)<|.cons (fC 10 16 true [(12,18)] [] ?_)<|.cons (fC 10 16 true [(13,19)] [] ?_)<|.cons (fC 10 16 true [] [(0,g)] ?_)<|.cons (IU 10 16 true 92 func92 [(15,21)] [] _ ?c16)<|.cons (fC 10 16 true [] [(1,zi (i:Nat))] ?_)<|.nil
  case c1=>
   intro E w' I hc
   rintro e6
   exact ⟨_,jQ,cK.o w' I⟩
  case c3=>
   intro E w' I hc
   rintro _ ⟨A1,q1,rfl,V⟩ e7 e8
   exact ⟨_,jQ,.of (cH.o w' A1 q1 (ah.bA V)) fun e J h=>⟨_,h.1,rfl,h.2⟩⟩
  case c7=>
   intro E w' I hc
   rintro e11 e12
   exact ⟨_,jQ,.of (cL.o w' I) fun e J h=>⟨_,h.1,rfl,h.2⟩⟩
  case c16=>
   intro E w' I hc
   rintro e21
   exact ⟨_,jQ,.of (cN.o w' I) fun e J h=>⟨_,h.1,rfl,h.2⟩⟩
  all_goals
   intro E w' I hc hf
   obtain ⟨u0,u1,u2,u3,u4,u5,u6,u8,u9,dF,dD,dK,eu,aX,ug⟩:=(H3.o.old I).c HS.o
   clear u0 u1 u2 u3 u4 u5 u6 u8 u9 dF dD eu aX
   repeat intro _
   exact ⟨_,dP,rfl⟩
 case en=>
  intro jA w9 B
  generalize hLD:List.drop 18 _=LD
  iterate 1 refine Ends.eqv _ _ rfl (fun _ h=>h) ?_
  refine Ends.ex _ rfl ?_
  rintro _ _ ⟨A1,q1,rfl,V⟩
  iterate 16 refine Ends.eqv _ _ rfl (fun _ h=>h) ?_
  refine Ends.nil ?_
  simp only [MH,Ja] at hLD
  subst hLD
  simp only [aC,ax,fM,fJ]
  have X:=HP.o.old B
  have n9:=MP.o.old B
  have h9:=(X.at_ 9).1
  have cG:=aa (Sj p.gr s.n.grants _ now i true HGN.o Zr.o HGB.o rfl w9 h9)
  have HT:=aa (fun W2 hA hF=>aN.Ep (x:=s.n.grants.give now i) X n9 (w1:=W2) hA hF)
  have Wn:=aa (Ua.o.old B)
  have aaH:=aa (MP.o.qQ B)
  clear X n9 h9 V B
  go_wp2_with fail
  refine cG.o.mono ?_
  rintro e J ⟨rfl,hA,hF⟩
  obtain ⟨C,n2,d2⟩:=HT.o J hA hF
  have N2:=aa n2
  have D2:=aa (Wn.o.trans d2)
  have D2b:=aa (aaH.o.trans d2)
  clear n2 d2 hA hF cG HT
  obtain ⟨s2,D⟩:=aR ((s.aZ fun n=>{ n with grants:=s.n.grants.give now i }))
  obtain ⟨F,Y⟩:∃ F:aO,({ aO.zero with kind:=4,id:=mid,asked:=j }:aO)=F:=⟨_,rfl⟩
  have HR2:=aa (show s.kG i m=s2.bJ.lI i F by rw [HE.o];cases D;cases Y;rfl)
  have d:=aa (show aF s2 i (k + 1) from D▸aaG.o)
  have HS2:=aa (show s2.n.self=i from D▸HS.o)
  have N22:=aa (show aN J C c i W g u s2 from D▸N2.o)
  have f:=aa Y
  have Z:=aa (D2b.o.keep HXB.o (.inr MC.o))
  have x6:=Z.o.cell 6
  rw [Y6.o] at x6
  have x7:=Z.o.cell 7
  rw [HM7.o] at x7
  have xl:=Z.o.lt
  obtain ⟨M2,hM2⟩:=aR (iX 4 F aQ aQ aQ aQ aQ)
  have HM2:=aa (show prog.built 110 [(0,zi 4),(5,zi mid),(6,zi j)]=some M2 from by rw [<- hM2,<- f.o];kernel_rfl)
  have hT:fe J C F M2:=⟨_,_,_,_,_,by rw [<- hM2,<- f.o],by rw [<- f.o];exact qN.nil _ _,by rw [<- f.o];exact qN.nil _ _,by rw [<- f.o];exact qN.nil _ _,by rw [<- f.o];exact FR.nil _ _,by rw [<- f.o];exact uj.nil _ _⟩
  have WA:=aa (show aS 134 #[g,zi (i:Nat),.agg M2] J (fO J C c i W g u (s.kG i m)) by
   rw [HR2.o]
   have hrd:Qx F:=by
    rw [<- f.o]
    exact ⟨⟨nP.n,nP.c,nP.j⟩,nP.known,nP.chain,nP.b,nP.p,nP.a,nP.vc,nP.l,Zn.o.1,Zn.o.2⟩
   have e4:F.kind=4:=by rw [<- f.o]
   refine xz N22.o d.o F M2 hT _ fun W' M' hN hM'=>?_
   exact Wp hN d.o { F with known:=s2.known } M' hM' (hrd.wk d.o.acc.len) i s2.bJ _ (NS.xA HS2.o (by have:=d.o.conf.iN;omega) rfl) d.o.bJ (by have:=d.o.conf.iN;omega) rfl (.inr ⟨e4,rfl⟩))
  clear hM2 hT D Y
  go_upto_region 2 with fail
  apply wp_region_lit
  refine Go.Great.wpList_readTo rfl _ rfl (av g 0) ay ?_
  refine Go.Great.wpList_readTo rfl _ rfl (zi (i:Nat)) ay ?_
  refine Go.Great.wpList_readTo rfl _ rfl (av w.heap.size 6) dP ?_
  refine Go.Great.wpList_readTo rfl _ rfl (zi mid) dP ?_
  refine Go.Great.wpList_readTo rfl _ rfl (av w.heap.size 7) dP ?_
  refine Go.Great.wpList_readTo rfl _ rfl (zi j) dP ?_
  refine Go.wpList_buildTo rfl 110 _ rfl _ rfl M2 ((congrArg (prog.built 110) (show _=[(0,zi 4),(5,zi mid),(6,zi j)] by kernel_rfl)).trans HM2.o) ?_
  simp only [aC,ax,fM,fJ]
  go_wp2_with fail
  refine WA.o.mono ?_
  rintro e w5 ⟨rfl,Er,n5,d5⟩
  have HZ:=aa (⟨Er,n5,D2.o.trans d5⟩:∃ K,aN w5 K c i W g u (s.kG i m)/\fT w own c i w5 K)
  clear n5 d5
  go_wp2_with fail
  go_end0
  exact ⟨rfl,HZ.o⟩
end
def SH (x:Int×Int):Value×Value:=(zi x.1,zi x.2)
theorem sV (L:List (Int×Int)):(L.map fun x=>((zi x.1,zi x.2):Value×Value))=L.map SH:=rfl
theorem QA {L:List (Int×Int)} {x:Int} (h:∀ b,(x,b)∉L):∀ p∈L.map SH,p.1≠(zi x:Value):=fun p f e=>by
 obtain ⟨y,hy,rfl⟩:=List.mem_map.1 f
 have d:y.1=x:=by simpa [SH] using e
 exact h y.2 (by rw [<- d];exact hy)
theorem QB {e f:List (Int×Int)} {x v:Int} (h:(((e ++ (x,v) :: f).map SH).map (·.1)).Nodup):(∀ b,(x,b)∉e)/\∀ b,(x,b)∉f:=by
 simp only [BH,BB] at h
 rw [List.nodup_append] at h
 obtain ⟨-,j,l⟩:=h
 constructor
 ·intro b d
  exact l (zi x) (List.mem_map.2 ⟨SH (x,b),List.mem_map.2 ⟨_,d,rfl⟩,rfl⟩) (zi x) (by simp [SH]) rfl
 ·intro b d
  have:=(List.nodup_cons.1 j).1
  exact this (List.mem_map.2 ⟨SH (x,b),List.mem_map.2 ⟨_,d,rfl⟩,rfl⟩)
theorem mq.put {w:World} {F:Nat->Prop} {g:Nat} {f:Int->Option Int} (h:mq w F g f) (x a:Int) (B:-1099511627776<=x/\x<=1099511627776) :
 ∃ w',(Instr.mapUpdate 102 (.map (some g)) (zi x) (zi a)).run prog w=.ok () w'/\mq w' F g (fun y=>if y=x then some a else f y)/\Fr (fun k=>k=g) w w':=by
 obtain ⟨L,j,p⟩:=h.ex
 rw [sV] at j
 cases e:f x with
 | none=>
  have l:∀ b,(x,b)∉L:=fun b d=>by have:=(p x b).2 d;rw [e] at this;cases this
  obtain ⟨w',r,z,m⟩:=j.Ro uk underlying102 (e:=3) (v:=zi a) (Ij x B) (QA l)
  refine ⟨w',r,⟨⟨L ++ [(x,a)],by rw [sV,BH];exact z,fun y b=>?_⟩,h.gF,fun k A=>iD (h.lt k A) m.size⟩,m⟩
  show (if y=x then some a else f y)=some b↔_
  rw [MY,Vd]
  by_cases hy:y=x
  ·subst hy
   rw [if_pos rfl]
   constructor
   ·intro d;cases d;exact .inr rfl
   ·rintro (d | d)
    ·exact absurd d (l b)
    ·cases d;rfl
  ·rw [if_neg hy,p]
   constructor
   ·exact .inl
   ·rintro (d | d)
    ·exact d
    ·cases d;exact absurd rfl hy
 | some v0=>
  obtain ⟨C,D,rfl⟩:=List.append_of_mem ((p x v0).1 e)
  have n:=QB j.nodup
  rw [BH,BB] at j
  obtain ⟨w',r,z,m⟩:=fP.Fb (key:=zi x) (v0:=zi v0) j uk underlying102 (e:=3) (v:=zi a) (Ij x B)
  refine ⟨w',r,⟨⟨C ++ (x,a) :: D,by rw [sV,BH,BB];exact z,fun y b=>?_⟩,h.gF,fun k A=>iD (h.lt k A) m.size⟩,m⟩
  show (if y=x then some a else f y)=some b↔_
  simp only [MY,tF]
  by_cases hy:y=x
  ·subst hy
   rw [if_pos rfl]
   constructor
   ·intro d;cases d;exact .inr (.inl rfl)
   ·rintro (d | d | d)
    ·exact absurd d (n.1 b)
    ·cases d;rfl
    ·exact absurd d (n.2 b)
  ·rw [if_neg hy,p]
   simp only [MY,tF]
   constructor
   ·rintro (d | d | d)
    ·exact .inl d
    ·cases d;exact absurd rfl hy
    ·exact .inr (.inr d)
   ·rintro (d | d | d)
    ·exact .inl d
    ·cases d;exact absurd rfl hy
    ·exact .inr (.inr d)
theorem mq.del {w:World} {F:Nat->Prop} {g:Nat} {f:Int->Option Int} (h:mq w F g f) (x:Int) (B:-1099511627776<=x/\x<=1099511627776) (ty:TypeId) :
 ∃ w',(Builtin.delete_ #[102,3] ty #[.map (some g),zi x]).run prog w=.ok (.tuple #[]) w'/\mq w' F g (fun y=>if y=x then none else f y)/\Fr (fun k=>k=g) w w':=by
 obtain ⟨L,j,p⟩:=h.ex
 rw [sV] at j
 cases e:f x with
 | none=>
  have l:∀ b,(x,b)∉L:=fun b d=>by have:=(p x b).2 d;rw [e] at this;cases this
  obtain ⟨w',r,z,m⟩:=j.Rp uk underlying102 (e:=3) (Ij x B) (QA l) ty
  refine ⟨w',r,⟨⟨L,z,fun y b=>?_⟩,h.gF,fun k A=>iD (h.lt k A) m.size⟩,m⟩
  show (if y=x then none else f y)=some b↔_
  by_cases hy:y=x
  ·subst hy
   rw [if_pos rfl]
   exact ⟨(fun d=>by cases d),fun d=>absurd d (l b)⟩
  ·rw [if_neg hy,p]
 | some v0=>
  obtain ⟨C,D,rfl⟩:=List.append_of_mem ((p x v0).1 e)
  have n:=QB j.nodup
  rw [BH,BB] at j
  obtain ⟨w',r,z,m⟩:=fP.M6 (key:=zi x) (v0:=zi v0) j uk underlying102 (e:=3) (Ij x B) ty
  refine ⟨w',r,⟨⟨C ++ D,by rw [sV,BH];exact z,fun y b=>?_⟩,h.gF,fun k A=>iD (h.lt k A) m.size⟩,m⟩
  show (if y=x then none else f y)=some b↔_
  simp only [MY]
  by_cases hy:y=x
  ·subst hy
   rw [if_pos rfl]
   exact ⟨(fun d=>by cases d),fun d=>d.elim (fun d=>absurd d (n.1 b)) (fun d=>absurd d (n.2 b))⟩
  ·rw [if_neg hy,p]
   simp only [MY,tF]
   constructor
   ·rintro (d | d | d)
    ·exact .inl d
    ·cases d;exact absurd rfl hy
    ·exact .inr d
   ·rintro (d | d)
    ·exact .inl d
    ·exact .inr (.inr d)
theorem OE (x a:Int):prog.built 110 [(0,zi 3),(5,zi x),(6,zi a)]=some (iX 3 { aO.zero with kind:=3,id:=x,asked:=a } aQ aQ aQ aQ aQ):=ay
theorem Ew {P:Program} {w w':World} {ops:Array Oper} {rest:List Oper} {o:Oper} {a:Act} {Q:Exit->Act->World->Prop} (h:o.guard=none) (m x:Operand) (t k:TypeId) (e:o.op=Op.call { callee:=Callee.builtin Builtin.delete,args:=#[m,x],argTypes:=#[t,k] }) (M X:Value)
 (j:a.eval m=M) (l:a.eval x=X) (d:(Builtin.delete_ #[t,k] o.type #[M,X]).run P w=.ok (.tuple #[]) w') (n:wpList P ops Q rest (a.put o.dst (.tuple #[])) w'):wpList P ops Q (o :: rest) a w:=by
 refine wpList_plain h fun K' f=>?_
 unfold Oper.wp
 simp [execOp,e,resolve,invoke,builtin,j,l,d,Result.andThen]
 exact f _ _ n
section
variable {w:World} {own:Nat->Tag} {c i W g k:Nat} {u:bV} {s:NS}
theorem aN.qE (h:aN w own c i W g u s) {b:Nat} (f:own b=bS) (o:Obj):aN (w.putObj b o) own c i W g u s:=by
 obtain ⟨p,j⟩:=h.ex
 refine ⟨⟨p,⟨fun q=>(oO u W g p s q).fr (S:=fun k=>k=b) (j.at_ q) (Fr.gU (grownBy_putObj' w b o) (fun k _ e=>by cases e;rfl)) fun k d e=>?_,fun k d=>j.top k (by simpa using d)⟩⟩,h.dQ,h.self,h.i5⟩
 subst e
 rcases d with d | d
 ·have e:=d.symm.trans f
  unfold bM bS at e
  split at e
  ·simp at e
  ·split at e <;> simp at e
 ·exact absurd (d.1.symm.trans f) aW
theorem fT.qE {w0:World} {d:Nat->Tag} (h:fT w0 d c i w own) {b:Nat} (f:w0.heap.size<=b) (o:Obj):fT w0 d c i (w.putObj b o) own:=
 ⟨h.ext,h.fr.trans' (T:=fun k=>k=b) (Fr.gU (grownBy_putObj' w b o) (fun k _ e=>by cases e;rfl)) (fun k j e=>by subst e;omega),h.new⟩
theorem fT.um {w0:World} {d:Nat->Tag} (h:fT w0 d c i w own) {b:Nat} {o:Obj} (e:w0.heap[b]?=some o) (j:d b=bS):w.heap[b]?=some o:=
 (h.fr.block b (Array.getElem?_eq_some_iff.1 e).1 (fun f=>by simp only [j] at f;exact absurd f.1 (by simp [bS]))).trans e
theorem K8 (J:s.conf.nodes=1) (r:s.known.nodes.contains (i:Int)=true) (y:s.left i=false) (z:s.n.grants.uE s.now i=true) (N:aN w own c i W g u s) (ok:aF s i (k + 6)) (x a:Int) (K:0<=x/\x<=1000000000000) (L:0<=a/\a<=1000000000000) (M:Array Value) (D:fe w own { aO.zero with kind:=3,id:=x,asked:=a } M) :
 aS 136 #[g,.agg M] w (fO w own c i W g u ((s.others { aO.zero with kind:=3,id:=x,asked:=a }).bJ.kG i { aO.zero with kind:=3,id:=x,asked:=a })):=by
 obtain ⟨d,e⟩:∃ d:aO,({ aO.zero with kind:=3,id:=x,asked:=a }:aO)=d:=⟨_,rfl⟩
 have O:d.kind=3:=by rw [<- e]
 have m:Qx d:=by
  rw [<- e]
  exact ⟨⟨nP.n,nP.c,nP.j⟩,nP.known,nP.chain,nP.b,nP.p,nP.a,nP.vc,nP.l,⟨K.1,by show x<=_;omega⟩,⟨L.1,by show a<=_;omega⟩⟩
 obtain ⟨S,p⟩:=aR (s.others d)
 obtain ⟨b',f,P⟩:=s.zz d
 rw [p] at f
 have E:S.known=s.known:=by rw [f];rfl
 have h:S.n.self=i:=by rw [f];exact N.self
 have n:S.conf=s.conf:=by rw [f]
 have l:aF S i (k + 5):=p▸(ok.mono af:aF s i (k + 5 + 1)).others d
 rw [e,p]
 rw [e] at D
 refine Wl N (ok.mono af:aF s i (0 + 2)) d M D _ (fun _ _ j T R=>by have:=ok.conf.iN;omega) fun W' F G H A=>?_
 rw [p] at H
 refine Wp H l { d with known:=s.known } G A (m.wk ok.acc.len) i S.bJ _ (NS.xA h (by have:=ok.conf.iN;rw [n];omega) (by rw [E])) l.bJ (by have:=ok.conf.iN;rw [n];omega) (by rw [E]) (.inl ⟨O,fun U I B C=>?_⟩)
 exact Wz B ((l.mono af:aF S i (0 + 1)).bJ) { d with known:=s.known } G C (m.wk ok.acc.len) (by rw [f];exact r) (by rw [f];exact y) (by rw [f];exact z)
theorem aaI (g:Nat) (w:World):aS 133 #[g] w fun e w'=>e=.returned (.func (.func 198) #[] #[w.heap.size])/\w'=w.alloc (.cells #[g] 94):=by
 go_enter func133,ntmps133
 go_wp2_with fail
 go_ret
 exact ⟨rfl,rfl⟩
end
section
variable {P:Program} {Q:Exit->Act->World->Prop} {l:List Oper} {a a0:Act} {W0:World} {D:Nat->Prop} {c k:Nat} {Qc:World->World->Prop} {Rs:List RR} {o:Oper}
def OG (l:List Oper) (c k:Nat):Bool:=match l[c]? with
 | some oc=>oc.after.toList.any fun e=>Region.binds .any e && decide (e.on=k)
 | none=>false
theorem CR {σ:Nat->Option Value} (h:OG l c k=true) (m:σ k=none) (d:∀ j i,l[j]?=some i->(σ j).isSome=true->∀ e∈i.after,Region.binds .any e=true->(σ e.on).isSome=true):σ c=none:=by
 unfold OG at h
 split at h
 ·rename_i n f
  obtain ⟨e,p,g⟩:=List.any_eq_true.1 h
  simp only [kE,rJ] at g
  cases hc:σ c with
  | none=>rfl
  | some v=>
   have:=d c n f (by rw [hc];rfl) e (Array.mem_toList_iff.1 p) g.1
   rw [g.2,m] at this
   cases this
 ·cases h
theorem BC.WC {σ:Nat->Option Value} {w:World} (h:BC W0 c Qc σ w) (d:σ c=none):Old W0 w:=by
 unfold BC at h
 rw [d] at h
 exact h
theorem ve (F:∀ x y,Qc x y->Fr D x y) (deps:List (Nat×Tmp)) (outs:List (Tmp×Value))
 (h:∀ (E:Operand->Value) (w:World),Old W0 w->(∀ v,E (.const v)=v)->(∀ f,E (.func f)=.func (.func f) #[] #[])->Gv Rs w E (aU E (∃ v,(execOp E o).run P w=.ok (.value v) w/\bQ Rs k v w) outs) deps)
 (e:k≠c:=by decide) (n:OG l c k=true:=by kernel_rfl) (r:o.guard=none:=by rfl) (s:l[k]?=some o:=by rfl) (hd:dw l o a0.tmps.size deps=true:=by kernel_rfl) (u:gN l k outs=true:=by kernel_rfl)
 (z:(outs.map fun p=>a0.tmps[p.1]?)=(outs.map fun p=>some p.2):=by rfl):T9 D c Qc P Q l a0 Rs W0 k o:=by
 intro σ a w j g m A i d
 obtain ⟨v,B,C⟩:=gp j d i u z (fE (deps:=deps) g A hd (gq (h a.eval w (m.WC (CR n j d)) (fun _=>rfl) (fun _=>rfl))))
 exact eT (by simpa using s) r (jC v B ⟨v,rfl,C,Fr.refl D w,m.step e (Old.refl' w)⟩)
theorem SI (O:∀ x y,Qc x y->Fr D x y) (f:FuncId) {fn:Func} (C:P.funcs[f]?=some fn) (deps:List (Nat×Tmp)) (outs:List (Tmp×Value)) (xs:List Operand) {g:Array TypeId}
 (h:∀ (E:Operand->Value) (w:World),Old W0 w->(∀ v,E (.const v)=v)->Gv Rs w E (aU E (∃ d,xs.map E=d/\jY Old P f d w (bQ Rs k)) outs) deps)
 (j:k≠c:=by decide) (F:OG l c k=true:=by kernel_rfl) (m:o.op=.call { callee:=.value (.func f),args:=xs.toArray,argTypes:=g }:=by rfl)
 (G:(fn.name == "runtime.NumGoroutine")=false:=by kernel_rfl) (n:fn.body.isNone=false:=by kernel_rfl)
 (H:o.guard=none:=by rfl) (I:l[k]?=some o:=by rfl) (hd:dw l o a0.tmps.size deps=true:=by kernel_rfl) (J:gN l k outs=true:=by kernel_rfl)
 (r:(outs.map fun p=>a0.tmps[p.1]?)=(outs.map fun p=>some p.2):=by rfl):T9 D c Qc P Q l a0 Rs W0 k o:=by
 intro σ a w z s A K u i
 obtain ⟨d,L,M⟩:=gp z i u J r (fE (deps:=deps) s K hd (gq (h a.eval w (A.WC (CR F z i)) (fun _=>rfl))))
 exact eT (by simpa using I) H (fI f fn C G n xs g m d L M (fun e w' ⟨v,r,N,B⟩=>⟨v,r,v,rfl,N,Fr.aj B,A.step j B⟩))
end
end Go.Proofs.YthihpfpbiajddaaGreat
