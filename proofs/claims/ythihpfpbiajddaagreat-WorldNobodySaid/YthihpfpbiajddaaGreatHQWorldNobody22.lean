/- Parts of the proof. -/
import Derived.Test.YthihpfpbiajddaaGreatHQWorldNobody21
set_option maxRecDepth 100000
set_option maxHeartbeats 8000000
open Go.Proofs.Tryz
namespace Go.Proofs.YthihpfpbiajddaaGreat
open Go.RowKit
def rD (m:aO):Prop:=m.bytes.length<=100000/\iq m.bytes
def Fw (n:Nat) (l:List Int):Prop:=l.length<=n/\iq l
theorem Fw.app {a b:Nat} {l r:List Int} (h:Fw a l) (k:Fw b r):Fw (a + b) (l ++ r):=⟨by rw [ja];exact Nat.add_le_add h.1 k.1,h.2.app k.2⟩
theorem Fw.mono {a b:Nat} {l:List Int} (h:Fw a l) (d:a<=b):Fw b l:=⟨ic h.1 d,h.2⟩
theorem CE:Fw 0 []:=⟨dN _,iq.nil⟩
theorem KS {v:Nat} (h:v < 2 ^ 64):Fw 10 (gB v):=⟨gI v h,kJ v⟩
theorem uM (b:Bool):Fw 1 (oU b):=⟨by simp [oU],Cm b⟩
theorem xq {b:bU} (h:jr b):Fw 20 b.bytes:=⟨bU.eG ⟨h.1.2,h.2.2⟩,bU.fB b⟩
theorem Sq (c:bC):Fw 80 (TX c):=⟨nI (bC.eG c) af,sF (bC.fB c)⟩
theorem Oo (q:aG):Fw 134 (Oc q):=⟨nI (nM q) af,sF (pV q)⟩
theorem xu:∀ (l:List Int),(∀ x∈l,mQ x)->Fw (10 * l.length) (bX l)
 | [],_=>CE
 | x :: l,h=>by
  have d:=h x bE
  have e:x.toNat < 2 ^ 64:=by unfold mQ at d;omega
  have:=(KS e).app (xu l fun y hy=>h y (by simp [hy]))
  exact this.mono (by simp only [iR];omega)
theorem En {α:Type} (f:α->List Int) (n:Nat):∀ (l:List α),(∀ x∈l,Fw n (f x))->Fw (n * l.length) (l.flatMap f)
 | [],_=>CE
 | x :: l,h=>by
  have:=(h x bE).app (En f n l fun y hy=>h y (by simp [hy]))
  rw [List.flatMap_cons]
  exact this.mono (by simp only [iR,Nat.mul_add];omega)
theorem Wi {v:Int} (h:-1099511627776<=v/\v<=1099511627776):Fw 11 (Cs v):=((uM _).app (KS af)).mono af
theorem Sr {d:ByteArray} (h:d.size<=64):Fw 74 (jD d):=by
 refine ⟨?_,zm d⟩
 unfold jD
 rw [ja]
 have e:=gI d.size af
 have f:(numsOf d).length=d.size:=numsOf_length d
 omega
theorem rD.of {m:aO} (ok:KA m) (h:m.l.length<=100) (i:m.rep.vs.length<=1000):rD m:=by
 have e:=ok.n
 have g:Fw 20000 m.body:=by
  unfold aO.body
  split
  ·exact (((xu _ (fun x d=>e x (by simp at d ⊢;rcases d with rfl | rfl | rfl <;> simp))).app (uM _)).app (uM _)).mono bE
  split
  ·refine ((xu _ (fun x d=>?_)).app (En _ 134 m.l fun x _=>Oo x)).mono EU
   simp at d
   rcases d with rfl | rfl
   ·exact e _ bE
   ·exact ⟨af,af⟩
  split
  ·exact (xu _ (fun x d=>e x (by simp at d ⊢;rcases d with rfl | rfl <;> simp))).mono bE
  split
  ·exact (xq ok.b).mono af
  split
  ·split
   ·exact ((((xq ok.b).app (xq ok.p)).app (uM _)).app ((xq ok.a).app (Sq _))).mono af
   ·exact ((((xq ok.b).app (xq ok.p)).app (uM _)).app CE).mono af
  split
  ·exact ((xq ok.b).app (Sq _)).mono af
  split
  ·exact ((Oo _).app (uM _)).mono af
  split
  ·split
   ·refine (((Oo _).app (uM _)).app (((xu _ (fun x d=>?_)).app (Sr ok.d)).app (En _ 11 m.rep.vs fun x d=>Wi (ok.vs x d)))).mono EU
    simp at d
    rcases d with rfl | rfl | rfl | rfl
    ·exact e _ bE
    ·exact e _ bE
    ·exact e _ bE
    ·exact ⟨af,af⟩
   ·exact (((Oo _).app (uM _)).app CE).mono af
  ·exact CE.mono af
 have f:=((KS (v:=m.kind.toNat) (by have:=ok.k;omega)).app (Sq m.known)).app g
 exact ⟨ic f.1 af,f.2⟩
structure FQ (r:om):Prop where
 code:mQ r.code
 fQ:mQ r.fQ
 d:r.data.size<=64
 vs:∀ v∈r.vs,-1099511627776<=v/\v<=1099511627776
 len:r.vs.length<=1000
theorem xw:FQ om.zero:=⟨⟨aW,aW⟩,⟨aW,aW⟩,aW,(fun v d=>by cases d),aW⟩
theorem vJ:ByteArray.empty.size<=64:=aW
structure Oq (vs:List iF):Prop where
 len:vs.length<=100
 d:∀ v∈vs,v.2.size<=64
theorem Oq.get {d:List iF} (h:Oq d) (k:Nat):(d[k]?.getD default).2.size<=64:=by
 cases e:d[k]? with
 | none=>exact vJ
 | some v=>exact h.d v (EY e)
theorem Ot {f:List iF} (h:f.length<=100) (k m e:Int) (g:e<=100) (d:ByteArray):(Am f k m e d).length<=100:=by
 unfold Am
 split
 ·unfold DI
  repeat' split
  all_goals (try (exact h))
  all_goals (simp only [ja,List.length_singleton];omega)
 ·exact h
theorem KT (d:Int) (g:d<=100) (f:List aG) (i:Int):((iP d f).f i).length<=100:=by
 unfold iP
 suffices h:∀ (l:List aG) (s:fG),s.aI<=100->(∀ i,(s.f i).length<=100)->∀ i,((l.foldl (fun s q=>s.put q.q) s).f i).length<=100 from h f (fG.new d) g (fun i=>by show 0<=100;omega) i
 intro l
 induction l with
 | nil=>intro s _ h i;exact h i
 | cons q l ih=>
  intro s e h i
  rw [List.foldl_cons]
  refine ih _ ?_ ?_ i
  ·unfold fG.put
   split
   ·exact e
   ·exact e
  ·intro j
   unfold fG.put
   split
   ·show (if j=q.q.id then s.Am q.q else s.f j).length<=100
    split
    ·exact Ot (h _) _ _ _ e _
    ·exact h j
   ·exact h j
theorem Ou (d:Int) (f:d<=100) (e:List aG) (i:Int):Oq ((iP d e).f i):=⟨KT d f e i,(NG d e).1.data i⟩
theorem Ss (f:List iF) (h:f.length<=100) (k m e:Int) (d:ByteArray):mQ (DI f k m e d).2.1/\mQ (DI f k m e d).2.2:=by
 unfold DI mQ
 repeat' split
 all_goals (simp only;omega)
theorem KU (d:List iF) (h:d.length<=100):∀ v∈BJ d,-1099511627776<=v/\v<=1099511627776:=by
 intro v e
 unfold BJ at e
 rw [List.mem_reverse] at e
 obtain ⟨x,f,rfl⟩:=List.mem_map.1 e
 have g:x.1<=d.length:=by
  unfold nD at f
  obtain ⟨j,i,rfl⟩:=List.mem_map.1 f
  show d.length - j<=d.length
  omega
 unfold Jk
 split
 ·rw [IntWalk.wrap64_in _ ⟨af,af⟩]
  omega
 ·omega
theorem Ov {e:List iF} (h:Oq e) (k m:Int):FQ (Nt e k m):=by
 have f:=h.len
 have num:∀ n:Nat,n<=100->mQ (n:Int):=fun n j=>⟨af,af⟩
 have d:∀ n:Int,0<=n->n<=100->mQ n:=fun n g l=>⟨g,af⟩
 unfold Nt
 repeat' split
 all_goals refine ⟨?_,?_,?_,?_,?_⟩
 all_goals simp only
 all_goals first
  | exact d _ aW aW
  | exact num _ f
  | exact vJ
  | (intro v i;cases i;done)
  | exact h.get _
  | exact KU e f
  | (rw [Ac];omega)
  | exact Nat.zero_le _
  | exact d _ af af
theorem dW.Su {l:dW} (g:l.aI<=100) (j:Nat):FQ (l.rep j):=by
 unfold dW.rep fG.rep
 split
 ·rename_i e
  unfold fG.may at e
  simp only [kE] at e
  have d:=Ou l.aI g (l.qs.take j) (l.qs[j]?.getD default).q.id
  unfold fG.iT iT
  split
  ·have f:=Ss _ d.len (l.qs[j]?.getD default).q.kind (l.qs[j]?.getD default).q.eD (iP l.aI (l.qs.take j)).aI (l.qs[j]?.getD default).q.data
   exact ⟨f.1,f.2,vJ,(fun v d=>by cases d),by show 0<=1000;omega⟩
  ·exact Ov d _ _
 ·exact xw
theorem CF {q:aG} (h:q.q.may=true):0<=q.client/\q.client<=3:=by
 unfold Q.may mX at h
 simp only [kE,rJ] at h
 exact h.1.1.1.1
theorem iB.old {w w':World} {F K:Nat->Prop} {W:Nat} {c:dZ} {u:bV} {l:List bC} (h:iB w F K W c u l) (d:Old w w'):iB w' F K W c u l:=h.fr (S:=fun _=>False) (Fr.aj d) (fun _ _ h=>h)
def fO (w:World) (own:Nat->Tag) (c i W g:Nat) (u:bV) (s':NS) (e:Ending) (w':World):Prop:=e=.returned (.tuple #[])/\∃ own',aN w' own' c i W g u s'/\fT w own c i w' own'
theorem fO.of {w w1:World} {own f:Nat->Tag} {c i W g:Nat} {u:bV} {s':NS} {e:Ending} {w':World} (d:fT w own c i w1 f) (h:fO w1 f c i W g u s' e w'):fO w own c i W g u s' e w':=
 ⟨h.1,h.2.choose,h.2.choose_spec.1,d.trans h.2.choose_spec.2⟩
def qN (w:World) (own:Nat->Tag) (V:Value) (ns:List Int):Prop:=∃ A q,V=.slice A ns.length q/\ns.length<=1000/\ns.length<=q/\aP w A ns/\(ns≠[]->∀ a,A=some a->own a.block=aB)
def FR (w:World) (own:Nat->Tag) (V:Value) (ns:List Int):Prop:=∃ A q,V=.slice A ns.length q/\ns.length<=1000/\aP w A ns/\(ns≠[]->∀ a,A=some a->own a.block=aB)
def uj (w:World) (own:Nat->Tag) (V:Value) (qs:List aG):Prop:=∃ A q,V=.slice A qs.length q/\qs.length<=1000/\qs.length<=q/\ou w A qs/\(qs≠[]->∀ a,A=some a->own a.block=aB)
theorem qj {c i:Nat} {t:Tag} (h:t=aB):¬ mine c i t:=by
 rintro ⟨d,-⟩
 rw [h] at d
 simp [aB] at d
section
variable {w w':World} {own own':Nat->Tag} {c i:Nat} {V:Value} {ns:List Int} {qs:List aG}
theorem qN.did (h:qN w own V ns) (d:fT w own c i w' own'):qN w' own' V ns:=by
 obtain ⟨A,q,e,m,n,l,h4⟩:=h
 refine ⟨A,q,e,m,n,l.fr d.fr (fun f a e=>qj (h4 (by rintro rfl;exact f rfl) a e)),fun f a e=>?_⟩
 obtain ⟨b,o,j,p,-⟩:=l (by simpa using f)
 rw [e] at j;injection j with j;subst j
 exact (d.ext _ p).trans (h4 f _ e)
theorem qN.old (h:qN w own V ns) (o:Old w w'):qN w' own V ns:=by
 obtain ⟨A,q,e,d,f,j,h4⟩:=h
 exact ⟨A,q,e,d,f,j.old o,h4⟩
theorem qN.sl (h:qN w own V ns):SlI w V ns:=by
 obtain ⟨A,q,e,d,f,j,h4⟩:=h
 exact ⟨A,q,e,d,f,j⟩
theorem FR.did (h:FR w own V ns) (d:fT w own c i w' own'):FR w' own' V ns:=by
 obtain ⟨A,q,e,m,l,h4⟩:=h
 refine ⟨A,q,e,m,l.fr d.fr (fun f a e=>qj (h4 (by rintro rfl;exact f rfl) a e)),fun f a e=>?_⟩
 obtain ⟨b,o,j,n,-⟩:=l (by simpa using f)
 rw [e] at j;injection j with j;subst j
 exact (d.ext _ n).trans (h4 f _ e)
theorem FR.old (h:FR w own V ns) (o:Old w w'):FR w' own V ns:=by
 obtain ⟨A,q,e,d,f,h4⟩:=h
 exact ⟨A,q,e,d,f.old o,h4⟩
theorem FR.sl (h:FR w own V ns):SlJ w V ns:=by
 obtain ⟨A,q,e,d,f,h4⟩:=h
 exact ⟨A,q,e,d,f⟩
theorem FR.nil (w:World) (own:Nat->Tag):FR w own aQ []:=⟨none,0,rfl,Nat.zero_le _,ah.nil _ _,fun h=>absurd rfl h⟩
theorem uj.did (h:uj w own V qs) (d:fT w own c i w' own'):uj w' own' V qs:=by
 obtain ⟨A,q,e,p,r,n,h4⟩:=h
 have m:qs.flatMap aG.cells≠[]->qs≠[]:=fun f e=>f (by rw [e];rfl)
 refine ⟨A,q,e,p,r,ah.fr n d.fr (fun f a e=>qj (h4 (m f) a e)),fun f a e=>?_⟩
 have y:qs.flatMap aG.cells≠[]:=by
  obtain ⟨x,l,rfl⟩:=List.exists_cons_of_ne_nil f
  simp [aG.cells]
 obtain ⟨b,o,j,z,-⟩:=n y
 rw [e] at j;injection j with j;subst j
 exact (d.ext _ z).trans (h4 f _ e)
theorem uj.old (h:uj w own V qs) (o:Old w w'):uj w' own V qs:=by
 obtain ⟨A,q,e,d,f,j,h4⟩:=h
 exact ⟨A,q,e,d,f,ah.old j o,h4⟩
theorem qN.nil (w:World) (own:Nat->Tag):qN w own aQ []:=⟨none,0,rfl,Nat.zero_le _,dN _,ah.nil _ _,fun h=>absurd rfl h⟩
theorem uj.nil (w:World) (own:Nat->Tag):uj w own aQ []:=⟨none,0,rfl,Nat.zero_le _,dN _,ah.nil _ _,fun h=>absurd rfl h⟩
theorem qN.new {base:Nat} {e:TypeId} {A:Option Addr} {n q:Nat} (d:n=ns.length) (f:n<=1000) (h:w.ownsRow base e 1 (.slice A n q) n (ns.map (Value.int .i64))) (j:∀ k,base<=k->own k=aB):qN w own (.slice A n q) ns:=by
 subst d
 obtain ⟨_,_,l,m,h4⟩:=bI h
 cases l
 exact ⟨A,q,rfl,f,m,ah.bA h,fun _ a e=>j _ (h4 a e).1⟩
structure fe (w:World) (own:Nat->Tag) (m:aO) (M:Array Value):Prop where
 ex:∃ K V C R L,M=iX m.kind m K V C R L/\qN w own K m.known.nodes/\qN w own V m.bN.chain.nodes/\qN w own C m.chain.nodes/\FR w own R m.rep.vs/\uj w own L m.l
theorem fe.did {m:aO} {M:Array Value} (h:fe w own m M) (d:fT w own c i w' own'):fe w' own' m M:=by
 obtain ⟨K,V,C,R,L,e,f,j,h4,h5,h6⟩:=h.ex
 exact ⟨K,V,C,R,L,e,f.did d,j.did d,h4.did d,h5.did d,h6.did d⟩
theorem fe.old {m:aO} {M:Array Value} (h:fe w own m M) (d:Old w w'):fe w' own m M:=by
 obtain ⟨K,V,C,R,L,e,f,j,h4,h5,h6⟩:=h.ex
 exact ⟨K,V,C,R,L,e,f.old d,j.old d,h4.old d,h5.old d,h6.old d⟩
theorem fe.size {m:aO} {M:Array Value} (h:fe w own m M):M.size=34:=by
 obtain ⟨K,V,C,R,L,rfl,-⟩:=h.ex
 rfl
theorem fe.known {m:aO} {M:Array Value} (h:fe w own m M) {V:Value} {ch:bC} (d:qN w own V ch.nodes):fe w own { m with known:=ch } ((M.setIfInBounds 1 (zi ch.az)).setIfInBounds 2 V):=by
 obtain ⟨K,e,C,R,L,rfl,-,f,h4,h5,h6⟩:=h.ex
 exact ⟨V,e,C,R,L,rfl,d,f,h4,h5,h6⟩
end
theorem eH {P:Program} {E:Operand->Value} {w:World} {o:Oper} (ty:TypeId) (x:Operand) (f:o.op=.load ty x) (g e:Nat) (cs:Array Value) (d:TypeDesc) (h:E x=av g e) (l:∀ (j:Nat) v,cs[j]?=some v->w.cell? ⟨g,e + j,none⟩=some v)
 (m:P.underlying ty=some d) (hd:(match d with | .struct _ | .array _ _=>true | _=>false)=true) (n:(P.info? ty).map (·.size)=some cs.size):(execOp E o).run P w=.ok (.value (.agg cs)) w:=by
 unfold execOp
 simp only [f,h,Instr.loadAt,Instr.sureAddr,Sem.run_bind,Sem.run_pure,Result.andThen_ok,iK w g e ty cs d l m hd n]
theorem xx:(prog.info? 110).map (·.size)=some 34:=ay
theorem fe.Sv {w:World} {own:Nat->Tag} {m:aO} {M:Array Value} (h:fe w own m M) (j:m.kind=9) {B:List Int} {d base:Nat} (l:m.bytes=B) (f:B.length=d) (n:base<=w.heap.size):jY Old prog 84 [.agg M] w (Jg base 5 d (eB B)):=by
 obtain ⟨K,V,C,R,L,rfl,p,H,h4,h5,h6⟩:=h.ex
 obtain ⟨r,x,rfl,y,z,D⟩:=p.sl
 rw [j]
 exact .of (MB9 m j _ _ _ _ r _ x rfl y z B d l f w D) fun e I ⟨A,q,E,F,G⟩=>⟨_,E,⟨A,q,rfl,dX F n⟩,G⟩
theorem fe.Ow {w:World} {own:Nat->Tag} {m:aO} {M:Array Value} (h:fe w own m M) (ok:KA m) (l:m.kind=10) {B:List Int} {d base:Nat} (p:m.bytes=B) (f:B.length=d) (r:base<=w.heap.size):jY Old prog 84 [.agg M] w (Jg base 5 d (eB B)):=by
 obtain ⟨K,V,C,R,L,rfl,y,S,h4,h5,h6⟩:=h.ex
 obtain ⟨z,D,rfl,E,F,G⟩:=y.sl
 obtain ⟨H,I,rfl,J,r3⟩:=h5.sl
 have j:=ok.n
 rw [l]
 exact .of (aat m l _ _ _ H _ I rfl J ok.d ok.vs z _ D rfl E F (fun x n=>by simp at n;rcases n with rfl | rfl | rfl | rfl;exact j _ (by simp);exact j _ (by simp);exact j _ (by simp);exact ⟨by omega,by omega⟩) B d p f w G r3) fun e T ⟨A,q,N,O,P⟩=>⟨_,N,⟨A,q,rfl,dX O r⟩,P⟩
section
variable {w:World} {own:Nat->Tag} {c i W g k:Nat} {u:bV} {s:NS}
theorem aN.ql {p:iC} {w1:World} {F':Nat->Prop} {b':List jy} (d:eF w own (bM c i) (oO u W g p s)) (N:aN w own c i W g u s) (e:kL w1 F' (fun k=>own k=aB) u.pb b') (f:jH w (fun k=>own k=bM c i 1) F') (h:Fr (fun k=>own k=bM c i 1) w w1) :
 ∃ own',aN w1 own' c i W g u { s with bO:=b' }/\fT w own c i w1 own':=by
 obtain ⟨own',-,l,m⟩:=aN.turn (s':={ s with bO:=b' }) p d 1 af N.i5 (fun j n=>by
  match j with
  | 0 | 2 | 3 | 4 | 5 | 6 | 7 | 8 | 9 | 10 | 11 | 12=>rfl
  | 1=>exact absurd rfl n
  | j + 13=>rfl) N.dQ N.self e f h
 exact ⟨own',l,m⟩
theorem Eo (N:aN w own c i W g u s) (ok:aF s i (k + 1)) (x:Int) (hx:x≠i) (m:aO) (M:Array Value) (hM:fe w own m M)
 (F:∀ (W':World) (M':Array Value) (base G:Nat) (B:List Int),fe W' own { m with known:=s.known } M'->({ m with known:=s.known }:aO).bytes=B->B.length=G->base<=W'.heap.size->jY Old prog 84 [.agg M'] W' (Jg base 5 G (eB B)))
 (r:rD { m with known:=s.known }) :
 aS 134 #[g,zi x,.agg M] w (fO w own c i W g u (s.way x m)):=by
 obtain ⟨p,R⟩:=N.ex
 have h3:aV w (fun k=>own k=bM c i 3) (fun k=>own k=aB) W g p s.n:=aV.ub (R.at_ 3)
 have h0:iB w (fun k=>own k=bM c i 0) (fun k=>own k=aB) W s.conf u s.aA:=R.at_ 0
 have h1:kL w (fun k=>own k=bM c i 1) (fun k=>own k=aB) u.pb s.bO:=R.at_ 1
 have H3:=aa h3
 have H0:=aa h0
 have HS:=aa N.self
 obtain ⟨ke,kn,hk⟩:∃ ke kn,s.known=⟨ke,kn⟩:=⟨_,_,rfl⟩
 obtain ⟨S,hm⟩:=aR (kn.length)
 have FO:S<=5:=Di
 rw [hk] at r F
 obtain ⟨H,C⟩:=aR (({ m with known:=⟨ke,kn⟩ }:aO).bytes)
 obtain ⟨G,I⟩:=aR (H.length)
 have T:G<=100000:=by have:=r.1;rw [C] at this;omega
 have hMs:=hM.size
 have Z:=(Old.refl' w).ag (.cells M 110)
 have cK:=aa (zu (N.old Z) (base:=(w.alloc (.cells M 110)).heap.size) (dN _) hk hm FO)
 have X0:=aa (Bk.new w 110 M)
 have HM:=aa hM
 have OB:=aa Z
 have U:=ok.bO
 have X:=aa N.top
 have cA0:=aa (fun W' (n:Old w W') A c9 (hA:ah W' A (eB H))=>Qv (fun k=>own k=bM c i 1) (fun k=>own k=aB) u.pb s.bO s.bO.length rfl af i x A G c9 H I.symm T W' (fun y hy=>N.top y (ic n.size hy)) (h1.old n) hA)
 have HW:s.way x m={ s with bO:=s.bO ++ [⟨i,x,H⟩] }:=by
  unfold NS.way
  rw [hk,C,N.self]
 rw [HW]
 have HT:=aa (fun W' (n:Old w W') W2 F' (hB:kL W2 F' (fun k=>own k=aB) u.pb (s.bO ++ [⟨i,x,H⟩])) (hG:jH W' (fun k=>own k=bM c i 1) F') (hF:Fr (fun k=>own k=bM c i 1) W' W2)=>aN.ql R N hB (fun y hy=>(hG y hy).imp id (ic n.size)) ((Fr.aj n).trans hF))
 obtain ⟨u0,u1,u2,u3,u4,u5,u6,u8,u9,dF,dD,dK,eu,aX,ug⟩:=(H3.o.old Z).c HS.o
 have hxi:(x == (i:Int))=false:=by simpa using hx
 have HK:=aa F
 have NJ:=aa C
 have HBN:=aa I
 have Ze:=aa hm
 clear u0 u2 u3 u4 u5 u6 u8 u9 dF dD dK eu aX h3 h0 h1 R N ok hk hm r C I hM Z HW U hx F
 go_enter func134,ntmps134
 go_wp2_with fail
 refine cK.o.mono ?_
 rintro e w2 ⟨_,rfl,⟨A,q,rfl,f⟩,o2⟩
 have J:=X0.o.old o2
 have hbl:w.heap.size < w2.heap.size:=J.lt
 have x1f:=J.frozen 1
 have x2f:=J.frozen 2
 have x1:=J.cell 1
 have x2:=J.cell 2
 rw [Array.getElem?_eq_getElem af] at x1 x2
 obtain ⟨l,d⟩:∃ l,l=(w2.setCell ⟨w.heap.size,1,none⟩ (zi ke)).setCell ⟨w.heap.size,2,none⟩ (.slice A S q):=⟨_,rfl⟩
 obtain ⟨D,K⟩:∃ D,D=(M.setIfInBounds 1 (zi ke)).setIfInBounds 2 (.slice A S q):=⟨_,rfl⟩
 have X2:=aa (show Bk l w.heap.size 110 D from d▸K▸(J.bH 1 _).bH 2 _)
 have o3:Old w l:=d▸((OB.o.trans' o2).aJ (p:=⟨w.heap.size,1,none⟩) (dN _) _).aJ (p:=⟨w.heap.size,2,none⟩) (dN _) _
 have hs3:l.heap.size=w2.heap.size:=by rw [d];simp [World.setCell]
 have z:l.ownsRow (w.alloc (.cells M 110)).heap.size 3 1 (.slice A S q) S (kn.map (Value.int .i64)):=d▸bz (bz f (by intro e;have h:_<=w.heap.size:=(f.lt _ e).1;simp only [jW] at h;omega) _) (by intro e;have h:_<=w.heap.size:=(f.lt _ e).1;simp only [jW] at h;omega) _
 have L:fe l own { m with known:=⟨ke,kn⟩ } D:=by
  rw [K]
  exact fe.known (HM.o.old o3) (qN.new (e:=3) Ze.o.symm af z fun y hy=>X.o y (by simp at hy;omega))
 have HM2:=aa (show D.size=34 from L.size)
 have cB:=aa (fun W' (n:Old l W')=>HK.o W' D l.heap.size G H (L.old n) NJ.o HBN.o n.size)
 have Y:=aa o3
 have cA:=aa (fun W' (n:Old l W') A c9 hA=>cA0.o W' (Y.o.trans' n) A c9 hA)
 have HT3:=aa (fun W' (n:Old l W') W2 F' hB hG hF=>HT.o W' (Y.o.trans' n) W2 F' hB hG hF)
 obtain ⟨u0,u1,u2,u3,u4,u5,u6,u8,u9,dF,dD,dK,eu,aX,ug⟩:=(H3.o.old o3).c HS.o
 rw [d] at u1 ug
 clear u0 u2 u3 u4 u5 u6 u8 u9 dF dD dK eu aX L z f o2 J o3 hs3
 go_wp2_with fail
 rw [<- d]
 clear d K
 refine kI Old 14 l [.val g,.val g,.val g,.val W,.val W,.val (av W 6),.val u.pb,.val g,.val g,.val (av g 1),.val (zi i),.val (zi x),.val (.agg D),.rel (Jg l.heap.size 5 G (eB H))] ((Old.refl' _).drew') ?st ?en
 case st=>
  refine .cons (sp [] [(0,g)] ?_)<|.cons (sp [(0,22)] [] ?_)<|.cons (sp [(1,23)] [] ?_)<|.cons (sp [(2,24)] [] ?_)<|.cons (sp [(3,25)] [] ?_)<|.cons (sp [(4,26)] [] ?_)<|.cons (sp [(5,27)] [] ?_)<|.cons (sp [] [(0,g)] ?_)<|.cons (sp [(7,29)] [] ?_)<|.cons (sp [(8,30)] [] ?_)<|.cons (sp [(9,31)] [] ?_)<|.cons (sp [] [(1,zi x)] ?_)<|.cons (sp [] [(5,w.heap.size)] ?c12)<|.cons (sc 84 func84 [(12,34)] [] _ ?c13)<|.nil
  case c12=>
   intro E w' P hc hf
   rintro e5
   exact ⟨_,eH 110 _ rfl w.heap.size 0 D _ (by assumption) (fun j v hv=>by rw [mE,(X2.o.old P).cell j];exact hv) underlying110 rfl (by rw [HM2.o];exact xx),rfl⟩
  case c13=>
   intro E w' P hc
   rintro e34
   exact ⟨_,jQ,cB.o w' P⟩
  all_goals
   intro E w' P hc hf
   obtain ⟨u0,u1,u2,u3,u4,u5,u6,u8,u9,dF,dD,dK,eu,aX,ug⟩:=(H3.o.old (Y.o.trans' P)).c HS.o
   obtain ⟨-,-,-,v6,vl⟩:=(H0.o.old (Y.o.trans' P)).cells
   repeat intro _
   exact ⟨_,dP,rfl⟩
 case en=>
  intro jA w9 O
  iterate 13 refine Ends.eqv _ _ rfl (fun _ h=>h) ?_
  refine Ends.ex _ rfl ?_
  rintro _ _ ⟨A9,c9,rfl,ho9⟩
  refine Ends.nil ?_
  simp only [aC,ax,fM,fJ]
  have cA1:=aa (cA.o w9 O A9 c9 (ah.bA ho9))
  have Zl:=aa (Y.o.trans' O)
  go_wp2_with fail
  refine cA1.o.mono ?_
  rintro e w8 ⟨rfl,⟨F',Ec,hG8⟩,Wj⟩
  obtain ⟨own',hN,hD⟩:=HT3.o w9 O w8 F' Ec hG8 Wj
  go_wp2_with fail
  go_end0
  exact ⟨rfl,own',hN,hD⟩
end
theorem KV:mQ 0:=by unfold mQ;decide
theorem mh {P:Program} {E:Operand->Value} {w:World} {o:Oper} (t:TypeId) (parts:Array (Nat×Operand)) (d:o.op=.build t parts) (cs:Array Value) (L:List (Nat×Value)) (e:(parts.map fun p=>(p.1,E p.2)).toList=L) (f:P.built t L=some cs):(execOp E o).run P w=.ok (.value (.agg cs)) w:=by
 have h:=run_build (P:=P) w t (parts.map fun p=>(p.1,E p.2)) cs (by rw [e];exact f)
 unfold execOp
 simp only [d,Sem.run_bind]
 rw [h]
 rfl
theorem Ox (g:Nat) (F:Nat->Prop) (l:dW) (n:Int) (R:om) (d:(if 1<=n/\n<=l.k then l.rep (n - 1).toNat else om.zero)=R) (f:l.qs.length<=50000) (w:World) (h:eZ w g F l) :
 aS 256 #[g,zi n] w fun e w'=>∃ A c E,e=.returned (.tuple #[.agg #[zi R.code,zi R.fQ,.string R.data,.slice A 0 c],zi E])/\Old w w':=by
 by_cases m:1<=n/\n<=l.k
 ·rw [if_pos m] at d
  obtain ⟨j,rfl⟩:∃ j:Nat,n=(j:Int) + 1:=⟨(n - 1).toNat,af⟩
  rw [show ((j:Int) + 1 - 1).toNat=j by omega] at d
  refine (Ku g F l j af R.code R.fQ R.data (by rw [d]) (by rw [d]) (by rw [d]) f w h).mono ?_
  rintro e w' ⟨A,c,p,o⟩
  exact ⟨A,c,0,p,o⟩
 ·rw [if_neg m] at d
  subst d
  refine (NZ g F l n m w h).mono ?_
  rintro e w' ⟨p,o⟩
  exact ⟨none,0,6,p,o⟩
section
variable {w:World} {own:Nat->Tag} {c i W g k:Nat} {u:bV} {s:NS}
theorem Sw {w:World} {g:Nat} {t:TypeId} {a b c d e f:Value} (h:Bk w g t #[a,b,c,d,e,f]):w.cell? ⟨g,0,none⟩=some a/\w.cell? ⟨g,1,none⟩=some b/\w.cell? ⟨g,2,none⟩=some c/\w.cell? ⟨g,3,none⟩=some d/\w.cell? ⟨g,4,none⟩=some e/\w.cell? ⟨g,5,none⟩=some f/\g < w.heap.size:=
 ⟨h.cell 0,h.cell 1,h.cell 2,h.cell 3,h.cell 4,h.cell 5,h.lt⟩
theorem aaA {w:World} {g:Nat} {t:TypeId} {a b c d:Value} (h:Bk w g t #[a,b,c,d]):w.cell? ⟨g,0,none⟩=some a/\w.cell? ⟨g,1,none⟩=some b/\w.cell? ⟨g,2,none⟩=some c/\w.cell? ⟨g,3,none⟩=some d/\g < w.heap.size:=
 ⟨h.cell 0,h.cell 1,h.cell 2,h.cell 3,h.lt⟩
theorem Sy (N:aN w own c i W g u s) (ok:aF s i (k + 1)) (q:aG) (hq:0<=q.client/\q.client<=3) (a:Int) (ha:mQ a) :
 aS 225 #[g,.agg #[zi q.client,zi q.seq,zi q.kind,zi q.id,zi q.eD,.string q.data],zi a] w (fO w own c i W g u (s.pU q a)):=by
 obtain ⟨p,hp⟩:=N.ex
 have h3:aV w (fun k=>own k=bM c i 3) (fun k=>own k=aB) W g p s.n:=aV.ub (hp.at_ 3)
 have h0:iB w (fun k=>own k=bM c i 0) (fun k=>own k=aB) W s.conf u s.aA:=hp.at_ 0
 have h6:eZ w p.lg (fun k=>own k=bM c i 6) s.n.kept.log:=hp.at_ 6
 have H3:=aa h3
 have H0:=aa h0
 have HS:=aa N.self
 obtain ⟨R,H⟩:=aR ((if 1<=a/\a<=s.n.kept.log.k then s.n.kept.log.rep (a - 1).toNat else om.zero))
 have f:FQ R:=by
  rw [<- H]
  split
  ·exact dW.Su (by rw [ok.log.q];exact ok.conf.q.2) _
  ·exact xw
 have hRv:R.vs=[]:=by
  rw [<- H]
  split
  ·exact RX
  ·rfl
 obtain ⟨n,I⟩:=aR (s.conf.nodes)
 have Ql:n<=5:=I▸ok.conf.n5
 have hi:i < n:=I▸ok.conf.iN
 obtain ⟨m,j⟩:∃ m:aO,({ aO.zero with kind:=10,q:=q,ans:=true,rep:=R,at_:=a }:aO)=m:=⟨_,rfl⟩
 have y:s.pU q a=s.way ((n:Int) + q.client) m:=by
  unfold NS.pU
  rw [H,I,j]
 have d:KA m:=by
  rw [<- j]
  refine ⟨(show (1:Int)<=10/\(10:Int)<=10 by decide),fun x hx=>?_,eY,eY,eY,f.d,f.vs⟩
  simp only [tF,yh,or_false] at hx
  rcases hx with rfl | rfl | rfl | rfl | rfl | rfl | rfl | rfl
  all_goals first
   | exact ha
   | exact f.code
   | exact f.fQ
   | exact KV
 have z:rD { m with known:=s.known }:=rD.of ⟨d.k,d.n,d.b,d.p,d.a,d.d,d.vs⟩ (by rw [<- j];show 0<=100;omega) (by rw [<- j];exact f.len)
 rw [y]
 have C:=aa (fun W' (F:Old w W') M (J:fe W' own m M)=>Eo (N.old F) ok ((n:Int) + q.client) af m M J (fun W' M' base bn B h h1 h2 h3=>fe.Ow h ⟨d.k,d.n,d.b,d.p,d.a,d.d,d.vs⟩ (by rw [<- j]) h1 h2 h3) z)
 have cR:=aa (fun W' (F:Old w W')=>Ox p.lg _ s.n.kept.log a R H (by have:=ok.log.few;omega) W' (h6.old F))
 have HCN:=aa I
 have hw1:IntKind.i64.wrap ((n:Int) + q.client)=(n:Int) + q.client:=kP _ af
 have hN0:=aa N.did
 obtain ⟨D,K,L,O,P,S⟩:=q
 obtain ⟨T,U,V,rvs⟩:=R
 obtain rfl:rvs=[]:=hRv
 simp only at hw1 C cR j ⊢
 have oB:=(Old.refl' w).ag (.cells #[zi D,zi K,zi L,zi O,zi P,.string S] 36)
 have X0:=aa (Bk.new w 36 #[zi D,zi K,zi L,zi O,zi P,.string S])
 have OB:=aa oB
 have X:=aa (cR.o _ oB)
 obtain ⟨u0,u1,u2,u3,u4,u5,u6,u8,u9,dF,dD,dK,eu,aX,ug⟩:=(H3.o.old oB).c HS.o
 have l:=aa j
 clear u0 u1 u2 u3 u4 u6 u8 u9 dF dD dK eu aX h3 h0 h6 hp N ok H f I d z y oB cR j
 go_enter func225,ntmps225
 go_wp2_with fail
 refine X.o.mono ?_
 rintro e w1 ⟨A,c1,E1,rfl,o1⟩
 obtain ⟨G,r⟩:∃ G,G=w1.alloc (.cells #[zi T,zi U,.string V,.slice A 0 c1] 49):=⟨_,rfl⟩
 have o2:Old w1 G:=r▸(Old.refl' w1).ag _
 have X1:=aa (X0.o.old (o1.trans' o2))
 have Y1:=aa (show Bk G w1.heap.size 49 #[zi T,zi U,.string V,.slice A 0 c1] from r▸Bk.new w1 49 _)
 have O2:=aa (OB.o.trans' (o1.trans' o2))
 obtain ⟨M,J⟩:=aR (iX 10 m aQ aQ aQ (.slice A 0 c1) aQ)
 have HM:=aa (show prog.built 110 [(0,zi 10),(10,.agg #[zi D,zi K,zi L,zi O,zi P,.string S]),(13,.bool true),(14,.agg #[zi T,zi U,.string V,.slice A 0 c1]),(15,zi a)]=some M from by rw [<- J,<- l.o];kernel_rfl)
 have HT:=aa (fun W'=>(show fe W' own m M from ⟨_,_,_,_,_,by rw [<- J,<- l.o],by rw [<- l.o];exact qN.nil _ _,by rw [<- l.o];exact qN.nil _ _,by rw [<- l.o];exact qN.nil _ _,by rw [<- l.o];exact ⟨A,c1,rfl,Nat.zero_le _,ah.nil _ _,fun h=>absurd rfl h⟩,by rw [<- l.o];exact uj.nil _ _⟩))
 have cS:=aa (fun W' (F:Old G W')=>(C.o W' (O2.o.trans' F) M (HT.o W')).mono (fun e w8 h=>fO.of (hN0.o.old (O2.o.trans' F)) h))
 clear J o1 o2 C X X0 OB
 go_wp2_with fail
 rw [<- r]
 clear r
 refine kI Old 16 G [.val g,.val g,.val g,.val g,.val W,.val W,.val W,.val W,.val (zi n),.val w.heap.size,.val (zi D),.val (zi (n + D)),.val (.agg #[zi D,zi K,zi L,zi O,zi P,.string S]),.val (.agg #[zi T,zi U,.string V,.slice A 0 c1]),.val (zi a),.val (.agg M)] ((Old.refl' _).drew') ?st ?en
 case st=>
  refine .cons (sp [] [(0,g)] ?_)<|.cons (sp [] [(0,g)] ?_)<|.cons (sp [(1,19)] [] ?_)<|.cons (sp [(2,20)] [] ?_)<|.cons (sp [(3,21)] [] ?_)<|.cons (sp [(4,22)] [] ?_)<|.cons (sp [(5,23)] [] ?_)<|.cons (sp [(6,24)] [] ?_)<|.cons (sp [(7,25)] [] ?_)<|.cons (sp [] [(4,w.heap.size)] ?_)<|.cons (sp [(9,27)] [] ?_)<|.cons (sp [(8,26),(10,28)] [] ?_)<|.cons (sp [] [(4,w.heap.size)] ?_)<|.cons (sp [] [(6,w1.heap.size)] ?_)<|.cons (sp [] [(2,zi a)] ?_)<|.cons (sp [(12,30),(13,31),(14,32)] [] ?c15)<|.nil
  case c15=>
   intro E w' Y hc hf
   rintro e30 e31 e32
   exact ⟨_,mh 110 _ rfl M [(0,zi 10),(10,.agg #[zi D,zi K,zi L,zi O,zi P,.string S]),(13,.bool true),(14,.agg #[zi T,zi U,.string V,.slice A 0 c1]),(15,zi a)] Up HM.o,rfl⟩
  all_goals
   intro E w' Y hc hf
   obtain ⟨u0,u1,u2,u3,u4,u5,u6,u8,u9,dF,dD,dK,eu,aX,ug⟩:=(H3.o.old (O2.o.trans' Y)).c HS.o
   obtain ⟨v0,-,-,-,vl⟩:=(H0.o.old (O2.o.trans' Y)).cells
   rw [HCN.o] at v0
   obtain ⟨x0,x1,x2,x3,x4,x5,xl⟩:=Sw (X1.o.old Y)
   obtain ⟨y0,y1,y2,y3,yl⟩:=aaA (Y1.o.old Y)
   repeat intro _
   exact ⟨_,dP,rfl⟩
 case en=>
  intro jA w9 nT
  iterate 16 refine Ends.eqv _ _ rfl (fun _ h=>h) ?_
  refine Ends.nil ?_
  simp only [aC,ax,fM,fJ]
  have cS1:=aa (cS.o w9 nT)
  go_wp2_with fail
  refine cS1.o.mono ?_
  rintro e w8 hA8
  obtain ⟨rfl,Z,hN,hD⟩:=hA8
  go_wp2_with fail
  go_end0
  exact ⟨rfl,Z,hN,hD⟩
end
section
variable {w:World} {own:Nat->Tag} {c i W g k:Nat} {u:bV} {s:NS}
theorem aN.KW {p:iC} {w1:World} {F':Nat->Prop} {e:bB} (f:eF w own (bM c i) (oO u W g p s)) (N:aN w own c i W g u s) (h:fA w1 F' p.dk e) (l:jH w (fun k=>own k=bM c i 4) F') (m:Fr (fun k=>own k=bM c i 4) w w1) :
 ∃ d,aN w1 d c i W g u (s.aZ fun n=>{ n with disk:=e })/\fT w own c i w1 d:=by
 obtain ⟨d,-,r,x⟩:=aN.turn (s':=s.aZ fun n=>{ n with disk:=e }) p f 4 af N.i5 (fun j y=>by
  match j with
  | 0 | 1 | 2 | 3 | 5 | 6 | 7 | 8 | 9 | 10 | 11 | 12=>rfl
  | 4=>exact absurd rfl y
  | j + 13=>rfl) N.dQ N.self h l m
 exact ⟨d,r,x⟩
theorem aN.FT {p:iC} {w1:World} {F':Nat->Prop} {l':dW} (e:eF w own (bM c i) (oO u W g p s)) (N:aN w own c i W g u s) (f:eZ w1 p.lg F' l') (h:jH w (fun k=>own k=bM c i 6) F') (l:Fr (fun k=>own k=bM c i 6) w w1) :
 ∃ d,aN w1 d c i W g u (s.aZ fun n=>{ n with kept:={ n.kept with log:=l' } })/\fT w own c i w1 d:=by
 obtain ⟨d,-,m,r⟩:=aN.turn (s':=s.aZ fun n=>{ n with kept:={ n.kept with log:=l' } }) p e 6 af N.i5 (fun j x=>by
  match j with
  | 0 | 1 | 2 | 3 | 4 | 5 | 7 | 8 | 9 | 10 | 11 | 12=>rfl
  | 6=>exact absurd rfl x
  | j + 13=>rfl) N.dQ N.self f h l
 exact ⟨d,m,r⟩
theorem aN.CG {p:iC} {w1:World} {F':Nat->Prop} {x:kV} (e:eF w own (bM c i) (oO u W g p s)) (N:aN w own c i W g u s) (f:dz w1 F' p.ho x) (h:jH w (fun k=>own k=bM c i 7) F') (l:Fr (fun k=>own k=bM c i 7) w w1) :
 ∃ d,aN w1 d c i W g u (s.aZ fun n=>{ n with hold:=x })/\fT w own c i w1 d:=by
 obtain ⟨d,-,m,r⟩:=aN.turn (s':=s.aZ fun n=>{ n with hold:=x }) p e 7 af N.i5 (fun j y=>by
  match j with
  | 0 | 1 | 2 | 3 | 4 | 5 | 6 | 8 | 9 | 10 | 11 | 12=>rfl
  | 7=>exact absurd rfl y
  | j + 13=>rfl) N.dQ N.self f h l
 exact ⟨d,m,r⟩
theorem aN.zA {p:iC} {w1:World} {F':Nat->Prop} {f:Int->Option Int} (e:eF w own (bM c i) (oO u W g p s)) (N:aN w own c i W g u s) (h:mq w1 F' p.ak f) (l:jH w (fun k=>own k=bM c i 8) F') (m:Fr (fun k=>own k=bM c i 8) w w1) :
 ∃ d,aN w1 d c i W g u (s.aZ fun n=>{ n with asked:=f })/\fT w own c i w1 d:=by
 obtain ⟨d,-,r,x⟩:=aN.turn (s':=s.aZ fun n=>{ n with asked:=f }) p e 8 af N.i5 (fun j y=>by
  match j with
  | 0 | 1 | 2 | 3 | 4 | 5 | 6 | 7 | 9 | 10 | 11 | 12=>rfl
  | 8=>exact absurd rfl y
  | j + 13=>rfl) N.dQ N.self h l m
 exact ⟨d,r,x⟩
theorem aN.Ep {p:iC} {w1:World} {x:Ag} (f:eF w own (bM c i) (oO u W g p s)) (N:aN w own c i W g u s) (m:fH w1 p.gr 252 x.n x.gJ x.till) (l:Fr (fun k=>k=p.gr) w w1) :
 ∃ d,aN w1 d c i W g u (s.aZ fun n=>{ n with grants:=x })/\fT w own c i w1 d:=by
 have h0:own p.gr=bM c i 9:=(f.at_ 9).2.1
 have r:∀ k,own k=bM c i 9->k < w.heap.size:=(f.at_ 9).2.2
 obtain ⟨d,-,y,z⟩:=aN.turn (s':=s.aZ fun n=>{ n with grants:=x }) p f 9 af N.i5 (fun j A=>by
  match j with
  | 0 | 1 | 2 | 3 | 4 | 5 | 6 | 7 | 8 | 10 | 11 | 12=>rfl
  | 9=>exact absurd rfl A
  | j + 13=>rfl) N.dQ N.self (F':=fun k=>own k=bM c i 9) ⟨m,h0,fun k h=>iD (r k h) l.size⟩ (fun k h=>.inl h) (l.mono fun k _ e=>by rw [e];exact h0)
 exact ⟨d,y,z⟩
theorem aN.Ib {p:iC} {w1:World} {x:Dl} (f:eF w own (bM c i) (oO u W g p s)) (N:aN w own c i W g u s) (m:fH w1 p.wa 254 x.n x.self x.heard) (l:Fr (fun k=>k=p.wa) w w1) :
 ∃ d,aN w1 d c i W g u (s.aZ fun n=>{ n with watch:=x })/\fT w own c i w1 d:=by
 have h0:own p.wa=bM c i 10:=(f.at_ 10).2.1
 have r:∀ k,own k=bM c i 10->k < w.heap.size:=(f.at_ 10).2.2
 obtain ⟨d,-,y,z⟩:=aN.turn (s':=s.aZ fun n=>{ n with watch:=x }) p f 10 af N.i5 (fun j A=>by
  match j with
  | 0 | 1 | 2 | 3 | 4 | 5 | 6 | 7 | 8 | 9 | 11 | 12=>rfl
  | 10=>exact absurd rfl A
  | j + 13=>rfl) N.dQ N.self (F':=fun k=>own k=bM c i 10) ⟨m,h0,fun k h=>iD (r k h) l.size⟩ (fun k h=>.inl h) (l.mono fun k _ e=>by rw [e];exact h0)
 exact ⟨d,y,z⟩
end
theorem Sz (g:Nat) (F:Nat->Prop) (l:dW) (n m:Int) (k:Nat) (f:(jh l.qs n m).length=k) (d:l.qs.length<=50000) (w:World) (h:eZ w g F l) :
 aS 65 #[g,zi n,zi m] w fun e w'=>∃ A c,e=.returned (.slice A k c)/\w'.ownsRow w.heap.size 36 6 (.slice A k c) k ((jh l.qs n m).flatMap aG.cells)/\Old w w':=by
 subst f
 by_cases x:n < 0∨m < 1∨(l.qs.length:Int)<=n
 ·have e:jh l.qs n m=[]:=by
   unfold jh
   rcases x with j | j | j
   ·rw [if_pos j]
   ·split
    ·rfl
    ·rw [show m.toNat=0 by omega,List.take_zero]
   ·split
    ·rfl
    ·rw [List.drop_of_length_le af,List.take_nil]
  rw [e]
  exact (zh g F l n m x w h).mono fun e w' ⟨p,r⟩=>⟨none,0,p,World.ownsRow_nil _ _ _ _,r⟩
 ·obtain ⟨s,rfl⟩:∃ s:Nat,n=s:=⟨n.toNat,af⟩
  obtain ⟨t,rfl⟩:∃ s:Nat,m=s:=⟨m.toNat,af⟩
  refine (Cq g F l l.qs.length s t rfl af af d w h).mono ?_
  rintro e w' ⟨A,c,k,f,p,y,r⟩
  have z:jh l.qs s t=(l.qs.drop s).take t:=by
   unfold jh
   rw [if_neg af]
   rfl
  have B:(l.qs.drop s).take t=(l.qs.drop s).take k:=by
   rw [f,<- yj (i:=s) (l:=l.qs)]
   exact (List.take_eq_take_min).trans rfl
  have C:((l.qs.drop s).take k).length=k:=by rw [vB,yj];omega
  rw [z,B,C]
  exact ⟨A,c,p,y,r⟩
section
variable {w:World} {own:Nat->Tag} {c i W g k:Nat} {u:bV} {s:NS}
def NS.uZ (s:NS) (d:Nat):NS:=s.aZ fun n=>{ n with kept:={ n.kept with log:=s.n.kept.log.bD d } }
def NS.Bd (s:NS) (d:Nat):List (aG×Nat):=((s.n.kept.log.qs.drop s.n.kept.log.k).take (d - s.n.kept.log.k)).zipIdx
def NS.rE (s:NS) (d j:Nat):NS:={ s.uZ d with bO:=s.bO ++ (((s.Bd d).take j).map fun x=>(s.uZ d).AX x.1 (s.n.kept.log.k + 1 + x.2)) }
def Oy (w:World) (own:Nat->Tag) (A:Option Addr) (L:List aG):Prop:=ou w A L/\(L≠[]->∀ a,A=some a->own a.block=aB)
theorem Oy.did {w w':World} {own f:Nat->Tag} {c i:Nat} {A:Option Addr} {L:List aG} (h:Oy w own A L) (d:fT w own c i w' f):Oy w' f A L:=by
 have n:L.flatMap aG.cells≠[]->L≠[]:=fun j e=>j (by rw [e];rfl)
 refine ⟨ah.fr h.1 d.fr (fun j a e=>qj (h.2 (n j) a e)),fun j a e=>?_⟩
 have p:L.flatMap aG.cells≠[]:=by
  obtain ⟨x,l,rfl⟩:=List.exists_cons_of_ne_nil j
  simp [aG.cells]
 obtain ⟨b,o,m,r,-⟩:=h.1 p
 rw [e] at m;injection m with m;subst m
 exact (d.ext _ r).trans (h.2 j _ e)
theorem Oy.old {w w':World} {own:Nat->Tag} {A:Option Addr} {L:List aG} (h:Oy w own A L) (o:Old w w'):Oy w' own A L:=⟨ah.old h.1 o,h.2⟩
theorem NS.Ic (s:NS) (d:Nat) (f:s.n.kept.log.k < d) (h:d<=s.n.kept.log.qs.length):s.bD d=if s.known.head=s.n.self then s.rE d (s.Bd d).length else s.uZ d:=by
 unfold NS.bD
 simp only
 rw [if_neg af]
 show (if s.known.head=s.n.self then _ else _)=_
 split
 ·have e:=NS.rC (s.uZ d) s.n.kept.log.k (s.Bd d) s.bO
  unfold NS.rE
  rw [List.take_length]
  exact e
 ·rfl
theorem NS.Ie (s:NS) (d j:Nat) (x:aG×Nat) (h:(s.Bd d)[j]?=some x):s.rE d (j + 1)=(s.rE d j).pU x.1 (s.n.kept.log.k + 1 + x.2):=by
 obtain ⟨f,e⟩:=List.getElem?_eq_some_iff.1 h
 rw [NS.Cw]
 unfold NS.rE
 rw [MG f,e,BH,<- MI]
 rfl
theorem NS.KX (s:NS) (d j:Nat) (f:j < d - s.n.kept.log.k) (h:d<=s.n.kept.log.qs.length):∃ q,s.n.kept.log.qs[s.n.kept.log.k + j]?=some q/\(s.Bd d)[j]?=some (q,j):=by
 have e:s.n.kept.log.k + j < s.n.kept.log.qs.length:=af
 refine ⟨_,gG e,?_⟩
 unfold NS.Bd
 rw [List.getElem?_zipIdx,List.getElem?_take,if_pos f,List.getElem?_drop,gG e]
 simp
theorem NS.CJ (s:NS) (d:Nat) (e:d<=s.n.kept.log.qs.length):(s.Bd d).length=d - s.n.kept.log.k:=by
 unfold NS.Bd
 rw [List.length_zipIdx,vB,yj]
 omega
theorem aF.rE (ok:aF s i (k + 2)) (d j:Nat) (e:d<=s.n.kept.log.qs.length):aF (s.rE d j) i (k + 1):=by
 have f:aF (s.uZ d) i (k + 1):=(ok.mono (show k + 1<=k + 2 by omega)).AY _ ⟨ok.log.q,by have:=ok.log.few;show s.n.kept.log.qs.length + (k + 1)<=50000;omega,e⟩
 have h:=ok.bO
 have l:=ok.log.few
 have m:=s.CJ d e
 refine f.xk _ ?_
 simp only [ja,List.length_map,vB]
 omega
theorem KY (N:aN w own c i W g u s) (ok:aF s i (k + 2)) (T8:iL s.n.kept.log) (d:Int) :
 aS 176 #[g,zi d] w (fO w own c i W g u (s.bD d)):=by
 obtain ⟨p,P⟩:=N.ex
 have h3:aV w (fun k=>own k=bM c i 3) (fun k=>own k=aB) W g p s.n:=aV.ub (P.at_ 3)
 have h6:eZ w p.lg (fun k=>own k=bM c i 6) s.n.kept.log:=P.at_ 6
 have cC:=aa (fun K G=>tX p.lg _ s.n.kept.log K G w h6)
 obtain ⟨u0,u1,u2,u3,u4,u5,u6,u8,u9,dF,dD,dK,eu,aX,ug⟩:=h3.c N.self
 clear u0 u1 u2 u3 u4 u6 u8 u9 dF dD dK eu aX
 obtain ⟨K,G⟩:=aR (s.n.kept.log.k)
 have I:=aa (cC.o K G)
 by_cases L:d<=(K:Int)
 ·have e:s.bD d=s:=by unfold NS.bD;simp only;rw [if_pos (.inl (by rw [G];exact L))]
  rw [e]
  have y:=aa (⟨own,N,N.did⟩:∃ r,aN w r c i W g u s/\fT w own c i w r)
  clear h3 h6 P N ok G cC e
  go_enter func176,ntmps176
  go_wp2_with fail
  refine I.o.mono ?_
  rintro e w1 ⟨rfl,rfl⟩
  go_wp2
  go_end0
  exact ⟨rfl,y.o⟩
 ·have hd1:¬ d<=(K:Int):=L
  by_cases h2:d<=s.n.kept.log.qs.length
  ·obtain ⟨D,rfl⟩:∃ D:Nat,d=D:=⟨d.toNat,af⟩
   have hlt:K < D:=af
   have S:=ok.log.few
   have hkl:=ok.log.kl
   have z:D<=s.n.kept.log.qs.length:=af
   have cX:=aa (Eb p.lg _ s.n.kept.log K (D - K) D G af af af af T8 w h6)
   have ok1:aF (s.uZ D) i (k + 1):=(ok.mono (show k + 1<=k + 2 by omega)).AY _ ⟨ok.log.q,by show s.n.kept.log.qs.length + (k + 1)<=50000;omega,z⟩
   obtain ⟨ke,kn,hk⟩:∃ ke kn,s.known=⟨ke,kn⟩:=⟨_,_,rfl⟩
   obtain ⟨m,hm⟩:=aR (kn.length)
   have FO:m<=5:=Di
   obtain ⟨hd,B⟩:=aR (s.known.head)
   have C:kn.head?.getD (-1)=hd:=by rw [<- B,hk];rfl
   obtain ⟨T,hT⟩:=aR (D - K)
   have hT5:T<=50000:=af
   have J:=aa (NS.Ic s D af z)
   have U:=aa (show (jh s.n.kept.log.qs K ((D:Int) - K)).length=T by unfold jh;rw [if_neg af,vB,yj];omega)
   have HSG:=aa (fun (j:Nat) (q:aG) (hj:j < T) (H:s.n.kept.log.qs[K + j]?=some q)=>(show (jh s.n.kept.log.qs K ((D:Int) - K))[j]?=some q by
    unfold jh
    rw [if_neg af,List.getElem?_take,if_pos af,List.getElem?_drop,show ((K:Int).toNat + j)=K + j by omega]
    exact H))
   have V:=aa (fun (j:Nat) (q:aG) (H:s.n.kept.log.qs[j]?=some q)=>CF (h6.ok j q H).1)
   have HRS:=aa (fun (j:Nat) (q:aG) (hj:j < T) (H:s.n.kept.log.qs[K + j]?=some q)=>(show s.rE D (j + 1)=(s.rE D j).pU q ((K:Int) + 1 + j) by
    obtain ⟨q',L,h2⟩:=s.KX D j af z
    rw [G] at L
    rw [H] at L
    cases L
    rw [NS.Ie s D j _ h2,G]))
   have X:=aa (fun j=>ok.rE D j z)
   have HJ0:=aa (show s.rE D 0=s.uZ D by unfold NS.rE;simp [NS.uZ,NS.aZ])
   have HCT:=aa (show (s.Bd D).length=T by rw [NS.CJ s D z];omega)
   have l:=aa (show K + T<=s.n.kept.log.qs.length/\s.n.kept.log.qs.length<=50000 by omega)
   have HN:=aa N
   have HP:=aa P
   have Y:=aa N.self
   have hsub:IntKind.i64.wrap ((D:Int) - K)=(D:Int) - K:=kP _ af
   clear h3 h6 N ok G cC L h2 S hkl P
   go_enter func176,ntmps176
   go_wp2_with fail
   refine I.o.mono ?_
   rintro e w1 ⟨rfl,rfl⟩
   go_wp2_with fail
   refine cX.o.mono ?_
   rintro e w2 ⟨rfl,⟨F',hL,hG⟩,hF⟩
   obtain ⟨n,Z,d1⟩:=aN.FT HP.o HN.o hL hG hF
   have cK:=aa (fun W' (hW:Old w2 W')=>zu (Z.old hW) (base:=w2.heap.size) hW.size hk hm FO)
   have cH:=aa (fun W' A q (h:aP W' A kn)=>J7 ke A m q kn hd hm.symm af C W' h)
   obtain ⟨p1,O⟩:=Z.ex
   have h31:aV w2 (fun k=>n k=bM c i 3) (fun k=>n k=aB) W g p1 (s.uZ D).n:=aV.ub (O.at_ 3)
   have h61:eZ w2 p1.lg (fun k=>n k=bM c i 6) (s.uZ D).n.kept.log:=O.at_ 6
   have UA:=aa h31
   have UB:=aa Z.self
   have cSi:=aa (fun W' (hW:Old w2 W')=>Sz p1.lg _ (s.uZ D).n.kept.log K ((D:Int) - K) T U.o (by show s.n.kept.log.qs.length<=50000;have:=l.o;omega) W' (h61.old hW))
   have N1:=aa Z
   have D1:=aa d1
   clear Z d1 O h31 h61 hL hG hF cX I HP HN u5 ug
   by_cases R:hd=(i:Int)
   ·have hh':(hd == (i:Int))=true:=by simpa using R
    have HR:=aa (show s.bD D=s.rE D T by rw [J.o,if_pos (by rw [B,Y.o];exact R),HCT.o])
    clear hk hm B C hT R J
    go_wp2_with fail
    refine bG Old w2 [.val g,.rel (rq w2.heap.size ke m (kn.map (Value.int .i64))),.val (zi hd),.val g,.val g,.val (av g 1),.val (zi i),.val (.bool true)] ((Old.refl' _).drew') ?st ?en
    case st=>exact Uz
    case en=>
     intro jA w9 x
     iterate 1 refine Ends.eqv _ _ rfl (fun _ h=>h) ?_
     refine Ends.ex _ rfl ?_
     rintro _ _ ⟨A1,q1,rfl,ho1⟩
     iterate 6 refine Ends.eqv _ _ rfl (fun _ h=>h) ?_
     refine Ends.nil ?_
     simp only [aC,ax,fM,fJ]
     have D9:=aa (D1.o.old x)
     have N9:=aa (N1.o.old x)
     obtain ⟨u0,u1,u2,u3,u4,u5,u6,u8,u9,dF,dD,dK,eu,aX,ug⟩:=(UA.o.old x).c UB.o
     clear u0 u1 u2 u3 u4 u6 u8 u9 dF dD dK eu aX
     have cS:=aa (cSi.o w9 x)
     have M:=aa (N9.o.top)
     clear N1 D1 UA cSi cK cH
     go_wp2_with fail
     refine cS.o.mono ?_
     rintro e w3 ⟨A,c3,rfl,E,o3⟩
     have HQ0:=aa (⟨ah.bA E,fun _ a e=>by
      obtain ⟨_,_,e3,_,h4⟩:=bI E
      cases e3
      exact M.o _ (h4 a e).1⟩:Oy w3 n A (jh s.n.kept.log.qs K ((D:Int) - K)))
     have N3:=aa (N9.o.old o3)
     have D3:=aa (D9.o.old o3)
     clear E o3 cS N9 D9 M
     go_wp2_with fail
     go_loopw [45] (fun iv wr=>∃ j:Nat,j<=T/\iv=zi j/\kN (∃ f,aN wr f c i W g u (s.rE D j)/\fT w own c i wr f/\Oy wr f A (jh s.n.kept.log.qs K ((D:Int) - K)))) (fun iv _=>T - (intOf iv).toNat)
     case atStart=>exact ⟨0,af,rfl,aa ⟨n,by rw [HJ0.o];exact N3.o,D3.o,HQ0.o⟩⟩
     case round=>
      obtain ⟨j,hj,rfl,HJ⟩:=hrel
      by_cases F:j < T
      ·obtain ⟨f,Nj,Dj,Qj⟩:=HJ.o
       obtain ⟨q,H⟩:∃ q,s.n.kept.log.qs[K + j]?=some q:=⟨_,gG (by have:=l.o;omega)⟩
       have Qn:(jh s.n.kept.log.qs K ((D:Int) - K))[j]?=some q:=HSG.o j q F H
       obtain ⟨b0,o,rfl,hb0,hc⟩:=ou.Vu Qj.1 (k:=j) (by rw [U.o];exact F)
       rw [Qn] at hc
       have hc0:=hc 0 _ af rfl
       have hc1:=hc 1 _ af rfl
       have hc2:=hc 2 _ af rfl
       have hc3:=hc 3 _ af rfl
       have hc4:=hc 4 _ af rfl
       have hc5:=hc 5 _ af rfl
       simp only [I9,Gu] at hc0 hc1 hc2 hc3 hc4 hc5
       have hjI:(j:Int) < (T:Int):=af
       have q0:(0:Int)<=(j:Int):=af
       have Wk:=aa (V.o (K + j) q H)
       have hRJ:=aa (HRS.o j q F H)
       have hwa:IntKind.i64.wrap ((K:Int) + 1)=(K:Int) + 1:=kP _ (by have:=l.o;omega)
       have hwb:IntKind.i64.wrap ((K:Int) + 1 + j)=(K:Int) + 1 + j:=kP _ (by have:=l.o;omega)
       obtain ⟨qc,qs,qk,qi,qm,qd⟩:=q
       simp only at hc0 hc1 hc2 hc3 hc4 hc5
       have oq:=(Old.refl' wr).ag (.cells #[zi qc,zi qs,zi qk,zi qi,zi qm,.string qd] 36)
       have Y0:=Bk.new wr 36 #[zi qc,zi qs,zi qk,zi qi,zi qm,.string qd]
       obtain ⟨y0,y1,y2,y3,y4,y5,yl⟩:=Sw Y0
       have cR:=aa (Sy (Nj.old oq) (X.o j) ⟨qc,qs,qk,qi,qm,qd⟩ Wk.o ((K:Int) + 1 + j) (by have:=l.o;unfold mQ;omega))
       have HD:=aa (Dj.old oq)
       have HQj:=aa (Qj.old oq)
       simp only at cR
       clear Nj Dj Qj hc H Qn Y0 oq HJ
       go_wp2_with fail
       refine cR.o.mono ?_
       rintro e w5 ⟨rfl,Er,N5,D5⟩
       have HF:=aa (⟨Er,by rw [hRJ.o];exact N5,HD.o.trans D5,HQj.o.did D5⟩:∃ f,aN w5 f c i W g u (s.rE D (j + 1))/\fT w own c i w5 f/\Oy w5 f (some ⟨b0,o,none⟩) (jh s.n.kept.log.qs K ((D:Int) - K)))
       clear N5 D5 y0 y1 y2 y3 y4 y5 yl
       go_wp2
       go_roundw
       case rel=>exact ⟨j + 1,af,oP,HF⟩
       case measure=>simp [intOf];omega
      ·obtain rfl:j=T:=by omega
       have hjI:¬ ((j:Int) < (j:Int)):=af
       go_wp2
       go_end0
       obtain ⟨f,Nj,Dj,-⟩:=HJ.o
       exact ⟨rfl,f,by rw [HR.o];exact Nj,Dj⟩
   ·have hh':(hd == (i:Int))=false:=by simpa using R
    have HR:=aa (show s.bD D=s.uZ D by rw [J.o,if_neg (by rw [B,Y.o];exact R)])
    clear hk hm B C hT R J
    go_wp2_with fail
    refine bG Old w2 [.val g,.rel (rq w2.heap.size ke m (kn.map (Value.int .i64))),.val (zi hd),.val g,.val g,.val (av g 1),.val (zi i),.val (.bool false)] ((Old.refl' _).drew') ?st ?en
    case st=>exact Uz
    case en=>
     intro jA w9 x
     iterate 1 refine Ends.eqv _ _ rfl (fun _ h=>h) ?_
     refine Ends.ex _ rfl ?_
     rintro _ _ ⟨A1,q1,rfl,ho1⟩
     iterate 6 refine Ends.eqv _ _ rfl (fun _ h=>h) ?_
     refine Ends.nil ?_
     simp only [aC,ax,fM,fJ]
     have D9:=aa (D1.o.old x)
     have N9:=aa (N1.o.old x)
     go_wp2
     go_end0
     exact ⟨rfl,n,by rw [HR.o];exact N9.o,D9.o⟩
  ·have e:s.bD d=s:=by unfold NS.bD;simp only;rw [if_pos (.inr af)]
   rw [e]
   have y:=aa (⟨own,N,N.did⟩:∃ r,aN w r c i W g u s/\fT w own c i w r)
   have cX:=aa (NY p.lg _ s.n.kept.log d af w h6)
   clear h3 h6 P N ok G cC e L
   go_enter func176,ntmps176
   go_wp2_with fail
   refine I.o.mono ?_
   rintro e w1 ⟨rfl,rfl⟩
   go_wp2_with fail
   refine cX.o.mono ?_
   rintro e w1 ⟨rfl,rfl⟩
   go_wp2
   go_end0
   exact ⟨rfl,y.o⟩
end
end Go.Proofs.YthihpfpbiajddaaGreat
