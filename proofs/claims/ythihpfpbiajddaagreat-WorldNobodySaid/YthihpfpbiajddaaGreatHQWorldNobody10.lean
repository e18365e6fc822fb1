/- Parts of the proof. -/
import Derived.Test.YthihpfpbiajddaaGreatHQWorldNobody9
import Derived.RangeFuncFrom
import Derived.Laws.Rows
set_option maxRecDepth 100000
set_option maxHeartbeats 8000000
open Go.Proofs.Tryz
namespace Go.Proofs.YthihpfpbiajddaaGreat
open Go.RowKit
section
open Go.RowKit Go.Shelf
attribute [local go_sem] Oper.semAt_some
open Go.RowKit Go.Shelf
attribute [local go_sem] Oper.semAt_some
end
theorem iK {P:Program} (w:World) (g o:Nat) (ty:TypeId) (cs:Array Value) (d:TypeDesc) (k:∀ (j:Nat) v,cs[j]?=some v->w.cell? ⟨g,o + j,none⟩=some v)
 (l:P.underlying ty=some d) (hd:(match d with | .struct _ | .array _ _=>true | _=>false)=true) (f:(P.info? ty).map (·.size)=some cs.size) :
 (loadVar ty ⟨g,o,none⟩).run P w=.ok (.agg cs) w:=by
 have h:(loadCells ⟨g,o,none⟩ cs.toList.length).run P w=.ok cs.toList.toArray w:=
  run_loadCells_list (P:=P) w ⟨g,o,none⟩ cs.toList (fun j v m=>by
   rw [lS]
   exact k j v (by simpa using m))
 cases hq:P.info? ty with
 | none=>simp [hq] at f
 | some i=>
  have n:i.size=cs.size:=by simpa [hq] using f
  have e:(isAgg ty).run P w=.ok true w:=by
   unfold isAgg
   rw [Sem.run_bind,run_underlying l w]
   cases d <;> simp_all
  simp only [Array.length_toList,Array.toArray_toList] at h
  simp [loadVar,Sem.run_bind,e,sizeOf,typeInfo,hq,n,h]
theorem bZ {P:Program} {ops:Array Oper} {rest:List Oper} {dst:Option Tmp} {e:TypeId} {pos:String} {f:Array Edge} {a:Act} {w:World} {Q:Exit->Act->World->Prop} (ty:TypeId) (x:Operand)
 (g o:Nat) (cs:Array Value) (d:TypeDesc) (i:a.eval x=av g o) (k:∀ (j:Nat) v,cs[j]?=some v->w.cell? ⟨g,o + j,none⟩=some v)
 (l:P.underlying ty=some d) (hd:(match d with | .struct _ | .array _ _=>true | _=>false)=true) (m:(P.info? ty).map (·.size)=some cs.size)
 (h:wpList P ops Q rest (a.put dst (.agg cs)) w):wpList P ops Q ({ dst:=dst,op:=.load ty x,type:=e,pos:=pos,after:=f,guard:=none } :: rest) a w:=by
 refine wpList_plain rfl fun K n=>?_
 unfold Oper.wp execOp
 simp only [i,Instr.loadAt,Instr.sureAddr,Sem.run_bind,Sem.run_pure,Result.andThen_ok,iK w g o ty cs d k l hd m]
 exact n _ _ h
section
open Go.RowKit Go.Shelf
attribute [local go_sem] Oper.semAt_some
structure uX (s:fG):Prop where
 seq:∀ c,0<=(s.ss c).seq/\(s.ss c).seq<=1073741824
 place:∀ c,(s.ss c).place<=s.n
 data:∀ k,∀ v∈s.f k,v.2.size<=64
def DU (s:fG) (k:Nat):List Int:=(List.range k).flatMap fun (c:Nat)=>yB (s.ss (c:Int))
theorem G5 (s:fG) (k:Nat):DU s (k + 1)=DU s k ++ (gB (s.ss k).seq.toNat ++ gB (s.ss k).place):=by simp [DU,List.range_succ,yB]
theorem G6 (s:fG):DU s 4=yB (s.ss 0) ++ yB (s.ss 1) ++ yB (s.ss 2) ++ yB (s.ss 3):=by simp [DU,List.range_succ]
theorem JV {s:fG} (h:uX s) (d:s.n<=1000) (k:Nat):(DU s k).length<=k * 20:=by
 induction k with
 | zero=>simp [DU]
 | succ k ih=>
  rw [G5,ja,ja]
  have e:=gI (s.ss k).seq.toNat (by have:=h.seq k;omega)
  have f:=gI (s.ss k).place (by have:=h.place k;omega)
  omega
theorem JW {v:iF} (h:v.2.size<=64):(Nw v).length<=75:=by
 unfold Nw oU jD
 simp only [ja,iR,jV,numsOf_length]
 have:=gI v.2.size af
 omega
theorem yZ:∀ {l:List iF},(∀ v∈l,v.2.size<=64)->(l.flatMap Nw).length<=l.length * 75
 | [],_=>by simp
 | v :: l,h=>by
  have e:=JW (h v bE)
  have f:=yZ (l:=l) (fun u d=>h u (by simp [d]))
  simp only [List.flatMap_cons,ja,iR]
  omega
theorem JX {s:fG} (h:uX s) (e:s.n<=1000) (d:∀ k,(s.f k).length<=s.n) {k:Int} (f:0<=k/\k<=31):(Ny s.f k).length<=75020:=by
 unfold Ny
 simp only [ja]
 have g:=gI k.toNat af
 have i:=gI (s.f k).length (by have:=d k;omega)
 have j:=yZ (h.data k)
 have h4:=d k
 omega
theorem eG {s:fG} (d:uX s) (e:s.n<=1000) (h:∀ k,(s.f k).length<=s.n):s.bytes.length<=2500000:=by
 have l:=gI s.n af
 have g:=JV d e 4
 rw [G6] at g
 have i:∀ ks:List Int,(∀ k∈ks,0<=k/\k<=31)->(ks.flatMap (Ny s.f)).length<=ks.length * 75020:=by
  intro ks
  induction ks with
  | nil=>intro _;simp
  | cons k ks ih=>
   intro f
   have h4:=JX d e h (f k bE)
   have h5:=ih fun x j=>f x (by simp [j])
   simp only [List.flatMap_cons,ja,iR]
   omega
 have h4:=i (dS s.f) (fun k f=>(rZ.1 f).1)
 have h5:=pP s.f
 unfold fG.bytes
 simp only [ja] at g ⊢
 omega
end
theorem JY {f:List iF} {k m e:Int} {d:ByteArray} (h:dU k=true):(iT f k m e d).vs=[]:=by
 unfold iT
 have:k=1∨k=2∨k=3:=by simpa [dU,or_assoc] using h
 rw [if_pos this]
theorem uX.new (d:Int):uX (fG.new d):=⟨fun c=>by simp [fG.new,jZ.zero],fun c=>by simp [fG.new,jZ.zero],fun k v e=>by simp [fG.new] at e⟩
theorem uX.put {s:fG} (h:uX s) (q:Q):uX (s.put q):=by
 unfold fG.put
 split
 ·rename_i i
  simp only [fG.may,Q.may,mX,kE,rJ] at i
  obtain ⟨⟨⟨⟨⟨⟨-,j⟩,-⟩,-⟩,f⟩,l⟩,-⟩:=i
  refine ⟨fun c=>?_,fun c=>?_,fun k v m=>?_⟩
  ·have e:(s.done q).ss c=if c=q.client then (⟨q.seq,s.n + 1,s.iT q⟩:jZ) else s.ss c:=rfl
   rw [e]
   split
   ·exact ⟨by show 0<=q.seq;omega,by show q.seq<=1073741824;omega⟩
   ·exact h.seq c
  ·show (if c=q.client then (⟨q.seq,s.n + 1,s.iT q⟩:jZ) else s.ss c).place<=s.n + 1
   split
   ·simp
   ·have:=h.place c;omega
  ·have d:v∈(if k=q.id then s.Am q else s.f k):=m
   split at d
   ·rename_i e
    subst e
    unfold fG.Am Am at d
    split at d
    ·unfold DI at d
     have base:v∈s.f q.id->v.2.size<=64:=h.data _ v
     repeat' split at d
     all_goals first
      | exact base d
      | (
       simp only [MY,Vd] at d
       rcases d with d | rfl
       ·exact base d
       ·first
         | (show ByteArray.empty.size<=64;decide)
         | (
          show q.data.size<=64
          have g:q.kind=1∨q.kind=2:=by
           have:q.kind=1∨q.kind=2∨q.kind=3:=by simpa [dU,or_assoc] using l
           omega
          unfold zQ at f
          rcases g with e | e
          ·rw [if_pos e] at f;simp at f;exact f.2
          ·rw [if_neg af,if_pos e] at f;simpa using f))
    ·exact h.data _ v d
   ·exact h.data _ v d
 ·exact h
theorem Vt (s:fG) (q:Q):(s.put q).n<=s.n + 1/\s.n<=(s.put q).n:=by
 unfold fG.put
 split
 ·exact ⟨dN _,ym _⟩
 ·omega
theorem G7 (s:fG) (q:Q):(s.put q).aI=s.aI:=by
 unfold fG.put
 split <;> rfl
def aG.q (r:aG):Q:=⟨r.client,r.seq,r.kind,r.id,r.eD,r.data⟩
theorem tT (d:List aG):(d.flatMap aG.cells).length=d.length * 6:=by
 induction d with
 | nil=>rfl
 | cons q d ih=>
  have:q.cells.length=6:=rfl
  simp only [List.flatMap_cons,ja,iR,ih,this]
  omega
theorem yC (d:List aG):∀ k j,k < d.length->j < 6->(d.flatMap aG.cells)[k * 6 + j]?=(d[k]?.getD default).cells[j]?:=by
 induction d with
 | nil=>intro k j h;simp at h
 | cons q d ih=>
  intro k j f i
  rw [List.flatMap_cons]
  have e:q.cells.length=6:=rfl
  cases k with
  | zero=>rw [BG (by rw [e];omega)];simp
  | succ k=>
   rw [Dr (by rw [e];omega),e,show (k + 1) * 6 + j - 6=k * 6 + j from by omega]
   simpa using ih k j (by simpa using f) i
theorem ou.Vu {w:World} {A:Option Addr} {d:List aG} (h:ou w A d) {k:Nat} (f:k < d.length) :
 ∃ b o,A=some ⟨b,o,none⟩/\b < w.heap.size/\∀ j u,j < 6->(d[k]?.getD default).cells[j]?=some u->w.cell? ⟨b,o + k * 6 + j,none⟩=some u:=by
 obtain ⟨b,o,rfl,i,l⟩:=h (fun e=>by have:=tT d;rw [e] at this;simp at this;omega)
 exact ⟨b,o,rfl,i,fun j u m n=>by rw [Nat.add_assoc];exact l _ _ ((yC d k j f m).trans n)⟩
def wE (st:fG) (q:Q):Prop:=∀ (g:Nat) (F:Nat->Prop) (w:World),kS w g F st->
 aS 255 #[g,q.v] w fun e w'=>(∃ A c,e=.returned (.tuple #[.agg #[zi (st.rep q).code,zi (st.rep q).fQ,.string (st.rep q).data,.slice A 0 c],zi (st.err q)]))/\
  (∃ F',kS w' g F' (st.put q)/\∀ k,F' k->F k∨w.heap.size<=k)/\Fr F w w'
theorem wE.at_ {st:fG} {q:Q} (h:wE st q) (g:Nat) (F:Nat->Prop) (c0 v0 E:Int) (d0:ByteArray) (s':fG) (d:(st.rep q).code=c0) (f:(st.rep q).fQ=v0) (i:(st.rep q).data=d0) (h4:st.err q=E) (h5:st.put q=s') (w:World) (j:kS w g F st) :
 aS 255 #[g,.agg #[zi q.client,zi q.seq,zi q.kind,zi q.id,zi q.eD,.string q.data]] w fun e w'=>(∃ A c,e=.returned (.tuple #[.agg #[zi c0,zi v0,.string d0,.slice A 0 c],zi E]))/\
  (∃ F',kS w' g F' s'/\∀ k,F' k->F k∨w.heap.size<=k)/\Fr F w w':=by
 subst d f i h4 h5
 exact h g F w j
def iP (q0:Int) (qs:List aG):fG:=qs.foldl (fun s q=>s.put q.q) (fG.new q0)
theorem y7 (d:Int) (e:List aG) (q:aG):iP d (e ++ [q])=(iP d e).put q.q:=by simp [iP]
theorem NG (d:Int) (e:List aG):uX (iP d e)/\(iP d e).n<=e.length/\(iP d e).aI=d:=by
 unfold iP
 suffices h:∀ (l:List aG) (s:fG),uX s->uX (l.foldl (fun s q=>s.put q.q) s)/\(l.foldl (fun s q=>s.put q.q) s).n<=s.n + l.length/\(l.foldl (fun s q=>s.put q.q) s).aI=s.aI by
  have:=h e (fG.new d) (uX.new d)
  exact ⟨this.1,by have f:=this.2.1;have:(fG.new d).n=0:=rfl;omega,this.2.2⟩
 intro l
 induction l with
 | nil=>intro s h;exact ⟨h,dN _,rfl⟩
 | cons q l ih=>
  intro s h
  obtain ⟨i,f,j⟩:=ih (s.put q.q) (h.put q.q)
  refine ⟨i,?_,j.trans (G7 s q.q)⟩
  have:=(Vt s q.q).1
  simp only [List.foldl_cons,iR]
  omega
section
variable {w wr w':World} {g ga gb:Nat} {s t:fG}
end
theorem Aq {c s k i m:Int} {d:ByteArray} (h:mX c s k i m d=true):(0<=c/\c<=3)/\(1<=s/\s<=1073741824)/\(0<=i/\i<=31)/\(0<=m/\m<=100):=by
 simp only [mX,kE,rJ] at h
 omega
theorem wF (c s k i m:Int) (d:ByteArray) (n:Int) (b1 b:Bool) (j:mX c s k i m d=b1) (l:(b1 && decide (n < s))=b) (w:World) :
 aS 83 #[.agg #[zi c,zi s,zi k,zi i,zi m,.string d],zi n] w fun e w'=>e=.returned (.bool b)/\Old w w':=by
 have p:=aa (fun W=>lG c s k i m d b1 j W)
 have h:=Bk.new w 36 #[zi c,zi s,zi k,zi i,zi m,.string d]
 clear j
 by_cases f:n < s
 all_goals
  cases b1 <;> simp [f] at l <;> subst l
  all_goals
   go_enter func83,ntmps83
   go_wp2_with (go_at_call 81;refine (p.o _).mono ?_;rintro e w1 ⟨rfl,g⟩;obtain ⟨⟨x0,x1,x2,r,u,x⟩,y⟩:=lH (h.old g))
   go_ret
   exact ⟨by first | rfl | simp [f] | simp,((Old.refl' w).ag _).trans' g⟩
theorem Au {c s k i m:Int} {d:ByteArray} (h:mX c s k i m d=true):(1<=k/\k<=6)/\d.size<=64:=by
 simp only [mX,zQ,kE,rJ] at h
 obtain ⟨_,h⟩:=h
 have f:∀ d:ByteArray,d=ByteArray.empty->d.size<=64:=fun d e=>by subst e;decide
 repeat' split at h
 all_goals simp only [kE,rJ,Bool.false_eq_true] at h
 all_goals first | (refine ⟨af,?_⟩;first | omega | exact f _ h | exact f _ h.2) | skip
theorem Ch (c s k i m:Int) (l:ByteArray) (p:List Int) (b:Bool) (r:Nat) (u:mX c s k i m l=b) (d:(if b then bX [c,s,k,i,m] ++ jD l else [])=p) (y:p.length=r) (w:World) :
 aS 210 #[.agg #[zi c,zi s,zi k,zi i,zi m,.string l]] w fun e w'=>∃ A' D,e=.returned (.tuple #[.slice A' r D,zi (if b then 0 else 1)])/\w'.ownsRow w.heap.size 5 1 (.slice A' r D) r (eB p)/\Old w w':=by
 have E:=(Old.refl' w).ag (.cells #[zi c,zi s,zi k,zi i,zi m,.string l] 36)
 have F:=aa (fun W=>Fq c s k i m l W)
 rw [u] at F
 have h:=Bk.new w 36 #[zi c,zi s,zi k,zi i,zi m,.string l]
 obtain ⟨⟨u0,u1,u2,u3,u4,u5⟩,z⟩:=lH h
 cases b with
 | false=>
  simp only [Bool.false_eq_true,if_false] at d
  subst d
  simp at y
  subst y
  have G:=aa E
  clear u h E
  go_enter func210,ntmps210
  go_wp2_with (go_at_call 81;refine (F.o _).mono ?_;rintro e w1 ⟨rfl,f⟩)
  refine bodyPost_ret (v:=.tuple #[aQ,zi 1]) (by simp [results,results210,go_sem]) rfl ⟨none,0,rfl,World.ownsRow_nil _ _ _ _,G.o.trans' f⟩
 | true=>
  simp only [if_true] at d
  obtain ⟨⟨a1,a2⟩,⟨a3,a4⟩,⟨a5,a6⟩,⟨a7,a8⟩⟩:=Aq u
  obtain ⟨M,hd⟩:=Au u
  have A:=aa d
  have n:(bX [c,s,k,i,m]).length<=50:=by
   have:=mZ [c,s,k,i,m] (fun x H=>by simp at H;omega)
   simpa using this
  have I:=aa (fun W:World=>Dz W.heap.size aQ [] (some ⟨W.heap.size + 1,0,none⟩) 5 5 [c,s,k,i,m] rfl af bE (fun x H=>by simp at H;omega)
   ((W.alloc (.cells #[aQ] 231)).alloc (.cells #[zi c,zi s,zi k,zi i,zi m] 3)) ((JB W).old ((Old.refl' _).ag _)) (wB (fV W (.cells #[aQ] 231) 3 #[zi c,zi s,zi k,zi i,zi m])) (fun _ a e R=>by injection e with e;subst e;have:=mJ R;simp at this))
  have S:=aa (fun (W:World) (g:Nat) (V:Value) (j:jw W g V ([] ++ bX [c,s,k,i,m]))=>Ae g l V ([] ++ bX [c,s,k,i,m]) jR af W j)
  have T:=aa (fun (W:World) (g:Nat) (V:Value) (j:jw W g V p)=>Af g r V p y (by rw [<- y,<- d,ja,jD,ja,numsOf_length];have:=gI l.size (by omega);omega) W j)
  have G:=aa E
  have B:=aa h
  clear u h E n d y
  go_enter func210,ntmps210
  go_wp2_with (go_at_call 81;refine (F.o _).mono ?_;rintro e w1 ⟨rfl,f⟩;clear u0 u1 u2 u3 u4 u5 z;obtain ⟨⟨u0,u1,u2,u3,u4,u5⟩,z⟩:=lH (B.o.old f))
  refine (I.o w1).mono ?_
  rintro e U ⟨rfl,j⟩
  obtain ⟨X,b2,N,m2⟩:=j.own (w:=w1) (((Old.refl' w1).ag _).ag _) (fun k M=>by have:=mJ M;omega)
  clear j u0 u1 u2 u3 u4 u5 z
  obtain ⟨⟨u0,u1,u2,u3,u4,u5⟩,z⟩:=lH ((B.o.old f).old N)
  have J:=f.size
  have K:=aa (S.o U w1.heap.size X b2)
  go_wp2_with (go_at_call 148;refine K.o.mono ?_;rintro e Y ⟨rfl,j⟩)
  obtain ⟨Z,O,P,m3⟩:=j.own (w:=w1) N m2
  have L:=aa (T.o Y w1.heap.size Z (by have:=O;simp only [qz] at this;rwa [A.o] at this))
  clear u0 u1 u2 u3 u4 u5 z j O m3 b2 m2
  go_wp2_with (go_at_call 149;refine L.o.mono ?_;rintro e w4 ⟨A',D,rfl,C,o4⟩)
  go_ret2
  exact ⟨A',D,rfl,dX C (by have:=P.size;simp at J;omega),((G.o.trans' f).trans' P).trans' o4⟩
def aG.zero:aG:=⟨0,0,0,0,0,ByteArray.empty⟩
def qC (q:aG):List Int:=if q.q.may then gB q.client.toNat ++ gB q.seq.toNat ++ gB q.kind.toNat ++ gB q.id.toNat ++ gB q.eD.toNat ++ jD q.data else []
def qf (r:Rd):aG×Rd:=
 let (c,r):=r.num 4
 let (s,r):=r.num 1073741824
 let (k,r):=r.num 6
 let (i,r):=r.num 31
 let (m,r):=r.num 100
 let (d,r):=r.text 64
 (⟨c,s,k,i,m,iA d⟩,r)
def qY (b:List Int):Option aG:=let (q,r):=qf ⟨b,false⟩;if r.end_=0/\q.q.may=true then some q else none
theorem JZ (bx g most v:Nat) (r d:Rd) (h:r.num most=(v,d)) (z:most<=1099511627776) (j:r.b.length<=1000000) (w:World) (l:dI w g r) (f:Bk w bx 208 #[g]) :
 aS 214 #[zi most,av bx 0] w fun e w'=>e=.returned (zi v)/\dI w' g d/\Fr (fun k=>k=g) w w':=by
 have i:=(r.fq most).1
 rw [h] at i
 have m:v<=most:=i
 have n:=aa (wh g r most v d h af j w l)
 obtain ⟨c0,f0⟩:=pK f
 have p:=f.lt
 have s:IntKind.u64.wrap (most:Int)=most:=nS _ af
 have u:wrap64 (v:Int)=v:=IntWalk.wrap64_in _ af
 clear i h f j l
 go_enter func214,ntmps214
 go_wp2_with (go_at_call 157;refine n.o.mono ?_;rintro e w1 ⟨rfl,x,y⟩)
 go_ret
 exact ⟨rfl,x,y⟩
theorem dI.alloc {w:World} {g:Nat} {r:Rd} (h:dI w g r) (o:Obj):dI (w.alloc o) g r:=h.old ((Old.refl' w).ag o)
theorem dI.bx {w w':World} {g b:Nat} {r:Rd} {t:TypeId} {cs:Array Value} (h:dI w g r) (e:Bk w b t cs) (d:t≠284) (f:Fr (fun k=>k=g) w w'):Bk w' b t cs:=
 e.fr f (by
  obtain ⟨A,c,i,_⟩:=h.ex
  exact Bk.vC e i d)
theorem Rd.NH (r:Rd) (most:Nat):(r.text most).2.b.length<=r.b.length:=by
 unfold Rd.text
 have h:=r.fq most
 generalize r.num most=p at h ⊢
 obtain ⟨v,d⟩:=p
 simp only at h ⊢
 split
 ·exact h.2
 ·split
  ·exact h.2
  ·simp;omega
theorem J2 (g:Nat) (r Y:Rd) (q:aG) (h:qf r=(q,Y)) (hl:r.b.length<=1000000) (w:World) (hr:dI w g r) :
 aS 156 #[g] w fun e w'=>e=.returned (.agg #[zi q.client,zi q.seq,zi q.kind,zi q.id,zi q.eD,.string q.data])/\dI w' g Y/\Fr (fun k=>k=g) w w':=by
 have E0:=r.fq 4
 obtain ⟨l,C,H⟩:∃ (v:Nat) (C:Rd),r.num 4=(v,C):=⟨_,_,rfl⟩
 rw [H] at E0
 have E1:=C.fq 1073741824
 obtain ⟨m,r2,I⟩:∃ (v:Nat) (r2:Rd),C.num 1073741824=(v,r2):=⟨_,_,rfl⟩
 rw [I] at E1
 have E2:=r2.fq 6
 obtain ⟨n,r3,J⟩:∃ (v:Nat) (x:Rd),r2.num 6=(v,x):=⟨_,_,rfl⟩
 rw [J] at E2
 have E3:=r3.fq 31
 obtain ⟨s,r4,h4⟩:∃ (v:Nat) (x:Rd),r3.num 31=(v,x):=⟨_,_,rfl⟩
 rw [h4] at E3
 have E4:=r4.fq 100
 obtain ⟨y,r5,h5⟩:∃ (v:Nat) (x:Rd),r4.num 100=(v,x):=⟨_,_,rfl⟩
 rw [h5] at E4
 obtain ⟨t,r6,h6⟩:∃ (v:List Int) (x:Rd),r5.text 64=(v,x):=⟨_,_,rfl⟩
 have e:((⟨l,m,n,s,y,iA t⟩:aG),r6)=(q,Y):=by rw [<- h];unfold qf;rw [H];simp only [I,J,h4,h5,h6]
 injection e with e1 e2
 subst e1 e2
 simp only at E0 E1 E2 E3 E4
 have D:=fV w (.cells #[g] 208) 36 #[zi 0,zi 0,zi 0,zi 0,zi 0,.string ByteArray.empty]
 have d:=(Bk.new w 208 #[g]).alloc (.cells #[zi 0,zi 0,zi 0,zi 0,zi 0,.string ByteArray.empty] 36)
 have z:dI ((w.alloc (.cells #[g] 208)).alloc (.cells #[zi 0,zi 0,zi 0,zi 0,zi 0,.string ByteArray.empty] 36)) g r:=hr.old (((Old.refl' w).ag _).ag _)
 have hgl:=hr.lt
 have c1:=aa (fun W f d=>JZ w.heap.size g 4 l r C H af hl W f d)
 have c2:=aa (fun W f d=>JZ w.heap.size g 1073741824 m C r2 I af af W f d)
 have c3:=aa (fun W f d=>JZ w.heap.size g 6 n r2 r3 J af af W f d)
 have c4:=aa (fun W f d=>JZ w.heap.size g 31 s r3 r4 h4 af af W f d)
 have c5:=aa (fun W f d=>JZ w.heap.size g 100 y r4 r5 h5 af af W f d)
 have c6:=aa (fun W f=>Ai g r5 64 t r6 h6 af af W f)
 clear H I J h4 h5 h6 h
 go_enter func156,ntmps156
 go_wp2_with fail
 refine (c1.o _ z d).mono ?_
 rintro e w1 ⟨rfl,K,L⟩
 have Z:=z.bx d aW L
 have X1:=z.bx D aW L
 go_wp2_with fail
 refine (c2.o _ K Z).mono ?_
 rintro e w2 ⟨rfl,M,N⟩
 have B2:=K.bx Z aW N
 have X2:=K.bx X1 aW N
 go_wp2_with fail
 refine (c3.o _ M B2).mono ?_
 rintro e w3 ⟨rfl,O,P⟩
 have B3:=M.bx B2 aW P
 have X3:=M.bx X2 aW P
 go_wp2_with fail
 refine (c4.o _ O B3).mono ?_
 rintro e w4 ⟨rfl,R,F4⟩
 have B4:=O.bx B3 aW F4
 have X4:=O.bx X3 aW F4
 go_wp2_with fail
 refine (c5.o _ R B4).mono ?_
 rintro e B ⟨rfl,R5,S⟩
 have B5:=R.bx B4 aW S
 have X5:=R.bx X4 aW S
 obtain ⟨d0,df0⟩:=pK B5
 have hbl:=B5.lt
 have A:=R5.alloc (.cells #[zi l,zi m,zi n,zi s,zi y,.string ByteArray.empty] 36)
 have Q5:=Bk.new B 36 #[zi l,zi m,zi n,zi s,zi y,.string ByteArray.empty]
 have E:=X5.alloc (.cells #[zi l,zi m,zi n,zi s,zi y,.string ByteArray.empty] 36)
 have hs5:w.heap.size + 1 < B.heap.size:=X5.lt
 have F15:=aa ((((L.trans N).trans P).trans F4).trans S)
 clear L N P F4 S Z B2 B3 B4 X1 X2 X3 X4 K M O R d D z X5 R5
 go_wp2_with fail
 refine (c6.o _ A).mono ?_
 rintro e T ⟨rfl,R6,U⟩
 have V:=A.bx Q5 aW U
 have X:=A.bx E aW U
 have F:=aa (show dI (((((((T.setCell ⟨B.heap.size,5,none⟩ (.string (iA t))).setCell ⟨w.heap.size + 1,0,none⟩ (zi l)).setCell ⟨w.heap.size + 1,1,none⟩ (zi m)).setCell ⟨w.heap.size + 1,2,none⟩ (zi n)).setCell ⟨w.heap.size + 1,3,none⟩ (zi s)).setCell ⟨w.heap.size + 1,4,none⟩ (zi y)).setCell ⟨w.heap.size + 1,5,none⟩ (.string (iA t))) g r6/\
  Fr (fun k=>k=g) w (((((((T.setCell ⟨B.heap.size,5,none⟩ (.string (iA t))).setCell ⟨w.heap.size + 1,0,none⟩ (zi l)).setCell ⟨w.heap.size + 1,1,none⟩ (zi m)).setCell ⟨w.heap.size + 1,2,none⟩ (zi n)).setCell ⟨w.heap.size + 1,3,none⟩ (zi s)).setCell ⟨w.heap.size + 1,4,none⟩ (zi y)).setCell ⟨w.heap.size + 1,5,none⟩ (.string (iA t))) by
  have G:w.heap.size + 1≠B.heap.size:=af
  have Y0:=X.far (p:=⟨B.heap.size,5,none⟩) G (.string (iA t))
  have Y1:=Y0.bH 0 (zi l)
  have Y2:=Y1.bH 1 (zi m)
  have Y3:=Y2.bH 2 (zi n)
  have Y4:=Y3.bH 3 (zi s)
  have Y5:=Y4.bH 4 (zi y)
  refine ⟨((((((R6.far V aW aW _).far Y0 aW aW _).far Y1 aW aW _).far Y2 aW aW _).far Y3 aW aW _).far Y4 aW aW _).far Y5 aW aW _,?_⟩
  have Ap:∀ {W:World} (b j:Nat) (u:Value),w.heap.size<=b->Fr (fun k=>k=g) w W->Fr (fun k=>k=g) w (W.setCell ⟨b,j,none⟩ u):=fun b j u hb h=>h.setCell (p:=⟨b,j,none⟩) (.inl hb) u
  have f6:Fr (fun k=>k=g) w T:=((((Fr.aj ((Old.refl' w).ag _)).alloc _).trans F15.o).alloc _).trans U
  exact Ap _ _ _ af (Ap _ _ _ af (Ap _ _ _ af (Ap _ _ _ af (Ap _ _ _ af (Ap _ _ _ af (Ap _ _ _ af f6)))))))
 obtain ⟨⟨y0,y1,y2,y3,y4,y5⟩,m1⟩:=lH V
 obtain ⟨⟨x0,x1,x2,x3,x4,x5⟩,l1⟩:=lH X
 have fq0:=V.frozen 5
 have fx:∀ i,T.frozen? ⟨w.heap.size + 1,i,none⟩=false:=fun i=>X.frozen i
 have G:w.heap.size + 1≠B.heap.size:=af
 clear R6 U V X A Q5 E B5 d0 df0
 go_wp2_with fail
 exact bodyPost_ret (v:=.agg #[zi l,zi m,zi n,zi s,zi y,.string (iA t)]) (by simp [results,results156,go_sem,x0,x1,x2,x3,x4,x5,l1,m1,hs5]) rfl ⟨rfl,F.o⟩
theorem DV (r:Rd):(qf r).2.b.length<=r.b.length:=by
 unfold qf
 have h0:=(r.fq 4).2
 generalize r.num 4=p at *;obtain ⟨e,d⟩:=p
 have f:=(d.fq 1073741824).2
 simp only at *
 generalize d.num 1073741824=p at *;obtain ⟨g,r2⟩:=p
 have h:=(r2.fq 6).2
 simp only at *
 generalize r2.num 6=p at *;obtain ⟨i,r3⟩:=p
 have j:=(r3.fq 31).2
 simp only at *
 generalize r3.num 31=p at *;obtain ⟨k,r4⟩:=p
 have h4:=(r4.fq 100).2
 simp only at *
 generalize r4.num 100=p at *;obtain ⟨l,r5⟩:=p
 have h5:=r5.NH 64
 simp only at *
 generalize r5.text 64=p at *;obtain ⟨m,r6⟩:=p
 simp only at *
 omega
def G8 (bs:List Int):aG×Int:=match qY bs with
 | some q=>(q,0)
 | none=>(aG.zero,2)
theorem J3 (A:Option Addr) (n c:Nat) (K:List Int) (hl:K.length=n) (hn:n<=1000000) (h8:iq K) (q:aG) (dd:Int) (hq:G8 K=(q,dd)) (w:World) (h:ah w A (eB K)) :
 aS 89 #[.slice A n c] w fun e w'=>e=.returned (.tuple #[.agg #[zi q.client,zi q.seq,zi q.kind,zi q.id,zi q.eD,.string q.data],zi dd])/\Old w w':=by
 obtain ⟨z,r0,h0⟩:∃ (z:aG) (r0:Rd),qf ⟨K,false⟩=(z,r0):=⟨_,_,rfl⟩
 have O:=DV ⟨K,false⟩
 rw [h0] at O
 simp only at O
 have cN:=aa (Fj A n c K hl hn h8 _ (h.alloc (.cells #[zi 0,zi 0,zi 0,zi 0,zi 0,.string ByteArray.empty] 36)))
 have cG:=aa (fun g W B=>J2 g ⟨K,false⟩ r0 z h0 jR W B)
 obtain ⟨ed,P⟩:=aR (r0.end_)
 have cE:=aa (fun g W B=>Qa g r0 ed P af W B)
 obtain ⟨mb,R⟩:=aR (z.q.may)
 have cM:=aa (fun W=>lG z.client z.seq z.kind z.id z.eD z.data mb R W)
 have p:(if ed=0/\mb=true then (z,(0:Int)) else (aG.zero,2))=(q,dd):=by
  rw [<- hq];unfold G8 qY;rw [h0];simp only [P,R];split <;> rfl
 have B0:=Bk.new w 36 #[zi 0,zi 0,zi 0,zi 0,zi 0,.string ByteArray.empty]
 have f:=aa B0
 clear hq h0 O P R h hl h8
 obtain ⟨q1,r,s,u,x,y⟩:=z
 simp only at cM cG
 by_cases hc:ed=0/\mb=true
 ·rw [if_pos hc] at p
  obtain ⟨rfl,rfl⟩:=hc
  injection p with e1 e2
  subst e1 e2
  go_enter func89,ntmps89
  go_wp2_with fail
  refine cN.o.mono ?_
  rintro e w1 ⟨g,rfl,L,B,M⟩
  go_wp2_with fail
  refine (cG.o g w1 B).mono ?_
  rintro e j ⟨rfl,l,m⟩
  have d:Old (w.alloc (.cells #[zi 0,zi 0,zi 0,zi 0,zi 0,.string ByteArray.empty] 36)) j:=Old.iE M m (fun k hk=>by subst hk;exact L)
  have V:=(f.o.old d).alloc (.cells #[zi q1,zi r,zi s,zi u,zi x,.string y] 36)
  have F:=Bk.new j 36 #[zi q1,zi r,zi s,zi u,zi x,.string y]
  have hsz:=d.size
  have N:=l.alloc (.cells #[zi q1,zi r,zi s,zi u,zi x,.string y] 36)
  obtain ⟨⟨x0,x1,x2,G,H,I⟩,J⟩:=lH (f.o.old d)
  obtain ⟨⟨X,y1,y2,Y,Z,y5⟩,m1⟩:=lH F
  have C:=aa (cE.o g _ N)
  have OF:=aa (show Old w (j.alloc (.cells #[zi q1,zi r,zi s,zi u,zi x,.string y] 36)) from ((Old.refl' w).ag _).trans' (d.ag _))
  have S:=aa (show Old w j from ((Old.refl' w).ag _).trans' d)
  have D:w.heap.size < j.heap.size:=(f.o.old d).lt
  have fz:∀ i,j.frozen? ⟨w.heap.size,i,none⟩=false:=fun i=>(f.o.old d).frozen i
  clear B l m M L N d
  go_wp2_with (go_at_call 155;refine C.o.mono ?_;rintro e w3 ⟨rfl,rfl⟩)
  refine (cM.o _).mono ?_
  rintro e w4 ⟨rfl,E⟩
  have T:=V.old E
  have Q4:=F.old E
  have hs4:=E.size
  clear x0 x1 x2 G H I J X y1 y2 Y Z y5 m1
  obtain ⟨⟨x0,x1,x2,G,H,I⟩,J⟩:=lH T
  obtain ⟨⟨X,y1,y2,Y,Z,y5⟩,m1⟩:=lH Q4
  have fx:∀ i,w4.frozen? ⟨w.heap.size,i,none⟩=false:=fun i=>T.frozen i
  have U:=aa (OF.o.trans' E)
  have hne:w.heap.size≠j.heap.size:=af
  clear T Q4 V F E
  go_wp2_with fail
  exact bodyPost_ret (v:=.tuple #[.agg #[zi q1,zi r,zi s,zi u,zi x,.string y],zi 0]) (by simp [results,results89,go_sem,x0,x1,x2,G,H,I,J,D,qT]) rfl ⟨rfl,((((((((((((U.o).aJ (dN _) _)).aJ (dN _) _)).aJ (dN _) _)).aJ (dN _) _)).aJ (dN _) _)).aJ (dN _) _)⟩
 ·rw [if_neg hc] at p
  injection p with e1 e2
  subst e1 e2
  simp only [aG.zero]
  by_cases he:ed=0
  ·subst he
   have hmf:mb=false:=by simpa using hc
   subst hmf
   go_enter func89,ntmps89
   go_wp2_with fail
   refine cN.o.mono ?_
   rintro e w1 ⟨g,rfl,L,B,M⟩
   go_wp2_with fail
   refine (cG.o g w1 B).mono ?_
   rintro e j ⟨rfl,l,m⟩
   have d:Old (w.alloc (.cells #[zi 0,zi 0,zi 0,zi 0,zi 0,.string ByteArray.empty] 36)) j:=Old.iE M m (fun k hk=>by subst hk;exact L)
   have V:=(f.o.old d).alloc (.cells #[zi q1,zi r,zi s,zi u,zi x,.string y] 36)
   have F:=Bk.new j 36 #[zi q1,zi r,zi s,zi u,zi x,.string y]
   have hsz:=d.size
   have N:=l.alloc (.cells #[zi q1,zi r,zi s,zi u,zi x,.string y] 36)
   obtain ⟨⟨x0,x1,x2,G,H,I⟩,J⟩:=lH (f.o.old d)
   obtain ⟨⟨X,y1,y2,Y,Z,y5⟩,m1⟩:=lH F
   have C:=aa (cE.o g _ N)
   have OF:=aa (show Old w (j.alloc (.cells #[zi q1,zi r,zi s,zi u,zi x,.string y] 36)) from ((Old.refl' w).ag _).trans' (d.ag _))
   have S:=aa (show Old w j from ((Old.refl' w).ag _).trans' d)
   have D:w.heap.size < j.heap.size:=(f.o.old d).lt
   have fz:∀ i,j.frozen? ⟨w.heap.size,i,none⟩=false:=fun i=>(f.o.old d).frozen i
   clear B l m M L N d
   go_wp2_with (go_at_call 155;refine C.o.mono ?_;rintro e w3 ⟨rfl,rfl⟩)
   refine (cM.o _).mono ?_
   rintro e w4 ⟨rfl,E⟩
   have T:=V.old E
   have Q4:=F.old E
   have hs4:=E.size
   clear x0 x1 x2 G H I J X y1 y2 Y Z y5 m1
   obtain ⟨⟨x0,x1,x2,G,H,I⟩,J⟩:=lH T
   obtain ⟨⟨X,y1,y2,Y,Z,y5⟩,m1⟩:=lH Q4
   have fx:∀ i,w4.frozen? ⟨w.heap.size,i,none⟩=false:=fun i=>T.frozen i
   have U:=aa (OF.o.trans' E)
   have hne:w.heap.size≠j.heap.size:=af
   clear T Q4 V F E
   go_wp2_with fail
   exact bodyPost_ret (v:=.tuple #[.agg #[zi 0,zi 0,zi 0,zi 0,zi 0,.string ByteArray.empty],zi 2]) (by simp [results,results89,go_sem,x0,x1,x2,G,H,I,J,D,qT]) rfl ⟨rfl,((((((((((((U.o).aJ (dN _) _)).aJ (dN _) _)).aJ (dN _) _)).aJ (dN _) _)).aJ (dN _) _)).aJ (dN _) _)⟩
  ·have he':(ed != 0)=true:=by simpa using he
   clear hc he
   go_enter func89,ntmps89
   go_wp2_with fail
   refine cN.o.mono ?_
   rintro e w1 ⟨g,rfl,L,B,M⟩
   go_wp2_with fail
   refine (cG.o g w1 B).mono ?_
   rintro e j ⟨rfl,l,m⟩
   have d:Old (w.alloc (.cells #[zi 0,zi 0,zi 0,zi 0,zi 0,.string ByteArray.empty] 36)) j:=Old.iE M m (fun k hk=>by subst hk;exact L)
   have V:=(f.o.old d).alloc (.cells #[zi q1,zi r,zi s,zi u,zi x,.string y] 36)
   have F:=Bk.new j 36 #[zi q1,zi r,zi s,zi u,zi x,.string y]
   have hsz:=d.size
   have N:=l.alloc (.cells #[zi q1,zi r,zi s,zi u,zi x,.string y] 36)
   obtain ⟨⟨x0,x1,x2,G,H,I⟩,J⟩:=lH (f.o.old d)
   obtain ⟨⟨X,y1,y2,Y,Z,y5⟩,m1⟩:=lH F
   have C:=aa (cE.o g _ N)
   have OF:=aa (show Old w (j.alloc (.cells #[zi q1,zi r,zi s,zi u,zi x,.string y] 36)) from ((Old.refl' w).ag _).trans' (d.ag _))
   have S:=aa (show Old w j from ((Old.refl' w).ag _).trans' d)
   have D:w.heap.size < j.heap.size:=(f.o.old d).lt
   have fz:∀ i,j.frozen? ⟨w.heap.size,i,none⟩=false:=fun i=>(f.o.old d).frozen i
   clear B l m M L N d
   go_wp2_with (go_at_call 155;refine C.o.mono ?_;rintro e w3 ⟨rfl,rfl⟩)
   exact bodyPost_ret (v:=.tuple #[.agg #[zi 0,zi 0,zi 0,zi 0,zi 0,.string ByteArray.empty],zi 2]) (by simp [results,results89,go_sem,x0,x1,x2,G,H,I,J,D,qT]) rfl ⟨rfl,((((((((((((S.o).aJ (dN _) _)).aJ (dN _) _)).aJ (dN _) _)).aJ (dN _) _)).aJ (dN _) _)).aJ (dN _) _).ag _⟩
def Qf (l:List Oper) (j i:Nat):Bool:=match l[j]? with
 | some o=>jX o i
 | none=>false
section
variable {P:Program} {Q:Exit->Act->World->Prop} {l:List Oper} {a0:Act} {R:Nat->Value->World->Prop} {S:(Nat->Option Value)->World->Prop} {T:World->World->Prop}
abbrev Vv (l:List Oper) (σ:Nat->Option Value):Prop:=∀ j oj,l[j]?=some oj->(σ j).isSome=true->∀ e∈oj.after,Region.binds .any e=true->(σ e.on).isSome=true
theorem prev {σ:Nat->Option Value} (d:Vv l σ) (j i:Nat) (h:Qf l j i=true) (e:(σ j).isSome=true):(σ i).isSome=true:=by
 unfold Qf at h
 split at h
 ·rename_i o f
  exact kH (d j o f e) i h
 ·cases h
theorem DW {k:Nat} {o:Oper} (deps:List (Nat×Tmp)) (outs:List (Tmp×Value)) (i:o.guard=none) (m:l[k]?=some o) (hd:dw l o a0.tmps.size deps=true) (n:gN l k outs=true)
 (r:(outs.map fun p=>a0.tmps[p.1]?)=(outs.map fun p=>some p.2))
 (h:∀ (σ:Nat->Option Value) (a:Act) (w:World),Later l σ k->(∀ j,jX o j=true->(σ j).isSome=true)->S σ w->Vv l σ->
  Given R w σ a.eval (aU a.eval (Oper.wp P o a w (fun s w'=>∃ v,s=a.put o.dst v/\R k v w'/\T w w'/\S (upd σ k v) w') Q) outs) deps):ig P Q l a0 R S T k o:=by
 intro σ a w g e u x f d
 exact eT (by simpa using m) i (gp g d f n r (fE (deps:=deps) e x hd (h σ a w (pG g d) (kH e) u d)))
end
end Go.Proofs.YthihpfpbiajddaaGreat
