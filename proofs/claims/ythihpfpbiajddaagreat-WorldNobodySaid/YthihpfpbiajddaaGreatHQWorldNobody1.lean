/- Parts of the proof. -/
import Derived.Test.YthihpfpbiajddaaGreatHQWorldNobody0
import Derived.Deep.AppendLies
import Derived.Laws.AppendOwnNone
import Derived.Deep.RegionLaw
import Derived.Maps.OwnIn
set_option maxRecDepth 100000
set_option maxHeartbeats 8000000
open Go.Proofs.Tryz
namespace Go.Proofs.YthihpfpbiajddaaGreat
open Go.RowKit
theorem cz {w:World} {g:Nat} {t:TypeId} {cs:Array Value} (h:Bk w g t cs):ah w (some ⟨g,0,none⟩) cs.toList:=fun _=>
 ⟨g,0,rfl,h.lt,fun k u d=>by rw [mE,h.cell];simpa using d⟩
theorem fV (W:World) (o:Obj) (t:TypeId) (cs:Array Value):Bk ((W.alloc o).alloc (.cells cs t)) (W.heap.size + 1) t cs:=by
 have:=Bk.new (W.alloc o) t cs
 rwa [jW] at this
theorem bz {w:World} {base:Nat} {e:TypeId} {size n:Nat} {v:Value} {xs:List Value} (h:w.ownsRow base e size v n xs) {p:Addr} (d:v.ownBlock≠some p.block) (u:Value):(w.setCell p u).ownsRow base e size v n xs:=
 h.kept (row:=some p.block) ⟨rfl,rfl,rfl,by simp [World.setCell],fun k _ f=>Below.heap_setCell w p u k (fun e=>f (by rw [e]))⟩ (.inr d)
theorem bF {w w':World} {base:Nat} {e:TypeId} {size n:Nat} {v:Value} {xs:List Value} (h:w.ownsRow base e size v n xs) (d:Old w w'):w'.ownsRow base e size v n xs:=
 h.kept (row:=none) ⟨d.os,d.tape,d.output,d.size,fun k f _=>d.block k f⟩ (by cases g:v.ownBlock <;> simp)
theorem dh {S:Nat->Prop} {w w':World} {base:Nat} {e:TypeId} {size n:Nat} {v:Value} {xs:List Value} (h:w.ownsRow base e size v n xs) (l:Fr S w w') (m:∀ k,v.ownBlock=some k->¬ S k):w'.ownsRow base e size v n xs:=by
 refine ⟨h.1,?_⟩
 rcases h.2 with p | ⟨g,f,i,rfl,j,d,rest⟩
 ·exact .inl p
 ·refine .inr ⟨g,f,i,rfl,j,?_,rest⟩
  rw [l.block g (Array.getElem?_eq_some_iff.1 d).1 (m g rfl)]
  exact d
theorem Jc {w:World} {base:Nat} {e:TypeId} {size n:Nat} {v:Value} {xs:List Value} (h:w.ownsRow base e size v n xs):w.drew.ownsRow base e size v n xs:=h
theorem bI {w:World} {base:Nat} {e:TypeId} {size n:Nat} {v:Value} {xs:List Value} (h:w.ownsRow base e size v n xs):∃ A c,v=.slice A n c/\n<=c/\(∀ a,A=some a->base<=a.block/\a.block < w.heap.size/\a=⟨a.block,0,none⟩):=by
 rcases h.2 with ⟨rfl,rfl⟩ | ⟨g,d,f,rfl,i,j,k,_⟩
 ·exact ⟨_,_,rfl,dN _,fun _ h=>by cases h⟩
 ·exact ⟨_,_,rfl,k,fun a l=>by cases l;exact ⟨i,(Array.getElem?_eq_some_iff.1 j).1,rfl⟩⟩
section
variable {P:Program} (w:World)
theorem nk (base:Nat) (t ty e:TypeId) (i:TypeInfo) (size c:Nat) (h:P.underlying t=some (.slice e)) (j:P.info? e=some i)
 (v:Value) (n:Nat) (xs:List Value) (d:w.ownsRow base e size v n xs) :
 (Builtin.append_ #[t,t] ty #[v,.slice none 0 c]).run P w=.ok v w:=by
 rcases d.2 with ⟨rfl,rfl⟩ | ⟨g,k,l,rfl,_,_,f,_⟩
 ·simp [Builtin.append_,run_underlying h,sizeOf,typeInfo,j,Builtin.lenOf,Builtin.firstCells]
 ·simp [Builtin.append_,run_underlying h,sizeOf,typeInfo,j,Builtin.lenOf,Builtin.firstCells,f,storeCells]
def fZ (w:World) (base:Nat) (e:TypeId) (size:Nat) (v:Value) (n':Nat) (xs':List Value) (v':Value) (w':World):Prop:=
 w'.ownsRow base e size v' n' xs'/\w.grownBy w' v.ownBlock/\(v'.ownBlock=v.ownBlock∨v'.ownBlock=some w.heap.size)
theorem MZ (t ty:TypeId) (base:Nat) (e:TypeId) (i:TypeInfo) (z:Value) (size bytes:Nat) (B:P.underlying t=some (.slice e)) (C:P.info? e=some i) (F:i.zero=some z)
 (g:i.size=size) (r:i.bytes=bytes) (s:z.cells.size=size) (p:0 < size)
 (v:Value) (n:Nat) (xs:List Value) (d:w.ownsRow base e size v n xs)
 (A:Option Addr) (m c:Nat) (news:List Value) (D:news.length=m * size) (E:ah w A news) (G:∀ u∈news,u.oneCell'=true)
 (x:n + m<=maxLen) (f:(n + m) * bytes<=140737488355328) (j:base<=w.heap.size) :
 ∃ v' w',(Builtin.append_ #[t,t] ty #[v,.slice A m c]).run P w=.ok v' w'/\fZ w base e size v (n + m) (xs ++ news) v' w':=by
 have k:∀ l,A=some l->∃ v' w',(Builtin.append_ #[t,t] ty #[v,.slice (some l) m c]).run P w=.ok v' w'/\fZ w base e size v (n + m) (xs ++ news) v' w':=fun l y=>by
  subst y
  obtain ⟨v',w',H,I,J,_,h5⟩:=run_append_own_at (P:=P) w base t ty e i z size bytes B C F g r s p v n xs d l m c news D (ah.news E) G x f j
  exact ⟨v',w',H,I,J,h5⟩
 cases A with
 | some l=>exact k l rfl
 | none=>
  have K:news=[]:=by
   rcases Classical.em (news=[]) with h | h
   ·exact h
   ·obtain ⟨_,_,e,_⟩:=E h
    cases e
  subst K
  have L:m=0:=by
   rcases Nat.eq_zero_or_pos m with h | h
   ·exact h
   ·have:=Nat.mul_pos h p
    simp at D
    omega
  subst L
  exact ⟨v,w,nk w base t ty e i size c B C v n xs d,by simpa using d,World.grownBy.refl w _,.inl rfl⟩
theorem qU {o:Oper} {a:Act} {K:Act->World->Prop} {Q:Exit->Act->World->Prop} (s x:Operand) (t:TypeId)
 (D:o.op=.call { callee:=.builtin .append,args:=#[s,x],argTypes:=#[t,t] })
 (base:Nat) (e:TypeId) (i:TypeInfo) (z:Value) (size bytes:Nat) (E:P.underlying t=some (.slice e)) (F:P.info? e=some i) (G:i.zero=some z)
 (f:i.size=size) (l:i.bytes=bytes) (p:z.cells.size=size) (r:0 < size)
 (v:Value) (n:Nat) (xs:List Value) (H:a.eval s=v) (j:w.ownsRow base e size v n xs)
 (A:Option Addr) (m c:Nat) (news:List Value) (I:a.eval x=.slice A m c) (J:news.length=m * size) (L:ah w A news) (M:∀ u∈news,u.oneCell'=true)
 (y:n + m<=maxLen) (d:(n + m) * bytes<=140737488355328) (g:base<=w.heap.size) (N:Nat) (O:n + m=N) (B:List Value) (hy:xs ++ news=B)
 (h:∀ A' k w',fZ w base e size v N B (.slice A' N k) w'->K (a.put o.dst (.slice A' N k)) w'):o.wp P a w K Q:=by
 subst O hy
 obtain ⟨v',w',R,C⟩:=MZ (P:=P) w t o.type base e i z size bytes E F G f l p r v n xs j A m c news J L M y d g
 obtain ⟨A',k,rfl,_⟩:=bI C.1
 unfold Oper.wp execOp
 simp only [D,resolve,invoke,builtin,Sem.run_bind,Sem.run_pure,Result.andThen_ok,List.map_toArray,BB,IV,H,I,R]
 exact h A' k w' C
theorem bT {ops:Array Oper} {rest:List Oper} {o:Oper} {a:Act} {Q:Exit->Act->World->Prop} (l:o.guard=none) (s x:Operand) (t:TypeId)
 (D:o.op=.call { callee:=.builtin .append,args:=#[s,x],argTypes:=#[t,t] })
 (base:Nat) (e:TypeId) (i:TypeInfo) (z:Value) (size bytes:Nat) (E:P.underlying t=some (.slice e)) (F:P.info? e=some i) (G:i.zero=some z)
 (f:i.size=size) (p:i.bytes=bytes) (r:z.cells.size=size) (y:0 < size)
 (v:Value) (n:Nat) (xs:List Value) (H:a.eval s=v) (j:w.ownsRow base e size v n xs)
 (A:Option Addr) (m c:Nat) (news:List Value) (I:a.eval x=.slice A m c) (J:news.length=m * size) (K:ah w A news) (L:∀ u∈news,u.oneCell'=true)
 (B:n + m<=maxLen) (d:(n + m) * bytes<=140737488355328) (g:base<=w.heap.size) (N:Nat) (M:n + m=N) (C:List Value) (hy:xs ++ news=C)
 (h:∀ A' k w',fZ w base e size v N C (.slice A' N k) w'->wpList P ops Q rest (a.put o.dst (.slice A' N k)) w'):wpList P ops Q (o :: rest) a w:=
 wpList_plain l fun _ O=>qU w s x t D base e i z size bytes E F G f p r y v n xs H j A m c news I J K L B d g N M C hy fun A' k w' R=>O _ _ (h A' k w' R)
theorem Jd {ops:Array Oper} {o:Oper} {a:Act} {K:Act->World->Prop} {Q:Exit->Act->World->Prop} {E:Prop} (k:o.guard=none) (s x:Operand) (t:TypeId)
 (D:o.op=.call { callee:=.builtin .append,args:=#[s,x],argTypes:=#[t,t] })
 (base:Nat) (e:TypeId) (i:TypeInfo) (z:Value) (size bytes:Nat) (F:P.underlying t=some (.slice e)) (G:P.info? e=some i) (H:i.zero=some z)
 (f:i.size=size) (l:i.bytes=bytes) (p:z.cells.size=size) (r:0 < size)
 (v:Value) (n:Nat) (xs:List Value) (I:a.eval s=v) (j:w.ownsRow base e size v n xs)
 (A:Option Addr) (m c:Nat) (news:List Value) (J:a.eval x=.slice A m c) (L:news.length=m * size) (M:ah w A news) (O:∀ u∈news,u.oneCell'=true)
 (y:n + m<=maxLen) (d:(n + m) * bytes<=140737488355328) (g:base<=w.heap.size) (N:Nat) (R:n + m=N) (B:List Value) (hy:xs ++ news=B)
 (h:∀ A' C w',fZ w base e size v N B (.slice A' N C) w'->K (a.put o.dst (.slice A' N C)) w') :
 if Region.wanted o (yielded ops a.tmps)=true then Oper.wp P o a w K Q else E:=by
 have S:Region.wanted o (yielded ops a.tmps)=true:=by simp [Region.wanted,k]
 rw [if_pos S]
 exact qU w s x t D base e i z size bytes F G H f l p r v n xs I j A m c news J L M O y d g N R B hy h
end
section
variable {w w':World} {base:Nat} {e:TypeId} {size n':Nat} {v v':Value} {xs':List Value}
theorem fZ.own (h:fZ w base e size v n' xs' v' w'):w'.ownsRow base e size v' n' xs':=h.1
theorem fZ.old {w0:World} (h:fZ w base e size v n' xs' v' w') (d:Old w0 w) (f:∀ k,v.ownBlock=some k->w0.heap.size<=k):Old w0 w':=
 d.grown h.2.1 d.size f
theorem fZ.block (h:fZ w base e size v n' xs' v' w') {k:Nat} (f:k < w.heap.size) (d:v.ownBlock≠some k):w'.heap[k]?=w.heap[k]?:=h.2.1.block k f (fun e=>d e.symm)
theorem fZ.bk {g:Nat} {t:TypeId} {cs:Array Value} (h:fZ w base e size v n' xs' v' w') (f:Bk w g t cs) (d:v.ownBlock≠some g):Bk w' g t cs:=(h.block f.lt d).trans f
theorem fZ.fr {S:Nat->Prop} (h:fZ w base e size v n' xs' v' w') (d:∀ k,k < w.heap.size->v.ownBlock=some k->S k):Fr S w w':=Fr.gU h.2.1 d
end
theorem nX {P:Program} {w:World} {f:FuncId} {fn:Func} (d:Array Value) (g:P.funcs[f]?=some fn) (h:(fn.name == "runtime.NumGoroutine")=false) (i:fn.body.isNone=false) :
 (callFunc f d).run P w=.ok (.enter f d) w:=by
 unfold callFunc
 rw [Sem.run_bind]
 show Sem.run P (match P.funcs[f]? with
  | none=>_
  | some fn=>_) w=_
 rw [g]
 simp only [h,i,Bool.false_eq_true,if_false,Sem.run_pure]
theorem yM {P:Program} {w:World} {ops:Array Oper} {o:Oper} {a:Act} {K:Act->World->Prop} {Q:Exit->Act->World->Prop} {E:Prop} (g:o.guard=none) (f:FuncId) (fn:Func) (j:P.funcs[f]?=some fn) (k:(fn.name == "runtime.NumGoroutine")=false) (l:fn.body.isNone=false) (xs:List Operand) (i:Array TypeId)
 (m:o.op=.call { callee:=.value (.func f),args:=xs.toArray,argTypes:=i }) (d:List Value) (n:xs.map a.eval=d) {R:Ending->World->Prop} (h:Calls P f d.toArray w R)
 (p:∀ e w',R e w'->∃ v,e=.returned v/\K (a.put o.dst v) w') :
 if Region.wanted o (yielded ops a.tmps)=true then Oper.wp P o a w K Q else E:=by
 have r:Region.wanted o (yielded ops a.tmps)=true:=by simp [Region.wanted,g]
 rw [if_pos r]
 unfold Oper.wp execOp
 simp only [m,resolve,invoke,Sem.run_bind,Sem.run_pure,Result.andThen_ok,List.map_toArray,n,Act.eval,Deferred.ofValue,Array.append_empty,Array.empty_append,nX _ j k l]
 refine h.mono fun e w' s=>?_
 obtain ⟨v,rfl,u⟩:=p e w' s
 exact u
section
variable {P:Program} {w w':World} {base:Nat} {e:TypeId} {size g n cap:Nat} {xs:List Value}
theorem gV (h:w.ownsRow base e size (.slice (some ⟨g,0,none⟩) n cap) n xs):base<=g/\n<=cap/\cap<=maxLen/\∃ d,Bk w g e d/\d.size=cap * size/\d.toList.take (n * size)=xs:=by
 rcases h.2 with ⟨f,_⟩ | ⟨s,i,d,f,j,k,l,m,p,r⟩
 ·simp at f
 ·simp only [Value.slice.injEq,Option.some.injEq,Addr.mk.injEq,and_true,true_and] at f
  obtain ⟨rfl,rfl⟩:=f
  exact ⟨j,l,m,d,k,p,r⟩
theorem pq {d:Array Value} (j:base<=g) (f:n<=cap) (k:cap<=maxLen) (l:Bk w g e d) (h:d.size=cap * size) (i:d.toList.take (n * size)=xs) :
 w.ownsRow base e size (.slice (some ⟨g,0,none⟩) n cap) n xs:=by
 refine ⟨?_,.inr ⟨g,cap,d,rfl,j,l,f,k,h,i⟩⟩
 rw [<- i,vB,Array.length_toList,h]
 exact Nat.min_eq_left (Nat.mul_le_mul_right _ f)
theorem zV (h:w.ownsRow base e size (.slice (some ⟨g,0,none⟩) n cap) n xs) {k:Nat} (d:k<=n):w.ownsRow base e size (.slice (some ⟨g,0,none⟩) k cap) k (xs.take (k * size)):=by
 obtain ⟨f,r,i,j,l,m,p⟩:=gV h
 refine pq f af i l m ?_
 rw [<- p,List.take_take,Nat.min_eq_left (Nat.mul_le_mul_right _ d)]
theorem lM (h:w.ownsRow base e size (.slice (some ⟨g,0,none⟩) n cap) n xs):∀ k u,xs[k]?=some u->w.cell? ⟨g,k,none⟩=some u:=fun k u d=>by
 obtain ⟨l,m,p,f,i,r,j⟩:=gV h
 rw [i.cell,<- Array.getElem?_toList]
 rw [<- j,List.getElem?_take] at d
 split at d
 ·exact d
 ·cases d
theorem Dt (h:w.ownsRow base e size (.slice (some ⟨g,0,none⟩) n cap) n xs) (k:Nat):w.frozen? ⟨g,k,none⟩=false:=by
 obtain ⟨_,_,_,d,f,_,_⟩:=gV h
 exact f.frozen k
theorem vN (h:w.ownsRow base e size (.slice (some ⟨g,0,none⟩) n cap) n xs):g < w.heap.size:=by
 obtain ⟨_,_,_,d,f,_,_⟩:=gV h
 exact f.lt
theorem pz (h:w.ownsRow base e size (.slice (some ⟨g,0,none⟩) n cap) n xs) (j:Nat):ah w (some ⟨g,j,none⟩) (xs.drop j):=fun _=>
 ⟨g,j,rfl,vN h,fun k u d=>lM h _ u (by rw [List.getElem?_drop] at d;exact d)⟩
theorem Gw (h:w.ownsRow base e size (.slice (some ⟨g,0,none⟩) n cap) n xs) (j:Nat) (u:Value):(w.setCell ⟨g,j,none⟩ u).ownsRow base e size (.slice (some ⟨g,0,none⟩) n cap) n (xs.set j u):=by
 obtain ⟨d,f,i,k,l,m,p⟩:=gV h
 refine pq d f i (l.bH j u) (by simpa using m) ?_
 rw [Array.toList_setIfInBounds,List.take_set,p]
theorem iG (h:w.ownsRow base e size (.slice (some ⟨g,0,none⟩) n cap) n xs):n<=cap/\cap<=maxLen:=by
 obtain ⟨_,d,f,_⟩:=gV h
 exact ⟨d,f⟩
theorem aK {v:Value} {t:TypeId} {cs:Array Value} (h:w.ownsRow base e size v n xs) (j:Bk w g t cs) (d:e≠t):v.ownBlock≠some g:=by
 rcases h.2 with ⟨rfl,_⟩ | ⟨f,i,k,rfl,_,l,_⟩
 ·simp [Value.ownBlock]
 ·intro m
  obtain rfl:f=g:=by simpa [Value.ownBlock] using m
  exact Bk.vC (g:=f) l j d rfl
theorem dX {v:Value} {b:Nat} (h:w.ownsRow base e size v n xs) (i:b<=base):w.ownsRow b e size v n xs:=by
 refine ⟨h.1,?_⟩
 rcases h.2 with j | ⟨g,cap,d,rfl,f,rest⟩
 ·exact .inl j
 ·exact .inr ⟨g,cap,d,rfl,ic i f,rest⟩
theorem iO {v:Value} (h:w.ownsRow base e size v n xs) {k:Nat} (f:v.ownBlock=some k):base<=k/\∃ d,Bk w k e d:=by
 rcases h.2 with ⟨rfl,_⟩ | ⟨g,cap,d,rfl,i,j,_⟩
 ·simp [Value.ownBlock] at f
 ·obtain rfl:g=k:=by simpa [Value.ownBlock] using f
  exact ⟨i,d,j⟩
theorem Je (t ty:TypeId) (i:TypeInfo) (p:P.underlying t=some (.slice e)) (r:P.info? e=some i) (f:i.size=size)
 (d:w.ownsRow base e size (.slice (some ⟨g,0,none⟩) n cap) n xs) (A:Option Addr) (m c:Nat) (news:List Value) (s:news.length=m * size) (l:0 < size) (x:ah w A news) (y:∀ u∈news,u.oneCell'=true) (j:n + m<=cap) :
 ∃ w',(Builtin.append_ #[t,t] ty #[.slice (some ⟨g,0,none⟩) n cap,.slice A m c]).run P w=.ok (.slice (some ⟨g,0,none⟩) (n + m) cap) w'/\
  w'.ownsRow base e size (.slice (some ⟨g,0,none⟩) (n + m) cap) (n + m) (xs ++ news)/\Fr (fun k=>k=g) w w':=by
 cases A with
 | some ad=>
  obtain ⟨w',z,B,C⟩:=run_append_fits (P:=P) w base t ty e i size p r f g n cap xs d ad m c news s (ah.news x) y j
  exact ⟨w',z,B,Fr.gU C (fun k _ e=>by cases e;rfl)⟩
 | none=>
  have D:news=[]:=by
   rcases Classical.em (news=[]) with h | h
   ·exact h
   ·obtain ⟨_,_,e,_⟩:=x h
    cases e
  subst D
  have E:m=0:=by
   rcases Nat.eq_zero_or_pos m with h | h
   ·exact h
   ·have:=Nat.mul_pos h l
    simp at s
    omega
  subst E
  exact ⟨w,nk w base t ty e i size c p r _ n xs d,by simpa using d,Fr.refl _ _⟩
theorem M0 {o:Oper} {a:Act} {K:Act->World->Prop} {Q:Exit->Act->World->Prop} (s x:Operand) (t:TypeId)
 (r:o.op=.call { callee:=.builtin .append,args:=#[s,x],argTypes:=#[t,t] })
 (i:TypeInfo) (y:P.underlying t=some (.slice e)) (z:P.info? e=some i) (d:i.size=size) (l:0 < size)
 (B:a.eval s=.slice (some ⟨g,0,none⟩) n cap) (j:w.ownsRow base e size (.slice (some ⟨g,0,none⟩) n cap) n xs)
 (A:Option Addr) (m c:Nat) (news:List Value) (C:a.eval x=.slice A m c) (D:news.length=m * size) (E:ah w A news) (F:∀ u∈news,u.oneCell'=true) (f:n + m<=cap)
 (N:Nat) (G:n + m=N) (p:List Value) (hy:xs ++ news=p)
 (h:∀ w',w'.ownsRow base e size (.slice (some ⟨g,0,none⟩) N cap) N p->Fr (fun k=>k=g) w w'->K (a.put o.dst (.slice (some ⟨g,0,none⟩) N cap)) w'):o.wp P a w K Q:=by
 subst G hy
 obtain ⟨w',H,I,J⟩:=Je (P:=P) t o.type i y z d j A m c news D l E F f
 unfold Oper.wp execOp
 simp only [r,resolve,invoke,builtin,Sem.run_bind,Sem.run_pure,Result.andThen_ok,List.map_toArray,BB,IV,B,C,H]
 exact h w' I J
theorem yN {ops:Array Oper} {o:Oper} {a:Act} {K:Act->World->Prop} {Q:Exit->Act->World->Prop} {E:Prop} (l:o.guard=none) (s x:Operand) (t:TypeId)
 (y:o.op=.call { callee:=.builtin .append,args:=#[s,x],argTypes:=#[t,t] })
 (i:TypeInfo) (z:P.underlying t=some (.slice e)) (B:P.info? e=some i) (d:i.size=size) (p:0 < size)
 (C:a.eval s=.slice (some ⟨g,0,none⟩) n cap) (j:w.ownsRow base e size (.slice (some ⟨g,0,none⟩) n cap) n xs)
 (A:Option Addr) (m c:Nat) (news:List Value) (D:a.eval x=.slice A m c) (F:news.length=m * size) (G:ah w A news) (H:∀ u∈news,u.oneCell'=true) (f:n + m<=cap)
 (N:Nat) (I:n + m=N) (r:List Value) (hy:xs ++ news=r)
 (h:∀ w',w'.ownsRow base e size (.slice (some ⟨g,0,none⟩) N cap) N r->Fr (fun k=>k=g) w w'->K (a.put o.dst (.slice (some ⟨g,0,none⟩) N cap)) w') :
 if Region.wanted o (yielded ops a.tmps)=true then Oper.wp P o a w K Q else E:=by
 have J:Region.wanted o (yielded ops a.tmps)=true:=by simp [Region.wanted,l]
 rw [if_pos J]
 exact M0 s x t y i z B d p C j A m c news D F G H f N I r hy h
theorem tH (t ty:TypeId) (z:Value) (C:P.underlying t=some (.slice e)) (F:∀ w,(zeroValue e).run P w=.ok z w) (G:z.cells.size=size) (H:∀ u∈z.cells.toList,u.oneCell'=true) (I:0 < size)
 (h:w.ownsRow base e size (.slice (some ⟨g,0,none⟩) n cap) n xs) (A:Option Addr) (m c:Nat) (J:0 < m->A=some ⟨g,n * size,none⟩) (i:n + m<=cap) :
 ∃ w',(Builtin.clear_ #[t] ty #[.slice A m c]).run P w=.ok (.tuple #[]) w'/\w'.ownsRow base e size (.slice (some ⟨g,0,none⟩) n cap) n xs/\Fr (fun k=>k=g) w w':=by
 rcases Nat.eq_zero_or_pos m with rfl | K
 ·refine ⟨w,?_,h,Fr.refl _ _⟩
  cases A <;> simp [Builtin.clear_,run_underlying C]
 ·obtain rfl:=J K
  obtain ⟨L,M,l,d,D,N,p⟩:=gV h
  have r:(Builtin.zeroCells z.cells m).toList.length=m * size:=by rw [Array.length_toList,size_zeroCells,G]
  have f:n * size + 0 + (Builtin.zeroCells z.cells m).toList.length<=d.size:=by rw [r,N,I9,<- Nat.add_mul];exact Nat.mul_le_mul_right _ i
  have s:∀ u∈(Builtin.zeroCells z.cells m).toList,u.oneCell'=true:=by
   intro u x
   rw [Array.mem_toList_iff] at x
   simp only [Builtin.zeroCells,Array.mem_map] at x
   obtain ⟨k,_,rfl⟩:=x
   have y:k % z.cells.size < z.cells.size:=Nat.mod_lt _ af
   rw [getElem!_pos z.cells _ y]
   exact H _ bE
  have j:=run_storeCells_at P g (n * size) e (Builtin.zeroCells z.cells m).toList 0 d w D f s
  simp only [I9] at j f
  have B:=f
  rw [Array.length_toList] at B
  refine ⟨w.setRow g (d.toList.take (n * size) ++ (Builtin.zeroCells z.cells m).toList ++ d.toList.drop (n * size + (Builtin.zeroCells z.cells m).toList.length)).toArray,?_,pq L M l (setRow_heap w g d _ e _ D) ?_ ?_,⟨rfl,rfl,rfl,bE,fun k _ O=>setRow_other w g k _ O⟩⟩
  ·obtain ⟨E,rfl⟩:∃ E,m=E + 1:=⟨m - 1,af⟩
   simp [Builtin.clear_,run_underlying C,F,j]
  ·simp only [List.size_toArray,ja,vB,yj,Array.length_toList]
   omega
  ·rw [<- p]
   simp only [MI]
   rw [List.take_left' (by rw [vB,Array.length_toList];omega)]
theorem qA {ops:Array Oper} {rest:List Oper} {o:Oper} {a:Act} {Q:Exit->Act->World->Prop} (i:o.guard=none) (x:Operand) (t:TypeId)
 (l:o.op=.call { callee:=.builtin .clear,args:=#[x],argTypes:=#[t] }) (z:Value) (p:P.underlying t=some (.slice e)) (r:∀ w,(zeroValue e).run P w=.ok z w) (s:z.cells.size=size) (y:∀ u∈z.cells.toList,u.oneCell'=true) (j:0 < size)
 (f:w.ownsRow base e size (.slice (some ⟨g,0,none⟩) n cap) n xs) (A:Option Addr) (m c:Nat) (B:a.eval x=.slice A m c) (C:0 < m->A=some ⟨g,n * size,none⟩) (d:n + m<=cap)
 (h:∀ w',w'.ownsRow base e size (.slice (some ⟨g,0,none⟩) n cap) n xs->Fr (fun k=>k=g) w w'->wpList P ops Q rest (a.put o.dst (.tuple #[])) w'):wpList P ops Q (o :: rest) a w:=by
 refine wpList_plain i fun K D=>?_
 obtain ⟨w',E,F,G⟩:=tH (P:=P) t o.type z p r s y j f A m c C d
 unfold Oper.wp execOp
 simp only [l,resolve,invoke,builtin,Sem.run_bind,Sem.run_pure,Result.andThen_ok,List.map_toArray,BB,IV,B,E]
 exact D _ _ (h w' F G)
theorem oL {ops:Array Oper} {rest:List Oper} {ty:TypeId} {i:String} {l:Array Edge} {a:Act} {Q:Exit->Act->World->Prop} (x:Operand) (t:TypeId)
 (z:Value) (p:P.underlying t=some (.slice e)) (r:∀ w,(zeroValue e).run P w=.ok z w) (s:z.cells.size=size) (y:∀ u∈z.cells.toList,u.oneCell'=true) (j:0 < size)
 (f:w.ownsRow base e size (.slice (some ⟨g,0,none⟩) n cap) n xs) (A:Option Addr) (m c:Nat) (B:a.eval x=.slice A m c) (C:0 < m->A=some ⟨g,n * size,none⟩) (d:n + m<=cap)
 (h:∀ w',w'.ownsRow base e size (.slice (some ⟨g,0,none⟩) n cap) n xs->Fr (fun k=>k=g) w w'->wpList P ops Q rest a w'):wpList P ops Q (⟨none,.call { callee:=.builtin .clear,args:=#[x],argTypes:=#[t] },ty,i,l,none⟩ :: rest) a w:=
 qA rfl x t rfl z p r s y j f A m c B C d h
end
section
variable {T U:TypeId->Prop} {base:Nat} {w w' w'':World}
theorem Old.iE {S:Nat->Prop} (h:Old w w') (f:Fr S w' w'') (j:∀ k,S k->w.heap.size<=k):Old w w'':=
 ⟨f.os.trans h.os,f.tape.trans h.tape,f.output.trans h.output,ic h.size f.size,
  fun i d=>(f.block i (iD d h.size) (fun l=>by have:=j i l;omega)).trans (h.block i d)⟩
end
abbrev Tag:=Nat×Nat×Nat
def aB:Tag:=(0,0,0)
def fD (w:World) (K:Nat->Prop) (A:Option Addr) (ns:List Int):Prop:=aP w A ns/\(ns≠[]->∀ a,A=some a->K a.block)
section
variable {w w':World} {K K' S:Nat->Prop} {A:Option Addr} {ns:List Int}
theorem fD.nil (w:World) (K:Nat->Prop) (A:Option Addr):fD w K A []:=⟨ah.nil w A,fun h=>absurd rfl h⟩
theorem fD.fr (h:fD w K A ns) (d:Fr S w w') (f:∀ k,K k->¬ S k):fD w' K A ns:=
 ⟨h.1.fr d (fun g a e=>f _ (h.2 (by rintro rfl;exact g rfl) a e)),h.2⟩
theorem fD.old (h:fD w K A ns) (d:Old w w'):fD w' K A ns:=⟨h.1.old d,h.2⟩
theorem fD.mono (h:fD w K A ns) (g:∀ k,k < w.heap.size->K k->K' k):fD w K' A ns:=
 ⟨h.1,fun f a e=>g _ (by
  obtain ⟨b,o,d,i,_⟩:=h.1 (by simpa using f)
  rw [e] at d;injection d with d;subst d;exact i) (h.2 f a e)⟩
theorem fD.bA {base n c:Nat} {e:TypeId} (h:w.ownsRow base e 1 (.slice A n c) n (ns.map (Value.int .i64))) (f:∀ k,base<=k->k < w.heap.size->K k):fD w K A ns:=
 ⟨ah.bA h,fun _ a e=>by
  obtain ⟨A',i,g,-,d⟩:=bI h
  cases g
  exact f _ (d a e).1 (d a e).2.1⟩
end
def Ext (w:World) (own own':Nat->Tag):Prop:=∀ k,k < w.heap.size->own' k=own k
def vO (w:World) (own:Nat->Tag):Prop:=∀ k,w.heap.size<=k->own k=aB
theorem Ext.refl (w:World) (own:Nat->Tag):Ext w own own:=fun _ _=>rfl
theorem Ext.trans {w w1:World} {o d e:Nat->Tag} (h:Ext w o d) (k:Ext w1 d e) (g:w.heap.size<=w1.heap.size):Ext w o e:=fun i f=>(k i (iD f g)).trans (h i f)
theorem retag (w w':World) (own:Nat->Tag) (t:Tag) (G:Nat->Prop) (h:vO w own) (g:∀ k,G k->k < w'.heap.size) (i:w.heap.size<=w'.heap.size) :
 ∃ d,Ext w own d/\vO w' d/\(∀ k,w.heap.size<=k->G k->d k=t)/\(∀ k,w.heap.size<=k->¬ G k->d k=aB):=by
 classical
 refine ⟨fun k=>if k < w.heap.size then own k else if G k then t else aB,fun k f=>if_pos f,fun k f=>?_,fun k f e=>?_,fun k f e=>?_⟩
 ·show (if k < w.heap.size then own k else if G k then t else aB)=aB
  rw [if_neg af,if_neg (fun e=>by have:=g k e;omega)]
 ·show (if k < w.heap.size then own k else if G k then t else aB)=t
  rw [if_neg af,if_pos e]
 ·show (if k < w.heap.size then own k else if G k then t else aB)=aB
  rw [if_neg af,if_neg e]
theorem vO.old {w w':World} {own:Nat->Tag} (h:vO w own) (d:w.heap.size<=w'.heap.size):vO w' own:=fun k e=>h k (ic d e)
theorem bk2 {w:World} {g:Nat} {t:TypeId} {a b:Value} (h:Bk w g t #[a,b]):w.cell? ⟨g,0,none⟩=some a/\w.cell? ⟨g,1,none⟩=some b/\w.frozen? ⟨g,0,none⟩=false/\w.frozen? ⟨g,1,none⟩=false/\g < w.heap.size:=
 ⟨h.cell 0,h.cell 1,h.frozen 0,h.frozen 1,h.lt⟩
def setAt (w:World) (g o:Nat):List Value->World
 | []=>w
 | v :: l=>setAt (w.setCell ⟨g,o,none⟩ v) g (o + 1) l
theorem Fr.setAt {S:Nat->Prop} {w:World} {g:Nat} (d:w.heap.size<=g∨S g):∀ (l:List Value) (w':World) (o:Nat),Fr S w w'->Fr S w (setAt w' g o l)
 | [],_,_,h=>h
 | v :: l,w',o,h=>Fr.setAt d l _ (o + 1) (h.setCell (p:=⟨g,o,none⟩) d v)
def bg (cs:Array Value) (o:Nat):List Value->Array Value
 | []=>cs
 | v :: l=>bg (cs.setIfInBounds o v) (o + 1) l
theorem aT:∀ (l:List Value) (cs:Array Value) (o:Nat),(bg cs o l).size=cs.size
 | [],_,_=>rfl
 | v :: l,cs,o=>by rw [bg,aT l];simp
theorem aD:∀ (l:List Value) (cs:Array Value) (o j:Nat),(j < o∨o + l.length<=j)->(bg cs o l)[j]?=cs[j]?
 | [],_,_,_,_=>rfl
 | v :: l,cs,o,j,h=>by
  rw [bg,aD l _ _ _ (by simp at h;omega)]
  exact Array.getElem?_setIfInBounds_ne (by simp at h;omega)
theorem p8:∀ (l:List Value) (cs:Array Value) (o j:Nat),o + l.length<=cs.size->j < l.length->(bg cs o l)[o + j]?=l[j]?
 | [],_,_,_,_,h=>absurd h (Nat.not_lt_zero _)
 | v :: l,cs,o,0,h,_=>by
  rw [bg,aD l _ _ _ af]
  simp at h
  simp [Array.getElem?_setIfInBounds_self,show o < cs.size by omega]
 | v :: l,cs,o,j + 1,h,hj=>by
  simp at h hj
  rw [bg,show o + (j + 1)=o + 1 + j from by omega,p8 l _ _ _ jR hj]
  simp
theorem Bk.setAt {g:Nat} {t:TypeId}:∀ (l:List Value) {w:World} {cs:Array Value} (o:Nat),Bk w g t cs->Bk (setAt w g o l) g t (bg cs o l)
 | [],_,_,_,h=>h
 | v :: l,_,_,o,h=>Bk.setAt l (o + 1) (h.bH o v)
theorem run_storeCells_at {P:Program} {g:Nat} {t:TypeId} (o:Nat):∀ (l:List Value) (i:Nat) (w:World) (cs:Array Value),Bk w g t cs->o + i + l.length<=cs.size->(∀ v∈l,v.oneCell'=true)->
 (storeCells ⟨g,o,none⟩ l i).run P w=.ok () (setAt w g (o + i) l)
 | [],_,_,_,_,_,_=>rfl
 | v :: l,i,w,cs,hb,hs,h1=>by
  simp at hs
  have d:(store ((⟨g,o,none⟩:Addr).add i) v).run P w=.ok () (w.setCell ⟨g,o + i,none⟩ v):=by
   have e:=hb.cell (o + i)
   rw [Array.getElem?_eq_getElem af] at e
   rw [lS,run_store P w _ v _ (h1 v bE),e]
   simp [hb.frozen (o + i)]
  have f:=run_storeCells_at (P:=P) o l (i + 1) _ _ (hb.bH (o + i) v) jR (fun x h=>h1 x (by simp [h]))
  simp only [storeCells,Sem.run_bind,d,Result.andThen_ok,f]
  rfl
theorem uS {P:Program} (w:World) (g o:Nat) (t ty:TypeId) (cs:Array Value) (l:List Value) (f:Bk w g t cs) (d:(P.info? ty).map (·.size)=some l.length) (e:o + l.length<=cs.size) (h:∀ v∈l,v.oneCell'=true) :
 (storeVar ty ⟨g,o,none⟩ (.agg l.toArray)).run P w=.ok () (setAt w g o l):=by
 have:=run_storeCells_at (P:=P) (g:=g) o l 0 w cs f af h
 cases hq:P.info? ty with
 | none=>simp [hq] at d
 | some i=>
  have e:l.length=i.size:=by simp [hq] at d;omega
  simp only [I9] at this
  simp [storeVar,sizeOf,typeInfo,hq,Value.cells,e,this]
theorem kR {P:Program} {ops:Array Oper} {rest:List Oper} {dst:Option Tmp} {d:TypeId} {pos:String} {e:Array Edge} {a:Act} {w:World} {Q:Exit->Act->World->Prop} (ty:TypeId) (x y:Operand)
 (g o:Nat) (l:List Value) (f:a.eval x=av g o) (hy:a.eval y=.agg l.toArray)
 (t:TypeId) (cs:Array Value) (i:Bk w g t cs) (j:(P.info? ty).map (·.size)=some l.length) (k:o + l.length<=cs.size) (m:∀ v∈l,v.oneCell'=true)
 (h:wpList P ops Q rest (a.put dst undef) (setAt w g o l)):wpList P ops Q ({ dst:=dst,op:=.store ty x y,type:=d,pos:=pos,after:=e,guard:=none } :: rest) a w:=by
 refine wpList_plain rfl fun K n=>?_
 unfold Oper.wp execOp
 simp only [f,hy,Instr.storeAt,Instr.sureAddr,Sem.run_bind,Sem.run_pure,Result.andThen_ok,uS w g o t ty cs l i j k m]
 exact n _ _ h
structure jb where
 P:World->(Nat->Prop)->(Nat->Prop)->Prop
 fr:∀ {w w':World} {F K S:Nat->Prop},P w F K->Fr S w w'->(∀ k,F k∨K k/\¬ F k->¬ S k)->P w' F K
 mono:∀ {w:World} {F K F' K':Nat->Prop},P w F K->(∀ k,F k->F' k)->(∀ k,F' k->k < w.heap.size)->(∀ k,k < w.heap.size->K k->¬ F k->K' k/\¬ F' k)->P w F' K'
 lt:∀ {w:World} {F K:Nat->Prop} {k:Nat},P w F K->F k->k < w.heap.size
structure eF (w:World) (own:Nat->Tag) (tg:Nat->Tag) (A:Nat->jb):Prop where
 at_:∀ p,(A p).P w (fun k=>own k=tg p) (fun k=>own k=aB)
 top:vO w own
section
variable {w w':World} {own own':Nat->Tag} {tg:Nat->Tag} {A A':Nat->jb}
theorem jb.lift {a:jb} {w:World} {own own':Nat->Tag} {t:Tag} (j:t≠aB) (h:a.P w (fun k=>own k=t) (fun k=>own k=aB)) (f:Ext w own own') (l:∀ k,w.heap.size<=k->own' k≠t):a.P w (fun k=>own' k=t) (fun k=>own' k=aB):=
 a.mono h (fun k d=>(f k (a.lt h d)).trans d) (fun k d=>by
  rcases Nat.lt_or_ge k w.heap.size with g | g
  ·exact g
  ·exact absurd d (l k g)) fun k d i _=>⟨(f k d).trans i,fun e=>j (e.symm.trans ((f k d).trans i))⟩
theorem eF.turn (h:eF w own tg A) (g:∀ p,tg p≠aB) (n:∀ p q,tg p=tg q->p=q) (p:Nat) (B:∀ q,q≠p->A' q=A q) {F':Nat->Prop} (r:(A' p).P w' F' (fun k=>own k=aB)) (C:∀ k,F' k->own k=tg p∨w.heap.size<=k) (s:Fr (fun k=>own k=tg p) w w') :
 ∃ own',eF w' own' tg A'/\Ext w own own'/\(∀ k,w.heap.size<=k->own' k=aB∨own' k=tg p):=by
 obtain ⟨own',i,u,x,h4⟩:=retag w w' own (tg p) F' h.top (fun k d=>(A' p).lt r d) s.size
 have f:∀ k,w.heap.size<=k->own' k=aB∨own' k=tg p:=fun k d=>by
  by_cases y:F' k
  ·exact .inr (x k d y)
  ·exact .inl (h4 k d y)
 refine ⟨own',⟨fun q=>?_,u⟩,i,f⟩
 by_cases l:q=p
 ·subst l
  refine (A' q).mono r (fun k d=>?_) (fun k d=>?_) fun k d z j=>?_
  ·rcases Nat.lt_or_ge k w.heap.size with h5 | h5
   ·exact (i k h5).trans ((C k d).resolve_right af)
   ·exact x k h5 d
  ·rcases Nat.lt_or_ge k w'.heap.size with h5 | h5
   ·exact h5
   ·exact absurd ((u k h5).symm.trans d) (Ne.symm (g q))
  ·rcases Nat.lt_or_ge k w.heap.size with h5 | h5
   ·exact ⟨(i k h5).trans z,fun e=>g q (e.symm.trans ((i k h5).trans z))⟩
   ·exact ⟨h4 k h5 j,fun e=>g q (e.symm.trans (h4 k h5 j))⟩
 ·rw [B q l]
  have m:∀ k,w.heap.size<=k->own' k≠tg q:=fun k d e=>by
   rcases f k d with h5 | h5
   ·exact g q (e.symm.trans h5)
   ·exact l (n q p (e.symm.trans h5))
  refine (A q).fr ((A q).lift (g q) (h.at_ q) i m) s (fun k d e=>?_)
  have h6:k < w.heap.size:=Nat.lt_of_not_le fun h6=>g p (e.symm.trans (h.top k h6))
  rw [<- i k h6] at e
  rcases d with d | d
  ·exact l (n q p (d.symm.trans e))
  ·exact g p (e.symm.trans d.1)
theorem eF.turns (h:eF w own tg A) (j:∀ p,tg p≠aB) (x:∀ p q,tg p=tg q->p=q) (T:Nat->Prop) (F':Nat->Nat->Prop) (D:∀ q,¬ T q->A' q=A q)
 (y:∀ q,T q->(A' q).P w' (F' q) (fun k=>own k=aB/\∀ r,T r->¬ F' r k)) (E:∀ q,T q->∀ k,F' q k->own k=tg q∨w.heap.size<=k)
 (hd:∀ q r,T q->T r->∀ k,w.heap.size<=k->F' q k->F' r k->q=r) (z:Fr (fun k=>∃ q,T q/\own k=tg q) w w') :
 ∃ own',eF w' own' tg A'/\Ext w own own'/\∀ k,w.heap.size<=k->own' k=aB∨∃ q,T q/\own' k=tg q:=by
 classical
 obtain ⟨own',n⟩:∃ own':Nat->Tag,∀ k,own' k=if k < w.heap.size then own k else if e:∃ q,T q/\F' q k then tg e.choose else aB:=⟨_,fun _=>rfl⟩
 have g:∀ k,k < w.heap.size->own' k=own k:=fun k d=>by rw [n,if_pos d]
 have B:∀ q,T q->∀ k,w.heap.size<=k->F' q k->own' k=tg q:=fun q f k d l=>by
  have e:∃ q,T q/\F' q k:=⟨q,f,l⟩
  rw [n,if_neg af,dif_pos e,hd _ _ e.choose_spec.1 f k d e.choose_spec.2 l]
 have h4:∀ k,w.heap.size<=k->(∀ q,T q->¬ F' q k)->own' k=aB:=fun k d F=>by
  rw [n,if_neg af,dif_neg (by rintro ⟨q,g,m⟩;exact F q g m)]
 have i:∀ k,w.heap.size<=k->own' k=aB∨∃ q,T q/\own' k=tg q:=fun k d=>by
  by_cases e:∃ q,T q/\F' q k
  ·obtain ⟨q,f,l⟩:=e
   exact .inr ⟨q,f,B q f k d l⟩
  ·exact .inl (h4 k d fun q g m=>e ⟨q,g,m⟩)
 have m:vO w' own':=fun k d=>h4 k (ic z.size d) fun q f l=>by
  have:=(A' q).lt (y q f) l
  omega
 refine ⟨own',⟨fun q=>?_,m⟩,g,i⟩
 by_cases f:T q
 ·refine (A' q).mono (y q f) (fun k d=>?_) (fun k d=>?_) fun k d C G=>?_
  ·rcases Nat.lt_or_ge k w.heap.size with h5 | h5
   ·exact (g k h5).trans ((E q f k d).resolve_right af)
   ·exact B q f k h5 d
  ·rcases Nat.lt_or_ge k w'.heap.size with h5 | h5
   ·exact h5
   ·exact absurd ((m k h5).symm.trans d) (Ne.symm (j q))
  ·have h6:own' k=aB:=by
    rcases Nat.lt_or_ge k w.heap.size with h5 | h5
    ·exact (g k h5).trans C.1
    ·exact h4 k h5 C.2
   exact ⟨h6,fun e=>j q (e.symm.trans h6)⟩
 ·rw [D q f]
  have s:∀ k,w.heap.size<=k->own' k≠tg q:=fun k d e=>by
   rcases i k d with h5 | ⟨r,u,h5⟩
   ·exact j q (e.symm.trans h5)
   ·exact f (x q r (e.symm.trans h5)▸u)
  refine (A q).fr ((A q).lift (j q) (h.at_ q) g s) z (fun k d e=>?_)
  obtain ⟨r,u,e⟩:=e
  have h6:k < w.heap.size:=Nat.lt_of_not_le fun h6=>j r (e.symm.trans (h.top k h6))
  rw [<- g k h6] at e
  rcases d with d | d
  ·exact f (x q r (d.symm.trans e)▸u)
  ·exact j r (e.symm.trans d.1)
theorem eF.Ve (h:eF w own tg A) (i:∀ p,tg p≠aB) (j:∀ p q,tg p=tg q->p=q) (T:Nat->Prop) (l:∀ q,¬ T q->A' q=A q) (m:∀ q,T q->(A' q).P w' (fun k=>own k=tg q) (fun k=>own k=aB)) (g:Fr (fun k=>∃ q,T q/\own k=tg q) w w'):eF w' own tg A':=by
 refine ⟨fun q=>?_,h.top.old g.size⟩
 by_cases f:T q
 ·exact m q f
 ·rw [l q f]
  refine (A q).fr (h.at_ q) g fun k d e=>?_
  obtain ⟨r,n,e⟩:=e
  rcases d with d | d
  ·exact f (j q r (d.symm.trans e)▸n)
  ·exact i r (e.symm.trans d.1)
theorem eF.old (h:eF w own tg A) (d:Old w w'):eF w' own tg A:=
 ⟨fun q=>(A q).fr (h.at_ q) (Fr.aj (S:=fun _=>False) d) (fun _ _ h=>h),h.top.old d.size⟩
end
section
open Go.RowKit Go.Maps Go.ChangeMaps
structure fP (w:World) (P:Program) (k:TypeId) (b:Nat) (L:List (Value×Value)):Prop where
 ex:∃ es clock,w.heap[b]?=some (.map es clock)/\es.toList.map (fun e=>(e.key,e.val))=L
 keys:∀ p∈L,∃ l,keyOf P k p.1=some l
 nodup:(L.map (·.1)).Nodup
section
variable {P:Program} {k e t:TypeId} {w w':World} {b:Nat} {L L1 L2:List (Value×Value)}
theorem fP.lt (h:fP w P k b L):b < w.heap.size:=by
 obtain ⟨es,c,d,_⟩:=h.ex
 exact (Array.getElem?_eq_some_iff.1 d).1
theorem fP.fr {S:Nat->Prop} (h:fP w P k b L) (f:Fr S w w') (g:¬ S b):fP w' P k b L:=by
 have d:=h.lt
 obtain ⟨es,c,i,e⟩:=h.ex
 exact ⟨⟨es,c,(f.block b d g).trans i,e⟩,h.keys,h.nodup⟩
theorem fP.made (w:World) (P:Program) (k:TypeId):fP (w.alloc (.map #[] 0)) P k w.heap.size []:=
 ⟨⟨#[],0,(MapKept.heap_alloc w _).1,rfl⟩,bE,bE⟩
theorem mF (w:World) (b:Nat) (o:Obj):Fr (fun k=>k=b) w (setBlock w b o):=
 ⟨rfl,rfl,rfl,by simp [setBlock],fun i _ d=>by simp [setBlock,Ne.symm d]⟩
theorem fP.yO (K:Keyed P k) {es:List MapEntry} {key:Value} {f:Lit} (d:keyOf P k key=some f) (g:∀ p∈es.map (fun e=>(e.key,e.val)),∃ l,keyOf P k p.1=some l) :
 ((Instr.findKey k key es).run P w=.ok none w/\∀ e∈es,e.key≠key)∨∃ j e,(Instr.findKey k key es).run P w=.ok (some (j,e.val)) w/\es[j]?=some e/\e.key=key:=
 K.find w d es (fun e h=>g (e.key,e.val) (List.mem_map.2 ⟨e,h,rfl⟩))
theorem fP.ZS {es:List MapEntry} {key:Value} (d:∀ p∈es.map (fun e=>(e.key,e.val)),p.1≠key) {j:Nat} {e:MapEntry} (h:es[j]?=some e) (f:e.key=key):False:=
 d (e.key,e.val) (List.mem_map.2 ⟨e,EY h,rfl⟩) f
theorem fP.place {es:List MapEntry} {key v:Value} (i:es.map (fun e=>(e.key,e.val))=L1 ++ (key,v) :: L2) (l:((es.map (fun e=>(e.key,e.val))).map (·.1)).Nodup) {j:Nat} {e:MapEntry} (h:es[j]?=some e) (m:e.key=key):j=L1.length/\e.val=v:=by
 have f:(es.map (fun e=>(e.key,e.val)))[j]?=some (e.key,e.val):=by rw [List.getElem?_map,h];rfl
 have d:(es.map (fun e=>(e.key,e.val)))[L1.length]?=some (key,v):=by rw [i];simp
 have n:j=L1.length:=by
  have g:((es.map (fun e=>(e.key,e.val))).map (·.1))[j]?=some key:=by rw [List.getElem?_map,f];simp [m]
  have p:((es.map (fun e=>(e.key,e.val))).map (·.1))[L1.length]?=some key:=by rw [List.getElem?_map,d];rfl
  exact (List.getElem?_inj (List.getElem?_eq_some_iff.1 g).1 l).1 (g.trans p.symm)
 subst n
 rw [f] at d
 injection d with d
 exact ⟨rfl,(Prod.mk.inj d).2⟩
theorem fP.M4 (h:fP w P k b L) (K:Keyed P k) (l:P.underlying t=some (.map k e)) {z:Value} (m:(zeroValue e).run P w=.ok z w) {key:Value} {n:Lit} (d:keyOf P k key=some n) (r:∀ p∈L,p.1≠key) (c:Bool) :
 (Instr.lookup t (.map (some b)) key c).run P w=.ok (if c then .tuple #[z,.bool false] else z) w:=by
 obtain ⟨es,u,s,rfl⟩:=h.ex
 rcases fP.yO (w:=w) K d h.keys with ⟨g,i⟩ | ⟨j,x,g,i,f⟩
 ·simp [Instr.lookup,run_underlying l,MapKept.run_getObj_map s,K.check w _ d,g,m,Result.andThen]
 ·exact absurd f (fun f=>fP.ZS r i f)
theorem fP.Jf (h:fP w P k b L) (K:Keyed P k) (l:P.underlying t=some (.map k e)) {key v:Value} {m:Lit} (d:keyOf P k key=some m) (g:(key,v)∈L) (c:Bool) :
 (Instr.lookup t (.map (some b)) key c).run P w=.ok (if c then .tuple #[v,.bool true] else v) w:=by
 obtain ⟨es,y,n,rfl⟩:=h.ex
 obtain ⟨L1,L2,p⟩:=List.append_of_mem g
 rcases fP.yO (w:=w) K d h.keys with ⟨i,f⟩ | ⟨j,z,i,f,r⟩
 ·obtain ⟨x,s,u⟩:=List.mem_map.1 g
  exact absurd (Prod.mk.inj u).1 (f x s)
 ·obtain ⟨rfl,rfl⟩:=fP.place p h.nodup f r
  simp [Instr.lookup,run_underlying l,MapKept.run_getObj_map n,K.check w _ d,i,Result.andThen]
theorem fP.Ro (h:fP w P k b L) (K:Keyed P k) (u:P.underlying t=some (.map k e)) {key v:Value} {l:Lit} (d:keyOf P k key=some l) (m:∀ p∈L,p.1≠key) :
 ∃ w',(Instr.mapUpdate t (.map (some b)) key v).run P w=.ok () w'/\fP w' P k b (L ++ [(key,v)])/\Fr (fun k=>k=b) w w':=by
 obtain ⟨es,n,g,rfl⟩:=h.ex
 rcases fP.yO (w:=w) K d h.keys with ⟨r,s⟩ | ⟨j,A,r,s,i⟩
 ·refine ⟨setBlock w b (.map (es.push ⟨key,v,n⟩) (n + 1)),by simp [Instr.mapUpdate,run_underlying u,MapKept.run_getObj_map g,K.check w false d,r,MapKept.run_setObj_map _ g,Result.andThen,setBlock],⟨⟨_,_,heap_setBlock_same g _,bE⟩,fun p f=>?_,?_⟩,mF _ _ _⟩
  ·rcases List.mem_append.1 f with f | f
   ·exact h.keys p f
   ·simp at f;subst f;exact ⟨l,d⟩
  ·rw [BH]
   refine List.nodup_append.2 ⟨h.nodup,bE,fun x z y hy=>?_⟩
   obtain ⟨p,f,rfl⟩:=List.mem_map.1 z
   simp at hy
   subst hy
   exact m p f
 ·exact absurd i (fun i=>fP.ZS m s i)
theorem fP.Fb {key v0:Value} (h:fP w P k b (L1 ++ (key,v0) :: L2)) (K:Keyed P k) (n:P.underlying t=some (.map k e)) {v:Value} {i:Lit} (d:keyOf P k key=some i) :
 ∃ w',(Instr.mapUpdate t (.map (some b)) key v).run P w=.ok () w'/\fP w' P k b (L1 ++ (key,v) :: L2)/\Fr (fun k=>k=b) w w':=by
 obtain ⟨es,r,g,hL⟩:=h.ex
 rcases fP.yO (w:=w) (es:=es.toList) K d (by rw [hL];exact h.keys) with ⟨l,h2⟩ | ⟨j,s,l,h2,m⟩
 ·exact U7
 ·obtain ⟨rfl,rfl⟩:=fP.place hL (by rw [hL];exact h.nodup) h2 m
  have u:es[L1.length]?=some s:=by simpa using h2
  refine ⟨setBlock w b (.map (es.modify L1.length (fun x=>{ x with key:=key,val:=v })) r),by simp [Instr.mapUpdate,run_underlying n,MapKept.run_getObj_map g,K.check w false d,l,u,m,K.stays w d,MapKept.run_setObj_map _ g,Result.andThen,setBlock],⟨⟨_,_,heap_setBlock_same g _,?_⟩,fun p f=>?_,?_⟩,mF _ _ _⟩
  ·rw [Array.toList_modify,modify_eq_set _ _ _ _ h2,List.map_set,hL]
   simp
  ·rcases List.mem_append.1 f with f | f
   ·exact h.keys p (by simp [f])
   ·rcases List.mem_cons.1 f with rfl | f
    ·exact ⟨i,d⟩
    ·exact h.keys p (by simp [f])
  ·have:=h.nodup
   simpa using this
theorem fP.Rp (h:fP w P k b L) (K:Keyed P k) (m:P.underlying t=some (.map k e)) {key:Value} {n:Lit} (d:keyOf P k key=some n) (r:∀ p∈L,p.1≠key) (ty:TypeId) :
 ∃ w',(Builtin.delete_ #[t,k] ty #[.map (some b),key]).run P w=.ok (.tuple #[]) w'/\fP w' P k b L/\Fr (fun k=>k=b) w w':=by
 obtain ⟨es,s,f,rfl⟩:=h.ex
 rcases fP.yO (w:=w) K d h.keys with ⟨i,l⟩ | ⟨j,u,i,l,g⟩
 ·exact ⟨setBlock w b (.map es s),by simp [Builtin.delete_,run_underlying m,MapKept.run_getObj_map f,K.check w _ d,i,MapKept.run_setObj_map _ f,Result.andThen,setBlock],⟨⟨_,_,heap_setBlock_same f _,rfl⟩,h.keys,h.nodup⟩,mF _ _ _⟩
 ·exact absurd g (fun g=>fP.ZS r l g)
theorem fP.M6 {key v0:Value} (h:fP w P k b (L1 ++ (key,v0) :: L2)) (K:Keyed P k) (n:P.underlying t=some (.map k e)) {r:Lit} (d:keyOf P k key=some r) (ty:TypeId) :
 ∃ w',(Builtin.delete_ #[t,k] ty #[.map (some b),key]).run P w=.ok (.tuple #[]) w'/\fP w' P k b (L1 ++ L2)/\Fr (fun k=>k=b) w w':=by
 obtain ⟨es,s,i,hL⟩:=h.ex
 rcases fP.yO (w:=w) (es:=es.toList) K d (by rw [hL];exact h.keys) with ⟨m,h2⟩ | ⟨j,x,m,h2,u⟩
 ·exact U7
 ·obtain ⟨rfl,rfl⟩:=fP.place hL (by rw [hL];exact h.nodup) h2 u
  have l:L1.length < es.size:=by have:=(List.getElem?_eq_some_iff.1 h2).1;simpa using this
  have f:(es.eraseIdxIfInBounds L1.length).toList=es.toList.eraseIdx L1.length:=by
   unfold Array.eraseIdxIfInBounds
   rw [dif_pos l]
   simp
  refine ⟨setBlock w b (.map (es.eraseIdxIfInBounds L1.length) s),by simp [Builtin.delete_,run_underlying n,MapKept.run_getObj_map i,K.check w _ d,m,MapKept.run_setObj_map _ i,Result.andThen,setBlock],⟨⟨_,_,heap_setBlock_same i _,?_⟩,fun p g=>h.keys p ?_,?_⟩,mF _ _ _⟩
  ·rw [f,map_eraseIdx,hL]
   simp [List.eraseIdx_append_of_length_le]
  ·rcases List.mem_append.1 g with g | g <;> simp [g]
  ·have:=h.nodup
   simp only [BH,BB] at this ⊢
   exact this.sublist (List.Sublist.append (List.Sublist.refl _) (List.sublist_cons_self _ _))
end
end
end Go.Proofs.YthihpfpbiajddaaGreat
