/- Parts of the proof. -/
import Derived.Test.YthihpfpbiajddaaGreatHQWorldNobody6
import Derived.Laws.AppendOwn
import Derived.RegionTactic
import Derived.ChangeAlike
set_option maxRecDepth 100000
set_option maxHeartbeats 8000000
open Go.Proofs.Tryz
namespace Go.Proofs.YthihpfpbiajddaaGreat
open Go.RowKit
structure eX (w:World) (e:TypeId) (size:Nat) (V:Value) (n:Nat) (xs:List Value):Prop where
 len:xs.length=n * size
 Qh:(V=aQ/\n=0)∨∃ b o c cur,V=.slice (some ⟨b,o,none⟩) n c/\Bk w b e cur/\n<=c/\c<=maxLen/\o + c * size=cur.size/\∀ (k:Nat) u,xs[k]?=some u->cur[o + k]?=some u
section
variable {w w':World} {e:TypeId} {size n:Nat} {V:Value} {xs:List Value} {S:Nat->Prop}
theorem eX.fr (h:eX w e size V n xs) (f:Fr S w w') (g:∀ k,V.ownBlock=some k->¬ S k):eX w' e size V n xs:=by
 rcases h.Qh with i | ⟨b,o,c,d,rfl,j,l⟩
 ·exact ⟨h.len,.inl i⟩
 ·exact ⟨h.len,.inr ⟨b,o,c,d,rfl,j.fr f (g b rfl),l⟩⟩
theorem eX.old (h:eX w e size V n xs) (d:Old w w'):eX w' e size V n xs:=h.fr (S:=fun _=>False) (Fr.aj d) (fun _ _=>id)
theorem eX.nil (w:World) (e:TypeId) (size:Nat):eX w e size aQ 0 []:=⟨bE,.inl ⟨rfl,rfl⟩⟩
theorem eX.lt (h:eX w e size V n xs) {k:Nat} (d:V.ownBlock=some k):k < w.heap.size:=by
 rcases h.Qh with ⟨rfl,_⟩ | ⟨b,o,c,f,rfl,g,i⟩
 ·simp [Value.ownBlock] at d
 ·injection d with d;subst d;exact g.lt
theorem eX.Fz {g:Nat} {t:TypeId} {cs:Array Value} (h:eX w e size V n xs) (i:Bk w g t cs) (d:e≠t):V.ownBlock≠some g:=by
 rcases h.Qh with ⟨rfl,_⟩ | ⟨b,o,c,j,rfl,k,l⟩
 ·simp [Value.ownBlock]
 ·intro f;injection f with f;subst f;exact Bk.vC k i d rfl
theorem eX.shape (h:eX w e size V n xs):∃ A c,V=.slice A n c/\n<=c:=by
 rcases h.Qh with ⟨rfl,rfl⟩ | ⟨b,o,c,d,rfl,g,f,_⟩
 ·exact ⟨none,0,rfl,dN _⟩
 ·exact ⟨_,c,rfl,f⟩
theorem eX.cells {A:Option Addr} {c:Nat} (h:eX w e size (.slice A n c) n xs) (m:0 < n):∃ b o,A=some ⟨b,o,none⟩/\b < w.heap.size/\(∀ (k:Nat) u,xs[k]?=some u->w.cell? ⟨b,o + k,none⟩=some u)/\∀ k,w.frozen? ⟨b,o + k,none⟩=false:=by
 rcases h.Qh with ⟨_,h0⟩ | ⟨b,o,p,f,g,d,_,_,_,i⟩
 ·omega
 ·injection g with j _ _
  exact ⟨b,o,j,d.lt,fun k u l=>(d.cell _).trans (i k u l),fun k=>d.frozen _⟩
theorem eX.tail {b o c:Nat} (h:eX w e size (.slice (some ⟨b,o,none⟩) (n + 1) c) (n + 1) xs):eX w e size (.slice (some ⟨b,o + size,none⟩) n (c - 1)) n (xs.drop size)/\1<=c:=by
 rcases h.Qh with ⟨h0,_⟩ | ⟨b',r,s,g,j,l,x,h4,h5,h6⟩
 ·cases h0
 ·injection j with f _ m
  injection f with f
  injection f with f p
  subst f p m
  refine ⟨⟨by rw [yj,h.len,Nat.add_mul,Nat.one_mul,Nat.add_sub_cancel],.inr ⟨b,o + size,c - 1,g,rfl,l,af,af,?_,fun k u i=>?_⟩⟩,af⟩
  ·obtain ⟨d,rfl⟩:∃ d,c=d + 1:=⟨c - 1,af⟩
   rw [Nat.add_sub_cancel]
   rw [Nat.add_mul,Nat.one_mul] at h5
   omega
  ·rw [List.getElem?_drop] at i
   have:=h6 _ _ i
   rwa [<- Nat.add_assoc] at this
theorem eX.store {b o c:Nat} (h:eX w e size (.slice (some ⟨b,o,none⟩) n c) n xs) (j:Nat) (u:Value):eX (w.setCell ⟨b,o + j,none⟩ u) e size (.slice (some ⟨b,o,none⟩) n c) n (xs.set j u):=by
 rcases h.Qh with ⟨h0,_⟩ | ⟨b',z,A,m,p,r,s,h4,h5,h6⟩
 ·cases h0
 ·injection p with d _ x
  injection d with d
  injection d with d f
  subst d f x
  refine ⟨by rw [Rm];exact h.len,.inr ⟨b,o,c,_,rfl,r.bH (o + j) u,s,h4,by rw [Array.size_setIfInBounds];exact h5,fun k v g=>?_⟩⟩
  by_cases e:j=k
  ·subst e
   obtain ⟨i,e⟩:=List.getElem?_eq_some_iff.1 g
   have f:v=u:=by rw [<- e];simp
   subst f
   have y:=(Array.getElem?_eq_some_iff.1 (h6 j (xs[j]'(by simpa using i)) (gG (l:=xs) (by simpa using i)))).1
   rw [Array.getElem?_setIfInBounds_self,if_pos y]
  ·rw [MF e] at g
   rw [Array.getElem?_setIfInBounds_ne af]
   exact h6 k v g
variable {P:Program}
theorem yD (t ty:TypeId) (i:TypeInfo) (z:Value) (bytes:Nat) (K:P.underlying t=some (.slice e)) (L:P.info? e=some i) (Z:i.zero=some z)
 (x:i.size=size) (M:i.bytes=bytes) (N:z.cells.size=size)
 (h:eX w e size V n xs) (b' y:Nat) (m c:Nat) (hm:0 < m) (news:List Value) (D:news.length=m * size) (hA:∀ k u,news[k]?=some u->w.cell? ⟨b',y + k,none⟩=some u) (h1:∀ u∈news,u.oneCell'=true)
 (E:n + m<=maxLen) (p:(n + m) * bytes<=140737488355328) :
 ∃ V' w',(Builtin.append_ #[t,t] ty #[V,.slice (some ⟨b',y,none⟩) m c]).run P w=.ok V' w'/\eX w' e size V' (n + m) (xs ++ news)/\Fr (fun k=>V.ownBlock=some k) w w'/\(∀ k,V'.ownBlock=some k->V.ownBlock=some k∨w.heap.size<=k):=by
 subst x
 subst M
 have I:n + m<=9223372036854775807:=by simp only [maxLen] at E;omega
 have s:(xs ++ news).length=(n + m) * i.size:=by rw [ja,h.len,D,Nat.add_mul]
 have d:∀ j u,news[j]?=some u->w.cell? ((⟨b',y,none⟩:Addr).add j)=some u:=fun j u O=>by rw [lS];exact hA j u O
 have grown:∀ (old:Nat),old < n + m->eX (w.drew.alloc (.cells (xs.toArray ++ news.toArray ++ Builtin.zeroCells z.cells (grownCap w (n + m) old e - (n + m))) e)) e i.size (.slice (some ⟨w.heap.size,0,none⟩) (n + m) (grownCap w (n + m) old e)) (n + m) (xs ++ news):=by
  intro old ho
  have R:=grownCap_ge w (n + m) old e
  have A:grownCap w (n + m) old e<=maxLen:=grownCap_le_maxLen w (n + m) old e E
  refine ⟨s,.inr ⟨w.heap.size,0,_,_,rfl,heap_alloc_new w.drew _,R,A,?_,fun k u r=>?_⟩⟩
  ·simp only [Array.size_append,List.size_toArray,size_zeroCells,N,h.len,D,<- Nat.add_mul,mE]
   congr 1
   omega
  ·rw [mE,Array.getElem?_append_left (by
    have:=(List.getElem?_eq_some_iff.1 r).1
    simpa using this)]
   simpa using r
 rcases h.Qh with ⟨rfl,rfl⟩ | ⟨g,o,f,B,rfl,T,hnc,A,F,J⟩
 ·have J:xs=[]:=List.eq_nil_of_length_eq_zero (by simpa using h.len)
  subst J
  have U:=run_append_nil (P:=P) w t ty e i z K L Z ⟨b',y,none⟩ m c news D d af af (by have hb:=p;simp only [mE] at hb;omega)
  have G:=grown 0 af
  simp only [mE,qz,Array.empty_append] at G ⊢
  exact ⟨_,_,U,G,(Fr.refl _ w).drew.alloc _,fun k r=>by simp [Value.ownBlock] at r;right;omega⟩
 ·by_cases l:n + m<=f
  ·have W:o + n * i.size + news.length<=B.size:=by
    rw [D,<- F]
    have:(n + m) * i.size<=f * i.size:=Nat.mul_le_mul_right _ l
    rw [Nat.add_mul] at this
    omega
   have hf:(Builtin.firstCells i.size m (.slice (some ⟨b',y,none⟩) m c)).run P w=.ok news.toArray w:=run_firstCells_some w i.size m ⟨b',y,none⟩ m c news D d
   have H:=run_storeCells_at (P:=P) (g:=g) (o + n * i.size) news 0 w B T af h1
   simp only [I9] at H
   refine ⟨.slice (some ⟨g,o,none⟩) (n + m) f,setAt w g (o + n * i.size) news,?_,?_,Fr.setAt (S:=fun k=>(Value.slice (some ⟨g,o,none⟩) n f).ownBlock=some k) (.inr rfl) news w (o + n * i.size) (Fr.refl _ w),fun k r=>.inl r⟩
   ·simp [Builtin.append_,run_underlying K,sizeOf,typeInfo,L,Builtin.lenOf,l,hf,lS,H]
   ·refine ⟨s,.inr ⟨g,o,f,_,rfl,Bk.setAt news (o + n * i.size) T,l,A,by rw [aT];exact F,fun k u r=>?_⟩⟩
    by_cases X:k < n * i.size
    ·rw [BG (by rw [h.len];exact X)] at r
     rw [aD _ _ _ _ (.inl af)]
     exact J k u r
    ·rw [Dr (by rw [h.len];omega),h.len] at r
     have Y:=(List.getElem?_eq_some_iff.1 r).1
     have:=p8 news B (o + n * i.size) (k - n * i.size) W Y
     rw [show o + n * i.size + (k - n * i.size)=o + k by omega] at this
     rw [this];exact r
  ·have C:∀ j u,xs[j]?=some u->w.cell? ((⟨g,o,none⟩:Addr).add j)=some u:=fun j u O=>by rw [lS];exact (T.cell _).trans (J j u O)
   have U:=run_append_grow (P:=P) w t ty e i z K L Z ⟨g,o,none⟩ n f xs h.len C ⟨b',y,none⟩ m c news D d af af (growslice_fits af p)
   exact ⟨_,_,U,grown f af,(Fr.refl _ w).drew.alloc _,fun k r=>by simp [Value.ownBlock] at r;right;omega⟩
theorem eX.alloc (h:eX w e size V n xs) (x:Obj):eX (w.alloc x) e size V n xs:=h.old ((Old.refl' w).ag x)
def wK (w:World) (_base:Nat) (e:TypeId) (size:Nat) (V:Value) (N:Nat) (ys:List Value) (V':Value) (w':World):Prop:=
 eX w' e size V' N ys/\Fr (fun k=>V.ownBlock=some k) w w'/\∀ k,V'.ownBlock=some k->V.ownBlock=some k∨w.heap.size<=k
theorem wK.bk {base:Nat} {V':Value} {g:Nat} {t:TypeId} {cs:Array Value} (h:wK w base e size V n xs V' w') (f:Bk w g t cs) (d:V.ownBlock≠some g):Bk w' g t cs:=f.fr h.2.1 d
theorem Ke {ops:Oper} {a:Act} {K:Act->World->Prop} {Q:Exit->Act->World->Prop} (s x:Operand) (t:TypeId)
 (G:ops.op=.call { callee:=.builtin .append,args:=#[s,x],argTypes:=#[t,t] })
 (base:Nat) (e:TypeId) (i:TypeInfo) (z:Value) (size bytes:Nat) (H:P.underlying t=some (.slice e)) (I:P.info? e=some i) (J:i.zero=some z)
 (f:i.size=size) (p:i.bytes=bytes) (r:z.cells.size=size) (y:0 < size)
 (V:Value) (n:Nat) (xs:List Value) (L:a.eval s=V) (g:eX w e size V n xs)
 (A:Option Addr) (m c:Nat) [hm:NeZero m] (news:List Value) (M:a.eval x=.slice A m c) (B:news.length=m * size) (O:ah w A news) (R:∀ u∈news,u.oneCell'=true)
 (C:n + m<=maxLen) (d:(n + m) * bytes<=140737488355328) (k:base<=w.heap.size) (N:Nat) (T:n + m=N) (E:List Value) (hy:xs ++ news=E)
 (h:∀ A' l w',wK w base e size V N E (.slice A' N l) w'->K (a.put ops.dst (.slice A' N l)) w'):ops.wp P a w K Q:=by
 subst T hy
 have j:0 < m:=Nat.pos_of_ne_zero hm.out
 have D:news≠[]:=fun e=>by rw [e] at B;have:=Nat.mul_pos j y;simp at B;omega
 obtain ⟨b,o,rfl,-,U⟩:=O D
 obtain ⟨V',w',W,F,X,Y⟩:=yD (P:=P) t ops.type i z bytes H I J f p r g b o m c j news B U R C d
 obtain ⟨A',l,rfl,-⟩:=F.shape
 unfold Oper.wp execOp
 simp only [G,resolve,invoke,builtin,Sem.run_bind,Sem.run_pure,Result.andThen_ok,List.map_toArray,BB,IV,L,M,W]
 exact h A' l w' ⟨F,X,Y⟩
end
def qK (x:uU):List Value:=[zi x.id,zi x.asked,zi x.az] ++ x.told.map Value.bool
def FB (x:uU):Value:=.agg (qK x).toArray
theorem five {l:List Bool} (h:l.length=5):∃ a b c d e,l=[a,b,c,d,e]:=by
 match l,h with
 | [a,b,c,d,e],_=>exact ⟨a,b,c,d,e,rfl⟩
def uU.zero:uU:=⟨0,0,0,List.replicate 5 false⟩
theorem sw {α:Type} (f:α->List Value) (size:Nat):∀ (l:List α),(∀ x∈l,(f x).length=size)->(l.flatMap f).length=l.length * size/\∀ (i j:Nat) x,l[i]?=some x->j < size->(l.flatMap f)[i * size + j]?=(f x)[j]?
 | [],_=>⟨bE,fun i j x h=>by simp at h⟩
 | y :: l,h=>by
  obtain ⟨e,k⟩:=sw f size l (fun x d=>h x (by simp [d]))
  have hy:=h y bE
  refine ⟨by simp only [List.flatMap_cons,ja,e,hy,iR,Nat.add_mul,Nat.one_mul];omega,fun i j x d m=>?_⟩
  cases i with
  | zero=>
   simp only [je,Option.some.injEq] at d
   subst d
   simp only [List.flatMap_cons,Nat.zero_mul,mE]
   rw [BG af]
  | succ i=>
   simp only [nW] at d
   simp only [List.flatMap_cons]
   rw [Dr (by rw [Nat.add_mul];omega),hy,show (i + 1) * size + j - size=i * size + j by rw [Nat.add_mul];omega]
   exact k i j x d m
theorem VA {w:World} {g:Nat} {t:TypeId} {a b c d e f h i:Value} (j:Bk w g t #[a,b,c,d,e,f,h,i]):w.cell? ⟨g,0,none⟩=some a/\w.cell? ⟨g,1,none⟩=some b/\w.cell? ⟨g,2,none⟩=some c/\w.cell? ⟨g,3,none⟩=some d/\w.cell? ⟨g,4,none⟩=some e/\w.cell? ⟨g,5,none⟩=some f/\w.cell? ⟨g,6,none⟩=some h/\w.cell? ⟨g,7,none⟩=some i/\g < w.heap.size:=
 ⟨(j.cell 0).trans rfl,(j.cell 1).trans rfl,(j.cell 2).trans rfl,(j.cell 3).trans rfl,(j.cell 4).trans rfl,(j.cell 5).trans rfl,(j.cell 6).trans rfl,(j.cell 7).trans rfl,j.lt⟩
structure dz (w:World) (F:Nat->Prop) (g:Nat) (h:kV):Prop where
 ex:∃ V,Bk w g 250 #[zi h.n,V]/\eX w 261 8 V h.row.length (h.row.flatMap qK)/\∀ k,V.ownBlock=some k->F k
 five:∀ x∈h.row,x.told.length=5
 gF:F g
 lt:∀ k,F k->k < w.heap.size
section
variable {w w':World} {F F' S:Nat->Prop} {g:Nat} {h:kV}
theorem dz.fr (H:dz w F g h) (d:Fr S w w') (f:∀ k,F k->¬ S k):dz w' F g h:=by
 obtain ⟨V,j,l,i⟩:=H.ex
 exact ⟨⟨V,j.fr d (f g H.gF),l.fr d (fun k e=>f k (i k e)),i⟩,H.five,H.gF,fun k e=>iD (H.lt k e) d.size⟩
theorem dz.old (H:dz w F g h) (d:Old w w'):dz w' F g h:=H.fr (S:=fun _=>False) (Fr.aj d) (fun _ _ h=>h)
theorem dz.mono (H:dz w F g h) (d:∀ k,F k->F' k) (e:∀ k,F' k->k < w.heap.size):dz w F' g h:=by
 obtain ⟨V,f,i,j⟩:=H.ex
 exact ⟨⟨V,f,i,fun k l=>d k (j k l)⟩,H.five,d g H.gF,e⟩
theorem dz.len8 (H:dz w F g h):∀ x∈h.row,(qK x).length=8:=fun x d=>by simp [qK,H.five x d]
end
theorem aag (n:Nat) (i:1<=n) (h5:n<=5) (w:World):aS 93 #[zi n] w fun e w'=>e=.returned (.tuple #[w.heap.size,zi 0])/\dz w' (fun k=>k=w.heap.size) w.heap.size ⟨n,[]⟩/\Old w w':=by
 have d:=aa (show dz (w.alloc (.cells #[zi n,aQ] 250)) (fun k=>k=w.heap.size) w.heap.size ⟨n,[]⟩ from
  ⟨⟨_,Bk.new w _ _,eX.nil _ _ _,fun k f=>by simp [Value.ownBlock] at f⟩,bE,rfl,fun k f=>by subst f;simp⟩)
 go_enter func93,ntmps93
 go_wp2
 go_ret2
 exact ⟨rfl,d.o,(Old.refl' w).ag _⟩
theorem Qi (F:Nat->Prop) (g:Nat) (h:kV) (L:h.row.length<=4) (x:uU) (D:h.row.getLast?.getD .zero=x) (w:World) (H:dz w F g h) :
 aS 185 #[g] w fun e w'=>e=.returned (FB x)/\Old w w':=by
 obtain ⟨V,I,E,M⟩:=H.ex
 obtain ⟨A,c,rfl,N⟩:=E.shape
 obtain ⟨c0,c1,f0,f1,O⟩:=bk2 I
 have P:=aa (H.five)
 have R:=aa H.len8
 obtain ⟨n,row⟩:=h
 simp only at *
 rcases List.eq_nil_or_concat row with rfl | ⟨l,y,rfl⟩
 ·simp at D
  subst D
  simp only [jV] at *
  obtain ⟨x0,x1,x2,f,i,k,p,r,s⟩:=VA (Bk.new w 261 #[zi 0,zi 0,zi 0,.bool false,.bool false,.bool false,.bool false,.bool false])
  go_enter func185,ntmps185
  go_wp2
  exact bodyPost_ret (v:=.agg #[zi 0,zi 0,zi 0,.bool false,.bool false,.bool false,.bool false,.bool false]) (by simp [results,results185,go_sem,x0,x1,x2,f,i,k,p,r,s]) rfl ⟨rfl,(Old.refl' w).ag _⟩
 ·simp at D
  subst D
  simp only [List.concat_eq_append,ja,List.length_singleton] at *
  obtain ⟨m,J⟩:=aR (l.length)
  rw [J] at c1 L E N
  obtain ⟨b,o,rfl,Z,K,G⟩:=E.cells af
  have h5:=P.o y bE
  obtain ⟨t0,t1,t2,t3,t4,z⟩:=five h5
  have B:=(sw qK 8 (l ++ [y]) (by simpa using R.o)).2 m
  have d:∀ j u,j < 8->(qK y)[j]?=some u->w.cell? ⟨b,o + m * 8 + j,none⟩=some u:=fun j u T U=>by
   rw [Nat.add_assoc]
   refine K _ _ ?_
   rw [B j y (by rw [<- J];simp) T];exact U
  have r0:w.cell? ⟨b,o + m * 8,none⟩=some (zi y.id):=d 0 _ af rfl
  have r1:=d 1 _ af rfl
  have r2:=d 2 _ af rfl
  have r3:=d 3 (.bool t0) af (by simp [qK,z])
  have r4:=d 4 (.bool t1) af (by simp [qK,z])
  have r5:=d 5 (.bool t2) af (by simp [qK,z])
  have r6:=d 6 (.bool t3) af (by simp [qK,z])
  have r7:=d 7 (.bool t4) af (by simp [qK,z])
  obtain ⟨x0,x1,x2,f,i,k,p,r,s⟩:=VA (Bk.drew (Bk.new w 261 #[zi y.id,zi y.asked,zi y.az,.bool t0,.bool t1,.bool t2,.bool t3,.bool t4]))
  have W:(m:Int) < 9223372036854775807:=af
  have C:kN (IntKind.i64.wrap (m:Int)=m):=aa (kP _ af)
  have hz:((m:Int) + 1 == 0)=false:=jR
  have X:(m:Int) < m + 1:=af
  have Y:=aa (And.intro x0 (And.intro x1 (And.intro x2 (And.intro f (And.intro i (And.intro k (And.intro p (And.intro r s))))))))
  clear d B E M I H K G W x0 x1 x2 f i k p r s
  go_enter func185,ntmps185
  go_upto_region 3 with fail
  have C:=C.o
  go_region
  go_wp2
  obtain ⟨x0,x1,x2,f,i,k,p,r,s⟩:=Y.o
  exact bodyPost_ret (v:=.agg #[zi y.id,zi y.asked,zi y.az,.bool t0,.bool t1,.bool t2,.bool t3,.bool t4]) (by simp [results,results185,go_sem,x0,x1,x2,f,i,k,p,r,s]) rfl ⟨by simp [FB,qK,z],((Old.refl' w).ag _).drew'⟩
theorem yE:(prog.info? 261).map (fun i=>(i.zero,i.size,i.bytes))=some (some (.agg #[zi 0,zi 0,zi 0,.bool false,.bool false,.bool false,.bool false,.bool false]),8,32):=ay
def wL (w:World) (F:Nat->Prop) (g:Nat) (n m:Nat) (ys:List Value) (w':World):Prop:=
 ∃ A2 c2 F',Bk w' g 250 #[zi n,.slice A2 (m + 1) c2]/\eX w' 261 8 (.slice A2 (m + 1) c2) (m + 1) ys/\(∀ k,(Value.slice A2 (m + 1) c2).ownBlock=some k->F' k)/\F' g/\(∀ k,F' k->k < w'.heap.size)/\jH w F F'/\Fr F w w'
theorem wL.to {w w':World} {F:Nat->Prop} {g n m:Nat} {e:List Value} {h:kV} (f:wL w F g n m e w') (i:h.n=n) (j:h.row.length=m + 1) (hy:h.row.flatMap qK=e) (h5:∀ x∈h.row,x.told.length=5):(∃ F',dz w' F' g h/\jH w F F')/\Fr F w w':=by
 obtain ⟨A2,c2,F',k,l,p,h4,d,h6,h7⟩:=f
 exact ⟨⟨F',⟨⟨_,i▸k,by rw [j,hy];exact l,p⟩,h5,h4,d⟩,h6⟩,h7⟩
theorem wL.cut {w w':World} {F:Nat->Prop} {g n m:Nat} {s:List Value} (u:wL w F g n m s w'):∃ b o c,w'.cell? ⟨g,1,none⟩=some (.slice (some ⟨b,o,none⟩) (m + 1) c)/\w'.frozen? ⟨g,1,none⟩=false/\g < w'.heap.size/\m + 1<=c/\
 ∀ h:kV,h.n=n->h.row.length=m->h.row.flatMap qK=s.drop 8->(∀ x∈h.row,x.told.length=5)->(∃ F',dz (w'.setCell ⟨g,1,none⟩ (.slice (some ⟨b,o + 8,none⟩) m (c - 1))) F' g h/\jH w F F')/\Fr F w (w'.setCell ⟨g,1,none⟩ (.slice (some ⟨b,o + 8,none⟩) m (c - 1))):=by
 obtain ⟨A2,c2,F',i,f,y,h4,j,h6,h7⟩:=u
 obtain ⟨b,o,rfl,G,H,I⟩:=f.cells af
 obtain ⟨c0,c1,f0,f1,z⟩:=bk2 i
 obtain ⟨A,J⟩:=f.tail
 have l:m + 1<=c2:=by obtain ⟨_,_,e,K⟩:=f.shape;injection e with _ _ e;omega
 have r:b≠g:=fun e=>f.Fz i aW (by simp [Value.ownBlock,e])
 refine ⟨b,o,c2,c1,f1,z,l,fun h B C D E=>⟨⟨F',⟨⟨.slice (some ⟨b,o + 8,none⟩) m (c2 - 1),by have:=i.bH 1 (.slice (some ⟨b,o + 8,none⟩) m (c2 - 1));rw [B];simpa using this,?_,fun k d=>y k d⟩,E,h4,fun k d=>by have:=j k d;simpa using this⟩,h6⟩,?_⟩⟩
 ·rw [C,D]
  exact A.fr (S:=fun k=>k=g) (Fr.setCell (S:=fun k=>k=g) (p:=⟨g,1,none⟩) (Fr.refl _ _) (.inr rfl) _) (fun k d e=>by injection d with d;exact r (d.trans e))
 ·exact h7.setCell (p:=⟨g,1,none⟩) (h6 g h4).symm _
theorem RU {h d:kV} {x:uU} (g:(⟨h.n,if 4 < (h.row ++ [x]).length then (h.row ++ [x]).drop 1 else h.row ++ [x]⟩:kV)=d) (f:∀ y∈h.row,y.told.length=5) (i:x.told.length=5) :
 d.n=h.n/\(∀ y∈d.row,y.told.length=5)/\(h.row.length=4->d.row.length=4/\d.row.flatMap qK=(h.row.flatMap qK ++ qK x).drop 8)/\(h.row.length < 4->d.row.length=h.row.length + 1/\d.row.flatMap qK=h.row.flatMap qK ++ qK x):=by
 have f2:∀ y∈h.row ++ [x],y.told.length=5:=fun y hy=>by
  rcases List.mem_append.1 hy with e | e
  ·exact f y e
  ·rw [List.mem_singleton.1 e];exact i
 obtain ⟨n,row⟩:=h
 subst g
 refine ⟨rfl,fun y hy=>?_,fun h4=>?_,fun h4=>?_⟩
 ·by_cases e:4 < (row ++ [x]).length
  ·simp only [if_pos e] at hy;exact f2 y (List.mem_of_mem_drop hy)
  ·simp only [if_neg e] at hy;exact f2 y hy
 ·simp only at h4
  have e:4 < (row ++ [x]).length:=by simp [h4]
  simp only [if_pos e]
  cases row with
  | nil=>simp at h4
  | cons y l=>
   have hy:(qK y).length=8:=by simp [qK,f y (by simp)]
   refine ⟨by simpa using h4,?_⟩
   simp only [xZ,MH,Ja,List.flatMap_cons,MI]
   rw [List.drop_append_of_le_length af,List.drop_eq_nil_of_le af]
   simp
 ·simp only at h4
  have e:¬ 4 < (row ++ [x]).length:=jR
  simp only [if_neg e]
  exact ⟨bE,bE⟩
theorem HAdd (F:Nat->Prop) (g:Nat) (h h':kV) (hn:h.row.length<=4) (x:uU) (h5:x.told.length=5) (hh:(⟨h.n,if 4 < (h.row ++ [x]).length then (h.row ++ [x]).drop 1 else h.row ++ [x]⟩:kV)=h') (w:World) (H:dz w F g h) :
 aS 200 #[av g 1,FB x] w fun e w'=>e=.returned (.tuple #[])/\(∃ F',dz w' F' g h'/\jH w F F')/\Fr F w w':=by
 obtain ⟨j0,hj0,X,Y,Z⟩:=info_parts yE
 obtain ⟨V,h1,y,h3⟩:=H.ex
 obtain ⟨A,ca,rfl,hc⟩:=y.shape
 have TV:=H.gF
 have hlt:=H.lt
 have H5:=aa H.five
 obtain ⟨n,row⟩:=h
 obtain ⟨i,j,l,tl⟩:=x
 obtain ⟨t0,t1,t2,t3,t4,rfl⟩:=five h5
 simp only at *
 obtain ⟨m,hm⟩:=aR (row.length)
 rw [hm] at h1 y hc hn h3
 obtain ⟨xs,O⟩:=aR (row.flatMap qK)
 rw [O] at y
 have hgl:=h1.lt
 have P:=y.Fz h1 aW
 obtain ⟨s,B⟩:=aR ((w.alloc (.cells #[zi i,zi j,zi l,.bool t0,.bool t1,.bool t2,.bool t3,.bool t4] 261)).drew)
 obtain ⟨b,hb⟩:=aR (w.heap.size)
 have hO:Old w s:=by rw [<- B];exact ((Old.refl' w).ag _).drew'
 have hX:Bk s b 261 #[zi i,zi j,zi l,.bool t0,.bool t1,.bool t2,.bool t3,.bool t4]:=by rw [<- B,<- hb];exact (Bk.new w _ _).drew
 have C:=h1.old hO
 have J:=y.old hO
 have hX1:(#[zi n,.slice A m ca]:Array Value)[1]?=some (.slice A m ca):=rfl
 have CS:=aa (fun (U:World) (h:Old s U)=>(by
  obtain ⟨a0,a1,a2,a3,a4,a5,a6,a7,a8⟩:=VA (hX.old h)
  exact ⟨a0,a1,a2,a3,a4,a5,a6,a7,a8,((C.old h).cell 1).trans rfl⟩:U.cell? ⟨b,0,none⟩=some (zi i)/\U.cell? ⟨b,1,none⟩=some (zi j)/\U.cell? ⟨b,2,none⟩=some (zi l)/\U.cell? ⟨b,3,none⟩=some (.bool t0)/\U.cell? ⟨b,4,none⟩=some (.bool t1)/\U.cell? ⟨b,5,none⟩=some (.bool t2)/\U.cell? ⟨b,6,none⟩=some (.bool t3)/\U.cell? ⟨b,7,none⟩=some (.bool t4)/\b < U.heap.size/\U.cell? ⟨g,1,none⟩=some (.slice A m ca)))
 obtain ⟨Fin,K⟩:∃ G:World->Prop,G=wL w F g n m (xs ++ [zi i,zi j,zi l,.bool t0,.bool t1,.bool t2,.bool t3,.bool t4]):=⟨_,rfl⟩
 have L:=fun (A2:Option Addr) (c2:Nat) (W2:World) (y:wK (s.alloc (.cells #[zi i,zi j,zi l,.bool t0,.bool t1,.bool t2,.bool t3,.bool t4] 261)) 0 261 8 (.slice A m ca) (m + 1) (xs ++ [zi i,zi j,zi l,.bool t0,.bool t1,.bool t2,.bool t3,.bool t4]) (.slice A2 (m + 1) c2) W2)=>(by
  rw [K]
  obtain ⟨a1,a2,a3⟩:=y
  have o1:Old w (s.alloc (.cells #[zi i,zi j,zi l,.bool t0,.bool t1,.bool t2,.bool t3,.bool t4] 261)):=hO.trans' ((Old.refl' s).ag _)
  have W:=(C.alloc (.cells #[zi i,zi j,zi l,.bool t0,.bool t1,.bool t2,.bool t3,.bool t4] 261)).fr a2 P
  have hne2:=a1.Fz W aW
  have hs:=a2.size
  have hs1:=o1.size
  have hf:Fr F w W2:=(Fr.aj o1).trans (a2.mono fun k _ f=>h3 k f)
  refine ⟨A2,c2,fun k=>k=g∨(Value.slice A2 (m + 1) c2).ownBlock=some k,?_,?_,fun k f=>.inr f,.inl rfl,fun k f=>?_,fun k f=>?_,hf.setCell (p:=⟨g,1,none⟩) (.inr TV) _⟩
  ·simpa using W.bH 1 (.slice A2 (m + 1) c2)
  ·exact a1.fr (S:=fun k=>k=g) (Fr.setCell (S:=fun k=>k=g) (p:=⟨g,1,none⟩) (Fr.refl _ _) (.inr rfl) _) (fun k f e=>hne2 (e▸f))
  ·rcases f with rfl | f
   ·have:=W.lt;simpa using this
   ·have:=a1.lt f;simpa using this
  ·rcases f with rfl | f
   ·exact .inl TV
   ·rcases a3 k f with e | e
    ·exact .inl (h3 k e)
    ·exact .inr af:Fin (W2.setCell ⟨g,1,none⟩ (.slice A2 (m + 1) c2)))
 have M:=B
 have z:=aa (RU (h:=⟨n,row⟩) (x:=⟨i,j,l,[t0,t1,t2,t3,t4]⟩) hh H5.o h5)
 rw [show qK ⟨i,j,l,[t0,t1,t2,t3,t4]⟩=[zi i,zi j,zi l,.bool t0,.bool t1,.bool t2,.bool t3,.bool t4] from rfl] at z
 simp only at z
 rw [hm] at z
 simp only [O] at z
 clear O hm hh
 rw [show FB ⟨i,j,l,[t0,t1,t2,t3,t4]⟩=.agg #[zi i,zi j,zi l,.bool t0,.bool t1,.bool t2,.bool t3,.bool t4] from rfl]
 clear h1 y hO H h3 hlt
 go_enter func200,ntmps200
 go_upto_region 1 with fail
 refine aY (R:=pick [eqv (av g 1),eqv (av g 1),eqv (av g 1),eqv (av g 1),eqv (.slice A m ca),eqv (.agg #[zi i,zi j,zi l,.bool t0,.bool t1,.bool t2,.bool t3,.bool t4]),eqv (.slice (some ⟨s.heap.size,0,none⟩) 1 1),fun v w'=>∃ A2 c2,v=.slice A2 (m + 1) c2,eqv (av g 1),eqv (av g 1),eqv (undef)]) (S:=fun σ w'=>(σ 10≠none->Fin w')/\(σ 10=none->σ 7≠none->∃ A2 c2,σ 7=some (.slice A2 (m + 1) c2)/\wK (s.alloc (.cells #[zi i,zi j,zi l,.bool t0,.bool t1,.bool t2,.bool t3,.bool t4] 261)) 0 261 8 (.slice A m ca) (m + 1) (xs ++ [zi i,zi j,zi l,.bool t0,.bool t1,.bool t2,.bool t3,.bool t4]) (.slice A2 (m + 1) c2) w')/\(σ 10=none->σ 7=none->σ 6≠none->w'=(s.alloc (.cells #[zi i,zi j,zi l,.bool t0,.bool t1,.bool t2,.bool t3,.bool t4] 261)))/\(σ 10=none->σ 7=none->σ 6=none->w'=s)) (T:=(fun _ _=>True)) ay ay ay (ai.pick (ai.eqv (ai.eqv (ai.eqv (ai.eqv (ai.eqv (ai.eqv (ai.eqv (ai.cons (fun _ _ _ _ h=>h) (ai.eqv (ai.eqv (ai.eqv (ai.nil))))))))))))) (⟨fun h=>absurd rfl h,fun _ h=>absurd rfl h,fun _ _ h=>absurd rfl h,fun _ _ _=>M⟩) ?steps ?ends
 case steps=>
  refine .cons (zp [] [(0,av g 1)]) <|.cons (zp [] [(0,av g 1)]) <|.cons (zp [(1,5)] []) <|.cons (zp [(2,6)] []) ?_
  refine .cons (zp [(3,7)] [] (fun d E w' f D hS hc hf=>by rintro _ q3 rfl e7 ;obtain ⟨u0,u1,u2,u3,u4,u5,u6,u7,u8,u9⟩:=CS.o w' ((Classical.em (d 6=none)).elim (fun r=>by rw [hS.2.2.2 (f 10 (by kernel_rfl)) (f 7 (by kernel_rfl)) r];exact Old.refl' _) (fun r=>by rw [hS.2.2.1 (f 10 (by kernel_rfl)) (f 7 (by kernel_rfl)) r];exact (Old.refl' _).ag _));exact ⟨_,by go_simp,rfl⟩)) ?_
  refine .cons (zp [] [(3,b)] (fun d E w' f D hS hc hf=>by rintro  e3;obtain ⟨u0,u1,u2,u3,u4,u5,u6,u7,u8,u9⟩:=CS.o w' ((Classical.em (d 6=none)).elim (fun r=>by rw [hS.2.2.2 (f 10 (by kernel_rfl)) (f 7 (by kernel_rfl)) r];exact Old.refl' _) (fun r=>by rw [hS.2.2.1 (f 10 (by kernel_rfl)) (f 7 (by kernel_rfl)) r];exact (Old.refl' _).ag _));exact ⟨_,by go_simp,rfl⟩)) ?_
  refine aH.cons (bP [(5,9)] [] rfl rfl ay ay rfl ?_) ?_
  ·rintro d a w' f D hS _ q5 rfl e9 
   first | refine Given.nil (aU.nil ?_) | refine aU.nil ?_
   obtain rfl:=(hS.2.2.2 (f 10 ay) (f 7 ay) (f 6 ay)).symm
   refine jC (w':=(s.alloc (.cells #[zi i,zi j,zi l,.bool t0,.bool t1,.bool t2,.bool t3,.bool t4] 261))) (.slice (some ⟨s.heap.size,0,none⟩) 1 1) (by revert e9;generalize a.eval=E;intro e9;go_simp) ⟨_,rfl,rfl,trivial,?_⟩
   exact ⟨fun h=>absurd (f 10 ay) yg,fun _ h=>absurd (f 7 ay) yg,fun _ _ _=>rfl,fun _ _ h=>xX⟩
  refine aH.cons (bP [(4,8),(6,10)] [] rfl rfl ay ay rfl ?_) ?_
  ·rintro d a w' f D hS _ q4 rfl e8 _ q6 rfl e10 
   first | refine Given.nil (aU.nil ?_) | refine aU.nil ?_
   obtain rfl:=hS.2.2.1 (f 10 ay) (f 7 ay) (by rw [q6];simp)
   refine Ke (.tmp 8) (.tmp 10) 246 rfl 0 261 j0 (.agg #[zi 0,zi 0,zi 0,.bool false,.bool false,.bool false,.bool false,.bool false]) 8 32 underlying246 hj0 X Y Z rfl aW (.slice A m ca) m (xs) e8 (J.alloc _) (some ⟨s.heap.size,0,none⟩) 1 1 [zi i,zi j,zi l,.bool t0,.bool t1,.bool t2,.bool t3,.bool t4] e10 rfl (cz (Bk.new s 261 #[zi i,zi j,zi l,.bool t0,.bool t1,.bool t2,.bool t3,.bool t4])) tC qy af (Nat.zero_le _) (m + 1) rfl _ rfl ?_
   intro A2 c2 W2 y
   exact ⟨_,rfl,⟨A2,c2,rfl⟩,trivial,fun h=>absurd (f 10 ay) yg,fun _ _=>⟨A2,c2,vL,y⟩,fun _ h=>xX,fun _ h=>xX⟩
  refine .cons (zp [(0,4)] []) <|.cons (zp [(8,12)] []) ?_
  refine aH.cons (dH [(9,13),(7,11)] [] rfl rfl ay ay rfl (fun d E w' f D hS hc hf=>by rintro _ q9 rfl e13 _ q7 ⟨A2,c2,rfl⟩ e11 ;obtain ⟨A3,c3,I,y⟩:=hS.2.1 (f 10 (by kernel_rfl)) (by rw [q7];simp);rw [q7] at I;injection I with I;injection I with AB _ AF;subst AB AF;have hG2:=y.bk (C.alloc _) P;have y0:=(hG2.cell 1).trans hX1;have y1:=hG2.frozen 1;exact ⟨w'.setCell ⟨g,1,none⟩ (.slice A2 (m + 1) c2),by go_simp,rfl,trivial,⟨fun _=>L _ _ _ y,fun h=>by simp [upd] at h,fun h=>by simp [upd] at h,fun h=>by simp [upd] at h⟩⟩)) ?_
  exact aH.nil
 case ends=>
  intro jA w9 nT IW
  iterate 7 refine .eqv _ _ rfl (fun _ h=>h) ?_
  refine Ends.ex (some 11) rfl ?_
  rintro _ p7 ⟨A2,c2,rfl⟩
  iterate 3 refine .eqv _ _ rfl (fun _ h=>h) ?_
  refine Ends.nil ?_
  have N:=IW
  clear IW
  simp only [aC,ax,fM,fJ]
  have u:=nT.1 (by have:=N 10 (by simp);intro e;rw [e] at this;simp at this)
  clear nT N
  rw [K] at u
  obtain ⟨b1,o1,c1,k1,k2,k3,k4,hcut⟩:=u.cut
  have HF:=aa u
  have HC:=aa hcut
  clear u hcut CS L C J P hX B M hX1
  have k5:1<=m + 1:=af
  by_cases h4:m=4
  ·subst h4
   go_wp2
   go_end0
   exact ⟨rfl,HC.o h' z.o.1 (z.o.2.2.1 IQ).1 (z.o.2.2.1 IQ).2 z.o.2.1⟩
  ·have h5:¬ (4 < (m:Int) + 1):=by omega
   go_wp2
   go_end0
   exact ⟨rfl,HF.o.to z.o.1 (z.o.2.2.2 af).1 (z.o.2.2.2 af).2 z.o.2.1⟩
theorem Kg (h:kV):∃ x:uU,h.row.getLast?.getD .zero=x/\x.id=h.last.id/\x.asked=h.last.asked/\x.az=h.last.az:=by
 unfold kV.last
 cases h.row.getLast? with
 | none=>exact ⟨_,rfl,rfl,rfl,rfl⟩
 | some y=>exact ⟨_,rfl,rfl,rfl,rfl⟩
theorem Kh {h:kV} (f:∀ y∈h.row,y.told.length=5) {x:uU} (d:h.row.getLast?.getD .zero=x):x.told.length=5:=by
 rcases e:h.row.getLast? with _ | y
 ·rw [e] at d;subst d;rfl
 ·rw [e] at d;subst d;exact f y (List.mem_of_getLast? e)
theorem aah (F:Nat->Prop) (g:Nat) (h h':kV) (u:h.row.length<=4) (now d ev:Int) (r:0<=h.last.id/\h.last.id<=1152921504606846976) (l:h.mV now d=ev) (j:h.ask now d=h') (w:World) (H:dz w F g h) :
 aS 135 #[g,zi now,zi d] w fun e w'=>e=.returned (zi ev)/\(∃ F',dz w' F' g h'/\jH w F F')/\Fr F w w':=by
 obtain ⟨x,z,A,J,L⟩:=Kg h
 have h5:=Kh H.five z
 have HH:=aa H
 have Z:=aa u
 have M:=H.lt g H.gF
 unfold kV.mV at l
 unfold kV.ask kV.mV at j
 rw [<- A,<- J] at l j
 rw [<- A] at r
 obtain ⟨B,C⟩:=r
 clear A J L
 obtain ⟨f,m,y,tl⟩:=x
 obtain ⟨t0,t1,t2,t3,t4,rfl⟩:=five h5
 simp only at l j B C
 have cL:=aa (show aS 185 #[g] w (fun e w'=>e=.returned (.agg #[zi f,zi m,zi y,.bool t0,.bool t1,.bool t2,.bool t3,.bool t4])/\Old w w') from Qi F g h u _ z w H)
 have n:=aa (And.intro u H)
 clear z
 have hbad:=aa (fun D:(now < m∨now < 0∨1099511627776 < now∨d < 1∨1073741824 < d)=>(by
  rw [if_pos D] at l j
  rw [if_pos aW] at j
  exact ⟨l.symm,j.symm⟩:ev=-1/\h'=h))
 have i:=aa (fun D:¬ (now < m∨now < 0∨1099511627776 < now∨d < 1∨1073741824 < d)=>(by
  rw [if_neg D] at l j
  rw [if_neg af] at j
  exact ⟨l.symm,j⟩:ev=f + 1/\(⟨h.n,if 4 < (h.row ++ [(⟨f + 1,now,d,List.replicate 5 false⟩:uU)]).length then (h.row ++ [(⟨f + 1,now,d,List.replicate 5 false⟩:uU)]).drop 1 else h.row ++ [(⟨f + 1,now,d,List.replicate 5 false⟩:uU)]⟩:kV)=h'))
 have hw1:True:=trivial
 clear l j h5 H u
 by_cases k0:now < m
 ·exact I6
 ·by_cases k1:now < 0
  ·exact I6
  ·by_cases k2:1099511627776 < now
   ·exact I6
   ·by_cases k3:d < 1
    ·exact I6
    ·by_cases k4:1073741824 < d
     ·exact I6
     ·obtain ⟨E,s⟩:=i.o af
      subst E
      have N:=aa (fun W (O:Old w W)=>(show aS 200 #[av g 1,.agg #[zi (f + 1),zi now,zi d,.bool false,.bool false,.bool false,.bool false,.bool false]] W (fun e w'=>e=.returned (.tuple #[])/\(∃ F',dz w' F' g h'/\jH W F F')/\Fr F W w') from HAdd F g h h' n.o.1 ⟨f + 1,now,d,List.replicate 5 false⟩ rfl s W (n.o.2.old O)))
      clear hbad i s
      have P:IntKind.i64.wrap (f + 1)=f + 1:=kP _ af
      go_enter func135,ntmps135
      go_wp2_with (go_at_call 185;refine cL.o.mono ?_;rintro e w1 ⟨rfl,o1⟩)
      have wx:w1.heap.size < (w1.alloc (.cells #[zi f,zi m,zi y,.bool t0,.bool t1,.bool t2,.bool t3,.bool t4] 261)).heap.size:=bE
      rename_i p K0 G
      clear p
      go_region_held3 (fun w'=>w'.cell? ⟨w1.heap.size,0,none⟩=some (zi f))
       (first | go_keep)
       (first | (go_at_call 200;refine (N.o _ (o1.trans' ((Old.refl' _).ag _).drew')).mono ?_;rintro e w2 ⟨rfl,f2,I⟩;obtain ⟨z0,z1,z2,z3,z4,z5,z6,z7,z8⟩:=VA ((Bk.drew (Bk.new w1 261 #[zi f,zi m,zi y,.bool t0,.bool t1,.bool t2,.bool t3,.bool t4])).fr I (fun R=>by have:=n.o.2.lt _ R;have:=o1.size;omega))))
      have S:=aa f2
      have T:=aa I
      clear f2 I
      refine G _ _ ?_
      go_wp2
      go_ret
      have K:=o1.trans' ((Old.refl' w1).ag (.cells #[zi f,zi m,zi y,.bool t0,.bool t1,.bool t2,.bool t3,.bool t4] 261)).drew'
      have U:=K.size
      obtain ⟨F',V,X⟩:=S.o
      exact ⟨rfl,⟨F',V,fun k Y=>(X k Y).imp id (fun e=>ic U e)⟩,(Fr.aj K).trans T.o⟩
end Go.Proofs.YthihpfpbiajddaaGreat
