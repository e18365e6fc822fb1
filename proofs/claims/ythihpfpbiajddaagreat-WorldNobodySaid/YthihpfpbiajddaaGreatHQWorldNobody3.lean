/- Parts of the proof. -/
import Derived.Test.YthihpfpbiajddaaGreatHQWorldNobody2
set_option maxRecDepth 100000
set_option maxHeartbeats 8000000
open Go.Proofs.Tryz
namespace Go.Proofs.YthihpfpbiajddaaGreat
open Go.RowKit
section
variable {P:Program} {Q:Exit->Act->World->Prop} {l:List Oper} {a0:Act} {R:Nat->Value->World->Prop} {S:(Nat->Option Value)->World->Prop} {T:World->World->Prop}
theorem zY {k:Nat} {o:Oper} (g:Nat) (t:Tmp) (c:Bool) (m:o.guard=some (g,c)) (n:l[k]?=some o) (hd:dw l o a0.tmps.size [(g,t)]=true) (p:∀ w,T w w) (r:∀ σ v w,S σ w->S (upd σ k v) w)
 (s:∀ v w,R g v w->v=undef) (u:∀ w,R k undef w):ig P Q l a0 R S T k o:=by
 intro σ a w x f h y _ _
 have z:Region.wanted o (yielded l.toArray a.tmps)=false:=by
  unfold dw at hd
  simp only [List.all_cons,List.all_nil,Bool.and_true,kE] at hd
  obtain ⟨⟨A,d⟩,B⟩:=hd
  cases hog:l[g]? with
  | none=>rw [hog] at d;cases d
  | some og=>
   rw [hog] at d
   obtain ⟨v,C⟩:=Option.isSome_iff_exists.1 (kH f g A)
   obtain ⟨i,D⟩:=y g v (List.getElem?_eq_some_iff.1 hog).1 C
   have e:=D og t hog (by simpa using d) (by simpa using B)
   have j:og.dst=some t:=by simpa using d
   rw [s v w i] at e
   simp [Region.wanted,m,yielded,hog,j,e,undef]
 unfold Go.wpOp
 simp only [iZ,n,z,Bool.false_eq_true,if_false]
 exact ⟨undef,rfl,u w,p w,r σ _ w h⟩
end
theorem jC {P:Program} {Q:Exit->Act->World->Prop} {K:Act->World->Prop} {o:Oper} {a:Act} {w w':World} (u:Value) (d:(execOp a.eval o).run P w=.ok (.value u) w') (h:K (a.put o.dst u) w'):Oper.wp P o a w K Q:=by
 unfold Oper.wp
 rw [d]
 exact h
def cs2 (cs:Array Value) (a b:Nat) (u v:Value) (o1 o2:Option Value):Array Value:=match o1,o2 with
 | none,none=>cs
 | some _,none=>cs.setIfInBounds a u
 | none,some _=>cs.setIfInBounds b v
 | some _,some _=>(cs.setIfInBounds a u).setIfInBounds b v
theorem bK {cs:Array Value} {i j:Nat} (h:i≠j) (u:Value):(cs.setIfInBounds i u)[j]?=cs[j]?:=by
 rw [Array.getElem?_setIfInBounds,if_neg h]
theorem get_eq {cs:Array Value} {j:Nat} {v:Value} (h:cs[j]?=some v) (u:Value):(cs.setIfInBounds j u)[j]?=some u:=by
 rw [Array.getElem?_setIfInBounds,if_pos rfl,if_pos (Array.getElem?_eq_some_iff.1 h).1]
theorem PZ {cs:Array Value} {a b:Nat} {u v x:Value} (h:a≠b) (o:Option Value):(cs2 cs a b u v none o).setIfInBounds a u=cs2 cs a b u v (some x) o:=by
 cases o
 ·rfl
 ·exact Array.setIfInBounds_comm _ _ (Ne.symm h)
theorem P7 {cs:Array Value} {a b:Nat} {u v x:Value} (o:Option Value):(cs2 cs a b u v o none).setIfInBounds b v=cs2 cs a b u v o (some x):=by
 cases o <;> rfl
theorem vT {cs:Array Value} {a b j:Nat} {u v w:Value} (f:a≠j) (g:b≠j) (h:cs[j]?=some w) (d e:Option Value):(cs2 cs a b u v d e)[j]?=some w:=by
 cases d <;> cases e <;> simp only [cs2,bK f,bK g,h]
theorem rT {cs:Array Value} {a b j:Nat} {u v w:Value} (h:cs[j]?=some w) (d e:Option Value):∃ w',(cs2 cs a b u v d e)[j]?=some w':=by
 have f:=(Array.getElem?_eq_some_iff.1 h).1
 cases d <;> cases e <;> simp only [cs2] <;> exact ⟨_,Array.getElem?_eq_getElem (by simpa using f)⟩
section
class uT (T:World->World->Prop) (r:Value->World->Prop):Prop where
 st:∀ v w w',T w w'->r v w->r v w'
class Rq (T:World->World->Prop):Prop where
 refl:∀ w,T w w
 tr:∀ {a b c:World},T a b->T b c->T a c
instance:Rq Old:=⟨Old.refl',Old.trans'⟩
instance (S:Nat->Prop):Rq (Fr S):=⟨Fr.refl S,Fr.trans⟩
inductive RR where
 | val (x:Value)
 | rel (r:Value->World->Prop)
def Rt:RR->Value->World->Prop
 | .val x=>eqv x
 | .rel r=>r
def oQ:List RR->Nat->RR
 | [],_=>.rel fun _ _=>True
 | r :: _,0=>r
 | _ :: l,j + 1=>oQ l j
def bQ (Rs:List RR):Nat->Value->World->Prop:=fun j=>Rt (oQ Rs j)
class Fe (T:World->World->Prop) (Rs:List RR):Prop where
 st:∀ j v w w',T w w'->bQ Rs j v w->bQ Rs j v w'
variable {T:World->World->Prop}
instance:Fe T []:=⟨fun _ _ _ _ _ _=>trivial⟩
instance (x:Value) (l:List RR) [k:Fe T l]:Fe T (.val x :: l):=⟨fun j v w w' ho h=>by
 cases j with
 | zero=>exact h
 | succ j=>exact k.st j v w w' ho h⟩
instance (r:Value->World->Prop) (l:List RR) [h0:uT T r] [k:Fe T l]:Fe T (.rel r :: l):=⟨fun j v w w' ho h=>by
 cases j with
 | zero=>exact h0.st v w w' ho h
 | succ j=>exact k.st j v w w' ho h⟩
def Gv (Rs:List RR) (w:World) (E:Operand->Value) (G:Prop):List (Nat×Tmp)->Prop
 | []=>G
 | (j,t) :: r=>match oQ Rs j with
  | .val x=>E (.tmp t)=x->Gv Rs w E G r
  | .rel p=>∀ v,p v w->E (.tmp t)=v->Gv Rs w E G r
theorem gq {Rs:List RR} {w:World} {σ:Nat->Option Value} {E:Operand->Value} {G:Prop}:∀ {deps:List (Nat×Tmp)},Gv Rs w E G deps->Given (bQ Rs) w σ E G deps
 | [],h=>h
 | (j,t) :: r,h=>fun v _ d e=>by
  unfold Gv at h
  unfold bQ at d
  split at h
  ·rename_i x f
   rw [f] at d
   exact gq (h (e.trans d))
  ·rename_i p g
   rw [g] at d
   exact gq (h v d e)
section
variable [ht:Rq T] {P:Program} {Q:Exit->Act->World->Prop} {l:List Oper} {a a0:Act} {W0:World} {Rs:List RR} {k:Nat} {o:Oper}
abbrev SO (T:World->World->Prop) (P:Program) (Q:Exit->Act->World->Prop) (l:List Oper) (a0:Act) (Rs:List RR) (W0:World):Nat->Oper->Prop:=ig P Q l a0 (bQ Rs) (fun _ w'=>T W0 w') T
theorem bG (T:World->World->Prop) [ht:Rq T] {id:Nat} {w:World} (W0:World) (Rs:List RR) (h0:T W0 w.drew) [hs:Fe T Rs]
 (steps:aH (SO T P Q l a Rs W0) 0 l)
 (ends:∀ σ w',T W0 w'->Ends (bQ Rs) w' σ (fun f=>Q .normal f w') 0 l a)
 (g:P.follows .mixedOrders=true:=by kernel_rfl) (e:fU l=true:=by kernel_rfl) (d:(jB l).all (fun t=>decide (t < a.tmps.size))=true:=by kernel_rfl) :
 (Code.region id l.toArray true).wp P Q a w:=
 aY (bQ Rs) (fun _ w'=>T W0 w') T g e d hs.st h0 steps (fun σ w' h _=>ends σ w' h)
theorem sp (deps:List (Nat×Tmp)) (outs:List (Tmp×Value))
 (h:∀ (E:Operand->Value) (w:World),T W0 w->(∀ v,E (.const v)=v)->(∀ f,E (.func f)=.func (.func f) #[] #[])->Gv Rs w E (aU E (∃ v,(execOp E o).run P w=.ok (.value v) w/\bQ Rs k v w) outs) deps)
 (d:o.guard=none:=by rfl) (e:l[k]?=some o:=by rfl) (hd:dw l o a0.tmps.size deps=true:=by kernel_rfl) (g:gN l k outs=true:=by kernel_rfl)
 (i:(outs.map fun p=>a0.tmps[p.1]?)=(outs.map fun p=>some p.2):=by rfl):SO T P Q l a0 Rs W0 k o:=
 mH deps outs d e hd g i ht.refl (fun _ _ _ h=>h) (fun σ E w _ _ j m n=>gq (h E w j m n))
theorem fC (g:Nat) (t:Tmp) (b:Bool) (deps:List (Nat×Tmp)) (outs:List (Tmp×Value))
 (h:∀ (E:Operand->Value) (w:World),T W0 w->(∀ v,E (.const v)=v)->(∀ f,E (.func f)=.func (.func f) #[] #[])->Gv Rs w E (aU E (∃ v,(execOp E o).run P w=.ok (.value v) w/\bQ Rs k v w) outs) deps)
 (e:∀ v w,bQ Rs g v w->v=.bool b:=by exact fun _ _ h=>h) (i:o.guard=some (g,b):=by rfl) (j:l[k]?=some o:=by rfl) (hd:dw l o a0.tmps.size [(g,t)]=true:=by kernel_rfl)
 (d:dw l o a0.tmps.size deps=true:=by kernel_rfl) (m:gN l k outs=true:=by kernel_rfl)
 (n:(outs.map fun p=>a0.tmps[p.1]?)=(outs.map fun p=>some p.2):=by rfl):SO T P Q l a0 Rs W0 k o:=
 rR g t b i j hd e deps outs d m n ht.refl (fun _ _ _ h=>h) (fun σ E w _ _ r s u=>gq (h E w r s u))
theorem sk (g:Nat) (t:Tmp) (b:Bool) (d:o.guard=some (g,!b):=by rfl) (e:l[k]?=some o:=by rfl) (hd:dw l o a0.tmps.size [(g,t)]=true:=by kernel_rfl)
 (f:∀ v w,bQ Rs g v w->v=.bool b:=by exact fun _ _ h=>h) (i:∀ w,bQ Rs k undef w:=by exact fun _=>rfl):SO T P Q l a0 Rs W0 k o:=
 uB g t b d e hd ht.refl (fun _ _ _ h=>h) f i
theorem su (g:Nat) (t:Tmp) (c:Bool) (d:o.guard=some (g,c):=by rfl) (e:l[k]?=some o:=by rfl) (hd:dw l o a0.tmps.size [(g,t)]=true:=by kernel_rfl)
 (f:∀ v w,bQ Rs g v w->v=undef:=by exact fun _ _ h=>h) (i:∀ w,bQ Rs k undef w:=by exact fun _=>rfl):SO T P Q l a0 Rs W0 k o:=
 zY g t c d e hd ht.refl (fun _ _ _ h=>h) f i
theorem sm (deps:List (Nat×Tmp)) (outs:List (Tmp×Value))
 (h:∀ (E:Operand->Value) (w:World),T W0 w->(∀ v,E (.const v)=v)->(∀ f,E (.func f)=.func (.func f) #[] #[])->Gv Rs w E (aU E (∃ v w',(execOp E o).run P w=.ok (.value v) w'/\bQ Rs k v w'/\T w w') outs) deps)
 (m:o.guard=none:=by rfl) (n:l[k]?=some o:=by rfl) (hd:dw l o a0.tmps.size deps=true:=by kernel_rfl) (r:gN l k outs=true:=by kernel_rfl)
 (s:(outs.map fun p=>a0.tmps[p.1]?)=(outs.map fun p=>some p.2):=by rfl):SO T P Q l a0 Rs W0 k o:=by
 intro σ a w u d i x e g
 obtain ⟨v,w',y,z,j⟩:=gp u g e r s (fE (deps:=deps) d x hd (gq (h a.eval w i (fun _=>rfl) (fun _=>rfl))))
 exact eT (by simpa using n) m (jC v y ⟨v,rfl,z,j,ht.tr i j⟩)
abbrev jY (T:World->World->Prop) (P:Program) (f:FuncId) (vals:List Value) (w:World) (r:Value->World->Prop):Prop:=Calls P f vals.toArray w (fun e w'=>∃ v,e=.returned v/\r v w'/\T w w')
theorem sc (f:FuncId) {fn:Func} (y:P.funcs[f]?=some fn) (deps:List (Nat×Tmp)) (outs:List (Tmp×Value)) (xs:List Operand) {g:Array TypeId}
 (h:∀ (E:Operand->Value) (w:World),T W0 w->(∀ v,E (.const v)=v)->Gv Rs w E (aU E (∃ d,xs.map E=d/\jY T P f d w (bQ Rs k)) outs) deps)
 (i:o.op=.call { callee:=.value (.func f),args:=xs.toArray,argTypes:=g }:=by rfl)
 (z:(fn.name == "runtime.NumGoroutine")=false:=by kernel_rfl) (j:fn.body.isNone=false:=by kernel_rfl)
 (A:o.guard=none:=by rfl) (B:l[k]?=some o:=by rfl) (hd:dw l o a0.tmps.size deps=true:=by kernel_rfl) (C:gN l k outs=true:=by kernel_rfl)
 (m:(outs.map fun p=>a0.tmps[p.1]?)=(outs.map fun p=>some p.2):=by rfl):SO T P Q l a0 Rs W0 k o:=by
 intro σ a w D n u F r s
 obtain ⟨d,G,H⟩:=gp D s r C m (fE (deps:=deps) n F hd (gq (h a.eval w u (fun _=>rfl))))
 exact eT (by simpa using B) A (fI f fn y z j xs g i d G H (fun e w' ⟨v,m,I,x⟩=>⟨v,m,v,rfl,I,x,ht.tr u x⟩))
theorem IU (g:Nat) (t:Tmp) (b:Bool) (f:FuncId) {fn:Func} (B:P.funcs[f]?=some fn) (deps:List (Nat×Tmp)) (outs:List (Tmp×Value)) (xs:List Operand) {i:Array TypeId}
 (h:∀ (E:Operand->Value) (w:World),T W0 w->(∀ v,E (.const v)=v)->Gv Rs w E (aU E (∃ d,xs.map E=d/\jY T P f d w (bQ Rs k)) outs) deps)
 (C:∀ v w,bQ Rs g v w->v=.bool b:=by exact fun _ _ h=>h)
 (n:o.op=.call { callee:=.value (.func f),args:=xs.toArray,argTypes:=i }:=by rfl)
 (D:(fn.name == "runtime.NumGoroutine")=false:=by kernel_rfl) (r:fn.body.isNone=false:=by kernel_rfl)
 (F:o.guard=some (g,b):=by rfl) (G:l[k]?=some o:=by rfl) (s:dw l o a0.tmps.size [(g,t)]=true:=by kernel_rfl) (hd:dw l o a0.tmps.size deps=true:=by kernel_rfl) (H:gN l k outs=true:=by kernel_rfl)
 (u:(outs.map fun p=>a0.tmps[p.1]?)=(outs.map fun p=>some p.2):=by rfl):SO T P Q l a0 Rs W0 k o:=by
 intro σ a w I j z A x y
 have m:Region.wanted o (yielded l.toArray a.tmps)=true:=by
  rw [vS (k:=k) g t b b F s j A C]
  cases b <;> rfl
 obtain ⟨d,J,K⟩:=gp I y x H u (fE (deps:=deps) j A hd (gq (h a.eval w z (fun _=>rfl))))
 unfold Go.wpOp
 simp only [iZ,G,m,if_true]
 exact .inl (fI f fn B D r xs i n d J K (fun e w' ⟨v,u,L,m⟩=>⟨v,u,v,rfl,L,m,ht.tr z m⟩))
end
def Jg (base:Nat) (e:TypeId) (n:Nat) (xs:List Value) (v:Value) (w:World):Prop:=∃ A c,v=.slice A n c/\w.ownsRow base e 1 (.slice A n c) n xs
instance (base:Nat) (e:TypeId) (n:Nat) (xs:List Value):uT Old (Jg base e n xs):=⟨fun _ _ _ ho ⟨A,c,e,h⟩=>⟨A,c,e,bF h ho⟩⟩
theorem jY.of {P:Program} {f:FuncId} {d:Array Value} {w:World} {g:Ending->World->Prop} {r:Value->World->Prop} (h:Calls P f d w g) (i:∀ e w',g e w'->∃ v,e=.returned v/\r v w'/\T w w'):jY T P f d.toList w r:=by
 unfold jY;exact h.mono i
end
section
variable {P:Program} {Q:Exit->Act->World->Prop} {l:List Oper} {a:Act} {W0:World}
theorem eU (hok:fU l=true) {d:Array Bool} {σ:Nat->Option Value} (f:d.size=l.length) (hls:∀ k,k < l.length->d[k]?=some (σ k).isSome) (i:Nat) :
 i∈Region.ready .any l.toArray d↔i < l.length/\σ i=none/\∃ o,l[i]?=some o/\∀ e∈o.after,Region.binds .any e=true->(σ e.on).isSome=true:=by
 simp only [fU,kE,List.all_eq_true,List.mem_range] at hok
 have hg:∀ k,d.getD k false=true↔k < l.length/\(σ k).isSome=true:=fun k=>Va
 unfold Region.ready
 simp only [List.size_toArray,List.mem_filter,List.mem_range,kE,Bool.not_eq_true',iZ]
 constructor
 ·exact UI
 ·exact UE
def qG (l:List Oper) (n:Nat):Bool:=(List.range l.length).all fun i=>decide (i < n) || (List.range i).all fun j=>(below l j).contains i
abbrev nA (l:List Oper) (σ:Nat->Option Value):Prop:=∀ j oj,l[j]?=some oj->(σ j).isSome=true->∀ e∈oj.after,Region.binds .any e=true->(σ e.on).isSome=true
theorem nZ {n:Nat} (h:qG l n=true) {i j:Nat} {o:Oper} (hi:l[i]?=some o) (s:n<=i) (m:j < i) {σ:Nat->Option Value} (hcl:nA l σ) (hd:∀ e∈o.after,Region.binds .any e=true->(σ e.on).isSome=true):(σ j).isSome=true:=by
 unfold qG at h
 have f:=(List.getElem?_eq_some_iff.1 hi).1
 have d:=List.all_eq_true.1 h i (List.mem_range.2 f)
 simp only [Bool.or_eq_true,rJ] at d
 rcases d with d | d
 ·omega
 ·have p:=List.all_eq_true.1 d j (List.mem_range.2 m)
  cases hs:σ j with
  | some v=>rfl
  | none=>
   have r:=ny (l0:=l) (k:=j) (σ:=upd σ i undef) (fun k ok hk hks e he hb=>by
    have g:(σ e.on).isSome=true:=Re
    unfold upd
    split
    ·rfl
    ·exact g) (by unfold upd;rw [if_neg (by omega)];exact hs) l 0 [] (fun j=>by rw [mE]) (fun _ h=>by cases h) i (by simpa [below] using p)
   simp [upd] at r
theorem nA.upd {σ:Nat->Option Value} (f:nA l σ) {k:Nat} {o:Oper} {v:Value} (p:l[k]?=some o) (hd:∀ e∈o.after,Region.binds .any e=true->(σ e.on).isSome=true):nA l (upd σ k v):=fun j r g d e m n=>by
 have i:(σ e.on).isSome=true:=by
  unfold Go.Proofs.YthihpfpbiajddaaGreat.upd at d
  split at d
  ·rename_i h
   subst h
   rw [p] at g
   cases g
   exact hd e m n
  ·exact f j r g d e m n
 unfold Go.Proofs.YthihpfpbiajddaaGreat.upd
 split
 ·rfl
 ·exact i
theorem rU (g:fU l=true) {n:Nat} (M:qG l n=true):∀ (r:List Oper) (f m:Nat) (d:Array Bool) (a:Act) (w:World),l.drop m=r->n<=m->m<=l.length->d.size=l.length->(∀ k,k < l.length->d[k]?=some (decide (k < m)))->r.length<=f->
 wpList P l.toArray Q r a w->wpAny P .any l.toArray Q f d a w
 | [],f,m,d,a,w,hr,hn,hm,hsz,hls,_,h=>by
  have u:l.length<=m:=List.drop_eq_nil_iff.1 hr
  have p:∀ k,k < l.length->d[k]?=some ((fun k=>if k < m then some undef else none:Nat->Option Value) k).isSome:=fun k z=>by
   rw [hls k z];by_cases h:k < m <;> simp [h]
  have s:Region.ready .any l.toArray d=[]:=List.eq_nil_iff_forall_not_mem.2 fun i A=>by
   have G:=(eU g hsz p i).1 A
   have B:=G.2.1
   have:=G.1
   split at B
   ·cases B
   ·omega
  cases f with
  | zero=>exact ⟨s,h⟩
  | succ f=>exact ⟨fun _=>h,fun i A=>by rw [s] at A;cases A⟩
 | o :: r,f,m,d,a,w,hr,hn,hm,hsz,hls,hf,h=>by
  have u:m < l.length:=by
   by_cases O:m < l.length
   ·exact O
   ·rw [List.drop_eq_nil_iff.2 af] at hr;cases hr
  have x:l[m]?=some o:=by
   have:=List.getElem?_drop (xs:=l) (i:=m) (j:=0)
   rw [hr] at this
   simpa using this.symm
  have H:l.drop (m + 1)=r:=by
   rw [<- List.drop_drop,hr];rfl
  have p:∀ k,k < l.length->d[k]?=some ((fun k=>if k < m then some undef else none:Nat->Option Value) k).isSome:=fun k z=>by
   rw [hls k z];by_cases h:k < m <;> simp [h]
  have C:m∈Region.ready .any l.toArray d:=(eU g hsz p m).2 ⟨u,bE,o,x,fun e I J=>by
   have D:e.on < m:=by
    simp only [fU,kE,List.all_eq_true,List.mem_range] at g
    have:=g.2 m u
    simp only [x,Array.all_eq_true'] at this
    simpa [J] using this e I
   simp [D]⟩
  cases f with
  | zero=>simp at hf
  | succ f=>
   refine ⟨fun h0=>(by rw [h0] at C;cases C),fun i A=>?_⟩
   obtain ⟨G,B,W,K,R⟩:=(eU g hsz p i).1 A
   have S:m<=i:=by
    split at B
    ·cases B
    ·omega
   have L:i=m:=by
    rcases Nat.lt_or_ge m i with h4 | h4
    ·have T:=nZ M K af h4 (σ:=fun k=>if k < m then some undef else none) (fun j X N y e I J=>by
      have D:e.on < j:=by
       simp only [fU,kE,List.all_eq_true,List.mem_range] at g
       have:=g.2 j (List.getElem?_eq_some_iff.1 N).1
       simp only [N,Array.all_eq_true'] at this
       simpa [J] using this e I
      have:j < m:=by
       dsimp only at y
       split at y
       ·assumption
       ·cases y
      dsimp only
      rw [if_pos af];rfl) R
     simp at T
    ·omega
   subst L
   have U:∀ F w',wpList P l.toArray Q r F w'->wpAny P .any l.toArray Q f (d.setIfInBounds i true) F w':=fun F w' V=>
    rU g M r f (i + 1) _ F w' H af af (by simp [hsz]) (fun k z=>by
     by_cases E:k=i
     ·subst E;rw [Array.getElem?_setIfInBounds];simp [hsz,z]
     ·rw [Array.getElem?_setIfInBounds_ne (Ne.symm E),hls k z]
      congr 1
      by_cases h:k < i
      ·simp [h,show k < i + 1 by omega]
      ·simp [h,show ¬ k < i + 1 by omega]) (by simp at hf;omega) V
   refine wpOp_mono U ?_
   unfold Go.wpOp
   simp only [iZ,x]
   exact h
theorem qH (hok:fU l=true) (n:Nat) (E:n<=l.length) (G:qG l n=true) (I:(Nat->Option Value)->World->Prop)
 (A:∀ σ k o w,k < n->l[k]?=some o->σ k=none->(∀ e∈o.after,Region.binds .any e=true->(σ e.on).isSome=true)->I σ w->
  wpOp P l.toArray Q k (fun M w'=>∃ v,M=(bW l σ a l.length).put o.dst v/\I (upd σ k v) w') (bW l σ a l.length) w)
 (s:∀ σ w,(∀ k,k < n->(σ k).isSome=true)->(∀ k,n<=k->σ k=none)->I σ w->wpList P l.toArray Q (l.drop n) (bW l σ a l.length) w) :
 ∀ (g:Nat) (d:Array Bool) (σ:Nat->Option Value) (w:World),d.size=l.length->(∀ k,k < l.length->d[k]?=some (σ k).isSome)->(∀ k,n<=k->σ k=none)->nA l σ->
  (List.range l.length).countP (fun k=>(σ k).isNone)<=g->I σ w->wpAny P .any l.toArray Q g d (bW l σ a l.length) w:=by
 have H:(jB l).Nodup:=zR
 have u:∀ (σ:Nat->Option Value),(∀ k,n<=k->σ k=none)->l.length - n<=(List.range l.length).countP (fun k=>(σ k).isNone):=fun σ m=>by
  have e:List.range l.length=List.range n ++ (List.range (l.length - n)).map (n + ·):=by
   rw [<- List.range_add];congr 1;omega
  rw [e,List.countP_append]
  have:((List.range (l.length - n)).map (n + ·)).countP (fun k=>(σ k).isNone)=l.length - n:=by
   rw [List.countP_eq_length.2]
   ·simp
   ·intro x D
    obtain ⟨y,_,rfl⟩:=List.mem_map.1 D
    simp [m (n + y) af]
  omega
 intro g
 induction g with
 | zero=>
  intro d σ w hsz hls m B N hI
  by_cases f:∀ k,k < n->(σ k).isSome=true
  ·refine rU hok G (l.drop n) 0 n d _ w rfl (dN _) E hsz (fun k hk=>?_) (by rw [yj];have:=u σ m;omega) (s σ w f m hI)
   rw [hls k hk]
   by_cases h:k < n
   ·simp [h,f k h]
   ·simp [h,m k af]
  ·exfalso
   refine f fun k hk=>?_
   cases hs:σ k with
   | some v=>rfl
   | none=>
    have:0 < (List.range l.length).countP (fun k=>(σ k).isNone):=List.countP_pos_iff.2 ⟨k,List.mem_range.2 af,by simp [hs]⟩
    omega
 | succ g ih=>
  intro d σ w hsz hls m B N hI
  by_cases f:∀ k,k < n->(σ k).isSome=true
  ·refine rU hok G (l.drop n) (g + 1) n d _ w rfl (dN _) E hsz (fun k hk=>?_) (by rw [yj];have:=u σ m;omega) (s σ w f m hI)
   rw [hls k hk]
   by_cases h:k < n
   ·simp [h,f k h]
   ·simp [h,m k af]
  ·refine ⟨fun O=>absurd (fun k=>?_) f,fun i R=>?_⟩
   ·induction k using Nat.strongRecOn with
    | _ k ihk=>
     intro hk
     cases hs:σ k with
     | some v=>rfl
     | none=>
      have r:k < l.length:=af
      have:k∈Region.ready .any l.toArray d:=(eU hok hsz hls k).2 ⟨r,hs,l[k],gG r,fun e S T=>by
       have J:e.on < k:=by
        simp only [fU,kE,List.all_eq_true,List.mem_range] at hok
        have:=hok.2 k r
        simp only [gG r,Array.all_eq_true'] at this
        simpa [T] using this e S
       exact ihk e.on J af⟩
      rw [O] at this
      simp at this
   ·obtain ⟨z,C,o,F,j⟩:=(eU hok hsz hls i).1 R
    have K:i < n:=by
     rcases Nat.lt_or_ge i n with h | h
     ·exact h
     ·exfalso
      exact f fun k hk=>nZ G F h af B j
    refine wpOp_mono ?_ (A σ i o w K F C j hI)
    rintro M w' ⟨v,rfl,L⟩
    rw [<- pF (v:=v) H F C z]
    refine ih _ (upd σ i v) w' (by simp [hsz]) (fun k hk=>?_) (fun k hk=>?_) ?_ ?_ L
    ·exact MU
    ·unfold upd
     rw [if_neg af]
     exact m k hk
    ·exact B.upd F j
    ·have:=jm (p:=fun k=>(σ k).isNone) (p':=fun k=>(upd σ i v k).isNone) (fun x D=>by
      unfold upd at D
      split at D
      ·simp at D
      ·exact D) (i:=i) (by simp [C]) vL (List.mem_range.2 z)
     omega
theorem nC {σ:Nat->Option Value}:∀ {m n:Nat},n<=m->(∀ k,n<=k->σ k=none)->bW l σ a m=bW l σ a n
 | 0,n,h,_=>by rw [Nat.le_zero.1 h]
 | m + 1,n,h,hs=>by
  by_cases e:n=m + 1
  ·rw [e]
  ·have:bW l σ a (m + 1)=bW l σ a m:=by unfold bW;rw [hs m af];cases m <;> rfl
   rw [this]
   exact nC af hs
theorem BF {pre tail:List Oper} {σ:Nat->Option Value}:∀ {k:Nat},k<=pre.length->bW (pre ++ tail) σ a k=bW pre σ a k
 | 0,_=>rfl
 | k + 1,h=>by
  have d:(pre ++ tail)[k]?=pre[k]?:=BG af
  unfold bW
  rw [d,BF af]
theorem kI (T:World->World->Prop) [ht0:Rq T] {id:Nat} {w:World} (n:Nat) (W0:World) (Rs:List RR) (h0:T W0 w.drew) [hs:Fe T Rs]
 (steps:aH (SO T P Q l a Rs W0) 0 (l.take n))
 (ends:∀ σ w',T W0 w'->Ends (bQ Rs) w' σ (fun a'=>wpList P l.toArray Q (l.drop n) a' w') 0 (l.take n) a)
 (s:P.follows .mixedOrders=true:=by kernel_rfl) (hok:fU l=true:=by kernel_rfl) (r:(jB l).all (fun t=>decide (t < a.tmps.size))=true:=by kernel_rfl) (i:decide (n<=l.length)=true:=by kernel_rfl) (ht:qG l n=true:=by kernel_rfl) :
 (Code.region id l.toArray true).wp P Q a w:=by
 have hn:(jB l).Nodup:=zR
 have d:n<=l.length:=by simpa using i
 refine wp_region_any s ?_
 have u:∀ k,bW l (fun _=>none) a k=a:=fun k=>MX
 have:=qH (P:=P) (Q:=Q) (a:=a) hok n d ht (fun σ w'=>T W0 w'/\(∀ j v,σ j=some v->bQ Rs j v w')/\(∀ j oj,l[j]?=some oj->(σ j).isSome=true->∀ e∈oj.after,Region.binds .any e=true->(σ e.on).isSome=true)) ?_ ?_ l.length (Array.replicate l.length false) (fun _=>none) w.drew bE (fun k hk=>by simp [hk]) (fun _ _=>rfl) (fun j oj _ h=>by simp at h) bE ⟨h0,(fun j v h=>by cases h),fun j oj _ h=>by simp at h⟩
 ·rw [u] at this
  simpa using this
 ·exact Q9
 ·rintro σ w' g f ⟨hS1,hR,-⟩
  have hlt:(l.take n).length=n:=by rw [vB];omega
  rw [nC (m:=l.length) (n:=n) d f]
  have e:bW l σ a n=bW (l.take n) σ a n:=Rj
  rw [e]
  have:=nu (G:=fun a'=>wpList P l.toArray Q (l.drop n) a' w') (l.take n) [] (ends σ w' hS1) (fun k hk=>by
   have p:k < n:=by simp at hk;omega
   cases hv:σ k with
   | none=>have:=g k p;rw [hv] at this;simp at this
   | some v=>exact ⟨v,rfl,hR k v hv⟩)
  rw [qz,hlt] at this
  exact this
end
section
variable {P:Program} {Q:Exit->Act->World->Prop} {l:List Oper} {a:Act} {W0:World}
theorem vU {i j:Nat} {o:Oper} (g:(below l j).contains i=true) (d:i≠j) (hi:l[i]?=some o) {σ:Nat->Option Value} (hcl:nA l σ) (hd:∀ e∈o.after,Region.binds .any e=true->(σ e.on).isSome=true):(σ j).isSome=true:=by
 cases hs:σ j with
 | some v=>rfl
 | none=>
  have m:=ny (l0:=l) (k:=j) (σ:=upd σ i undef) (fun k ok hk hks e he hb=>by
   have f:(σ e.on).isSome=true:=Re
   unfold upd
   split
   ·rfl
   ·exact f) (by unfold upd;rw [if_neg (Ne.symm d)];exact hs) l 0 [] (fun j=>by rw [mE]) (fun _ h=>by cases h) i (by simpa [below] using g)
  simp [upd] at m
theorem zZ (d:fU l=true) {i:Nat} {o:Oper} (f:l[i]?=some o) {e:Edge} (g:e∈o.after) (h:Region.binds .any e=true):e.on < i:=by
 simp only [fU,kE,List.all_eq_true,List.mem_range] at d
 have:=d.2 i (List.getElem?_eq_some_iff.1 f).1
 simp only [f,Array.all_eq_true'] at this
 simpa [h] using this e g
def yQ (l:List Oper) (fr ts:List Nat):Bool:=ts.all fun i=>decide (i < l.length) && (List.range l.length).all fun j=>j == i || fr.contains j || (ts.contains j && decide (i < j)) || (decide (j < i) && (below l j).contains i)
theorem qW {fr ts:List Nat} (h:yQ l fr ts=true) {i j:Nat} (g:i∈ts) (m:j < l.length) (e:j≠i) (n:j∉fr) (p:¬ (j∈ts/\i < j)):j < i/\(below l j).contains i=true:=by
 have f:=List.all_eq_true.1 h i g
 simp only [kE,List.all_eq_true,List.mem_range] at f
 have d:=f.2 j m
 simp only [Bool.or_eq_true,kE,beq_iff_eq,rJ,List.contains_eq_mem] at d
 rcases d with ((d | d) | d) | d
 ·exact absurd d e
 ·exact absurd d n
 ·exact absurd d p
 ·exact ⟨d.1,by simpa using d.2⟩
theorem vV {fr ts:List Nat} (h:yQ l fr ts=true) {i:Nat} (e:i∈ts):i < l.length:=by
 have d:=List.all_eq_true.1 h i e
 simp only [kE,rJ] at d
 exact d.1
theorem yR (g:fU l=true):∀ (r:List Nat) (f:Nat) (d:Array Bool) (a:Act) (w:World),r.Pairwise (· < ·)->(∀ i∈r,i < l.length)->(∀ i∈r,∀ j∈r,j < i->(below l j).contains i=true)->(∀ k ok,l[k]?=some ok->k∉r->∀ e∈ok.after,Region.binds .any e=true->e.on∉r)->
 d.size=l.length->(∀ k,k < l.length->d[k]?=some (decide (k∉r)))->r.length<=f->wpList P l.toArray Q (r.filterMap fun i=>l[i]?) a w->wpAny P .any l.toArray Q f d a w
 | [],f,d,a,w,_,_,_,_,hsz,hls,_,h=>by
  have s:∀ k,k < l.length->d[k]?=some ((fun _=>some undef:Nat->Option Value) k).isSome:=fun k p=>by rw [hls k p];simp
  have y:Region.ready .any l.toArray d=[]:=List.eq_nil_iff_forall_not_mem.2 fun i E=>by
   have U:=((eU g hsz s i).1 E).2.1
   cases U
  cases f with
  | zero=>exact ⟨y,h⟩
  | succ f=>exact ⟨fun _=>h,fun i E=>by rw [y] at E;cases E⟩
 | m :: r,f,d,a,w,hp,u,hw,hcl,hsz,hls,hf,h=>by
  have I:=u m bE
  have x:l[m]?=some l[m]:=gG I
  obtain ⟨B,M⟩:=List.pairwise_cons.1 hp
  have s:∀ k,k < l.length->d[k]?=some ((fun k=>if k∈m :: r then none else some undef:Nat->Option Value) k).isSome:=fun k p=>by
   rw [hls k p]
   by_cases h:k∈m :: r <;> simp only [h,if_true,if_false,not_true,not_false_iff,decide_true,decide_false] <;> rfl
  have z:∀ k,k < m->k∉m :: r:=fun k p A=>by
   rcases List.mem_cons.1 A with rfl | A
   ·omega
   ·have:=B k A;omega
  have J:m∈Region.ready .any l.toArray d:=(eU g hsz s m).2 ⟨I,bE,l[m],x,fun e F H=>by
   have u:=zZ g x F H
   rw [if_neg (z _ u)]
   rfl⟩
  cases f with
  | zero=>simp at hf
  | succ f=>
   refine ⟨fun h0=>(by rw [h0] at J;cases J),fun i E=>?_⟩
   obtain ⟨U,V,oi,N,W⟩:=(eU g hsz s i).1 E
   have K:i∈m :: r:=by
    split at V
    ·assumption
    ·cases V
   have O:i=m:=by
    rcases List.mem_cons.1 K with h4 | h4
    ·exact h4
    ·have h5:=B i h4
     have h6:=vU (hw i K m bE h5) af N (σ:=fun k=>if k∈m :: r then none else some undef) (fun j X C D e F H=>by
      have S:j∉m :: r:=fun C=>by dsimp only at D;rw [if_pos C] at D;cases D
      dsimp only
      rw [if_neg (hcl j X C S e F H)]
      rfl) W
     rw [if_pos bE] at h6
     cases h6
   subst O
   have Y:∀ L w',wpList P l.toArray Q (r.filterMap fun i=>l[i]?) L w'->wpAny P .any l.toArray Q f (d.setIfInBounds i true) L w':=fun L w' Z=>
    yR g r f _ L w' M (fun j C=>u j (by simp [C])) (fun j C k p=>hw j (by simp [C]) k (by simp [p])) (fun k ok p T e F H A=>by
     by_cases n:k=i
     ·subst n
      exact z _ (zZ g p F H) (by simp [A])
     ·exact hcl k ok p (by simp [n,T]) e F H (by simp [A])) (by simp [hsz]) (fun k p=>by
     by_cases n:k=i
     ·subst n;rw [Array.getElem?_setIfInBounds]
      have:k∉r:=fun A=>by have:=B k A;omega
      simp [hsz,p,this]
     ·rw [Array.getElem?_setIfInBounds_ne (Ne.symm n),hls k p]
      simp [n]) (by simp at hf;omega) Z
   refine wpOp_mono Y ?_
   rw [List.filterMap_cons_some x] at h
   unfold Go.wpOp
   simp only [iZ,x]
   exact h
theorem pI (hok:fU l=true) (fr ts:List Nat) (T:ts.Pairwise (· < ·)) (E:yQ l fr ts=true) (U:∀ k∈fr,k∉ts) (hfe:∀ k ok,k∈fr->l[k]?=some ok->∀ e∈ok.after,Region.binds .any e=true->e.on∉ts) (I:(Nat->Option Value)->World->Prop)
 (D:∀ σ k o w,k∉ts->k∉fr->l[k]?=some o->σ k=none->(∀ e∈o.after,Region.binds .any e=true->(σ e.on).isSome=true)->nA l σ->I σ w->
  wpOp P l.toArray Q k (fun a' w'=>∃ v,a'=(bW l σ a l.length).put o.dst v/\I (upd σ k v) w') (bW l σ a l.length) w)
 (F:∀ σ w,(∀ k,k < l.length->k∉ts->(σ k).isSome=true)->(∀ k,k∈ts->σ k=none)->I σ w->wpList P l.toArray Q (ts.filterMap fun i=>l[i]?) (bW l σ a l.length) w) :
 ∀ (f:Nat) (d:Array Bool) (σ:Nat->Option Value) (w:World),d.size=l.length->(∀ k,k < l.length->d[k]?=some (σ k).isSome)->(∀ k,k∈ts->σ k=none)->(∀ k,k∈fr->(σ k).isSome=true)->nA l σ->
  (List.range l.length).countP (fun k=>(σ k).isNone)<=f->I σ w->wpAny P .any l.toArray Q f d (bW l σ a l.length) w:=by
 have V:(jB l).Nodup:=zR
 have H:∀ (σ:Nat->Option Value),(∀ k,k∈ts->σ k=none)->ts.length<=(List.range l.length).countP (fun k=>(σ k).isNone):=fun σ s=>by
  have J:ts.Sublist (List.range l.length):=by
   have z:ts=(List.range l.length).filter (fun k=>decide (k∈ts)):=by
    refine List.Perm.eq_of_pairwise (le:=fun a b=>a < b) (fun a b _ _ z W=>af) T (List.pairwise_lt_range.filter _) ?_
    refine (List.perm_ext_iff_of_nodup (T.imp fun h=>af) ((List.nodup_range).filter _)).2 fun k=>?_
    simp only [List.mem_filter,List.mem_range,rJ]
    exact ⟨fun h=>⟨vV E h,h⟩,fun h=>h.2⟩
   rw [z]
   exact List.filter_sublist
  have W:=J.countP_le (p:=fun k=>(σ k).isNone)
  rw [List.countP_eq_length.2 (fun k hk=>by simp [s k hk])] at W
  exact W
 have u:∀ (f:Nat) (d:Array Bool) (σ:Nat->Option Value) (w:World),d.size=l.length->(∀ k,k < l.length->d[k]?=some (σ k).isSome)->(∀ k,k∈ts->σ k=none)->nA l σ->(List.range l.length).countP (fun k=>(σ k).isNone)<=f->I σ w->(∀ k,k < l.length->k∉ts->(σ k).isSome=true)->wpAny P .any l.toArray Q f d (bW l σ a l.length) w:=fun f d σ w hsz hls s m N hI g=>by
  refine yR hok ts f d _ w T (fun i K=>vV E K) (fun i K j hj hji=>(qW E K (vV E hj) af (fun hf=>U j hf hj) af).2) (fun k ok hk r e X Y Z=>?_) hsz (fun k hk=>?_) (by have:=H σ s;omega) (F σ w g s hI)
  ·have z:=m k ok hk (g k (List.getElem?_eq_some_iff.1 hk).1 r) e X Y
   rw [s _ Z] at z
   cases z
  ·rw [hls k hk]
   by_cases h:k∈ts
   ·simp [h,s k h]
   ·simp [h,g k hk h]
 intro f
 induction f with
 | zero=>
  intro d σ w hsz hls s y m N hI
  refine u 0 d σ w hsz hls s m N hI fun k hk _=>?_
  cases hs:σ k with
  | some v=>rfl
  | none=>
   have:0 < (List.range l.length).countP (fun k=>(σ k).isNone):=List.countP_pos_iff.2 ⟨k,List.mem_range.2 hk,by simp [hs]⟩
   omega
 | succ f ih=>
  intro d σ w hsz hls s y m N hI
  by_cases g:∀ k,k < l.length->k∉ts->(σ k).isSome=true
  ·exact u (f + 1) d σ w hsz hls s m N hI g
  ·refine ⟨fun hr=>absurd (fun k=>?_) g,fun i K=>?_⟩
   ·induction k using Nat.strongRecOn with
    | _ k ihk=>
     intro hk r
     cases hs:σ k with
     | some v=>rfl
     | none=>
      have A:k∉fr:=fun h=>by have:=y k h;rw [hs] at this;cases this
      have:k∈Region.ready .any l.toArray d:=(eU hok hsz hls k).2 ⟨hk,hs,l[k],gG hk,fun e X Y=>by
       have hlt:=zZ hok (gG hk) X Y
       refine ihk e.on hlt af fun Z=>?_
       have:=(qW E Z hk af A (by rintro ⟨z,_⟩;exact r z)).1
       omega⟩
      rw [hr] at this
      simp at this
   ·obtain ⟨C,B,o,O,n⟩:=(eU hok hsz hls i).1 K
    have L:i∉ts:=fun h=>g fun k hk r=>by
     by_cases A:k∈fr
     ·exact y k A
     ·have M:k≠i:=fun e=>r (e▸h)
      exact vU (qW E h hk M A (by rintro ⟨z,_⟩;exact r z)).2 (Ne.symm M) O m n
    have hif:i∉fr:=fun h=>by have:=y i h;rw [B] at this;cases this
    refine wpOp_mono ?_ (D σ i o w L hif O B n m hI)
    rintro a' w' ⟨v,rfl,hI'⟩
    rw [<- pF (v:=v) V O B C]
    refine ih _ (upd σ i v) w' (by simp [hsz]) (fun k hk=>?_) (fun k hk=>?_) (fun k hk=>?_) (m.upd O n) ?_ hI'
    ·exact MU
    ·unfold upd
     rw [if_neg (fun e:k=i=>L (e▸hk))]
     exact s k hk
    ·unfold upd
     split
     ·rfl
     ·exact y k hk
    ·have:=jm (p:=fun k=>(σ k).isNone) (p':=fun k=>(upd σ i v k).isNone) (fun x S=>by
      unfold upd at S
      split at S
      ·simp at S
      ·exact S) (i:=i) (by simp [B]) vL (List.mem_range.2 C)
     omega
def dx (R:Nat->Value->World->Prop) (w:World) (σ:Nat->Option Value) (ts:List Nat) (G:Act->Prop):Nat->List Oper->Act->Prop
 | _,[],a=>G a
 | k,o :: l,a=>if ts.contains k then dx R w σ ts G (k + 1) l a else ∀ v,σ k=some v->R k v w->dx R w σ ts G (k + 1) l (a.put o.dst v)
section
variable {R:Nat->Value->World->Prop} {w:World} {σ:Nat->Option Value} {ts:List Nat} {G:Act->Prop} {k:Nat} {o:Oper}
theorem dx.nil (h:G a):dx R w σ ts G k [] a:=h
theorem dx.skip (h:dx R w σ ts G (k + 1) l a) (d:ts.contains k=true:=by rfl):dx R w σ ts G k (o :: l) a:=by
 unfold dx;rw [if_pos d];exact h
theorem dx.eqv (d:Option Tmp) (x:Value) (hd:o.dst=d) (e:∀ v,R k v w->v=x) (h:dx R w σ ts G (k + 1) l (a.put d x)) (f:ts.contains k=false:=by rfl):dx R w σ ts G k (o :: l) a:=by
 unfold dx;rw [if_neg (by rw [f];simp)]
 subst hd
 intro v _ g
 rw [e v g]
 exact h
theorem dx.ex (d:Option Tmp) (hd:o.dst=d) (h:∀ v,σ k=some v->R k v w->dx R w σ ts G (k + 1) l (a.put d v)) (e:ts.contains k=false:=by rfl):dx R w σ ts G k (o :: l) a:=by
 unfold dx;rw [if_neg (by rw [e];simp)]
 subst hd
 exact h
theorem oh:∀ (rest:List Oper) (pre:List Oper),dx R w σ ts G pre.length rest (bW (pre ++ rest) σ a pre.length)->
 (∀ k,k < (pre ++ rest).length->k∉ts->∃ v,σ k=some v/\R k v w)->(∀ k,k∈ts->σ k=none)->G (bW (pre ++ rest) σ a (pre ++ rest).length)
 | [],pre,h,_,_=>by simp only [List.append_nil] at h ⊢;exact h
 | o :: rest,pre,h,hs,hn=>by
  have d:pre ++ o :: rest=(pre ++ [o]) ++ rest:=bE
  have g:pre.length + 1=(pre ++ [o]).length:=bE
  have step:dx R w σ ts G (pre ++ [o]).length rest (bW ((pre ++ [o]) ++ rest) σ a (pre ++ [o]).length):=by
   unfold dx at h
   by_cases e:pre.length∈ts
   ·rw [if_pos (by simpa using e)] at h
    have f:bW (pre ++ o :: rest) σ a (pre.length + 1)=bW (pre ++ o :: rest) σ a pre.length:=by simp [bW,hn _ e]
    rw [<- f,g,d] at h
    exact h
   ·rw [if_neg (by simpa using e)] at h
    obtain ⟨v,i,m⟩:=hs pre.length bE e
    have j:=h v i m
    have f:bW (pre ++ o :: rest) σ a (pre.length + 1)=(bW (pre ++ o :: rest) σ a pre.length).put o.dst v:=by simp [bW,i]
    rw [<- f,g,d] at j
    exact j
  have:=oh rest (pre ++ [o]) step (by rw [<- d];exact hs) hn
  rw [<- d] at this
  exact this
end
def I7:RR->Option Value
 | .val x=>some x
 | .rel _=>none
def nU (fr:List Nat) (Rs:List RR) (k:Nat):Option Value:=if fr.contains k then I7 (oQ Rs k) else none
def Aa (l:List Oper) (fr ts:List Nat) (Rs:List RR):Bool:=fr.all fun k=>!(ts.contains k) && (I7 (oQ Rs k)).isSome && (match l[k]? with
 | some o=>o.after.all fun e=>!(Region.binds .any e) || fr.contains e.on
 | none=>false)
theorem yS {id:Nat} {w:World} (h:∀ d,d=a->wpAny P .any l.toArray Q l.toArray.size (Array.replicate l.toArray.size false) a w.drew) (e:P.follows .mixedOrders=true:=by kernel_rfl):(Code.region id l.toArray true).wp P Q a w:=
 wp_region_any e (h a rfl)
theorem vW (i:Nat) {g:Oper} (d:Option Tmp) (v:Value) {f:Nat} {e:Array Bool} {w:World} (hy:∀ w,(execOp a.eval g).run P w=.ok (.value v) w)
 (h:wpAny P .any l.toArray Q f (e.setIfInBounds i true) (a.put d v) w) (j:∀ c a w,Q (.panic c) (a.put d v) w->Q (.panic c) a w:=by exact fun _ _ _ h=>h) (m:l.toArray[i]?=some g:=by rfl) (hd:g.dst=d:=by rfl) (n:g.guard=none:=by rfl)
 (p:Region.noSelect l.toArray=true:=by kernel_rfl) (r:Region.free .any l.toArray e i=true:=by kernel_rfl) (s:(Region.ready .any l.toArray e).contains i=true:=by kernel_rfl):wpAny P .any l.toArray Q (f + 1) e a w:=by
 subst hd
 exact wpAny_take m p r s j (.inl ⟨by simp [Region.wanted,n],hy⟩) h
theorem Jh (T:World->World->Prop) [ht0:Rq T] (fr ts:List Nat) {g:Nat} {w:World} (W0:World) (Rs:List RR) {d:Array Bool} {E C:Act} (F:E=a) (h0:T W0 w) [hs:Fe T Rs]
 (steps:aH (fun k o=>(fr.contains k || ts.contains k)=true∨SO T P Q l a Rs W0 k o) 0 l)
 (ends:∀ σ w',T W0 w'->dx (bQ Rs) w' σ ts (fun a'=>wpList P l.toArray Q (ts.filterMap fun i=>l[i]?) a' w') 0 l a)
 (y:C=bW l (nU fr Rs) a l.length:=by rfl) (p:d=((List.range l.length).map fun k=>fr.contains k).toArray:=by rfl) (z:(List.range l.length).countP (fun k=>!(fr.contains k))<=g:=by decide)
 (hok:fU l=true:=by kernel_rfl) (D:(jB l).all (fun t=>decide (t < a.tmps.size))=true:=by kernel_rfl) (H:ts.Pairwise (· < ·):=by decide) (A:yQ l fr ts=true:=by kernel_rfl) (hfo:Aa l fr ts Rs=true:=by kernel_rfl) :
 wpAny P .any l.toArray Q g d C w:=by
 have hn:(jB l).Nodup:=zR
 have f:∀ k∈fr,k∉ts/\(∃ v,oQ Rs k=.val v)/\∃ o,l[k]?=some o/\∀ e∈o.after,Region.binds .any e=true->e.on∈fr:=fun k hk=>UD
 have m:∀ k,(nU fr Rs k).isSome=fr.contains k:=fun k=>by
  unfold nU
  by_cases hk:k∈fr
  ·obtain ⟨_,⟨v,hv⟩,_⟩:=f k hk
   simp [hk,hv,I7]
  ·simp [hk]
 have r:∀ k v,nU fr Rs k=some v->oQ Rs k=.val v:=fun k v h=>U3
 rw [y]
 refine pI (P:=P) (Q:=Q) (a:=a) hok fr ts H A (fun k hk=>(f k hk).1) (fun k ok hk s e he hb=>by
  obtain ⟨_,_,o,ho,h⟩:=f k hk
  rw [s] at ho
  cases ho
  exact (f _ (h e he hb)).1) (fun σ w'=>T W0 w'/\(∀ j v,σ j=some v->bQ Rs j v w')) ?_ ?_ g d (nU fr Rs) w (by rw [p];simp) (fun k hk=>by rw [p,m];simp [hk]) (fun k hk=>by
  have h:=m k
  rw [show fr.contains k=false by simpa using fun h=>(f k h).1 hk] at h
  simpa using h) (fun k hk=>by rw [m];simpa using hk) (fun j oj hj u e he hb=>by
  rw [m] at u ⊢
  obtain ⟨_,_,o,ho,h⟩:=f j (by simpa using u)
  rw [hj] at ho
  cases ho
  simpa using h e he hb) ?_ ⟨h0,fun j v hv=>by
   show Rt (oQ Rs j) v w
   rw [r j v hv]
   rfl⟩
 ·exact UC
 ·rintro σ w' x n ⟨hS1,hR⟩
  have:=oh (G:=fun a'=>wpList P l.toArray Q (ts.filterMap fun i=>l[i]?) a' w') l [] (ends σ w' hS1) (fun k hk hkt=>by
   have B:k < l.length:=by simpa using hk
   cases hv:σ k with
   | none=>have:=x k B hkt;rw [hv] at this;simp at this
   | some v=>exact ⟨v,rfl,hR k v hv⟩) n
  simpa using this
 ·have e:(List.range l.length).countP (fun k=>(nU fr Rs k).isNone)=(List.range l.length).countP (fun k=>!(fr.contains k)):=by
   congr 1;funext k
   have:=m k
   cases h:nU fr Rs k <;> rw [h] at this <;> simp at this <;> simp [this]
  rw [e]
  exact z
end
end Go.Proofs.YthihpfpbiajddaaGreat
