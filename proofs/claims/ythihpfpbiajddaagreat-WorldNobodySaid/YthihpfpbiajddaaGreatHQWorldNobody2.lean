/- Parts of the proof. -/
import Derived.Test.YthihpfpbiajddaaGreatHQWorldNobody1
import Derived.OrdersHeld
import Derived.Orders
set_option maxRecDepth 100000
set_option maxHeartbeats 8000000
open Go.Proofs.Tryz
namespace Go.Proofs.YthihpfpbiajddaaGreat
open Go.RowKit
section
variable {P:Program} {md:Region.Mode} {ops:Array Oper} {Q:Exit->Act->World->Prop} {S:World->Prop} {Z:Nat->Bool}
def gz (P:Program) (md:Region.Mode) (ops:Array Oper) (Q:Exit->Act->World->Prop) (S:World->Prop) (Z:Nat->Bool):Nat->Array Bool->Act->World->Prop
 | 0,listed,a,w=>Region.ready md ops listed=[]/\Q .normal a w
 | fuel + 1,listed,a,w=>
  (Region.ready md ops listed=[]->Q .normal a w)/\
  ∀ i∈Region.ready md ops listed,wpOp P ops Q i (fun a' w'=>(Z i=true∨(S w->S w'))/\gz P md ops Q S Z fuel (listed.setIfInBounds i true) a' w') a w
theorem vP:∀ (d:Nat) (e:Array Bool) (a:Act) (w:World),gz P md ops Q S Z d e a w->wpAny P md ops Q d e a w
 | 0,_,_,_,h=>h
 | d + 1,_,_,_,h=>⟨h.1,fun i f=>wpOp_mono (fun g w' j=>vP d _ g w' j.2) (h.2 i f)⟩
def rP (md:Region.Mode) (ops:Array Oper) (zs:List Nat) (i:Nat):Bool:=
 zs.all fun j=>match ops[j]? with
  | some o=>o.after.any fun e=>Region.binds md e && e.on == i
  | none=>true
theorem zW {i:Nat} {u:Oper} {v:Value} (C:ops[i]?=some u) (p:∀ (j:Nat) (o:Oper) cs b,ops[j]?=some o->o.op≠.select cs b)
 (G:∀ j g,ops[j]?=some g->Z j=true->∃ e∈g.after,Region.binds md e=true/\e.on=i)
 (I:∀ c a w,Q (.panic c) (a.put u.dst v) w->Q (.panic c) a w) :
 ∀ (d:Nat) (listed:Array Bool) (a:Act) (w:World),
  (∀ j g,ops[j]?=some g->j≠i->listed.getD j true=false->(∀ e∈g.after,Region.binds md e=true->e.on≠i)->u.apart ops g=true)->
  i∈Region.ready md ops listed->YieldsIf P ops S u v a->S w->
  gz P md ops Q S Z d (listed.setIfInBounds i true) (a.put u.dst v) w->gz P md ops Q S Z (d + 1) listed a w:=by
 intro d
 induction d with
 | zero=>
  intro listed a w _ hr hy z H
  refine ⟨fun h=>(by rw [h] at hr;cases hr),fun j A=>?_⟩
  by_cases f:j=i
  ·subst f;exact hy.wpOp C z ⟨.inr id,H⟩
  ·have:=ready_mono A f
   rw [H.1] at this
   cases this
 | succ d ih=>
  intro listed a w l hr hy z H
  refine ⟨fun h=>(by rw [h] at hr;cases hr),fun j A=>?_⟩
  by_cases f:j=i
  ·subst f;exact hy.wpOp C z ⟨.inr id,H⟩
  ·have h1:=H.2 j (ready_mono A f)
   obtain ⟨r,g,m,hall⟩:=mem_ready.1 A
   have s:∀ e∈g.after,Region.binds md e=true->e.on≠i:=fun e he hb heq=>UQ
   have D:Z j≠true:=fun J=>by
    obtain ⟨e,he,hb,K⟩:=G j g m J
    exact s e he hb K
   have L:=wpOp_putIf m (l j g m f r s) (fun cs b=>p i u cs b C) (fun cs b=>p j g cs b m) I hy h1
   have n:∀ k ok,ops[k]?=some ok->k≠i->(listed.setIfInBounds j true).getD k true=false->
    (∀ e∈ok.after,Region.binds md e=true->e.on≠i)->u.apart ops ok=true:=fun k ok M E x F=>by
    refine l k ok M E ?_ F
    by_cases y:j=k
    ·subst y;exact r
    ·rw [getD_set_ne true y] at x;exact x
   refine wpOp_mono (fun N w' B=>⟨B.2.1,ih (listed.setIfInBounds j true) N w' n (ready_mono hr (Ne.symm f)) B.1 (B.2.1.resolve_left D z) ?_⟩) L
   rw [Array.setIfInBounds_comm _ _ f]
   exact B.2.2
theorem BI {i:Nat} {p:Oper} {v:Value} (A:ops[i]?=some p) (m:∀ (j:Nat) (o:Oper) cs b,ops[j]?=some o->o.op≠.select cs b)
 (E:∀ c a w,Q (.panic c) (a.put p.dst v) w->Q (.panic c) a w) :
 ∀ (d:Nat) (listed:Array Bool) (a:Act) (w:World),
  (∀ j r,ops[j]?=some r->j≠i->listed.getD j true=false->(∀ e∈r.after,Region.binds md e=true->e.on≠i)->p.apart ops r=true)->
  i∈Region.ready md ops listed->YieldsIf P ops (fun _=>True) p v a->
  gz P md ops Q S Z d (listed.setIfInBounds i true) (a.put p.dst v) w->gz P md ops Q S Z (d + 1) listed a w:=by
 intro d
 induction d with
 | zero=>
  intro listed a w _ hr hy H
  refine ⟨fun h=>(by rw [h] at hr;cases hr),fun j z=>?_⟩
  by_cases f:j=i
  ·subst f;exact hy.wpOp A trivial ⟨.inr id,H⟩
  ·have:=ready_mono z f
   rw [H.1] at this
   cases this
 | succ d ih=>
  intro listed a w g hr hy H
  refine ⟨fun h=>(by rw [h] at hr;cases hr),fun j z=>?_⟩
  by_cases f:j=i
  ·subst f;exact hy.wpOp A trivial ⟨.inr id,H⟩
  ·have h1:=H.2 j (ready_mono z f)
   obtain ⟨n,r,s,hall⟩:=mem_ready.1 z
   have u:∀ e∈r.after,Region.binds md e=true->e.on≠i:=fun e he hb heq=>UQ
   have F:=wpOp_putIf s (g j r s f n u) (fun cs b=>m i p cs b A) (fun cs b=>m j r cs b s) E hy h1
   have l:∀ k ok,ops[k]?=some ok->k≠i->(listed.setIfInBounds j true).getD k true=false->
    (∀ e∈ok.after,Region.binds md e=true->e.on≠i)->p.apart ops ok=true:=fun k ok G B x C=>by
    refine g k ok G B ?_ C
    by_cases y:j=k
    ·subst y;exact n
    ·rw [getD_set_ne true y] at x;exact x
   refine wpOp_mono (fun I w' D=>⟨D.2.1,ih (listed.setIfInBounds j true) I w' l (ready_mono hr (Ne.symm f)) D.1 ?_⟩) F
   rw [Array.setIfInBounds_comm _ _ f]
   exact D.2.2
theorem Du {g:List Nat} {i:Nat} (h:rP md ops g i=true):∀ j d,ops[j]?=some d->g.contains j=true->∃ e∈d.after,Region.binds md e=true/\e.on=i:=fun j d k l=>by
 unfold rP at h
 rw [List.all_eq_true] at h
 have:=h j (by simpa using l)
 simp only [k,Array.any_eq_true'] at this
 obtain ⟨e,m,f⟩:=this
 simp only [kE,beq_iff_eq] at f
 exact ⟨e,m,f.1,f.2⟩
theorem pE {g:List Nat} (i:Nat) {f:Oper} (v:Value) {e:Nat} {d:Array Bool} {a:Act} {w:World} (j:ops[i]?=some f)
 (k:Region.noSelect ops=true) (l:Region.free md ops d i=true) (m:(Region.ready md ops d).contains i=true) (n:rP md ops g i=true)
 (p:∀ c a w,Q (.panic c) (a.put f.dst v) w->Q (.panic c) a w) (hy:YieldsIf P ops S f v a) (r:S w)
 (h:gz P md ops Q S g.contains e (d.setIfInBounds i true) (a.put f.dst v) w):gz P md ops Q S g.contains (e + 1) d a w:=
 zW j (Region.noSelect_spec k) (Du n) p e d a w (Region.free_spec j l) (by simpa using m) hy r h
theorem bu (i:Nat) {f:Oper} (v:Value) {e:Nat} {d:Array Bool} {a:Act} {w:World} (g:ops[i]?=some f)
 (j:Region.noSelect ops=true) (k:Region.free md ops d i=true) (l:(Region.ready md ops d).contains i=true)
 (m:∀ c a w,Q (.panic c) (a.put f.dst v) w->Q (.panic c) a w) (hy:YieldsIf P ops (fun _=>True) f v a)
 (h:gz P md ops Q S Z e (d.setIfInBounds i true) (a.put f.dst v) w):gz P md ops Q S Z (e + 1) d a w:=
 BI g (Region.noSelect_spec j) m e d a w (Region.free_spec g k) (by simpa using l) hy h
theorem di {rs:List Nat} {e:Nat} {d:Array Bool} {a:Act} {w:World} (g:Region.ready md ops d=rs) (f:rs≠[])
 (h:∀ i∈rs,wpOp P ops Q i (fun j w'=>(Z i=true∨(S w->S w'))/\gz P md ops Q S Z e (d.setIfInBounds i true) j w') a w):gz P md ops Q S Z (e + 1) d a w:=
 ⟨fun h0=>absurd (g▸h0) f,g▸h⟩
theorem mG {d:Array Bool} {a:Act} {w:World} (f:Region.ready md ops d=[]) (h:Q .normal a w) :
 ∀ e,gz P md ops Q S Z e d a w
 | 0=>⟨f,h⟩
 | _ + 1=>⟨fun _=>h,by rw [f];simp⟩
theorem uz {id:Nat} {a:Act} {w:World} (d:P.follows .mixedOrders=true)
 (h:gz P .any ops Q S Z ops.size (Array.replicate ops.size false) a { w with drawn:=w.drawn + 1 }):(Code.region id ops true).wp P Q a w:=
 wp_region_any d (vP _ _ _ _ h)
theorem eT {i:Nat} {o:Oper} {K:Act->World->Prop} {a:Act} {w:World} (d:ops[i]?=some o) (e:o.guard=none) (h:Oper.wp P o a w K Q):wpOp P ops Q i K a w:=by
 have f:Region.wanted o (yielded ops a.tmps)=true:=by simp [Region.wanted,e]
 unfold Go.wpOp
 simp only [d,f,if_true]
 exact .inl h
theorem lN {i:Nat} {o:Oper} {K:Act->World->Prop} {a:Act} {w:World} (k:ops[i]?=some o) (g:o.guard=none) (f:FuncId) (fn:Func) (l:P.funcs[f]?=some fn) (m:(fn.name == "runtime.NumGoroutine")=false) (n:fn.body.isNone=false) (xs:List Operand) (j:Array TypeId)
 (p:o.op=.call { callee:=.value (.func f),args:=xs.toArray,argTypes:=j }) (d:List Value) (r:xs.map a.eval=d) {R:Ending->World->Prop} (h:Calls P f d.toArray w R)
 (s:∀ e w',R e w'->∃ v,e=.returned v/\K (a.put o.dst v) w'):wpOp P ops Q i K a w:=by
 have u:Region.wanted o (yielded ops a.tmps)=true:=by simp [Region.wanted,g]
 have:=yM (P:=P) (ops:=ops) (Q:=Q) (E:=False) g f fn l m n xs j p d r h s
 rw [if_pos u] at this
 exact eT k g this
theorem lU {i:Nat} {o:Oper} {K:Act->World->Prop} {a:Act} {w w':World} (u:Value) (d:ops[i]?=some o) (e:o.guard=none) (f:(execOp a.eval o).run P w=.ok (.value u) w') (h:K (a.put o.dst u) w'):wpOp P ops Q i K a w:=
 eT d e (by unfold Oper.wp;rw [f];exact h)
end
section
variable {P:Program} {md:Region.Mode} {ops:Array Oper} {Q:Exit->Act->World->Prop} {S:World->Prop} {Z:Nat->Bool}
theorem dG (i:Nat) {g:Oper} (d:Option Nat) (v:Value) {f:Nat} {e:Array Bool} {a:Act} {w:World} (j:ops[i]?=some g) (hd:g.dst=d)
 (k:Region.noSelect ops=true) (l:Region.free md ops e i=true) (m:(Region.ready md ops e).contains i=true)
 (n:∀ c a w,Q (.panic c) (a.put d v) w->Q (.panic c) a w) (hy:YieldsIf P ops (fun _=>True) g v a)
 (h:gz P md ops Q S Z f (e.setIfInBounds i true) (a.put d v) w):gz P md ops Q S Z (f + 1) e a w:=by
 subst hd
 exact bu i v j k l m n hy h
theorem rQ {g:List Nat} (i:Nat) {j:Oper} (d:Option Nat) (v:Value) {f:Nat} {e:Array Bool} {a:Act} {w:World} (k:ops[i]?=some j) (hd:j.dst=d)
 (l:Region.noSelect ops=true) (m:Region.free md ops e i=true) (n:(Region.ready md ops e).contains i=true) (p:rP md ops g i=true)
 (r:∀ c a w,Q (.panic c) (a.put d v) w->Q (.panic c) a w) (hy:YieldsIf P ops S j v a) (s:S w)
 (h:gz P md ops Q S g.contains f (e.setIfInBounds i true) (a.put d v) w):gz P md ops Q S g.contains (f + 1) e a w:=by
 subst hd
 exact pE i v k l m n p r hy s h
theorem vQ {i:Nat} {o:Oper} (d:Option Nat) {K:Act->World->Prop} {a:Act} {w:World} (k:ops[i]?=some o) (hd:o.dst=d) (l:Region.wanted o (yielded ops a.tmps)=true) (f:FuncId) (fn:Func) (m:P.funcs[f]?=some fn) (n:(fn.name == "runtime.NumGoroutine")=false) (p:fn.body.isNone=false) (xs:List Operand) (j:Array TypeId)
 (r:o.op=.call { callee:=.value (.func f),args:=xs.toArray,argTypes:=j }) (g:List Value) (s:xs.map a.eval=g) {R:Ending->World->Prop} (h:Calls P f g.toArray w R)
 (u:∀ e w',R e w'->∃ v,e=.returned v/\K (a.put d v) w'):wpOp P ops Q i K a w:=by
 subst hd
 unfold Go.wpOp
 simp only [k,l,if_true]
 left
 unfold Oper.wp execOp
 simp only [r,resolve,invoke,Sem.run_bind,Sem.run_pure,Result.andThen_ok,List.map_toArray,s,Act.eval,Deferred.ofValue,Array.append_empty,Array.empty_append,nX _ m n p]
 refine h.mono fun e w' x=>?_
 obtain ⟨v,rfl,y⟩:=u e w' x
 exact y
theorem nY {e:Nat} {d:Array Bool} {a:Act} {w:World} (i:Nat) (g:(Region.ready md ops d == [i])=true)
 (h:wpOp P ops Q i (fun k w'=>(Z i=true∨(S w->S w'))/\gz P md ops Q S Z e (d.setIfInBounds i true) k w') a w):gz P md ops Q S Z (e + 1) d a w:=
 di (eq_of_beq g) bE fun j f=>by rw [Vd] at f;subst f;exact h
theorem vR {d:Array Bool} {a:Act} {w:World} (f:(Region.ready md ops d).isEmpty=true) (h:Q .normal a w) (e:Nat):gz P md ops Q S Z e d a w:=
 mG (List.isEmpty_iff.1 f) h e
end
section
variable {P:Program} {Q:Exit->Act->World->Prop}
def upd (σ:Nat->Option Value) (k:Nat) (v:Value):Nat->Option Value:=fun j=>if j=k then some v else σ j
def bW (l:List Oper) (σ:Nat->Option Value) (a:Act):Nat->Act
 | 0=>a
 | k + 1=>match σ k,l[k]? with
  | some v,some o=>(bW l σ a k).put o.dst v
  | _,_=>bW l σ a k
def jB (l:List Oper):List Tmp:=l.filterMap (·.dst)
def fU (l:List Oper):Bool:=nodupB (jB l) && (List.range l.length).all fun i=>match l[i]? with
 | some o=>o.after.all fun e=>!Region.binds .any e || decide (e.on < i)
 | none=>true
where nodupB:List Nat->Bool
 | []=>true
 | x :: l=>!l.contains x && nodupB l
theorem oZ:∀ {l:List Nat},fU.nodupB l=true->l.Nodup
 | [],_=>List.nodup_nil
 | x :: l,h=>by
  simp only [fU.nodupB,kE,Bool.not_eq_true',List.contains_eq_mem,decide_eq_false_iff_not] at h
  exact List.nodup_cons.2 ⟨h.1,oZ h.2⟩
theorem zX:∀ {l:List Oper},(jB l).Nodup->∀ {i j:Nat} {g m:Oper},l[i]?=some g->l[j]?=some m->i≠j->∀ d,g.dst=some d->m.dst≠some d
 | [],_,i,j,g,m,hi,_,_=>by simp at hi
 | o :: l,hn,i,j,g,m,hi,hj,hne=>by
  intro d n p
  have s:(jB l).Nodup:=by
   unfold jB at hn ⊢
   cases h:o.dst with
   | none=>simpa [List.filterMap_cons,h] using hn
   | some x=>simp only [List.filterMap_cons,h] at hn;exact (List.nodup_cons.1 hn).2
  have f:∀ {k:Nat} {ok:Oper},l[k]?=some ok->ok.dst=some d->d∈jB l:=fun {k ok} u hd=>
   List.mem_filterMap.2 ⟨ok,EY u,hd⟩
  have e:o.dst=some d->d∈jB l->False:=fun h y=>by
   have r:(d :: jB l).Nodup:=by unfold jB at hn ⊢;simpa only [List.filterMap_cons,h] using hn
   exact (List.nodup_cons.1 r).1 y
  cases i with
  | zero=>
   cases j with
   | zero=>exact hne rfl
   | succ j=>simp at hi hj;subst hi;exact e n (f hj p)
  | succ i=>
   cases j with
   | zero=>simp at hi hj;subst hj;exact e p (f hi n)
   | succ j=>simp at hi hj;exact zX s hi hj af d n p
variable {l:List Oper} {σ:Nat->Option Value} {a:Act}
theorem uA {i:Nat} {v:Value}:∀ {k:Nat},k<=i->bW l (upd σ i v) a k=bW l σ a k
 | 0,_=>rfl
 | k + 1,h=>by
  have:upd σ i v k=σ k:=by unfold upd;rw [if_neg (by omega)]
  simp only [bW,this,uA (show k<=i by omega)]
theorem pF {i:Nat} {v:Value} {o:Oper} (f:(jB l).Nodup) (e:l[i]?=some o) (g:σ i=none):∀ {k:Nat},i < k->bW l (upd σ i v) a k=(bW l σ a k).put o.dst v
 | k + 1,h=>by
  by_cases j:i=k
  ·subst j
   have:upd σ i v i=some v:=vL
   simp only [bW,this,e,g,uA (dN i)]
  ·have:upd σ i v k=σ k:=by unfold upd;rw [if_neg af]
   have m:=pF (v:=v) f e g (show i < k by omega)
   simp only [bW,this,m]
   cases h1:σ k with
   | none=>rfl
   | some u=>
    cases h2:l[k]? with
    | none=>rfl
    | some ok=>exact Act.put_comm _ _ _ (fun d hd=>zX f e h2 j d hd)
theorem tJ:∀ {k:Nat},(bW l σ a k).tmps.size=a.tmps.size
 | 0=>rfl
 | k + 1=>by
  unfold bW
  split
  ·rename_i v o _ _
   cases h:o.dst <;> simp [Act.put,tJ (k:=k)]
  ·exact tJ (k:=k)
theorem vz {j:Nat} {v:Value} {o:Oper} {d:Tmp} (n:(jB l).Nodup) (g:l[j]?=some o) (hd:o.dst=some d) (p:σ j=some v) (f:d < a.tmps.size) :
 ∀ {k:Nat},j < k->(bW l σ a k).tmps[d]?=some v
 | k + 1,h=>by
  by_cases r:j=k
  ·subst r
   have:d < (bW l σ a j).tmps.size:=by rw [tJ];exact f
   simp [bW,p,g,hd,Act.put,Array.getElem?_setIfInBounds,this]
  ·have i:=vz n g hd p f (show j < k by omega)
   unfold bW
   split
   ·rename_i u ok _ s
    cases h3:ok.dst with
    | none=>exact i
    | some e=>
     have m:d≠e:=fun x=>zX n g s r d hd (by rw [h3,x])
     simp only [Act.put]
     rw [Array.getElem?_setIfInBounds_ne (Ne.symm m)]
     exact i
   ·exact i
theorem jU {d:Tmp} (hd:∀ j o,l[j]?=some o->o.dst=some d->σ j=none):∀ {k:Nat},(bW l σ a k).tmps[d]?=a.tmps[d]?
 | 0=>rfl
 | k + 1=>by
  unfold bW
  split
  ·rename_i u ok g h
   cases h3:ok.dst with
   | none=>exact jU hd (k:=k)
   | some e=>
    have f:e≠d:=fun i=>by
     have:=hd k ok h (by rw [h3,i])
     rw [g] at this
     cases this
    simp only [Act.put]
    rw [Array.getElem?_setIfInBounds_ne f]
    exact jU hd (k:=k)
  ·exact jU hd (k:=k)
theorem jm {p p':Nat->Bool} (d:∀ x,p' x=true->p x=true) {i:Nat} (g:p i=true) (j:p' i=false):∀ {l:List Nat},i∈l->l.countP p' < l.countP p
 | x :: l,h=>by
  have f:l.countP p'<=l.countP p:=List.countP_mono_left (fun x _ e=>d x e)
  by_cases e:x=i
  ·subst e;simp [List.countP_cons,g,j];omega
  ·have:=jm d g j (show i∈l by simpa [Ne.symm e] using h)
   have k:=d x
   simp only [List.countP_cons]
   cases hp:p' x <;> cases hq:p x <;> simp_all <;> omega
theorem yo (hok:fU l=true) (I:(Nat->Option Value)->World->Prop)
 (n:∀ σ k o w,l[k]?=some o->σ k=none->(∀ e∈o.after,Region.binds .any e=true->(σ e.on).isSome=true)->I σ w->
  wpOp P l.toArray Q k (fun A w'=>∃ v,A=(bW l σ a l.length).put o.dst v/\I (upd σ k v) w') (bW l σ a l.length) w)
 (h:∀ σ w,(∀ k,k < l.length->(σ k).isSome=true)->I σ w->Q .normal (bW l σ a l.length) w) :
 ∀ (g:Nat) (d:Array Bool) (σ:Nat->Option Value) (w:World),d.size=l.length->(∀ k,k < l.length->d[k]?=some (σ k).isSome)->
  (List.range l.length).countP (fun k=>(σ k).isNone)<=g->I σ w->wpAny P .any l.toArray Q g d (bW l σ a l.length) w:=by
 simp only [fU,kE,List.all_eq_true,List.mem_range] at hok
 have B:=oZ hok.1
 have f:∀ (d:Array Bool) (σ:Nat->Option Value),d.size=l.length->(∀ k,k < l.length->d[k]?=some (σ k).isSome)->
  ∀ i,i∈Region.ready .any l.toArray d↔i < l.length/\σ i=none/\∃ o,l[i]?=some o/\∀ e∈o.after,Region.binds .any e=true->(σ e.on).isSome=true:=by
  intro d σ hsz hls i
  have hg:∀ k,d.getD k false=true↔k < l.length/\(σ k).isSome=true:=fun k=>Va
  unfold Region.ready
  simp only [List.size_toArray,List.mem_filter,List.mem_range,kE,Bool.not_eq_true',iZ]
  constructor
  ·exact UI
  ·exact UE
 have hdone:∀ (d:Array Bool) (σ:Nat->Option Value),d.size=l.length->(∀ k,k < l.length->d[k]?=some (σ k).isSome)->
  Region.ready .any l.toArray d=[]->∀ k,k < l.length->(σ k).isSome=true:=by
  intro d σ hsz hls y k
  induction k using Nat.strongRecOn with
  | _ k ih=>
   intro hk
   cases hs:σ k with
   | some v=>rfl
   | none=>
    have:k∈Region.ready .any l.toArray d:=(f d σ hsz hls k).2 ⟨hk,hs,l[k],gG hk,fun e he hb=>by
     have hlt:e.on < k:=by
      have:=hok.2 k hk
      simp only [gG hk,Array.all_eq_true'] at this
      simpa [hb] using this e he
     exact ih e.on hlt af⟩
    rw [y] at this
    simp at this
 intro g
 induction g with
 | zero=>
  intro d σ w hsz hls C hI
  have j:∀ k,k < l.length->(σ k).isSome=true:=fun k hk=>by
   cases hs:σ k with
   | some v=>rfl
   | none=>
    have:0 < (List.range l.length).countP (fun k=>(σ k).isNone):=List.countP_pos_iff.2 ⟨k,List.mem_range.2 hk,by simp [hs]⟩
    omega
  refine ⟨?_,h σ w j hI⟩
  refine List.eq_nil_iff_forall_not_mem.2 fun i hi=>?_
  obtain ⟨h1,h2,-⟩:=(f d σ hsz hls i).1 hi
  have:=j i h1
  rw [h2] at this
  simp at this
 | succ g ih=>
  intro d σ w hsz hls C hI
  refine ⟨fun y=>h σ w (hdone d σ hsz hls y) hI,fun i hi=>?_⟩
  obtain ⟨m,r,o,ho,s⟩:=(f d σ hsz hls i).1 hi
  refine wpOp_mono ?_ (n σ i o w ho r s hI)
  rintro A w' ⟨v,rfl,z⟩
  rw [<- pF (v:=v) B ho r m]
  refine ih _ (upd σ i v) w' (by simp [hsz]) (fun k hk=>?_) ?_ z
  ·exact MU
  ·have:=jm (p:=fun k=>(σ k).isNone) (p':=fun k=>(upd σ i v k).isNone) (fun x u=>by
    unfold upd at u
    split at u
    ·simp at u
    ·exact u) (i:=i) (by simp [r]) vL (List.mem_range.2 m)
   omega
theorem Dv {id:Nat} {w:World} (h:P.follows .mixedOrders=true) (g:fU l=true) (I:(Nat->Option Value)->World->Prop)
 (h0:I (fun _=>none) w.drew)
 (d:∀ σ k o w,l[k]?=some o->σ k=none->(∀ e∈o.after,Region.binds .any e=true->(σ e.on).isSome=true)->I σ w->
  wpOp P l.toArray Q k (fun i w'=>∃ v,i=(bW l σ a l.length).put o.dst v/\I (upd σ k v) w') (bW l σ a l.length) w)
 (f:∀ σ w,(∀ k,k < l.length->(σ k).isSome=true)->I σ w->Q .normal (bW l σ a l.length) w) :
 (Code.region id l.toArray true).wp P Q a w:=by
 refine wp_region_any h ?_
 have j:∀ k,bW l (fun _=>none) a k=a:=fun k=>MX
 have:=yo (P:=P) (Q:=Q) (a:=a) g I d f l.length (Array.replicate l.length false) (fun _=>none) w.drew bE (fun k m=>by simp [m]) (by
  simp) h0
 rw [j] at this
 simpa using this
def ig (P:Program) (Q:Exit->Act->World->Prop) (l:List Oper) (a0:Act) (R:Nat->Value->World->Prop) (S:(Nat->Option Value)->World->Prop) (T:World->World->Prop) (k:Nat) (o:Oper):Prop:=
 ∀ (σ:Nat->Option Value) (a:Act) (w:World),σ k=none->(∀ e∈o.after,Region.binds .any e=true->(σ e.on).isSome=true)->S σ w->
  (∀ j v,j < l.length->σ j=some v->R j v w/\∀ oj t,l[j]?=some oj->oj.dst=some t->t < a0.tmps.size->a.tmps[t]?=some v)->
  (∀ t,(∀ j oj,l[j]?=some oj->oj.dst=some t->σ j=none)->a.tmps[t]?=a0.tmps[t]?)->(∀ j oj,l[j]?=some oj->(σ j).isSome=true->∀ e∈oj.after,Region.binds .any e=true->(σ e.on).isSome=true)->
  wpOp P l.toArray Q k (fun a' w'=>∃ v,a'=a.put o.dst v/\R k v w'/\T w w'/\S (upd σ k v) w') a w
def aH (Φ:Nat->Oper->Prop):Nat->List Oper->Prop
 | _,[]=>True
 | k,o :: l=>Φ k o/\aH Φ (k + 1) l
theorem aH.nil {d:Nat->Oper->Prop} {k:Nat}:aH d k []:=trivial
theorem aH.cons {d:Nat->Oper->Prop} {k:Nat} {o:Oper} {l:List Oper} (h:d k o) (e:aH d (k + 1) l):aH d k (o :: l):=⟨h,e⟩
theorem aH.at_ {e:Nat->Oper->Prop} {l:List Oper}:∀ {k:Nat},aH e k l->∀ {i:Nat} {o:Oper},l[i]?=some o->e (k + i) o:=by
 induction l with
 | nil=>intro k _ i o d;simp at d
 | cons x l ih=>
  intro k h i o d
  cases i with
  | zero=>simp only [je,Option.some.injEq] at d;subst d;exact h.1
  | succ i=>
   simp only [nW] at d
   have:=ih h.2 d
   rwa [show k + (i + 1)=k + 1 + i by omega]
def Ends (R:Nat->Value->World->Prop) (w:World) (σ:Nat->Option Value) (G:Act->Prop):Nat->List Oper->Act->Prop
 | _,[],a=>G a
 | k,o :: l,a=>∀ v,σ k=some v->R k v w->Ends R w σ G (k + 1) l (a.put o.dst v)
theorem Ends.nil {R:Nat->Value->World->Prop} {w:World} {G:Act->Prop} {k:Nat} {a:Act} (h:G a):Ends R w σ G k [] a:=h
theorem Ends.eqv {R:Nat->Value->World->Prop} {w:World} {G:Act->Prop} {k:Nat} {o:Oper} {l:List Oper} {a:Act} (d:Option Tmp) (x:Value) (hd:o.dst=d) (e:∀ v,R k v w->v=x) (h:Ends R w σ G (k + 1) l (a.put d x)):Ends R w σ G k (o :: l) a:=by
 subst hd
 intro v _ f
 rw [e v f]
 exact h
theorem Ends.ex {R:Nat->Value->World->Prop} {w:World} {G:Act->Prop} {k:Nat} {o:Oper} {l:List Oper} {a:Act} (d:Option Tmp) (hd:o.dst=d) (h:∀ v,σ k=some v->R k v w->Ends R w σ G (k + 1) l (a.put d v)):Ends R w σ G k (o :: l) a:=by
 subst hd
 exact h
theorem nu {R:Nat->Value->World->Prop} {w:World} {G:Act->Prop} {σ:Nat->Option Value} {a:Act}:∀ (rest:List Oper) (pre:List Oper),Ends R w σ G pre.length rest (bW (pre ++ rest) σ a pre.length)->
 (∀ k,k < (pre ++ rest).length->∃ v,σ k=some v/\R k v w)->G (bW (pre ++ rest) σ a (pre ++ rest).length)
 | [],pre,h,_=>by simp only [List.append_nil] at h ⊢;exact h
 | o :: rest,pre,h,hs=>by
  obtain ⟨v,f,g⟩:=hs pre.length bE
  have d:=h v f g
  have i:bW (pre ++ o :: rest) σ a (pre.length + 1)=(bW (pre ++ o :: rest) σ a pre.length).put o.dst v:=by
   simp [bW,f]
  rw [<- i] at d
  have e:pre ++ o :: rest=(pre ++ [o]) ++ rest:=bE
  have j:pre.length + 1=(pre ++ [o]).length:=bE
  rw [j,e] at d
  have:=nu rest (pre ++ [o]) d (by rw [<- e];exact hs)
  rw [<- e] at this
  exact this
theorem aY {id:Nat} {w:World} (R:Nat->Value->World->Prop) (S:(Nat->Option Value)->World->Prop) (T:World->World->Prop) (L:P.follows .mixedOrders=true) (hok:fU l=true)
 (I:(jB l).all (fun t=>decide (t < a.tmps.size))=true)
 (n:∀ j v w w',T w w'->R j v w->R j v w') (h0:S (fun _=>none) w.drew)
 (steps:aH (ig P Q l a R S T) 0 l)
 (ends:∀ σ w',S σ w'->(∀ k,k < l.length->(σ k).isSome=true)->Ends R w' σ (fun x=>Q .normal x w') 0 l a) :
 (Code.region id l.toArray true).wp P Q a w:=by
 have M:(jB l).Nodup:=zR
 refine Dv L hok (fun σ w'=>S σ w'/\(∀ j v,σ j=some v->R j v w')/\(∀ j f,l[j]?=some f->(σ j).isSome=true->∀ e∈f.after,Region.binds .any e=true->(σ e.on).isSome=true)) ⟨h0,(fun j v h=>by cases h),fun j f _ h=>by simp at h⟩ ?_ ?_
 ·rintro σ k o w' y N hd ⟨i,z,p⟩
  have r:=steps.at_ y
  rw [mE] at r
  have:=r σ (bW l σ a l.length) w' N hd i (fun j v d s=>⟨z j v s,fun f t A B C=>vz M A B s C d⟩) (fun t B=>jU fun j f d hd=>B j f d hd) p
  refine wpOp_mono ?_ this
  rintro x D ⟨v,rfl,E,O,F⟩
  refine ⟨v,rfl,F,?_,?_⟩
  ·intro j u d
   unfold upd at d
   split at d
   ·rename_i e;subst e;cases d;exact E
   ·exact n j u w' D O (z j u d)
  ·intro j f d m e J K
   have H:(σ e.on).isSome=true:=by
    unfold upd at m
    split at m
    ·rename_i h
     subst h
     rw [y] at d
     cases d
     exact hd e J K
    ·exact p j f d m e J K
   unfold upd
   split
   ·rfl
   ·exact H
 ·rintro σ w' g ⟨i,z,-⟩
  refine nu (G:=fun x=>Q .normal x w') l [] (ends σ w' i g) (fun k y=>?_)
  cases s:σ k with
  | none=>have:=g k y;rw [s] at this;simp at this
  | some v=>exact ⟨v,rfl,z k v s⟩
end
theorem aC (l:List Value) (e:List Deferred) (d:Tmp) (v:Value):({ tmps:=l.toArray,defers:=e }:Act).put (some d) v={ tmps:=(l.set d v).toArray,defers:=e }:=by simp [Act.put]
theorem ax (a:Act) (v:Value):a.put none v=a:=rfl
def eqv (x:Value):Value->World->Prop:=fun v _=>v=x
def pick:List (Value->World->Prop)->Nat->Value->World->Prop
 | [],_=>fun _ _=>True
 | r :: _,0=>r
 | _ :: l,j + 1=>pick l j
def ai (T:World->World->Prop) (Rs:List (Value->World->Prop)):Prop:=∀ r∈Rs,∀ v w w',T w w'->r v w->r v w'
theorem ai.nil {T:World->World->Prop}:ai T []:=fun _ h=>by cases h
theorem ai.cons {T:World->World->Prop} {r:Value->World->Prop} {l:List (Value->World->Prop)} (h:∀ v w w',T w w'->r v w->r v w') (k:ai T l):ai T (r :: l):=fun s d=>by
 rcases List.mem_cons.1 d with rfl | d
 ·exact h
 ·exact k s d
theorem ai.eqv {T:World->World->Prop} {x:Value} {l:List (Value->World->Prop)} (k:ai T l):ai T (eqv x :: l):=k.cons fun _ _ _ _ h=>h
theorem ai.pick {T:World->World->Prop}:∀ {Rs:List (Value->World->Prop)},ai T Rs->∀ j v w w',T w w'->pick Rs j v w->pick Rs j v w'
 | [],_,_,_,_,_,_,h=>h
 | r :: l,k,0,v,w,w',ht,h=>k r bE v w w' ht h
 | r :: l,k,j + 1,v,w,w',ht,h=>ai.pick (Rs:=l) (fun s d=>k s (by simp [d])) j v w w' ht h
def Given (R:Nat->Value->World->Prop) (w:World) (σ:Nat->Option Value) (E:Operand->Value) (G:Prop):List (Nat×Tmp)->Prop
 | []=>G
 | (j,t) :: r=>∀ v,σ j=some v->R j v w->E (.tmp t)=v->Given R w σ E G r
def aU (E:Operand->Value) (G:Prop):List (Tmp×Value)->Prop
 | []=>G
 | (t,v) :: r=>E (.tmp t)=v->aU E G r
theorem Given.nil {R:Nat->Value->World->Prop} {w:World} {σ:Nat->Option Value} {E:Operand->Value} {G:Prop} (h:G):Given R w σ E G []:=h
theorem aU.nil {E:Operand->Value} {G:Prop} (h:G):aU E G []:=h
def jX (o:Oper) (j:Nat):Bool:=o.after.any fun e=>Region.binds .any e && e.on == j
def dw (l:List Oper) (o:Oper) (n:Nat) (deps:List (Nat×Tmp)):Bool:=deps.all fun p=>jX o p.1 && (match l[p.1]? with
 | some oj=>oj.dst == some p.2
 | none=>false) && decide (p.2 < n)
def below (l:List Oper) (k:Nat):List Nat:=go l 0 []
where go:List Oper->Nat->List Nat->List Nat
 | [],_,acc=>acc
 | o :: l,i,acc=>go l (i + 1) (if i == k || (o.after.any fun e=>Region.binds .any e && acc.contains e.on) then i :: acc else acc)
def gN (l:List Oper) (k:Nat) (outs:List (Tmp×Value)):Bool:=outs.all fun p=>(List.range l.length).all fun i=>match l[i]? with
 | some o=>o.dst != some p.1 || (below l k).contains i
 | none=>true
section
variable {P:Program} {Q:Exit->Act->World->Prop} {l:List Oper} {a0:Act} {R:Nat->Value->World->Prop} {S:(Nat->Option Value)->World->Prop} {T:World->World->Prop}
theorem fE {w:World} {a:Act} {o:Oper} {σ:Nat->Option Value} (hd:∀ e∈o.after,Region.binds .any e=true->(σ e.on).isSome=true)
 (p:∀ j v,j < l.length->σ j=some v->R j v w/\∀ f t,l[j]?=some f->f.dst=some t->t < a0.tmps.size->a.tmps[t]?=some v) {G:Prop} :
 ∀ {deps:List (Nat×Tmp)},dw l o a0.tmps.size deps=true->Given R w σ a.eval G deps->G
 | [],_,h=>h
 | (j,t) :: r,d,h=>by
  unfold dw at d
  simp only [List.all_cons,kE] at d
  obtain ⟨⟨⟨i,g⟩,u⟩,x⟩:=d
  cases ho:l[j]? with
  | none=>rw [ho] at g;cases g
  | some f=>
   rw [ho] at g
   have k:j < l.length:=(List.getElem?_eq_some_iff.1 ho).1
   unfold jX at i
   rw [Array.any_eq_true'] at i
   obtain ⟨e,y,d⟩:=i
   simp only [kE,beq_iff_eq] at d
   have m:(σ j).isSome=true:=d.2▸hd e y d.1
   obtain ⟨v,s⟩:=Option.isSome_iff_exists.1 m
   obtain ⟨z,A⟩:=p j v k s
   have n:=A f t ho (by simpa using g) (by simpa using u)
   refine fE hd p (deps:=r) (by unfold dw;exact x) (h v s z ?_)
   simp [Act.eval,Array.getD_eq_getD_getElem?,n]
theorem ny {l0:List Oper} {k:Nat} {σ:Nat->Option Value} (d:∀ j n,l0[j]?=some n->(σ j).isSome=true->∀ e∈n.after,Region.binds .any e=true->(σ e.on).isSome=true) (p:σ k=none) :
 ∀ (l:List Oper) (i:Nat) (acc:List Nat),(∀ j,l[j]?=l0[i + j]?)->(∀ x∈acc,σ x=none)->∀ x∈below.go k l i acc,σ x=none
 | [],_,_,_,h=>h
 | o :: l,i,acc,hl,h=>by
  unfold below.go
  refine ny d p l (i + 1) _ (fun j=>?_) (fun x f=>?_)
  ·have:=hl (j + 1)
   rw [nW] at this
   rw [this,show i + (j + 1)=i + 1 + j by omega]
  ·split at f
   ·rename_i g
    rcases List.mem_cons.1 f with rfl | f
    ·cases hd:σ x with
     | none=>rfl
     | some v=>
      simp only [Bool.or_eq_true,beq_iff_eq] at g
      rcases g with rfl | g
      ·rw [p] at hd;cases hd
      ·rw [Array.any_eq_true'] at g
       obtain ⟨e,s,m⟩:=g
       simp only [kE,List.contains_eq_mem,rJ] at m
       have h0:=hl 0
       rw [je,I9] at h0
       have r:=d x o h0.symm (by rw [hd];rfl) e s m.1
       rw [h _ m.2] at r
       cases r
    ·exact h x f
   ·exact h x f
theorem gp {a:Act} {k:Nat} {σ:Nat->Option Value} (g:σ k=none) (f:∀ j d,l[j]?=some d->(σ j).isSome=true->∀ e∈d.after,Region.binds .any e=true->(σ e.on).isSome=true)
 (i:∀ t,(∀ j d,l[j]?=some d->d.dst=some t->σ j=none)->a.tmps[t]?=a0.tmps[t]?) {G:Prop} :
 ∀ {outs:List (Tmp×Value)},gN l k outs=true->(outs.map fun p=>a0.tmps[p.1]?)=(outs.map fun p=>some p.2)->aU a.eval G outs->G
 | [],_,_,h=>h
 | (t,v) :: r,hb,he,h=>by
  unfold gN at hb
  rw [List.all_cons,kE] at hb
  simp only [BB,List.cons.injEq] at he
  refine gp g f i (outs:=r) (by unfold gN;exact hb.2) he.2 (h ?_)
  have:=i t (fun j d m hd=>by
   have n:=List.all_eq_true.1 hb.1 j (List.mem_range.2 (List.getElem?_eq_some_iff.1 m).1)
   simp only [m,hd,bne_self_eq_false,Bool.false_or,List.contains_eq_mem,rJ] at n
   exact ny f g l 0 [] (fun j=>by rw [mE]) (fun _ h=>by cases h) j n)
  simp [Act.eval,Array.getD_eq_getD_getElem?,this,he.1]
abbrev Later (l:List Oper) (σ:Nat->Option Value) (k:Nat):Prop:=∀ i,(below l k).contains i=true->σ i=none
theorem pG {k:Nat} {σ:Nat->Option Value} (g:σ k=none) (d:∀ j f,l[j]?=some f->(σ j).isSome=true->∀ e∈f.after,Region.binds .any e=true->(σ e.on).isSome=true):Later l σ k:=fun i m=>
 ny d g l 0 [] (fun j=>by rw [mE]) (fun _ h=>by cases h) i (by simpa [below] using m)
theorem kH {o:Oper} {σ:Nat->Option Value} (d:∀ e∈o.after,Region.binds .any e=true->(σ e.on).isSome=true):∀ j,jX o j=true->(σ j).isSome=true:=fun j f=>by
 unfold jX at f
 rw [Array.any_eq_true'] at f
 obtain ⟨e,h,g⟩:=f
 simp only [kE,beq_iff_eq] at g
 exact g.2▸d e h g.1
theorem bP {k:Nat} {o:Oper} (deps:List (Nat×Tmp)) (outs:List (Tmp×Value)) (i:o.guard=none) (m:l[k]?=some o) (hd:dw l o a0.tmps.size deps=true) (n:gN l k outs=true)
 (r:(outs.map fun p=>a0.tmps[p.1]?)=(outs.map fun p=>some p.2))
 (h:∀ (σ:Nat->Option Value) (a:Act) (w:World),Later l σ k->(∀ j,jX o j=true->(σ j).isSome=true)->S σ w->
  Given R w σ a.eval (aU a.eval (Oper.wp P o a w (fun s w'=>∃ v,s=a.put o.dst v/\R k v w'/\T w w'/\S (upd σ k v) w') Q) outs) deps):ig P Q l a0 R S T k o:=by
 intro σ a w g d u x f e
 exact eT (by simpa using m) i (gp g e f n r (fE (deps:=deps) d x hd (h σ a w (pG g e) (kH d) u)))
theorem mH {k:Nat} {o:Oper} (deps:List (Nat×Tmp)) (outs:List (Tmp×Value)) (n:o.guard=none) (r:l[k]?=some o) (hd:dw l o a0.tmps.size deps=true) (s:gN l k outs=true)
 (u:(outs.map fun p=>a0.tmps[p.1]?)=(outs.map fun p=>some p.2)) (x:∀ w,T w w) (y:∀ σ v w,S σ w->S (upd σ k v) w)
 (h:∀ (σ:Nat->Option Value) (E:Operand->Value) (w:World),Later l σ k->(∀ j,jX o j=true->(σ j).isSome=true)->S σ w->(∀ v,E (.const v)=v)->(∀ f,E (.func f)=.func (.func f) #[] #[])->
  Given R w σ E (aU E (∃ v,(execOp E o).run P w=.ok (.value v) w/\R k v w) outs) deps):ig P Q l a0 R S T k o:=by
 intro σ a w m d e z i g
 obtain ⟨v,A,B⟩:=gp m g i s u (fE (deps:=deps) d z hd (h σ a.eval w (pG m g) (kH d) e (fun _=>rfl) (fun _=>rfl)))
 exact lU v (by simpa using r) n A ⟨v,rfl,B,x w,y σ v w e⟩
theorem dH {k:Nat} {o:Oper} (deps:List (Nat×Tmp)) (outs:List (Tmp×Value)) (n:o.guard=none) (r:l[k]?=some o) (hd:dw l o a0.tmps.size deps=true) (s:gN l k outs=true)
 (u:(outs.map fun p=>a0.tmps[p.1]?)=(outs.map fun p=>some p.2))
 (h:∀ (σ:Nat->Option Value) (E:Operand->Value) (w:World),Later l σ k->(∀ j,jX o j=true->(σ j).isSome=true)->S σ w->(∀ v,E (.const v)=v)->(∀ f,E (.func f)=.func (.func f) #[] #[])->
  Given R w σ E (aU E (∃ w',(execOp E o).run P w=.ok .skip w'/\R k undef w'/\T w w'/\S (upd σ k undef) w') outs) deps):ig P Q l a0 R S T k o:=by
 intro σ a w m d g x i e
 obtain ⟨w',y,z,A,h4⟩:=gp m e i s u (fE (deps:=deps) d x hd (h σ a.eval w (pG m e) (kH d) g (fun _=>rfl) (fun _=>rfl)))
 exact eT (by simpa using r) n (by unfold Oper.wp;rw [y];exact ⟨undef,rfl,z,A,h4⟩)
theorem vS {k:Nat} {o:Oper} {a:Act} {w:World} {σ:Nat->Option Value} (g:Nat) (t:Tmp) (b c:Bool) (p:o.guard=some (g,c)) (hd:dw l o a0.tmps.size [(g,t)]=true)
 (h:∀ e∈o.after,Region.binds .any e=true->(σ e.on).isSome=true)
 (r:∀ j v,j < l.length->σ j=some v->R j v w/\∀ n t,l[j]?=some n->n.dst=some t->t < a0.tmps.size->a.tmps[t]?=some v)
 (s:∀ v w,R g v w->v=.bool b):Region.wanted o (yielded l.toArray a.tmps)=(b == c):=by
 unfold dw at hd
 simp only [List.all_cons,List.all_nil,Bool.and_true,kE] at hd
 obtain ⟨⟨u,d⟩,x⟩:=hd
 cases hog:l[g]? with
 | none=>rw [hog] at d;cases d
 | some og=>
  rw [hog] at d
  obtain ⟨v,y⟩:=Option.isSome_iff_exists.1 (kH h g u)
  obtain ⟨i,z⟩:=r g v (List.getElem?_eq_some_iff.1 hog).1 y
  have f:=z og t hog (by simpa using d) (by simpa using x)
  have m:og.dst=some t:=by simpa using d
  rw [s v w i] at f
  simp [Region.wanted,p,yielded,hog,m,f]
theorem uB {k:Nat} {o:Oper} (g:Nat) (t:Tmp) (b:Bool) (f:o.guard=some (g,!b)) (h:l[k]?=some o) (hd:dw l o a0.tmps.size [(g,t)]=true) (i:∀ w,T w w) (j:∀ σ v w,S σ w->S (upd σ k v) w)
 (m:∀ v w,R g v w->v=.bool b) (n:∀ w,R k undef w):ig P Q l a0 R S T k o:=by
 intro σ a w p d e r _ _
 have s:Region.wanted o (yielded l.toArray a.tmps)=false:=by
  rw [vS (k:=k) g t b (!b) f hd d r m]
  cases b <;> rfl
 unfold Go.wpOp
 simp only [iZ,h,s,Bool.false_eq_true,if_false]
 exact ⟨undef,rfl,n w,i w,j σ _ w e⟩
theorem lC {k:Nat} {o:Oper} (g:Nat) (t:Tmp) (b:Bool) (s:o.guard=some (g,b)) (u:l[k]?=some o) (hd:dw l o a0.tmps.size [(g,t)]=true)
 (x:∀ v w,R g v w->v=.bool b) (deps:List (Nat×Tmp)) (outs:List (Tmp×Value)) (i:dw l o a0.tmps.size deps=true) (y:gN l k outs=true)
 (z:(outs.map fun p=>a0.tmps[p.1]?)=(outs.map fun p=>some p.2))
 (h:∀ (σ:Nat->Option Value) (a:Act) (w:World),Later l σ k->(∀ j,jX o j=true->(σ j).isSome=true)->S σ w->
  Given R w σ a.eval (aU a.eval (Oper.wp P o a w (fun A w'=>∃ v,A=a.put o.dst v/\R k v w'/\T w w'/\S (upd σ k v) w') Q) outs) deps):ig P Q l a0 R S T k o:=by
 intro σ a w e d m r n f
 have B:Region.wanted o (yielded l.toArray a.tmps)=true:=by
  rw [vS (k:=k) g t b b s hd d r x]
  cases b <;> rfl
 have:=gp e f n y z (fE (deps:=deps) d r i (h σ a w (pG e f) (kH d) m))
 unfold Go.wpOp
 simp only [iZ,u,B,if_true]
 exact .inl this
theorem rR {k:Nat} {o:Oper} (g:Nat) (t:Tmp) (b:Bool) (x:o.guard=some (g,b)) (y:l[k]?=some o) (hd:dw l o a0.tmps.size [(g,t)]=true)
 (z:∀ v w,R g v w->v=.bool b) (deps:List (Nat×Tmp)) (outs:List (Tmp×Value)) (i:dw l o a0.tmps.size deps=true) (s:gN l k outs=true)
 (u:(outs.map fun p=>a0.tmps[p.1]?)=(outs.map fun p=>some p.2)) (A:∀ w,T w w) (B:∀ σ v w,S σ w->S (upd σ k v) w)
 (h:∀ (σ:Nat->Option Value) (E:Operand->Value) (w:World),Later l σ k->(∀ j,jX o j=true->(σ j).isSome=true)->S σ w->(∀ v,E (.const v)=v)->(∀ f,E (.func f)=.func (.func f) #[] #[])->
  Given R w σ E (aU E (∃ v,(execOp E o).run P w=.ok (.value v) w/\R k v w) outs) deps):ig P Q l a0 R S T k o:=by
 refine lC g t b x y hd z deps outs i s u fun σ a w C n m=>?_
 have:=h σ a.eval w C n m (fun _=>rfl) (fun _=>rfl)
 clear i u s
 have D:(∃ v,(execOp a.eval o).run P w=.ok (.value v) w/\R k v w)->Oper.wp P o a w (fun F w'=>∃ v,F=a.put o.dst v/\R k v w'/\T w w'/\S (upd σ k v) w') Q:=by
  rintro ⟨v,H,I⟩
  unfold Oper.wp
  rw [H]
  exact ⟨v,rfl,I,A w,B σ v w m⟩
 have J:∀ {G d:Prop} (f:G->d) {outs:List (Tmp×Value)},aU a.eval G outs->aU a.eval d outs:=fun {G d} f {outs}=>by
  induction outs with
  | nil=>exact f
  | cons p r ih=>exact fun h e=>ih (h e)
 have K:∀ {G d:Prop} (f:G->d) {deps:List (Nat×Tmp)},Given R w σ a.eval G deps->Given R w σ a.eval d deps:=fun {G d} f {deps}=>by
  induction deps with
  | nil=>exact f
  | cons p r ih=>exact fun h v L M e=>ih (h v L M e)
 exact K (J D) this
theorem yP {ops:Array Oper} {i:Nat} {o:Oper} {K:Act->World->Prop} {a:Act} {w w':World} (d:Option Tmp) (u:Value) (e:ops[i]?=some o) (hd:o.dst=d) (f:o.guard=none) (g:(execOp a.eval o).run P w=.ok (.value u) w') (h:K (a.put d u) w'):wpOp P ops Q i K a w:=by
 subst hd
 exact lU u e f g h
theorem fI {o:Oper} {K:Act->World->Prop} {a:Act} {w:World} (f:FuncId) (fn:Func) (j:P.funcs[f]?=some fn) (k:(fn.name == "runtime.NumGoroutine")=false) (m:fn.body.isNone=false) (xs:List Operand) (g:Array TypeId)
 (n:o.op=.call { callee:=.value (.func f),args:=xs.toArray,argTypes:=g }) (d:List Value) (p:xs.map a.eval=d) {i:Ending->World->Prop} (h:Calls P f d.toArray w i)
 (r:∀ e w',i e w'->∃ v,e=.returned v/\K (a.put o.dst v) w'):Oper.wp P o a w K Q:=by
 unfold Oper.wp execOp
 simp only [n,resolve,invoke,Sem.run_bind,Sem.run_pure,Result.andThen_ok,List.map_toArray,p,Act.eval,Deferred.ofValue,Array.append_empty,Array.empty_append,nX _ j k m]
 refine h.mono fun e w' s=>?_
 obtain ⟨v,rfl,u⟩:=r e w' s
 exact u
end
section
variable {P:Program} {Q:Exit->Act->World->Prop} {l:List Oper} {a0:Act} {R:Nat->Value->World->Prop} {S:(Nat->Option Value)->World->Prop} {T:World->World->Prop}
theorem zp {k:Nat} {o:Oper} (deps:List (Nat×Tmp)) (outs:List (Tmp×Value))
  (h:∀ (σ:Nat->Option Value) (E:Operand->Value) (w:World),Later l σ k->(∀ j,jX o j=true->(σ j).isSome=true)->S σ w->(∀ v,E (.const v)=v)->(∀ f,E (.func f)=.func (.func f) #[] #[])->Given R w σ E (aU E (∃ v,(execOp E o).run P w=.ok (.value v) w/\R k v w) outs) deps:=by intro _ _ _ _ _ _ _ _;repeat (first | rintro _ _ rfl _ | intro _);all_goals exact ⟨_,by go_simp,rfl⟩)
  (hg:o.guard=none:=by rfl) (ho:l[k]?=some o:=by rfl) (hd:dw l o a0.tmps.size deps=true:=by kernel_rfl) (hb:gN l k outs=true:=by kernel_rfl) (he:(outs.map fun p=>a0.tmps[p.1]?)=(outs.map fun p=>some p.2):=by rfl)
  (hT:∀ w,T w w:=by first | exact Old.refl' | exact fun _=>trivial | exact fun _=>Fr.refl _ _) (hS:∀ σ v w,S σ w->S (upd σ k v) w:=by first | exact fun _ _ _ h=>h | exact fun σ v w h=>by simpa [upd] using h):ig P Q l a0 R S T k o:=mH deps outs hg ho hd hb he hT hS h
theorem zg {k:Nat} {o:Oper} (g:Nat) (t:Tmp) (b:Bool) (deps:List (Nat×Tmp)) (outs:List (Tmp×Value))
  (h:∀ (σ:Nat->Option Value) (E:Operand->Value) (w:World),Later l σ k->(∀ j,jX o j=true->(σ j).isSome=true)->S σ w->(∀ v,E (.const v)=v)->(∀ f,E (.func f)=.func (.func f) #[] #[])->Given R w σ E (aU E (∃ v,(execOp E o).run P w=.ok (.value v) w/\R k v w) outs) deps:=by intro _ _ _ _ _ _ _ _;repeat (first | rintro _ _ rfl _ | intro _);all_goals exact ⟨_,by go_simp,rfl⟩)
  (hg:o.guard=some (g,b):=by rfl) (ho:l[k]?=some o:=by rfl) (hd:dw l o a0.tmps.size [(g,t)]=true:=by kernel_rfl) (hR:∀ v w,R g v w->v=.bool b:=by exact fun _ _ h=>h) (hd':dw l o a0.tmps.size deps=true:=by kernel_rfl) (hb:gN l k outs=true:=by kernel_rfl) (he:(outs.map fun p=>a0.tmps[p.1]?)=(outs.map fun p=>some p.2):=by rfl)
  (hT:∀ w,T w w:=by first | exact Old.refl' | exact fun _=>trivial) (hS:∀ σ v w,S σ w->S (upd σ k v) w:=by exact fun _ _ _ h=>h):ig P Q l a0 R S T k o:=rR g t b hg ho hd hR deps outs hd' hb he hT hS h
theorem zk {k:Nat} {o:Oper} (g:Nat) (t:Tmp) (b:Bool) (hg:o.guard=some (g,!b):=by rfl) (ho:l[k]?=some o:=by rfl) (hd:dw l o a0.tmps.size [(g,t)]=true:=by kernel_rfl) (hT:∀ w,T w w:=by exact Old.refl') (hS:∀ σ v w,S σ w->S (upd σ k v) w:=by exact fun _ _ _ h=>h)
  (hR:∀ v w,R g v w->v=.bool b:=by exact fun _ _ h=>h) (hk:∀ w,R k undef w:=by exact fun _=>rfl):ig P Q l a0 R S T k o:=uB g t b hg ho hd hT hS hR hk
end
end Go.Proofs.YthihpfpbiajddaaGreat
