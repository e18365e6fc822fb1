/- Parts of the proof. -/
import Derived.Test.YthihpfpbiajddaaGreatHQWorldNobody22
import Derived.Great.Walk
import Derived.Great.BuildSlice
set_option maxRecDepth 100000
set_option maxHeartbeats 8000000
open Go.Proofs.Tryz
namespace Go.Proofs.YthihpfpbiajddaaGreat
open Go.RowKit
theorem bC.Oz {ch:bC} {n:Nat} (h:ch.fits n=true) (f:n<=5):∀ x∈ch.nodes,0<=x/\x < 5:=fun x d=>by
 have e:=List.all_eq_true.1 h x d
 simp only [kE,rJ] at e
 omega
theorem bC.Ig {ch:bC} (h:∀ x∈ch.nodes,0<=x/\x < 5) (n d:Int):-1<=ch.beside n d/\ch.beside n d < 5:=by
 unfold bC.beside
 split
 ·omega
 ·split
  ·omega
  ·rename_i k _ _
   cases e:ch.nodes[((k:Int) + d).toNat]? with
   | none=>show -1<=(-1:Int)/\(-1:Int) < 5;omega
   | some x=>have:=h x (EY e);show -1<=x/\x < 5;omega
theorem bC.OA {ch:bC} (h:∀ x∈ch.nodes,0<=x/\x < 5):-1<=ch.tail/\ch.tail < 5:=by
 unfold bC.tail
 cases e:ch.nodes.getLast? with
 | none=>show -1<=(-1:Int)/\(-1:Int) < 5;omega
 | some x=>have:=h x (List.mem_of_getLast? e);show -1<=x/\x < 5;omega
section
variable {w:World} {own:Nat->Tag} {c i W g k:Nat} {u:bV} {s:NS}
theorem aF.KZ (ok:aF s i k):∀ x∈s.known.nodes,0<=x/\x < 5:=bC.Oz ok.acc.fits ok.conf.n5
theorem aF.zB (ok:aF s i k):-1<=s.bL/\s.bL < 5:=by
 unfold NS.bL
 split
 ·omega
 ·exact bC.OA ok.join.m
def NS.oW (s:NS):Int:=if 0<=s.bL then min (s.n.kept.log.qs.length:Int) (if s.same s.bL then (s.iQ s.bL).n else 0) else s.n.kept.log.qs.length
theorem NS.Es (s:NS):s.advance=if s.n.up=false∨s.known.tail≠s.n.self then s else if 0<=s.known.above s.n.self/\s.same (s.known.above s.n.self)=false then s else s.bD s.oW:=rfl
theorem nO (N:aN w own c i W g u s) (ok:aF s i (k + 2)) (T:iL s.n.kept.log) :
 aS 138 #[g] w (fO w own c i W g u s.advance):=by
 obtain ⟨p,U⟩:=N.ex
 have h3:aV w (fun k=>own k=bM c i 3) (fun k=>own k=aB) W g p s.n:=aV.ub (U.at_ 3)
 have H3:=aa h3
 have HS:=aa N.self
 obtain ⟨ke,kn,hk⟩:∃ ke kn,s.known=⟨ke,kn⟩:=⟨_,_,rfl⟩
 obtain ⟨m,hm⟩:=aR (kn.length)
 have K:m<=5:=Di
 have cK:=aa (fun W' (r:Old w W')=>zu (N.old r) (base:=w.heap.size) r.size hk hm K)
 have h6:eZ w p.lg (fun k=>own k=bM c i 6) s.n.kept.log:=U.at_ 6
 obtain ⟨up,V⟩:=aR (s.n.up)
 obtain ⟨B,G⟩:=aR (s.known.tail)
 have C:kn.getLast?.getD (-1)=B:=by rw [<- G,hk];rfl
 obtain ⟨x,z⟩:=aR (s.known.above i)
 have D:bC.above ⟨ke,kn⟩ i=x:=by rw [<- z,hk]
 have M:-1<=x/\x < 5:=by rw [<- z];exact bC.Ig ok.KZ _ _
 obtain ⟨S,H⟩:=aR (s.same x)
 obtain ⟨jo,hjo⟩:=aR (s.bL)
 have O:-1<=jo/\jo < 5:=hjo▸ok.zB
 obtain ⟨sj,I⟩:=aR (s.same jo)
 obtain ⟨L,X⟩:=aR (s.n.kept.log.qs.length)
 have hL5:L<=50000:=by have:=ok.log.few;omega
 have cT:=aa (fun W' A q (h:aP W' A kn)=>yL ke A m q kn B hm.symm af C W' h)
 have Y:=aa (fun W' A q (h:aP W' A kn)=>RQ ke A m q kn i x hm.symm af D W' h)
 have Z:=aa (fun W' (r:Old w W')=>FM (N.old r) ok x M.2 S H)
 have cSj:=aa (fun W' (r:Old w W')=>FM (N.old r) ok jo O.2 sj I)
 have cJ:=aa (fun W' (r:Old w W')=>sQ (N.old r) ok jo hjo)
 have cLen:=aa (fun W' (r:Old w W')=>AM p.lg _ s.n.kept.log L X W' (h6.old r))
 have Q8:=aa (fun W' (r:Old w W')=>KY (N.old r) ok T s.oW)
 have Gs:=aa (show s.oW=if 0<=jo then min (L:Int) (if sj then (s.iQ jo).n else 0) else L by unfold NS.oW;rw [hjo,I,X])
 have d:=aa (show s.advance=if up=false∨B≠(i:Int) then s else if 0<=x/\S=false then s else s.bD s.oW by rw [NS.Es,V,G,N.self,z,H])
 have HU:=aa V
 have c1:=cK.o w (Old.refl' w)
 have hN:=aa N
 clear h3 U ok hk hm K h6 V G C z D H hjo I X cK N
 have N:=hN.o
 have HN:=aa N
 clear hN
 clear N
 cases up with
 | false=>
  have HR:=aa (show s.advance=s by rw [d.o,if_pos (.inl rfl)])
  go_enter func138,ntmps138
  go_wp2_with fail
  refine c1.mono ?_
  rintro e w1 ⟨_,rfl,⟨A,q,rfl,j⟩,F⟩
  obtain ⟨w2,f⟩:∃ w2,w2=w1.alloc (.cells #[zi ke,.slice A m q] 59):=⟨_,rfl⟩
  have y:Old w1 w2:=f▸(Old.refl' w1).ag _
  have X0:=aa (show Bk w2 w1.heap.size 59 #[zi ke,.slice A m q] from f▸Bk.new w1 59 _)
  have O2:=aa (F.trans' y)
  have HO:=aa (bF j y)
  clear j F y c1
  go_wp2_with fail
  rw [<- f]
  clear f
  refine bG Old w2 [.val g,.val g,.val (av g 2),.val (.bool false),.val (.bool true),.val (.bool true),.val (undef),.val (undef),.val (undef),.val (undef),.val (undef),.val (undef),.val (undef),.val (.bool true)] ((Old.refl' _).drew') ?st ?en
  case st=>
   refine .cons (sp [] [(0,g)] ?_)<|.cons (sp [(0,9)] [] ?_)<|.cons (sp [(1,10)] [] ?_)<|.cons (sp [(2,11)] [] ?_)<|.cons (sp [(3,12)] [] ?_)<|.cons (sp [(4,13)] [] ?_)<|.cons (sk 5 14 true)<|.cons (sk 5 14 true)<|.cons (sk 5 14 true)<|.cons (sk 5 14 true)<|.cons (sk 5 14 true)<|.cons (sk 5 14 true)<|.cons (sk 5 14 true)<|.cons (sp [(5,14),(12,21)] [] ?_)<|.nil
   all_goals
    intro E w' hS hc hf
    obtain ⟨u0,u1,u2,u3,u4,u5,u6,u8,u9,dF,dD,dK,eu,aX,ug⟩:=(H3.o.old (O2.o.trans' hS)).c HS.o
    obtain ⟨x0,x1,x2,x3,x4⟩:=bk2 (X0.o.old hS)
    rw [HU.o] at u2
    repeat intro _
    exact ⟨_,dP,rfl⟩
  case en=>exact UK
 | true=>
  by_cases J:B=(i:Int)
  ·have k2:(B != (i:Int))=false:=by simp [J]
   have d:=aa (show s.advance=if 0<=x/\S=false then s else s.bD s.oW by rw [d.o,if_neg (by simp [J])])
   clear J
   go_enter func138,ntmps138
   go_wp2_with fail
   refine c1.mono ?_
   rintro e w1 ⟨_,rfl,⟨A,q,rfl,j⟩,F⟩
   obtain ⟨w2,f⟩:∃ w2,w2=w1.alloc (.cells #[zi ke,.slice A m q] 59):=⟨_,rfl⟩
   have y:Old w1 w2:=f▸(Old.refl' w1).ag _
   have X0:=aa (show Bk w2 w1.heap.size 59 #[zi ke,.slice A m q] from f▸Bk.new w1 59 _)
   have O2:=aa (F.trans' y)
   have HO:=aa (bF j y)
   clear j F y c1
   go_wp2_with fail
   rw [<- f]
   clear f
   refine bG Old w2 [.val g,.val g,.val (av g 2),.val (.bool true),.val (.bool false),.val (.bool false),.val (.agg #[zi ke,.slice A m q]),.val (zi B),.val g,.val g,.val (av g 1),.val (zi i),.val (.bool false),.val (.bool false)] ((Old.refl' _).drew') ?st ?en
   case st=>exact Ux
   case en=>
    intro jA w9 nT
    iterate 14 refine Ends.eqv _ _ rfl (fun _ h=>h) ?_
    refine Ends.nil ?_
    simp only [aC,ax,fM,fJ]
    have O4:=aa (O2.o.trans' nT)
    have X4:=aa (X0.o.old nT)
    have P:=aa (bF HO.o nT)
    obtain ⟨w4,rfl⟩:∃ w4,w4=w9:=⟨_,rfl⟩
    clear nT X0 HO O2
    go_wp2_with fail
    refine bG Old w4 [.val (.agg #[zi ke,.slice A m q]),.val g,.val g,.val (av g 1),.val (zi i),.val (zi x),.val (zi x)] ((Old.refl' _).drew') ?st ?en
    case st=>
     refine .cons (sp [] [(2,w1.heap.size)] ?_)<|.cons (sp [] [(0,g)] ?_)<|.cons (sp [(1,24)] [] ?_)<|.cons (sp [(2,25)] [] ?_)<|.cons (sp [(3,26)] [] ?_)<|.cons (sc 180 func180 [(0,23),(4,27)] [] _ ?c5)<|.cons (sp [(5,28)] [] ?_)<|.nil
     case c5=>
      intro E w' hS hc
      rintro e23 e27
      exact ⟨_,jQ,.of (Y.o w' A q (ah.bA (bF P.o hS))) fun e w2 h=>⟨_,h.1,rfl,h.2⟩⟩
     all_goals
      intro E w' hS hc hf
      obtain ⟨u0,u1,u2,u3,u4,u5,u6,u8,u9,dF,dD,dK,eu,aX,ug⟩:=(H3.o.old (O4.o.trans' hS)).c HS.o
      obtain ⟨x0,x1,x2,x3,x4⟩:=bk2 (X4.o.old hS)
      rw [HU.o] at u2
      repeat intro _
      exact ⟨_,dP,rfl⟩
    case en=>
     intro jA w9 nT
     iterate 7 refine Ends.eqv _ _ rfl (fun _ h=>h) ?_
     refine Ends.nil ?_
     simp only [aC,ax,fM,fJ]
     have n:=aa (O4.o.trans' nT)
     clear nT X4 P O4
     by_cases ha0:0<=x
     ·have l:=aa (Z.o w9 n.o)
      cases S with
      | true=>
       have HR:=aa (show s.advance=s.bD s.oW by rw [d.o,if_neg bE])
       go_wp2_with fail
       refine l.o.mono ?_
       rintro e w5 ⟨rfl,R⟩
       have O5:=aa (n.o.trans' R)
       clear R l n d
       by_cases hj0:0<=jo
       ·exact Uq
       ·exact Uw
      | false=>
       have HR:=aa (show s.advance=s by rw [d.o,if_pos ⟨ha0,rfl⟩])
       go_wp2_with fail
       refine l.o.mono ?_
       rintro e w5 ⟨rfl,R⟩
       have O5:=aa (n.o.trans' R)
       clear R l
       go_wp2
       go_end0
       exact ⟨rfl,own,by rw [HR.o];exact HN.o.old O5.o,HN.o.qQ O5.o⟩
     ·have HR:=aa (show s.advance=s.bD s.oW by rw [d.o,if_neg af])
      have O5:=aa n.o
      obtain ⟨w5,rfl⟩:∃ w5,w5=w9:=⟨_,rfl⟩
      clear n d
      by_cases hj0:0<=jo
      ·exact Uq
      ·exact Uw
  ·have k2:(B != (i:Int))=true:=by simp [J]
   have HR:=aa (show s.advance=s by rw [d.o,if_pos (.inr J)])
   clear J
   go_enter func138,ntmps138
   go_wp2_with fail
   refine c1.mono ?_
   rintro e w1 ⟨_,rfl,⟨A,q,rfl,j⟩,F⟩
   obtain ⟨w2,f⟩:∃ w2,w2=w1.alloc (.cells #[zi ke,.slice A m q] 59):=⟨_,rfl⟩
   have y:Old w1 w2:=f▸(Old.refl' w1).ag _
   have X0:=aa (show Bk w2 w1.heap.size 59 #[zi ke,.slice A m q] from f▸Bk.new w1 59 _)
   have O2:=aa (F.trans' y)
   have HO:=aa (bF j y)
   clear j F y c1
   go_wp2_with fail
   rw [<- f]
   clear f
   refine bG Old w2 [.val g,.val g,.val (av g 2),.val (.bool true),.val (.bool false),.val (.bool false),.val (.agg #[zi ke,.slice A m q]),.val (zi B),.val g,.val g,.val (av g 1),.val (zi i),.val (.bool true),.val (.bool true)] ((Old.refl' _).drew') ?st ?en
   case st=>exact Ux
   case en=>exact UK
end
section
variable {P:Program} {Q:Exit->Act->World->Prop} {l:List Oper} {a a0:Act} {W0:World}
theorem Ih (i:(Nat->Option Value)->World->Prop) (T:World->World->Prop) {id:Nat} {w:World} (n:Nat) (Rs:List RR) (h0:i (fun _=>none) w.drew) [hs:Fe T Rs]
 (steps:aH (ig P Q l a (bQ Rs) i T) 0 (l.take n))
 (ends:∀ σ w',i σ w'->(∀ k,k < n->(σ k).isSome=true)->Ends (bQ Rs) w' σ (fun a'=>wpList P l.toArray Q (l.drop n) a' w') 0 (l.take n) a)
 (u:P.follows .mixedOrders=true:=by kernel_rfl) (hok:fU l=true:=by kernel_rfl) (s:(jB l).all (fun t=>decide (t < a.tmps.size))=true:=by kernel_rfl) (p:decide (n<=l.length)=true:=by kernel_rfl) (ht:qG l n=true:=by kernel_rfl) :
 (Code.region id l.toArray true).wp P Q a w:=by
 have hn:(jB l).Nodup:=zR
 have d:n<=l.length:=by simpa using p
 refine wp_region_any u ?_
 have x:∀ k,bW l (fun _=>none) a k=a:=fun k=>MX
 have:=qH (P:=P) (Q:=Q) (a:=a) hok n d ht (fun σ w'=>i σ w'/\(∀ j v,σ j=some v->bQ Rs j v w')/\(∀ j oj,l[j]?=some oj->(σ j).isSome=true->∀ e∈oj.after,Region.binds .any e=true->(σ e.on).isSome=true)) ?_ ?_ l.length (Array.replicate l.length false) (fun _=>none) w.drew bE (fun k hk=>by simp [hk]) (fun _ _=>rfl) (fun j oj _ h=>by simp at h) bE ⟨h0,(fun j v h=>by cases h),fun j oj _ h=>by simp at h⟩
 ·rw [x] at this
  simpa using this
 ·exact Q9
 ·rintro σ w' f g ⟨hS1,hR,-⟩
  have hlt:(l.take n).length=n:=by rw [vB];omega
  rw [nC (m:=l.length) (n:=n) d g]
  have e:bW l σ a n=bW (l.take n) σ a n:=Rj
  rw [e]
  have:=nu (G:=fun a'=>wpList P l.toArray Q (l.drop n) a' w') (l.take n) [] (ends σ w' hS1 f) (fun k hk=>by
   have r:k < n:=by simp at hk;omega
   cases hv:σ k with
   | none=>have:=f k r;rw [hv] at this;simp at this
   | some v=>exact ⟨v,rfl,hR k v hv⟩)
  rw [qz,hlt] at this
  exact this
def BC (W0:World) (c:Nat) (Qc:World->World->Prop) (σ:Nat->Option Value) (w:World):Prop:=match σ c with
 | none=>Old W0 w
 | some _=>∃ x y,Old W0 x/\Qc x y/\Old y w
variable {D:Nat->Prop} {c k:Nat} {Qc:World->World->Prop} {Rs:List RR} {o:Oper}
theorem BC.fr {σ:Nat->Option Value} {w:World} (h:BC W0 c Qc σ w) (d:∀ x y,Qc x y->Fr D x y):Fr D W0 w:=by
 unfold BC at h
 split at h
 ·exact Fr.aj h
 ·obtain ⟨x,y,e,f,g⟩:=h
  exact (Fr.aj e).trans ((d x y f).trans (Fr.aj g))
theorem BC.step {σ:Nat->Option Value} {w w':World} {v:Value} (h:BC W0 c Qc σ w) (f:k≠c) (d:Old w w'):BC W0 c Qc (upd σ k v) w':=by
 have e:upd σ k v c=σ c:=by unfold upd;rw [if_neg (Ne.symm f)]
 unfold BC at h ⊢
 rw [e]
 split at h
 ·exact h.trans' d
 ·obtain ⟨x,y,g,i,j⟩:=h
  exact ⟨x,y,g,i,j.trans' d⟩
abbrev T9 (D:Nat->Prop) (c:Nat) (Qc:World->World->Prop) (P:Program) (Q:Exit->Act->World->Prop) (l:List Oper) (a0:Act) (Rs:List RR) (W0:World):Nat->Oper->Prop:=ig P Q l a0 (bQ Rs) (BC W0 c Qc) (Fr D)
theorem sp1 (e:∀ x y,Qc x y->Fr D x y) (deps:List (Nat×Tmp)) (outs:List (Tmp×Value))
 (h:∀ (E:Operand->Value) (w:World),Fr D W0 w->(∀ v,E (.const v)=v)->(∀ f,E (.func f)=.func (.func f) #[] #[])->Gv Rs w E (aU E (∃ v,(execOp E o).run P w=.ok (.value v) w/\bQ Rs k v w) outs) deps)
 (d:k≠c:=by decide) (g:o.guard=none:=by rfl) (i:l[k]?=some o:=by rfl) (hd:dw l o a0.tmps.size deps=true:=by kernel_rfl) (j:gN l k outs=true:=by kernel_rfl)
 (m:(outs.map fun p=>a0.tmps[p.1]?)=(outs.map fun p=>some p.2):=by rfl):T9 D c Qc P Q l a0 Rs W0 k o:=
 mH deps outs g i hd j m (Fr.refl D) (fun _ _ w h=>h.step d (Old.refl' w)) (fun σ E w _ _ n r s=>gq (h E w (n.fr e) r s))
theorem Et (F:∀ x y,Qc x y->Fr D x y) (f:FuncId) {fn:Func} (G:P.funcs[f]?=some fn) (deps:List (Nat×Tmp)) (outs:List (Tmp×Value)) (xs:List Operand) {g:Array TypeId}
 (h:∀ (E:Operand->Value) (w:World),Old W0 w->(∀ v,E (.const v)=v)->Gv Rs w E (aU E (∃ d,xs.map E=d/\Calls P f d.toArray w (fun e w'=>∃ v,e=.returned v/\bQ Rs k v w'/\Qc w w')) outs) deps)
 (i:k=c:=by rfl) (j:o.op=.call { callee:=.value (.func f),args:=xs.toArray,argTypes:=g }:=by rfl)
 (H:(fn.name == "runtime.NumGoroutine")=false:=by kernel_rfl) (m:fn.body.isNone=false:=by kernel_rfl)
 (I:o.guard=none:=by rfl) (J:l[k]?=some o:=by rfl) (hd:dw l o a0.tmps.size deps=true:=by kernel_rfl) (K:gN l k outs=true:=by kernel_rfl)
 (n:(outs.map fun p=>a0.tmps[p.1]?)=(outs.map fun p=>some p.2):=by rfl):T9 D c Qc P Q l a0 Rs W0 k o:=by
 intro σ a w A r s L u z
 have B:Old W0 w:=by
  unfold BC at s
  rw [<- i,A] at s
  exact s
 obtain ⟨d,M,N⟩:=gp A z u K n (fE (deps:=deps) r L hd (gq (h a.eval w B (fun _=>rfl))))
 refine eT (by simpa using J) I (fI f fn G H m xs g j d M N (fun e w' ⟨v,n,O,C⟩=>⟨v,n,v,rfl,O,F _ _ C,?_⟩))
 unfold BC
 have e:upd σ k v c=some v:=by unfold upd;rw [if_pos i.symm]
 rw [e]
 exact ⟨w,w',B,C,Old.refl' w'⟩
theorem qo (D:Nat->Prop) (c:Nat) (Qc:World->World->Prop) {id:Nat} {w:World} (n:Nat) (j:c < n) (W0:World) (Rs:List RR) (h0:Old W0 w.drew) [hs:Fe (Fr D) Rs]
 (steps:aH (T9 D c Qc P Q l a Rs W0) 0 (l.take n))
 (ends:∀ σ w' x y,Old W0 x->Qc x y->Old y w'->Ends (bQ Rs) w' σ (fun m=>wpList P l.toArray Q (l.drop n) m w') 0 (l.take n) a)
 (p:P.follows .mixedOrders=true:=by kernel_rfl) (g:fU l=true:=by kernel_rfl) (d:(jB l).all (fun t=>decide (t < a.tmps.size))=true:=by kernel_rfl) (h:decide (n<=l.length)=true:=by kernel_rfl) (r:qG l n=true:=by kernel_rfl) :
 (Code.region id l.toArray true).wp P Q a w:=
 Ih (BC W0 c Qc) (Fr D) n Rs h0 steps (fun σ w' hI f=>by
  have i:=f c j
  unfold BC at hI
  split at hI
  ·rename_i e;rw [e] at i;cases i
  ·obtain ⟨x,y,s,u,h4⟩:=hI
   exact ends σ w' x y s u h4) p g d h r
end
def SA (D:Nat->Prop) (base:Nat) (e:TypeId) (n:Nat) (xs:List Value) (v:Value) (w:World):Prop:=(∃ A c,v=.slice A n c/\w.ownsRow base e 1 (.slice A n c) n xs)/\∀ k,base<=k->¬ D k
instance (D:Nat->Prop) (base:Nat) (e:TypeId) (n:Nat) (xs:List Value):uT (Fr D) (SA D base e n xs):=⟨fun _ _ _ ho ⟨⟨A,c,e,h⟩,hD⟩=>⟨⟨A,c,e,dh h ho fun k hk=>hD k (h.lt k hk).1⟩,hD⟩⟩
structure KI (w W:World) (h:Nat) (nd cl qu:Int) (a:dY) (l:dW) (j:bC) (ga gl:Nat) (JA:Option Addr) (jq:Nat) (FA FL FJ:Nat->Prop):Prop where
 o:Old w W
 h0:w.heap.size<=h
 bx:Bk W h 23 #[zi nd,zi cl,zi qu]
 rs:Bk W (h + 1) 100 #[.pointer none,.pointer none,zi 0,aQ]
 kc:Bk W (h + 1 + 1) 100 #[ga,av gl 0,zi j.az,.slice JA j.nodes.length jq]
 acc:iy W (fun k=>k=ga) FA ga a
 log:eZ W gl FL l
 jn:fD W FJ JA j.nodes
 jl:j.nodes.length<=jq
 dA:∀ k,FA k∨k=ga->h + 2 < k/\¬ FL k
 dJ:∀ k,FJ k->h + 2 < k/\¬ FL k/\k≠ga
 dL:∀ k,FL k->h + 2 < k
 lA:∀ k,FA k->k < W.heap.size
 lJ:∀ k,FJ k->k < W.heap.size
section
variable {w W W':World} {h:Nat} {nd cl qu:Int} {a a':dY} {l l':dW} {j j':bC} {ga gl ga':Nat} {JA JA':Option Addr} {jq jq':Nat} {FA FL FJ FL':Nat->Prop}
end
def K3 (nd:Nat) (k:oN) (b:List Int):oN:=match b with
 | 97 :: b=>match Fg nd b with
  | some a=>{ k with acc:=a }
  | none=>k
 | 101 :: b=>match qY b with
  | some q=>{ k with log:=k.log.put q }
  | none=>k
 | 106 :: b=>{ k with join:=(fF b).getD .zero }
 | _=>k
def sS (nd:Nat) (qu:Int) (recs:List (List Int)):oN:=recs.foldl (K3 nd) ⟨.new nd,dW.new qu,.zero⟩
theorem CK (c:dZ) (d:List (List Int)):mO c d=sS c.nodes c.aI d:=by
 unfold mO sS
 congr 1
structure KF (w W:World) (k:oN) (ga gl:Nat) (JA:Option Addr) (jq:Nat) (FA FL FJ:Nat->Prop):Prop where
 o:Old w W
 acc:iy W (fun x=>x=ga) FA ga k.acc
 log:eZ W gl FL k.log
 jn:fD W FJ JA k.join.nodes
 jl:k.join.nodes.length<=jq
 dA:∀ x,FA x∨x=ga->w.heap.size<=x/\¬ FL x
 dJ:∀ x,FJ x->w.heap.size<=x/\¬ FL x/\x≠ga
 dL:∀ x,FL x->w.heap.size<=x
theorem KI.fin {w W W':World} {h:Nat} {j l m:Int} {K:oN} {g i:Nat} {JA:Option Addr} {jq:Nat} {FA FL FJ:Nat->Prop} (k:KI w W h j l m K.acc K.log K.join g i JA jq FA FL FJ) (f:Fr (fun x=>x=h + 1) W W'):KF w W' K g i JA jq FA FL FJ:=by
 have n:=k.h0
 refine ⟨((Fr.aj (S:=fun _=>False) k.o).trans' f (fun x d e=>af)).old,k.acc.fr f ?_,k.log.fr f ?_,k.jn.fr f ?_,k.jl,fun x d=>⟨by have:=(k.dA x d).1;omega,(k.dA x d).2⟩,fun x d=>⟨by have:=(k.dJ x d).1;omega,(k.dJ x d).2⟩,fun x d=>by have:=k.dL x d;omega⟩
 ·rintro x (rfl | ⟨d,-⟩) e
  ·have:=(k.dA _ (.inr rfl)).1;omega
  ·have:=(k.dA x (.inl d)).1;omega
 ·intro x d e;have:=k.dL x d;omega
 ·intro x d e;have:=(k.dJ x d).1;omega
section
variable {w:World} {own:Nat->Tag} {c i W g k:Nat} {u:bV} {s:NS}
theorem SB (N:aN w own c i W g u s) (ok:aF s i k) (q:aG) :
 aS 182 #[g,.agg #[zi q.client,zi q.seq,zi q.kind,zi q.id,zi q.eD,.string q.data]] w (fO w own c i W g u (s.entry q)):=by
 obtain ⟨p,x⟩:=N.ex
 have J:aV w (fun k=>own k=bM c i 3) (fun k=>own k=aB) W g p s.n:=aV.ub (x.at_ 3)
 have X:=aa J
 have Y:=aa N.self
 have h4:fA w (fun k=>own k=bM c i 4) p.dk s.n.disk:=x.at_ 4
 obtain ⟨K,h⟩:=aR ((qC q).length)
 have n:=nM q
 obtain ⟨L,j⟩:=aR (q.q.may)
 have C:=vH q
 rw [j] at C
 have M:=(Old.refl' w).ag (.cells #[zi q.client,zi q.seq,zi q.kind,zi q.id,zi q.eD,.string q.data] 36)
 have O:=Bk.new w 36 #[zi q.client,zi q.seq,zi q.kind,zi q.id,zi q.eD,.string q.data]
 obtain ⟨x0,x1,x2,Z,x4,x5,xl⟩:=Sw O
 have D:=aa (Ch q.client q.seq q.kind q.id q.eD q.data _ L K j C h (w.alloc (.cells #[zi q.client,zi q.seq,zi q.kind,zi q.id,zi q.eD,.string q.data] 36)))
 obtain ⟨eq,heq⟩:∃ e:Int,(if L then 0 else 1)=e:=⟨_,rfl⟩
 rw [heq] at D
 have P:=aa (fun W' (z:Old w W') A ca (hA:ah W' A (eB (qC q)))=>aax p.dk _ s.n.disk 101 af A K ca (qC q) h.symm af (pV q) (by have:=ok.disk.len;omega) W' (h4.old z) hA)
 have R:=aa (fun W' (z:Old w W') B F' (E:fA B F' p.dk (s.n.disk.put 101 (qC q))) (l:jH W' (fun k=>own k=bM c i 4) F') (m:Fr (fun k=>own k=bM c i 4) W' B)=>aN.KW x N E (fun y hy=>(l y hy).imp id (ic z.size)) ((Fr.aj z).trans m))
 have S:=aa M
 clear J h4 x N ok h n j C heq O M
 go_enter func182,ntmps182
 go_wp2_with fail
 refine D.o.mono ?_
 rintro e w1 ⟨A,ca,rfl,f,T⟩
 have F:=aa (S.o.trans' T)
 have G:=aa (P.o w1 F.o A ca (ah.bA f))
 have H:=aa (fun B F' E l m=>R.o w1 F.o B F' E l m)
 obtain ⟨u0,u1,u2,u3,u4,u5,u6,u8,u9,dF,dD,dK,eu,aX,ug⟩:=(X.o.old F.o).c Y.o
 clear u0 u1 u2 u4 u5 u6 u8 u9 dF dD dK eu aX
 clear f T D P R x0 x1 x2 Z x4 x5 xl S
 go_wp2_with fail
 refine G.o.mono ?_
 rintro e I ⟨rfl,⟨F',U,l⟩,m⟩
 obtain ⟨d,V,r⟩:=H.o I F' U l m
 have HF:=aa (⟨d,V,r⟩:∃ d,aN I d c i W g u (s.entry q)/\fT w own c i I d)
 clear V r U l m
 go_wp2_with fail
 go_end0
 exact ⟨rfl,HF.o⟩
end
section
variable {w:World} {own:Nat->Tag} {c i W g k:Nat} {u:bV} {s:NS}
theorem aN.qh {p:iC} (d:eF w own (bM c i) (oO u W g p s)) (N:aN w own c i W g u s) (j:Int):aN (w.setCell ⟨g,192,none⟩ (zi j)) own c i W g u (s.aZ fun n=>{ n with well:=j })/\fT w own c i (w.setCell ⟨g,192,none⟩ (zi j)) own:=
 aN.set1 d N.i5 N.dQ (n':={ s.n with well:=j }) N.self 192 _ af (fun _=>rfl) (fun J x e=>by
  by_cases h:x=192
  ·exact absurd h e
  ·unfold jM
   split <;> first | rfl | omega) rfl rfl rfl (fun _=>False) (fun q f _=>by
  match q with
  | 3=>exact absurd rfl f
  | 0 | 1 | 2 | 4 | 5 | 6 | 7 | 8 | 9 | 10 | 11 | 12=>rfl
  | q + 13=>rfl) (fun _ h=>h.elim)
theorem aN.setLast {p:iC} (d:eF w own (bM c i) (oO u W g p s)) (N:aN w own c i W g u s) (j:Int):aN (w.setCell ⟨g,11,none⟩ (zi j)) own c i W g u (s.aZ fun n=>{ n with last:=j })/\fT w own c i (w.setCell ⟨g,11,none⟩ (zi j)) own:=
 aN.set1 d N.i5 N.dQ (n':={ s.n with last:=j }) N.self 11 _ af (fun _=>rfl) (fun J x e=>by
  by_cases h:x=11
  ·exact absurd h e
  ·unfold jM
   split <;> first | rfl | omega) rfl rfl rfl (fun _=>False) (fun q f _=>by
  match q with
  | 3=>exact absurd rfl f
  | 0 | 1 | 2 | 4 | 5 | 6 | 7 | 8 | 9 | 10 | 11 | 12=>rfl
  | q + 13=>rfl) (fun _ h=>h.elim)
theorem aN.K4 {p:iC} (f:eF w own (bM c i) (oO u W g p s)) (N:aN w own c i W g u s):aN (w.setCell ⟨g,191,none⟩ (.pointer none)) own c i W g u (s.aZ fun n=>{ n with p:=none })/\fT w own c i (w.setCell ⟨g,191,none⟩ (.pointer none)) own:=
 aN.set1 f N.i5 N.dQ (n':={ s.n with p:=none }) N.self 191 _ af (fun _=>rfl) (fun J x d=>by
  by_cases h:x=191
  ·exact absurd h d
  ·unfold jM
   split <;> first | rfl | omega) rfl rfl rfl (fun q=>q=11) (fun q e j=>by
  match q with
  | 3=>exact absurd rfl e
  | 11=>exact absurd rfl j
  | 0 | 1 | 2 | 4 | 5 | 6 | 7 | 8 | 9 | 10 | 12=>rfl
  | q + 13=>rfl) (fun q e=>by
  subst e
  exact ⟨af,fun w h=>(⟨(show AR w _ _ p.pr s.n.p from h).1,fun x d=>by cases d⟩:AR w _ _ p.pr none)⟩)
end
theorem xy {w:World} {g:Nat} {M:Array Value} (h:Bk w g 110 M):∀ (j:Nat) v,M[j]?=some v->w.cell? ⟨g,0 + j,none⟩=some v:=fun j v d=>by rw [mE,h.cell j];exact d
section
variable {w:World} {own:Nat->Tag} {c i W g k:Nat} {u:bV} {s:NS}
end
section
variable {w:World} {own:Nat->Tag} {c i W g k:Nat} {u:bV} {s:NS}
theorem xz (N:aN w own c i W g u s) (ok:aF s i k) (m:aO) (M:Array Value) (O:fe w own m M) (s':NS)
 (D:∀ W' J,aN W' own c i W g u s->fe W' own { m with known:=s.known } J->aS 73 #[g,zi i,.agg J] W' (fO W' own c i W g u s')) :
 aS 134 #[g,zi i,.agg M] w (fO w own c i W g u s'):=by
 obtain ⟨p,hp⟩:=N.ex
 have h3:aV w (fun k=>own k=bM c i 3) (fun k=>own k=aB) W g p s.n:=aV.ub (hp.at_ 3)
 have P:=aa h3
 have R:=aa N.self
 obtain ⟨ke,kn,hk⟩:∃ ke kn,s.known=⟨ke,kn⟩:=⟨_,_,rfl⟩
 obtain ⟨F,hm⟩:=aR (kn.length)
 have S:F<=5:=Di
 have hMs:=O.size
 have K:=(Old.refl' w).ag (.cells M 110)
 have cK:=aa (zu (N.old K) (base:=(w.alloc (.cells M 110)).heap.size) (dN _) hk hm S)
 have X0:=aa (Bk.new w 110 M)
 have HM:=aa O
 have OB:=aa K
 have G:=aa N.top
 have H:=aa (fun W' (hW:Old w W') J T=>D W' J (N.old hW) T)
 rw [hk] at H
 have HN:=aa N
 obtain ⟨u0,u1,u2,u3,u4,u5,u6,u8,u9,dF,dD,dK,eu,aX,U⟩:=(P.o.old K).c R.o
 have V:=aa hm
 clear u0 u2 u3 u4 u5 u6 u8 u9 dF dD dK eu aX h3 hp N ok hk hm O K D
 go_enter func134,ntmps134
 go_wp2_with fail
 refine cK.o.mono ?_
 rintro e w2 ⟨_,rfl,⟨A,q,rfl,d⟩,X⟩
 have r:=X0.o.old X
 have hbl:w.heap.size < w2.heap.size:=r.lt
 have x1f:=r.frozen 1
 have x2f:=r.frozen 2
 have x1:=r.cell 1
 have x2:=r.cell 2
 rw [Array.getElem?_eq_getElem af] at x1 x2
 obtain ⟨x,f⟩:∃ x,x=(w2.setCell ⟨w.heap.size,1,none⟩ (zi ke)).setCell ⟨w.heap.size,2,none⟩ (.slice A F q):=⟨_,rfl⟩
 obtain ⟨l,z⟩:∃ l,l=(M.setIfInBounds 1 (zi ke)).setIfInBounds 2 (.slice A F q):=⟨_,rfl⟩
 have X2:=aa (show Bk x w.heap.size 110 l from f▸z▸(r.bH 1 _).bH 2 _)
 have L:Old w x:=f▸((OB.o.trans' X).aJ (p:=⟨w.heap.size,1,none⟩) (dN _) _).aJ (p:=⟨w.heap.size,2,none⟩) (dN _) _
 have j:x.ownsRow (w.alloc (.cells M 110)).heap.size 3 1 (.slice A F q) F (kn.map (Value.int .i64)):=f▸bz (bz d (by intro e;have h:_<=w.heap.size:=(d.lt _ e).1;simp only [jW] at h;omega) _) (by intro e;have h:_<=w.heap.size:=(d.lt _ e).1;simp only [jW] at h;omega) _
 have B:fe x own { m with known:=⟨ke,kn⟩ } l:=by
  rw [z]
  exact fe.known (HM.o.old L) (qN.new (e:=3) V.o.symm af j fun y hy=>G.o y (by simp at hy;omega))
 have Y:=aa (show l.size=34 from B.size)
 have Z:=aa L
 have HMS:=aa B
 obtain ⟨u0,u1,u2,u3,u4,u5,u6,u8,u9,dF,dD,dK,eu,aX,U⟩:=(P.o.old L).c R.o
 rw [f] at u1 U
 clear u0 u2 u3 u4 u5 u6 u8 u9 dF dD dK eu aX B j d X r L
 go_wp2_with fail
 rw [<- f]
 clear f z
 refine kI Old 6 x [.val g,.val g,.val g,.val (av g 1),.val (zi i),.val (.agg l)] ((Old.refl' _).drew') ?st ?en
 case st=>
  refine .cons (sp [] [(0,g)] ?_)<|.cons (sp [] [(0,g)] ?_)<|.cons (sp [(1,16)] [] ?_)<|.cons (sp [(2,17)] [] ?_)<|.cons (sp [(3,18)] [] ?_)<|.cons (sp [] [(5,w.heap.size)] ?c5)<|.nil
  case c5=>
   intro E w' hS hc hf
   rintro e5
   exact ⟨_,eH 110 _ rfl w.heap.size 0 l _ (by assumption) (xy (X2.o.old hS)) underlying110 rfl (by rw [Y.o];exact xx),rfl⟩
  all_goals
   intro E w' hS hc hf
   obtain ⟨u0,u1,u2,u3,u4,u5,u6,u8,u9,dF,dD,dK,eu,aX,U⟩:=(P.o.old (Z.o.trans' hS)).c R.o
   repeat intro _
   exact ⟨_,dP,rfl⟩
 case en=>
  intro jA w9 C
  iterate 6 refine Ends.eqv _ _ rfl (fun _ h=>h) ?_
  refine Ends.nil ?_
  simp only [aC,ax,fM,fJ]
  have cO:=aa (H.o w9 (Z.o.trans' C) l (HMS.o.old C))
  have Zl:=aa (Z.o.trans' C)
  go_wp2_with fail
  refine cO.o.mono ?_
  rintro e w8 ⟨rfl,I,n8,d8⟩
  have HZ:=aa (⟨I,n8,(HN.o.qQ Zl.o).trans d8⟩:∃ n,aN w8 n c i W g u s'/\fT w own c i w8 n)
  clear n8 d8
  go_wp2_with fail
  go_end0
  exact ⟨rfl,HZ.o⟩
def NS.eO (s:NS) (m:aO) (j:Nat):NS:=((((List.range j).map Int.ofNat).filter fun i=>decide (i≠s.n.self)).foldl (fun s i=>s.way i m) s)
theorem NS.oH (s:NS) (m:aO) (j:Nat):s.eO m (j + 1)=if (j:Int)≠s.n.self then (s.eO m j).way j m else s.eO m j:=by
 unfold NS.eO
 rw [List.range_succ,BH,List.filter_append,List.foldl_append]
 simp only [BB,IV]
 by_cases h:(j:Int)≠s.n.self
 ·rw [if_pos h,List.filter_cons,if_pos (by simpa using h)]
  rfl
 ·rw [if_neg h,List.filter_cons,if_neg (by simpa using h)]
  rfl
theorem NS.rF (s:NS) (m:aO):∀ j,∃ b:List jy,s.eO m j={ s with bO:=s.bO ++ b }/\b.length<=j
 | 0=>⟨[],by simp [NS.eO],dN _⟩
 | j + 1=>by
  obtain ⟨b,e,d⟩:=NS.rF s m j
  rw [NS.oH,e]
  split
  ·exact ⟨b ++ [⟨s.n.self,j,({ m with known:=s.known }).bytes⟩],by rw [<- MI];rfl,jR⟩
  ·exact ⟨b,rfl,af⟩
theorem aF.eO (ok:aF s i (k + 1)) (m:aO) (j:Nat) (d:j<=60000):aF (s.eO m j) i k:=by
 obtain ⟨b,e,f⟩:=s.rF m j
 rw [e]
 refine (ok.mono (ym k)).xk _ ?_
 have:=ok.bO
 simp only [ja]
 omega
theorem NS.yF (s:NS) (m:aO) (j:Nat):(s.eO m j).known=s.known/\(s.eO m j).conf=s.conf/\(s.eO m j).n=s.n:=by
 obtain ⟨b,e,-⟩:=s.rF m j
 rw [e]
 exact ⟨rfl,rfl,rfl⟩
theorem Wl (N:aN w own c i W g u s) (ok:aF s i (k + 2)) (m:aO) (M:Array Value) (hM:fe w own m M) (s':NS)
 (H:∀ (W':World) (f:Nat->Tag) (j:Nat),j < s.conf.nodes->(j:Int)≠i->aN W' f c i W g u (s.eO m j)->fe W' f m M->aS 134 #[g,zi j,.agg M] W' (fO W' f c i W g u ((s.eO m j).way j m)))
 (L:∀ W' f M',aN W' f c i W g u (s.others m)->fe W' f { m with known:=s.known } M'->aS 73 #[g,zi i,.agg M'] W' (fO W' f c i W g u s')) :
 aS 136 #[g,.agg M] w (fO w own c i W g u s'):=by
 obtain ⟨p,hp⟩:=N.ex
 have h3:aV w (fun k=>own k=bM c i 3) (fun k=>own k=aB) W g p s.n:=aV.ub (hp.at_ 3)
 have H3:=aa h3
 have HS:=aa N.self
 have h0:iB w (fun k=>own k=bM c i 0) (fun k=>own k=aB) W s.conf u s.aA:=hp.at_ 0
 obtain ⟨n,O⟩:=aR (s.conf.nodes)
 have Ql:n<=5:=O▸ok.conf.n5
 obtain ⟨x,nB,dB,P⟩:=N.box (.cells M 110)
 have I:=(hM.did dB)
 have A:=Bk.new w 110 M
 have oB:=(Old.refl' w).ag (.cells M 110)
 have R:=aa hM.size
 obtain ⟨w1,B⟩:∃ w1,w1=w.alloc (.cells M 110):=⟨_,rfl⟩
 rw [<- B] at nB dB I A oB
 have hs1:w.heap.size < w1.heap.size:=A.lt
 have W0:=(h0.old oB).cells
 obtain ⟨v0,-,-,-,vl⟩:=W0
 rw [O] at v0
 obtain ⟨u0,u1,u2,u3,u4,u5,u6,u8,u9,dF,dD,dK,eu,aX,S⟩:=(H3.o.old oB).c HS.o
 rw [B] at u0 S v0 vl
 rw [O] at H
 have Ii:=aa O
 clear O
 have T:=aa nB
 have Ua:=aa dB
 have Em:=aa I
 have HXB:=aa A
 have MC:=aa P
 have U:=aa (fun j (hj:j<=5)=>ok.eO (k:=k + 1) m j af)
 have HK:=aa H
 have HON:=aa L
 have V:=aa N.self
 have y:=aa (show s.eO m n=s.others m by rw [<- Ii.o];rfl)
 clear u1 u2 u3 u4 u5 u6 u8 u9 dF dD dK eu aX h3 h0 hp N ok hM nB dB I A oB P H L
 go_enter func136,ntmps136
 go_wp2_with fail
 rw [<- B]
 clear B u0 S v0 vl
 go_loopw [13] (fun iv wr=>∃ j:Nat,j<=n/\iv=zi j/\kN (∃ d,aN wr d c i W g u (s.eO m j)/\fT w own c i wr d/\fT w1 x c i wr d)) (fun iv _=>n - (intOf iv).toNat)
 case atStart=>exact ⟨0,af,rfl,aa ⟨x,T.o,Ua.o,T.o.did⟩⟩
 case round=>
  obtain ⟨j,hj,rfl,HJ⟩:=hrel
  obtain ⟨d,F,K,l⟩:=HJ.o
  obtain ⟨pj,C⟩:=F.ex
  have D:aV wr (fun k=>d k=bM c i 3) (fun k=>d k=aB) W g pj (s.eO m j).n:=aV.ub (C.at_ 3)
  have X:=aa D
  have Y:=aa F.self
  have XB:=aa (l.keep HXB.o (.inr MC.o))
  have z:=Em.o.did l
  have xbl:=XB.o.lt
  by_cases hlt:j < n
  ·have Z:(j:Int) < (n:Int):=by omega
   obtain ⟨u0,u1,u2,u3,u4,u5,u6,u8,u9,dF,dD,dK,eu,aX,S⟩:=X.o.c Y.o
   clear u0 u2 u3 u4 u5 u6 u8 u9 dF dD dK eu aX
   by_cases r:(j:Int)=i
   ·have hne:((j:Int) != (i:Int))=false:=by simpa using r
    have HF:=aa (⟨d,by rw [NS.oH,if_neg (by rw [V.o];simpa using r)];exact F,K,l⟩:∃ d,aN wr d c i W g u (s.eO m (j + 1))/\fT w own c i wr d/\fT w1 x c i wr d)
    clear r F K l C D z HJ
    go_wp2
    go_roundw
    case rel=>exact ⟨j + 1,af,oP,HF⟩
    case measure=>simp [intOf];omega
   ·have hne:((j:Int) != (i:Int))=true:=by simpa using r
    have cW:=aa (HK.o wr d j hlt r F z)
    have HDj:=aa K
    have aaB:=aa l
    have HSU:=aa (show s.eO m (j + 1)=(s.eO m j).way j m by rw [NS.oH,if_pos (by rw [V.o];exact r)])
    clear r F K l C D z HJ
    have Wm:=xy XB.o
    go_wp2_with ((with_reducible refine bZ 110 (.tmp 3) w.heap.size 0 M _ ?_ Wm underlying110 rfl ?_ ?_);(· rfl);(· rw [R.o];exact xx))
    refine cW.o.mono ?_
    rintro e w5 ⟨rfl,Er,n5,d5⟩
    have HF:=aa (⟨Er,by rw [HSU.o];exact n5,HDj.o.trans d5,aaB.o.trans d5⟩:∃ d,aN w5 d c i W g u (s.eO m (j + 1))/\fT w own c i w5 d/\fT w1 x c i w5 d)
    clear n5 d5 Wm xbl u1 S
    go_wp2
    go_roundw
    case rel=>exact ⟨j + 1,af,oP,HF⟩
    case measure=>simp [intOf];omega
  ·obtain rfl:j=n:=by omega
   have Z:¬ (j:Int) < (j:Int):=af
   have njj:aN wr d c i W g u (s.others m):=by rw [<- y.o];exact F
   have G:aF (s.others m) i (k + 1):=by rw [<- y.o];exact U.o j (by omega)
   have hkn:(s.others m).known=s.known:=by rw [<- y.o];exact (s.yF m j).1
   have J:=aa (fun W' (hW:Old wr W')=>xz (njj.old hW) G m M (z.old hW) s' (fun W2 M2 hN2 hM2=>HON.o W2 d M2 hN2 (by rw [hkn] at hM2;exact hM2)))
   have DJ:=aa K
   clear F K l C D z HJ njj G hkn
   go_wp2_with fail
   refine kI Old 6 wr [.val g,.val g,.val g,.val (av g 1),.val (zi i),.val (.agg M)] ((Old.refl' _).drew') ?st ?en
   case st=>
    refine .cons (sp [] [(0,g)] ?_)<|.cons (sp [] [(0,g)] ?_)<|.cons (sp [(1,28)] [] ?_)<|.cons (sp [(2,29)] [] ?_)<|.cons (sp [(3,30)] [] ?_)<|.cons (sp [] [(3,w.heap.size)] ?c5)<|.nil
    case c5=>
     intro E w' hS hc hf
     rintro e3
     exact ⟨_,eH 110 _ rfl w.heap.size 0 M _ (by assumption) (xy (XB.o.old hS)) underlying110 rfl (by rw [R.o];exact xx),rfl⟩
    all_goals
     intro E w' hS hc hf
     obtain ⟨u0,u1,u2,u3,u4,u5,u6,u8,u9,dF,dD,dK,eu,aX,S⟩:=(X.o.old hS).c Y.o
     repeat intro _
     exact ⟨_,dP,rfl⟩
   case en=>
    intro jA w9 nT
    iterate 6 refine Ends.eqv _ _ rfl (fun _ h=>h) ?_
    refine Ends.nil ?_
    simp only [aC,ax,fM,fJ]
    have cO:=aa (J.o w9 nT)
    have Wn:=aa (DJ.o.old nT)
    go_wp2_with fail
    refine cO.o.mono ?_
    rintro e w8 ⟨rfl,CL,n8,d8⟩
    have HZ:=aa (⟨CL,n8,Wn.o.trans d8⟩:∃ f,aN w8 f c i W g u s'/\fT w own c i w8 f)
    clear n8 d8
    go_wp2_with fail
    go_end0
    exact ⟨rfl,HZ.o⟩
end
theorem BD {P:Program} {E:Operand->Value} {w:World} {o:Oper} (ty:TypeId) (x d:Operand) (c:Bool) (e:o.op=.lookup ty x d c) {v:Value} (h:(Instr.lookup ty (E x) (E d) c).run P w=.ok v w):(execOp E o).run P w=.ok (.value v) w:=by
 unfold execOp
 simp only [e,Sem.run_bind,Sem.run_pure,h,Result.andThen_ok]
theorem Ij (a:Int) (h:-1099511627776<=a/\a<=1099511627776):keyOf Tryz.prog 3 (.int .i64 a)=some (.int .i64 a):=
 Go.Maps.keyOf_int_mk Tryz.underlying3 (by
  show (decide (IntKind.i64.min<=a) && decide (a<=IntKind.i64.max))=true
  have d:IntKind.i64.min=-9223372036854775808:=aW
  have e:IntKind.i64.max=9223372036854775807:=aW
  rw [d,e]
  simp only [kE,rJ]
  omega)
theorem uk:Go.Maps.Keyed prog 3:=Go.Maps.int_keyed underlying3
theorem Wo {w:World}:(zeroValue 3).run prog w=.ok (zi 0) w:=ay
theorem mq.look {w:World} {F:Nat->Prop} {g:Nat} {f:Int->Option Int} (h:mq w F g f) (x:Int) (j:-1099511627776<=x/\x<=1099511627776) :
 (Instr.lookup 102 (.map (some g)) (zi x) true).run prog w=.ok (.tuple #[zi ((f x).getD 0),.bool (f x).isSome]) w:=by
 obtain ⟨L,l,m⟩:=h.ex
 cases e:f x with
 | none=>
  exact l.M4 uk underlying102 (e:=3) (z:=zi 0) Wo (Ij x j) (fun p n r=>by
   obtain ⟨y,hy,rfl⟩:=List.mem_map.1 n
   have d:y.1=x:=by simpa using r
   have:=(m x y.2).2 (by rw [<- d];exact hy)
   rw [e] at this
   cases this) true
 | some a=>exact l.Jf uk Tryz.underlying102 (Ij x j) (List.mem_map.2 ⟨(x,a),(m x a).1 e,rfl⟩) true
section
variable {w:World} {own:Nat->Tag} {c i W g k:Nat} {u:bV} {s:NS}
theorem fe.at_ {m:aO} {M:Array Value} (h:fe w own m M):M[0]?=some (zi m.kind)/\M[1]?=some (zi m.known.az)/\M[3]?=some (zi m.n)/\M[4]?=some (zi m.bD)/\M[5]?=some (zi m.bL)/\M[6]?=some (zi m.id)/\M[7]?=some (zi m.asked)/\M[8]?=some (zi m.b.round)/\M[9]?=some (zi m.b.node)/\M[25]?=some (.bool m.hop)/\M[26]?=some (.bool m.open_):=by
 obtain ⟨K,V,C,R,L,rfl,-⟩:=h.ex
 exact ⟨rfl,rfl,rfl,rfl,rfl,rfl,rfl,rfl,rfl,rfl,rfl⟩
theorem fe.kn {m:aO} {M:Array Value} (h:fe w own m M):∃ V,M[2]?=some V/\qN w own V m.known.nodes:=by
 obtain ⟨K,V,C,R,L,rfl,d,-⟩:=h.ex
 exact ⟨K,rfl,d⟩
end
end Go.Proofs.YthihpfpbiajddaaGreat
