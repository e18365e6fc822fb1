/- Parts of the proof. -/
import Derived.Test.YthihpfpbiajddaaGreatHQWorldNobody13
import Derived.Lib.ConvBytes
set_option maxRecDepth 100000
set_option maxHeartbeats 8000000
open Go.Proofs.Tryz
namespace Go.Proofs.YthihpfpbiajddaaGreat
open Go.RowKit
def rq (base:Nat) (ce:Int) (m:Nat) (xs:List Value) (v:Value) (w:World):Prop:=∃ A c,v=.agg #[zi ce,.slice A m c]/\w.ownsRow base 3 1 (.slice A m c) m xs
instance (base:Nat) (ce:Int) (m:Nat) (xs:List Value):uT Old (rq base ce m xs):=⟨fun _ _ _ ho ⟨A,c,e,h⟩=>⟨A,c,e,bF h ho⟩⟩
section
variable {base g m:Nat} {a:dY} {V1 V2:Value} {ce:Int} {xs:List Value} {W w' w2:World} {s t:Bool}
end
theorem iq.app {a b:List Int} (h:iq a) (k:iq b):iq (a ++ b):=fun c d=>(List.mem_append.1 d).elim (h c) (k c)
theorem iq.nil:iq []:=fun _ h=>nomatch h
theorem kJ (v:Nat):iq (gB v):=by
 induction v using Nat.strongRecOn with
 | ind v ih=>
  by_cases h:v < 128
  ·rw [lX h]
   intro c d
   simp at d
   omega
  ·rw [qX h]
   intro c d
   rcases List.mem_cons.1 d with rfl | d
   ·omega
   ·exact ih (v / 128) af c d
theorem Cm (b:Bool):iq (oU b):=by cases b <;> simp [iq,oU]
theorem za (l:List Int):iq (bX l):=fun c d=>by
 obtain ⟨x,-,e⟩:=List.mem_flatMap.1 d
 exact kJ _ c e
theorem sF {l:List Int} (h:iq l):iq (yu l):=(kJ _).app h
theorem DY {l:List Int} (h:iq l):numsOf (strOfNums l)=l:=by
 unfold numsOf strOfNums
 simp only [List.map_map]
 conv=>rhs;rw [<- List.map_id l]
 refine List.map_congr_left fun c d=>?_
 have:=h c d
 simp
 omega
theorem sG (l:List Int):(strOfNums l).size=l.length:=by
 show ((l.map fun n=>UInt8.ofNat n.toNat).toArray).size=_
 simp
theorem zb {l:List Int} (h:iq l):jD (strOfNums l)=yu l:=by
 unfold jD yu
 rw [DY h,sG]
theorem bU.fB (b:bU):iq b.bytes:=(kJ _).app (kJ _)
theorem bC.fB (c:bC):iq c.bytes:=by
 unfold bC.bytes bC.put
 split
 ·exact ((kJ _).app (kJ _)).app (za c.nodes)
 ·exact iq.nil
theorem sH {v n:Nat} (h:v < n) (d:n<=2 ^ 64):(gB v).length<=10:=gI v (iD h d)
theorem bU.eG {b:bU} (h:b.round<=1099511627776/\b.node<=1099511627776):b.bytes.length<=20:=by
 unfold bU.bytes
 rw [ja]
 have d:=sH (v:=b.round.toNat) (n:=1099511627777) af aW
 have e:=sH (v:=b.node.toNat) (n:=1099511627777) af aW
 omega
theorem mK:∀ (l:List Int),(∀ x∈l,x<=1099511627776)->(bX l).length<=10 * l.length
 | [],_=>by simp [bX]
 | x :: l,h=>by
  have d:=sH (v:=x.toNat) (n:=1099511627777) (by have:=h x (by simp);omega) aW
  have f:=mK l fun y hy=>h y (by simp [hy])
  have e:bX (x :: l)=gB x.toNat ++ bX l:=by simp [bX]
  rw [e,ja,iR]
  omega
theorem bC.eG (c:bC):c.bytes.length<=70:=by
 cases h:c.may with
 | false=>simp [bC.bytes,bC.put,h]
 | true=>
  rw [bC.rO h,ja]
  simp only [bC.may,kE,rJ,List.all_eq_true] at h
  have d:=mK [c.az,c.nodes.length] jR
  have f:=mK c.nodes fun x e=>by have:=h.1.2 x e;omega
  simp only [iR,jV] at d
  omega
theorem nI {l:List Int} {n:Nat} (h:l.length<=n) (d:n<=1000000):(yu l).length<=n + 10:=by
 unfold yu
 rw [ja]
 have:=sH (v:=l.length) (n:=1000001) af aW
 omega
theorem VD (w:World):jw (w.alloc (.cells #[aQ] 231)) w.heap.size aQ []:=
 ⟨Bk.new w 231 #[aQ],World.ownsRow_nil _ _ _ _,by simp [Value.ownBlock]⟩
theorem dY.eG {a:dY} (d:a.bN.promised.round<=1099511627776/\a.bN.promised.node<=1099511627776) (e:a.bN.accepted.round<=1099511627776/\a.bN.accepted.node<=1099511627776):a.bytes.length<=300:=by
 have f:=nI (bC.eG a.known) af
 have g:=nI (bC.eG a.bN.chain) af
 have h:=bU.eG d
 have h4:=bU.eG e
 unfold dY.bytes
 simp only [ja,oU,iR,jV]
 split
 ·simp only [ja];omega
 ·simp only [jV];omega
def NU (w W:World) (g:Nat) (V:Value) (bs:List Int):Prop:=jw W g V bs/\(∀ k,fo g V k->w.heap.size<=k)/\Old w W
theorem NU.new (w:World):NU w (w.alloc (.cells #[aQ] 231)) w.heap.size aQ []:=
 ⟨VD w,fun k d=>by rcases d with rfl | d <;> simp [Value.ownBlock] at *,(Old.refl' w).ag _⟩
theorem NU.go {w W W':World} {g:Nat} {V:Value} {d cs:List Int} (h:NU w W g V d) (k:Wrote W g V cs W'):∃ V',NU w W' g V' cs:=by
 obtain ⟨V',a,o,f⟩:=k.own h.2.2 h.2.1
 exact ⟨V',a,f,o⟩
theorem NV {t:List Int} {v:bC} {d:Int} (h:G9 t=(v,d)):(fF t).getD .zero=v/\(fF t).isSome=decide (d=0):=by
 unfold G9 at h
 cases hg:fF t with
 | none=>rw [hg] at h;injection h with e f;subst e f;exact ⟨rfl,rfl⟩
 | some c=>rw [hg] at h;injection h with e f;subst e f;exact ⟨rfl,rfl⟩
theorem FD (most:Nat):∀ (l:List Int) (k v x:Nat) (l':List Int),Dk most k v l=some (x,l')->iq l->iq l'
 | [],_,_,_,_,h,_=>by simp [Dk] at h
 | c :: l,k,v,x,l',h,h8=>by
  have h9:iq l:=fun y hy=>h8 y (List.mem_cons_of_mem _ hy)
  unfold Dk at h
  dsimp only at h
  split at h
  ·cases h
  ·split at h
   ·exact FD most l _ _ _ _ h h9
   ·split at h
    ·cases h
    ·injection h with h;injection h with h1 h2;exact h2▸h9
theorem Rd.Cn (r:Rd) (most:Nat) (h:iq r.b):iq (r.text most).1:=by
 unfold Rd.text
 generalize d:r.num most=q
 obtain ⟨v,e⟩:=q
 dsimp only
 split
 ·exact iq.nil
 ·split
  ·exact iq.nil
  ·refine iq.take ?_ _
   show iq e.b
   unfold Rd.num at d
   split at d
   ·cases d;exact h
   ·split at d
    ·rename_i v' b' f
     cases d
     exact FD most _ _ _ _ _ f h
    ·cases d;exact h
theorem Rd.Co (r:Rd) (most:Nat):(r.text most).1.length<=r.b.length:=by
 unfold Rd.text
 generalize d:r.num most=q
 obtain ⟨v,e⟩:=q
 have:=(r.fq most).2
 rw [d] at this
 dsimp only at this ⊢
 split
 ·simp
 ·split
  ·simp
  ·rw [vB];omega
theorem wQ {w:World} {t:List Int} (h:iq t):∃ A c w',(convert 9 65 (.string (iA t))).run prog w=.ok (.slice A t.length c) w'/\ah w' A (eB t)/\Old w w':=by
 have f:(iA t).size=t.length:=by rw [Fh,sG]
 refine ⟨_,_,_,f▸Go.Lib.run_convert_string_bytes w 9 65 5 (iA t) underlying9 underlying65 underlying5,fun _=>⟨w.heap.size,0,rfl,by rw [Go.Lib.bytesWorld_size];omega,fun k u e=>?_⟩,?_⟩
 ·have d:k < t.length:=by
   have:=(List.getElem?_eq_some_iff.1 e).1
   simpa [eB] using this
  rw [mE,Go.Lib.bytesWorld_cell w 5 (iA t) k af]
  have h8:=h t[k] (List.getElem_mem d)
  simp [eB,gG d] at e
  rw [<- e]
  simp [iA,d]
  omega
 ·exact ⟨rfl,rfl,rfl,by rw [Go.Lib.bytesWorld_size];omega,fun i g=>Go.Lib.bytesWorld_at_old w 5 (iA t) i g⟩
section
variable {w W W':World} {g gr bx n1:Nat} {cs:Array Value} {r r':Rd} {e1:Int} {S1:Value} {xs:List Value}
theorem dI.bk (h:dI W gr r):∃ cs,Bk W gr 284 cs:=by obtain ⟨A,c,d,-⟩:=h.ex;exact ⟨_,d⟩
theorem dI.ne (h:dI W gr r) {t:TypeId} {cs:Array Value} (d:Bk W g t cs) (e:t≠284):g≠gr:=by
 obtain ⟨c,f⟩:=h.bk
 exact d.vC f e
end
theorem Ko:(prog.info? 36).map (fun i=>(i.zero,i.size,i.bytes))=some (some (.agg #[zi 0,zi 0,zi 0,zi 0,zi 0,.string { data:=#[] }]),6,56):=ay
theorem nH.app {w w1 i:World} {g n k gs ca c2:Nat} {cs:Array Value} {A A2:Option Addr} {R:Value} {xs m rs:List Value} {Fs:Nat->Prop} {st:fG} (h:nH w g cs (.slice A n ca) n xs R k rs gs Fs st) (r:Old w w1)
 (h2:fZ w1 0 36 6 (.slice A n ca) (n + 1) m (.slice A2 (n + 1) c2) i) :
 nH (i.setCell ⟨g,1,none⟩ (.slice A2 (n + 1) c2)) g (cs.setIfInBounds 1 (.slice A2 (n + 1) c2)) (.slice A2 (n + 1) c2) (n + 1) m R k rs gs Fs st/\
 Fr (fun b=>b=g∨(Value.slice A n ca).ownBlock=some b) w (i.setCell ⟨g,1,none⟩ (.slice A2 (n + 1) c2))/\
 (∀ b,(Value.slice A2 (n + 1) c2).ownBlock=some b->(Value.slice A n ca).ownBlock=some b∨w.heap.size<=b):=by
 have y:=r.size
 have d:=h.old r
 have l:Fr (fun b=>(Value.slice A n ca).ownBlock=some b) w1 i:=h2.fr (fun k _ s=>s)
 have j:∀ b,(Value.slice A2 (n + 1) c2).ownBlock=some b->(Value.slice A n ca).ownBlock=some b∨w1.heap.size=b:=fun b hb=>Ri
 have x:nH i g cs (.slice A2 (n + 1) c2) (n + 1) m R k rs gs Fs st:=
  ⟨d.bk.fr l d.Km,h2.own,dh d.qD l (fun b hb f=>d.Qm f hb),d.He.fr l (fun b hb f=>d.sv b f hb),d.sg,fun b hb u=>by
   rcases j b hb with e | e
   ·exact d.sv b e u
   ·have:=d.He.lt b u;omega,d.sr⟩
 refine ⟨x.bH 1 _,?_,fun b hb=>?_⟩
 ·exact Fr.setCell (p:=⟨g,1,none⟩) ((Fr.aj r).trans (l.mono fun k _ s=>.inr s)) (.inr (.inl rfl)) _
 ·rcases j b hb with e | e
  ·exact .inl e
  ·right;omega
theorem eZ.grown {w w':World} {g n c2 gs ca:Nat} {F Fs:Nat->Prop} {l:dW} {cs cs':Array Value} {A A2:Option Addr} {R:Value} {rs:List Value} {q:aG} (r:l.qs.length=n) (D:w.heap.size<=w'.heap.size)
 (h0:nH w g cs (.slice A n ca) n (l.qs.flatMap aG.cells) R l.k rs gs Fs l.st) (h:nH w' g cs' (.slice A2 (n + 1) c2) (n + 1) (l.qs.flatMap aG.cells ++ q.cells) R l.k rs gs Fs l.st) (s:MK cs' (.slice A2 (n + 1) c2) R gs l.aI (l.qs ++ [q])) (u:pR l rs)
 (f:∀ b,RY g (.slice A n ca) R Fs b->F b) (x:∀ b,(Value.slice A2 (n + 1) c2).ownBlock=some b->(Value.slice A n ca).ownBlock=some b∨w.heap.size<=b) (i:wP l.qs) (m:l.may q=true) (y:l.k<=l.qs.length) (z:∀ b,F b->b < w.heap.size) :
 ∃ F',eZ w' g F' (l.put q)/\∀ b,F' b->F b∨w.heap.size<=b:=by
 have e:l.put q=⟨l.aI,l.qs ++ [q],l.k⟩:=by unfold dW.put;rw [if_pos m]
 obtain ⟨m1,m2,B⟩:=dW.rY.1 m
 have k:(⟨l.aI,l.qs ++ [q],l.k⟩:dW).st=l.st:=by show iP _ _=iP _ _;rw [List.take_append_of_le_length y]
 rw [e]
 refine ⟨fun b=>(F b∨w.heap.size<=b)/\b < w'.heap.size,⟨⟨cs',.slice A2 (n + 1) c2,R,rs,gs,Fs,?_,s,?_,fun b d=>⟨?_,h.lt d⟩⟩,i.snoc m1 m2 B,by show l.k<=(l.qs ++ [q]).length;simp;omega,fun b d=>d.2⟩,fun b d=>d.1⟩
 ·rw [k]
  show nH w' g cs' _ (l.qs ++ [q]).length ((l.qs ++ [q]).flatMap aG.cells) R l.k rs gs Fs l.st
  rw [ja,List.flatMap_append,r]
  simpa using h
 ·intro j p
  have C:j < l.k:=p
  have:(⟨l.aI,l.qs ++ [q],l.k⟩:dW).rep j=l.rep j:=by
   unfold dW.rep
   show (iP l.aI ((l.qs ++ [q]).take j)).rep ((l.qs ++ [q])[j]?.getD default).q=_
   rw [List.take_append_of_le_length af,BG af]
  rw [this]
  exact u j p
 ·rcases d with d | d | d | d
  ·exact .inl (f b (.inl d))
  ·rcases x b d with d | d
   ·exact .inl (f b (.inr (.inl d)))
   ·exact .inr d
  ·exact .inl (f b (.inr (.inr (.inl d))))
  ·exact .inl (f b (.inr (.inr (.inr d))))
theorem MK.put {cs:Array Value} {V u R:Value} {gs n:Nat} {f:Int} {g:List aG} (h:MK cs V R gs f g) {c i:Nat} (x:c < 4) (y:i < 32) {k m s:Int} {d:ByteArray} (z:g.length=n) :
 MK (((cs.setIfInBounds 1 u).setIfInBounds (2 + c) (zi s)).setIfInBounds (6 + i) (zi ((n:Int) + 1))) u R gs f (g ++ [⟨c,s,k,i,m,d⟩]):=by
 refine ⟨?_,?_,fun j l=>?_,fun p r=>?_,?_,?_⟩
 ·rw [bK af,bK af,bK af];exact h.q0
 ·rw [bK af,bK af];exact get_eq h.l0 _
 ·rw [bK af,oz]
  by_cases e:c=j
  ·subst e
   rw [if_pos rfl]
   exact get_eq (v:=zi (fK g c)) (by rw [bK (by omega)];exact h.sq c x) _
  ·rw [bK af,bK af,if_neg (show ¬ ((c:Int)=(j:Int)) by omega)];exact h.sq j l
 ·rw [uH]
  by_cases e:i=p
  ·subst e
   rw [if_pos rfl,get_eq (v:=zi (pQ g i)) (by rw [bK (by omega),bK (by omega)];exact h.tc i y) _,z]
   simp
  ·rw [bK af,bK af,bK af,if_neg (show ¬ ((i:Int)=(p:Int)) by omega)];exact h.tc p r
 ·rw [bK af,bK af,bK af];exact h.s0
 ·rw [bK af,bK af,bK af];exact h.r0
theorem Kq (g:Nat) (q:aG) (f:(q.q.may && dU q.kind)=false) (w:World) :
 aS 90 #[g,q.q.v] w fun e w'=>e=.returned (.tuple #[zi 0,zi 1])/\Old w w':=by
 obtain ⟨c,s,k,i,m,j⟩:=q
 simp only [aG.q,Q.v,Q.may] at f ⊢
 obtain ⟨b1,p⟩:=aR (mX c s k i m j)
 have A:=aa (fun (W:World)=>lG c s k i m j b1 p W)
 have r:=aa (fun (W:World) (h:Old (w.alloc (.cells #[zi c,zi s,zi k,zi i,zi m,.string j] 36)) W)=>lH ((Bk.new w 36 #[zi c,zi s,zi k,zi i,zi m,.string j]).old h))
 cases b1 with
 | false=>
  clear f p
  go_enter func90,ntmps90
  go_wp2_with (go_at_call 81;refine (A.o _).mono ?_;rintro e w1 ⟨rfl,d⟩;obtain ⟨⟨x0,x1,x2,u,x,y⟩,z⟩:=r.o _ d)
  refine bodyPost_ret (v:=.tuple #[zi 0,zi 1]) (by simp [results,results90,go_sem]) rfl ?_
  exact ⟨rfl,((Old.refl' w).ag _).trans' d⟩
 | true=>
  have B:dU k=false:=by rw [p] at f;simpa using f
  have C:=aa (fun (W:World)=>kr c s k i m j false B W)
  clear f p B
  go_enter func90,ntmps90
  go_wp2_with (first
   | (go_at_call 81;refine (A.o _).mono ?_;rintro e w1 ⟨rfl,d⟩;obtain ⟨⟨x0,x1,x2,u,x,y⟩,z⟩:=r.o _ d)
   | (go_at_call 142;refine (C.o _).mono ?_;rintro e D ⟨rfl,l⟩;clear x0 x1 x2 u x y z;have n:=d.trans' l;obtain ⟨⟨x0,x1,x2,u,x,y⟩,z⟩:=r.o _ n;clear d l))
  refine bodyPost_ret (v:=.tuple #[zi 0,zi 1]) (by simp [results,results90,go_sem]) rfl ?_
  exact ⟨rfl,((Old.refl' w).ag _).trans' n⟩
theorem DZ (g:Nat) (F:Nat->Prop) (l:dW) (q:aG) (I:(q.q.may && dU q.kind)=true) (y:¬ fK l.qs q.client < q.seq) (w:World) (h:eZ w g F l) :
 aS 90 #[g,q.q.v] w fun e w'=>e=.returned (.tuple #[zi 0,zi 9])/\Old w w':=by
 obtain ⟨c,s,k,i,m,dt⟩:=q
 simp only [aG.q,Q.v,Q.may,kE] at I y ⊢
 obtain ⟨z,J⟩:=I
 obtain ⟨⟨c0,c3⟩,-,-,-⟩:=Aq z
 obtain ⟨c,rfl⟩:∃ n:Nat,c=n:=⟨c.toNat,af⟩
 obtain ⟨sq,j⟩:=aR (fK l.qs c)
 rw [j] at y
 obtain ⟨A,ca,gs,Fs,B,P,rs,f⟩:=h.see rfl
 have Ut:=aa (fun (W:World) (K:Old (w.alloc (.cells #[zi c,zi s,zi k,zi i,zi m,.string dt] 36)) W)=>(((((Old.refl' w).ag _).trans' K).cell (p:=⟨g,2 + c,none⟩) f.gl).trans (by rw [<- j];exact f.sq c (by omega)):W.cell? ⟨g,2 + c,none⟩=some (zi sq)))
 have L:=aa (fun (W:World)=>lG c s k i m dt true z W)
 have M:=aa (fun (W:World)=>kr c s k i m dt true J W)
 have cN:=aa (fun (W:World)=>wF c s k i m dt sq true false z (by simpa using y) W)
 have hX:=aa (fun (W:World) (h:Old (w.alloc (.cells #[zi c,zi s,zi k,zi i,zi m,.string dt] 36)) W)=>lH ((Bk.new w 36 #[zi c,zi s,zi k,zi i,zi m,.string dt]).old h))
 have N:(c:Int) < 4:=af
 clear z J h f y j
 go_enter func90,ntmps90
 go_wp2_with (first
  | (go_at_call 81;refine (L.o _).mono ?_;rintro e w1 ⟨rfl,r⟩;obtain ⟨⟨x0,x1,x2,C,D,E⟩,G⟩:=hX.o _ r)
  | (go_at_call 142;refine (M.o _).mono ?_;rintro e U ⟨rfl,u⟩;clear x0 x1 x2 C D E G;have d:=r.trans' u;obtain ⟨⟨x0,x1,x2,C,D,E⟩,G⟩:=hX.o _ d;clear r u))
 refine aY (R:=pick [eqv (.agg #[zi c,zi s,zi k,zi i,zi m,.string dt]),eqv (av g 0),eqv (av w.heap.size 0),eqv (zi c),eqv (av g 0),eqv (av g 2),eqv (av g (2 + c)),eqv (zi sq),eqv (.bool false),eqv (.bool true),eqv (.bool true)]) (S:=fun _ w'=>Old (w.alloc (.cells #[zi c,zi s,zi k,zi i,zi m,.string dt] 36)) w') (T:=Old) ay ay ay (ai.pick (ai.eqv (ai.eqv (ai.eqv (ai.eqv (ai.eqv (ai.eqv (ai.eqv (ai.eqv (ai.eqv (ai.eqv (ai.eqv (ai.nil))))))))))))) (d.drew') ?steps ?ends
 case steps=>exact Us
 case ends=>
  intro O V x H
  iterate 11 refine .eqv _ _ rfl (fun _ h=>h) ?_
  refine Ends.nil ?_
  clear H
  simp only [aC,ax,fM,fJ]
  clear x0 x1 x2 C D E G d
  have d:=x
  clear x
  obtain ⟨⟨x0,x1,x2,C,D,E⟩,G⟩:=hX.o _ d
  go_wp2_with fail
  refine bodyPost_ret (v:=.tuple #[zi 0,zi 9]) (by simp [results,results90,go_sem]) rfl ?_
  exact ⟨rfl,((Old.refl' w).ag _).trans' d⟩
theorem Hf (g:Nat) (F:Nat->Prop) (l:dW) (n:Nat) (hn:l.qs.length=n) (hn2:n<=50000) (q:aG) (hq:(q.q.may && dU q.kind)=true) (hs:fK l.qs q.client < q.seq) (w:World) (h:eZ w g F l) :
 aS 90 #[g,q.q.v] w fun e w'=>e=.returned (.tuple #[zi ((n:Int) + 1),zi 0])/\
  (∃ F',eZ w' g F' (l.put q)/\∀ b,F' b->F b∨w.heap.size<=b)/\Fr F w w':=by
 obtain ⟨j0,hj0,Av,Aw,Ay⟩:=info_parts Ko
 have hm:l.may q=true:=by unfold dW.may;rw [hq];simpa using hs
 have hGR:=fun (w':World) (A A2:Option Addr) (ca c2 gs:Nat) (R:Value) (rs:List Value) (Fs:Nat->Prop) (cs cs':Array Value) hs' h0 h9 hc hr hF hv=>eZ.grown (w:=w) (w':=w') (g:=g) (n:=n) (c2:=c2) (gs:=gs) (ca:=ca) (F:=F) (Fs:=Fs) (l:=l) (cs:=cs) (cs':=cs') (A:=A) (A2:=A2) (R:=R) (rs:=rs) (q:=q) hn hs' h0 h9 hc hr hF hv h.ok hm h.kl h.lt
 have HGR:=aa hGR
 obtain ⟨lp,hlp⟩:=aR (l.put q)
 rw [hlp]
 have aak:=fun x=>oz l.qs q x
 have aal:=fun x=>uH l.qs q x
 obtain ⟨c,s,k,i,m,dt⟩:=q
 simp only [aG.q,Q.v,Q.may,kE] at hq hs aak aal ⊢
 obtain ⟨h1,I⟩:=hq
 obtain ⟨⟨c0,c3⟩,-,⟨i0,i31⟩,-⟩:=Aq h1
 obtain ⟨c,rfl⟩:∃ n:Nat,c=n:=⟨c.toNat,af⟩
 obtain ⟨i,rfl⟩:∃ n:Nat,i=n:=⟨i.toNat,af⟩
 obtain ⟨sq,Qn⟩:=aR (fK l.qs c)
 rw [Qn] at hs
 obtain ⟨⟨cs,V,R,rs,gs,Fs,hB,hC,hR,hFF⟩,hok,hkl,hFl⟩:=h
 obtain ⟨A,ca,rfl,-,-⟩:=bI hB.row
 rw [hn] at hB hC hFF
 obtain ⟨xs,hxs⟩:=aR (l.qs.flatMap aG.cells)
 obtain ⟨st,hst⟩:=aR (l.st)
 obtain ⟨k0,hk0⟩:=aR (l.k)
 rw [hxs,hst,hk0] at hB
 have hgl:=hB.bk.lt
 have Ut:=aa (fun (W:World) (hW:Old (w.alloc (.cells #[zi c,zi s,zi k,zi i,zi m,.string dt] 36)) W)=>(((((Old.refl' w).ag _).trans' hW).cell (p:=⟨g,2 + c,none⟩) hgl).trans ((hB.bk.cell _).trans (by rw [<- Qn];exact hC.sq c (by omega))):W.cell? ⟨g,2 + c,none⟩=some (zi sq)))
 have cM:=aa (fun (W:World)=>lG c s k i m dt true h1 W)
 have cW:=aa (fun (W:World)=>kr c s k i m dt true I W)
 have cN:=aa (fun (W:World)=>wF c s k i m dt sq true true h1 (by simpa using hs) W)
 have hX:=aa (fun (W:World) (h:Old (w.alloc (.cells #[zi c,zi s,zi k,zi i,zi m,.string dt] 36)) W)=>lH ((Bk.new w 36 #[zi c,zi s,zi k,zi i,zi m,.string dt]).old h))
 have hBQ:=aa (fun (W:World) (h:Old (w.alloc (.cells #[zi c,zi s,zi k,zi i,zi m,.string dt] 36)) W)=>(Bk.new w 36 #[zi c,zi s,zi k,zi i,zi m,.string dt]).old h)
 have hBB:=aa (fun (W:World) (h:Old (w.alloc (.cells #[zi c,zi s,zi k,zi i,zi m,.string dt] 36)) W)=>hB.old (((Old.refl' w).ag (.cells #[zi c,zi s,zi k,zi i,zi m,.string dt] 36)).trans' h))
 have HB:=aa hB
 have HC:=aa hC
 have HR:=aa hR
 have HFF:=aa hFF
 have hc4:(c:Int) < 4:=af
 have abz:(i:Int) < 32:=af
 have Z:cs[1]?=some (.slice A n ca):=hC.l0
 have HS:=aa hs
 clear h1 I hs hB hC hR hFF hGR hm hok hkl
 go_enter func90,ntmps90
 go_wp2_with (first
  | (go_at_call 81;refine (cM.o _).mono ?_;rintro e w1 ⟨rfl,hb1⟩;obtain ⟨⟨x0,x1,x2,x3,x4,x5⟩,l1⟩:=hX.o _ hb1)
  | (go_at_call 142;refine (cW.o _).mono ?_;rintro e w2 ⟨rfl,hb2⟩;clear x0 x1 x2 x3 x4 x5 l1;have B:=hb1.trans' hb2;obtain ⟨⟨x0,x1,x2,x3,x4,x5⟩,l1⟩:=hX.o _ B;clear hb1 hb2))
 refine aY (R:=pick [eqv (.agg #[zi c,zi s,zi k,zi i,zi m,.string dt]),eqv (av g 0),eqv (av w.heap.size 0),eqv (zi c),eqv (av g 0),eqv (av g 2),eqv (av g (2 + c)),eqv (zi sq),eqv (.bool true),eqv (.bool false),eqv (.bool false)]) (S:=fun _ w'=>Old (w.alloc (.cells #[zi c,zi s,zi k,zi i,zi m,.string dt] 36)) w') (T:=Old) ay ay ay (ai.pick (ai.eqv (ai.eqv (ai.eqv (ai.eqv (ai.eqv (ai.eqv (ai.eqv (ai.eqv (ai.eqv (ai.eqv (ai.eqv (ai.nil))))))))))))) (B.drew') ?steps ?ends
 case steps=>exact Us
 case ends=>
  intro jA w9 J K
  iterate 11 refine .eqv _ _ rfl (fun _ h=>h) ?_
  refine Ends.nil ?_
  clear K
  simp only [aC,ax,fM,fJ]
  clear x0 x1 x2 x3 x4 x5 l1 B
  have B:=J
  clear J
  obtain ⟨⟨x0,x1,x2,x3,x4,x5⟩,l1⟩:=hX.o _ B
  go_wp2_with fail
  clear x0 x1 x2 x3 x4 x5 l1
  have N:=hBB.o _ B.drew'
  have Zc:=hBQ.o _ B.drew'
  have hw4:Old w w9.drew:=(((Old.refl' w).ag (.cells #[zi c,zi s,zi k,zi i,zi m,.string dt] 36)).trans' B).drew'
  obtain ⟨O,P⟩:=aR (w9.drew)
  rw [P] at N Zc hw4
  have Dm:=N.bk
  have wR:=N.row
  have Fy:=N.Km
  have CS:=aa (fun (U:World) (h:Old O U)=>(⟨(lH (Zc.old h)).1,((Dm.old h).cell 1).trans Z⟩:(U.cell? ⟨w.heap.size,0,none⟩=some (zi c)/\U.cell? ⟨w.heap.size,1,none⟩=some (zi s)/\U.cell? ⟨w.heap.size,2,none⟩=some (zi k)/\U.cell? ⟨w.heap.size,3,none⟩=some (zi i)/\U.cell? ⟨w.heap.size,4,none⟩=some (zi m)/\U.cell? ⟨w.heap.size,5,none⟩=some (.string dt))/\U.cell? ⟨g,1,none⟩=some (.slice A n ca)))
  have hqg:g≠w.heap.size:=af
  obtain ⟨Fin,X⟩:∃ F:World->Prop,F=fun U=>∃ A2 c2,nH U g (cs.setIfInBounds 1 (.slice A2 (n + 1) c2)) (.slice A2 (n + 1) c2) (n + 1) (xs ++ [zi c,zi s,zi k,zi i,zi m,.string dt]) R k0 rs gs Fs st/\Bk U w.heap.size 36 #[zi c,zi s,zi k,zi i,zi m,.string dt]/\
   Fr (fun b=>b=g∨(Value.slice A n ca).ownBlock=some b) w U/\(∀ b,(Value.slice A2 (n + 1) c2).ownBlock=some b->(Value.slice A n ca).ownBlock=some b∨w.heap.size<=b):=⟨_,rfl⟩
  have wS:=fun (A2:Option Addr) (c2:Nat) (W2:World) (I:fZ (O.alloc (.cells #[zi c,zi s,zi k,zi i,zi m,.string dt] 36)) 0 36 6 (.slice A n ca) (n + 1) (xs ++ [zi c,zi s,zi k,zi i,zi m,.string dt]) (.slice A2 (n + 1) c2) W2)=>(by
   obtain ⟨a1,a2,a3⟩:=N.app ((Old.refl' O).ag _) I
   rw [X]
   have hlt:=HB.o.row
   have hqn:¬ (w.heap.size=g∨(Value.slice A n ca).ownBlock=some w.heap.size):=fun e=>by
    rcases e with e | e
    ·exact hqg e.symm
    ·have:=jK HB.o.row e;omega
   refine ⟨A2,c2,a1,Zc.fr a2 hqn,(Fr.aj hw4).trans a2,fun b hb=>?_⟩
   rcases a3 b hb with hb | hb
   ·exact .inl hb
   ·have:=hw4.size;exact .inr af:Fin (W2.setCell ⟨g,1,none⟩ (.slice A2 (n + 1) c2)))
  clear N Zc hw4 B
  refine aY (R:=pick [eqv (av g 0),eqv (av g 0),eqv (av g 0),eqv (av g 1),eqv (.slice A n ca),eqv (.agg #[zi c,zi s,zi k,zi i,zi m,.string dt]),eqv (.slice (some ⟨O.heap.size,0,none⟩) 1 1),fun v w'=>∃ A2 c2,v=.slice A2 (n + 1) c2,eqv (av g 0),eqv (av g 1),eqv (undef)]) (S:=fun σ w'=>(σ 10≠none->Fin w')/\(σ 10=none->σ 7≠none->∃ A2 c2,σ 7=some (.slice A2 (n + 1) c2)/\fZ (O.alloc (.cells #[zi c,zi s,zi k,zi i,zi m,.string dt] 36)) 0 36 6 (.slice A n ca) (n + 1) (xs ++ [zi c,zi s,zi k,zi i,zi m,.string dt]) (.slice A2 (n + 1) c2) w')/\(σ 10=none->σ 7=none->σ 6≠none->w'=(O.alloc (.cells #[zi c,zi s,zi k,zi i,zi m,.string dt] 36)))/\(σ 10=none->σ 7=none->σ 6=none->w'=O)) (T:=(fun _ _=>True)) ay ay ay (ai.pick (ai.eqv (ai.eqv (ai.eqv (ai.eqv (ai.eqv (ai.eqv (ai.eqv (ai.cons (fun _ _ _ _ h=>h) (ai.eqv (ai.eqv (ai.eqv (ai.nil))))))))))))) (⟨fun h=>absurd rfl h,fun _ h=>absurd rfl h,fun _ _ h=>absurd rfl h,fun _ _ _=>P⟩) ?steps ?ends
  case steps=>
   refine .cons (zp [] [(0,g)]) <|.cons (zp [] [(0,g)]) <|.cons (zp [(1,31)] []) <|.cons (zp [(2,32)] []) ?_
   refine .cons (zp [(3,33)] [] (fun d E w' hk hda hS hc hf=>by rintro _ q3 rfl e33 ;obtain ⟨⟨s0,s1,s2,s3,s4,s5⟩,t1⟩:=CS.o w' ((Classical.em (d 6=none)).elim (fun L=>by rw [hS.2.2.2 (hk 10 (by kernel_rfl)) (hk 7 (by kernel_rfl)) L];exact Old.refl' _) (fun L=>by rw [hS.2.2.1 (hk 10 (by kernel_rfl)) (hk 7 (by kernel_rfl)) L];exact (Old.refl' _).ag _));exact ⟨_,by go_simp,rfl⟩)) ?_
   refine .cons (zp [] [(3,w.heap.size)] (fun d E w' hk hda hS hc hf=>by rintro  e3;obtain ⟨⟨s0,s1,s2,s3,s4,s5⟩,t1⟩:=CS.o w' ((Classical.em (d 6=none)).elim (fun L=>by rw [hS.2.2.2 (hk 10 (by kernel_rfl)) (hk 7 (by kernel_rfl)) L];exact Old.refl' _) (fun L=>by rw [hS.2.2.1 (hk 10 (by kernel_rfl)) (hk 7 (by kernel_rfl)) L];exact (Old.refl' _).ag _));exact ⟨_,by go_simp,rfl⟩)) ?_
   refine aH.cons (bP [(5,35)] [] rfl rfl ay ay rfl ?_) ?_
   ·rintro d a w' hk hda hS _ q5 rfl e35 
    first | refine Given.nil (aU.nil ?_) | refine aU.nil ?_
    obtain rfl:=(hS.2.2.2 (hk 10 ay) (hk 7 ay) (hk 6 ay)).symm
    refine jC (w':=(O.alloc (.cells #[zi c,zi s,zi k,zi i,zi m,.string dt] 36))) (.slice (some ⟨O.heap.size,0,none⟩) 1 1) (by revert e35;generalize a.eval=E;intro e35;go_simp) ⟨_,rfl,rfl,trivial,?_⟩
    exact ⟨fun h=>absurd (hk 10 ay) yg,fun _ h=>absurd (hk 7 ay) yg,fun _ _ _=>rfl,fun _ _ h=>xX⟩
   refine aH.cons (bP [(4,34),(6,36)] [] rfl rfl ay ay rfl ?_) ?_
   ·rintro d a w' hk hda hS _ q4 rfl e34 _ q6 rfl e36 
    first | refine Given.nil (aU.nil ?_) | refine aU.nil ?_
    obtain rfl:=hS.2.2.1 (hk 10 ay) (hk 7 ay) (by rw [q6];simp)
    refine qU _ (.tmp 34) (.tmp 36) 43 rfl 0 36 j0 (.agg #[zi 0,zi 0,zi 0,zi 0,zi 0,.string { data:=#[] }]) 6 56 underlying43 hj0 Av Aw Ay rfl aW (.slice A n ca) n (xs) e34 (wR.alloc _) (some ⟨O.heap.size,0,none⟩) 1 1 [zi c,zi s,zi k,zi i,zi m,.string dt] e36 rfl (cz (Bk.new O 36 #[zi c,zi s,zi k,zi i,zi m,.string dt])) tC qy af (Nat.zero_le _) (n + 1) rfl _ rfl ?_
    intro A2 c2 W2 I
    exact ⟨_,rfl,⟨A2,c2,rfl⟩,trivial,fun h=>absurd (hk 10 ay) yg,fun _ _=>⟨A2,c2,vL,I⟩,fun _ h=>xX,fun _ h=>xX⟩
   refine .cons (zp [(0,30)] []) <|.cons (zp [(8,38)] []) ?_
   refine aH.cons (dH [(9,39),(7,37)] [] rfl rfl ay ay rfl (fun d E w' hk hda hS hc hf=>by rintro _ q9 rfl e39 _ q7 ⟨A2,c2,rfl⟩ e37 ;obtain ⟨A3,c3,e14,I⟩:=hS.2.1 (hk 10 (by kernel_rfl)) (by rw [q7];simp);rw [q7] at e14;injection e14 with e14;injection e14 with AB _ AF;subst AB AF;have hG2:=I.bk (Dm.alloc _) Fy;have y0:=(hG2.cell 1).trans Z;have y1:=hG2.frozen 1;exact ⟨w'.setCell ⟨g,1,none⟩ (.slice A2 (n + 1) c2),by go_simp,rfl,trivial,⟨fun _=>wS _ _ _ I,fun h=>by simp [upd] at h,fun h=>by simp [upd] at h,fun h=>by simp [upd] at h⟩⟩)) ?_
   exact aH.nil
  case ends=>
   intro jA w9 J K
   iterate 7 refine .eqv _ _ rfl (fun _ h=>h) ?_
   refine Ends.ex (some 37) rfl ?_
   rintro _ p7 ⟨A2,c2,rfl⟩
   iterate 3 refine .eqv _ _ rfl (fun _ h=>h) ?_
   refine Ends.nil ?_
   have z:=K
   clear K
   simp only [aC,ax,fM,fJ]
   have M:=J.1 (by have:=z 10 (by simp);intro e;rw [e] at this;simp at this)
   clear J z
   rw [X] at M
   obtain ⟨A2,c2,ML,MM,Zd,hV5⟩:=M
   clear CS wS Dm wR Fy X P
   obtain ⟨W5,R4⟩:=aR (w9)
   rw [R4] at ML MM Zd
   simp only [R4]
   clear R4
   obtain ⟨Y,VE⟩:=aR (xs ++ [zi c,zi s,zi k,zi i,zi m,.string dt])
   obtain ⟨C,H⟩:=aR (cs.setIfInBounds 1 (Value.slice A2 (n + 1) c2))
   rw [H,VE] at ML
   have hl1:C[1]?=some (.slice A2 (n + 1) c2):=H▸get_eq Z _
   have D:=fun o1 o2=>vT (a:=2 + c) (b:=6 + i) (u:=zi s) (v:=zi ((n:Int) + 1)) af af hl1 o1 o2
   have hC2:=fun o1 o2=>rT (a:=2 + c) (b:=6 + i) (u:=zi s) (v:=zi ((n:Int) + 1)) (j:=2 + c) (cs:=C) (w:=zi (fK l.qs c)) (by rw [<- H,bK (by omega)];exact HC.o.sq c (by omega)) o1 o2
   have VF:=fun o1 o2=>rT (a:=2 + c) (b:=6 + i) (u:=zi s) (v:=zi ((n:Int) + 1)) (j:=6 + i) (cs:=C) (w:=zi (pQ l.qs i)) (by rw [<- H,bK (by omega)];exact HC.o.tc i (by omega)) o1 o2
   have Kr:∀ (d:Nat->Option Value) (W:World),d 16=none->nH W g (cs2 C (2 + c) (6 + i) (zi s) (zi ((n:Int) + 1)) (d 16) (d 20)) (.slice A2 (n + 1) c2) (n + 1) Y R k0 rs gs Fs st->
    nH (W.setCell ⟨g,2 + c,none⟩ (zi s)) g (cs2 C (2 + c) (6 + i) (zi s) (zi ((n:Int) + 1)) (upd d 16 undef 16) (upd d 16 undef 20)) (.slice A2 (n + 1) c2) (n + 1) Y R k0 rs gs Fs st:=fun d W h1 I=>by
    have e1:upd d 16 undef 16=some undef:=vL
    have e2:upd d 16 undef 20=d 20:=vL
    rw [h1] at I
    rw [e1,e2,<- PZ af]
    exact I.bH _ _
   have Ks:∀ (d:Nat->Option Value) (W:World),d 20=none->nH W g (cs2 C (2 + c) (6 + i) (zi s) (zi ((n:Int) + 1)) (d 16) (d 20)) (.slice A2 (n + 1) c2) (n + 1) Y R k0 rs gs Fs st->
    nH (W.setCell ⟨g,6 + i,none⟩ (zi ((n:Int) + 1))) g (cs2 C (2 + c) (6 + i) (zi s) (zi ((n:Int) + 1)) (upd d 20 undef 16) (upd d 20 undef 20)) (.slice A2 (n + 1) c2) (n + 1) Y R k0 rs gs Fs st:=fun d W h1 I=>by
    have e1:upd d 20 undef 20=some undef:=vL
    have e2:upd d 20 undef 16=d 16:=vL
    rw [h1] at I
    rw [e1,e2,<- P7]
    exact I.bH _ _
   have abA:(n:Int) + 1<=50001:=af
   have HL1:=aa hl1
   clear hl1 Z
   go_wp2_with fail
   refine aY (R:=pick [eqv (av g 0),eqv (av w.heap.size 0),eqv (zi c),eqv (av g 0),eqv (av w.heap.size 3),eqv (zi i),eqv (av w.heap.size 1),eqv (zi s),eqv (av g 0),eqv (av g 0),eqv (av g 1),eqv (.slice A2 (n + 1) c2),eqv (zi ((n:Int) + 1)),eqv (av g 0),eqv (av g 2),eqv (av g (2 + c)),eqv (undef),eqv (av g 0),eqv (av g 6),eqv (av g (6 + i)),eqv (undef)]) (S:=fun σ w'=>nH w' g (cs2 C (2 + c) (6 + i) (zi s) (zi ((n:Int) + 1)) (σ 16) (σ 20)) (.slice A2 (n + 1) c2) (n + 1) Y R k0 rs gs Fs st/\Bk w' w.heap.size 36 #[zi c,zi s,zi k,zi i,zi m,.string dt]/\Fr (fun b=>b=g) W5 w') (T:=(fun _ _=>True)) ay ay ay (ai.pick (ai.eqv (ai.eqv (ai.eqv (ai.eqv (ai.eqv (ai.eqv (ai.eqv (ai.eqv (ai.eqv (ai.eqv (ai.eqv (ai.eqv (ai.eqv (ai.eqv (ai.eqv (ai.eqv (ai.eqv (ai.eqv (ai.eqv (ai.eqv (ai.eqv (ai.nil))))))))))))))))))))))) (⟨ML.old (Old.refl' _).drew',MM.drew,(Fr.refl _ _).drew⟩) ?steps ?ends
   case steps=>
    refine .cons (zp [] [(0,g)]) <|.cons (zp [] [(3,w.heap.size)]) ?_
    refine .cons (zp [(1,41)] [] (fun d E w' hk hda hS hc hf=>by rintro _ q1 rfl e41 ;obtain ⟨r,y,G⟩:=hS;obtain ⟨⟨s0,s1,s2,s3,s4,s5⟩,l9⟩:=lH y;have f:=r.bk;have t1:=(f.cell 1).trans (D _ _);exact ⟨_,by go_simp,rfl⟩)) ?_
    refine .cons (zp [] [(0,g)]) <|.cons (zp [] [(3,w.heap.size)]) ?_
    refine .cons (zp [(4,44)] [] (fun d E w' hk hda hS hc hf=>by rintro _ q4 rfl e44 ;obtain ⟨r,y,G⟩:=hS;obtain ⟨⟨s0,s1,s2,s3,s4,s5⟩,l9⟩:=lH y;have f:=r.bk;have t1:=(f.cell 1).trans (D _ _);exact ⟨_,by go_simp,rfl⟩)) ?_
    refine .cons (zp [] [(3,w.heap.size)]) ?_
    refine .cons (zp [(6,46)] [] (fun d E w' hk hda hS hc hf=>by rintro _ q6 rfl e46 ;obtain ⟨r,y,G⟩:=hS;obtain ⟨⟨s0,s1,s2,s3,s4,s5⟩,l9⟩:=lH y;have f:=r.bk;have t1:=(f.cell 1).trans (D _ _);exact ⟨_,by go_simp,rfl⟩)) ?_
    refine .cons (zp [] [(0,g)]) <|.cons (zp [(8,48)] []) <|.cons (zp [(9,49)] []) ?_
    refine .cons (zp [(10,50)] [] (fun d E w' hk hda hS hc hf=>by rintro _ GI rfl e50 ;obtain ⟨r,y,G⟩:=hS;obtain ⟨⟨s0,s1,s2,s3,s4,s5⟩,l9⟩:=lH y;have f:=r.bk;have t1:=(f.cell 1).trans (D _ _);exact ⟨_,by go_simp,rfl⟩)) ?_
    refine .cons (zp [(11,51)] []) <|.cons (zp [(0,40)] []) <|.cons (zp [(13,53)] []) ?_
    refine .cons (zp [(14,54),(2,42)] [] (fun d E w' hk hda hS hc hf=>by rintro _ Qk rfl e54 _ q2 rfl e42 ;obtain ⟨r,y,G⟩:=hS;obtain ⟨⟨s0,s1,s2,s3,s4,s5⟩,l9⟩:=lH y;have f:=r.bk;have t1:=(f.cell 1).trans (D _ _);exact ⟨_,by go_simp,rfl⟩)) ?_
    refine aH.cons (dH [(15,55),(7,47)] [] rfl rfl ay ay rfl (fun d E w' hk hda hS hc hf=>by rintro _ q15 rfl e55 _ q7 rfl e47 ;obtain ⟨r,y,G⟩:=hS;obtain ⟨⟨s0,s1,s2,s3,s4,s5⟩,l9⟩:=lH y;have f:=r.bk;have t1:=(f.cell 1).trans (D _ _);obtain ⟨v0,hv0⟩:=hC2 (d 16) (d 20);have y0:=(f.cell (2 + c)).trans hv0;have y1:=f.frozen (2 + c);exact ⟨w'.setCell ⟨g,2 + c,none⟩ (zi s),by go_simp,rfl,trivial,⟨Kr _ _ (hk 16 (by kernel_rfl)) r,y.far (p:=⟨g,2 + c,none⟩) (Ne.symm hqg) _,G.setCell (p:=⟨g,2 + c,none⟩) (.inr rfl) _⟩⟩)) ?_
    refine .cons (zp [(3,43)] []) <|.cons (zp [(17,56)] []) ?_
    refine .cons (zp [(18,57),(5,45)] [] (fun d E w' hk hda hS hc hf=>by rintro _ q18 rfl e57 _ q5 rfl e45 ;obtain ⟨r,y,G⟩:=hS;obtain ⟨⟨s0,s1,s2,s3,s4,s5⟩,l9⟩:=lH y;have f:=r.bk;have t1:=(f.cell 1).trans (D _ _);exact ⟨_,by go_simp,rfl⟩)) ?_
    refine aH.cons (dH [(19,58),(12,52)] [] rfl rfl ay ay rfl (fun d E w' hk hda hS hc hf=>by rintro _ q19 rfl e58 _ MJ rfl e52 ;obtain ⟨r,y,G⟩:=hS;obtain ⟨⟨s0,s1,s2,s3,s4,s5⟩,l9⟩:=lH y;have f:=r.bk;have t1:=(f.cell 1).trans (D _ _);obtain ⟨v0,hv0⟩:=VF (d 16) (d 20);have y0:=(f.cell (6 + i)).trans hv0;have y1:=f.frozen (6 + i);exact ⟨w'.setCell ⟨g,6 + i,none⟩ (zi ((n:Int) + 1)),by go_simp,rfl,trivial,⟨Ks _ _ (hk 20 (by kernel_rfl)) r,y.far (p:=⟨g,6 + i,none⟩) (Ne.symm hqg) _,G.setCell (p:=⟨g,6 + i,none⟩) (.inr rfl) _⟩⟩)) ?_
    exact aH.nil
   case ends=>
    intro jA w9 J K
    iterate 21 refine .eqv _ _ rfl (fun _ h=>h) ?_
    refine Ends.nil ?_
    have z:=K
    clear K
    simp only [aC,ax,fM,fJ]
    obtain ⟨Qo,vG,TW⟩:=J
    obtain ⟨u1,hu1⟩:=Option.isSome_iff_exists.1 (z 16 bE)
    obtain ⟨u2,hu2⟩:=Option.isSome_iff_exists.1 (z 20 bE)
    rw [hu1,hu2] at Qo
    clear hu1 hu2 z
    have hT:=Qo.bk
    have hz0:=(hT.cell 1).trans (vT (a:=2 + c) (b:=6 + i) (u:=zi s) (v:=zi ((n:Int) + 1)) af af HL1.o (some u1) (some u2))
    have abB:=hT.lt
    have hsz:=Zd.size
    have hsz2:=TW.size
    obtain ⟨F9,hL9,VG⟩:=HGR.o w9 A A2 ca c2 gs R rs Fs cs _ af (by rw [hxs,hst,hk0];exact HB.o) (by rw [hxs,hst,hk0,show (⟨c,s,k,i,m,dt⟩:aG).cells=[zi c,zi s,zi k,zi i,zi m,.string dt] from rfl,VE];exact Qo) (by
     show MK ((C.setIfInBounds (2 + c) (zi s)).setIfInBounds (6 + i) (zi ((n:Int) + 1))) _ _ _ _ _
     rw [<- H]
     exact HC.o.put af af hn) HR.o HFF.o hV5
    rw [hlp] at hL9
    have M:=aa (⟨F9,hL9,VG⟩:∃ F',eZ w9 g F' lp/\∀ b,F' b->F b∨w.heap.size<=b)
    have hfr:=aa (Zd.trans' TW (fun b _ hb=>.inl hb) |>.mono (T:=F) (fun b _ hb=>HFF.o b (by
     rcases hb with hb | hb
     ·exact .inl hb
     ·exact .inr (.inl hb))))
    clear Qo vG TW hT hL9 VG D hC2 VF Kr Ks ML MM Zd
    go_wp2_with fail
    refine bodyPost_ret (v:=.tuple #[zi ((n:Int) + 1),zi 0]) (by simp [results,results90,go_sem]) rfl ?_
    exact ⟨rfl,M.o,hfr.o⟩
theorem NW (g:Nat) (F:Nat->Prop) (l:dW) (n:Nat) (z:l.qs.length=n) (s:n<=50000) (q:aG) (A E:Int) (l':dW) (B:(l.at_ q:Int)=A) (C:l.err q=E) (D:l.put q=l') (w:World) (h:eZ w g F l) :
 aS 90 #[g,.agg #[zi q.client,zi q.seq,zi q.kind,zi q.id,zi q.eD,.string q.data]] w fun e w'=>e=.returned (.tuple #[zi A,zi E])/\
  (∃ F',eZ w' g F' l'/\∀ b,F' b->F b∨w.heap.size<=b)/\Fr F w w':=by
 subst B C D
 by_cases d:(q.q.may && dU q.kind)=true
 ·by_cases j:fK l.qs q.client < q.seq
  ·have f:l.may q=true:=by unfold dW.may;rw [d];simpa using j
   have m:l.at_ q=l.qs.length + 1:=by unfold dW.at_;rw [f];rfl
   have p:l.err q=0:=by unfold dW.err;rw [d,if_pos rfl,if_pos j]
   rw [m,p,z]
   exact Hf g F l n z s q d j w h
  ·have f:l.may q=false:=by unfold dW.may;rw [d];simpa using j
   have u:l.put q=l:=by unfold dW.put;rw [f];rfl
   have m:l.at_ q=0:=by unfold dW.at_;rw [f];rfl
   have p:l.err q=9:=by unfold dW.err;rw [d,if_pos rfl,if_neg j]
   rw [u,m,p]
   exact (DZ g F l q d j w h).mono fun e w' ⟨x,r⟩=>⟨x,⟨F,h.old r,fun k y=>.inl y⟩,Fr.aj r⟩
 ·have i:(q.q.may && dU q.kind)=false:=by simpa using d
  have f:l.may q=false:=by unfold dW.may;rw [i];rfl
  have u:l.put q=l:=by unfold dW.put;rw [f];rfl
  have m:l.at_ q=0:=by unfold dW.at_;rw [f];rfl
  have p:l.err q=1:=by unfold dW.err;rw [i];rfl
  rw [u,m,p]
  exact (Kq g q i w).mono fun e w' ⟨x,r⟩=>⟨x,⟨F,h.old r,fun k y=>.inl y⟩,Fr.aj r⟩
def dW.aam (l:dW) (a:Int) (q:aG):Int:=if a=(l.qs.length:Int) + 1 then l.err q else 9
def dW.take (l:dW) (a:Int) (q:aG):dW:=if a=(l.qs.length:Int) + 1 then l.put q else l
theorem Ea:(prog.info? 49).map (fun i=>(i.zero,i.size,i.bytes))=some (some (.agg #[zi 0,zi 0,.string { data:=#[] },aQ]),4,56):=ay
theorem nH.put {w w':World} {g n k gs:Nat} {cs:Array Value} {V R:Value} {xs rs:List Value} {Fs e:Nat->Prop} {st i:fG} (h:nH w g cs V n xs R k rs gs Fs st) (j:Fr Fs w w') (m:kS w' gs e i) (p:∀ b,e b->Fs b∨w.heap.size<=b) :
 nH w' g cs V n xs R k rs gs e i:=by
 have f:∀ b,b < w.heap.size->¬ Fs b->¬ e b:=fun b d r l=>by
  rcases p b l with h | h
  ·exact r h
  ·omega
 exact ⟨h.bk.fr j h.sg,dh h.row j (fun b d=>h.sv b d),dh h.qD j (fun b d=>h.sr b d),m,f g h.bk.lt h.sg,fun b d=>f b (jK h.row d) (h.sv b d),fun b d=>f b (jK h.qD d) (h.sr b d)⟩
theorem nH.apr {w w1 j:World} {g n k gs i c2:Nat} {cs:Array Value} {B A2:Option Addr} {V:Value} {xs r rs:List Value} {Fs:Nat->Prop} {st:fG} (h:nH w g cs V n xs (.slice B k i) k rs gs Fs st) (s:Old w w1)
 (h2:fZ w1 0 49 4 (.slice B k i) (k + 1) r (.slice A2 (k + 1) c2) j) :
 nH (j.setCell ⟨g,39,none⟩ (.slice A2 (k + 1) c2)) g (cs.setIfInBounds 39 (.slice A2 (k + 1) c2)) V n xs (.slice A2 (k + 1) c2) (k + 1) r gs Fs st/\
 Fr (fun b=>b=g∨(Value.slice B k i).ownBlock=some b) w (j.setCell ⟨g,39,none⟩ (.slice A2 (k + 1) c2))/\
 (∀ b,(Value.slice A2 (k + 1) c2).ownBlock=some b->(Value.slice B k i).ownBlock=some b∨w.heap.size<=b):=by
 have z:=s.size
 have d:=h.old s
 have m:Fr (fun b=>(Value.slice B k i).ownBlock=some b) w1 j:=h2.fr (fun k _ u=>u)
 have l:∀ b,(Value.slice A2 (k + 1) c2).ownBlock=some b->(Value.slice B k i).ownBlock=some b∨w1.heap.size=b:=fun b hb=>Ri
 have y:nH j g cs V n xs (.slice A2 (k + 1) c2) (k + 1) r gs Fs st:=
  ⟨d.bk.fr m d.Kn,dh d.row m (fun b hb f=>d.Qm hb f),h2.own,d.He.fr m (fun b hb f=>d.sr b f hb),d.sg,d.sv,fun b hb x=>by
   rcases l b hb with e | e
   ·exact d.sr b e x
   ·have:=d.He.lt b x;omega⟩
 refine ⟨y.bH 39 _,?_,fun b hb=>?_⟩
 ·exact Fr.setCell (p:=⟨g,39,none⟩) ((Fr.aj s).trans (m.mono fun k _ u=>.inr u)) (.inr (.inl rfl)) _
 ·rcases l b hb with e | e
  ·exact .inl e
  ·right;omega
theorem MK.rep {cs:Array Value} {V R e:Value} {gs:Nat} {d:Int} {f:List aG} (h:MK cs V R gs d f):MK (cs.setIfInBounds 39 e) V e gs d f:=
 ⟨(bK af _).trans h.q0,(bK af _).trans h.l0,fun c g=>(bK af _).trans (h.sq c g),fun i j=>(bK af _).trans (h.tc i j),(bK af _).trans h.s0,get_eq h.r0 _⟩
theorem pR.snoc {l:dW} {rs:List Value} (h:pR l rs) (z:rs.length=l.k * 4) {r:om} (e:l.rep l.k=r) {A:Option Addr} {c:Nat}:pR (l.bD (l.k + 1)) (rs ++ [zi r.code,zi r.fQ,.string r.data,.slice A 0 c]):=by
 intro j f
 have g:j < l.k + 1:=f
 have i:(l.bD (l.k + 1)).rep j=l.rep j:=rfl
 rw [i]
 by_cases d:j < l.k
 ·obtain ⟨k,m,n,A',p,h4⟩:=h j d
  exact ⟨by rw [BG af];exact k,by rw [BG af];exact m,by rw [BG af];exact n,A',p,by rw [BG af];exact h4⟩
 ·obtain rfl:j=l.k:=by omega
  rw [e]
  have s:l.k * 4 - rs.length=0:=af
  have u:l.k * 4 + 1 - rs.length=1:=af
  have x:l.k * 4 + 2 - rs.length=2:=af
  have y:l.k * 4 + 3 - rs.length=3:=af
  exact ⟨by rw [Dr af,s];rfl,by rw [Dr af,u];rfl,by rw [Dr af,x];rfl,A,c,by rw [Dr af,y];rfl⟩
end Go.Proofs.YthihpfpbiajddaaGreat
