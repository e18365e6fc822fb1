/- Parts of the proof. -/
import Derived.Test.YthihpfpbiajddaaGreatHQWorldNobody29
set_option maxRecDepth 100000
set_option maxHeartbeats 8000000
open Go.Proofs.Tryz
namespace Go.Proofs.YthihpfpbiajddaaGreat
open Go.RowKit
section
variable {w w':World} {own:Nat->Tag} {c W:Nat} {cf:dZ} {u:bV} {gs mR cs:List Nat}
theorem CW (h:eF w own (wT c) (jk W cf u gs mR cs)) (h5:gs.length<=5) (f p g:Nat) (hrb:own f=wT c 15∨w.heap.size<=f) (y:Fr (fun k=>k=W∨k=f∨own k=wT c 15) w w')
 (D:∀ M,Bk w W 82 (gL cf u M)->Bk w' W 82 (gL cf { u with au:=.slice (some ⟨f,0,none⟩) (cs ++ [g]).length p } M)) (U:iM w' (some ⟨f,0,none⟩) (cs ++ [g])) (E:f < w'.heap.size)
 (hg:w.heap.size<=g) (V:g≠f) (N:∀ K,gM w' (fun k=>k=g) K g (jc.new (cs.length:Int) cf.nodes)) :
 ∃ d,eF w' d (wT c) (jk W cf { u with au:=.slice (some ⟨f,0,none⟩) (cs ++ [g]).length p } gs mR (cs ++ [g]))/\Ext w own d/\∀ k,w.heap.size<=k->d k=aB∨∃ q,d k=wT c q:=by
 have s:own W=wT c 0:=(h.at_ 0:iB w (fun k=>own k=wT c 0) (fun k=>own k=aB) W cf u [dO cf.nodes]).gF
 obtain ⟨l,X⟩:∃ x,x=1000 + cs.length:=⟨_,rfl⟩
 obtain ⟨F,i⟩:∃ F:Nat->Nat->Prop,∀ r k,F r k↔(r=0/\own k=wT c 0∨r=15/\(own k=wT c 15∨k=f)∨r=l/\k=g):=⟨fun r k=>_,fun _ _=>Iff.rfl⟩
 have ni:∀ k j,w.heap.size<=k->own k≠wT c j:=fun k j hk e=>jP c j (e.symm.trans (h.top k hk))
 have Y:(cs ++ [g])[cs.length]?.getD 0=g:=bE
 have G:∀ q,(q=0∨q=15∨q=l)->(jk W cf { u with au:=.slice (some ⟨f,0,none⟩) (cs ++ [g]).length p } gs mR (cs ++ [g]) q).P w' (F q) (fun k=>own k=aB/\∀ r,(r=0∨r=15∨r=l)->¬ F r k):=by
  intro q C
  rcases C with rfl | rfl | Z
  ·obtain ⟨⟨rs,A,qc,b1,b2,b3,b4,O⟩,TV,H⟩:=(h.at_ 0:iB w (fun k=>own k=wT c 0) (fun k=>own k=aB) W cf u [dO cf.nodes])
   refine (⟨⟨rs,A,qc,b1,D _ b2,dh b3 y (fun k hk e=>?_),fun k hk=>(i 0 k).2 (.inl ⟨rfl,b4 k hk⟩),fun x P=>⟨(O x P).1,?_⟩⟩,(i 0 W).2 (.inl ⟨rfl,s⟩),fun k hk=>?_⟩:iB w' (F 0) _ W cf { u with au:=.slice (some ⟨f,0,none⟩) (cs ++ [g]).length p } [dO cf.nodes])
   ·exact UL
   ·obtain ⟨k1,k2⟩:=(O x P).2
    have R:∀ hn:x.1.nodes≠[],∀ a,x.2.1=some a->own a.block=aB/\a.block < w.heap.size:=fun hn a e=>U6
    refine ⟨ah.fr k1 y (fun hn a e=>?_),fun hn a e=>?_⟩
    ·obtain ⟨m,I⟩:=R (by simpa using hn) a e
     rintro (e2 | e2 | e2)
     ·exact jP c 0 ((e2▸s).symm.trans m)
     ·rcases hrb with n | n
      ·exact jP c 15 ((e2▸n).symm.trans m)
      ·omega
     ·exact jP c 15 (e2.symm.trans m)
    ·obtain ⟨m,I⟩:=R hn a e
     have z:∀ r,¬ F r a.block:=fun r S=>by
      rcases (i r _).1 S with ⟨-,e2⟩ | ⟨-,e2 | e2⟩ | ⟨-,e2⟩
      ·exact jP c 0 (e2.symm.trans m)
      ·exact jP c 15 (e2.symm.trans m)
      ·rcases hrb with n | n
       ·exact jP c 15 ((e2▸n).symm.trans m)
       ·omega
      ·omega
     exact ⟨⟨m,fun r _=>z r⟩,z 0⟩
   ·rcases (i 0 k).1 hk with ⟨-,e⟩ | ⟨e,-⟩ | ⟨e,-⟩
    ·exact iD (H k e) y.size
    all_goals omega
  ·refine ⟨⟨some ⟨f,0,none⟩,p,rfl,U,fun a ha=>by cases ha;exact (i 15 f).2 (by simp)⟩,fun k hk=>?_⟩
   rcases (i 15 k).1 hk with ⟨e,-⟩ | ⟨-,e | e⟩ | ⟨e,-⟩
   ·omega
   ·exact iD (Nat.lt_of_not_le fun h6=>ni k 15 h6 e) y.size
   ·exact e▸E
   all_goals omega
  ·rw [Z]
   have e:jk W cf { u with au:=.slice (some ⟨f,0,none⟩) (cs ++ [g]).length p } gs mR (cs ++ [g]) l=gy g (jc.new (cs.length:Int) cf.nodes):=by
    have T:l - 1000=cs.length:=af
    have B:¬ l / 20 - 1 < gs.length:=af
    unfold jk
    rw [if_neg af,if_neg af,if_neg af,if_neg af,if_neg af,if_neg af,if_neg af,if_neg (fun J=>B J.2.2),if_neg (fun J=>B J.2.2),if_pos (by rw [T];exact ⟨by omega,by simp⟩),T,Y]
   rw [e]
   refine (gy g _).mono (K:=fun _=>False) (F:=fun k=>k=g) (N _) (fun k (e:k=g)=>(i l k).2 (by simp [e])) (fun k hk=>?_) (fun k _ h=>h.elim)
   rcases (i l k).1 hk with ⟨e,-⟩ | ⟨e,-⟩ | ⟨-,e⟩
   ·omega
   ·omega
   ·exact (N (fun _=>False)).lt k e
 have hA:∀ q,¬ (q=0∨q=15∨q=l)->jk W cf { u with au:=.slice (some ⟨f,0,none⟩) (cs ++ [g]).length p } gs mR (cs ++ [g]) q=jk W cf u gs mR cs q:=by
  intro q C
  unfold jk
  rw [if_neg (show ¬ q=0 by omega),if_neg (show ¬ q=0 by omega),if_neg (show ¬ q=15 by omega),if_neg (show ¬ q=15 by omega)]
  by_cases hi:q - 1000 < cs.length
  ·have e1:(cs ++ [g])[q - 1000]?=cs[q - 1000]?:=BG hi
   have n:(q - 1000 < (cs ++ [g]).length)=(q - 1000 < cs.length):=jR
   simp only [e1,n]
  ·by_cases he:q - 1000=cs.length
   ·have L:¬ (1000<=q/\q - 1000 < (cs ++ [g]).length):=by omega
    have e6:¬ (1000<=q/\q - 1000 < cs.length):=af
    rw [if_neg L,if_neg e6]
   ·have n:(q - 1000 < (cs ++ [g]).length)=(q - 1000 < cs.length):=by simp;omega
    have L:¬ (1000<=q/\q - 1000 < cs.length):=af
    simp only [n,if_neg L]
 obtain ⟨d,m,I,h3⟩:=h.turns (w':=w') (jP c) (lT c) (fun q=>q=0∨q=15∨q=l) F hA G (fun q C k hk=>by
  rcases (i q k).1 hk with ⟨rfl,e⟩ | ⟨rfl,e | e⟩ | ⟨-,e⟩
  ·exact .inl e
  ·exact .inl e
  ·rw [e];exact hrb
  ·right;omega) (fun q r C S k hk e1 e2=>by
  have e1:=(i q k).1 e1
  have e2:=(i r k).1 e2
  have z1:=ni k 0 hk
  have z2:=ni k 15 hk
  simp only [z1,z2,and_false,false_or] at e1 e2
  omega) (y.mono fun k hk e=>by
  rcases e with rfl | rfl | e
  ·exact ⟨0,.inl rfl,s⟩
  ·rcases hrb with e | e
   ·exact ⟨15,.inr (.inl rfl),e⟩
   ·omega
  ·exact ⟨15,.inr (.inl rfl),e⟩)
 exact ⟨d,m,I,fun k hk=>(h3 k hk).imp id fun ⟨q,_,e⟩=>⟨q,e⟩⟩
end
structure kU (w:World) (own:Nat->Tag) (c W:Nat) (u:bV) (gs cs:List Nat) (l:List bR) (i:Nat) (s:WV):Prop where
 top:vO w own
 len:s.nodes.length=s.conf.nodes/\gs.length=s.conf.nodes/\s.au.length=s.conf.au/\cs.length=s.conf.au
 conf:(1<=s.conf.nodes/\s.conf.nodes<=5)/\1<=s.conf.au/\s.conf.au<=4
 up:∀ j n,s.nodes[j]?=some n->j < i->aN w own c j W (gs[j]?.getD 0) u (s.ns j n)
 dn:∀ j n,s.nodes[j]?=some n->i<=j->Bh w own c j W (gs[j]?.getD 0) u (s.ns j n)
 client:∀ k x,s.au[k]?=some x->(gy (cs[k]?.getD 0) x).P w (fun b=>own b=kZ c k) (fun b=>own b=aB)
 past:(sZ u.pp s.past l).P w (fun b=>own b=oJ c) (fun b=>own b=aB)
 acts:l.map bR.strip=s.acts
 rn:(vk u.nodes gs).P w (fun b=>own b=(c + 1,9,2)) (fun b=>own b=aB)
 rc:(vk u.au cs).P w (fun b=>own b=(c + 1,9,3)) (fun b=>own b=aB)
 Io:(Li u.uY u.dQ).P w (fun b=>own b=(c + 1,9,0)) (fun b=>own b=aB)
 dQ:u.dQ=s.clocks/\s.clocks.length=s.conf.nodes + s.conf.au
section
variable {w w':World} {own own':Nat->Tag} {c i W:Nat} {u:bV} {gs cs:List Nat} {l:List bR} {s:WV}
theorem kU.done (h:kU w own c W u gs cs l i s) (e:s.nodes.length<=i):gZ w own c W u gs cs l s:=
 ⟨h.top,h.len,h.conf,fun j n d=>h.up j n d (iD (List.getElem?_eq_some_iff.1 d).1 e),h.client,h.past,h.acts,h.rn,h.rc,h.Io,h.dQ⟩
theorem kU.old (h:kU w own c W u gs cs l i s) (d:Old w w'):kU w' own c W u gs cs l i s:=
 ⟨h.top.old d.size,h.len,h.conf,fun j n e f=>(h.up j n e f).old d,fun j n e f=>by
  obtain ⟨g,m⟩:=(h.dn j n e f).ex
  exact ⟨⟨g,m.old d⟩,(h.dn j n e f).dQ,(h.dn j n e f).self,(h.dn j n e f).i5⟩,
  fun k x p=>(gy _ x).fr (h.client k x p) (Fr.aj (S:=fun _=>False) d) (fun _ _ h=>h),
  (sZ _ _ l).fr h.past (Fr.aj (S:=fun _=>False) d) (fun _ _ h=>h),h.acts,
  (vk _ _).fr h.rn (Fr.aj (S:=fun _=>False) d) (fun _ _ h=>h),(vk _ _).fr h.rc (Fr.aj (S:=fun _=>False) d) (fun _ _ h=>h),(Li _ _).fr h.Io (Fr.aj (S:=fun _=>False) d) (fun _ _ h=>h),h.dQ⟩
theorem kU.step (h:kU w own c W u gs cs l i s) {n:dM} (f:s.nodes[i]?=some n) {s':NS} (N':aN w' own' c i W (gs[i]?.getD 0) u s') (D:fT w own c i w' own') (hc:s'.conf=s.conf) (zS:s'.now=s.clocks[i]?.getD 0) :
 kU w' own' c W u gs cs l (i + 1) { s with nodes:=s.nodes.set i s'.n,bO:=s'.bO,bY:=s'.bY,aA:=s'.aA }:=by
 have hlt:i < s.nodes.length:=(List.getElem?_eq_some_iff.1 f).1
 have i5:=N'.i5
 refine ⟨N'.top,⟨by simp [h.len.1],h.len.2⟩,h.conf,fun j m hj g=>?_,fun j m hj g=>?_,fun k x p=>?_,?_,h.acts,?_,?_,?_,h.dQ⟩
 ·by_cases e:i=j
  ·exact UF
  ·have d:s.nodes[j]?=some m:=by
    have:(s.nodes.set i s'.n)[j]?=some m:=hj
    rwa [MF e] at this
   exact (h.up j m d af).other N' D e hc
 ·have d:s.nodes[j]?=some m:=by
   have:(s.nodes.set i s'.n)[j]?=some m:=hj
   rwa [MF af] at this
  exact (h.dn j m d af).other N' D af hc
 ·exact jb.did _ (by simp [kZ,aB]) (by simp [kZ,bS]) (by simp only [mine,kZ];omega) (h.client k x p) h.top D
 ·exact jb.did _ (by simp [oJ,aB]) (by simp [oJ,bS]) (by simp only [mine,oJ];omega) h.past h.top D
 ·exact jb.did _ xY BA (by simp only [mine];omega) h.rn h.top D
 ·exact jb.did _ xY BA (by simp only [mine];omega) h.rc h.top D
 ·exact jb.did _ xY BA (by simp only [mine];omega) h.Io h.top D
end
section
variable {w w':World} {own:Nat->Tag} {c i W:Nat} {u:bV} {gs mR cs:List Nat} {cf:dZ}
def WV.made (cf:dZ):WV:=⟨cf,(List.range cf.nodes).map fun i=>gH i cf,(List.range cf.au).map fun i:Nat=>jc.new (i:Int) cf.nodes,List.replicate (cf.nodes + cf.au) 0,[],PV.new,[],fun _ _=>[],[dO cf.nodes]⟩
theorem Iu (h:eF w own (wT c) (jk W cf u gs mR cs)) (F:gs.length=cf.nodes) (g:cs.length=cf.au) (d:(1<=cf.nodes/\cf.nodes<=5)/\1<=cf.au/\cf.au<=4) (l:u.dQ=List.replicate (cf.nodes + cf.au) 0) :
 kU w own c W u gs cs [] 0 (WV.made cf):=by
 refine ⟨h.top,⟨by simp [WV.made],F,by simp [WV.made],g⟩,d,fun j n _ m=>af,fun j n m _=>?_,fun k x C=>?_,?_,rfl,h.at_ 14,h.at_ 15,h.at_ 12,⟨l,by simp [WV.made]⟩⟩
 ·have p:j < cf.nodes:=by
   have:=(List.getElem?_eq_some_iff.1 m).1
   simpa [WV.made] using this
  have G:n=gH j cf:=by
   have:((List.range cf.nodes).map fun i=>gH i cf)[j]?=some n:=m
   rw [List.getElem?_map,List.getElem?_range p] at this
   exact (Option.some.inj this).symm
  subst G
  have D:(List.replicate (cf.nodes + cf.au) (0:Int))[j]?=some 0:=by rw [List.getElem?_replicate,if_pos af]
  have hd:=OQ h (i:=j) af af ⟨by rw [l];exact D,by rw [l,List.length_replicate];omega⟩
  have e:(WV.made cf).ns j (gH j cf)=⟨gH j cf,[],fun _ _=>[],[dO cf.nodes],0,cf⟩:=by
   unfold WV.ns WV.made
   simp only [D,Gu]
  rw [e]
  exact hd
 ·have r:k < cf.au:=by
   have:=(List.getElem?_eq_some_iff.1 C).1
   simpa [WV.made] using this
  have s:x=jc.new (k:Int) cf.nodes:=by
   have:((List.range cf.au).map fun i:Nat=>jc.new (i:Int) cf.nodes)[k]?=some x:=C
   rw [List.getElem?_map,List.getElem?_range r] at this
   exact (Option.some.inj this).symm
  subst s
  obtain ⟨y,H⟩:∃ y:Nat,y=1000:=⟨_,rfl⟩
  obtain ⟨J,K⟩:∃ J,J=y + k:=⟨_,rfl⟩
  have z:=h.at_ J
  have e:jk W cf u gs mR cs J=gy (cs[k]?.getD 0) (jc.new (k:Int) cf.nodes):=by
   have E:J - 1000=k:=af
   have f:¬ J / 20 - 1 < gs.length:=af
   unfold jk
   rw [if_neg af,if_neg af,if_neg af,if_neg af,if_neg af,if_neg af,if_neg af,if_neg (fun A=>f A.2.2),if_neg (fun A=>f A.2.2),if_pos (by rw [E];exact ⟨by omega,by omega⟩),E]
  rw [e] at z
  have I:wT c J=kZ c k:=by
   unfold wT kZ
   rw [if_neg af,if_neg af,if_neg af,if_pos af]
   congr 2
   omega
  rw [I] at z
  exact z
 ·have B:=h.at_ 13
  exact B
end
theorem WT (c p:Nat):(wT c p).1=c + 1:=by
 unfold wT
 split
 ·rfl
 ·split
  ·rfl
  ·split
   ·rfl
   ·split <;> rfl
structure pZ (w0:World) (ni:Nat->Tag) (c W:Nat) (cf:dZ) (k j:Nat) (w:World) (own:Nat->Tag) (u:bV) (gs mR cs:List Nat):Prop where
 all:eF w own (wT c) (jk W cf u gs mR cs)
 ext:Ext w0 ni own
 old:Old w0 w
 new:∀ b,w0.heap.size<=b->own b=aB∨∃ p,own b=wT c p
 lg:gs.length=k
 ld:mR.length=k
 lc:cs.length=j
 dQ:u.dQ=List.replicate (cf.nodes + cf.au) 0
 rn:w.ownsRow 0 94 1 u.nodes k (gs.map ptr)
 Zy:∀ b,u.nodes.ownBlock=some b->own b=wT c 14
 rc:w.ownsRow 0 83 1 u.au j (cs.map ptr)
 oc:∀ b,u.au.ownBlock=some b->own b=wT c 15
 free:∀ b,ni b≠aB->(ni b).1≠c + 1
theorem CX {w:World} {e:TypeId} {n:Nat} {V:Value} {xs:List Value} (h:w.ownsRow 0 e 1 V (n + 1) xs):∃ b q,V=.slice (some ⟨b,0,none⟩) (n + 1) q/\V.ownBlock=some b/\b < w.heap.size:=by
 obtain ⟨A,q,rfl,-,f⟩:=bI h
 rcases h.2 with ⟨-,h0⟩ | ⟨b,g,d,e,-⟩
 ·omega
 ·cases e
  exact ⟨b,q,rfl,rfl,vN h⟩
section
variable {w0 w w9 qF:World} {ni own:Nat->Tag} {c W k j:Nat} {cf:dZ} {u:bV} {gs mR cs:List Nat}
theorem pZ.ge (h:pZ w0 ni c W cf k j w own u gs mR cs) {b p:Nat} (f:own b=wT c p):w0.heap.size<=b:=by
 rcases Nat.lt_or_ge b w0.heap.size with d | d
 ·have e:=h.ext b d
  rw [f] at e
  exact absurd (e▸WT c p) (h.free b (e▸jP c p))
 ·exact d
theorem pZ.blk (h:pZ w0 ni c W cf k j w own u gs mR cs):∃ e,Bk w W 82 (gL cf u e)/\own W=wT c 0:=by
 obtain ⟨⟨rs,A,f,b1,b2,-⟩,d,-⟩:=(h.all.at_ 0:iB w (fun k=>own k=wT c 0) (fun k=>own k=aB) W cf u [dO cf.nodes])
 exact ⟨_,b2,d⟩
theorem pZ.node (h:pZ w0 ni c W cf k j w own u gs mR cs) (hk:k < 5) (G:Old w w9) {f g:Nat} (I:w.heap.size<=f) (lg:w.heap.size<=g) (V:fA w9 (fun b=>b=f) f .new) {M:Array Value} (X:Bk w9 g 115 M)
 (H:M.size=193/\M[0]?=some (ptr W)/\M[1]?=some (zi k)/\M[3]?=some (ptr f)) {n:Value} (i:fZ w9 0 94 1 u.nodes (k + 1) (gs.map ptr ++ [ptr g]) n qF) :
 ∃ d,pZ w0 ni c W cf (k + 1) j (qF.setCell ⟨W,3,none⟩ n) d { u with nodes:=n } (gs ++ [g]) (mR ++ [f]) cs:=by
 obtain ⟨D,J,Y8⟩:=h.blk
 obtain ⟨l,Y,K,z,L⟩:=CX i.own
 have N:g≠f:=by
  obtain ⟨A,q,B,-⟩:=V.ex
  exact pY X B aW
 have hrb:own l=wT c 14∨w.heap.size<=l:=by
  rcases i.2.2 with e | e
  ·exact .inl (h.Zy l (e▸z))
  ·rw [z] at e
   cases e
   exact .inr G.size
 have hWw:W < w.heap.size:=J.lt
 have r:∀ b,u.nodes.ownBlock=some b->b < w.heap.size:=fun b hb=>mU h.rn hb
 have O:u.nodes.ownBlock≠some W:=aK h.rn J aW
 have s:∀ D,Bk w W 82 (gL cf u D)->Bk qF W 82 (gL cf u D):=fun D hb=>i.bk (hb.old G) O
 have m:Bk qF g 115 M:=i.bk X (fun e=>by have:=r g e;omega)
 have E:l≠W:=fun e=>aK i.own (s _ J) aW (e▸z)
 have P:g≠l:=fun e=>aK i.own m aW (e▸z)
 have x:fA qF (fun b=>b=f) f .new:=V.fr (i.fr (S:=fun b=>u.nodes.ownBlock=some b) (fun b _ hb=>hb)) (fun b (e:b=f) hb=>by have:=r b hb;omega)
 have R:f≠l:=fun e=>by
  obtain ⟨A,q,B,-⟩:=x.ex
  exact aK i.own B aW (e▸z)
 have f1:Fr (fun b=>b=W) qF (qF.setCell ⟨W,3,none⟩ n):=(Fr.refl (fun b=>b=W) qF).setCell (p:=⟨W,3,none⟩) (.inr rfl) _
 have hf:Fr (fun b=>b=W∨b=l∨own b=wT c 14) w (qF.setCell ⟨W,3,none⟩ n):=
  ((Fr.aj G).trans' (i.fr (S:=fun b=>u.nodes.ownBlock=some b) (fun b _ hb=>hb)) (fun b _ hb=>.inr (.inr (h.Zy b hb)))).trans' f1 (fun b _ hb=>.inl hb)
 have hP:iM qF (some ⟨l,0,none⟩) (gs ++ [g]):=by
  have h9:=i.own
  rw [K] at h9
  have h8:=ah.bA h9
  unfold iM
  simpa using h8
 have T:iM (qF.setCell ⟨W,3,none⟩ n) (some ⟨l,0,none⟩) (gs ++ [g]):=ah.fr hP f1 (fun _ a e=>by cases e;exact E)
 have y:(gs ++ [g]).length=k + 1:=by simp [h.lg]
 have Z:n=.slice (some ⟨l,0,none⟩) (gs ++ [g]).length Y:=by rw [K,y]
 obtain ⟨d,B,U,h3⟩:=Ir h.all (h.ld.trans h.lg.symm) (by rw [h.lg];exact hk) l Y g f hrb hf (fun D hb=>by
  have h9:=(s D hb).bH 3 n
  rw [<- Z]
  exact h9) T (iD L f1.size) lg I N P R ⟨⟨M,m.fr f1 (fun e=>af),H.1,H.2.1,by rw [h.lg];exact H.2.2.1,H.2.2.2⟩,rfl,fun b (e:b=g)=>by rw [e];exact iD m.lt f1.size⟩
  (x.fr f1 (fun b (e:b=f) hb=>af))
 rw [<- Z] at B
 have hsz:w.heap.size<=qF.heap.size:=ic G.size i.2.1.size
 have F:d l=wT c 14:=by
  obtain ⟨⟨A,q,e,-,hF⟩,-⟩:=(B.at_ 14:(vk n (gs ++ [g])).P _ (fun k=>d k=wT c 14) _)
  rw [K] at e
  injection e with e3
  exact hF _ e3.symm
 refine ⟨d,B,h.ext.trans U h.old.size,?_,fun b hb=>?_,y,by simp [h.ld],h.lc,h.dQ,?_,fun b hb=>?_,?_,fun b hb=>?_,h.free⟩
 ·exact UX
 ·rcases Nat.lt_or_ge b w.heap.size with h4 | h4
  ·rw [U b h4];exact h.new b hb
  ·exact h3 b h4
 ·have h9:=bz i.own (p:=⟨W,3,none⟩) (fun e=>E (Option.some.inj (z.symm.trans e))) n
  simpa using h9
 ·rw [z] at hb
  cases hb
  exact F
 ·refine dh h.rc hf fun b hb e=>?_
  have C:=h.oc b hb
  rcases e with rfl | rfl | e
  ·have:=lT c _ _ (C.symm.trans Y8);omega
  ·rcases hrb with e | e
   ·have:=lT c _ _ (C.symm.trans e);omega
   ·have:=mU h.rc hb;omega
  ·have:=lT c _ _ (C.symm.trans e);omega
 ·rw [U b (mU h.rc hb)];exact h.oc b hb
theorem pZ.client (h:pZ w0 ni c W cf k j w own u gs mR cs) (U:k<=5) (E:Old w w9) {g:Nat} (X:w.heap.size<=g) (P:gM w9 (fun b=>b=g) (fun _=>False) g (jc.new (j:Int) cf.nodes)) {l:Value} (m:fZ w9 0 83 1 u.au (j + 1) (cs.map ptr ++ [ptr g]) l qF) :
 ∃ d,pZ w0 ni c W cf k (j + 1) (qF.setCell ⟨W,4,none⟩ l) d { u with au:=l } gs mR (cs ++ [g]):=by
 obtain ⟨x,F,Y8⟩:=h.blk
 obtain ⟨f,R,G,y,H⟩:=CX m.own
 have hrb:own f=wT c 15∨w.heap.size<=f:=by
  rcases m.2.2 with e | e
  ·exact .inl (h.oc f (e▸y))
  ·rw [y] at e
   cases e
   exact .inr E.size
 have Y:W < w.heap.size:=F.lt
 have z:∀ b,u.au.ownBlock=some b->b < w.heap.size:=fun b hb=>mU h.rc hb
 have I:u.au.ownBlock≠some W:=aK h.rc F aW
 have n:∀ x,Bk w W 82 (gL cf u x)->Bk qF W 82 (gL cf u x):=fun x hb=>m.bk (hb.old E) I
 have J:=m.fr (S:=fun b=>u.au.ownBlock=some b) (fun b _ hb=>hb)
 have i:∀ K,gM qF (fun b=>b=g) K g (jc.new (j:Int) cf.nodes):=fun K=>
  (gy g (jc.new (j:Int) cf.nodes)).mono (K:=fun _=>False) ((gy g (jc.new (j:Int) cf.nodes)).fr P J (fun b hb e=>by
   rcases hb with hb | hb
   ·have:=z b e;have L:b=g:=hb;omega
   ·exact hb.1)) (fun _ h=>h) (fun b (e:b=g)=>by rw [e];exact iD (P.lt g rfl) J.size) (fun _ _ h=>h.elim)
 have B:f≠W:=fun e=>aK m.own (n _ F) aW (e▸y)
 have M:g≠f:=fun e=>by
  obtain ⟨A,q,V,C,-⟩:=(i (fun _=>False)).ex
  exact aK m.own C aW (e▸y)
 have f1:Fr (fun b=>b=W) qF (qF.setCell ⟨W,4,none⟩ l):=(Fr.refl (fun b=>b=W) qF).setCell (p:=⟨W,4,none⟩) (.inr rfl) _
 have hf:Fr (fun b=>b=W∨b=f∨own b=wT c 15) w (qF.setCell ⟨W,4,none⟩ l):=
  ((Fr.aj E).trans' J (fun b _ hb=>.inr (.inr (h.oc b hb)))).trans' f1 (fun b _ hb=>.inl hb)
 have Z:iM qF (some ⟨f,0,none⟩) (cs ++ [g]):=by
  have h9:=m.own
  rw [G] at h9
  have h8:=ah.bA h9
  unfold iM
  simpa using h8
 have N:iM (qF.setCell ⟨W,4,none⟩ l) (some ⟨f,0,none⟩) (cs ++ [g]):=ah.fr Z f1 (fun _ a e=>by cases e;exact B)
 have r:(cs ++ [g]).length=j + 1:=by simp [h.lc]
 have T:l=.slice (some ⟨f,0,none⟩) (cs ++ [g]).length R:=by rw [G,r]
 obtain ⟨d,C,O,h3⟩:=CW h.all (by rw [h.lg];exact U) f R g hrb hf (fun x hb=>by
  have h9:=(n x hb).bH 4 l
  rw [<- T]
  exact h9) N (iD H f1.size) X M (fun K=>by
  rw [h.lc]
  exact (gy g (jc.new (j:Int) cf.nodes)).mono (K:=fun _=>False) ((gy g (jc.new (j:Int) cf.nodes)).fr (i (fun _=>False)) f1 (fun b hb e=>by
   rcases hb with hb | hb
   ·have L:b=g:=hb;have e':b=W:=e;omega
   ·exact hb.1)) (fun _ h=>h) (fun b (e:b=g)=>by rw [e];exact iD ((i (fun _=>False)).lt g rfl) f1.size) (fun _ _ h=>h.elim))
 rw [<- T] at C
 have D:d f=wT c 15:=by
  obtain ⟨⟨A,q,e,-,hF⟩,-⟩:=(C.at_ 15:(vk l (cs ++ [g])).P _ (fun k=>d k=wT c 15) _)
  rw [G] at e
  injection e with e3
  exact hF _ e3.symm
 refine ⟨d,C,h.ext.trans O h.old.size,?_,fun b hb=>?_,h.lg,h.ld,r,h.dQ,?_,fun b hb=>?_,?_,fun b hb=>?_,h.free⟩
 ·exact UX
 ·rcases Nat.lt_or_ge b w.heap.size with h4 | h4
  ·rw [O b h4];exact h.new b hb
  ·exact h3 b h4
 ·refine dh h.rn hf fun b hb e=>?_
  have s:=h.Zy b hb
  rcases e with rfl | rfl | e
  ·have:=lT c _ _ (s.symm.trans Y8);omega
  ·rcases hrb with e | e
   ·have:=lT c _ _ (s.symm.trans e);omega
   ·have:=mU h.rn hb;omega
  ·have:=lT c _ _ (s.symm.trans e);omega
 ·rw [O b (mU h.rn hb)];exact h.Zy b hb
 ·have h9:=bz m.own (p:=⟨W,4,none⟩) (fun e=>B (Option.some.inj (y.symm.trans e))) l
  simpa using h9
 ·rw [y] at hb
  cases hb
  exact D
theorem pZ.done (h:pZ w0 ni c W cf k j w own u gs mR cs) (e:k=cf.nodes) (f:j=cf.au) (d:(1<=cf.nodes/\cf.nodes<=5)/\1<=cf.au/\cf.au<=4):kU w own c W u gs cs [] 0 (WV.made cf):=
 Iu h.all (h.lg.trans e) (h.lc.trans f) d h.dQ
end
section
variable {w w' w0:World} {own own':Nat->Tag} {c i W:Nat} {u:bV} {gs cs:List Nat} {l:List bR} {s:WV}
theorem jb.lay (a:jb) {t:Tag} (h0:t≠aB) (d:t≠bS) (h:a.P w (fun k=>own k=t) (fun k=>own k=aB)) (f:Ext w own own') (g:∀ k,w.heap.size<=k->own' k=aB∨own' k=bS) (j:Old w w'):a.P w' (fun k=>own' k=t) (fun k=>own' k=aB):=
 a.fr (a.lift h0 h f fun k m e=>(g k m).elim (fun h=>h0 (e.symm.trans h)) (fun h=>d (e.symm.trans h))) (Fr.aj (S:=fun _=>False) j) (fun _ _ h=>h)
theorem gZ.lay (h:gZ w own c W u gs cs l s) (j:Old w w'):∃ own',gZ w' own' c W u gs cs l s/\gT w own c w' own'/\∀ k,w.heap.size<=k->k < w'.heap.size->own' k=bS:=by
 obtain ⟨own',e⟩:∃ own':Nat->Tag,∀ k,own' k=if w.heap.size<=k/\k < w'.heap.size then bS else own k:=⟨_,fun _=>rfl⟩
 have f:Ext w own own':=fun k d=>by rw [e,if_neg (by omega)]
 have m:∀ k,w.heap.size<=k->own' k=aB∨own' k=bS:=fun k d=>by
  rw [e]
  split
  ·exact .inr rfl
  ·exact .inl (h.top k d)
 have r:vO w' own':=fun k d=>by
  rw [e,if_neg af]
  exact h.top k (ic j.size d)
 have far:∀ (a:jb) (t:Tag),t≠aB->t≠bS->a.P w (fun k=>own k=t) (fun k=>own k=aB)->a.P w' (fun k=>own' k=t) (fun k=>own' k=aB):=fun a t h0 y z=>a.lay h0 y z f m j
 refine ⟨own',⟨r,h.len,h.conf,fun i n g=>?_,fun k x f=>far _ _ (by simp [kZ,aB]) (by simp [kZ,bS]) (h.client k x f),far _ _ (by simp [oJ,aB]) (by simp [oJ,bS]) h.past,h.acts,far _ _ xY BA h.rn,far _ _ xY BA h.rc,far _ _ xY BA h.Io,h.dQ⟩,⟨f,Fr.aj j,fun k d=>(m k d).imp id .inl⟩,fun k A B=>by rw [e,if_pos ⟨A,B⟩]⟩
 obtain ⟨p,C⟩:=(h.node i n g).ex
 exact ⟨⟨p,fun q=>far _ _ (jN c i q) (uN c i q) (C.at_ q),r⟩,(h.node i n g).dQ,(h.node i n g).self,(h.node i n g).i5⟩
theorem gZ.bg (h:gZ w own c W u gs cs l s) (g:Fr (fun k=>own k=bS) w w'):gZ w' own c W u gs cs l s:=by
 have far:∀ (a:jb) (t:Tag),t≠bS->a.P w (fun k=>own k=t) (fun k=>own k=aB)->a.P w' (fun k=>own k=t) (fun k=>own k=aB):=fun a t j m=>a.fr m g fun k d e=>by
  rcases d with d | d
  ·exact j (d.symm.trans e)
  ·exact absurd (d.1.symm.trans e) (by simp [aB,bS])
 refine ⟨h.top.old g.size,h.len,h.conf,fun i n f=>?_,fun k x r=>far _ _ (by simp [kZ,bS]) (h.client k x r),far _ _ (by simp [oJ,bS]) h.past,h.acts,far _ _ BA h.rn,far _ _ BA h.rc,far _ _ BA h.Io,h.dQ⟩
 obtain ⟨p,y⟩:=(h.node i n f).ex
 exact ⟨⟨p,fun q=>far _ _ (uN c i q) (y.at_ q),h.top.old g.size⟩,(h.node i n f).dQ,(h.node i n f).self,(h.node i n f).i5⟩
theorem gT.mO (D:gT w own c w' own') {b:Nat} {t:TypeId} {cs:Array Value} (f:Bk w b t cs) (g:own b=aB∨own b=bS):Bk w' b t cs:=f.fr D.fr (by
 rcases g with e | e <;> (intro d;simp only [e] at d;exact absurd d (by simp [aB,bS])))
theorem gT.bS (D:gT w own c w' own') {b:Nat} (d:b < w.heap.size) (e:own b=bS):own' b=bS:=(D.ext b d).trans e
theorem gT.low (D:gT w own c w' own') (f:Old w0 w) (g:∀ k,k < w0.heap.size->own k=aB):Old w0 w'/\∀ k,k < w0.heap.size->own' k=aB:=
 ⟨f.iE D.fr fun k (e:(own k).1=c + 1)=>by
  rcases Nat.lt_or_ge k w0.heap.size with d | d
  ·rw [g k d] at e
   simp [aB] at e
  ·exact d,fun k h=>(D.ext k (iD h f.size)).trans (g k h)⟩
end
theorem Rd.EH (r:Rd):jr r.Nc.1:=by
 have d:=(Rd.fq r 1099511627776).1
 have e:=(Rd.fq (r.num 1099511627776).2 4).1
 unfold Rd.Nc jr
 simp only
 omega
theorem tu {b:List Int} {c:bC} (h:fF b=some c):c.may=true:=by
 unfold fF at h
 simp only at h
 split at h
 ·rename_i d
  injection h with h
  rw [<- h]
  exact d.2
 ·cases h
theorem bC.EI {a b:bC} {n:Nat} (h:a.next b n=true):a.may=true/\b.may=true:=by
 unfold bC.next at h
 simp only [kE] at h
 exact ⟨h.1.1.1.1.1,h.1.1.1.1.2⟩
theorem Lu {n:Nat} {b:List Int} {a:dY} (h:Fg n b=some a):jT n a:=by
 unfold Fg at h
 simp only at h
 split at h
 ·split at h
  ·rename_i d
   injection h with h
   rw [<- h]
   obtain ⟨d,-⟩:=d
   simp only [kE] at d
   obtain ⟨⟨⟨⟨f,g⟩,m⟩,l⟩,-⟩:=d
   have j:=bC.EI l
   exact ⟨rfl,j.1,g,Rd.EH _,Rd.EH _,(bC.sO j.2).2,fun _=>j.2⟩
  ·cases h
 ·split at h
  ·rename_i d
   injection h with h
   rw [<- h]
   obtain ⟨d,-⟩:=d
   simp only [kE] at d
   obtain ⟨f,g⟩:=d
   obtain ⟨k,f⟩:=Option.isSome_iff_exists.1 f
   refine ⟨rfl,?_,g,Rd.EH _,eY,Nat.zero_le _,fun e=>by cases e⟩
   show ((fF _).getD .zero).may=true
   rw [f]
   exact tu f
  ·cases h
theorem Iv {n:Nat} (d:1<=n) (h5:n<=5):jT n (.new n):=by
 refine ⟨rfl,?_,?_,eY,eY,Nat.zero_le _,fun e=>by cases e⟩
 ·rcases (by omega:n=1∨n=2∨n=3∨n=4∨n=5) with rfl | rfl | rfl | rfl | rfl <;> decide
 ·rcases (by omega:n=1∨n=2∨n=3∨n=4∨n=5) with rfl | rfl | rfl | rfl | rfl <;> decide
structure OY (n:Nat) (q:Int) (m:Nat) (k:oN):Prop where
 acc:jT n k.acc
 q:k.log.aI=q
 k0:k.log.k=0
 few:k.log.qs.length<=m
 join:Cv k.join
theorem Lv (c:dZ) (g:1<=c.nodes) (h5:c.nodes<=5) (l:List (List Int)):OY c.nodes c.aI l.length (mO c l):=by
 rw [CK]
 unfold sS
 suffices h:∀ (l:List (List Int)) (m:Nat) (k:oN),OY c.nodes c.aI m k->OY c.nodes c.aI (m + l.length) (l.foldl (K3 c.nodes) k) by
  have:=h l 0 ⟨.new c.nodes,dW.new c.aI,.zero⟩ ⟨Iv g h5,rfl,rfl,dN _,uf⟩
  rwa [mE] at this
 intro l
 induction l with
 | nil=>intro m k h;exact h
 | cons b l ih=>
  intro m k h
  rw [List.foldl_cons,iR,show m + (l.length + 1)=m + 1 + l.length by omega]
  refine ih (m + 1) _ ?_
  have d:OY c.nodes c.aI (m + 1) k:=⟨h.acc,h.q,h.k0,by have:=h.few;omega,h.join⟩
  unfold K3
  split
  ·split
   ·rename_i a j
    exact ⟨Lu j,d.q,d.k0,d.few,d.join⟩
   ·exact d
  ·split
   ·rename_i q _
    have f:=dW.sK k.log q
    exact ⟨d.acc,by rw [<- h.q];exact f.2.2.1,by rw [<- h.k0];exact f.2.2.2,by have:=h.few;have:=f.2.1;show (k.log.put q).qs.length<=m + 1;omega,d.join⟩
   ·exact d
  ·rename_i b' 
   refine ⟨d.acc,d.q,d.k0,d.few,?_⟩
   show Cv ((fF b').getD .zero)
   cases e:fF b' with
   | none=>exact uf
   | some c=>exact Cv.of (tu e)
  ·exact d
theorem Iw:VZ (List.replicate 5 aO.zero):=⟨aW,fun i d=>by
 rw [List.getElem?_replicate,if_pos d]
 exact ⟨aW,aW,aW⟩⟩
theorem rA.cut {k:Nat} {d:bB} (h:rA k d) (n:Nat):rA k (d.cut n):=by
 unfold bB.cut
 split
 ·rename_i f
  exact ⟨by have:=h.len;have:=List.length_take_le n d.b;show (d.b.take n).length + _<=_;omega,fun x e=>h.yw x (List.mem_of_mem_take e),by show n<=(d.b.take n).length;rw [vB];omega⟩
 ·exact h
section
variable {s:NS} {i k:Nat}
theorem aF.start (f:rz s.conf i) (d:0<=s.now/\s.now<=1099511627776) (hd:rA k s.n.disk) (n:(jE s.n.disk).1.length + k<=50000) (l:s.bO.length + k * 65536<=1099511627776)
 (g:(s.aA≠[]/\∀ x∈s.aA,x.may=true)/\s.aA.length + k<=1099511627776):aF s.start i k:=by
 have e:=Lv s.conf f.n1 f.n5 (jE s.n.disk).1
 have p:k<=50000:=af
 refine ⟨f,d,e.acc,⟨e.q,by have:=e.few;show (mO s.conf (jE s.n.disk).1).log.qs.length + k<=50000;omega,by show (mO s.conf (jE s.n.disk).1).log.k<=_;rw [e.k0];exact Nat.zero_le _⟩,e.join,hd.cut _,⟨Int.le_refl _,by show (0:Int) + _<=_;omega⟩,
  ⟨rfl,Nat.zero_le _,af,fun x h=>by cases h⟩,rfl,⟨rfl,by show ((List.range 5).map _).length=5;simp,fun j m=>?_⟩,Iw,by show (List.replicate 5 (0:Int)).length=5;simp,eY,fun x h=>(by cases h),l,g,⟨?_,?_⟩,d⟩
 ·show 0<=((List.range 5).map fun i=>if i < s.conf.nodes then s.now else 0)[j]?.getD 0/\((List.range 5).map fun i=>if i < s.conf.nodes then s.now else 0)[j]?.getD 0<=1099511627776
  rw [List.getElem?_map,List.getElem?_range m]
  show 0<=(if j < s.conf.nodes then s.now else 0)/\(if j < s.conf.nodes then s.now else 0)<=1099511627776
  split
  ·exact d
  ·omega
 ·show -4<=s.now - 4
  omega
 ·show s.now - 4<=1099511627776
  omega
end
section
variable {w w':World} {own own':Nat->Tag} {c i W:Nat} {u:bV} {gs cs:List Nat} {l:List bR} {s:WV}
theorem kU.lay (h:kU w own c W u gs cs l i s) (r:Old w w'):∃ own',kU w' own' c W u gs cs l i s/\gT w own c w' own'/\∀ k,w.heap.size<=k->k < w'.heap.size->own' k=bS:=by
 obtain ⟨own',g⟩:∃ own':Nat->Tag,∀ k,own' k=if w.heap.size<=k/\k < w'.heap.size then bS else own k:=⟨_,fun _=>rfl⟩
 have m:Ext w own own':=fun k f=>by rw [g,if_neg (by omega)]
 have A:∀ k,w.heap.size<=k->own' k=aB∨own' k=bS:=fun k f=>by
  rw [g]
  split
  ·exact .inr rfl
  ·exact .inl (h.top k f)
 have y:vO w' own':=fun k f=>by
  rw [g,if_neg af]
  exact h.top k (ic r.size f)
 have far:∀ (a:jb) (t:Tag),t≠aB->t≠bS->a.P w (fun k=>own k=t) (fun k=>own k=aB)->a.P w' (fun k=>own' k=t) (fun k=>own' k=aB):=fun a t h0 B C=>a.lay h0 B C m A r
 refine ⟨own',⟨y,h.len,h.conf,fun j n d e=>?_,fun j n d e=>?_,fun k x m=>far _ _ (by simp [kZ,aB]) (by simp [kZ,bS]) (h.client k x m),far _ _ (by simp [oJ,aB]) (by simp [oJ,bS]) h.past,h.acts,far _ _ xY BA h.rn,far _ _ xY BA h.rc,far _ _ xY BA h.Io,h.dQ⟩,⟨m,Fr.aj r,fun k f=>(A k f).imp id .inl⟩,fun k D E=>by rw [g,if_pos ⟨D,E⟩]⟩
 ·obtain ⟨p,z⟩:=(h.up j n d e).ex
  exact ⟨⟨p,fun q=>far _ _ (jN c j q) (uN c j q) (z.at_ q),y⟩,(h.up j n d e).dQ,(h.up j n d e).self,(h.up j n d e).i5⟩
 ·obtain ⟨p,z⟩:=(h.dn j n d e).ex
  exact ⟨⟨p,fun q=>far _ _ (jN c j q) (uN c j q) (z.at_ q),y⟩,(h.dn j n d e).dQ,(h.dn j n d e).self,(h.dn j n d e).i5⟩
theorem kU.bg (h:kU w own c W u gs cs l i s) (m:Fr (fun k=>own k=bS) w w'):kU w' own c W u gs cs l i s:=by
 have far:∀ (a:jb) (t:Tag),t≠bS->a.P w (fun k=>own k=t) (fun k=>own k=aB)->a.P w' (fun k=>own k=t) (fun k=>own k=aB):=fun a t y z=>a.fr z m fun k g e=>by
  rcases g with g | g
  ·exact y (g.symm.trans e)
  ·exact absurd (g.1.symm.trans e) (by simp [aB,bS])
 refine ⟨h.top.old m.size,h.len,h.conf,fun j n d f=>?_,fun j n d f=>?_,fun k x A=>far _ _ (by simp [kZ,bS]) (h.client k x A),far _ _ (by simp [oJ,bS]) h.past,h.acts,far _ _ BA h.rn,far _ _ BA h.rc,far _ _ BA h.Io,h.dQ⟩
 ·obtain ⟨p,r⟩:=(h.up j n d f).ex
  exact ⟨⟨p,fun q=>far _ _ (uN c j q) (r.at_ q),h.top.old m.size⟩,(h.up j n d f).dQ,(h.up j n d f).self,(h.up j n d f).i5⟩
 ·obtain ⟨p,r⟩:=(h.dn j n d f).ex
  exact ⟨⟨p,fun q=>far _ _ (uN c j q) (r.at_ q),h.top.old m.size⟩,(h.dn j n d f).dQ,(h.dn j n d f).self,(h.dn j n d f).i5⟩
theorem kU.act (h:kU w own c W u gs cs l i s) {n:dM} (d:s.nodes[i]?=some n) (f:aN w' own' c i W (gs[i]?.getD 0) u (s.ns i n).start) (D:fT w own c i w' own'):kU w' own' c W u gs cs l (i + 1) (s.act i NS.start):=by
 have h9:=h.step d f D rfl rfl
 have e:s.act i NS.start={ s with nodes:=s.nodes.set i (s.ns i n).start.n,bO:=(s.ns i n).start.bO,bY:=(s.ns i n).start.bY,aA:=(s.ns i n).start.aA }:=by
  unfold WV.act
  rw [d]
  rfl
 rw [e]
 exact h9
theorem kU.wb (h:kU w own c W u gs cs l i s):iB w (fun k=>own k=bM c 0 0) (fun k=>own k=aB) W s.conf u s.aA:=by
 obtain ⟨n,e⟩:∃ n,s.nodes[0]?=some n:=⟨_,gG (by have:=h.len.1;have:=h.conf.1.1;omega)⟩
 by_cases f:i=0
 ·obtain ⟨p,d⟩:=(h.dn 0 n e af).ex
  exact d.at_ 0
 ·obtain ⟨p,d⟩:=(h.up 0 n e af).ex
  exact d.at_ 0
theorem kU.row (h:kU w own c W u gs cs l i s):∃ A q,u.nodes=.slice A gs.length q/\iM w A gs/\w.cell? ⟨W,3,none⟩=some u.nodes/\W < w.heap.size:=by
 obtain ⟨⟨A,q,e,f,-⟩,-⟩:=h.rn
 obtain ⟨rs,A',g,-,d,-⟩:=h.wb.ex
 exact ⟨A,q,e,f,d.cell 3,d.lt⟩
theorem gT.qE {w0:World} {d:Nat->Tag} (h:gT w0 d c w own) {b:Nat} (f:w0.heap.size<=b) (o:Obj):gT w0 d c (w.putObj b o) own:=
 ⟨h.ext,h.fr.trans' (T:=fun k=>k=b) (Fr.gU (grownBy_putObj' w b o) (fun k _ e=>by cases e;rfl)) (fun k g e=>by subst e;omega),h.new⟩
end
def WV.OZ (cf:dZ) (k:Nat):WV:=(List.range k).foldl (fun w i=>w.act i NS.start) (WV.made cf)
theorem WV.CY (d:dZ) (k:Nat):WV.OZ d (k + 1)=(WV.OZ d k).act k NS.start:=by
 unfold WV.OZ
 rw [List.range_succ,List.foldl_append]
 rfl
structure CZ (cf:dZ) (k:Nat) (s:WV):Prop where
 conf:s.conf=cf
 clocks:s.clocks=List.replicate (cf.nodes + cf.au) 0
 bO:s.bO=[]
 aA:s.aA=[dO cf.nodes]
 len:s.nodes.length=cf.nodes
 dn:∀ j,k<=j->j < cf.nodes->s.nodes[j]?=some (gH j cf)
theorem WV.Bl (d:dZ):∀ k,k<=d.nodes->CZ d k (WV.OZ d k)
 | 0,_=>⟨rfl,rfl,rfl,rfl,by simp [WV.OZ,WV.made],fun j _ f=>by
  show ((List.range d.nodes).map fun i=>gH i d)[j]?=_
  rw [List.getElem?_map,List.getElem?_range f]
  rfl⟩
 | k + 1,hk=>by
  have h:=WV.Bl d k af
  rw [WV.CY]
  obtain ⟨s,g⟩:=aR (WV.OZ d k)
  rw [g] at h ⊢
  have e:s.act k NS.start={ s with nodes:=s.nodes.set k (s.ns k (gH k d)).start.n,bO:=s.bO,bY:=s.bY,aA:=s.aA }:=by
   unfold WV.act
   rw [h.dn k (dN _) af]
   rfl
  rw [e]
  exact ⟨h.conf,h.clocks,h.bO,h.aA,by simp [h.len],fun j n m=>by
   show (s.nodes.set k _)[j]?=_
   rw [MF af]
   exact h.dn j af m⟩
theorem aaT (p q:Tmp) (x y:Value) (T:Array Value):((#[p,q]:Array Tmp).zip #[x,y]).foldl (fun t (p,v)=>t.setIfInBounds p v) T=(T.setIfInBounds p x).setIfInBounds q y:=bE
theorem Lx {gs:List Nat} {n:Nat} {pre:List (Nat×Nat)} {x:Nat×Nat} (h:pre ++ [x] <+: mY gs n):pre.length < n/\x=(pre.length,gs[pre.length]?.getD 0):=by
 obtain ⟨t,d⟩:=h
 have f:(mY gs n).length=n:=by simp [mY]
 have e:pre.length < n:=by
  rw [<- f,<- d]
  simp
 refine ⟨e,?_⟩
 have g:(mY gs n)[pre.length]?=some x:=by
  rw [<- d]
  simp
 have h4:(mY gs n)[pre.length]?=some (pre.length,gs[pre.length]?.getD 0):=by
  unfold mY
  rw [List.getElem?_map,List.getElem?_range e]
  rfl
 exact Option.some.inj (g.symm.trans h4)
theorem LA (gs:List Nat) (n:Nat):(mY gs n).length=n:=by simp [mY]
theorem CZ.S9 {d:dZ} {k:Nat} {s:WV} (h:CZ d k s) (e:k < d.nodes) (h5:d.nodes<=5) (h4:d.au<=4) (f:1<=d.aI/\d.aI<=100):rz (s.ns k (gH k d)).conf k:=by
 show rz s.conf k
 rw [h.conf]
 exact ⟨af,h5,e,h4,f⟩
theorem CZ.now {d:dZ} {k:Nat} {s:WV} (h:CZ d k s) (n:dM):(s.ns k n).now=0:=by
 show s.clocks[k]?.getD 0=0
 rw [h.clocks,List.getElem?_replicate]
 split <;> rfl
theorem LB (k:Nat) (e:k<=1000000):rA k bB.new:=⟨(by show 0 + k * 16777216<=30000000000000;omega),(by intro x d;cases d),dN _⟩
def Ug (Q:Exit->Act->World->Prop) (e:Exit) (a:Act) (w:World):Prop:=match e with
 | .panic _=>False
 | e=>Q e a w
theorem Ug.o {Q:Exit->Act->World->Prop} {e:Exit} {a:Act} {w:World} (h:Ug Q e a w):Q e a w:=by
 cases e <;> first | exact h | exact h.elim
theorem xJ (n:Int) (w:World):aS 55 #[.pointer none,zi n] w fun e w'=>e=.returned (.pointer none)/\Old w w':=by
 go_enter func55,ntmps55
 go_wp2_with fail
 go_ret
 exact ⟨rfl,Old.refl' _⟩
theorem C4 (w:World):aS 12 #[.pointer none] w fun e w'=>e=.returned aQ/\Old w w':=by
 go_enter func12,ntmps12
 go_wp2_with fail
 go_ret
 exact ⟨rfl,Old.refl' _⟩
theorem xK (w:World):aS 18 #[.pointer none] w fun e w'=>e=.returned aQ/\Old w w':=by
 go_enter func18,ntmps18
 go_wp2_with fail
 go_ret
 exact ⟨rfl,Old.refl' _⟩
theorem xL (w:World):aS 22 #[.pointer none] w fun e w'=>e=.returned (zi 0)/\Old w w':=by
 go_enter func22,ntmps22
 go_wp2_with fail
 go_ret
 exact ⟨rfl,Old.refl' _⟩
theorem LC (n:Int) (w:World):aS 23 #[.pointer none,zi n] w fun e w'=>e=.returned (zi (-1))/\Old w w':=by
 go_enter func23,ntmps23
 go_wp2_with fail
 go_ret
 exact ⟨rfl,Old.refl' _⟩
theorem zH (n:Int) (w:World):aS 10 #[.pointer none,zi n] w fun e w'=>e=.returned (zi 0)/\Old w w':=by
 go_enter func10,ntmps10
 go_wp2_with fail
 go_ret
 exact ⟨rfl,Old.refl' _⟩
theorem uO (w:World):aS 13 #[.pointer none] w fun e w'=>e=.returned aQ/\Old w w':=by
 go_enter func13,ntmps13
 go_wp2_with fail
 go_ret
 exact ⟨rfl,Old.refl' _⟩
theorem xM (n:Int) (w:World):aS 19 #[.pointer none,zi n] w fun e w'=>e=.returned aQ/\Old w w':=by
 go_enter func19,ntmps19
 go_wp2_with fail
 refine (xJ n w).mono ?_
 rintro e w1 ⟨rfl,d⟩
 go_wp2_with fail
 go_ret
 exact ⟨rfl,d⟩
theorem F8 (n:Int) (w:World):aS 20 #[.pointer none,zi n] w fun e w'=>e=.returned aQ/\Old w w':=by
 go_enter func20,ntmps20
 go_wp2_with fail
 refine (xJ n w).mono ?_
 rintro e w1 ⟨rfl,d⟩
 go_wp2_with fail
 go_ret
 exact ⟨rfl,d⟩
theorem zI (n:Int) (w:World):aS 21 #[.pointer none,zi n] w fun e w'=>e=.returned aQ/\Old w w':=by
 go_enter func21,ntmps21
 go_wp2_with fail
 refine (xJ n w).mono ?_
 rintro e w1 ⟨rfl,d⟩
 go_wp2_with fail
 go_ret
 exact ⟨rfl,d⟩
theorem C5 (n:Int) (w:World):aS 24 #[.pointer none,zi n] w fun e w'=>e=.returned (zi 0)/\Old w w':=by
 go_enter func24,ntmps24
 go_wp2_with fail
 refine (xJ n w).mono ?_
 rintro e w1 ⟨rfl,d⟩
 go_wp2_with fail
 go_ret
 exact ⟨rfl,d⟩
theorem C6 (k n m q1 d f g h:Int) (i:ByteArray) (w:World):aS 9 #[.pointer none,.agg #[zi k,zi n,zi m,zi q1,zi d,zi f,zi g,zi h,.string i]] w fun e w'=>e=.returned (.bool false)/\Old w w':=by
 go_enter func9,ntmps9
 go_wp2_with fail
 go_ret
 exact ⟨rfl,(Old.refl' _).ag _⟩
theorem C8 (n:Int) (w:World):aS 17 #[.pointer none,zi n] w fun e w'=>e=.returned (.agg #[.bool false,.bool false,.bool false,zi 0,aQ,zi 0,zi 0])/\Old w w':=by
 go_enter func17,ntmps17
 go_wp2_with fail
 refine (xJ n _).mono ?_
 rintro e w1 ⟨rfl,k⟩
 have r:=aa (((Old.refl' w).ag (.cells #[.bool false,.bool false,.bool false,zi 0,aQ,zi 0,zi 0] 61)).trans' k)
 have l:=aa ((Bk.new w 61 #[.bool false,.bool false,.bool false,zi 0,aQ,zi 0,zi 0]).old k)
 clear k
 have f:(prog.info? 61).map (·.size)=some 7:=ay
 have g:∀ v∈[.bool false,.bool false,.bool false,zi 0,aQ,zi 0,(zi 0:Value)],v.oneCell'=true:=by
  intro v i
  simp only [tF,yh,or_false] at i
  rcases i with rfl | rfl | rfl | rfl | rfl | rfl | rfl <;> rfl
 obtain ⟨s,h⟩:∃ x,x=setAt w1 w.heap.size 0 [.bool false,.bool false,.bool false,zi 0,aQ,zi 0,zi 0]:=⟨_,rfl⟩
 have m:=aa (l.o.setAt [.bool false,.bool false,.bool false,zi 0,aQ,zi 0,zi 0] 0)
 have p:=aa (show Old w (setAt w1 w.heap.size 0 [.bool false,.bool false,.bool false,zi 0,aQ,zi 0,zi 0]) from ji r.o (dN _) _ 0)
 go_wp2_with (refine kR 61 (.tmp 4) (.tmp 13) w.heap.size 0 [.bool false,.bool false,.bool false,zi 0,aQ,zi 0,zi 0] rfl rfl 61 #[.bool false,.bool false,.bool false,zi 0,aQ,zi 0,zi 0] l.o f (dN 7) g ?_;rw [<- h])
 rw [<- h] at p m
 simp only [aC,ax,fM,fJ]
 have d:=iK (P:=prog) s w.heap.size 0 61 #[.bool false,.bool false,.bool false,zi 0,aQ,zi 0,zi 0] _ (fun j v i=>by rw [mE,m.o.cell j];exact i) underlying61 rfl f
 refine bodyPost_ret (v:=.agg #[.bool false,.bool false,.bool false,zi 0,aQ,zi 0,zi 0]) ?_ rfl ⟨rfl,p⟩
 unfold results
 rw [results17]
 simp [Sem.run_bind,Sem.run_pure,Result.andThen_ok,asAddr,d]
end Go.Proofs.YthihpfpbiajddaaGreat
