/- Parts of the proof. -/
import Derived.Test.YthihpfpbiajddaaGreatHQWorldNobody26
set_option maxRecDepth 100000
set_option maxHeartbeats 8000000
open Go.Proofs.Tryz
namespace Go.Proofs.YthihpfpbiajddaaGreat
open Go.RowKit
theorem OL (r:Int) (A:Option Addr) (m g:Nat) (ns:List Int) (n:Nat) (d:Int) (wr:Bool) (l:Int) (h1:1<=n) (h5:n<=1000) (S:0<=d/\d<=2199023255552) (G:m=ns.length) (hm:m<=1000) (E:target ⟨r,ns⟩ n d wr=l) (w:World) (h:aP w A ns) :
 aS 141 #[.agg #[zi r,.slice A m g],zi n,zi d,.bool wr] w fun e w'=>e=.returned (zi l)/\Old w w':=by
 have H:=((Old.refl' w).ag (.cells #[zi r,.slice A m g] 59)).ag (.cells #[zi n] 3)
 have T:=aa ((Bk.new w 59 #[zi r,.slice A m g]).alloc (.cells #[zi n] 3))
 have K:=aa (fV w (.cells #[zi r,.slice A m g] 59) 3 #[zi n])
 obtain ⟨b0,b1,b2,b3,b4⟩:=bk2 T.o
 have x0:((w.alloc (.cells #[zi r,.slice A m g] 59)).alloc (.cells #[zi n] 3)).cell? ⟨w.heap.size + 1,0,none⟩=some (zi n):=(K.o.cell 0).trans rfl
 obtain ⟨L,f⟩:=aR (bC.fits ⟨r,ns⟩ n)
 have s:=aa (aaf (w.heap.size + 1) n A m g ns (!L) G af (by rw [J8 r,f]) _ (h.old H) K.o)
 have u:=aa H
 have U:=aa h
 obtain ⟨t0,t1⟩:=S
 have n0:¬ d < 0:=af
 have n4:max d 0=d:=af
 have n1:¬ ((n:Int) < 1):=af
 have n2:¬ ((n:Int)=0):=af
 have M:Int.tmod d n=d % n:=Int.tmod_eq_emod_of_nonneg t0
 have I:0<=d % n/\d % n < n:=⟨Int.emod_nonneg _ af,Int.emod_lt_of_pos _ af⟩
 obtain ⟨V,W⟩:=I
 have X:IntKind.i64.wrap (d % n)=d % n:=kP _ af
 unfold target at E
 rw [f] at E
 have z:=aa E
 have HL:=aa G
 clear E G h H
 by_cases N:d < 1
 ·have e:l=d % n:=z.o.symm.trans (if_pos (by exact .inl N))
  subst e
  clear f
  go_enter func141,ntmps141
  go_wp2_with (go_at_call 207;refine s.o.mono ?_;rintro e w1 ⟨rfl,rfl⟩)
  go_ret
  exact ⟨rfl,u.o⟩
 ·by_cases O:2 < d
  ·have e:l=d % n:=z.o.symm.trans (if_pos (by exact .inr (.inl O)))
   subst e
   clear f
   go_enter func141,ntmps141
   go_wp2_with (go_at_call 207;refine s.o.mono ?_;rintro e w1 ⟨rfl,rfl⟩)
   go_ret
   exact ⟨rfl,u.o⟩
  ·by_cases Y:m=0
   ·subst Y
    have e:l=d % n:=z.o.symm.trans (if_pos (by exact .inr (.inr (.inl (List.eq_nil_of_length_eq_zero HL.o.symm)))))
    subst e
    clear f s
    go_enter func141,ntmps141
    go_wp2_with fail
    go_ret
    exact ⟨rfl,u.o⟩
   ·have k4:¬ ((m:Int)=0):=by omega
    cases L with
    | false=>
     simp only [Bool.not_false] at s
     have e:l=d % n:=z.o.symm.trans (if_pos (by exact .inr (.inr (.inr rfl))))
     subst e
     clear f
     go_enter func141,ntmps141
     go_wp2_with (go_at_call 207;refine s.o.mono ?_;rintro e w1 ⟨rfl,rfl⟩)
     go_ret
     exact ⟨rfl,u.o⟩
    | true=>
     simp only [Bool.not_true] at s
     have Z:0 < m:=af
     have B:ns≠[]:=fun e=>by rw [e] at HL;have:=HL.o;simp at this;omega
     obtain ⟨b,o,rfl,P,F⟩:=U.o (by simpa using B)
     have j:l=if wr then bC.head ⟨r,ns⟩ else ns[(d % ns.length).toNat]?.getD 0:=z.o.symm.trans (if_neg (by rintro (e | e | e | e);exact N e;exact O e;exact B e;exact absurd e (by decide)))
     rw [<- HL.o] at j
     cases wr with
     | true=>
      have e:l=ns[0]?.getD 0:=j.trans (by cases ns <;> simp_all [bC.head])
      have C:0 < ns.length:=I4
      have x:=F 0 (zi ns[0]) (by simp [gG C])
      have e2:l=ns[0]:=by rw [e,gG C];rfl
      subst e2
      obtain ⟨xv,k⟩:=aR (ns[0])
      rw [k] at x ⊢
      rw [I9] at x
      have y0:=(u.o.cell (p:=⟨b,o,none⟩) P).trans x
      clear f j e F k x
      have hmi:(0:Int) < m:=af
      go_enter func141,ntmps141
      go_wp2_with (go_at_call 207;refine s.o.mono ?_;rintro e w1 ⟨rfl,rfl⟩)
      go_ret
      exact ⟨rfl,u.o⟩
     | false=>
      have y:Int.tmod d m=d % m:=Int.tmod_eq_emod_of_nonneg t0
      obtain ⟨i,J⟩:∃ i:Nat,d % m=i:=Int.eq_ofNat_of_zero_le (Int.emod_nonneg _ af)
      have him:i < m:=by have:=Int.emod_lt_of_pos d (by omega:(0:Int) < m);omega
      have D:i < ns.length:=I4
      have e:l=ns[i]:=j.trans (by simp only [Bool.false_eq_true,if_false];rw [J,EZ,gG D];rfl)
      have x:=F i (zi ns[i]) (by simp [gG D])
      subst e
      obtain ⟨xv,k⟩:=aR (ns[i])
      rw [k] at x ⊢
      have y0:=(u.o.cell (p:=⟨b,o + i,none⟩) P).trans x
      have R:IntKind.i64.wrap (i:Int)=i:=kP _ af
      rw [J] at y
      have hii:(i:Int) < m:=af
      clear f j F k x J
      go_enter func141,ntmps141
      go_wp2_with (go_at_call 207;refine s.o.mono ?_;rintro e w1 ⟨rfl,rfl⟩)
      go_ret
      exact ⟨rfl,u.o⟩
def sW (p:aG×Int×Int):Array Value:=#[zi p.1.client,zi p.1.seq,zi p.1.kind,zi p.1.id,zi p.1.eD,.string p.1.data,zi p.2.1,zi p.2.2]
def xE (w:World) (F:Nat->Prop) (g:Nat) (p:Option (aG×Int×Int)) (V:Value):Prop:=match p with
 | none=>V=.pointer none
 | some p=>∃ b,V=.pointer (some ⟨b,0,none⟩)/\b≠g/\F b/\Bk w b 163 (sW p)
structure gM (w:World) (F K:Nat->Prop) (g:Nat) (c:jc):Prop where
 ex:∃ A q V,Bk w g 87 #[zi c.id,zi c.n,zi c.seq,zi c.known.az,.slice A c.known.nodes.length q,V]/\c.known.nodes.length<=q/\fD w (fun k=>K k/\¬ F k) A c.known.nodes/\xE w F g c.p V
 gF:F g
 lt:∀ k,F k->k < w.heap.size
section
variable {w w':World} {F K S:Nat->Prop} {g:Nat} {c:jc}
theorem xE.fr {p:Option (aG×Int×Int)} {V:Value} (h:xE w F g p V) (f:Fr S w w') (i:∀ k,F k->k≠g->¬ S k):xE w' F g p V:=by
 cases p with
 | none=>exact h
 | some p=>
  obtain ⟨b,j,d,e,h4⟩:=h
  exact ⟨b,j,d,e,h4.fr f (i b e d)⟩
theorem gM.fr (h:gM w F K g c) (e:Fr S w w') (f:∀ k,F k∨K k->¬ S k):gM w' F K g c:=by
 obtain ⟨A,q,V,i,j,l,h4⟩:=h.ex
 exact ⟨⟨A,q,V,i.fr e (f g (.inl h.gF)),j,l.fr e (fun k d=>f k (.inr d.1)),h4.fr e (fun k d _=>f k (.inl d))⟩,h.gF,fun k d=>iD (h.lt k d) e.size⟩
theorem gM.old (h:gM w F K g c) (d:Old w w'):gM w' F K g c:=h.fr (S:=fun _=>False) (Fr.aj d) (fun _ _ h=>h)
end
theorem WM (K:Nat->Prop) (id n:Nat) (h:id < 4) (i:1<=n) (j:n<=5) (w:World):aS 53 #[zi id,zi n] w fun e w'=>e=.returned (.tuple #[w.heap.size,zi 0])/\gM w' (fun k=>k=w.heap.size) K w.heap.size (.new id n)/\Old w w':=by
 have d:=aa (show gM (w.alloc (.cells #[zi id,zi n,zi 0,zi 0,aQ,.pointer none] 87)) (fun k=>k=w.heap.size) K w.heap.size (.new id n) from
  ⟨⟨none,0,_,Bk.new w _ _,dN _,fD.nil _ _ _,rfl⟩,rfl,fun k f=>by subst f;simp⟩)
 have l:¬ (4<=(id:Int)):=af
 have m:¬ ((n:Int) < 1):=af
 have p:¬ (5 < (n:Int)):=af
 have r:¬ ((id:Int) < 0):=af
 go_enter func53,ntmps53
 go_wp2
 go_ret2
 exact ⟨rfl,d.o,(Old.refl' w).ag _⟩
theorem WN (F K:Nat->Prop) (g:Nat) (c:jc) (seq:Int) (b:Bool) (f:c.is seq=b) (w:World) (h:gM w F K g c):aS 131 #[g,zi seq] w fun e w'=>e=.returned (.bool b)/\w=w':=by
 obtain ⟨A,q,V,i,-,-,h4⟩:=h.ex
 have r:=i.lt
 have c5:=(i.cell 5).trans rfl
 obtain ⟨id,n,s,kn,p⟩:=c
 cases p with
 | none=>
  have e:V=.pointer none:=h4
  subst e
  have j:b=false:=f.symm
  subst j
  clear i h4 h f
  go_enter func131,ntmps131
  go_wp2
  go_ret
  exact ⟨rfl,rfl⟩
 | some p=>
  obtain ⟨bk,rfl,-,-,k⟩:=h4
  have j:b=decide (p.1.seq=seq):=f.symm
  subst j
  have d1:w.cell? ⟨bk,1,none⟩=some (zi p.1.seq):=(k.cell 1).trans rfl
  have l:=k.lt
  obtain ⟨u,d⟩:=aR (p.1.seq)
  rw [d] at d1 ⊢
  have m:w.cell? ⟨g,5,none⟩=some (av bk 0):=c5
  clear d c5
  clear i h k f
  go_enter func131,ntmps131
  go_wp2
  go_ret
  exact ⟨by first | rfl | simp,rfl⟩
theorem FY (c i j q:Nat) (e:i < 5) (f:3<=q) (d:i≠j):¬ mine c i (bM c j q):=by
 unfold bM mine
 rw [if_neg af]
 split
 ·simp
  omega
 ·simp
  omega
theorem CU (c i j q:Nat) (h:q < 3∨q=12):bM c i q=bM c j q:=by
 unfold bM
 rcases h with h | h
 ·rw [if_pos h,if_pos h]
 ·subst h;rfl
theorem uN (c i q:Nat):bM c i q≠bS:=by
 unfold bM bS
 split
 ·simp
 ·split <;> simp
section
variable {w w':World} {own own':Nat->Tag} {c i j W gi gj:Nat} {u:bV} {si sj:NS}
theorem jb.did (a:jb) {t:Tag} (h0:t≠aB) (m:t≠bS) (l:¬ mine c i t) (h:a.P w (fun k=>own k=t) (fun k=>own k=aB)) (n:vO w own) (D:fT w own c i w' own'):a.P w' (fun k=>own' k=t) (fun k=>own' k=aB):=by
 have p:Fr (fun k=>mine c i (own k)) w w':=D.fr
 refine a.fr (a.lift h0 h D.ext fun k f e=>?_) p fun k f d=>?_
 ·rcases D.new k f with h | h | h
  ·exact h0 (e.symm.trans h)
  ·exact m (e.symm.trans h)
  ·exact l (e▸h)
 ·rcases Nat.lt_or_ge k w.heap.size with g | g
  ·rw [<- D.ext k g] at d
   rcases f with f | f
   ·exact l (f▸d)
   ·rw [f.1] at d
    simp [mine,aB] at d
  ·rw [n k g] at d
   simp [mine,aB] at d
theorem aN.other (g:aN w own c j W gj u sj) (m:aN w' own' c i W gi u si) (D:fT w own c i w' own') (l:i≠j) (r:si.conf=sj.conf) :
 aN w' own' c j W gj u { sj with bO:=si.bO,bY:=si.bY,aA:=si.aA }:=by
 obtain ⟨f,n⟩:=g.ex
 obtain ⟨s,p⟩:=m.ex
 refine ⟨⟨f,⟨fun q=>?_,p.top⟩⟩,g.dQ,g.self,g.i5⟩
 have far:3<=q->oO u W gj f { sj with bO:=si.bO,bY:=si.bY,aA:=si.aA } q=oO u W gj f sj q->(oO u W gj f { sj with bO:=si.bO,bY:=si.bY,aA:=si.aA } q).P w' (fun k=>own' k=bM c j q) (fun k=>own' k=aB):=fun x e=>by
  rw [e]
  exact jb.did _ (jN c j q) (uN c j q) (FY c i j q m.i5 x l) (n.at_ q) n.top D
 have d:q < 3∨q=12->oO u W gj f { sj with bO:=si.bO,bY:=si.bY,aA:=si.aA } q=oO u W gi s si q->(oO u W gj f { sj with bO:=si.bO,bY:=si.bY,aA:=si.aA } q).P w' (fun k=>own' k=bM c j q) (fun k=>own' k=aB):=fun h e=>by
  rw [e,CU c j i q h]
  exact p.at_ q
 match q with
 | 0=>exact d (.inl af) (by show kT W sj.conf u si.aA=kT W si.conf u si.aA;rw [r])
 | 1 | 2=>exact d (.inl af) rfl
 | 12=>exact d (.inr rfl) rfl
 | 3 | 4 | 5 | 6 | 7 | 8 | 9 | 10 | 11=>exact far af rfl
 | q + 13=>exact far af rfl
end
theorem xE.mono {w:World} {F F':Nat->Prop} {g:Nat} {p:Option (aG×Int×Int)} {V:Value} (h:xE w F g p V) (d:∀ k,F k->F' k):xE w F' g p V:=by
 cases p with
 | none=>exact h
 | some p=>
  obtain ⟨b,e,f,l,h4⟩:=h
  exact ⟨b,e,f,d b l,h4⟩
def gy (g:Nat) (x:jc):jb:=⟨fun w F K=>gM w F K g x,
 fun h hf hS=>by
  obtain ⟨A,q,V,h1,h2,h3,h4⟩:=h.ex
  exact ⟨⟨A,q,V,h1.fr hf (hS g (.inl h.gF)),h2,h3.fr hf (fun k hk=>hS k (.inr hk)),h4.fr hf (fun k hk _=>hS k (.inl hk))⟩,h.gF,fun k hk=>iD (h.lt k hk) hf.size⟩,
 fun h hF hl hK=>by
  obtain ⟨A,q,V,h1,h2,h3,h4⟩:=h.ex
  exact ⟨⟨A,q,V,h1,h2,h3.mono (fun k hk hh=>hK k hk hh.1 hh.2),h4.mono hF⟩,hF g h.gF,hl⟩,
 fun h hk=>h.lt _ hk⟩
structure Dn (w:World) (p:Nat) (F K:Nat->Prop) (s:PV) (l:List bR):Prop where
 at_:ru w p F s
 len:l.length=s.n
 row:∃ V,w.cell? ⟨p,0,none⟩=some V/\w.ownsRow 0 51 14 V s.n (l.flatMap bR.cells)/\∀ b,V.ownBlock=some b->F b
 rep:∀ a∈l,aP w a.A a.r.vs/\(a.r.vs≠[]->∀ x,a.A=some x->K x.block/\¬ F x.block)
theorem ru.mono {w:World} {p:Nat} {F F':Nat->Prop} {s:PV} (h:ru w p F s) (d:∀ k,F k->F' k) (f:∀ k,F' k->k < w.heap.size):ru w p F' s:=by
 obtain ⟨cs,V,xs,g,e,l⟩:=h.ex
 exact ⟨⟨cs,V,xs,g,⟨e.c0,e.lc,fun c m=>(e.wc c m).mono d⟩,fun b n=>d b (l b n)⟩,d p h.gF,f,h.wn⟩
def sZ (p:Nat) (s:PV) (l:List bR):jb:=⟨fun w F K=>Dn w p F K s l,
 fun h hf hS=>by
  obtain ⟨V,h1,h2,h3⟩:=h.row
  refine ⟨h.at_.fr hf (fun k hk=>hS k (.inl hk)),h.len,⟨V,?_,dh h2 hf (fun b hb=>hS b (.inl (h3 b hb))),h3⟩,fun a ha=>⟨(h.rep a ha).1.fr hf (fun hn x hx=>hS _ (.inr ((h.rep a ha).2 (by simpa using hn) x hx))),(h.rep a ha).2⟩⟩
  exact (hf.cell (p:=⟨p,0,none⟩) (h.at_.lt p h.at_.gF) (hS p (.inl h.at_.gF))).trans h1,
 fun h hF hl hK=>by
  obtain ⟨V,h1,h2,h3⟩:=h.row
  refine ⟨h.at_.mono hF hl,h.len,⟨V,h1,h2,fun b hb=>hF b (h3 b hb)⟩,fun a ha=>⟨(h.rep a ha).1,fun hn x hx=>?_⟩⟩
  obtain ⟨k1,k2⟩:=(h.rep a ha).2 hn x hx
  obtain ⟨b,o,e,hb,-⟩:=(h.rep a ha).1 (by simpa using hn)
  rw [e] at hx;injection hx with hx;subst hx
  exact hK _ hb k1 k2,
 fun h hk=>h.at_.lt _ hk⟩
def iM (w:World) (A:Option Addr) (gs:List Nat):Prop:=ah w A (gs.map ptr)
theorem iM.at_ {w:World} {A:Option Addr} {gs:List Nat} (h:iM w A gs) {k:Nat} (d:k < gs.length):∃ b o,A=some ⟨b,o,none⟩/\b < w.heap.size/\w.cell? ⟨b,o + k,none⟩=some (ptr gs[k]):=by
 obtain ⟨b,o,e,f,g⟩:=h (by intro e;have:=congrArg List.length e;simp at this;subst this;simp at d)
 exact ⟨b,o,e,f,by have:=g k (ptr gs[k]) (by simp [d]);exact this⟩
def xF:Option Nat->Value
 | none=>.pointer none
 | some g=>.pointer (some ⟨g,0,none⟩)
theorem aaQ (b o:Nat) (A:Option Addr) (n q:Nat) (gs:List Nat) (l:gs.length=n) (h5:n<=1000) (k:Int) (r:Option Nat) (f:(if 0<=k then gs[k.toNat]? else none)=r) (w:World) (h0:w.cell? ⟨b,o,none⟩=some (.slice A n q)) (u:b < w.heap.size) (i:iM w A gs) :
 aS 38 #[av b o,zi k] w fun e w'=>e=.returned (xF r)/\Old w w':=by
 by_cases y:k < 0
 ·have d:r=none:=by rw [<- f,if_neg af]
  subst d
  clear f
  go_enter func38,ntmps38
  go_wp2_with fail
  go_ret
  exact ⟨rfl,Old.refl' _⟩
 ·by_cases z:(n:Int)<=k
  ·have d:r=none:=by rw [<- f,if_pos af];exact Jb af
   subst d
   clear f
   go_enter func38,ntmps38
   go_wp2_with fail
   go_ret
   exact ⟨rfl,Old.refl' _⟩
  ·obtain ⟨j,rfl⟩:∃ j:Nat,k=j:=⟨k.toNat,af⟩
   have g:j < gs.length:=af
   have d:r=some gs[j]:=by rw [<- f,if_pos (by omega)];simp [g]
   subst d
   obtain ⟨x,h⟩:=aR (gs[j])
   rw [h]
   obtain ⟨b1,B,rfl,m,c1⟩:=i.at_ g
   rw [h] at c1
   have p:(j:Int) < (n:Int):=af
   have s:(0:Int)<=(j:Int):=af
   clear f h i l g
   go_enter func38,ntmps38
   go_wp2_with fail
   go_ret
   exact ⟨rfl,Old.refl' _⟩
theorem aaR (b o:Nat) (A:Option Addr) (n q:Nat) (gs:List Nat) (l:gs.length=n) (h5:n<=1000) (k:Int) (r:Option Nat) (f:(if 0<=k then gs[k.toNat]? else none)=r) (w:World) (h0:w.cell? ⟨b,o,none⟩=some (.slice A n q)) (u:b < w.heap.size) (i:iM w A gs) :
 aS 32 #[av b o,zi k] w fun e w'=>e=.returned (xF r)/\Old w w':=by
 by_cases y:k < 0
 ·have d:r=none:=by rw [<- f,if_neg af]
  subst d
  clear f
  go_enter func32,ntmps32
  go_wp2_with fail
  go_ret
  exact ⟨rfl,Old.refl' _⟩
 ·by_cases z:(n:Int)<=k
  ·have d:r=none:=by rw [<- f,if_pos af];exact Jb af
   subst d
   clear f
   go_enter func32,ntmps32
   go_wp2_with fail
   go_ret
   exact ⟨rfl,Old.refl' _⟩
  ·obtain ⟨j,rfl⟩:∃ j:Nat,k=j:=⟨k.toNat,af⟩
   have g:j < gs.length:=af
   have d:r=some gs[j]:=by rw [<- f,if_pos (by omega)];simp [g]
   subst d
   obtain ⟨x,h⟩:=aR (gs[j])
   rw [h]
   obtain ⟨b1,B,rfl,m,c1⟩:=i.at_ g
   rw [h] at c1
   have p:(j:Int) < (n:Int):=af
   have s:(0:Int)<=(j:Int):=af
   clear f h i l g
   go_enter func32,ntmps32
   go_wp2_with fail
   go_ret
   exact ⟨rfl,Old.refl' _⟩
theorem OM (F:Fence) (m:Nat) (h6:F.fn 54) (d:F.round=none) (b o:Nat) (w:World) :
 CallsIn F m prog 54 #[av b o] w fun e w'=>e=.returned (.func (.func 99) #[] #[w.heap.size])/\w'=w.alloc (.cells #[av b o] 169):=by
 refine callsIn_of_wp func54 rfl h6 ?_ d
 simp only [ntmps54,List.size_toArray,iR,jV,Nat.reduceAdd,Nat.reduceSub,Array.replicate_succ,Array.replicate_zero,List.push_toArray,List.append_toArray,qz,xZ]
 gi_wp2
 go_ret
 exact ⟨rfl,rfl⟩
def mY (gs:List Nat) (k:Nat):List (Nat×Nat):=(List.range k).map fun j=>(j,gs[j]?.getD 0)
theorem zG (gs:List Nat) (k:Nat):mY gs (k + 1)=mY gs k ++ [(k,gs[k]?.getD 0)]:=by simp [mY,List.range_succ]
theorem Lg (gs:List Nat) {k n:Nat} (h:k < n):mY gs k ++ [(k,gs[k]?.getD 0)] <+: mY gs n:=by
 rw [<- zG]
 have e:mY gs (k + 1)=(mY gs n).take (k + 1):=by
  unfold mY
  rw [<- List.map_take,List.take_range,Nat.min_eq_left af]
 rw [e]
 exact List.take_prefix _ _
def OO (x:Nat×Nat):Array Value:=#[zi (x.1:Int),av x.2 0]
theorem Lh (F:Fence) (m:Nat) (h8:F.fn 99) (j:F.round=none) (O:1<=m) (l p b o:Nat) (A:Option Addr) (n q:Nat) (gs:List Nat) (z:gs.length=n) (h5:n<=1000) (J:List (Nat×Nat)->World->Prop)
 (r:∀ pre W,J pre W->W.cell? ⟨p,0,none⟩=some (av b o)/\W.cell? ⟨b,o,none⟩=some (.slice A n q)/\p < W.heap.size/\b < W.heap.size/\iM W A gs)
 (B:∀ pre x W,J pre W->pre ++ [x] <+: mY gs n->YieldAt F (m - 1) prog l (OO x) W fun e W'=>e=.returned (.bool true)/\J (pre ++ [x]) W')
 (W:World) (h0:J [] W) :
 CallsIn F m prog 99 #[.func (.yield l) #[] #[],av p 0] W fun e W'=>(∃ v,e=.returned v)/\J (mY gs n) W':=by
 obtain ⟨c0,c1,G,H,-⟩:=r _ _ h0
 have s:=aa z
 have I:=aa B
 have K:=aa r
 clear z r B
 refine callsIn_of_wp func99 rfl h8 ?_ j
 simp only [ntmps99,List.size_toArray,iR,jV,Nat.reduceAdd,Nat.reduceSub,Array.replicate_succ,Array.replicate_zero,List.push_toArray,List.append_toArray,qz,xZ]
 gi_wp2
 gi_loopw [10] (fun i wr=>∃ k:Nat,k<=n/\i=zi (k:Int)/\J (mY gs k) wr) (fun i _=>n - (intOf i).toNat)
 case atStart=>exact ⟨0,Nat.zero_le _,rfl,h0⟩
 case round=>
  obtain ⟨k,P,rfl,d⟩:=hrel
  clear c0 c1 G H
  by_cases f:k < n
  ·obtain ⟨-,-,-,-,C⟩:=K.o _ _ d
   obtain ⟨b1,R,rfl,L,D⟩:=C.at_ (k:=k) (by rw [s.o];exact f)
   obtain ⟨x,h⟩:=aR (gs[k]?.getD 0)
   have g:gs[k]'(by rw [s.o];exact f)=x:=by rw [<- h];simp [s.o,f]
   rw [g] at D
   unfold ptr at D
   have M:=aa h
   obtain ⟨fn,E,assign,body,hy,N⟩:=I.o (mY gs k) (k,x) wr d (by rw [<- h];exact Lg gs f)
   unfold OO at hy
   dsimp only at hy
   have u:(k:Int) < (n:Int):=af
   clear C h g d
   gi_wp2
   refine N.mono ?_
   rintro e S ⟨rfl,y⟩
   gi_wp2
   go_roundw
   case rel=>
    refine ⟨k + 1,af,oP,?_⟩
    rw [zG,M.o];exact y
   case measure=>simp [intOf];omega
  ·obtain rfl:k=n:=by omega
   have u:¬ (k:Int) < (k:Int):=af
   gi_wp2
   go_end0
   exact ⟨⟨_,rfl⟩,d⟩
def WV.ns (s:WV) (i:Nat) (n:dM):NS:=⟨n,s.bO,s.bY,s.aA,s.clocks[i]?.getD 0,s.conf⟩
def bR.strip (a:bR):bR:={ a with A:=none,cap:=0 }
abbrev kZ (c k:Nat):Tag:=(c + 1,10 + k,0)
abbrev oJ (c:Nat):Tag:=(c + 1,9,1)
def vk (V:Value) (gs:List Nat):jb:=.plain (fun w F=>(∃ A q,V=.slice A gs.length q/\iM w A gs/\∀ a,A=some a->F a.block)/\∀ k,F k->k < w.heap.size)
 (fun h hf hS=>⟨by
  obtain ⟨A,q,e,h1,h2⟩:=h.1
  exact ⟨A,q,e,ah.fr h1 hf (fun _ a e=>hS _ (h2 a e)),h2⟩,fun k hk=>iD (h.2 k hk) hf.size⟩)
 (fun h h1 h2=>⟨by
  obtain ⟨A,q,e,k1,k2⟩:=h.1
  exact ⟨A,q,e,k1,fun a e=>h1 _ (k2 a e)⟩,h2⟩) (fun h hk=>h.2 _ hk)
def Li (A:Option Addr) (l:List Int):jb:=.plain (fun w F=>(∃ b,A=some ⟨b,0,none⟩/\Bk w b 3 (l.map (Value.int .i64)).toArray/\F b)/\∀ k,F k->k < w.heap.size)
 (fun h hf hS=>⟨by
  obtain ⟨b,e,h1,h2⟩:=h.1
  exact ⟨b,e,h1.fr hf (hS b h2),h2⟩,fun k hk=>iD (h.2 k hk) hf.size⟩)
 (fun h h1 h2=>⟨by
  obtain ⟨b,e,k1,k2⟩:=h.1
  exact ⟨b,e,k1,h1 b k2⟩,h2⟩) (fun h hk=>h.2 _ hk)
structure gZ (w:World) (own:Nat->Tag) (c W:Nat) (u:bV) (gs cs:List Nat) (l:List bR) (s:WV):Prop where
 top:vO w own
 len:s.nodes.length=s.conf.nodes/\gs.length=s.conf.nodes/\s.au.length=s.conf.au/\cs.length=s.conf.au
 conf:(1<=s.conf.nodes/\s.conf.nodes<=5)/\1<=s.conf.au/\s.conf.au<=4
 node:∀ i n,s.nodes[i]?=some n->aN w own c i W (gs[i]?.getD 0) u (s.ns i n)
 client:∀ k x,s.au[k]?=some x->(gy (cs[k]?.getD 0) x).P w (fun b=>own b=kZ c k) (fun b=>own b=aB)
 past:(sZ u.pp s.past l).P w (fun b=>own b=oJ c) (fun b=>own b=aB)
 acts:l.map bR.strip=s.acts
 rn:(vk u.nodes gs).P w (fun b=>own b=(c + 1,9,2)) (fun b=>own b=aB)
 rc:(vk u.au cs).P w (fun b=>own b=(c + 1,9,3)) (fun b=>own b=aB)
 Io:(Li u.uY u.dQ).P w (fun b=>own b=(c + 1,9,0)) (fun b=>own b=aB)
 dQ:u.dQ=s.clocks/\s.clocks.length=s.conf.nodes + s.conf.au
structure gT (w:World) (own:Nat->Tag) (c:Nat) (w':World) (own':Nat->Tag):Prop where
 ext:Ext w own own'
 fr:Fr (fun k=>(own k).1=c + 1) w w'
 new:∀ k,w.heap.size<=k->own' k=aB∨own' k=bS∨(own' k).1=c + 1
def ek (w:World) (own:Nat->Tag) (c W:Nat) (gs cs:List Nat) (s':WV) (v:Value) (e:Ending) (w':World):Prop:=e=.returned v/\∃ own' u' l',gZ w' own' c W u' gs cs l' s'/\gT w own c w' own'
theorem gT.trans {w w1 f:World} {o g j:Nat->Tag} {c:Nat} (h:gT w o c w1 g) (k:gT w1 g c f j):gT w o c f j:=
 ⟨h.ext.trans k.ext h.fr.size,h.fr.trans' k.fr (fun x d m=>by have:=h.ext x d;rwa [this] at m),fun x d=>by
  rcases Nat.lt_or_ge x w1.heap.size with e | e
  ·rw [k.ext x e];exact h.new x d
  ·exact k.new x e⟩
theorem fT.w {w w':World} {own own':Nat->Tag} {c i:Nat} (h:fT w own c i w' own'):gT w own c w' own':=
 ⟨h.ext,h.fr.mono fun _ _ d=>d.1,fun k d=>(h.new k d).imp id fun e=>e.imp id fun e=>e.1⟩
theorem gT.refl {w:World} {own:Nat->Tag} (c:Nat) (d:vO w own):gT w own c w own:=⟨Ext.refl _ _,Fr.refl _ _,fun k e=>.inl (d k e)⟩
theorem gT.old {w w1 d:World} {o e:Nat->Tag} {c:Nat} (h:gT w o c w1 e) (k:Old w1 d):gT w o c d e:=
 ⟨h.ext,h.fr.trans' (T:=fun _=>False) (Fr.aj k) (fun _ _ h=>h.elim),h.new⟩
section
variable {w w':World} {own own':Nat->Tag} {c i W:Nat} {u:bV} {gs cs:List Nat} {l:List bR} {s:WV}
theorem gZ.old (h:gZ w own c W u gs cs l s) (d:Old w w'):gZ w' own c W u gs cs l s:=
 ⟨h.top.old d.size,h.len,h.conf,fun i n e=>(h.node i n e).old d,
  fun k x f=>(gy _ x).fr (h.client k x f) (Fr.aj (S:=fun _=>False) d) (fun _ _ h=>h),
  (sZ _ _ l).fr h.past (Fr.aj (S:=fun _=>False) d) (fun _ _ h=>h),h.acts,
  (vk _ _).fr h.rn (Fr.aj (S:=fun _=>False) d) (fun _ _ h=>h),(vk _ _).fr h.rc (Fr.aj (S:=fun _=>False) d) (fun _ _ h=>h),(Li _ _).fr h.Io (Fr.aj (S:=fun _=>False) d) (fun _ _ h=>h),h.dQ⟩
theorem gZ.act (h:gZ w own c W u gs cs l s) {n:dM} (f:s.nodes[i]?=some n) {s':NS} (N':aN w' own' c i W (gs[i]?.getD 0) u s') (D:fT w own c i w' own') (hc:s'.conf=s.conf) (zS:s'.now=s.clocks[i]?.getD 0) :
 gZ w' own' c W u gs cs l { s with nodes:=s.nodes.set i s'.n,bO:=s'.bO,bY:=s'.bY,aA:=s'.aA }:=by
 have hlt:i < s.nodes.length:=(List.getElem?_eq_some_iff.1 f).1
 have i5:=N'.i5
 refine ⟨N'.top,⟨by simp [h.len.1],h.len.2⟩,h.conf,fun j m hj=>?_,fun k x g=>?_,?_,h.acts,?_,?_,?_,h.dQ⟩
 ·by_cases e:i=j
  ·exact UF
  ·have d:s.nodes[j]?=some m:=by
    have:(s.nodes.set i s'.n)[j]?=some m:=hj
    rwa [MF e] at this
   exact (h.node j m d).other N' D e hc
 ·exact jb.did _ (by simp [kZ,aB]) (by simp [kZ,bS]) (by simp only [mine,kZ];omega) (h.client k x g) h.top D
 ·exact jb.did _ (by simp [oJ,aB]) (by simp [oJ,bS]) (by simp only [mine,oJ];omega) h.past h.top D
 ·exact jb.did _ xY BA (by simp only [mine];omega) h.rn h.top D
 ·exact jb.did _ xY BA (by simp only [mine];omega) h.rc h.top D
 ·exact jb.did _ xY BA (by simp only [mine];omega) h.Io h.top D
theorem xG (d:dZ) (u:bV) (j:Nat) (t:Int):gL d { u with dQ:=u.dQ.set j t }=gL d u:=by
 funext V
 unfold gL
 simp
theorem Ez (W:Nat) (d:dZ) (u:bV) (l:List bC) (j:Nat) (t:Int):kT W d { u with dQ:=u.dQ.set j t } l=kT W d u l:=by
 have e:(fun w F K=>iB w F K W d { u with dQ:=u.dQ.set j t } l)=fun w F K=>iB w F K W d u l:=by
  funext w F K
  apply propext
  constructor
  ·rintro ⟨⟨rs,A,q,g,f,h⟩,h4,h5⟩
   rw [xG] at f
   exact ⟨⟨rs,A,q,g,f,h⟩,h4,h5⟩
  ·rintro ⟨⟨rs,A,q,g,f,h⟩,h4,h5⟩
   rw [<- xG d u j t] at f
   exact ⟨⟨rs,A,q,g,f,h⟩,h4,h5⟩
 unfold kT
 congr 1
theorem aN.tq {g:Nat} {s:NS} (N:aN w own c i W g u s) {b j:Nat} (n:own b=(c + 1,9,0)) (h:Fr (fun k=>k=b) w w') (t:Int) (hI:aP w' u.uY (u.dQ.set j t)) (A:j < u.dQ.length) :
 aN w' own c i W g { u with dQ:=u.dQ.set j t } { s with now:=(u.dQ.set j t)[i]?.getD 0 }:=by
 obtain ⟨p,m⟩:=N.ex
 have x:=(List.getElem?_eq_some_iff.1 N.dQ.1).1
 have y:∀ q,q≠12->bM c i q≠(c + 1,9,0):=fun q r e=>by
  have:=N.i5
  unfold bM at e
  split at e
  ·simp at e
  ·simp at e
   omega
 refine ⟨⟨p,⟨fun q=>?_,m.top.old h.size⟩⟩,⟨?_,by rw [Rm];exact N.dQ.2⟩,N.self,N.i5⟩
 ·have far:q≠12->oO { u with dQ:=u.dQ.set j t } W g p { s with now:=(u.dQ.set j t)[i]?.getD 0 } q=oO u W g p s q->(oO { u with dQ:=u.dQ.set j t } W g p { s with now:=(u.dQ.set j t)[i]?.getD 0 } q).P w' (fun k=>own k=bM c i q) (fun k=>own k=aB):=fun r e=>by
   rw [e]
   refine (oO u W g p s q).fr (m.at_ q) h fun k d z=>?_
   subst z
   rcases d with d | d
   ·exact y q r (d.symm.trans n)
   ·exact absurd (d.1.symm.trans n) xY
  match q with
  | 0=>exact far af (Ez W s.conf u s.aA j t)
  | 1 | 2 | 3 | 4 | 5 | 6 | 7 | 8 | 9 | 10 | 11=>exact far af rfl
  | 12=>
   have f:aP w u.uY u.dQ/\(∀ a,u.uY=some a->own a.block=bM c i 12)/\∀ k,own k=bM c i 12->k < w.heap.size:=m.at_ 12
   exact ⟨hI,f.2.1,fun k d=>iD (f.2.2 k d) h.size⟩
  | q + 13=>exact far af rfl
 ·rw [gG (by rw [Rm];exact x)]
  rfl
theorem gZ.tq (h:gZ w own c W u gs cs l s) {j:Nat} (B:j < s.clocks.length) (t:Int):∃ b,u.uY=some ⟨b,0,none⟩/\w.cell? ⟨b,j,none⟩=some (zi (s.clocks[j]?.getD 0))/\b < w.heap.size/\w.frozen? ⟨b,j,none⟩=false/\
 gZ (w.setCell ⟨b,j,none⟩ (zi t)) own c W { u with dQ:=u.dQ.set j t } gs cs l { s with clocks:=s.clocks.set j t }/\gT w own c (w.setCell ⟨b,j,none⟩ (zi t)) own:=by
 obtain ⟨⟨b,e,z,g⟩,m⟩:=h.Io
 have r:Fr (fun k=>k=b) w (w.setCell ⟨b,j,none⟩ (zi t)):=(Fr.refl (fun k=>k=b) w).setCell (p:=⟨b,j,none⟩) (.inr rfl) _
 have d:=z.bH j (zi t)
 have y:(u.dQ.map (Value.int .i64)).toArray.setIfInBounds j (zi t)=((u.dQ.set j t).map (Value.int .i64)).toArray:=by
  apply Array.ext'
  simp [List.map_set]
 rw [y] at d
 have A:j < u.dQ.length:=by rw [h.dQ.1];exact B
 have hI:aP (w.setCell ⟨b,j,none⟩ (zi t)) u.uY (u.dQ.set j t):=fun _=>⟨b,0,e,d.lt,fun k v C=>by
  rw [mE,d.cell k]
  simpa using C⟩
 have far:∀ (a:jb) (T:Tag),T≠aB->T≠(c + 1,9,0)->a.P w (fun k=>own k=T) (fun k=>own k=aB)->a.P (w.setCell ⟨b,j,none⟩ (zi t)) (fun k=>own k=T) (fun k=>own k=aB):=fun a T h0 h9 D=>a.fr D r fun k f E=>by
  subst E
  rcases f with f | f
  ·exact h9 (f.symm.trans g)
  ·exact absurd (f.1.symm.trans g) xY
 refine ⟨b,e,?_,m b g,z.frozen j,⟨h.top.old r.size,h.len,h.conf,fun i n F=>?_,fun k x G=>far _ _ (by simp [kZ,aB]) (by simp [kZ];omega) (h.client k x G),far _ _ (by simp [oJ,aB]) (by simp [oJ]) h.past,h.acts,far _ _ xY bE h.rn,far _ _ xY bE h.rc,?_,?_⟩,⟨Ext.refl _ _,r.mono fun k _ (H:k=b)=>by rw [H,g],fun k f=>.inl (h.top k f)⟩⟩
 ·rw [z.cell j,h.dQ.1]
  simp [B]
 ·have:=(h.node i n F).tq g r t hI A
  rw [h.dQ.1] at this ⊢
  exact this
 ·exact ⟨⟨b,e,d,g⟩,fun k f=>iD (m k f) r.size⟩
 ·exact ⟨by show u.dQ.set j t=s.clocks.set j t;rw [h.dQ.1],by show (s.clocks.set j t).length=_;rw [Rm];exact h.dQ.2⟩
end
structure uq (w:World) (F:Nat->Prop) (W g dk i:Nat):Prop where
 ex:∃ cs:Array Value,Bk w g 115 cs/\cs.size=193/\cs[0]?=some (ptr W)/\cs[1]?=some (zi i)/\cs[3]?=some (ptr dk)
 gF:F g
 lt:∀ k,F k->k < w.heap.size
def FZ (W g dk i:Nat):jb:=.plain (fun w F=>uq w F W g dk i)
 (fun h hf hS=>⟨by obtain ⟨cs,h1,h2⟩:=h.ex;exact ⟨cs,h1.fr hf (hS g h.gF),h2⟩,h.gF,fun k hk=>iD (h.lt k hk) hf.size⟩)
 (fun h h1 h2=>⟨h.ex,h1 g h.gF,h2⟩) (fun h hk=>h.lt _ hk)
def OP (u:bV) (W g dk:Nat) (s:NS):Nat->jb
 | 0=>kT W s.conf u s.aA
 | 1=>KC u.pb s.bO
 | 2=>xg u.pv s.bY
 | 3=>FZ W g dk s.n.self.toNat
 | 4=>zo dk s.n.disk
 | 12=>Qu u.uY u.dQ
 | _=>TY
structure Bh (w:World) (own:Nat->Tag) (c i W g:Nat) (u:bV) (s:NS):Prop where
 ex:∃ dk,eF w own (bM c i) (OP u W g dk s)
 dQ:u.dQ[i]?=some s.now/\u.dQ.length<=100
 self:s.n.self=i
 i5:i < 5
section
variable {w w':World} {own:Nat->Tag} {c i W g:Nat} {u:bV} {s:NS}
end
def wT (c j:Nat):Tag:=if j < 3 then (c + 1,0,j) else if 12<=j/\j < 16 then (c + 1,9,j - 12) else if 20<=j/\j < 120 then (c + 1,j / 20,j % 20) else if 1000<=j then (c + 1,j - 990,0) else (c + 1,7,j)
theorem jP (c j:Nat):wT c j≠aB:=by
 unfold wT aB
 split
 ·simp
 ·split
  ·simp
  ·split
   ·simp
   ·split <;> simp
theorem lT (c p q:Nat) (h:wT c p=wT c q):p=q:=by
 unfold wT at h
 split at h
 ·split at h
  ·simp at h;omega
  ·split at h
   ·simp at h
   ·split at h
    ·simp at h;omega
    ·split at h
     ·simp at h;omega
     ·simp at h
 ·split at h
  ·split at h
   ·simp at h
   ·split at h
    ·simp at h;omega
    ·split at h
     ·simp at h;omega
     ·split at h
      ·simp at h;omega
      ·simp at h
  ·split at h
   ·split at h
    ·simp at h;omega
    ·split at h
     ·simp at h;omega
     ·exact Rf
   ·split at h
    ·split at h
     ·simp at h;omega
     ·split at h
      ·simp at h;omega
      ·exact Rf
    ·split at h
     ·simp at h
     ·split at h
      ·simp at h
      ·exact Rf
def jk (W:Nat) (cf:dZ) (u:bV) (gs mR cs:List Nat) (j:Nat):jb:=
 if j=0 then kT W cf u [dO cf.nodes]
 else if j=1 then KC u.pb []
 else if j=2 then xg u.pv (fun _ _=>[])
 else if j=12 then Li u.uY u.dQ
 else if j=13 then sZ u.pp PV.new []
 else if j=14 then vk u.nodes gs
 else if j=15 then vk u.au cs
 else if j % 20=3/\20<=j/\j / 20 - 1 < gs.length then FZ W (gs[j / 20 - 1]?.getD 0) (mR[j / 20 - 1]?.getD 0) (j / 20 - 1)
 else if j % 20=4/\20<=j/\j / 20 - 1 < gs.length then zo (mR[j / 20 - 1]?.getD 0) .new
 else if 1000<=j/\j - 1000 < cs.length then gy (cs[j - 1000]?.getD 0) (jc.new ((j - 1000:Nat):Int) cf.nodes)
 else TY
theorem Lj {w:World} {own:Nat->Tag} (d:vO w own) {t:Tag} (e:t≠aB):TY.P w (fun k=>own k=t) (fun k=>own k=aB):=fun k f=>by
 rcases Nat.lt_or_ge k w.heap.size with h | h
 ·exact h
 ·exact absurd (f.symm.trans (d k h)) e
section
variable {w w':World} {own own':Nat->Tag} {c i W:Nat} {u:bV} {cf:dZ} {gs mR cs:List Nat}
theorem Ll (c i q:Nat) (h:3<=q) (d:q < 12) (e:i < 5):bM c i q=wT c (20 * (i + 1) + q):=by
 unfold bM wT
 rw [if_neg af,if_neg af,if_neg af,if_neg af,if_pos af]
 congr 2 <;> omega
theorem OQ (h:eF w own (wT c) (jk W cf u gs mR cs)) (s:i < gs.length) (i5:i < 5) (n:u.dQ[i]?=some 0/\u.dQ.length<=100):Bh w own c i W (gs[i]?.getD 0) u ⟨gH i cf,[],fun _ _=>[],[dO cf.nodes],0,cf⟩:=by
 refine ⟨⟨mR[i]?.getD 0,⟨fun q=>?_,h.top⟩⟩,n,rfl,i5⟩
 have no:∀ q,OP u W (gs[i]?.getD 0) (mR[i]?.getD 0) ⟨gH i cf,[],fun _ _=>[],[dO cf.nodes],0,cf⟩ q=TY->(OP u W (gs[i]?.getD 0) (mR[i]?.getD 0) ⟨gH i cf,[],fun _ _=>[],[dO cf.nodes],0,cf⟩ q).P w (fun k=>own k=bM c i q) (fun k=>own k=aB):=fun q e=>by
  rw [e]
  exact Lj h.top (jN c i q)
 have d:∀ q,q < 20->(20 * (i + 1) + q) / 20 - 1=i:=fun q x=>af
 match q with
 | 0=>exact h.at_ 0
 | 1=>exact h.at_ 1
 | 2=>exact h.at_ 2
 | 3=>
  have f:=h.at_ (20 * (i + 1) + 3)
  rw [<- Ll c i 3 af af i5] at f
  have e:jk W cf u gs mR cs (20 * (i + 1) + 3)=FZ W (gs[i]?.getD 0) (mR[i]?.getD 0) i:=by
   unfold jk
   rw [if_neg af,if_neg af,if_neg af,if_neg af,if_neg af,if_neg af,if_neg af,if_pos (by have:=d 3 (by omega);omega),d 3 af]
  rw [e] at f
  exact f
 | 4=>
  have h4:=h.at_ (20 * (i + 1) + 4)
  rw [<- Ll c i 4 af af i5] at h4
  have e:jk W cf u gs mR cs (20 * (i + 1) + 4)=zo (mR[i]?.getD 0) .new:=by
   unfold jk
   rw [if_neg af,if_neg af,if_neg af,if_neg af,if_neg af,if_neg af,if_neg af,if_neg af,if_pos (by have:=d 4 (by omega);omega),d 4 af]
  rw [e] at h4
  exact h4
 | 5 | 6 | 7 | 8 | 9 | 10 | 11=>exact no _ rfl
 | 12=>
  have g:(∃ b,u.uY=some ⟨b,0,none⟩/\Bk w b 3 (u.dQ.map (Value.int .i64)).toArray/\own b=(c + 1,9,0))/\∀ k,own k=(c + 1,9,0)->k < w.heap.size:=h.at_ 12
  obtain ⟨⟨b,e,l,p⟩,j⟩:=g
  exact (⟨fun _=>⟨b,0,e,l.lt,fun k v r=>by rw [mE,l.cell k];simpa using r⟩,fun a m=>(by rw [e] at m;cases m;exact p),j⟩:aP w u.uY u.dQ/\(∀ a,u.uY=some a->own a.block=(c + 1,9,0))/\∀ k,own k=(c + 1,9,0)->k < w.heap.size)
 | q + 13=>exact no _ rfl
theorem Bh.other {j r l:Nat} {d g:NS} (n:Bh w own c j W l u g) (s:aN w' own' c i W r u d) (D:fT w own c i w' own') (p:i≠j) (z:d.conf=g.conf) :
 Bh w' own' c j W l u { g with bO:=d.bO,bY:=d.bY,aA:=d.aA }:=by
 obtain ⟨m,x⟩:=n.ex
 obtain ⟨A,y⟩:=s.ex
 refine ⟨⟨m,⟨fun q=>?_,y.top⟩⟩,n.dQ,n.self,n.i5⟩
 have far:3<=q->OP u W l m { g with bO:=d.bO,bY:=d.bY,aA:=d.aA } q=OP u W l m g q->(OP u W l m { g with bO:=d.bO,bY:=d.bY,aA:=d.aA } q).P w' (fun k=>own' k=bM c j q) (fun k=>own' k=aB):=fun B e=>by
  rw [e]
  exact jb.did _ (jN c j q) (uN c j q) (FY c i j q s.i5 B p) (x.at_ q) x.top D
 have f:q < 3∨q=12->OP u W l m { g with bO:=d.bO,bY:=d.bY,aA:=d.aA } q=oO u W r A d q->(OP u W l m { g with bO:=d.bO,bY:=d.bY,aA:=d.aA } q).P w' (fun k=>own' k=bM c j q) (fun k=>own' k=aB):=fun h e=>by
  rw [e,CU c j i q h]
  exact y.at_ q
 match q with
 | 0=>exact f (.inl af) (by show kT W g.conf u d.aA=kT W d.conf u d.aA;rw [z])
 | 1 | 2=>exact f (.inl af) rfl
 | 12=>exact f (.inr rfl) rfl
 | 3 | 4 | 5 | 6 | 7 | 8 | 9 | 10 | 11=>exact far af rfl
 | q + 13=>exact far af rfl
end
theorem yH {E:Operand->Value} {w:World} {o:Oper} (x:Operand) (d:o.op=.makeSlice 34 x x) (m:Nat) (f:1<=m) (h9:m<=9) (e:E x=zi (m:Int)) :
 (execOp E o).run prog w=.ok (.value (.slice (some ⟨w.heap.size,0,none⟩) m m)) (w.alloc (.cells ((List.replicate m (0:Int)).map (Value.int .i64)).toArray 3)):=by
 unfold execOp
 simp only [d,e]
 rcases (by omega:m=1∨m=2∨m=3∨m=4∨m=5∨m=6∨m=7∨m=8∨m=9) with rfl | rfl | rfl | rfl | rfl | rfl | rfl | rfl | rfl
 all_goals kernel_rfl
theorem Bi {E:Operand->Value} {w:World} {o:Oper} (d:o.op=.makeMap 80 none) :
 (execOp E o).run prog w=.ok (.value (.map (some w.heap.size))) (w.alloc (.map #[] 0)):=by
 unfold execOp
 simp only [d]
 kernel_rfl
theorem yI {E:Operand->Value} {w:World} {o:Oper} (x:Operand) (d:o.op=.buildSlice 31 1 #[(0,x)]) (A:Option Addr) (n q:Nat) (e:E x=.agg #[zi 1,.slice A n q]) :
 (execOp E o).run prog w=.ok (.value (.slice (some ⟨w.heap.size,0,none⟩) 1 1)) (w.alloc (.cells #[zi 1,.slice A n q] 59)):=by
 unfold execOp
 simp only [d,List.map_toArray,BB,IV,e]
 kernel_rfl
theorem OT (a b d:Int) (m f g h i e:Nat):prog.built 82 [(0,.agg #[zi a,zi b,zi d]),(3,.slice (some ⟨f,0,none⟩) m m),(4,g),(5,h),(6,.map (some i)),(7,.slice (some ⟨e,0,none⟩) 1 1)]=some #[zi a,zi b,zi d,aQ,aQ,.slice (some ⟨f,0,none⟩) m m,av g 0,av h 0,.map (some i),.slice (some ⟨e,0,none⟩) 1 1]:=ay
theorem Ip {E:Operand->Value} {w:World} {o:Oper} (x:Operand) (j:o.op=.box 82 x) (a b d:Int) (m f g h i e:Nat) (k:E x=.agg #[zi a,zi b,zi d,aQ,aQ,.slice (some ⟨f,0,none⟩) m m,av g 0,av h 0,.map (some i),.slice (some ⟨e,0,none⟩) 1 1]) :
 (execOp E o).run prog w=.ok (.value (av w.heap.size 0)) (w.alloc (.cells #[zi a,zi b,zi d,aQ,aQ,.slice (some ⟨f,0,none⟩) m m,av g 0,av h 0,.map (some i),.slice (some ⟨e,0,none⟩) 1 1] 82)):=by
 unfold execOp
 simp only [j,k]
 kernel_rfl
end Go.Proofs.YthihpfpbiajddaaGreat
