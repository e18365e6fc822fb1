/- Parts of the proof. -/
import Derived.Test.YthihpfpbiajddaaGreatHQWorldNobody17
set_option maxRecDepth 100000
set_option maxHeartbeats 8000000
open Go.Proofs.Tryz
namespace Go.Proofs.YthihpfpbiajddaaGreat
open Go.RowKit
theorem Hq (l:List Int) {k:Nat} {v:Int} (h:l[k]?=some v):(l.take (k + 1)).flatMap Cs=(l.take k).flatMap Cs ++ Cs v:=by
 obtain ⟨d,e⟩:=List.getElem?_eq_some_iff.1 h
 rw [MG d,e]
 simp
theorem aat (m:aO) (hk:m.kind=10) (V C L:Value) (u:Option Addr) (g z:Nat) (D:g=m.rep.vs.length) (hr1:g<=1000) (hd:m.rep.data.size<=64) (hvs:∀ v∈m.rep.vs,-1099511627776<=v/\v<=1099511627776) (j:Option Addr) (kn l:Nat) (E:kn=m.known.nodes.length) (hk1:kn<=1000) (hk2:kn<=l) (hx:∀ x∈[m.at_,m.rep.code,m.rep.fQ,(g:Int)],0<=x/\x < 9223372036854775808) (B:List Int) (y:Nat) (hB:m.bytes=B) (F:B.length=y) (w:World) (G:aP w j m.known.nodes) (H:aP w u m.rep.vs) :
 aS 84 #[.agg (iX 10 m (.slice j kn l) V C (.slice u g z) L)] w fun e w'=>∃ A c,e=.returned (.slice A y c)/\w'.ownsRow w.heap.size 5 1 (.slice A y c) y (eB B)/\Old w w':=by
 have U:=(Old.refl' w).ag (.cells (iX 10 m (.slice j kn l) V C (.slice u g z) L) 110)
 have d:=aa (Bk.new w 110 (iX 10 m (.slice j kn l) V C (.slice u g z) L))
 have I:=aa (oF.new' w (.cells (iX 10 m (.slice j kn l) V C (.slice u g z) L) 110))
 have f:=(d.o.old I.o.o).cell
 have h:=(d.o.old I.o.o).lt
 have J:=aa (G.old U)
 have K:=aa F
 have M:=aa hB
 have HK:=aa hk
 have HKN:=aa E
 have N:=aa U
 have O:=aa (H.old U)
 have i:=aa D
 simp only [iX] at O
 simp only [iX] at f I d J N ⊢
 clear G F hB E U hk H D
 go_enter func84,ntmps84
 go_wp2_with fail
 refine (I.o.FH af [10] bE 1 _ _ rfl rfl af bE).mono ?_
 rintro e w1 ⟨rfl,W⟩
 have H1:=aa W
 clear f h I
 have f:=(d.o.old W.o).cell
 have h:=(d.o.old W.o).lt
 clear W
 go_wp2_with fail
 refine (H1.o.chain af m.known j kn l HKN.o hk1 hk2 (J.o.old H1.o.o)).mono ?_
 rintro e w2 ⟨rfl,X⟩
 have H2:=aa X
 clear f h H1
 have f:=(d.o.old X.o).cell
 have h:=(d.o.old X.o).lt
 clear X
 go_wp2_with fail
 refine (H2.o.req af m.q).mono ?_
 rintro e w3 ⟨rfl,Y⟩
 have H3:=aa Y
 clear f h H2
 have f:=(d.o.old Y.o).cell
 have h:=(d.o.old Y.o).lt
 clear Y
 go_wp2_with fail
 refine (H3.o.yes af m.ans).mono ?_
 rintro e w4 ⟨rfl,h4⟩
 have H4:=aa h4
 clear f h H3
 have f:=(d.o.old h4.o).cell
 have h:=(d.o.old h4.o).lt
 clear h4
 obtain ⟨hs,n⟩:=aR (m.ans)
 have P:=aa n
 rw [n] at f
 clear n
 cases hs with
 | false=>
  go_wp2_with fail
  refine (H4.o.bytes af B y (by rw [<- M.o];simp [aO.bytes,aO.body,HK.o,bX,oU,P.o]) K.o).mono ?_
  rintro e wz ⟨A,c,rfl,p,r⟩
  go_wp2
  go_ret
  exact ⟨A,c,rfl,dX p N.o.size,N.o.trans' r⟩
 | true=>
  go_wp2_with fail
  refine (H4.o.FH af [m.at_,m.rep.code,m.rep.fQ,(g:Int)] (hx) 4 _ _ rfl rfl af rfl).mono ?_
  rintro e w5 ⟨rfl,h5⟩
  have H5:=aa h5
  clear f h H4
  have f:=(d.o.old h5.o).cell
  have h:=(d.o.old h5.o).lt
  clear h5
  go_wp2_with fail
  refine (H5.o.text af m.rep.data hd).mono ?_
  rintro e w6 ⟨rfl,h6⟩
  have R:=aa h6
  clear f h H5
  have f:=(d.o.old h6.o).cell
  have h:=(d.o.old h6.o).lt
  clear h6
  obtain ⟨BS,s⟩:∃ x,x=([] ++ bX [10] ++ TX m.known ++ Oc m.q ++ oU m.ans ++ bX [m.at_,m.rep.code,m.rep.fQ,(g:Int)] ++ jD m.rep.data):=⟨_,rfl⟩
  rw [<- s] at R
  have NJ:=aa s
  have HC3:=aa (R.o.le (k:=500) af)
  clear s R
  go_wp2_with fail
  go_loopw [163] (fun iv wr=>∃ k:Nat,k<=g/\iv=zi k/\kN (oF (w.alloc (.cells #[zi 10,zi m.known.az,.slice j kn l,zi m.n,zi m.bD,zi m.bL,zi m.id,zi m.asked,zi m.b.round,zi m.b.node,zi m.bN.promised.round,zi m.bN.promised.node,zi m.bN.accepted.round,zi m.bN.accepted.node,.bool m.bN.has,zi m.bN.chain.az,V,zi m.chain.az,C,zi m.q.client,zi m.q.seq,zi m.q.kind,zi m.q.id,zi m.q.eD,.string m.q.data,.bool m.hop,.bool m.open_,.bool m.ans,zi m.rep.code,zi m.rep.fQ,.string m.rep.data,(.slice u g z),zi m.at_,L] 110)) wr (w.heap.size + 1) (BS ++ (m.rep.vs.take k).flatMap Cs) (500 + 11 * k))) (fun iv _=>g - (intOf iv).toNat)
  case atStart=>exact ⟨0,Nat.zero_le _,rfl,aa (by simpa using HC3.o)⟩
  case round=>
   obtain ⟨k,hk,rfl,S⟩:=hrel
   clear f h
   have f:=(d.o.old S.o.o).cell
   have h:=(d.o.old S.o.o).lt
   by_cases hlt:k < g
   ·obtain ⟨v,Z⟩:∃ v,m.rep.vs[k]?=some v:=⟨_,gG (by have:=i.o;omega)⟩
    obtain ⟨b0,o,rfl,hb0,hc⟩:=(O.o.old S.o.o:aP _ _ _).at_ (k:=k) (by have:=i.o;omega)
    rw [Z] at hc
    simp only [Gu] at hc
    have T:=hvs v (EY Z)
    have hkI:(k:Int) < g:=af
    have hneg:IntKind.i64.wrap (-v)=-v:=kP _ af
    have hmx:(if v < -v then -v else v)=(v.natAbs:Int):=by split <;> omega
    have cY:=aa (S.o.yes af (decide (v < 0)))
    have HV:=aa (Hq m.rep.vs Z)
    have HVB:=aa T
    clear Z T
    go_wp2_with fail
    refine cY.o.mono ?_
    rintro e w5 ⟨rfl,h5⟩
    have cN:=aa (h5.FH af [(v.natAbs:Int)] (by simp;have:=HVB.o;omega) 1 _ _ rfl rfl af rfl)
    clear h5
    go_wp2_with fail
    refine cN.o.mono ?_
    rintro e w6 ⟨rfl,h6⟩
    have R:=aa (show oF _ w6 (w.heap.size + 1) (BS ++ (m.rep.vs.take (k + 1)).flatMap Cs) (500 + 11 * (k + 1)) by
     rw [HV.o,<- MI]
     have:=h6.le (k:=500 + 11 * (k + 1)) af
     simpa [Cs,bX] using this)
    clear h6
    go_wp2_with fail
    go_roundw
    case rel=>exact ⟨k + 1,af,oP,R⟩
    case measure=>simp [intOf];omega
   ·have e:m.rep.vs.take k=m.rep.vs:=List.take_of_length_le (by have:=i.o;omega)
    have HF:=aa (e▸S.o)
    clear e
    go_wp2_with fail
    refine (HF.o.bytes af B y (by rw [<- M.o,NJ.o];simp [aO.bytes,aO.body,HK.o,bX,i.o,P.o]) K.o).mono ?_
    rintro e wz ⟨A,c,rfl,p,r⟩
    go_wp2
    go_ret
    exact ⟨A,c,rfl,dX p N.o.size,N.o.trans' r⟩
def mQ (x:Int):Prop:=0<=x/\x < 9223372036854775808
def jr (b:bU):Prop:=(0<=b.round/\b.round<=1099511627776)/\0<=b.node/\b.node<=1099511627776
structure KA (m:aO):Prop where
 k:1<=m.kind/\m.kind<=10
 n:∀ x∈[m.n,m.bD,m.bL,m.id,m.asked,m.at_,m.rep.code,m.rep.fQ],mQ x
 b:jr m.b
 p:jr m.bN.promised
 a:jr m.bN.accepted
 d:m.rep.data.size<=64
 vs:∀ v∈m.rep.vs,-1099511627776<=v/\v<=1099511627776
def SlI (w:World) (V:Value) (ns:List Int):Prop:=∃ A q,V=.slice A ns.length q/\ns.length<=1000/\ns.length<=q/\aP w A ns
def SlJ (w:World) (V:Value) (ns:List Int):Prop:=∃ A q,V=.slice A ns.length q/\ns.length<=1000/\aP w A ns
structure fH (w:World) (g:Nat) (t:TypeId) (a b:Int) (l:List Int):Prop where
 ex:∃ cs,Bk w g t cs/\cs[0]?=some (zi a)/\cs[1]?=some (zi b)/\∀ i,i < 5->cs[2 + i]?=some (zi (l[i]?.getD 0))
 len:l.length=5
section
variable {w w':World} {g:Nat} {t:TypeId} {a b:Int} {l:List Int} {S:Nat->Prop}
theorem fH.fr (h:fH w g t a b l) (d:Fr S w w') (e:¬ S g):fH w' g t a b l:=by
 obtain ⟨cs,f,i⟩:=h.ex
 exact ⟨⟨cs,f.fr d e,i⟩,h.len⟩
theorem fH.old (h:fH w g t a b l) (d:Old w w'):fH w' g t a b l:=h.fr (S:=fun _=>False) (Fr.aj d) id
theorem fH.lt (h:fH w g t a b l):g < w.heap.size:=by obtain ⟨cs,d,_⟩:=h.ex;exact d.lt
theorem fH.hd (h:fH w g t a b l):w.cell? ⟨g,0,none⟩=some (zi a)/\w.cell? ⟨g,1,none⟩=some (zi b)/\g < w.heap.size:=by
 obtain ⟨cs,d,e,f,_⟩:=h.ex
 exact ⟨(d.cell 0).trans e,(d.cell 1).trans f,d.lt⟩
theorem fH.at_ (h:fH w g t a b l) {i:Nat} (e:i < 5):w.cell? ⟨g,2 + i,none⟩=some (zi (l[i]?.getD 0))/\w.frozen? ⟨g,2 + i,none⟩=false/\g < w.heap.size:=by
 obtain ⟨cs,d,_,_,h4⟩:=h.ex
 exact ⟨(d.cell _).trans (h4 i e),d.frozen _,d.lt⟩
theorem fH.bH (h:fH w g t a b l) {i:Nat} {v:Int} (d:i < 5):fH (w.setCell ⟨g,2 + i,none⟩ (zi v)) g t a b (l.set i v):=by
 obtain ⟨cs,f,k,m,h4⟩:=h.ex
 refine ⟨⟨_,f.bH (2 + i) (zi v),by rw [Array.getElem?_setIfInBounds_ne af];exact k,by rw [Array.getElem?_setIfInBounds_ne af];exact m,fun j n=>?_⟩,by simp [h.len]⟩
 by_cases e:i=j
 ·subst e
  have p:=(Array.getElem?_eq_some_iff.1 (h4 i d)).1
  rw [Array.getElem?_setIfInBounds_self,if_pos p,ME (by rw [h.len];exact d)];rfl
 ·rw [Array.getElem?_setIfInBounds_ne af,MF e];exact h4 j n
end
def lk (v:Int) (k:Nat):List Int:=(List.range 5).map fun i=>if i < k then v else 0
theorem KB (v:Int) {k:Nat} (h:k < 5):(lk v k).set k v=lk v (k + 1):=by
 rcases (by omega:k=0∨k=1∨k=2∨k=3∨k=4) with rfl | rfl | rfl | rfl | rfl <;> rfl
theorem fH.mk0 (w:World) (g:Nat) (t:TypeId) (a b:Int) {v:Int} (h:Bk w g t #[zi a,zi b,zi 0,zi 0,zi 0,zi 0,zi 0]):fH w g t a b (lk v 0):=
 ⟨⟨_,h,rfl,rfl,fun i d=>by rcases (by omega:i=0∨i=1∨i=2∨i=3∨i=4) with rfl | rfl | rfl | rfl | rfl <;> rfl⟩,rfl⟩
theorem VU (n:Nat) (now:Int) (u:1<=n) (h5:n<=5) (h:0<=now/\now<=1099511627776) (w:World) :
 aS 94 #[zi n,zi now] w fun e w'=>∃ g,e=.returned (.tuple #[av g 0,zi 0])/\w.heap.size<=g/\fH w' g 252 n now (lk (now + 50) n)/\Old w w':=by
 obtain ⟨j,m⟩:=h
 have hA:=(fH.mk0 (w.alloc (.cells #[zi n,zi now,zi 0,zi 0,zi 0,zi 0,zi 0] 252)) w.heap.size 252 n now (Bk.new w _ _):fH _ _ _ _ _ (lk (now + 50) 0))
 have hO:=(Old.refl' w).ag (.cells #[zi n,zi now,zi 0,zi 0,zi 0,zi 0,zi 0] 252)
 go_enter func94,ntmps94
 go_wp2
 go_loopw [27] (fun iv wr=>∃ k:Nat,k<=n/\iv=zi k/\fH wr w.heap.size 252 n now (lk (now + 50) k)/\Old w wr) (fun iv _=>n - (intOf iv).toNat)
 case atStart=>exact ⟨0,af,rfl,hA,hO⟩
 case round=>
  clear hA hO
  obtain ⟨k,x,rfl,hA,hO⟩:=hrel
  by_cases r:k < n
  ·obtain ⟨c2,f2,y⟩:=hA.at_ (i:=k) af
   have s:=aa (fun v=>hA.bH (i:=k) (v:=v) af)
   have d:=aa hO
   have f:=aa (KB (now + 50) (k:=k) af)
   clear hA hO
   go_wp2
   go_roundw
   case rel=>exact ⟨k + 1,af,oP,by rw [<- f.o];exact s.o _,d.o.aJ (p:=⟨w.heap.size,2 + k,none⟩) (dN _) _⟩
   case measure=>simp [intOf];omega
  ·exact U5
theorem VV (n:Nat) (self now:Int) (y:1<=n) (h5:n<=5) (d:0<=self/\self < n) (j:0<=now/\now<=1099511627776) (w:World) :
 aS 95 #[zi n,zi self,zi now] w fun e w'=>∃ g,e=.returned (.tuple #[av g 0,zi 0])/\w.heap.size<=g/\fH w' g 254 n self (lk now n)/\Old w w':=by
 obtain ⟨m,r⟩:=j
 obtain ⟨s,u⟩:=d
 have hA:=(fH.mk0 (w.alloc (.cells #[zi n,zi self,zi 0,zi 0,zi 0,zi 0,zi 0] 254)) w.heap.size 254 n self (Bk.new w _ _):fH _ _ _ _ _ (lk (now) 0))
 have hO:=(Old.refl' w).ag (.cells #[zi n,zi self,zi 0,zi 0,zi 0,zi 0,zi 0] 254)
 go_enter func95,ntmps95
 go_wp2
 go_loopw [38] (fun iv wr=>∃ k:Nat,k<=n/\iv=zi k/\fH wr w.heap.size 254 n self (lk (now) k)/\Old w wr) (fun iv _=>n - (intOf iv).toNat)
 case atStart=>exact ⟨0,af,rfl,hA,hO⟩
 case round=>
  clear hA hO
  obtain ⟨k,z,rfl,hA,hO⟩:=hrel
  by_cases x:k < n
  ·obtain ⟨c2,f2,A⟩:=hA.at_ (i:=k) af
   have d:=aa (fun v=>hA.bH (i:=k) (v:=v) af)
   have f:=aa hO
   have h:=aa (KB (now) (k:=k) af)
   clear hA hO
   go_wp2
   go_roundw
   case rel=>exact ⟨k + 1,af,oP,by rw [<- h.o];exact d.o _,f.o.aJ (p:=⟨w.heap.size,2 + k,none⟩) (dN _) _⟩
   case measure=>simp [intOf];omega
  ·exact U5
theorem aau (g n:Nat) (s x:Int) (l:List Int) (b:Bool) (i:(decide (0<=x) && decide (x < n))=b) (w:World) (h:fH w g 252 n s l) :
 aS 227 #[g,zi x] w fun e w'=>e=.returned (.bool b)/\w=w':=by
 obtain ⟨c0,c1,j⟩:=h.hd
 subst i
 clear h
 by_cases d:0<=x
 ·by_cases f:x < n
  ·rw [decide_eq_true d,decide_eq_true f]
   go_enter func227,ntmps227
   go_wp2
   go_ret
   exact ⟨rfl,rfl⟩
  ·rw [decide_eq_true d,decide_eq_false f]
   go_enter func227,ntmps227
   go_wp2
   go_ret
   exact ⟨rfl,rfl⟩
 ·rw [decide_eq_false d]
  go_enter func227,ntmps227
  go_wp2
  go_ret
  exact ⟨rfl,rfl⟩
theorem VW (g n:Nat) (s x:Int) (l:List Int) (b:Bool) (i:(decide (0<=x) && decide (x < n))=b) (w:World) (h:fH w g 254 n s l) :
 aS 171 #[g,zi x] w fun e w'=>e=.returned (.bool b)/\w=w':=by
 obtain ⟨c0,c1,j⟩:=h.hd
 subst i
 clear h
 by_cases d:0<=x
 ·by_cases f:x < n
  ·rw [decide_eq_true d,decide_eq_true f]
   go_enter func171,ntmps171
   go_wp2
   go_ret
   exact ⟨rfl,rfl⟩
  ·rw [decide_eq_true d,decide_eq_false f]
   go_enter func171,ntmps171
   go_wp2
   go_ret
   exact ⟨rfl,rfl⟩
 ·rw [decide_eq_false d]
  go_enter func171,ntmps171
  go_wp2
  go_ret
  exact ⟨rfl,rfl⟩
def jb.plain (P:World->(Nat->Prop)->Prop) (fr:∀ {w w':World} {F S:Nat->Prop},P w F->Fr S w w'->(∀ k,F k->¬ S k)->P w' F)
 (mono:∀ {w:World} {F F':Nat->Prop},P w F->(∀ k,F k->F' k)->(∀ k,F' k->k < w.heap.size)->P w F') (lt:∀ {w:World} {F:Nat->Prop} {k:Nat},P w F->F k->k < w.heap.size):jb where
 P:=fun w F _=>P w F
 fr:=fun h hf hS=>fr h hf fun k hk=>hS k (.inl hk)
 mono:=fun h h1 h2 _=>mono h h1 h2
 lt:=fun h=>lt h
def ptr (g:Nat):Value:=av g 0
def mo.way (m:mo):jy:=⟨m.gJ,m.BX,m.bs⟩
structure kL (w:World) (F K:Nat->Prop) (g:Nat) (l:List jy):Prop where
 ex:∃ (ms:List mo) (A:Option Addr) (c:Nat),ms.map mo.way=l/\Bk w g 155 #[.slice A ms.length c]/\w.ownsRow 0 157 3 (.slice A ms.length c) ms.length (ms.flatMap mo.cells)/\(∀ k,(Value.slice A ms.length c).ownBlock=some k->F k)/\
  ∀ m∈ms,ah w m.A (eB m.bs)/\(m.bs≠[]->∀ a,m.A=some a->K a.block/\¬ F a.block)
 gF:F g
 lt:∀ k,F k->k < w.heap.size
theorem kL.fr {w w':World} {F K S:Nat->Prop} {g:Nat} {l:List jy} (h:kL w F K g l) (d:Fr S w w') (f:∀ k,F k∨K k/\¬ F k->¬ S k):kL w' F K g l:=by
 obtain ⟨p,A,c,r,x,y,h4,h5⟩:=h.ex
 refine ⟨⟨p,A,c,r,x.fr d (f g (.inl h.gF)),dh y d (fun k j=>f k (.inl (h4 k j))),h4,fun m n=>⟨(h5 m n).1.fr d (fun z a e=>f _ (.inr ((h5 m n).2 (by rintro e;exact z (by simp [eB,e])) a e))),(h5 m n).2⟩⟩,h.gF,fun k j=>iD (h.lt k j) d.size⟩
theorem kL.old {w w':World} {F K:Nat->Prop} {g:Nat} {l:List jy} (h:kL w F K g l) (d:Old w w'):kL w' F K g l:=h.fr (S:=fun _=>False) (Fr.aj d) (fun _ _ h=>h)
theorem kL.mono {w:World} {F F' K K':Nat->Prop} {g:Nat} {l:List jy} (h:kL w F K g l) (j:∀ k,F k->F' k) (p:∀ k,F' k->k < w.heap.size) (r:∀ k,k < w.heap.size->K k->¬ F k->K' k/\¬ F' k):kL w F' K' g l:=by
 obtain ⟨x,A,c,y,z,B,h4,h5⟩:=h.ex
 refine ⟨⟨x,A,c,y,z,B,fun k C=>j k (h4 k C),fun m f=>⟨(h5 m f).1,fun n a e=>?_⟩⟩,j g h.gF,p⟩
 obtain ⟨D,E⟩:=(h5 m f).2 n a e
 obtain ⟨b,o,d,G,-⟩:=(h5 m f).1 (by simpa [eB] using n)
 rw [e] at d;injection d with d;subst d
 exact r _ G D E
def KC (g:Nat) (l:List jy):jb:=⟨fun w F K=>kL w F K g l,fun h hf hS=>h.fr hf hS,fun h h1 h2 h3=>h.mono h1 h2 h3,fun h hk=>h.lt _ hk⟩
def Oh (e:Int) (b:bU):Value:=.agg #[zi e,zi b.round,zi b.node]
structure Ct (w:World) (F:Nat->Prop) (g:Nat) (v:Int->bU->List Int):Prop where
 ex:∃ L:List ((Int×bU)×Nat),fP w prog 346 g (L.map fun x=>(Oh x.1.1 x.1.2,.map (some x.2)))/\(∀ x∈L,fP w prog 3 x.2 ((v x.1.1 x.1.2).map fun n=>(zi n,.bool true))/\F x.2/\x.2≠g)/\(L.map (·.2)).Nodup/\∀ e b,(∀ x∈L,x.1≠(e,b))->v e b=[]
 gF:F g
 lt:∀ k,F k->k < w.heap.size
theorem Ct.fr {w w':World} {F S:Nat->Prop} {g:Nat} {v:Int->bU->List Int} (h:Ct w F g v) (d:Fr S w w') (j:∀ k,F k->¬ S k):Ct w' F g v:=by
 obtain ⟨L,l,e,m,h4⟩:=h.ex
 exact ⟨⟨L,l.fr d (j g h.gF),fun x f=>⟨(e x f).1.fr d (j _ (e x f).2.1),(e x f).2⟩,m,h4⟩,h.gF,fun k n=>iD (h.lt k n) d.size⟩
theorem Ct.mono {w:World} {F F':Nat->Prop} {g:Nat} {v:Int->bU->List Int} (h:Ct w F g v) (f:∀ k,F k->F' k) (j:∀ k,F' k->k < w.heap.size):Ct w F' g v:=by
 obtain ⟨L,l,d,m,h4⟩:=h.ex
 exact ⟨⟨L,l,fun x e=>⟨(d x e).1,f _ (d x e).2.1,(d x e).2.2⟩,m,h4⟩,f g h.gF,j⟩
def xg (g:Nat) (v:Int->bU->List Int):jb:=.plain (fun w F=>Ct w F g v) (fun h=>h.fr) (fun h=>h.mono) (fun h hk=>h.lt _ hk)
structure bV where
 nodes:Value
 au:Value
 uY:Option Addr
 Se:Nat
 dQ:List Int
 pb:Nat
 pp:Nat
 pv:Nat
def gL (c:dZ) (u:bV) (V:Value):Array Value:=#[zi c.nodes,zi c.au,zi c.aI,u.nodes,u.au,.slice u.uY u.dQ.length u.Se,ptr u.pb,ptr u.pp,.map (some u.pv),V]
abbrev iU:=bC×Option Addr×Nat
def iU.cells (x:iU):List Value:=[zi x.1.az,.slice x.2.1 x.1.nodes.length x.2.2]
structure iB (w:World) (F K:Nat->Prop) (W:Nat) (c:dZ) (u:bV) (l:List bC):Prop where
 ex:∃ (rs:List iU) (A:Option Addr) (q:Nat),rs.map (·.1)=l/\Bk w W 82 (gL c u (.slice A rs.length q))/\w.ownsRow 0 59 2 (.slice A rs.length q) rs.length (rs.flatMap iU.cells)/\(∀ k,(Value.slice A rs.length q).ownBlock=some k->F k)/\
  ∀ x∈rs,x.1.nodes.length<=x.2.2/\fD w (fun k=>K k/\¬ F k) x.2.1 x.1.nodes
 gF:F W
 lt:∀ k,F k->k < w.heap.size
theorem iB.fr {w w':World} {F K S:Nat->Prop} {W:Nat} {c:dZ} {u:bV} {l:List bC} (h:iB w F K W c u l) (e:Fr S w w') (f:∀ k,F k∨K k/\¬ F k->¬ S k):iB w' F K W c u l:=by
 obtain ⟨rs,A,q,m,n,p,h4,h5⟩:=h.ex
 exact ⟨⟨rs,A,q,m,n.fr e (f W (.inl h.gF)),dh p e (fun k d=>f k (.inl (h4 k d))),h4,fun x j=>⟨(h5 x j).1,(h5 x j).2.fr e fun k d=>f k (.inr d)⟩⟩,h.gF,fun k d=>iD (h.lt k d) e.size⟩
theorem iB.mono {w:World} {F F' K K':Nat->Prop} {W:Nat} {c:dZ} {u:bV} {l:List bC} (h:iB w F K W c u l) (e:∀ k,F k->F' k) (m:∀ k,F' k->k < w.heap.size) (n:∀ k,k < w.heap.size->K k->¬ F k->K' k/\¬ F' k):iB w F' K' W c u l:=by
 obtain ⟨rs,A,q,p,r,y,h4,h5⟩:=h.ex
 exact ⟨⟨rs,A,q,p,r,y,fun k d=>e k (h4 k d),fun x f=>⟨(h5 x f).1,(h5 x f).2.mono fun k d j=>n k d j.1 j.2⟩⟩,e W h.gF,m⟩
def kT (W:Nat) (c:dZ) (u:bV) (l:List bC):jb:=⟨fun w F K=>iB w F K W c u l,fun h hf hS=>h.fr hf hS,fun h h1 h2 h3=>h.mono h1 h2 h3,fun h hk=>h.lt _ hk⟩
structure iC where
 dk:Nat
 ac:Nat
 lg:Nat
 ho:Nat
 ak:Nat
 gr:Nat
 wa:Nat
 pr:Nat
def tZ (m:aO):Nat->Option Value
 | 1=>some (.int .i64 m.known.az)
 | 3=>some (.int .i64 m.n)
 | 4=>some (.int .i64 m.bD)
 | 5=>some (.int .i64 m.bL)
 | 25=>some (.bool m.hop)
 | 26=>some (.bool m.open_)
 | _=>none
def FI (p:iC) (n:dM):Value:=.pointer (if n.p.isSome then some ⟨p.pr,0,none⟩ else none)
def jM (W:Nat) (p:iC) (n:dM) (J:Value):Nat->Option Value
 | 0=>some (ptr W)
 | 1=>some (.int .i64 n.self)
 | 2=>some (.bool n.up)
 | 3=>some (ptr p.dk)
 | 4=>some (ptr p.ac)
 | 5=>some (ptr p.lg)
 | 6=>some (.int .i64 n.kept.join.az)
 | 7=>some J
 | 8=>some (.int .i64 n.junk)
 | 9=>some (ptr p.ho)
 | 10=>some (.map (some p.ak))
 | 11=>some (.int .i64 n.last)
 | 12=>some (ptr p.gr)
 | 13=>some (ptr p.wa)
 | 189=>some (.int .i64 n.seen.round)
 | 190=>some (.int .i64 n.seen.node)
 | 191=>some (FI p n)
 | 192=>some (.int .i64 n.well)
 | _=>none
structure Cu (W:Nat) (p:iC) (n:dM) (J:Value) (cs:Array Value):Prop where
 sz:cs.size=193
 one:∀ j v,jM W p n J j=some v->cs[j]?=some v
 hd:∀ i,i < 5->∀ j v,tZ (n.heard[i]?.getD .zero) j=some v->cs[14 + i * 34 + j]?=some v
 rf:∀ i,i < 5->cs[184 + i]?=some (zi (n.refuse[i]?.getD 0))
structure aV (w:World) (F K:Nat->Prop) (W g:Nat) (p:iC) (n:dM):Prop where
 ex:∃ (cs:Array Value) (A:Option Addr) (q:Nat),Bk w g 115 cs/\Cu W p n (.slice A n.kept.join.nodes.length q) cs/\n.kept.join.nodes.length<=q/\fD w (fun k=>K k/\¬ F k) A n.kept.join.nodes
 gF:F g
 lt:∀ k,F k->k < w.heap.size
theorem aV.fr {w w':World} {F K S:Nat->Prop} {W g:Nat} {p:iC} {n:dM} (h:aV w F K W g p n) (d:Fr S w w') (f:∀ k,F k∨K k/\¬ F k->¬ S k):aV w' F K W g p n:=by
 obtain ⟨cs,A,q,j,l,m,h4⟩:=h.ex
 exact ⟨⟨cs,A,q,j.fr d (f g (.inl h.gF)),l,m,h4.fr d fun k e=>f k (.inr e)⟩,h.gF,fun k e=>iD (h.lt k e) d.size⟩
theorem aV.mono {w:World} {F F' K K':Nat->Prop} {W g:Nat} {p:iC} {n:dM} (h:aV w F K W g p n) (e:∀ k,F k->F' k) (f:∀ k,F' k->k < w.heap.size) (j:∀ k,k < w.heap.size->K k->¬ F k->K' k/\¬ F' k):aV w F' K' W g p n:=by
 obtain ⟨cs,A,q,l,m,r,h4⟩:=h.ex
 exact ⟨⟨cs,A,q,l,m,r,h4.mono fun k x d=>j k x d.1 d.2⟩,e g h.gF,f⟩
def dM.blank (n:dM):dM:={ n with disk:=.new,kept:=⟨.new 0,dW.new 0,n.kept.join⟩,hold:=⟨0,[]⟩,asked:=fun _=>none,grants:=.new 0 0,watch:=.new 0 0 0 }
theorem aV.ub {w:World} {F K:Nat->Prop} {W g:Nat} {p:iC} {n:dM} (h:aV w F K W g p n.blank):aV w F K W g p n:=by
 obtain ⟨⟨cs,A,q,f,d,k,h4⟩,h5,h6⟩:=h
 exact ⟨⟨cs,A,q,f,⟨d.sz,fun j v e=>d.one j v e,d.hd,d.rf⟩,k,h4⟩,h5,h6⟩
theorem aV.bl {w:World} {F K:Nat->Prop} {W g:Nat} {p:iC} {n:dM} (h:aV w F K W g p n):aV w F K W g p n.blank:=by
 obtain ⟨⟨cs,A,q,f,d,k,h4⟩,h5,h6⟩:=h
 exact ⟨⟨cs,A,q,f,⟨d.sz,fun j v e=>d.one j v e,d.hd,d.rf⟩,k,h4⟩,h5,h6⟩
def VX (W g:Nat) (p:iC) (n:dM):jb:=⟨fun w F K=>aV w F K W g p n,fun h hf hS=>h.fr hf hS,fun h h1 h2 h3=>h.mono h1 h2 h3,fun h hk=>h.lt _ hk⟩
structure mq (w:World) (F:Nat->Prop) (g:Nat) (f:Int->Option Int):Prop where
 ex:∃ L:List (Int×Int),fP w prog 3 g (L.map fun x=>(zi x.1,zi x.2))/\∀ x a,f x=some a↔(x,a)∈L
 gF:F g
 lt:∀ k,F k->k < w.heap.size
theorem mq.fr {w w':World} {F S:Nat->Prop} {g:Nat} {f:Int->Option Int} (h:mq w F g f) (d:Fr S w w') (e:∀ k,F k->¬ S k):mq w' F g f:=by
 obtain ⟨L,j,l⟩:=h.ex
 exact ⟨⟨L,j.fr d (e g h.gF),l⟩,h.gF,fun k m=>iD (h.lt k m) d.size⟩
theorem mq.mono {w:World} {F F':Nat->Prop} {g:Nat} {f:Int->Option Int} (h:mq w F g f) (d:∀ k,F k->F' k) (e:∀ k,F' k->k < w.heap.size):mq w F' g f:=by
 obtain ⟨L,j,l⟩:=h.ex
 exact ⟨⟨L,j,l⟩,d g h.gF,e⟩
def Sf (g:Nat) (f:Int->Option Int):jb:=.plain (fun w F=>mq w F g f) (fun h=>h.fr) (fun h=>h.mono) (fun h hk=>h.lt _ hk)
structure PrB (w:World) (F K:Nat->Prop) (g:Nat) (x:uK):Prop where
 ex:∃ (A:Option Addr) (q gt:Nat) (Ft:Nat->Prop),Bk w g 219 #[zi x.b.round,zi x.b.node,ptr gt,zi x.since,zi x.chain.az,.slice A x.chain.nodes.length q]/\x.chain.nodes.length<=q/\fD w (fun k=>K k/\¬ F k) A x.chain.nodes/\wN w Ft (fun k=>K k/\¬ F k) gt x.jS/\(∀ k,Ft k->F k)/\¬ Ft g
 gF:F g
def AR (w:World) (F K:Nat->Prop) (g:Nat) (p:Option uK):Prop:=(∀ k,F k->k < w.heap.size)/\∀ x,p=some x->PrB w F K g x
theorem wN.mono {w:World} {F K K':Nat->Prop} {g:Nat} {t:jF} (h:wN w F K g t) (f:∀ k,k < w.heap.size->K k->¬ F k->K' k):wN w F K' g t:=by
 obtain ⟨j,q1,A2,l,m,n,p,r,x,y,z,A,h4,h5,h6,h7,B,h8⟩:=h.ex
 exact ⟨⟨j,q1,A2,l,m,n,p,r,x,y,z.mono (fun k e d=>⟨f k e d.1 d.2,d.2⟩),A,h4,h5,h6,h7,B,h8.mono (fun k e d=>⟨f k e d.1 d.2,d.2⟩)⟩,h.gF,h.lt⟩
theorem AR.fr {w w':World} {F K S:Nat->Prop} {g:Nat} {p:Option uK} (h:AR w F K g p) (e:Fr S w w') (f:∀ k,F k∨K k/\¬ F k->¬ S k):AR w' F K g p:=by
 refine ⟨fun k d=>iD (h.1 k d) e.size,fun x l=>?_⟩
 obtain ⟨⟨A,q,gt,m,n,r,y,h4,h5,h6⟩,j⟩:=h.2 x l
 exact ⟨⟨A,q,gt,m,n.fr e (f g (.inl j)),r,y.fr e (fun k d=>f k (.inr d)),h4.fr e (fun k d=>f k (d.imp (h5 k) id)),h5,h6⟩,j⟩
theorem AR.mono {w:World} {F F' K K':Nat->Prop} {g:Nat} {p:Option uK} (h:AR w F K g p) (f:∀ k,F k->F' k) (l:∀ k,F' k->k < w.heap.size) (j:∀ k,k < w.heap.size->K k->¬ F k->K' k/\¬ F' k):AR w F' K' g p:=by
 refine ⟨l,fun x m=>?_⟩
 obtain ⟨⟨A,q,gt,n,r,y,z,h4,h5,h6⟩,B⟩:=h.2 x m
 exact ⟨⟨A,q,gt,n,r,y,z.mono (fun k d e=>j k d e.1 e.2),h4.mono (fun k d e _=>j k d e.1 e.2),fun k d=>f k (h5 k d),h6⟩,f g B⟩
def VY (g:Nat) (p:Option uK):jb:=⟨fun w F K=>AR w F K g p,fun h hf hS=>h.fr hf hS,fun h h1 h2 h3=>h.mono h1 h2 h3,fun h hk=>h.1 _ hk⟩
def zo (g:Nat) (d:bB):jb:=.plain (fun w F=>fA w F g d) (fun h=>h.fr) (fun h=>h.mono) (fun h hk=>h.lt _ hk)
def aav (g:Nat) (a:dY):jb:=⟨fun w F K=>iy w F K g a,fun h hf hS=>h.fr hf hS,fun h h1 h2 h3=>h.mono h1 h2 h3,fun h hk=>h.lt _ hk⟩
theorem eZ.mono {w:World} {g:Nat} {F F':Nat->Prop} {l:dW} (h:eZ w g F l) (d:∀ k,F k->F' k) (e:∀ k,F' k->k < w.heap.size):eZ w g F' l:=by
 obtain ⟨cs,V,R,rs,gs,Fs,f,j,m,h4⟩:=h.ex
 exact ⟨⟨cs,V,R,rs,gs,Fs,f,j,m,fun k n=>d k (h4 k n)⟩,h.ok,h.kl,e⟩
def aaw (g:Nat) (l:dW):jb:=.plain (fun w F=>eZ w g F l) (fun h=>h.fr) (fun h=>h.mono) (fun h hk=>h.lt _ hk)
def holdA (g:Nat) (x:kV):jb:=.plain (fun w F=>dz w F g x) (fun h=>h.fr) (fun h=>h.mono) (fun h hk=>h.lt _ hk)
def Qt (g:Nat) (t:TypeId) (a b:Int) (l:List Int):jb:=
 .plain (fun w F=>fH w g t a b l/\F g/\∀ k,F k->k < w.heap.size) (fun h hf hS=>⟨h.1.fr hf (hS g h.2.1),h.2.1,fun k hk=>iD (h.2.2 k hk) hf.size⟩) (fun h h1 h2=>⟨h.1,h1 g h.2.1,h2⟩) (fun h hk=>h.2.2 _ hk)
def Qu (A:Option Addr) (l:List Int):jb:=
 .plain (fun w F=>aP w A l/\(∀ a,A=some a->F a.block)/\∀ k,F k->k < w.heap.size) (fun h hf hS=>⟨h.1.fr hf (fun _ a e=>hS _ (h.2.1 a e)),h.2.1,fun k hk=>iD (h.2.2 k hk) hf.size⟩) (fun h h1 h2=>⟨h.1,fun a e=>h1 _ (h.2.1 a e),h2⟩) (fun h hk=>h.2.2 _ hk)
def TY:jb:=.plain (fun w F=>∀ k,F k->k < w.heap.size) (fun h hf _=>fun k hk=>iD (h k hk) hf.size) (fun _ _ h2=>h2) (fun h hk=>h _ hk)
def oO (u:bV) (W g:Nat) (p:iC) (s:NS):Nat->jb
 | 0=>kT W s.conf u s.aA
 | 1=>KC u.pb s.bO
 | 2=>xg u.pv s.bY
 | 3=>VX W g p s.n.blank
 | 4=>zo p.dk s.n.disk
 | 5=>aav p.ac s.n.kept.acc
 | 6=>aaw p.lg s.n.kept.log
 | 7=>holdA p.ho s.n.hold
 | 8=>Sf p.ak s.n.asked
 | 9=>Qt p.gr 252 s.n.grants.n s.n.grants.gJ s.n.grants.till
 | 10=>Qt p.wa 254 s.n.watch.n s.n.watch.self s.n.watch.heard
 | 11=>VY p.pr s.n.p
 | 12=>Qu u.uY u.dQ
 | _=>TY
def bM (c i:Nat) (q:Nat):Tag:=if q < 3 then (c + 1,0,q) else if q=12 then (c + 1,9,0) else (c + 1,i + 1,q)
theorem jN (c i q:Nat):bM c i q≠aB:=by
 unfold bM aB
 split
 ·simp
 ·split <;> simp
theorem qg (c i:Nat) (p q:Nat) (j:i < 5) (h:bM c i p=bM c i q):p=q:=by
 unfold bM at h
 by_cases d:p < 3 <;> by_cases e:q < 3 <;> by_cases f:p=12 <;> by_cases h4:q=12 <;> simp [d,e,f,h4] at h ⊢ <;> omega
def mine (c i:Nat) (t:Tag):Prop:=t.1=c + 1/\(t.2.1=0∨t.2.1=i + 1)
def bS:Tag:=(0,0,1)
theorem nN (c i q:Nat) (d:q≠12):mine c i (bM c i q):=by
 unfold bM mine
 split
 ·simp
 ·simp [d]
structure aN (w:World) (own:Nat->Tag) (c i W g:Nat) (u:bV) (s:NS):Prop where
 ex:∃ p,eF w own (bM c i) (oO u W g p s)
 dQ:u.dQ[i]?=some s.now/\u.dQ.length<=100
 self:s.n.self=i
 i5:i < 5
structure fT (w:World) (own:Nat->Tag) (c i:Nat) (w':World) (own':Nat->Tag):Prop where
 ext:Ext w own own'
 fr:Fr (fun k=>mine c i (own k)) w w'
 new:∀ k,w.heap.size<=k->own' k=aB∨own' k=bS∨mine c i (own' k)
theorem fT.refl (w:World) (own:Nat->Tag) (c i:Nat) (d:vO w own):fT w own c i w own:=⟨Ext.refl _ _,Fr.refl _ _,fun k e=>.inl (d k e)⟩
theorem fT.trans {w w1 f:World} {o j l:Nat->Tag} {c i:Nat} (h:fT w o c i w1 j) (k:fT w1 j c i f l):fT w o c i f l:=
 ⟨h.ext.trans k.ext h.fr.size,h.fr.trans' k.fr (fun x d m=>by have:=h.ext x d;rwa [this] at m),fun x d=>by
  rcases Nat.lt_or_ge x w1.heap.size with e | e
  ·rw [k.ext x e];exact h.new x d
  ·exact k.new x e⟩
theorem fT.old {w w1 d:World} {o e:Nat->Tag} {c i:Nat} (h:fT w o c i w1 e) (k:Old w1 d):fT w o c i d e:=
 ⟨h.ext,h.fr.trans' (T:=fun _=>False) (Fr.aj k) (fun _ _ h=>h.elim),h.new⟩
section
variable {w w':World} {own:Nat->Tag} {c i W g:Nat} {u:bV} {s:NS}
theorem aN.top (h:aN w own c i W g u s):vO w own:=h.ex.choose_spec.top
theorem aN.old (h:aN w own c i W g u s) (d:Old w w'):aN w' own c i W g u s:=⟨h.ex.imp fun _ h=>h.old d,h.dQ,h.self,h.i5⟩
theorem aN.did (h:aN w own c i W g u s):fT w own c i w own:=fT.refl w own c i h.top
theorem aN.qQ (h:aN w own c i W g u s) (d:Old w w'):fT w own c i w' own:=h.did.old d
theorem aN.turn {s':NS} {p:iC} (p':iC) (h:eF w own (bM c i) (oO u W g p s)) (q:Nat) (l:q≠12) (i5:i < 5) (r:∀ j,j≠q->oO u W g p' s' j=oO u W g p s j) (f:u.dQ[i]?=some s'.now/\u.dQ.length<=100) (x:s'.n.self=i) {F':Nat->Prop}
 (y:(oO u W g p' s' q).P w' F' (fun k=>own k=aB)) (z:∀ k,F' k->own k=bM c i q∨w.heap.size<=k) (m:Fr (fun k=>own k=bM c i q) w w') :
 ∃ d,eF w' d (bM c i) (oO u W g p' s')/\aN w' d c i W g u s'/\fT w own c i w' d:=by
 obtain ⟨d,n,A,B⟩:=h.turn (jN c i) (fun p q=>qg c i p q i5) q r y z m
 exact ⟨d,n,⟨⟨p',n⟩,f,x,i5⟩,A,m.mono (fun k _ f=>by show mine c i (own k);rw [f];exact nN c i q l),fun k f=>(B k f).imp id fun e=>.inr (by rw [e];exact nN c i q l)⟩
theorem aN.box (h:aN w own c i W g u s) (o:Obj):∃ d,aN (w.alloc o) d c i W g u s/\fT w own c i (w.alloc o) d/\d w.heap.size=bS:=by
 classical
 obtain ⟨p,j⟩:=h.ex
 have l:=(Old.refl' w).ag o
 refine ⟨fun k=>if k=w.heap.size then bS else own k,⟨⟨p,⟨fun q=>?_,fun k f=>?_⟩⟩,h.dQ,h.self,h.i5⟩,⟨fun k f=>if_neg (Nat.ne_of_lt f),Fr.aj l,fun k f=>?_⟩,if_pos rfl⟩
 ·have m:bM c i q≠bS:=by
   unfold bM bS
   split
   ·simp
   ·split <;> simp
  refine (oO u W g p s q).fr ((oO u W g p s q).lift (jN c i q) (j.at_ q) (fun k f=>if_neg (Nat.ne_of_lt f)) fun k f e=>?_) (Fr.aj (S:=fun _=>False) l) fun _ _ h=>h
  split at e
  ·exact m e.symm
  ·exact jN c i q (e.symm.trans (j.top k f))
 ·have:w.heap.size < k:=by simp only [jW] at f;omega
  show (if k=w.heap.size then bS else own k)=aB
  rw [if_neg af]
  exact j.top k af
 ·show (if k=w.heap.size then bS else own k)=aB∨(if k=w.heap.size then bS else own k)=bS∨_
  split
  ·exact .inr (.inl rfl)
  ·exact .inl (j.top k f)
theorem aN.nV (h:aN w own c i W g u s) {b:Nat} (f:own b=bS) (o:Nat) (v:Value):aN (w.setCell ⟨b,o,none⟩ v) own c i W g u s:=by
 obtain ⟨p,j⟩:=h.ex
 refine ⟨⟨p,⟨fun q=>(oO u W g p s q).fr (S:=fun k=>k=b) (j.at_ q) ((Fr.refl (fun k=>k=b) w).setCell (p:=⟨b,o,none⟩) (.inr rfl) v) fun k d e=>?_,fun k d=>j.top k (by simpa [World.setCell] using d)⟩⟩,h.dQ,h.self,h.i5⟩
 subst e
 rcases d with d | d
 ·have e:=d.symm.trans f
  unfold bM bS at e
  split at e
  ·simp at e
  ·split at e <;> simp at e
 ·exact absurd (d.1.symm.trans f) aW
theorem fT.nV {w0:World} {d:Nat->Tag} (h:fT w0 d c i w own) {b:Nat} (e:w0.heap.size<=b) (o:Nat) (v:Value):fT w0 d c i (w.setCell ⟨b,o,none⟩ v) own:=⟨h.ext,h.fr.setCell (p:=⟨b,o,none⟩) (.inl e) v,h.new⟩
theorem fT.keep {w0:World} {d:Nat->Tag} (h:fT w0 d c i w own) {b:Nat} {t:TypeId} {cs:Array Value} (j:Bk w0 b t cs) (k:d b=aB∨d b=bS):Bk w b t cs:=j.fr h.fr (by
 rcases k with e | e <;> (intro f;simp only [e] at f;exact absurd f.1 (by simp [aB,bS])))
end
theorem zq {m:aO} {j:Nat} {v:Value} (h:tZ m j=some v):j < 34:=by
 unfold tZ at h
 split at h
 all_goals (first | omega | cases h)
theorem Ei {W:Nat} {p:iC} {n:dM} {J:Value} {j:Nat} {v:Value} (h:jM W p n J j=some v):j < 14∨189<=j/\j < 193:=by
 unfold jM at h
 split at h
 all_goals (first | omega | cases h)
theorem Cu.set {W W':Nat} {p p':iC} {n n':dM} {J f:Value} {cs:Array Value} (h:Cu W p n J cs) {k:Nat} {v:Value} (z:k < 14∨189<=k/\k < 193) (m:jM W' p' n' f k=some v) (r:∀ j,j≠k->jM W' p' n' f j=jM W p n J j) (x:n'.heard=n.heard) (y:n'.refuse=n.refuse):Cu W' p' n' f (cs.setIfInBounds k v):=by
 refine ⟨by simp [h.sz],fun j u d=>?_,fun i l j u d=>?_,fun i l=>?_⟩
 ·by_cases e:j=k
  ·subst e
   rw [m] at d
   cases d
   rw [Array.getElem?_setIfInBounds_self_of_lt (by rw [h.sz];omega)]
  ·rw [r j e] at d
   rw [Array.getElem?_setIfInBounds_ne (Ne.symm e)]
   exact h.one j u d
 ·have:=zq d
  rw [Array.getElem?_setIfInBounds_ne af]
  exact h.hd i l j u (x▸d)
 ·rw [Array.getElem?_setIfInBounds_ne af,y]
  exact h.rf i l
section
variable {w w':World} {own:Nat->Tag} {c i W g:Nat} {u:bV} {s:NS}
theorem aV.cell {F K:Nat->Prop} {p:iC} {n:dM} (h:aV w F K W g p n) (j:Nat) (v:Value) (e:∀ J,jM W p n J j=some v):w.cell? ⟨g,j,none⟩=some v:=by
 obtain ⟨cs,A,q,d,f,-⟩:=h.ex
 exact (d.cell j).trans (f.one j v (e _))
theorem aV.fz {F K:Nat->Prop} {p:iC} {n:dM} (h:aV w F K W g p n) (j:Nat):w.frozen? ⟨g,j,none⟩=false:=by
 obtain ⟨cs,A,q,d,-⟩:=h.ex
 exact d.frozen j
theorem aV.Oi {F K:Nat->Prop} {p:iC} {n:dM} (h:aV w F K W g p n):g < w.heap.size:=h.lt _ h.gF
theorem aV.hd {F K:Nat->Prop} {p:iC} {n:dM} (h:aV w F K W g p n) {a:Nat} (d:a < 5) (j:Nat) (v:Value) (e:tZ (n.heard[a]?.getD .zero) j=some v):w.cell? ⟨g,14 + a * 34 + j,none⟩=some v:=by
 obtain ⟨cs,A,q,f,k,-⟩:=h.ex
 exact (f.cell _).trans (k.hd a d j v e)
theorem aV.rf {F K:Nat->Prop} {p:iC} {n:dM} (h:aV w F K W g p n) {a:Nat} (d:a < 5):w.cell? ⟨g,184 + a,none⟩=some (zi (n.refuse[a]?.getD 0)):=by
 obtain ⟨cs,A,q,e,f,-⟩:=h.ex
 exact (e.cell _).trans (f.rf a d)
theorem aN.set1 {p:iC} (l:eF w own (bM c i) (oO u W g p s)) (i5:i < 5) (r:u.dQ[i]?=some s.now/\u.dQ.length<=100) {n':dM} (D:n'.self=i) (k:Nat) (v:Value) (E:k < 14∨189<=k/\k < 193) (F:∀ J,jM W p n' J k=some v) (G:∀ J j,j≠k->jM W p n' J j=jM W p s.n J j) (H:n'.heard=s.n.heard) (I:n'.refuse=s.n.refuse) (y:n'.kept.join=s.n.kept.join)
 (T:Nat->Prop) (K:∀ q,q≠3->¬ T q->oO u W g p { s with n:=n' } q=oO u W g p s q) (L:∀ q,T q->q≠3/\∀ w,(oO u W g p s q).P w (fun k=>own k=bM c i q) (fun k=>own k=aB)->(oO u W g p { s with n:=n' } q).P w (fun k=>own k=bM c i q) (fun k=>own k=aB)) :
 aN (w.setCell ⟨g,k,none⟩ v) own c i W g u { s with n:=n' }/\fT w own c i (w.setCell ⟨g,k,none⟩ v) own:=by
 have h:aV w (fun k=>own k=bM c i 3) (fun k=>own k=aB) W g p s.n:=aV.ub (l.at_ 3)
 have m:Fr (fun k=>k=g) w (w.setCell ⟨g,k,none⟩ v):=(Fr.refl (fun k=>k=g) w).setCell (p:=⟨g,k,none⟩) (.inr rfl) v
 have z:Fr (fun k=>own k=bM c i 3) w (w.setCell ⟨g,k,none⟩ v):=m.mono fun x _ (e:x=g)=>by rw [e];exact h.gF
 have B:(w.setCell ⟨g,k,none⟩ v).heap.size=w.heap.size:=by simp [World.setCell]
 refine ⟨⟨⟨p,l.Ve (jN c i) (fun a b=>qg c i a b i5) (fun q=>q=3∨T q) (fun q f=>K q (fun e=>f (.inl e)) (fun e=>f (.inr e))) (fun q f=>?_) (m.mono fun x _ (e:x=g)=>by rw [e];exact ⟨3,.inl rfl,h.gF⟩)⟩,r,D,i5⟩,⟨Ext.refl _ _,m.mono fun x _ (e:x=g)=>by rw [e];show mine c i (own g);rw [show own g=bM c i 3 from h.gF];exact nN c i 3 (by omega),fun x d=>.inl (l.top x d)⟩⟩
 rcases f with rfl | f
 ·obtain ⟨cs,A,q,b1,b2,M,N⟩:=h.ex
  refine aV.bl (n:=n') ⟨⟨cs.setIfInBounds k v,A,q,b1.bH k v,?_,y▸M,y▸N.fr m fun x d (e:x=g)=>d.2 (by rw [e];exact h.gF)⟩,h.gF,fun x d=>by rw [B];exact h.lt x d⟩
  rw [y]
  exact b2.set E (F _) (G _) H I
 ·obtain ⟨O,f⟩:=L q f
  refine f _ ((oO u W g p s q).fr (l.at_ q) z fun x d e=>?_)
  have C:own x=bM c i 3:=e
  rcases d with d | d
  ·exact O (qg c i q 3 i5 (d.symm.trans C))
  ·exact jN c i 3 (C.symm.trans d.1)
end
theorem aax (g:Nat) (F:Nat->Prop) (d:bB) (f:Int) (P:0<=f/\f < 256) (A:Option Addr) (n s:Nat) (i:List Int) (u:n=i.length) (h2:n<=4000) (h8:iq i) (hd:d.b.length<=60000000000000) (w:World) (h:fA w F g d) (X:ah w A (eB i)) :
 aS 221 #[g,.int .u8 f,.slice A n s] w fun e w'=>e=.returned (zi ((n:Int) + 7))/\(∃ F',fA w' F' g (d.put f i)/\jH w F F')/\Fr F w w':=by
 have x:iq (f :: i):=fun c y=>by
  rcases List.mem_cons.1 y with rfl | y
  ·exact P
  ·exact h8 c y
 obtain ⟨fr,N⟩:∃ fr,frame (f :: i)=some fr:=by
  unfold frame
  rw [if_neg (by simp only [iR];omega)]
  exact ⟨_,rfl⟩
 have z:fr.length=n + 7:=by
  have e:=(pM (f :: i) (n + 1) _ (by simp [u]) af af rfl).symm.trans N
  injection e with e
  rw [<- e]
  simp [<- u]
 have m:d.put f i=(d.app fr).sync:=by unfold bB.put;rw [N]
 rw [m]
 have p:IntKind.i64.wrap (((d.b.length + (n + 7):Nat):Int) - d.b.length)=(n:Int) + 7:=by rw [kP _ (by omega)];omega
 have j:(d.app fr).b.length=d.b.length + (n + 7):=by simp [bB.app,z]
 have Y:=aa (Vl g F d w h)
 have Z:=aa (fun W A2 c2 (B:fA W F g d) (y:ah W A2 (eB (f :: i)))=>Nq g F d A2 (n + 1) c2 (f :: i) fr (by simp [u]) af af x N hd W B y)
 have cS:=aa (fun W F' (B:fA W F' g (d.app fr))=>Qb g F' (d.app fr) (by rw [j];omega) W B)
 have l:=aa (fun W F' (B:fA W F' g (d.app fr).sync)=>Vl g F' (d.app fr).sync W B)
 have C:((d.app fr).sync.b.length)=d.b.length + (n + 7):=j
 rw [C] at l
 obtain ⟨j0,R,E,G,H⟩:=info_parts lF
 have HH:=aa h
 have HL:=aa u
 have HA:=aa (X.alloc (.cells #[.int .u8 f] 5))
 obtain ⟨D,hD⟩:=aR (d.b.length)
 rw [hD] at Y l p
 clear h u X z N m j C h8 x hD
 go_enter func221,ntmps221
 go_wp2_with fail
 refine Y.o.mono ?_
 rintro e w1 ⟨rfl,rfl⟩
 go_wp2_with (at_builtin;refine bT _ rfl (.tmp 12) (.tmp 13) 65 rfl w.heap.size 5 j0 (.int .u8 0) 1 1 underlying65 R E G H rfl aW (.slice (some ⟨w.heap.size,0,none⟩) 1 1) 1 [.int .u8 f] rfl (pq (g:=w.heap.size) (dN _) (dN 1) aW (Bk.new w 5 _) rfl rfl) A n s (eB i) rfl (by simp [eB,<- HL.o]) HA.o tC qy af bE (1 + n) rfl ([.int .u8 f] ++ eB i) rfl ?_;intro A' c' w2 h9)
 have I:=h9.old ((Old.refl' w).ag _) (by intro k O;simp [Value.ownBlock] at O;omega)
 have hC:=ah.bA h9.own
 rw [Nat.add_comm 1 n]
 refine (Z.o w2 A' c' (HH.o.old I) (by simpa [eB] using hC)).mono ?_
 rintro e w3 ⟨rfl,⟨S,J,K⟩,L⟩
 go_wp2_with fail
 refine (cS.o w3 S J).mono ?_
 rintro e w4 ⟨rfl,r,M⟩
 have T:=aa (l.o w4 S r)
 have HG:=aa K
 have hlt:=HH.o.lt
 have H0:=aa (show Fr F w w4 from (((Fr.aj I).trans L).trans' M fun k O U=>(HG.o k U).resolve_right (by have:=I.size;omega)))
 have HD:=aa r
 have HS:=aa I.size
 clear J K L r M Z cS l h9 hC I
 go_wp2_with fail
 refine T.o.mono ?_
 rintro e w5 ⟨rfl,rfl⟩
 have V:IntKind.i64.wrap ((D:Int) + ((n:Int) + 7) - D)=(n:Int) + 7:=by have:=p;push_cast at this;exact this
 go_wp2
 go_ret
 exact ⟨rfl,⟨S,HD.o,fun k O=>(HG.o k O).imp id (by have:=HS.o;omega)⟩,H0.o⟩
end Go.Proofs.YthihpfpbiajddaaGreat
