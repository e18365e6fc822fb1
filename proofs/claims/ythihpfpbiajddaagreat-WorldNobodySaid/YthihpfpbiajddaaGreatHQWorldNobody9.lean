/- Parts of the proof. -/
import Derived.Test.YthihpfpbiajddaaGreatHQWorldNobody8
set_option maxRecDepth 100000
set_option maxHeartbeats 8000000
open Go.Proofs.Tryz
namespace Go.Proofs.YthihpfpbiajddaaGreat
open Go.RowKit
theorem kr (c s k i m:Int) (d:ByteArray) (b:Bool) (f:dU k=b) (w:World) :
 aS 142 #[.agg #[zi c,zi s,zi k,zi i,zi m,.string d]] w fun e w'=>e=.returned (.bool b)/\Old w w':=by
 subst f
 go_enter func142,ntmps142
 go_wp2
 all_goals go_ret
 all_goals refine ⟨by simp_all [dU],(Below.refl _ _).alloc (dN _) _⟩
theorem lG (c s k i m:Int) (d:ByteArray) (b:Bool) (f:mX c s k i m d=b) (w:World) :
 aS 81 #[.agg #[zi c,zi s,zi k,zi i,zi m,.string d]] w fun e w'=>e=.returned (.bool b)/\Old w w':=by
 subst f
 exact Fq c s k i m d w
theorem ZY {w:World} {g o:Nat} {F:Nat->Prop} {f:Int->List iF} (h:oV w g o F f) (k:Int) (H:k∉dS f->f k=[]) (n:Nat) (I:(f k).length=n) :
 ∃ A c J,lu w A (f k)/\(f k≠[]->∀ a,A=some a->F a.block)/\∀ W,Old w W->aS 262 #[av g o,zi k] W fun e w'=>e=.returned (.tuple #[.slice A n c,.bool J])/\W=w':=by
 subst I
 obtain ⟨A,s,B,u,j,E,R,d⟩:=h.ex
 have x:=qb f
 have y:=lQ x k
 have G:=pP f
 have old:∀ W,Old w W->iI W 0 g o (.slice A (dS f).length s) (.slice B (dS f).length u) (dS f) j:=fun W l=>E.fr (S:=fun _=>False) (Fr.aj l) (fun _ _ h=>h)
 by_cases z:k∈dS f
 ·obtain ⟨m,i⟩:=DF x z
  have K:j.length=(dS f).length:=by have:=E.vo.1;omega
  have p:(dS f)[nR (dS f) k]?=some k:=by
   rw [gG m] at i ⊢
   simpa using i
  have C:j[nR (dS f) k]?=some (j[nR (dS f) k]'af):=gG af
  obtain ⟨L,c1,M,N,T,r⟩:=d _ k _ p C
  rw [M] at C
  exact ⟨L,c1,true,N,fun D a O=>(r D a O).1,fun W l=>GQ 0 g o _ _ s u A B (dS f) j k _ rfl af y m i C W (old W l)⟩
 ·have P:=H z
  rw [P]
  exact ⟨none,0,false,ah.nil _ _,fun h=>absurd rfl h,fun W l=>JN 0 g o _ _ s u A B (dS f) j k rfl af y (by rw [qa x y,decide_eq_false z]) W (old W l)⟩
theorem kS.get {w:World} {g:Nat} {F:Nat->Prop} {s:fG} (h:kS w g F s) (k:Int) (n:Nat) (j:(s.f k).length=n) :
 ∃ A c l,lu w A (s.f k)/\(s.f k≠[]->∀ a,A=some a->F a.block)/\∀ W,Old w W->aS 262 #[av g 2,zi k] W fun e w'=>e=.returned (.tuple #[.slice A n c,.bool l])/\W=w':=by
 refine ZY h.tab k (fun f=>?_) n j
 rw [rZ] at f
 by_cases i:0<=k/\k<=31
 ·exact Classical.byContradiction fun d=>f ⟨i,d⟩
 ·exact h.off k i
theorem lH {w:World} {g:Nat} {t:TypeId} {a b c d e f:Value} (h:Bk w g t #[a,b,c,d,e,f]):(w.cell? ⟨g,0,none⟩=some a/\w.cell? ⟨g,1,none⟩=some b/\w.cell? ⟨g,2,none⟩=some c/\w.cell? ⟨g,3,none⟩=some d/\w.cell? ⟨g,4,none⟩=some e/\w.cell? ⟨g,5,none⟩=some f)/\g < w.heap.size:=
 ⟨⟨h.cell 0,h.cell 1,h.cell 2,h.cell 3,h.cell 4,h.cell 5⟩,h.lt⟩
theorem boxed {w W:World} {c s k i m:Int} {d:ByteArray} (h:Old ((w.alloc (.cells #[zi c,zi s,zi k,zi i,zi m,.string d] 36)).alloc (.cells #[zi 0,zi 0,.string ByteArray.empty,aQ] 49)) W) :
 (W.cell? ⟨w.heap.size,0,none⟩=some (zi c)/\W.cell? ⟨w.heap.size,1,none⟩=some (zi s)/\W.cell? ⟨w.heap.size,2,none⟩=some (zi k)/\W.cell? ⟨w.heap.size,3,none⟩=some (zi i)/\W.cell? ⟨w.heap.size,4,none⟩=some (zi m)/\W.cell? ⟨w.heap.size,5,none⟩=some (.string d))/\
 (W.cell? ⟨w.heap.size + 1,0,none⟩=some (zi 0)/\W.cell? ⟨w.heap.size + 1,1,none⟩=some (zi 0)/\W.cell? ⟨w.heap.size + 1,2,none⟩=some (.string ByteArray.empty)/\W.cell? ⟨w.heap.size + 1,3,none⟩=some aQ)/\
 (W.frozen? ⟨w.heap.size + 1,0,none⟩=false/\W.frozen? ⟨w.heap.size + 1,1,none⟩=false/\W.frozen? ⟨w.heap.size + 1,2,none⟩=false/\W.frozen? ⟨w.heap.size + 1,3,none⟩=false)/\w.heap.size + 1 < W.heap.size/\Old w W:=by
 obtain ⟨f,l⟩:=lH (((Bk.new w 36 #[zi c,zi s,zi k,zi i,zi m,.string d]).alloc (.cells #[zi 0,zi 0,.string ByteArray.empty,aQ] 49)).old h)
 obtain ⟨g,j,e⟩:=Fx ((fV w (.cells #[zi c,zi s,zi k,zi i,zi m,.string d] 36) 49 #[zi 0,zi 0,.string ByteArray.empty,aQ]).old h)
 exact ⟨f,g,j,e,(((Old.refl' w).ag _).ag _).trans' h⟩
theorem oV.gF {w:World} {g o:Nat} {F:Nat->Prop} {f:Int->List iF} (h:oV w g o F f):F g:=by
 obtain ⟨A,e,B,i,j,-,d,-⟩:=h.ex
 exact d g (.inl rfl)
theorem ZZ {w:World} {g o:Nat} {F:Nat->Prop} {f:Int->List iF} (h:oV w g o F f) (M:∀ x,F x->x < w.heap.size) (k:Int) (hk:0<=k/\k<=31) (y:Option Addr) (J c3:Nat) (l:List iF) (hV:lu w y l) (hn:l.length=J)
 (hc:J<=c3) (hl:l≠[]) (R:∀ a,y=some a->¬ F a.block/\a.block < w.heap.size) :
 aS 264 #[av g o,zi k,.slice y J c3] w fun e w'=>(∃ r fl,e=.returned (.tuple #[r,.bool fl]))/\
  (∃ F',oV w' g o F' (fun i=>if i=k then l else f i)/\∀ x,F' x->(F x∨(∃ a,y=some a/\x=a.block)∨w.heap.size<=x)/\x < w'.heap.size)/\Fr F w w'/\kX g o w w':=by
 obtain ⟨A,N,B,O,C,U,S,L⟩:=h.ex
 have P:=qb f
 have V:=lQ P k
 have hlen:=pP f
 have W:C.length=(dS f).length:=by have:=U.vo.1;omega
 have D:=JJ (f:=f) hk hl
 have fin:∀ (w':World) (A':Option Addr) (m E:Nat) (B':Option Addr) (G:Nat),(pO (dS f) k).length=m->iI w' 0 g o (.slice A' m E) (.slice B' m G) (pO (dS f) k) (DD (dS f) C k (.slice y J c3))->
  Fr (pN g (.slice A (dS f).length N) (.slice B (dS f).length O)) w w'->(∀ x,pN g (.slice A' m E) (.slice B' m G) x->pN g (.slice A (dS f).length N) (.slice B (dS f).length O) x∨w.heap.size<=x)->kX g o w w'->
  (∃ F',oV w' g o F' (fun i=>if i=k then l else f i)/\∀ x,F' x->(F x∨(∃ a,y=some a/\x=a.block)∨w.heap.size<=x)/\x < w'.heap.size)/\Fr F w w'/\kX g o w w':=by
  intro w' A' m E B' G K s p u n
  subst K
  refine ⟨⟨fun x=>F x∨(∃ a,y=some a/\x=a.block)∨pN g (.slice A' (pO (dS f) k).length E) (.slice B' (pO (dS f) k).length G) x,⟨A',E,B',G,_,by rw [<- D];exact s,?_,?_⟩,?_⟩,p.mono fun x _ d=>S x d,n⟩
  ·rw [<- D];exact fun x d=>.inr (.inr d)
  ·rw [<- D]
   intro i k' v X Y
   rcases Nv P W X Y with ⟨rfl,rfl⟩ | ⟨j,Z,hj2,hne⟩
   ·refine ⟨y,c3,by simp [hn],?_,by simpa [hn] using hc,fun _ a z=>⟨.inr (.inl ⟨a,z,rfl⟩),fun d=>?_⟩⟩
    ·simp only [if_true]
     exact ah.fr hV p (fun _ a z d=>(R a z).1 (S _ d))
    ·rcases u _ d with d | d
     ·exact (R a z).1 (S _ d)
     ·have:=(R a z).2;omega
   ·simp only [if_neg hne]
    obtain ⟨A1,c1,rfl,hV1,hc1,H⟩:=(L j k' v Z hj2).fr' p
    refine ⟨A1,c1,rfl,hV1,hc1,fun I a z=>⟨.inl (H I a z).1,fun d=>?_⟩⟩
    rcases u _ d with d | d
    ·exact (H I a z).2 d
    ·have:=M _ (H I a z).1;omega
  ·rintro x (d | d | d)
   ·exact ⟨.inl d,iD (M x d) p.size⟩
   ·obtain ⟨a,z,rfl⟩:=d
    exact ⟨.inr (.inl ⟨a,z,rfl⟩),iD (R a z).2 p.size⟩
   ·refine ⟨?_,?_⟩
    ·rcases u x d with d | d
     ·exact .inl (S x d)
     ·exact .inr (.inr d)
    ·rcases d with rfl | d | d
     ·exact s.lt
     ·exact (s.ko.lt x d).2
     ·exact (s.vo.lt x d).2
 by_cases K:k∈dS f
 ·obtain ⟨hil,hat⟩:=DF P K
  have hv:C[nR (dS f) k]?=some (C[nR (dS f) k]'af):=gG af
  refine (JP 0 g o _ _ N O A B (dS f) C k y J c3 _ rfl af V hil hat hv w U).mono ?_
  rintro e w' ⟨rfl,s,p,n⟩
  have T:pO (dS f) k=dS f:=by unfold pO;rw [if_pos K]
  have e2:DD (dS f) C k (.slice y J c3)=C.set (nR (dS f) k) (.slice y J c3):=by unfold DD;rw [if_pos K]
  exact ⟨⟨_,_,rfl⟩,fin w' A _ N B O (by rw [T]) (by rw [T,e2];exact s) p (fun x d=>.inl d) n⟩
 ·refine (JQ 0 g o _ _ N O A B (dS f) C k y J c3 rfl af V (by rw [qa P V,decide_eq_false K]) w U).mono ?_
  rintro e w' ⟨A',c',B',d',rfl,s,p,n,u⟩
  have T:pO (dS f) k=(dS f).take (nR (dS f) k) ++ ([k] ++ (dS f).drop (nR (dS f) k)):=by unfold pO;rw [if_neg K]
  have e2:DD (dS f) C k (.slice y J c3)=C.take (nR (dS f) k) ++ ([.slice y J c3] ++ C.drop (nR (dS f) k)):=by unfold DD;rw [if_neg K]
  exact ⟨⟨_,_,rfl⟩,fin w' A' _ c' B' d' (by rw [JH P,if_neg K]) (by rw [T,e2];exact s) p u n⟩
structure uW (w:World) (g:Nat) (F:Nat->Prop) (aI:Int) (n:Nat) (f:Int->List iF) (ss:Int->jZ):Prop where
 q0:w.cell? ⟨g,0,none⟩=some (zi aI)
 n0:w.cell? ⟨g,1,none⟩=some (zi n)
 tab:oV w g 2 F f
 JR:∀ c:Nat,c < 4->qJ w g (4 + c * 6) (ss c)
 fz:∀ o,w.frozen? ⟨g,o,none⟩=false
 lt:∀ k,F k->k < w.heap.size
 gF:F g
theorem kS.b {w:World} {g:Nat} {F:Nat->Prop} {s:fG} (h:kS w g F s):uW w g F s.aI s.n s.f s.ss:=⟨h.q0,h.n0,h.tab,h.JR,h.fz,h.lt,h.gF⟩
theorem uW.a {w:World} {g:Nat} {F:Nat->Prop} {s:fG} (h:uW w g F s.aI s.n s.f s.ss) (d:∀ k,(s.f k).length<=s.n) (e:∀ k,¬ (0<=k/\k<=31)->s.f k=[]):kS w g F s:=
 ⟨h.q0,h.n0,h.tab,h.JR,h.fz,h.lt,h.gF,d,e⟩
theorem aM {w:World} {g i j:Nat} (u:Value) (h:i≠j):(w.setCell ⟨g,j,none⟩ u).cell? ⟨g,i,none⟩=w.cell? ⟨g,i,none⟩:=World.cell?_setCell_other _ _ _ _ (by intro e;injection e;omega)
theorem iJ {w:World} {g j:Nat} (u:Value) {v:Value} (h:w.cell? ⟨g,j,none⟩=some v):(w.setCell ⟨g,j,none⟩ u).cell? ⟨g,j,none⟩=some u:=by simp [go_sem,h]
theorem size_set {w:World} {p:Addr} (u:Value):(w.setCell p u).heap.size=w.heap.size:=by simp [World.setCell]
theorem oV.bH {w:World} {g o:Nat} {F:Nat->Prop} {f:Int->List iF} (h:oV w g o F f) {j:Nat} (s:o≠j) (x:o + 1≠j) (u:Value):oV (w.setCell ⟨g,j,none⟩ u) g o F f:=by
 obtain ⟨A,y,B,z,C,d,D,E⟩:=h.ex
 have m:Fr (fun k=>k=g) w (w.setCell ⟨g,j,none⟩ u):=Fr.setCell (S:=fun k=>k=g) (p:=⟨g,j,none⟩) (Fr.aj (Old.refl' w)) (.inr rfl) u
 refine ⟨A,y,B,z,C,⟨(aM u s).trans d.k0,(aM u x).trans d.v0,by rw [World.frozen?_setCell];exact d.fk,by rw [World.frozen?_setCell];exact d.fv,dh d.ko m (fun k l e=>d.kg (by rw [l,e])),dh d.vo m (fun k l e=>d.vg (by rw [l,e])),d.one,d.ne,d.kg,d.vg,d.low,by rw [size_set];exact d.lt,d.NA⟩,D,fun i k v l G=>?_⟩
 obtain ⟨H,c1,rfl,I,J,r⟩:=E i k v l G
 refine ⟨H,c1,rfl,ah.fr I m (fun K a L e=>?_),J,r⟩
 have M:f k≠[]:=fun e=>K (by rw [e];rfl)
 exact (r M a L).2 (.inl e)
section
variable {w w':World} {g:Nat} {F F' S:Nat->Prop} {aI:Int} {n:Nat} {f f':Int->List iF} {ss:Int->jZ}
theorem uW.fr (h:uW w g F aI n f ss) (d:Fr S w w') (e:∀ k,F k->¬ S k):uW w' g F aI n f ss:=by
 have i:=h.lt g h.gF
 have m:∀ j,w'.cell? ⟨g,j,none⟩=w.cell? ⟨g,j,none⟩:=fun j=>d.cell (p:=⟨g,j,none⟩) i (e g h.gF)
 exact ⟨(m _).trans h.q0,(m _).trans h.n0,h.tab.fr d e,fun c l=>(h.JR c l).fr i d (e g h.gF),fun j=>(d.frozen (p:=⟨g,j,none⟩) i (e g h.gF)).trans (h.fz j),fun k r=>iD (h.lt k r) d.size,h.gF⟩
theorem uW.old (h:uW w g F aI n f ss) (d:Old w w'):uW w' g F aI n f ss:=h.fr (S:=fun _=>False) (Fr.aj d) (fun _ _ h=>h)
theorem uW.drew (h:uW w g F aI n f ss):uW w.drew g F aI n f ss:=h.old ((Old.refl' w).drew')
theorem qJ.move {o:Nat} {x:jZ} (h:qJ w g o x) (d:∀ i,i < 6->w'.cell? ⟨g,o + i,none⟩=w.cell? ⟨g,o + i,none⟩):qJ w' g o x:=by
 obtain ⟨e,j,k,l,m,p,A,r,s⟩:=h
 exact ⟨(d 0 af).trans e,(d 1 af).trans j,(d 2 af).trans k,(d 3 af).trans l,(d 4 af).trans m,p,A,r,(d 5 af).trans s⟩
theorem uW.keep (h:uW w g F aI n f ss) (r:kX g 2 w w') (s:oV w' g 2 F' f') (e:∀ k,F' k->k < w'.heap.size) (y:F' g):uW w' g F' aI n f' ss:=by
 have l:∀ j,j≠2->j≠3->w'.cell? ⟨g,j,none⟩=w.cell? ⟨g,j,none⟩:=fun j m d=>(r j m d).1
 have z:∀ j,j≠2->j≠3->w'.frozen? ⟨g,j,none⟩=w.frozen? ⟨g,j,none⟩:=fun j m d=>(r j m d).2
 obtain ⟨A,C,B,D,E,u,-,-⟩:=s.ex
 refine ⟨(l _ af af).trans h.q0,(l _ af af).trans h.n0,s,fun c p=>?_,fun j=>?_,e,y⟩
 ·exact (h.JR c p).move fun i G=>l _ af af
 ·by_cases d:j=2
  ·subst d;exact u.fk
  ·by_cases x:j=3
   ·subst x;exact u.fv
   ·exact (z j d x).trans (h.fz j)
theorem uW.Z0 (h:uW w g F aI n f ss) (m:Nat) (v:Int) (l:v=m):uW (w.setCell ⟨g,1,none⟩ (zi v)) g F aI m f ss:=by
 subst l
 have e:∀ j,j≠1->(w.setCell ⟨g,1,none⟩ (zi m)).cell? ⟨g,j,none⟩=w.cell? ⟨g,j,none⟩:=fun j p=>aM _ p
 refine ⟨(e _ af).trans h.q0,iJ _ h.n0,h.tab.bH af af _,fun c d=>?_,fun j=>by rw [World.frozen?_setCell];exact h.fz j,fun k r=>by rw [size_set];exact h.lt k r,h.gF⟩
 exact (h.JR c d).move fun i s=>e _ af
theorem Bk.Vn {b:Nat} {t:TypeId} {i j k l d b1 b2 e:Value} (h:Bk w b t #[i,j,k,l]):Bk ((((w.setCell ⟨b,0,none⟩ d).setCell ⟨b,1,none⟩ b1).setCell ⟨b,2,none⟩ b2).setCell ⟨b,3,none⟩ e) b t #[d,b1,b2,e]:=by
 have:=(((h.bH 0 d).bH 1 b1).bH 2 b2).bH 3 e
 simpa using this
def jJ (w:World) (g o:Nat) (x:jZ) (A:Option Addr) (c:Nat):World:=
 (((((w.setCell ⟨g,o,none⟩ (zi x.seq)).setCell ⟨g,o + 1,none⟩ (zi x.place)).setCell ⟨g,o + 2,none⟩ (zi x.rep.code)).setCell ⟨g,o + 3,none⟩ (zi x.rep.fQ)).setCell ⟨g,o + 4,none⟩ (.string x.rep.data)).setCell ⟨g,o + 5,none⟩ (.slice A 0 c)
theorem ow {o j:Nat} {x:jZ} {A:Option Addr} {c:Nat} (h:j < o∨o + 5 < j):(jJ w g o x A c).cell? ⟨g,j,none⟩=w.cell? ⟨g,j,none⟩:=by
 unfold jJ
 rw [aM _ af,aM _ af,aM _ af,aM _ af,aM _ af,aM _ af]
theorem GU {o:Nat} {x:jZ} {A:Option Addr} {c:Nat} (p:Addr):(jJ w g o x A c).frozen? p=w.frozen? p:=by
 unfold jJ
 simp only [World.frozen?_setCell]
theorem Cf {o:Nat} {x:jZ} {A:Option Addr} {c:Nat}:(jJ w g o x A c).heap.size=w.heap.size:=by
 unfold jJ
 simp only [size_set]
theorem GV {o:Nat} {x:jZ} {A:Option Addr} {c:Nat}:Fr (fun k=>k=g) w (jJ w g o x A c):=by
 unfold jJ
 have st:∀ {W:World} (j:Nat) (u:Value),Fr (fun k=>k=g) w W->Fr (fun k=>k=g) w (W.setCell ⟨g,j,none⟩ u):=fun j u h=>Fr.setCell (p:=⟨g,j,none⟩) h (.inr rfl) u
 exact st _ _ (st _ _ (st _ _ (st _ _ (st _ _ (st _ _ (Fr.refl _ w))))))
theorem GX {o:Nat} {x y:jZ} {A:Option Addr} {c:Nat} (h:qJ w g o y) (d:x.rep.vs=[]):qJ (jJ w g o x A c) g o x:=by
 obtain ⟨e,i,j,k,l,p,A',r,m⟩:=h
 unfold jJ
 refine ⟨?_,?_,?_,?_,?_,d,A,c,?_⟩
 ·rw [aM _ af,aM _ af,aM _ af,aM _ af,aM _ af];exact iJ _ e
 ·rw [aM _ af,aM _ af,aM _ af,aM _ af];exact iJ _ ((aM _ af).trans i)
 ·rw [aM _ af,aM _ af,aM _ af];exact iJ _ ((aM _ af).trans ((aM _ af).trans j))
 ·rw [aM _ af,aM _ af];exact iJ _ ((aM _ af).trans ((aM _ af).trans ((aM _ af).trans k)))
 ·rw [aM _ af];exact iJ _ ((aM _ af).trans ((aM _ af).trans ((aM _ af).trans ((aM _ af).trans l))))
 ·exact iJ _ ((aM _ af).trans ((aM _ af).trans ((aM _ af).trans ((aM _ af).trans ((aM _ af).trans m)))))
theorem DT {o:Nat} {x:jZ} {A:Option Addr} {c:Nat} (h:oV w g 2 F f) (d:4<=o):oV (jJ w g o x A c) g 2 F f:=by
 unfold jJ
 exact (((((h.bH af af _).bH af af _).bH af af _).bH af af _).bH af af _).bH af af _
theorem uW.Z4 (h:uW w g F aI n f ss) {c:Nat} (u:c < 4) (x:jZ) (m:x.rep.vs=[]) (A:Option Addr) (p:Nat):uW (jJ w g (4 + c * 6) x A p) g F aI n f (fun k=>if k=(c:Int) then x else ss k):=by
 refine ⟨(ow af).trans h.q0,(ow af).trans h.n0,DT h.tab af,fun l d=>?_,fun j=>by rw [GU];exact h.fz j,fun k r=>by rw [Cf];exact h.lt k r,h.gF⟩
 by_cases e:l=c
 ·subst e
  simp only [if_true]
  exact GX (h.JR l d) m
 ·have s:¬ (l:Int)=(c:Int):=by omega
  simp only [if_neg s]
  exact (h.JR l d).move fun i y=>ow af
end
def NC (w WB w':World) (nL:Nat) (L:List iF) (R:om) (v6 v8:Value):Prop:=
 ∃ A1 c1 b8 A2 c2,v6=.slice A1 nL c1/\v8=av b8 0/\Old WB w'/\lu w' A1 L/\(∀ a,A1=some a->w.heap.size + 2<=a.block)/\nL<=c1/\
  Bk w' b8 49 #[zi R.code,zi R.fQ,.string R.data,.slice A2 0 c2]/\w.heap.size + 2<=b8/\(L≠[]->∀ a,A1=some a->a.block≠b8)
def JU (w w':World) (g b8:Nat) (F:Nat->Prop) (aI:Int) (n:Nat) (f:Int->List iF) (ss:Int->jZ) (qc:Array Value) (rc:Array Value):Prop:=
 ∃ F1,uW w' g F1 aI n f ss/\(∀ k,F1 k->F k∨w.heap.size<=k)/\Fr F w w'/\Bk w' w.heap.size 36 qc/\Bk w' (w.heap.size + 1) 49 #[zi 0,zi 0,.string ByteArray.empty,aQ]/\Bk w' b8 49 rc/\
  ¬ F1 w.heap.size/\¬ F1 (w.heap.size + 1)/\¬ F1 b8
theorem Cg {w:World} {A:Option Addr} {L:List iF} (h:lu w A L) (d:L≠[]):∀ a,A=some a->a.block < w.heap.size:=fun a i=>by
 obtain ⟨b,o,e,j,_⟩:=h (by
  intro e
  have:=kQ L
  rw [e] at this
  cases L with
  | nil=>exact d rfl
  | cons x l=>simp at this)
 rw [i] at e
 injection e with e
 subst e
 exact j
theorem ND (f:List iF) (k m e:Int) (d:ByteArray):f.length<=(Am f k m e d).length:=by
 unfold Am
 split
 ·unfold DI
  repeat' split
  all_goals simp
 ·omega
def GY (vs:List iF) (q:Q) (aI:Int):Prop:=∀ (A:Option Addr) (n cap:Nat) (w:World),n=vs.length->lu w A vs->
 aS 263 #[.slice A n cap,q.v,zi aI] w fun e w'=>
  ∃ A1 c1 A2 c2,e=.returned (.tuple #[.slice A1 (Am vs q.kind q.eD aI q.data).length c1,.agg #[zi (iT vs q.kind q.eD aI q.data).code,zi (iT vs q.kind q.eD aI q.data).fQ,.string (iT vs q.kind q.eD aI q.data).data,.slice A2 (iT vs q.kind q.eD aI q.data).vs.length c2]])/\(lu w' A1 (Am vs q.kind q.eD aI q.data)/\(∀ a,A1=some a->w.heap.size<=a.block)/\(Am vs q.kind q.eD aI q.data).length<=c1)/\Old w w'
theorem GY.at_ {g:List iF} {c s k i m f:Int} {d:ByteArray} (h:GY g ⟨c,s,k,i,m,d⟩ f) (L:List iF) (R:om) (l r:Nat) (u:Am g k m f d=L) (x:iT g k m f d=R) (y:L.length=l) (z:R.vs.length=r) (A:Option Addr) (n j:Nat) (w:World) (B:n=g.length) (C:lu w A g) :
 aS 263 #[.slice A n j,.agg #[zi c,zi s,zi k,zi i,zi m,.string d],zi f] w fun e w'=>
  ∃ p c1 A2 c2,e=.returned (.tuple #[.slice p l c1,.agg #[zi R.code,zi R.fQ,.string R.data,.slice A2 r c2]])/\(lu w' p L/\(∀ a,p=some a->w.heap.size<=a.block)/\l<=c1)/\Old w w':=by
 subst u x y z
 exact h A n j w B C
theorem GZ (g:Nat) (F:Nat->Prop) (st:fG) (q:Q) (hq:(q.may && dU q.kind)=true) (hs:(st.ss q.client).seq < q.seq) (Ao:st.n<=50000) (hDo:GY (st.f q.id) q st.aI) (w:World) (h:kS w g F st) :
 aS 255 #[g,q.v] w fun e w'=>(∃ A c,e=.returned (.tuple #[.agg #[zi (st.iT q).code,zi (st.iT q).fQ,.string (st.iT q).data,.slice A 0 c],zi 0]))/\
  (∃ F',kS w' g F' (st.done q)/\∀ k,F' k->F k∨w.heap.size<=k)/\Fr F w w':=by
 obtain ⟨c,s,k,i,m,d⟩:=q
 obtain ⟨R,hR⟩:=aR (st.iT ⟨c,s,k,i,m,d⟩)
 obtain ⟨L,hL⟩:=aR (st.Am ⟨c,s,k,i,m,d⟩)
 have Y:Am (st.f i) k m st.aI d=L:=hL
 have hR':iT (st.f i) k m st.aI d=R:=hR
 have HR:=aa hR
 have HL:=aa hL
 rw [hR]
 clear hR hL
 simp only [Q.v,Q.may,kE] at hq hs ⊢
 obtain ⟨h1,h2⟩:=hq
 have hcc:0<=c/\c<=3/\0<=i/\i<=31/\-9223372036854775808<=m/\m<=9223372036854775807:=by
  simp only [mX,kE,rJ] at h1
  omega
 obtain ⟨hc0,hc3,hi0,Z6,hm0,hm1⟩:=hcc
 obtain ⟨c,rfl⟩:∃ n:Nat,c=n:=⟨c.toNat,af⟩
 obtain ⟨x,y⟩:=aR ((st.ss c).seq)
 rw [y] at hs
 obtain ⟨n,hn⟩:=aR ((st.f i).length)
 have hnf:=h.few i
 obtain ⟨A,cc,fl,hV,-,hg⟩:=h.get i n hn
 have cG:=aa hg
 have hRv:R.vs=[]:=by
  rw [<- hR']
  unfold iT
  have:k=1∨k=2∨k=3:=by simpa [dU,or_assoc] using h2
  rw [if_pos this]
 have abp:L.length<=n + 1:=by
  rw [<- Y,<- hn]
  unfold Am
  split
  ·unfold DI
   repeat' split
   all_goals simp
  ·omega
 obtain ⟨G,Z7⟩:=aR (L.length)
 have cD:=aa (fun (W:World) (hW:Old w W)=>hDo.at_ L R G 0 Y hR' Z7 (by rw [hRv];rfl) A n cc W hn.symm (ah.old hV hW))
 have hQ:=aa (fun (W:World) (hW:Old w W)=>(y▸((h.old hW).JR c af).1:W.cell? ⟨g,4 + c * 6,none⟩=some (zi x)))
 have Qe:=aa (fun (W:World) (hW:Old w W)=>(h.old hW).q0)
 have cM:=aa (fun (W:World)=>lG c s k i m d true h1 W)
 have cW:=aa (fun (W:World)=>kr c s k i m d true h2 W)
 have hX:=aa (fun (W:World) (h:Old ((w.alloc (.cells #[zi c,zi s,zi k,zi i,zi m,.string d] 36)).alloc (.cells #[zi 0,zi 0,.string ByteArray.empty,aQ] 49)) W)=>boxed h)
 have hle:¬ s<=x:=af
 have hc4:(c:Int) < 4:=af
 have hgl:=h.lt g h.gF
 have HS:=aa h
 have HV:=aa hV
 have HN:=aa hn
 have TS:=aa Z7
 have HRV:=aa hRv
 obtain ⟨qt,Z8⟩:=aR (st.aI)
 rw [Z8] at Qe cD
 have HQT:=aa Z8
 have HDL:=aa (show n<=L.length by rw [<- Y,<- hn];exact ND _ _ _ _ _)
 clear h1 h2 hs y h hV hg hn Z7 hRv Y hR' Z8
 go_enter func255,ntmps255
 go_wp2_with (first
  | (go_at_call 81;refine (cM.o _).mono ?_;rintro e w1 ⟨rfl,hb1⟩;obtain ⟨⟨x0,x1,x2,N,V,X⟩,⟨y0,y1,y2,y3⟩,⟨f0,f1,f2,f3⟩,l1,o1⟩:=hX.o _ hb1)
  | (go_at_call 142;refine (cW.o _).mono ?_;rintro e w2 ⟨rfl,hb2⟩;clear x0 x1 x2 N V X y0 y1 y2 y3 f0 f1 f2 f3 l1 o1;obtain ⟨⟨x0,x1,x2,N,V,X⟩,⟨y0,y1,y2,y3⟩,⟨f0,f1,f2,f3⟩,l1,o1⟩:=hX.o _ (hb1.trans' hb2);have f:=hb1.trans' hb2;clear hb1 hb2))
 refine aY (R:=pick [eqv (av w.heap.size 1),eqv (zi s),eqv (av g 0),eqv (av w.heap.size 0),eqv (zi c),eqv (av g 0),eqv (av g 4),eqv (av g (4 + c * 6)),eqv (av g (4 + c * 6)),eqv (zi x),eqv (.bool false),eqv (.bool false)]) (S:=fun _ w'=>Old ((w.alloc (.cells #[zi c,zi s,zi k,zi i,zi m,.string d] 36)).alloc (.cells #[zi 0,zi 0,.string ByteArray.empty,aQ] 49)) w') (T:=Old) ay ay ay (ai.pick (ai.eqv (ai.eqv (ai.eqv (ai.eqv (ai.eqv (ai.eqv (ai.eqv (ai.eqv (ai.eqv (ai.eqv (ai.eqv (ai.eqv (ai.nil)))))))))))))) (f.drew') ?steps ?ends
 case steps=>
  refine .cons (zp [] [(3,w.heap.size)]) ?_
  refine .cons (zp [(0,24)] [] (fun d E w' C l hS hc hf=>by rintro _ q0 rfl e24 ;obtain ⟨⟨s0,s1,s2,s3,s4,s5⟩,-,-,-,ho⟩:=hX.o _ hS;have t0:=hQ.o _ ho;exact ⟨_,by go_simp,rfl⟩)) ?_
  refine .cons (zp [] [(0,g)]) <|.cons (zp [] [(3,w.heap.size)]) ?_
  refine .cons (zp [(3,27)] [] (fun d E w' C l hS hc hf=>by rintro _ q3 rfl e27 ;obtain ⟨⟨s0,s1,s2,s3,s4,s5⟩,-,-,-,ho⟩:=hX.o _ hS;have t0:=hQ.o _ ho;exact ⟨_,by go_simp,rfl⟩)) ?_
  refine .cons (zp [(2,26)] []) <|.cons (zp [(5,29)] []) ?_
  refine .cons (zp [(6,30),(4,28)] [] (fun d E w' C l hS hc hf=>by rintro _ q6 rfl e30 _ q4 rfl e28 ;obtain ⟨⟨s0,s1,s2,s3,s4,s5⟩,-,-,-,ho⟩:=hX.o _ hS;have t0:=hQ.o _ ho;exact ⟨_,by go_simp,rfl⟩)) ?_
  refine .cons (zp [(7,31)] []) ?_
  refine .cons (zp [(8,32)] [] (fun d E w' C l hS hc hf=>by rintro _ q8 rfl e32 ;obtain ⟨⟨s0,s1,s2,s3,s4,s5⟩,-,-,-,ho⟩:=hX.o _ hS;have t0:=hQ.o _ ho;exact ⟨_,by go_simp,rfl⟩)) ?_
  refine .cons (zp [(1,25),(9,33)] [] (fun d E w' C l hS hc hf=>by rintro _ q1 rfl e25 _ q9 rfl e33 ;exact ⟨_,by go_simp,rfl⟩)) ?_
  refine .cons (zp [(10,34)] []) ?_
  exact aH.nil
 case ends=>
  intro jA w9 z J
  iterate 12 refine .eqv _ _ rfl (fun _ h=>h) ?_
  refine Ends.nil ?_
  clear J
  simp only [aC,ax,fM,fJ]
  clear x0 x1 x2 N V X y0 y1 y2 y3 f0 f1 f2 f3 l1 o1 f
  obtain ⟨⟨x0,x1,x2,N,V,X⟩,⟨y0,y1,y2,y3⟩,⟨f0,f1,f2,f3⟩,l1,o1⟩:=hX.o _ z
  have f:=z
  clear z
  go_wp2_with fail
  refine aY (R:=pick [eqv (av g 0),eqv (av g 0),eqv (av g 2),eqv (av w.heap.size 3),eqv (zi i),eqv (.tuple #[.slice A n cc,.bool fl]),eqv (.tuple #[.slice A n cc,.bool fl]),eqv (.slice A n cc),eqv (.bool fl),eqv (.slice A n cc),eqv (.bool fl)]) (S:=fun _ w'=>Old ((w.alloc (.cells #[zi c,zi s,zi k,zi i,zi m,.string d] 36)).alloc (.cells #[zi 0,zi 0,.string ByteArray.empty,aQ] 49)) w') (T:=Old) ay ay ay (ai.pick (ai.eqv (ai.eqv (ai.eqv (ai.eqv (ai.eqv (ai.eqv (ai.eqv (ai.eqv (ai.eqv (ai.eqv (ai.eqv (ai.nil))))))))))))) (f.drew') ?steps ?ends
  case steps=>
   refine .cons (zp [] [(0,g)]) <|.cons (zp [(0,37)] []) <|.cons (zp [(1,38)] []) <|.cons (zp [] [(3,w.heap.size)]) ?_
   refine .cons (zp [(3,40)] [] (fun d E w' C l hS hc hf=>by rintro _ q3 rfl e40 ;obtain ⟨⟨s0,s1,s2,s3,s4,s5⟩,-,-,-,ho⟩:=hX.o _ hS;exact ⟨_,by go_simp,rfl⟩)) ?_
   refine aH.cons (bP [(2,39),(4,41)] [] rfl rfl ay ay rfl ?_) ?_
   ·rintro d a w' C l hS _ q2 rfl e39 _ q4 rfl e41 
    first | refine Given.nil (aU.nil ?_) | refine aU.nil ?_
    refine fI 262 _ func262 ay ay _ _ iW [av g 2,zi i] zap (cG.o _ (hX.o _ hS).2.2.2.2) ?_
    rintro e w1 ⟨rfl,rfl⟩
    exact ⟨_,rfl,_,rfl,rfl,Old.refl' _,hS⟩
   refine .cons (zp [(5,42)] []) <|.cons (zp [(6,36)] []) <|.cons (zp [(6,36)] []) <|.cons (zp [(7,43)] []) <|.cons (zp [(8,44)] []) ?_
   exact aH.nil
  case ends=>
   intro jA w9 z J
   iterate 11 refine .eqv _ _ rfl (fun _ h=>h) ?_
   refine Ends.nil ?_
   clear J
   simp only [aC,ax,fM,fJ]
   clear x0 x1 x2 N V X y0 y1 y2 y3 f0 f1 f2 f3 l1 o1 f
   obtain ⟨⟨x0,x1,x2,N,V,X⟩,⟨y0,y1,y2,y3⟩,⟨f0,f1,f2,f3⟩,l1,o1⟩:=hX.o _ z
   have f:=z
   clear z
   clear x0 x1 x2 N V X y0 y1 y2 y3 f0 f1 f2 f3
   go_wp2_with fail
   go_cut [6,8] from 45 to 54 (fun v6 v8 w'=>NC w ((w.alloc (.cells #[zi c,zi s,zi k,zi i,zi m,.string d] 36)).alloc (.cells #[zi 0,zi 0,.string ByteArray.empty,aQ] 49)) w' G L R v6 v8)
   case first=>
    refine uz (S:=fun w'=>Old ((w.alloc (.cells #[zi c,zi s,zi k,zi i,zi m,.string d] 36)).alloc (.cells #[zi 0,zi 0,.string ByteArray.empty,aQ] 49)) w') (Z:=([12]:List Nat).contains) ay ?_
    refine dG 0 (some 46) (.slice A n cc) rfl rfl ay ay ay (fun _ _ _ h=>h) (Or.inl ⟨ay,fun w _=>by generalize hE:Act.eval _=E;have e0:E (.tmp 6)=.slice A n cc:=EX;clear hE;go_simp⟩) ?_
    refine rQ 1 (some 47) (.agg #[zi c,zi s,zi k,zi i,zi m,.string d]) rfl rfl ay ay ay ay (fun _ _ _ h=>h) (Or.inl ⟨ay,fun w' hS=>by obtain ⟨⟨s0,s1,s2,s3,s4,s5⟩,-,-,-,ho⟩:=hX.o _ hS;generalize hE:Act.eval _=E;have e0:E (.tmp 3)=av w.heap.size 0:=EX;clear hE;go_simp⟩) (by exact f.drew') ?_
    refine dG 2 (some 48) (av g 0) rfl rfl ay ay ay (fun _ _ _ h=>h) (Or.inl ⟨ay,fun w _=>by generalize hE:Act.eval _=E;have e0:E (.tmp 0)=av g 0:=EX;clear hE;go_simp⟩) ?_
    refine dG 3 (some 49) (av g 0) rfl rfl ay ay ay (fun _ _ _ h=>h) (Or.inl ⟨ay,fun w _=>by generalize hE:Act.eval _=E;have e0:E (.tmp 48)=av g 0:=EX;clear hE;go_simp⟩) ?_
    refine dG 4 (some 50) (av g 0) rfl rfl ay ay ay (fun _ _ _ h=>h) (Or.inl ⟨ay,fun w _=>by generalize hE:Act.eval _=E;have e0:E (.tmp 49)=av g 0:=EX;clear hE;go_simp⟩) ?_
    refine rQ 5 (some 51) (zi qt) rfl rfl ay ay ay ay (fun _ _ _ h=>h) (Or.inl ⟨ay,fun w' hS=>by obtain ⟨⟨s0,s1,s2,s3,s4,s5⟩,-,-,-,ho⟩:=hX.o _ hS;have t0:=Qe.o _ ho;generalize hE:Act.eval _=E;have e0:E (.tmp 50)=av g 0:=EX;clear hE;go_simp⟩) (by exact f.drew') ?_
    refine di (rs:=[6,10]) ay bE ?_
    intro j hj
    simp only [tF,yh,or_false] at hj
    rcases hj with rfl | rfl
    ·refine vQ (some 52) rfl rfl ay 263 _ func263 ay ay [.tmp 46,.tmp 47,.tmp 51] #[279,36,3] rfl [.slice A n cc,.agg #[zi c,zi s,zi k,zi i,zi m,.string d],zi qt] ay (cD.o _ (o1.drew')) ?_
     rintro e w3 ⟨B,c1,A2,c2,rfl,⟨hv3,Vo,hc3⟩,O⟩
     refine ⟨_,rfl,.inr fun h=>h.trans' O,?_⟩
     refine dG 7 (some 45) (.tuple #[.slice B G c1,.agg #[zi R.code,zi R.fQ,.string R.data,.slice A2 0 c2]]) rfl rfl ay ay ay (fun _ _ _ h=>h) (Or.inl ⟨ay,fun w _=>by generalize hE:Act.eval _=E;have e0:E (.tmp 52)=.tuple #[.slice B G c1,.agg #[zi R.code,zi R.fQ,.string R.data,.slice A2 0 c2]]:=EX;clear hE;go_simp⟩) ?_
     refine dG 8 (some 53) (.slice B G c1) rfl rfl ay ay ay (fun _ _ _ h=>h) (Or.inl ⟨ay,fun w _=>by generalize hE:Act.eval _=E;have e0:E (.tmp 45)=.tuple #[.slice B G c1,.agg #[zi R.code,zi R.fQ,.string R.data,.slice A2 0 c2]]:=EX;clear hE;go_simp⟩) ?_
     refine dG 9 (some 54) (.agg #[zi R.code,zi R.fQ,.string R.data,.slice A2 0 c2]) rfl rfl ay ay ay (fun _ _ _ h=>h) (Or.inl ⟨ay,fun w _=>by generalize hE:Act.eval _=E;have e0:E (.tmp 45)=.tuple #[.slice B G c1,.agg #[zi R.code,zi R.fQ,.string R.data,.slice A2 0 c2]]:=EX;clear hE;go_simp⟩) ?_
     refine nY 10 ay ?_
     refine yP (w':=w3.alloc (.cells #[zi 0,zi 0,.string ByteArray.empty,aQ] 49)) (some 8) (av w3.heap.size 0) rfl rfl rfl (by go_simp;try rfl) ⟨.inr fun h=>h.ag _,?_⟩
     refine dG 11 (some 6) (.slice B G c1) rfl rfl ay ay ay (fun _ _ _ h=>h) (Or.inl ⟨ay,fun w _=>by generalize hE:Act.eval _=E;have e0:E (.tmp 53)=.slice B G c1:=EX;clear hE;go_simp⟩) ?_
     refine nY 12 ay ?_
     simp only [aC,ax,fM,fJ]
     refine eT rfl rfl ?_
     go_simp
     refine vR ay ?_ _
     try simp only [aC,ax,fM,fJ]
     go_wp2_with fail
     go_meet
     case rel=>exact ⟨B,c1,w3.heap.size,A2,c2,rfl,rfl,(f.drew'.trans' O).ag _,ah.alloc hv3 _,fun a K=>by have:=Vo a K;have:=f.size;simp at *;omega,hc3,Bk.new w3 49 _,by have:=O.size;have:=f.size;simp at *;omega,fun hL a K=>by have:=Cg hv3 hL a K;omega⟩
    ·refine yP (w':=w9.drew.alloc (.cells #[zi 0,zi 0,.string ByteArray.empty,aQ] 49)) (some 8) (av w9.drew.heap.size 0) rfl rfl rfl (by go_simp;try rfl) ⟨.inr fun h=>h.ag _,?_⟩
     refine nY 6 ay ?_
     refine vQ (some 52) rfl rfl ay 263 _ func263 ay ay [.tmp 46,.tmp 47,.tmp 51] #[279,36,3] rfl [.slice A n cc,.agg #[zi c,zi s,zi k,zi i,zi m,.string d],zi qt] ay (cD.o _ (o1.drew'.ag _)) ?_
     rintro e w3 ⟨B,c1,A2,c2,rfl,⟨hv3,Vo,hc3⟩,O⟩
     refine ⟨_,rfl,.inr fun h=>h.trans' O,?_⟩
     have H:Bk w3 w9.heap.size 49 #[zi 0,zi 0,.string ByteArray.empty,aQ]:=(Bk.new w9.drew 49 #[zi 0,zi 0,.string ByteArray.empty,aQ]).old O
     obtain ⟨⟨r0,r1,r2,r3⟩,⟨v0,v1,v2,v3⟩,l8⟩:=Fx H
     have hne:∀ a,B=some a->a.block≠w9.heap.size:=fun a K=>by have:=Vo a K;simp at this;omega
     refine dG 7 (some 45) (.tuple #[.slice B G c1,.agg #[zi R.code,zi R.fQ,.string R.data,.slice A2 0 c2]]) rfl rfl ay ay ay (fun _ _ _ h=>h) (Or.inl ⟨ay,fun w _=>by generalize hE:Act.eval _=E;have e0:E (.tmp 52)=.tuple #[.slice B G c1,.agg #[zi R.code,zi R.fQ,.string R.data,.slice A2 0 c2]]:=EX;clear hE;go_simp⟩) ?_
     refine dG 8 (some 53) (.slice B G c1) rfl rfl ay ay ay (fun _ _ _ h=>h) (Or.inl ⟨ay,fun w _=>by generalize hE:Act.eval _=E;have e0:E (.tmp 45)=.tuple #[.slice B G c1,.agg #[zi R.code,zi R.fQ,.string R.data,.slice A2 0 c2]]:=EX;clear hE;go_simp⟩) ?_
     refine dG 9 (some 54) (.agg #[zi R.code,zi R.fQ,.string R.data,.slice A2 0 c2]) rfl rfl ay ay ay (fun _ _ _ h=>h) (Or.inl ⟨ay,fun w _=>by generalize hE:Act.eval _=E;have e0:E (.tmp 45)=.tuple #[.slice B G c1,.agg #[zi R.code,zi R.fQ,.string R.data,.slice A2 0 c2]]:=EX;clear hE;go_simp⟩) ?_
     refine dG 11 (some 6) (.slice B G c1) rfl rfl ay ay ay (fun _ _ _ h=>h) (Or.inl ⟨ay,fun w _=>by generalize hE:Act.eval _=E;have e0:E (.tmp 53)=.slice B G c1:=EX;clear hE;go_simp⟩) ?_
     refine nY 12 ay ?_
     simp only [aC,ax,fM,fJ]
     refine eT rfl rfl ?_
     go_simp
     refine vR ay ?_ _
     try simp only [aC,ax,fM,fJ]
     go_wp2_with fail
     go_meet
     case rel=>exact ⟨B,c1,w9.heap.size,A2,c2,rfl,rfl,Old.aJ (Old.aJ (Old.aJ (Old.aJ ((f.drew'.ag _).trans' O) (by have:=f.size;simpa using this) _) (by have:=f.size;simpa using this) _) (by have:=f.size;simpa using this) _) (by have:=f.size;simpa using this) _,(((ah.bH hv3 hne _).bH hne _).bH hne _).bH hne _,fun a K=>by have:=Vo a K;have:=f.size;simp at *;omega,hc3,Bk.Vn H,by have:=f.size;simp at *;omega,fun _=>hne⟩
   case rest=>
    clear f l1 o1 cG cD
    obtain ⟨V1,rfl⟩:∃ W,W=wc:=⟨_,rfl⟩
    obtain ⟨B,c1,b8,A2,c2,rfl,rfl,f,hv1,hn1,hcap,H,Vp,Vq⟩:=hcut
    obtain ⟨⟨x0,x1,x2,N,V,X⟩,⟨y0,y1,y2,y3⟩,⟨f0,f1,f2,f3⟩,l1,o1⟩:=hX.o _ f
    have bq:Bk V1 w.heap.size 36 #[zi c,zi s,zi k,zi i,zi m,.string d]:=((Bk.new w 36 _).alloc _).old f
    have br:Bk V1 (w.heap.size + 1) 49 #[zi 0,zi 0,.string ByteArray.empty,aQ]:=(fV w _ 49 _).old f
    obtain ⟨f',hf'⟩:∃ f',(fun k'=>if k'=i then L else st.f k')=f':=⟨_,rfl⟩
    obtain ⟨n0,hn0⟩:=aR (st.n)
    have HST:=aa (hn0▸HQT.o▸(HS.o.old o1).b:uW V1 g F qt n0 st.f st.ss)
    have Vr:=aa hf'
    have Z9:=aa hn0
    clear hf' hn0
    go_upto_if 57 with fail
    go_cut [] from 58 to 64 (fun w'=>JU w w' g b8 F qt n0 f' st.ss #[zi c,zi s,zi k,zi i,zi m,.string d] #[zi R.code,zi R.fQ,.string R.data,.slice A2 0 c2])
    case first=>
     have Vs:∀ x,F x->x < w.heap.size:=HS.o.lt
     by_cases hL0:G=0
     ·subst hL0
      have hLn:L=[]:=List.eq_nil_of_length_eq_zero TS.o
      have hfe:f'=st.f:=by
       rw [<- Vr.o,hLn]
       funext k'
       split
       ·rename_i e
        subst e
        exact (List.eq_nil_of_length_eq_zero (by have h1:=TS.o;have h2:=HN.o;have h3:=HDL.o;omega)).symm
       ·rfl
      have HFE:=aa hfe
      clear hfe hLn x0 x1 x2 N V X y0 y1 y2 y3 f0 f1 f2 f3
      go_wp2_with fail
      go_meet
      case rel=>exact ⟨F,by rw [HFE.o];exact HST.o,fun x y=>.inl y,Fr.aj o1,bq,br,H,fun y=>by have:=Vs _ y;omega,fun y=>by have:=Vs _ y;omega,fun y=>by have:=Vs _ y;omega⟩
     ·have RO:L≠[]:=fun e=>hL0 (by rw [<- TS.o,e];rfl)
      have abq:(0:Int) < G:=af
      obtain ⟨W8,rfl⟩:∃ W,W=V1:=⟨_,rfl⟩
      have cP:=aa (ZZ (HST.o.drew).tab (HST.o.drew).lt i ⟨hi0,Z6⟩ B G c1 L (ah.drew hv1) TS.o hcap RO (fun a K=>⟨fun y=>by have:=Vs _ y;have:=hn1 a K;omega,Cg hv1 RO a K⟩))
      rw [Vr.o] at cP
      obtain ⟨P8,Y9⟩:∃ P:World->Prop,P=fun w'=>(∃ F',oV w' g 2 F' f'/\∀ x,F' x->(F x∨(∃ a,B=some a/\x=a.block)∨W8.drew.heap.size<=x)/\x < w'.heap.size)/\Fr F W8.drew w'/\kX g 2 W8.drew w':=⟨_,rfl⟩
      have HP8:=aa (fun w'=>congrFun Y9 w')
      have cP:=aa (cP.o.mono fun e w' (h:_/\_)=>(⟨h.1,(HP8.o w').mpr h.2⟩:(∃ r fl,e=.returned (.tuple #[r,.bool fl]))/\P8 w'))
      clear Y9 RO
      go_wp2_with fail
      refine aY (R:=pick [eqv (av g 0),eqv (av g 0),eqv (av g 2),eqv (av w.heap.size 3),eqv (zi i),eqv (.slice B G c1),fun v _=>∃ r fl,v=.tuple #[r,.bool fl]]) (S:=fun σ w'=>(σ 6=none->w'=W8.drew)/\(σ 6≠none->P8 w')) (T:=(fun _ _=>True)) ay ay ay (ai.pick (ai.eqv (ai.eqv (ai.eqv (ai.eqv (ai.eqv (ai.eqv (ai.cons (fun _ _ _ _ h=>h) (ai.nil))))))))) (⟨fun _=>rfl,fun h=>absurd rfl h⟩) ?steps ?ends
      case steps=>
       refine .cons (zp [] [(0,g)]) <|.cons (zp [(0,58)] []) <|.cons (zp [(1,59)] []) <|.cons (zp [] [(3,w.heap.size)]) ?_
       refine .cons (zp [(3,61)] [] (fun d E w' C l hS hc hf=>by rintro _ q3 rfl e61 ;obtain rfl:=hS.1 (C 6 (by kernel_rfl));exact ⟨_,by go_simp,rfl⟩)) ?_
       refine .cons (zp [] [(6,.slice B G c1)]) ?_
       refine aH.cons (bP [(2,60),(4,62),(5,63)] [] rfl rfl ay ay rfl ?_) ?_
       ·rintro d a w' C l hS _ q2 rfl e60 _ q4 rfl e62 _ q5 rfl e63 
        first | refine Given.nil (aU.nil ?_) | refine aU.nil ?_
        obtain rfl:=hS.1 (C 6 ay)
        refine fI 264 _ func264 ay ay _ _ iW [av g 2,zi i,.slice B G c1] zap (cP.o) ?_
        rintro e w1 ⟨⟨r8,fl8,rfl⟩,NF⟩
        exact ⟨_,rfl,_,rfl,⟨r8,fl8,rfl⟩,trivial,⟨fun h=>xX,fun _=>NF⟩⟩
       exact aH.nil
      case ends=>
       intro jA w9 z J
       iterate 6 refine .eqv _ _ rfl (fun _ h=>h) ?_
       refine Ends.ex (some 64) rfl ?_
       rintro _ p6 ⟨r8,fl8,rfl⟩
       refine Ends.nil ?_
       have M:=J
       clear J
       simp only [aC,ax,fM,fJ]
       have NF:=z.2 (by have:=M 6 (by simp);intro e;rw [e] at this;simp at this)
       clear z M
       go_wp2_with fail
       go_meet
       case rel=>
        obtain ⟨⟨F',hT,hlt'⟩,U,hkp⟩:=(HP8.o _).mp NF
        have aaa:Fr F w w9:=(Fr.aj (o1.drew')).trans U
        have hbl:∀ x,w.heap.size<=x->¬ F x:=fun x y h=>by have:=Vs x h;omega
        have Y:L≠[]:=fun e=>hL0 (by rw [<- TS.o,e];rfl)
        have hno:∀ x,w.heap.size<=x->x < W8.heap.size->(∀ a,B=some a->a.block≠x)->¬ F' x:=fun x h1 h2 h3 y=>by
         rcases (hlt' x y).1 with h | ⟨a,K,h⟩ | h
         ·exact hbl x h1 h
         ·exact h3 a K h.symm
         ·exact absurd h (by show ¬ W8.heap.size<=x;omega)
        have hq8:=H.lt
        refine ⟨F',(HST.o.drew).keep hkp hT (fun x y=>(hlt' x y).2) hT.gF,fun x y=>?_,aaa,bq.drew.fr U (hbl _ (dN _)),br.drew.fr U (hbl _ af),H.drew.fr U (hbl _ af),hno _ (dN _) af (fun a K=>by have:=hn1 a K;omega),hno _ af af (fun a K=>by have:=hn1 a K;omega),hno _ af hq8 (Vq Y)⟩
        rcases (hlt' x y).1 with h | ⟨a,K,rfl⟩ | h
        ·exact .inl h
        ·exact .inr (by have:=hn1 a K;omega)
        ·exact .inr (by have:W8.heap.size<=x:=h;omega)
    case rest=>
     clear f x0 x1 x2 N V X y0 y1 y2 y3 f0 f1 f2 f3 l1 bq br H HST hv1 hn1 Vq hcap
     obtain ⟨F1,hB,hF1,U,bq,br,H,nq,nr,n8⟩:=hcut
     obtain ⟨⟨x0,x1,x2,N,V,X⟩,lq⟩:=lH bq
     have c0:=hB.n0
     have z0:=hB.fz 1
     have lg:=hB.lt g hB.gF
     have ne8:g≠b8:=fun e=>n8 (e▸hB.gF)
     have neq:g≠w.heap.size:=fun e=>nq (e▸hB.gF)
     have ner:g≠w.heap.size + 1:=fun e=>nr (e▸hB.gF)
     have abv:(n0:Int)<=50000:=by have:=Z9.o;omega
     go_wp2_with fail
     obtain ⟨I,D⟩:=aR (wc.setCell ⟨g,1,none⟩ (zi ((n0:Int) + 1)))
     have h10:uW I g F1 qt (n0 + 1) f' st.ss:=D▸hB.Z0 (n0 + 1) _ af
     have GI:Bk I w.heap.size 36 #[zi c,zi s,zi k,zi i,zi m,.string d]:=D▸bq.far (p:=⟨g,1,none⟩) (Ne.symm neq) _
     have r10:Bk I (w.heap.size + 1) 49 #[zi 0,zi 0,.string ByteArray.empty,aQ]:=D▸br.far (p:=⟨g,1,none⟩) (Ne.symm ner) _
     have k10:Bk I b8 49 #[zi R.code,zi R.fQ,.string R.data,.slice A2 0 c2]:=D▸H.far (p:=⟨g,1,none⟩) (Ne.symm ne8) _
     have f10:Fr F w I:=D▸U.setCell (p:=⟨g,1,none⟩) (.inr HS.o.gF) _
     rw [D]
     clear D x0 x1 x2 N V X lq c0 z0 lg hB U bq br H
     obtain ⟨⟨x0,x1,x2,N,V,X⟩,lq⟩:=lH GI
     obtain ⟨⟨r0,r1,r2,r3⟩,-,lr⟩:=Fx k10
     have c1':I.cell? ⟨g,1,none⟩=some (zi ((n0:Int) + 1)):=h10.n0
     obtain ⟨t0,t1,t2,t3,t4,-,A5,c5,t5⟩:=h10.JR c af
     have z0:=h10.fz (4 + c * 6)
     have z1:=h10.fz (4 + c * 6 + 1)
     have z2:=h10.fz (4 + c * 6 + 2)
     have z3:=h10.fz (4 + c * 6 + 3)
     have z4:=h10.fz (4 + c * 6 + 4)
     have z5:=h10.fz (4 + c * 6 + 5)
     have lg:=h10.lt g h10.gF
     have hcast:((n0:Int) + 1)=((n0 + 1:Nat):Int):=af
     have abr:=aa hcast
     clear hcast
     have H10:=aa h10
     clear h10
     refine aY (R:=pick [eqv (av g 0),eqv (av w.heap.size 0),eqv (zi c),eqv (av w.heap.size 1),eqv (zi s),eqv (av g 0),eqv (av g 0),eqv (av g 1),eqv (zi (n0 + 1)),eqv (.agg #[zi R.code,zi R.fQ,.string R.data,.slice A2 0 c2]),eqv (.agg #[zi s,zi (n0 + 1),zi R.code,zi R.fQ,.string R.data,.slice A2 0 c2]),eqv (av g 0),eqv (av g 4),eqv (av g (4 + c * 6)),eqv (undef)]) (S:=fun σ w'=>(σ 14=none->w'=I.drew)/\(σ 14≠none->w'=jJ I.drew g (4 + c * 6) ⟨s,n0 + 1,R⟩ A2 c2)) (T:=(fun _ _=>True)) ay ay ay (ai.pick (ai.eqv (ai.eqv (ai.eqv (ai.eqv (ai.eqv (ai.eqv (ai.eqv (ai.eqv (ai.eqv (ai.eqv (ai.eqv (ai.eqv (ai.eqv (ai.eqv (ai.eqv (ai.nil))))))))))))))))) (⟨fun _=>rfl,fun h=>absurd rfl h⟩) ?steps ?ends
     case steps=>
      refine .cons (zp [] [(0,g)]) <|.cons (zp [] [(3,w.heap.size)]) ?_
      refine .cons (zp [(1,73)] [] (fun d E w' C l hS hc hf=>by rintro _ q1 rfl ZP ;obtain rfl:=hS.1 (C 14 (by kernel_rfl));exact ⟨_,by go_simp,rfl⟩)) ?_
      refine .cons (zp [] [(3,w.heap.size)]) ?_
      refine .cons (zp [(3,75)] [] (fun d E w' C l hS hc hf=>by rintro _ q3 rfl e75 ;obtain rfl:=hS.1 (C 14 (by kernel_rfl));exact ⟨_,by go_simp,rfl⟩)) ?_
      refine .cons (zp [] [(0,g)]) <|.cons (zp [(5,77)] []) <|.cons (zp [(6,78)] []) ?_
      refine .cons (zp [(7,79)] [] (fun d E w' C l hS hc hf=>by rintro _ q7 rfl e79 ;obtain rfl:=hS.1 (C 14 (by kernel_rfl));exact ⟨_,by go_simp,rfl⟩)) ?_
      refine .cons (zp [] [(8,b8)] (fun d E w' C l hS hc hf=>by rintro  e8;obtain rfl:=hS.1 (C 14 (by kernel_rfl));exact ⟨_,by go_simp,rfl⟩)) ?_
      refine .cons (zp [(4,76),(8,80),(9,81)] [] (fun d E w' C l hS hc hf=>by rintro _ q4 rfl e76 _ q8 rfl e80 _ q9 rfl e81 ;exact ⟨_,by go_simp,rfl⟩)) ?_
      refine .cons (zp [(0,72)] []) <|.cons (zp [(11,83)] []) ?_
      refine .cons (zp [(12,84),(2,74)] [] (fun d E w' C l hS hc hf=>by rintro _ MJ rfl e84 _ q2 rfl e74 ;obtain rfl:=hS.1 (C 14 (by kernel_rfl));exact ⟨_,by go_simp,rfl⟩)) ?_
      refine aH.cons (dH [(13,85),(10,82)] [] rfl rfl ay ay rfl (fun d E w' C l hS hc hf=>by rintro _ TT rfl e85 _ GI rfl e82 ;obtain rfl:=hS.1 (C 14 (by kernel_rfl));exact ⟨(((((I.drew.setCell ⟨g,4 + c * 6,none⟩ (zi s)).setCell ⟨g,4 + c * 6 + 1,none⟩ (zi (n0 + 1))).setCell ⟨g,4 + c * 6 + 2,none⟩ (zi R.code)).setCell ⟨g,4 + c * 6 + 3,none⟩ (zi R.fQ)).setCell ⟨g,4 + c * 6 + 4,none⟩ (.string R.data)).setCell ⟨g,4 + c * 6 + 5,none⟩ (.slice A2 0 c2),by go_simp,rfl,trivial,⟨fun h=>by simp [upd] at h,fun _=>rfl⟩⟩)) ?_
      exact aH.nil
     case ends=>
      intro jA w9 z J
      iterate 15 refine .eqv _ _ rfl (fun _ h=>h) ?_
      refine Ends.nil ?_
      have M:=J
      clear J
      simp only [aC,ax,fM,fJ]
      have hw9:=z.2 (by have:=M 14 (by simp);intro e;rw [e] at this;simp at this)
      clear z M
      have h11:=aa (hw9▸(H10.o.drew).Z4 (c:=c) af ⟨s,n0 + 1,R⟩ HRV.o A2 c2:uW w9 g F1 qt (n0 + 1) f' _)
      have f11:Fr (fun k=>k=g) I.drew w9:=hw9▸GV
      have r11:=r10.drew.fr f11 (Ne.symm ner)
      have k11:=k10.drew.fr f11 (Ne.symm ne8)
      have aab:=aa ((f10.drew).trans (f11.mono fun x _ y=>by subst y;exact HS.o.gF))
      clear hw9 x0 x1 x2 N V X r0 r1 r2 r3 t0 t1 t2 t3 t4 t5 z0 z1 z2 z3 z4 z5 c1' lg lr lq f11 r10 k10 f10
      obtain ⟨⟨x0,x1,x2,N⟩,-,lx⟩:=Fx k11
      go_wp2_with fail
      refine (DN R.code R.fQ R.data [] 0 c2 A2 af rfl _ (ah.nil _ _)).mono ?_
      rintro e G4 ⟨A4,c4,rfl,-,-,RP⟩
      obtain ⟨⟨y0,y1,y2,y3⟩,⟨v0,v1,v2,v3⟩,ly⟩:=Fx (r11.old RP)
      go_wp2_with fail
      have hfin:Fr (fun k=>k=w.heap.size + 1) G4 ((((G4.setCell ⟨w.heap.size + 1,0,none⟩ (zi R.code)).setCell ⟨w.heap.size + 1,1,none⟩ (zi R.fQ)).setCell ⟨w.heap.size + 1,2,none⟩ (.string R.data)).setCell ⟨w.heap.size + 1,3,none⟩ (.slice A4 0 c4)):=by
       have Ap:∀ {W:World} (j:Nat) (u:Value),Fr (fun k=>k=w.heap.size + 1) G4 W->Fr (fun k=>k=w.heap.size + 1) G4 (W.setCell ⟨w.heap.size + 1,j,none⟩ u):=fun j u h=>Fr.setCell (p:=⟨w.heap.size + 1,j,none⟩) h (.inr rfl) u
       exact Ap _ _ (Ap _ _ (Ap _ _ (Ap _ _ (Fr.refl _ G4))))
      refine bodyPost_ret (v:=.tuple #[.agg #[zi R.code,zi R.fQ,.string R.data,.slice A4 0 c4],zi 0]) ?_ rfl ⟨⟨A4,c4,rfl⟩,⟨F1,?_,hF1⟩,?_⟩
      ·simp [results,results255,go_sem, *]
      ·have hb:=(h11.o.old RP).fr hfin (fun x y e=>nr (e▸y))
       have e1:st.done ⟨c,s,k,i,m,d⟩=⟨qt,n0 + 1,f',fun k=>if k=(c:Int) then ⟨s,n0 + 1,R⟩ else st.ss k⟩:=by
        unfold fG.done
        rw [HL.o,HR.o,HQT.o,Z9.o]
        simp only [Vr.o]
       rw [e1]
       refine hb.a (s:=⟨qt,n0 + 1,f',fun k=>if k=(c:Int) then ⟨s,n0 + 1,R⟩ else st.ss k⟩) (fun x=>?_) (fun x y=>?_)
       ·show (f' x).length<=n0 + 1
        rw [<- Vr.o]
        simp only
        have h1:=Z9.o
        have h2:=HN.o
        have h3:=HS.o.few x
        split
        ·omega
        ·omega
       ·show f' x=[]
        rw [<- Vr.o]
        simp only
        rw [if_neg af]
        exact HS.o.off x y
      ·exact ((aab.o.trans (Fr.aj RP)).trans' hfin (fun x y e=>af))
end Go.Proofs.YthihpfpbiajddaaGreat
