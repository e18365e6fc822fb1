/- Parts of the proof. -/
import Derived.Test.YthihpfpbiajddaaGreatHQWorldNobody4
import Derived.Deep.RegionHeld3
import Derived.Deep.QuietTactic
import Derived.BigQuiet
import Derived.Deep.CutBlock
set_option maxRecDepth 100000
set_option maxHeartbeats 8000000
open Go.Proofs.Tryz
namespace Go.Proofs.YthihpfpbiajddaaGreat
open Go.RowKit
theorem vE {k:IntKind} {a b:Int} (h:a=b):Ending.returned (.int k a)=.returned (.int k b):=by rw [h]
theorem jG {a b:Bool} (h:a=b):Ending.returned (.bool a)=.returned (.bool b):=by rw [h]
def tN (ns:List Int) (x:Int):Int:=match ns.idxOf? x with
 | some k=>k
 | none=>-1
theorem yT:∀ (ns:List Int) (x:Int) (k:Nat),(∀ j,j < k->ns[j]?.getD 0≠x)->ns[k]?=some x->ns.idxOf? x=some k
 | [],_,_,_,h=>by simp at h
 | a :: l,x,0,_,h=>by simp at h;simp [List.idxOf?_cons,h]
 | a :: l,x,k + 1,h1,h=>by
  have d:=h1 0 af
  simp at d h
  rw [List.idxOf?_cons,if_neg (by simpa using d),yT l x k (fun j e=>by have:=h1 (j + 1) (by omega);simpa using this) h]
  rfl
theorem BO:∀ (ns:List Int) (x:Int),(∀ j,j < ns.length->ns[j]?.getD 0≠x)->ns.idxOf? x=none
 | [],_,_=>rfl
 | a :: l,x,h1=>by
  have d:=h1 0 bE
  simp at d
  rw [List.idxOf?_cons,if_neg (by simpa using d),BO l x (fun j e=>by have:=h1 (j + 1) (by simp;omega);simpa using this)]
  rfl
theorem vY (ns:List Int) (x:Int):decide (0<=tN ns x)=ns.contains x:=by
 unfold tN
 cases h:ns.idxOf? x with
 | none=>
  have:¬ x∈ns:=by rw [List.idxOf?_eq_none_iff] at h;exact h
  simp [this]
 | some k=>
  have:x∈ns:=by
   have:=List.findIdx?_eq_some_iff_getElem.1 h
   obtain ⟨e,d,_⟩:=this
   simp at d
   exact d▸List.getElem_mem _
  simp [this]
theorem vZ (A:Option Addr) (n l:Nat) (ns:List Int) (x i:Int) (u:n=ns.length) (H:n<=100000) (y:tN ns x=i) (w:World) (C:aP w A ns) :
 aS 161 #[.slice A n l,zi x] w fun e w'=>e=.returned (zi i)/\w=w':=by
 have HL:=aa u
 have z:=aa y
 clear u y
 go_enter func161,ntmps161
 go_wp2
 go_loopw [8] (fun iv wr=>∃ k:Nat,k<=n/\iv=zi k/\kN (∀ j,j < k->ns[j]?.getD 0≠x)/\w=wr) (fun iv _=>n - (intOf iv).toNat)
 case atStart=>exact ⟨0,af,rfl,aa (fun j g=>absurd g (Nat.not_lt_zero _)),rfl⟩
 case round=>
  obtain ⟨k,I,rfl,m,rfl⟩:=hrel
  by_cases hlt:k < n
  ·obtain ⟨b,o,rfl,D,E⟩:=C.at_ (k:=k) MQ
   obtain ⟨v,p⟩:=aR (ns[k]?.getD 0)
   rw [p] at E
   have B:=aa p
   clear p
   by_cases f:x=v
   ·have J:=aa f
    have r:(x == v)=true:=by simpa using f
    have d:=aa (show tN ns x=k by
     unfold tN
     rw [yT ns x k m.o (by
      have s:=B.o
      have F:k < ns.length:=MQ
      rw [gG F] at s ⊢
      simp at s
      rw [s,<- f])])
    clear f
    go_wp2
    go_ret
    exact ⟨vE (by rw [<- z.o,d.o]),rfl⟩
   ·have r:(x == v)=false:=by simpa using f
    have G:=aa f
    clear f
    go_wp2
    go_roundw
    case rel=>exact ⟨k + 1,af,oP,aa (fun j g=>by
     rcases Nat.lt_succ_iff_lt_or_eq.1 g with h | rfl
     ·exact m.o j h
     ·rw [B.o];exact fun e=>G.o e.symm),trivial⟩
    case measure=>simp [intOf];omega
  ·have d:=aa (show tN ns x=-1 by
    unfold tN
    rw [BO ns x (fun j g=>m.o j I4)])
   go_wp2
   go_ret
   exact ⟨vE (by rw [<- z.o,d.o]),rfl⟩
theorem mW (A:Option Addr) (n d:Nat) (ns:List Int) (x:Int) (b:Bool) (f:n=ns.length) (g:n<=100000) (j:ns.contains x=b) (w:World) (k:aP w A ns) :
 aS 101 #[.slice A n d,zi x] w fun e w'=>e=.returned (.bool b)/\w=w':=by
 obtain ⟨i,h⟩:=aR (tN ns x)
 have l:=aa (vZ A n d ns x i f g h w k)
 have m:decide (0<=i)=b:=by rw [<- h,vY,j]
 clear f g j k h
 go_enter func101,ntmps101
 go_wp2_with (go_at_call 161;refine l.o.mono ?_;rintro e w1 ⟨rfl,rfl⟩)
 go_ret
 exact ⟨rfl,rfl⟩
theorem gX (n a:Nat) (h:a < 2 ^ n):(BitVec.ofInt n (a:Int)).toNat=a:=by
 rw [BitVec.toNat_ofInt,<- Int.natCast_emod,EZ,Nat.mod_eq_of_lt h]
theorem nS (a:Nat) (h:a < 2 ^ 64):IntKind.u64.wrap (a:Int)=a:=by rw [IntKind.wrap_u64];omega
theorem Ah (a:Nat) (h:a < 2 ^ 32):IntKind.u32.wrap (a:Int)=a:=by rw [IntKind.wrap_u32];omega
theorem Jp (a:Nat) (h:a < 2 ^ 8):IntKind.u8.wrap (a:Int)=a:=by rw [IntKind.wrap_u8];omega
theorem Rv (a b:Nat) (d:a < 2 ^ 64) (e:b < 2 ^ 64):bits BinOp.or IntKind.u64 a b=((a ||| b:Nat):Int):=by
 show IntKind.u64.wrap (((BitVec.ofInt 64 (a:Int) ||| BitVec.ofInt 64 (b:Int)).toNat:Nat):Int)=_
 rw [BitVec.toNat_or,gX 64 a d,gX 64 b e,nS _ (Nat.or_lt_two_pow d e)]
theorem Rw (a b:Nat) (e:a < 2 ^ 8) (d:b < 2 ^ 8):bits BinOp.and IntKind.u8 a b=((a &&& b:Nat):Int):=by
 show IntKind.u8.wrap (((BitVec.ofInt 8 (a:Int) &&& BitVec.ofInt 8 (b:Int)).toNat:Nat):Int)=_
 rw [BitVec.toNat_and,gX 8 a e,gX 8 b d,Jp _ (Nat.and_lt_two_pow _ d)]
theorem Rx (v k:Nat) (x:Int) (g:0<=x) (l:x < 256) (f:v < 2 ^ (7 * k)) (d:k<=8∨k=9/\x<=1) :
 bits BinOp.or IntKind.u64 (↑v) (IntKind.u64.wrap (IntKind.u64.wrap (bits BinOp.and IntKind.u8 x 127) * 2 ^ (7 * k)))=((v + x.toNat % 128 * 2 ^ (7 * k):Nat):Int)/\v + x.toNat % 128 * 2 ^ (7 * k) < 2 ^ (7 * (k + 1))/\v + x.toNat % 128 * 2 ^ (7 * k) < 2 ^ 64:=by
 obtain ⟨y,rfl⟩:=Int.eq_ofNat_of_zero_le g
 have h:bits BinOp.and IntKind.u8 (y:Int) 127=((y % 128:Nat):Int):=by
  rw [show (127:Int)=((127:Nat):Int) from rfl,Rw y 127 af af]
  congr 1
  exact Nat.and_two_pow_sub_one_eq_mod y 7
 have hy:y % 128 < 128:=Nat.mod_lt _ af
 have m:0 < 2 ^ (7 * k):=Nat.two_pow_pos _
 have e:y % 128 * 2 ^ (7 * k) + v < 2 ^ (7 * (k + 1)):=by
  rw [show 7 * (k + 1)=7 + 7 * k by omega,Nat.pow_add]
  have:(y % 128 + 1) * 2 ^ (7 * k)<=2 ^ 7 * 2 ^ (7 * k):=Nat.mul_le_mul_right _ af
  rw [Nat.add_mul] at this
  omega
 have i:y % 128 * 2 ^ (7 * k) + v < 2 ^ 64:=by
  rcases d with d | ⟨rfl,d⟩
  ·exact iD e (Nat.pow_le_pow_right af af)
  ·have:y=0∨y=1:=by omega
   rcases this with rfl | rfl <;> simp at f ⊢ <;> omega
 rw [EZ,h,nS _ af]
 have j:((y % 128:Nat):Int) * 2 ^ (7 * k)=((y % 128 * 2 ^ (7 * k):Nat):Int):=by push_cast;rfl
 rw [j,nS _ af,Rv _ _ af af]
 refine ⟨?_,af,af⟩
 congr 1
 rw [Nat.or_comm,Nat.mul_comm,<- Nat.two_pow_add_eq_or_of_lt f,Nat.add_comm]
def iq (l:List Int):Prop:=∀ c∈l,0<=c/\c < 256
theorem iq.drop {l:List Int} (h:iq l) (k:Nat):iq (l.drop k):=fun c d=>h c (List.mem_of_mem_drop d)
theorem iq.take {l:List Int} (h:iq l) (k:Nat):iq (l.take k):=fun c d=>h c (List.mem_of_mem_take d)
theorem iq.get {l:List Int} (h:iq l) {k:Nat} {c:Int} (d:l[k]?=some c):0<=c/\c < 256:=h c (EY d)
structure dI (w:World) (g:Nat) (r:Rd):Prop where
 ex:∃ A c,Bk w g 284 #[.slice A r.b.length c,.bool r.wrong]/\ah w A (eB r.b)/\(r.b≠[]->∀ a,A=some a->∃ cs,Bk w a.block 5 cs)/\r.b.length<=c
 yw:iq r.b
theorem dI.old {w w':World} {g:Nat} {r:Rd} (h:dI w g r) (d:Old w w'):dI w' g r:=by
 obtain ⟨A,c,f,i,j,h4⟩:=h.ex
 exact ⟨⟨A,c,f.old d,i.old d,fun k a e=>(j k a e).imp fun cs h=>h.old d,h4⟩,h.yw⟩
theorem dI.far {w:World} {g:Nat} {r:Rd} (h:dI w g r) {b i:Nat} {t:TypeId} {cs:Array Value} (j:Bk w b t cs) (s:t≠284) (k:t≠5) (u:Value):dI (w.setCell ⟨b,i,none⟩ u) g r:=by
 obtain ⟨A,c,l,x,m,y⟩:=h.ex
 refine ⟨⟨A,c,l.far (p:=⟨b,i,none⟩) (Bk.vC l j s.symm) _,?_,fun d a e=>?_,y⟩,h.yw⟩
 ·by_cases d:r.b=[]
  ·rw [d];exact ah.nil _ _
  ·exact x.bH (p:=⟨b,i,none⟩) (fun a e=>by obtain ⟨n,f⟩:=m d a e;exact Bk.vC f j k.symm) _
 ·obtain ⟨n,f⟩:=m d a e
  exact ⟨n,f.far (p:=⟨b,i,none⟩) (Bk.vC f j k.symm) _⟩
theorem dI.lt {w:World} {g:Nat} {r:Rd} (h:dI w g r):g < w.heap.size:=by
 obtain ⟨A,c,d,e,f,h4⟩:=h.ex
 exact d.lt
theorem BP (l:List Int) (k:Nat):(eB l).drop k=eB (l.drop k):=by simp [eB]
theorem ah.drop {w:World} {b o:Nat} {cs:List Value} (h:ah w (some ⟨b,o,none⟩) cs) (k:Nat):ah w (some ⟨b,o + k,none⟩) (cs.drop k):=fun f=>by
 obtain ⟨b',l,e,g,i⟩:=h (fun e=>f (by simp [e]))
 injection e with e;injection e with e1 e2;subst e1 e2
 exact ⟨b,o + k,rfl,g,fun j u d=>by rw [List.getElem?_drop] at d;have:=i _ _ d;rwa [<- Nat.add_assoc] at this⟩
theorem Jq (g:Nat) (r:Rd) (w:World) (h:dI w g r) :
 aS 170 #[g] w fun e w'=>e=.returned (.int .u64 0)/\dI w' g ⟨r.b,true⟩/\Fr (fun k=>k=g) w w':=by
 obtain ⟨A,c,d,n,l,h4⟩:=h.ex
 have c1:=d.cell 1
 have f1:=d.frozen 1
 simp at c1
 have s:=d.lt
 have f:=aa (show dI (w.setCell ⟨g,1,none⟩ (.bool true)) g ⟨r.b,true⟩ from ⟨⟨A,c,by have:=d.bH 1 (.bool true);simpa using this,by
  by_cases i:r.b=[]
  ·show ah _ A (eB r.b);rw [i];exact ah.nil _ _
  ·exact n.bH (p:=⟨g,1,none⟩) (fun a e=>by obtain ⟨cs,j⟩:=l i a e;exact Bk.vC j d (by decide)) _,fun i a e=>by obtain ⟨cs,j⟩:=l i a e;exact ⟨cs,j.far (p:=⟨g,1,none⟩) (Bk.vC j d (by decide)) _⟩,h4⟩,h.yw⟩)
 have m:=aa (Fr.setCell (S:=fun k=>k=g) (p:=⟨g,1,none⟩) (Fr.refl _ w) (.inr rfl) (.bool true))
 clear d n l h4 h
 go_enter func170,ntmps170
 go_wp2
 go_ret
 exact ⟨rfl,f.o,m.o⟩
theorem BR (most k v:Nat) (x:Int) (l:List Int):Dk most k v (x :: l)=if k=9/\x > 1 then none else
 if x≥128 then Dk most (k + 1) (v + x.toNat % 128 * 2 ^ (7 * k)) l else if x=0/\k > 0∨v + x.toNat % 128 * 2 ^ (7 * k) > most then none else some (v + x.toNat % 128 * 2 ^ (7 * k),l):=rfl
theorem drop_at {l:List Int} {k:Nat} {x:Int} (h:l[k]?=some x):l.drop k=x :: l.drop (k + 1):=by
 obtain ⟨d,e⟩:=List.getElem?_eq_some_iff.1 h
 rw [List.drop_eq_getElem_cons d,e]
theorem Jr (g:Nat) (j:List Int) (most:Nat) (n R:Nat) (A:Option Addr) (hl:n=j.length) (hn:n<=1000000) (hcp:n<=R) (hm:most < 18446744073709551616) (w:World) (hb:Bk w g 284 #[.slice A n R,.bool false]) (hc:ah w A (eB j)) (hA:j≠[]->∀ a,A=some a->∃ cs,Bk w a.block 5 cs) (h8:iq j)
 (v0:Nat) (U:Rd) (hr:Rd.num most ⟨j,false⟩=(v0,U)) :
 aS 157 #[g,.int .u64 most] w fun e w'=>e=.returned (.int .u64 v0)/\dI w' g U/\Fr (fun k=>k=g) w w':=by
 have F:dI w g ⟨j,false⟩:=⟨⟨A,R,by simpa [<- hl] using hb,hc,hA,by simpa [<- hl] using hcp⟩,h8⟩
 have cF:=aa (Jq g ⟨j,false⟩ w F)
 have HR:=aa (show (match Dk most 0 0 j with | some (v,b)=>(v,(⟨b,false⟩:Rd)) | none=>(0,⟨j,true⟩))=(v0,U) from hr)
 obtain ⟨c0,c1,f0,f1,hgl⟩:=bk2 hb
 have HB:=aa hb
 have HA:=aa hA
 have HL:=aa hl
 have H8:=aa h8
 clear hl h8 hb hA F hr
 have d:kN (Dk most 0 0 j=none->v0=0/\U=⟨j,true⟩):=aa (fun h=>by have:=HR.o;rw [h] at this;simp only [Prod.mk.injEq] at this;exact ⟨this.1.symm,this.2.symm⟩)
 have f:kN (∀ x l,Dk most 0 0 j=some (x,l)->v0=x/\U=⟨l,false⟩):=aa (fun x l h=>by have:=HR.o;rw [h] at this;simp only [Prod.mk.injEq] at this;exact ⟨this.1.symm,this.2.symm⟩)
 clear HR
 go_enter func157,ntmps157
 go_wp2
 go_loopw [5,21] (fun vv iv wr=>∃ (k v:Nat),k<=n/\k<=9/\iv=zi k/\vv=.int .u64 v/\kN (v < 2 ^ (7 * k))/\kN (Dk most 0 0 j=Dk most k v (j.drop k))/\w=wr) (fun _ iv _=>n - (intOf iv).toNat)
 case atStart=>exact ⟨0,0,af,af,rfl,rfl,aa bE,aa rfl,rfl⟩
 case round=>
  obtain ⟨k,v,hk,Ry,rfl,rfl,hv,hB,rfl⟩:=hrel
  by_cases hlt:k < n
  ·obtain ⟨x,G⟩:∃ x,j[k]?=some x:=⟨j[k]'MQ,gG _⟩
   obtain ⟨b,o,rfl,hbb,g0⟩:=hc (by intro e;have B:j=[]:=(by simpa using e);rw [B] at G;simp at G)
   have g0':=g0 k (.int .u8 x) (by simp [eB,G])
   obtain ⟨x1,x2⟩:=H8.o.get G
   obtain ⟨cu,M⟩:=HA.o (by rintro rfl;simp at G) _ rfl
   have W:b≠g:=Bk.vC M HB.o aW
   have HU:=aa M
   clear M
   have HX:=aa G
   have hN:=aa (show Dk most 0 0 j=if k=9/\x > 1 then none else
    if x≥128 then Dk most (k + 1) (v + x.toNat % 128 * 2 ^ (7 * k)) (j.drop (k + 1)) else if x=0/\k > 0∨v + x.toNat % 128 * 2 ^ (7 * k) > most then none else some (v + x.toNat % 128 * 2 ^ (7 * k),j.drop (k + 1)) by
     rw [hB.o,drop_at G,BR])
   clear G g0 hB
   by_cases h9:k=9/\x > 1
   ·obtain ⟨H,B⟩:=d.o (by rw [hN.o,if_pos h9])
    obtain ⟨rfl,h9b⟩:=h9
    subst H B
    clear hN d f
    go_wp2_with (go_at_call 170;refine cF.o.mono ?_;rintro e w1 ⟨rfl,F,X⟩)
    go_ret
    exact ⟨rfl,F,X⟩
   ·have Y:=aa (hN.o.trans (if_neg h9))
    clear hN
    have z:k<=8∨k=9/\x<=1:=af
    obtain ⟨hor,N,hV2⟩:=Rx v k x x1 x2 hv.o z
    obtain ⟨V,hV⟩:=aR (v + x.toNat % 128 * 2 ^ (7 * k))
    rw [hV] at hor N hV2
    have C:=aa (hV▸Y.o)
    have Z:=aa N
    clear Y hV N
    have D:((k:Int) == 9)=true->decide (1 < x)=false:=fun h=>by simp at h ⊢;omega
    by_cases O:128<=x
    ·have abu:k<=8:=by omega
     have P:((k:Int) == 9)=false:=by simpa using (by omega:¬ (k:Int)=9)
     have s:=aa (C.o.trans (if_pos O))
     clear D h9 C z
     go_wp2
     go_roundw
     case rel=>exact ⟨k + 1,V,af,af,oP,rfl,Z,s,trivial⟩
     case measure=>simp [intOf];omega
    ·have s:=aa (C.o.trans (if_neg O))
     clear C
     have hge':¬ (128:Int)<=x:=O
     by_cases r:x=0/\k > 0∨V > most
     ·obtain ⟨H,B⟩:=d.o (by rw [s.o,if_pos r])
      subst H B
      clear s d f
      rcases Classical.em (k=9) with i | i
      all_goals
       first
        | (
         have h9t:((k:Int) == 9)=true:=by simpa using (by omega:(k:Int)=9)
         have hx1:¬ (1 < x):=by omega)
        | (have P:((k:Int) == 9)=false:=by simpa using (by omega:¬ (k:Int)=9))
       by_cases m:x=0 <;> by_cases hk0:0 < k <;> by_cases I:most < V <;> try (exfalso;omega)
       all_goals
        first
         | (have J:(x == 0)=true:=by simpa using m)
         | (have K:(x == 0)=false:=by simpa using m)
        clear m r D h9 z i
        go_wp2_with (go_at_call 170;refine cF.o.mono ?_;rintro e w1 ⟨rfl,F,X⟩)
        go_ret
        exact ⟨rfl,F,X⟩
     ·obtain ⟨H,B⟩:=f.o _ _ (by rw [s.o,if_neg r])
      subst B
      have hsm:V<=most:=af
      have hz:x=0->k=0:=af
      have y:∀ A' T,(A'=some ⟨b,o + (k + 1),none⟩/\T=R - (k + 1)∨j.drop (k + 1)=[])->n - (k + 1)<=T->kN (dI (w.setCell ⟨g,0,none⟩ (.slice A' (n - (k + 1)) T)) g ⟨j.drop (k + 1),false⟩):=fun A' T h hc'=>aa (by
       refine ⟨⟨A',T,?_,?_,?_,?_⟩,H8.o.drop _⟩
       ·have:=HB.o.bH 0 (.slice A' (n - (k + 1)) T)
        simpa [<- HL.o] using this
       ·rcases h with ⟨rfl,_⟩ | h
        ·rw [<- BP]
         exact (hc.drop (k + 1)).bH (p:=⟨g,0,none⟩) (fun a e=>by injection e with e;subst e;exact W) _
        ·rw [h];exact ah.nil _ _
       ·intro hne a ha
        rcases h with ⟨rfl,_⟩ | h
        ·injection ha with ha;subst ha;exact ⟨cu,HU.o.far (p:=⟨g,0,none⟩) W _⟩
        ·exact absurd h hne
       ·simpa [<- HL.o] using hc')
      have hfr:=aa (fun u=>Fr.setCell (S:=fun k=>k=g) (p:=⟨g,0,none⟩) (Fr.refl _ w) (.inr rfl) u)
      have hHl:=HL.o
      by_cases hend:R=k + 1
      ·have hn1:n=k + 1:=by omega
       have L:j.drop (k + 1)=[]:=List.drop_eq_nil_of_le af
       have E:=y (some ⟨b,o,none⟩) 0 (.inr L) af
       rw [show n - (k + 1)=0 by omega] at E
       obtain rfl:V=v0:=H.symm
       clear s d f y L hHl hz
       rcases Classical.em (k=9) with i | i
       all_goals
        first
         | (
          have h9t:((k:Int) == 9)=true:=by simpa using (by omega:(k:Int)=9)
          have hx1:¬ (1 < x):=by omega)
         | (have P:((k:Int) == 9)=false:=by simpa using (by omega:¬ (k:Int)=9))
        by_cases m:x=0 <;> by_cases hk0:0 < k <;> by_cases I:most < V <;> try (exfalso;omega)
        all_goals
         first
          | (have J:(x == 0)=true:=by simpa using m)
          | (have K:(x == 0)=false:=by simpa using m)
         clear m r D h9 z i
         go_wp2
         go_ret
         exact ⟨rfl,E.o,hfr.o _⟩
      ·have E:=y (some ⟨b,o + (k + 1),none⟩) (R - (k + 1)) (.inl ⟨rfl,rfl⟩) af
       obtain rfl:V=v0:=H.symm
       clear s d f y hHl hz
       rcases Classical.em (k=9) with i | i
       all_goals
        first
         | (
          have h9t:((k:Int) == 9)=true:=by simpa using (by omega:(k:Int)=9)
          have hx1:¬ (1 < x):=by omega)
         | (have P:((k:Int) == 9)=false:=by simpa using (by omega:¬ (k:Int)=9))
        by_cases m:x=0 <;> by_cases hk0:0 < k <;> by_cases I:most < V <;> try (exfalso;omega)
        all_goals
         first
          | (have J:(x == 0)=true:=by simpa using m)
          | (have K:(x == 0)=false:=by simpa using m)
         clear m r D h9 z i
         go_wp2
         go_ret
         exact ⟨rfl,E.o,hfr.o _⟩
  ·obtain ⟨H,B⟩:=d.o (by rw [hB.o,List.drop_eq_nil_of_le (by have:=HL.o;omega)];rfl)
   subst H B
   clear d f
   go_wp2_with (go_at_call 170;refine cF.o.mono ?_;rintro e w1 ⟨rfl,F,X⟩)
   go_ret
   exact ⟨rfl,F,X⟩
theorem wh (g:Nat) (r:Rd) (most v:Nat) (d:Rd) (h:r.num most=(v,d)) (n:most < 18446744073709551616) (j:r.b.length<=1000000) (w:World) (f:dI w g r) :
 aS 157 #[g,.int .u64 most] w fun e w'=>e=.returned (.int .u64 v)/\dI w' g d/\Fr (fun k=>k=g) w w':=by
 obtain ⟨b,wr⟩:=r
 obtain ⟨A,c,i,l,m,h4⟩:=f.ex
 cases wr with
 | true=>
  have e:(v,d)=(0,⟨b,true⟩):=h.symm.trans rfl
  injection e with p s
  subst p s
  obtain ⟨c0,c1,f0,f1,u⟩:=bk2 i
  have x:=aa f
  clear i l m h4 f h j
  go_enter func157,ntmps157
  go_wp2
  go_ret
  exact ⟨rfl,x.o,Fr.refl _ _⟩
 | false=>exact Jr g b most b.length c A rfl j h4 n w i l m f.yw v d h
theorem Js (most:Nat):∀ (l:List Int) (k v x:Nat) (l':List Int),Dk most k v l=some (x,l')->x<=most/\l'.length<=l.length
 | [],_,_,_,_,h=>by simp [Dk] at h
 | c :: l,k,v,x,l',h=>by
  rw [BR] at h
  split at h
  ·cases h
  ·split at h
   ·have:=Js most l _ _ _ _ h
    simp
    omega
   ·split at h
    ·cases h
    ·injection h with h;injection h with h1 h2;subst h1 h2
     simp
     omega
theorem Rd.fq (r:Rd) (most:Nat):(r.num most).1<=most/\(r.num most).2.b.length<=r.b.length:=by
 unfold Rd.num
 split
 ·exact ⟨bE,dN _⟩
 ·split
  ·rename_i v b h
   exact Js most _ _ _ _ _ h
  ·exact ⟨bE,dN _⟩
theorem P9 (g:Nat) (r:Rd) (b:Bool) (f:Rd) (h:r.yes=(b,f)) (j:r.b.length<=1000000) (w:World) (l:dI w g r) :
 aS 115 #[g] w fun e w'=>e=.returned (.bool b)/\dI w' g f/\Fr (fun k=>k=g) w w':=by
 obtain ⟨v,d,i⟩:∃ v d,r.num 1=(v,d):=⟨_,_,rfl⟩
 have e:(v == 1,d)=(b,f):=by rw [<- h];unfold Rd.yes;rw [i]
 injection e with m n
 subst n
 have p:=aa (wh g r 1 v d i af j w l)
 have x:((v:Int) == 1)=b:=by rw [<- m,Bool.eq_iff_iff];simp;omega
 clear i m h j l
 go_enter func115,ntmps115
 go_wp2_with (go_at_call 157;refine p.o.mono ?_;rintro e w1 ⟨rfl,s,u⟩)
 go_ret
 exact ⟨rfl,s,u⟩
theorem Qa (g:Nat) (r:Rd) (d:Int) (h:r.end_=d) (m:r.b.length<=1000000) (w:World) (i:dI w g r) :
 aS 155 #[g] w fun e w'=>e=.returned (zi d)/\w=w':=by
 obtain ⟨b,wr⟩:=r
 obtain ⟨A,c,j,k,l,h4⟩:=i.ex
 obtain ⟨c0,c1,f0,f1,p⟩:=bk2 j
 obtain ⟨n,f⟩:=aR (b.length)
 simp only [f] at c0 m
 subst h
 cases wr with
 | true=>
  have e:Rd.end_ ⟨b,true⟩=2:=rfl
  rw [e]
  clear j k l h4 i e f
  go_enter func155,ntmps155
  go_wp2
  go_ret
  exact ⟨rfl,rfl⟩
 | false=>
  have e:Rd.end_ ⟨b,false⟩=if n > 0 then 9 else 0:=by unfold Rd.end_;rw [f];rfl
  rw [e]
  clear j k l h4 i e f
  by_cases h0:0 < n
  ·rw [if_pos h0]
   go_enter func155,ntmps155
   go_wp2
   go_ret
   exact ⟨rfl,rfl⟩
  ·rw [if_neg h0]
   go_enter func155,ntmps155
   go_wp2
   go_ret
   exact ⟨rfl,rfl⟩
theorem Fh (l:List Int):iA l=strOfNums l:=by
 unfold iA strOfNums
 rfl
theorem Fj (A:Option Addr) (n c:Nat) (d:List Int) (u:d.length=n) (H:n<=1000000) (h8:iq d) (w:World) (h:ah w A (eB d)) :
 aS 112 #[.slice A n c] w fun e w'=>∃ g,e=.returned (av g 0)/\w.heap.size<=g/\dI w' g ⟨d,false⟩/\Old w w':=by
 obtain ⟨y,r,j,l,m⟩:=info_parts lF
 have s:=aa u
 clear u
 have p:=aa (fun A' f (w1:World) (i:fZ (w.alloc (.cells #[] 5)) w.heap.size 5 1 (.slice (some ⟨w.heap.size,0,none⟩) 0 0) n (eB d) (.slice A' n f) w1)=>(show w.heap.size<=w1.heap.size/\dI (w1.alloc (.cells #[.slice A' n f,.bool false] 284)) w1.heap.size ⟨d,false⟩/\Old w (w1.alloc (.cells #[.slice A' n f,.bool false] 284)) by
  have x:Old w w1:=i.old ((Old.refl' w).ag _) (fun k z=>by simp [Value.ownBlock] at z;omega)
  refine ⟨x.size,⟨⟨A',f,?_,?_,fun B a C=>?_,?_⟩,h8⟩,x.ag _⟩
  ·have:=Bk.new w1 284 #[.slice A' n f,.bool false]
   simpa [<- s.o] using this
  ·exact (ah.bA i.own).alloc _
  ·subst C
   obtain ⟨-,D,E⟩:=iO i.own (k:=a.block) (by simp [Value.ownBlock])
   exact ⟨D,E.alloc _⟩
  ·have:=bI i.own
   obtain ⟨_,_,e,F,_⟩:=this
   cases e
   simpa [s.o] using F))
 go_enter func112,ntmps112
 go_wp2_with (at_builtin;refine bT _ rfl (.tmp 3) (.tmp 4) 65 rfl w.heap.size 5 y (.int .u8 0) 1 1 underlying65 r j l m rfl aW (.slice (some ⟨w.heap.size,0,none⟩) 0 0) 0 [] rfl (World.ownsRow_made w #[] 0 (dN _) aW rfl) A n c (eB d) rfl (by simp [s.o]) (ah.alloc h _) tC qy af bE n (mE _) (eB d) (qz _) ?_;intro A' f w1 i)
 go_ret
 obtain ⟨G,r2,r3⟩:=p.o A' f w1 i
 exact ⟨_,rfl,G,r2,r3⟩
theorem dI.see {w:World} {g n:Nat} {b:List Int} {wr:Bool} (h:dI w g ⟨b,wr⟩) (f:b.length=n):∃ A c,w.cell? ⟨g,0,none⟩=some (.slice A n c)/\w.cell? ⟨g,1,none⟩=some (.bool wr)/\w.frozen? ⟨g,0,none⟩=false/\w.frozen? ⟨g,1,none⟩=false/\g < w.heap.size/\
 ah w A (eB b)/\n<=c/\kN (Bk w g 284 #[.slice A n c,.bool wr])/\kN (b≠[]->∀ a,A=some a->∃ cs,Bk w a.block 5 cs):=by
 obtain ⟨A,c,d,i,j,h4⟩:=h.ex
 simp only [f] at d h4
 obtain ⟨c0,c1,f0,f1,e⟩:=bk2 d
 exact ⟨A,c,c0,c1,f0,f1,e,i,h4,aa d,aa j⟩
theorem dI.go {w:World} {g n v c:Nat} {b:List Int} {wr:Bool} {A:Option Addr} (h8:iq b) (s:b.length=n) (u:Bk w g 284 #[.slice A n c,.bool wr]) (z:b≠[]->∀ a,A=some a->∃ cs,Bk w a.block 5 cs) (y:ah w A (eB b)) (A':Option Addr) (j:Nat)
 (h:A'=A.map (fun x=>x.add v)∨b.drop v=[]) (l:n - v<=j):dI (w.setCell ⟨g,0,none⟩ (.slice A' (n - v) j)) g ⟨b.drop v,wr⟩/\Fr (fun k=>k=g) w (w.setCell ⟨g,0,none⟩ (.slice A' (n - v) j)):=by
 refine ⟨?_,Fr.setCell (S:=fun k=>k=g) (p:=⟨g,0,none⟩) (Fr.refl _ w) (.inr rfl) _⟩
 have key:b.drop v=[]∨∃ b' i,A=some ⟨b',i,none⟩/\A'=some ⟨b',i + v,none⟩/\b'≠g/\∃ cs,Bk w b' 5 cs:=by
  rcases h with rfl | h
  ·by_cases d:b=[]
   ·left;simp [d]
   ·obtain ⟨b',i,rfl,_,_⟩:=y (by simpa [eB] using d)
    obtain ⟨cs,f⟩:=z d ⟨b',i,none⟩ rfl
    exact .inr ⟨b',i,rfl,by simp [lS],Bk.vC f u aW,cs,f⟩
  ·exact .inl h
 refine ⟨⟨A',j,?_,?_,?_,?_⟩,h8.drop _⟩
 ·have:=u.bH 0 (.slice A' (n - v) j)
  simpa [s] using this
 ·rcases key with h | ⟨b',i,rfl,rfl,m,_⟩
  ·rw [h];exact ah.nil _ _
  ·rw [<- BP]
   exact (y.drop v).bH (p:=⟨g,0,none⟩) (fun a e=>by injection e with e;subst e;exact m) _
 ·intro d a r
  rcases key with h | ⟨b',i,rfl,rfl,m,cs,f⟩
  ·exact absurd h d
  ·injection r with r;subst r;exact ⟨cs,f.far (p:=⟨g,0,none⟩) m _⟩
 ·simpa [s] using l
theorem Ai (g:Nat) (r:Rd) (most:Nat) (t:List Int) (H:Rd) (h:r.text most=(t,H)) (X:most<=1000000) (L:r.b.length<=1000000) (w:World) (M:dI w g r) :
 aS 118 #[g,zi most] w fun e w'=>e=.returned (.string (iA t))/\dI w' g H/\Fr (fun k=>k=g) w w':=by
 obtain ⟨v,d,G⟩:∃ v d,r.num most=(v,d):=⟨_,_,rfl⟩
 have s:=r.fq most
 rw [G] at s
 obtain ⟨Y,u⟩:=s
 have e:(if d.wrong then (([]:List Int),d) else if v > d.b.length then ([],⟨d.b,true⟩) else (d.b.take v,⟨d.b.drop v,false⟩))=(t,H):=by rw [<- h];unfold Rd.text;rw [G]
 have I:=aa (wh g r most v d G af L w M)
 have h8:kN (∀ W,dI W g d->iq d.b):=aa (fun W h=>h.yw)
 have N:=aa (fun W=>Jq g d W)
 obtain ⟨b1,wr⟩:=d
 obtain ⟨n,J⟩:=aR (b1.length)
 simp only [J] at e u
 have P:n<=1000000:=af
 have R:IntKind.u64.wrap (most:Int)=most:=nS _ af
 have S:IntKind.u64.wrap (n:Int)=n:=nS _ af
 have T:¬ ((most:Int) < 0):=af
 have m:=aa J
 clear G h M L u J
 cases wr with
 | true=>
  injection e with x y
  subst x y
  have K:Value.string (iA [])=.string ByteArray.empty:=rfl
  rw [K]
  go_enter func118,ntmps118
  go_wp2_with (go_at_call 157;refine I.o.mono ?_;rintro e w1 ⟨rfl,i,p⟩;obtain ⟨A,c,c0,c1,f0,f1,z,B,C,j,f⟩:=i.see m.o)
  go_ret
  exact ⟨rfl,i,p⟩
 | false=>
  by_cases l:n < v
  ·rw [if_neg bE,if_pos l] at e
   injection e with x y
   subst x y
   have K:Value.string (iA [])=.string ByteArray.empty:=rfl
   rw [K]
   go_enter func118,ntmps118
   go_wp2_with
    (first
     | (go_at_call 157;refine I.o.mono ?_;rintro e w1 ⟨rfl,i,p⟩;obtain ⟨A,c,c0,c1,f0,f1,z,B,C,j,f⟩:=i.see m.o)
     | (go_at_call 170;refine (N.o _ i).mono ?_;rintro e U ⟨rfl,D,E⟩))
   go_ret
   exact ⟨rfl,D,p.trans E⟩
  ·rw [if_neg bE,if_neg l] at e
   injection e with x y
   rw [Fh]
   subst x y
   have F:=aa (show (b1.take v).length=v by rw [vB,m.o];omega)
   have V:=aa (fun (W:World) (A:Option Addr) (h:ah W A (eB b1))=>(show ah W A (eB (b1.take v)) by have:=h.take v;simpa [eB] using this))
   go_enter func118,ntmps118
   go_wp2_with
    (first
     | (
      go_at_call 157;refine I.o.mono ?_;rintro e w1 ⟨rfl,i,p⟩;obtain ⟨A,c,c0,c1,f0,f1,z,B,C,j,f⟩:=i.see m.o
      have O:=Ad (w:=w1) (A:=A) v c F.o (V.o _ _ B))
     | (go_at_call 170;refine (N.o _ i).mono ?_;rintro e U ⟨rfl,D,E⟩))
   ·obtain ⟨d,r2⟩:=dI.go (v:=v) (h8.o _ i) m.o j.o f.o B A 0 (.inr (List.drop_eq_nil_of_le (by have:=m.o;omega))) af
    go_ret
    exact ⟨rfl,d,p.trans r2⟩
   ·obtain ⟨d,r2⟩:=dI.go (v:=v) (h8.o _ i) m.o j.o f.o B _ (c - v) (.inl rfl) af
    go_ret
    exact ⟨rfl,d,p.trans r2⟩
theorem Aj (a b:Nat) (d:a < 2 ^ 32) (e:b < 2 ^ 32):bits BinOp.xor IntKind.u32 a b=((a ^^^ b:Nat):Int):=by
 show IntKind.u32.wrap (((BitVec.ofInt 32 (a:Int) ^^^ BitVec.ofInt 32 (b:Int)).toNat:Nat):Int)=_
 rw [BitVec.toNat_xor,gX 32 a d,gX 32 b e,Ah _ (Nat.xor_lt_two_pow d e)]
theorem Ng (a b:Nat) (e:a < 2 ^ 32) (d:b < 2 ^ 32):bits BinOp.and IntKind.u32 a b=((a &&& b:Nat):Int):=by
 show IntKind.u32.wrap (((BitVec.ofInt 32 (a:Int) &&& BitVec.ofInt 32 (b:Int)).toNat:Nat):Int)=_
 rw [BitVec.toNat_and,gX 32 a e,gX 32 b d,Ah _ (Nat.and_lt_two_pow _ d)]
theorem Rz (a b:Nat) (d:a < 2 ^ 8) (e:b < 2 ^ 8):bits BinOp.xor IntKind.u8 a b=((a ^^^ b:Nat):Int):=by
 show IntKind.u8.wrap (((BitVec.ofInt 8 (a:Int) ^^^ BitVec.ofInt 8 (b:Int)).toNat:Nat):Int)=_
 rw [BitVec.toNat_xor,gX 8 a d,gX 8 b e,Jp _ (Nat.xor_lt_two_pow d e)]
def Gy (c:Nat):Nat:=(c >>> 1) ^^^ (if c % 2=1 then 0xEDB88320 else 0)
theorem tQ:∀ (n c:Nat),qB (n + 1) c=Gy (qB n c)
 | 0,c=>rfl
 | n + 1,c=>by rw [show qB (n + 1 + 1) c=qB (n + 1) (Gy c) from rfl,tQ n (Gy c)];rfl
theorem RA {c:Nat} (h:c < 2 ^ 32):Gy c < 2 ^ 32:=by
 refine Nat.xor_lt_two_pow ?_ (by split <;> decide)
 rw [Nat.shiftRight_eq_div_pow]
 exact Nat.lt_of_le_of_lt (Nat.div_le_self _ _) h
theorem vF:∀ (n:Nat) {c:Nat},c < 2 ^ 32->qB n c < 2 ^ 32
 | 0,_,h=>h
 | n + 1,c,h=>by rw [tQ];exact RA (vF n h)
theorem RB {c:Nat} (h:c < 2 ^ 32):bits BinOp.xor IntKind.u32 ((c:Int) / 2) (3988292384 * bits BinOp.and IntKind.u32 (c:Int) 1 % 4294967296)=(Gy c:Int):=by
 have d:(c:Int) / (2:Int)=((c >>> 1:Nat):Int):=by rw [Nat.shiftRight_eq_div_pow];omega
 rw [d]
 have f:c >>> 1 < 2 ^ 32:=by rw [Nat.shiftRight_eq_div_pow];exact Nat.lt_of_le_of_lt (Nat.div_le_self _ _) h
 have g:bits BinOp.and IntKind.u32 (c:Int) 1=((c % 2:Nat):Int):=by
  rw [show (1:Int)=((1:Nat):Int) from rfl,Ng c 1 h aW,Nat.and_one_is_mod]
 rw [g]
 have i:3988292384 * ((c % 2:Nat):Int) % 4294967296=(((if c % 2=1 then 0xEDB88320 else 0:Nat)):Int):=by
  rcases Nat.mod_two_eq_zero_or_one c with e | e <;> rw [e] <;> decide
 rw [i,Aj _ _ f (by split <;> decide)]
 rfl
def yx (k:Nat):Array Value:=((List.range 256).map fun i=>if i < k then Value.int .u32 (qB 8 i) else .int .u32 0).toArray
theorem Gz:yx 0=Tryz.zeroCells339:=ay
theorem Jt {k:Nat} (h:k < 256):(yx k).setIfInBounds k (.int .u32 (qB 8 k))=yx (k + 1):=by
 apply Array.ext'
 apply List.ext_getElem?
 intro i
 simp only [yx,ZR,List.getElem?_set,List.length_map,List.length_range,List.getElem?_map]
 by_cases f:i < 256
 ·rw [List.getElem?_range f]
  by_cases d:k=i
  ·subst d;simp [h]
  ·simp [d]
   by_cases e:i < k
   ·simp [e,show i < k + 1 by omega]
   ·simp [e,show ¬ i < k + 1 by omega]
 ·rw [Jb jR]
  by_cases d:k=i
  ·omega
  ·simp [d]
theorem Nh {i:Nat} (h:i < 256):(yx 256)[i]?=some (.int .u32 (qB 8 i)):=by
 simp only [yx,iZ,List.getElem?_map,List.getElem?_range h,Option.map_some,if_pos h]
theorem GA {k:Nat} (h:k < 256):(yx k)[k]?=some (.int .u32 0):=by
 simp [yx,List.getElem?_range h]
def Ni (c:Nat) (x:Int):Nat:=(c >>> 8) ^^^ qB 8 ((c ^^^ x.toNat) % 256)
theorem Nk {c:Nat} (h:c < 2 ^ 32) (x:Int):Ni c x < 2 ^ 32:=by
 refine Nat.xor_lt_two_pow ?_ (vF 8 (by have:=Nat.mod_lt (c ^^^ x.toNat) (show 0 < 256 by omega);omega))
 rw [Nat.shiftRight_eq_div_pow]
 exact Nat.lt_of_le_of_lt (Nat.div_le_self _ _) h
theorem yU (l:List Int) {k:Nat} {x:Int} (h:l[k]?=some x):BM (l.take (k + 1))=Ni (BM (l.take k)) x:=by
 obtain ⟨d,e⟩:=List.getElem?_eq_some_iff.1 h
 rw [MG d,e]
 simp [BM,Ni]
theorem Ak:∀ (l:List Int) (k:Nat),BM (l.take k) < 2 ^ 32
 | l,0=>by simp [BM]
 | l,k + 1=>by
  rcases Nat.lt_or_ge k l.length with h | h
  ·rw [yU l (gG h)];exact Nk (Ak l k) _
  ·rw [List.take_of_length_le af,<- List.take_of_length_le h];exact Ak l k
theorem Nl (A:Option Addr) (n F:Nat) (d:List Int) (N:n=d.length) (hn:n<=100000) (h8:iq d) (w:World) (S:ah w A (eB d)) :
 aS 215 #[.slice A n F] w fun e w'=>e=.returned (.int .u32 (crc d))/\Old w w':=by
 obtain ⟨T,U⟩:=aR (w.heap.size)
 have G:=aa (show Bk (w.alloc (.cells Tryz.zeroCells339 339)) T 339 (yx 0) by rw [Gz,<- U];exact Bk.new _ _ _)
 have H:=aa ((Old.refl' w).ag (.cells Tryz.zeroCells339 339))
 have HL:=aa N
 have V:=aa h8
 have W:=aa (show w.heap.size<=T by omega)
 clear N h8
 go_enter func215,ntmps215
 go_wp2_with fail
 generalize w.alloc (.cells Tryz.zeroCells339 339)=W0 at G H ⊢
 go_loopw [9] (fun iv wr=>∃ k:Nat,k<=256/\iv=zi k/\Bk wr T 339 (yx k)/\Old w wr) (fun iv _=>256 - (intOf iv).toNat)
 case atStart=>exact ⟨0,af,rfl,G.o,H.o⟩
 case round=>
  obtain ⟨k,hk,rfl,O,P⟩:=hrel
  have f:=aa O
  have m:=aa P
  clear O P G H
  by_cases u:k < 256
  ·have hw:IntKind.u32.wrap (k:Int)=k:=Ah k af
   obtain ⟨C,rfl⟩:∃ C:World,C=wr:=⟨_,rfl⟩
   go_wp2_with fail
   go_loopw [14,5] (fun iv I J=>∃ j:Nat,j<=8/\iv=zi j/\I=.int .u32 (qB j k)/\C=J) (fun iv _ _=>8 - (intOf iv).toNat)
   case atStart=>exact ⟨0,af,rfl,rfl,rfl⟩
   case round=>
    obtain ⟨j,hj,rfl,rfl,rfl⟩:=hrel
    obtain ⟨c,g⟩:=aR (qB j k)
    have r:c < 2 ^ 32:=g▸vF j af
    have X:=RB r
    have Y:=aa (show Gy c=qB (j + 1) k by rw [tQ,g])
    rw [g]
    by_cases Z:j < 8
    ·go_wp2
     go_roundw
     case rel=>exact ⟨j + 1,af,oP,by rw [Y.o],trivial⟩
     case measure=>simp [intOf];omega
    ·have K:j=8:=by omega
     subst K
     have q0:C.cell? ⟨T,k,none⟩=some (.int .u32 0):=(f.o.cell k).trans (GA u)
     have q1:=f.o.frozen k
     have q2:=f.o.lt
     have HC:=aa g
     clear g
     go_wp2
     go_roundw
     case rel=>exact ⟨k + 1,af,oP,by rw [<- Jt u,HC.o];exact f.o.bH k _,m.o.aJ (p:=⟨T,k,none⟩) W.o _⟩
     case measure=>simp [intOf];omega
  ·have L:k=256:=by omega
   subst L
   go_wp2_with fail
   go_loopw [29,6] (fun iv I J=>∃ i:Nat,i<=n/\iv=zi i/\I=.int .u32 (BM (d.take i))/\wr=J) (fun iv _ _=>n - (intOf iv).toNat)
   case atStart=>exact ⟨0,Nat.zero_le _,rfl,rfl,rfl⟩
   case round=>
    obtain ⟨i,hi,rfl,rfl,rfl⟩:=hrel
    obtain ⟨c,g⟩:=aR (BM (d.take i))
    have l:c < 2 ^ 32:=g▸Ak d i
    rw [g]
    by_cases hin:i < n
    ·have z:i < d.length:=by have:=HL.o;omega
     obtain ⟨b,o,rfl,hb,h⟩:=(S.old m.o) (fun e=>by have R:(eB d).length=0:=(by rw [e];rfl);simp at R;subst R;simp at z)
     obtain ⟨x,D⟩:∃ x,d[i]?=some x:=⟨_,gG z⟩
     obtain ⟨x0,x1⟩:=V.o.get D
     obtain ⟨y,rfl⟩:=Int.eq_ofNat_of_zero_le x0
     have g0:wr.cell? ⟨b,o + i,none⟩=some (.int .u8 y):=h i _ (by simp [eB,D])
     have HX:=aa (yU d D)
     obtain ⟨e,E⟩:=aR ((c % 256) ^^^ y)
     have s:e < 256:=by rw [<- E];exact Nat.xor_lt_two_pow (n:=8) (Nat.mod_lt _ (by decide)) (by omega)
     have hx8:bits BinOp.xor IntKind.u8 ((c:Int) % 256) y=e:=by
      rw [<- E,show (c:Int) % 256=((c % 256:Nat):Int) by omega]
      exact Rz _ _ af af
     have q0:wr.cell? ⟨T,e,none⟩=some (.int .u32 (qB 8 e)):=(f.o.cell e).trans (Nh s)
     have q2:=f.o.lt
     have HE:=aa E
     clear E D h
     go_wp2
     go_roundw
     case rel=>
      have e8:qB 8 e < 2 ^ 32:=vF 8 af
      have ec:(c:Int) / (256:Int)=((c >>> 8:Nat):Int):=by rw [Nat.shiftRight_eq_div_pow];omega
      have M:c >>> 8 < 2 ^ 32:=by rw [Nat.shiftRight_eq_div_pow];exact Nat.lt_of_le_of_lt (Nat.div_le_self _ _) l
      have em:(c ^^^ y) % 256=e:=by rw [<- HE.o,show (256:Nat)=2 ^ 8 from rfl,Nat.xor_mod_two_pow,Nat.mod_eq_of_lt (show y < 2 ^ 8 by omega)]
      exact ⟨i + 1,af,oP,by rw [ec,Aj _ _ M e8,HX.o,g];unfold Ni;rw [EZ,em],trivial⟩
     case measure=>simp [intOf];omega
    ·have B:i=n:=by omega
     subst B
     go_wp2
     go_ret
     refine ⟨?_,m.o⟩
     have e1:=Aj 4294967295 c aW l
     have e2:d.take i=d:=List.take_of_length_le I4
     rw [e2] at g
     show Ending.returned (Value.int .u32 (bits BinOp.xor IntKind.u32 ((4294967295:Nat):Int) c))=_
     rw [e1]
     unfold crc
     rw [g]
theorem BU:(prog.info? 157).map (fun i=>(i.zero,i.size,i.bytes))=some (some (.agg #[zi 0,zi 0,aQ]),3,40):=ay
theorem BV:∀ w,(zeroValue 157).run prog w=.ok (.agg #[zi 0,zi 0,aQ]) w:=fun _=>ay
theorem Ju:(Value.agg #[zi 0,zi 0,aQ]).cells.size=3:=rfl
theorem Jv:∀ u∈(Value.agg #[zi 0,zi 0,aQ]).cells.toList,u.oneCell'=true:=aW
theorem Dy (base g n d i:Nat) (xs:List Value) (w:World) (f:w.ownsRow base 157 3 (.slice (some ⟨g,0,none⟩) n d) n xs) (O:i < n) (P:n<=1099511627776) (D:∀ u∈xs,u.oneCell'=true) :
 aS 169 #[.slice (some ⟨g,0,none⟩) n d,zi i,zi ((i:Int) + 1)] w fun e w'=>
  e=.returned (.slice (some ⟨g,0,none⟩) (n - 1) d)/\w'.ownsRow base 157 3 (.slice (some ⟨g,0,none⟩) (n - 1) d) (n - 1) (xs.take (i * 3) ++ xs.drop ((i + 1) * 3))/\Fr (fun k=>k=g) w w':=by
 obtain ⟨i0,r,E,s,F⟩:=info_parts BU
 obtain ⟨G,z⟩:=iG f
 unfold maxLen at z
 have H:((i:Int) == (i:Int) + 1)=false:=jR
 have l:(xs.drop ((i + 1) * 3)).length=(n - (i + 1)) * 3:=by rw [yj,f.1,Nat.sub_mul]
 have x:∀ u∈xs.drop ((i + 1) * 3),u.oneCell'=true:=fun u I=>D u (List.mem_of_mem_drop I)
 have A:=aa (zV f (k:=i) af)
 have B:=aa (pz f ((i + 1) * 3))
 have C:=aa l
 clear l
 have R:(0:Int)<=(i:Int):=af
 have q1:(0:Int)<=(i:Int) + 1:=af
 have J:(i:Int) + 1<=(n:Int):=af
 have K:(i:Int)<=(n:Int):=af
 have L:(i:Int)<=(d:Int):=af
 have M:(i:Int) + 1<=(d:Int):=af
 by_cases y:d=i + 1
 ·obtain rfl:n=i + 1:=by omega
  subst y
  have hd:xs.drop ((i + 1) * 3)=[]:=List.drop_eq_nil_of_le (by rw [f.1];omega)
  rw [hd,List.append_nil]
  have S:(i:Int)<=(i:Int) + 1:=af
  have T:(i:Int) + 1<=(i:Int) + 1:=af
  clear B C x hd J K L M
  go_enter func169,ntmps169
  go_wp2_with fail
  go_region_law ((refine yN rfl (.tmp 22) (.tmp 25) 151 iW i0 underlying151 r s af iW (by exact A.o) _ 0 _ [] iW iW (ah.nil _ _) bE af i af _ (List.append_nil _) ?_;intro w1 h m))
  go_wp2_with ((with_reducible refine oL (.tmp 31) 151 _ underlying151 BV Ju Jv aW h (some ⟨g,i * 3,none⟩) 1 1 ?_ ?_ ?_ ?_);(· rfl);(· exact fun _=>rfl);(· omega);intro N j p)
  go_ret
  exact ⟨rfl,j,Fr.trans (Fr.trans (Fr.refl _ w).drew m) p⟩
 ·go_enter func169,ntmps169
  go_wp2_with fail
  go_region_law ((refine yN rfl (.tmp 22) (.tmp 25) 151 iW i0 underlying151 r s af iW (by exact A.o) _ (n - (i + 1)) _ _ iW C.o (by exact B.o) x af (n - 1) af _ rfl ?_;intro w1 h m))
  go_wp2_with ((with_reducible refine oL (.tmp 31) 151 _ underlying151 BV Ju Jv aW h (some ⟨g,(n - 1) * 3,none⟩) (n - (n - 1)) (d - (n - 1)) ?_ ?_ ?_ ?_);(· rfl);(· exact fun _=>rfl);(· omega);intro N j p)
  go_ret
  exact ⟨rfl,j,Fr.trans (Fr.trans (Fr.refl _ w).drew m) p⟩
structure mo where
 gJ:Int
 BX:Int
 A:Option Addr
 c:Nat
 bs:List Int
def mo.sl (m:mo):Value:=.slice m.A m.bs.length m.c
def mo.cells (m:mo):List Value:=[zi m.gJ,zi m.BX,m.sl]
theorem uV (d:List mo):(d.flatMap mo.cells).length=d.length * 3:=by
 induction d with
 | nil=>rfl
 | cons m d ih=>simp [mo.cells] at ih ⊢;omega
theorem rV (e:List mo):∀ u∈e.flatMap mo.cells,u.oneCell'=true:=by
 intro u d
 simp only [List.mem_flatMap] at d
 obtain ⟨m,_,h⟩:=d
 simp [mo.cells,mo.sl] at h
 rcases h with rfl | rfl | rfl <;> rfl
theorem yz (d:List mo):∀ k,(d.flatMap mo.cells).take (k * 3)=(d.take k).flatMap mo.cells:=by
 induction d with
 | nil=>intro k;simp
 | cons m d ih=>
  intro k
  cases k with
  | zero=>simp
  | succ k=>
   have e:(m :: d).flatMap mo.cells=zi m.gJ :: zi m.BX :: m.sl :: d.flatMap mo.cells:=rfl
   rw [e,show (k + 1) * 3=k * 3 + 1 + 1 + 1 from by omega]
   simp [ih k,mo.cells]
theorem yA (d:List mo):∀ k,(d.flatMap mo.cells).drop (k * 3)=(d.drop k).flatMap mo.cells:=by
 induction d with
 | nil=>intro k;simp
 | cons m d ih=>
  intro k
  cases k with
  | zero=>simp
  | succ k=>
   have e:(m :: d).flatMap mo.cells=zi m.gJ :: zi m.BX :: m.sl :: d.flatMap mo.cells:=rfl
   rw [e,show (k + 1) * 3=k * 3 + 1 + 1 + 1 from by omega]
   simp [ih k]
theorem Al (d:List mo):∀ k m,d[k]?=some m->(d.flatMap mo.cells)[k * 3]?=some (zi m.gJ)/\(d.flatMap mo.cells)[k * 3 + 1]?=some (zi m.BX)/\(d.flatMap mo.cells)[k * 3 + 2]?=some m.sl:=by
 induction d with
 | nil=>intro k m h;simp at h
 | cons x d ih=>
  intro k m h
  cases k with
  | zero=>simp at h;subst h;simp [mo.cells]
  | succ k=>
   have:=ih k m (by simpa using h)
   have e:(x :: d).flatMap mo.cells=zi x.gJ :: zi x.BX :: x.sl :: d.flatMap mo.cells:=rfl
   rw [e,show (k + 1) * 3=k * 3 + 1 + 1 + 1 from by omega]
   simpa using this
theorem Nn (w:World):aS 50 #[] w fun e w'=>e=.returned (av w.heap.size 0)/\w'=w.alloc (.cells #[aQ] 155):=by
 go_enter func50,ntmps50
 go_wp2
 go_ret
 exact ⟨rfl,rfl⟩
theorem RD (g n c k:Nat) (A:Option Addr) (f:k < n) (h:n<=1099511627776) (w:World) (d:Bk w g 155 #[.slice A n c]) :
 aS 77 #[g,zi k] w fun e w'=>e=.returned (.bool true)/\w=w':=by
 have c0:=d.cell 0
 simp at c0
 go_enter func77,ntmps77
 go_wp2
 go_ret
 exact ⟨rfl,rfl⟩
end Go.Proofs.YthihpfpbiajddaaGreat
