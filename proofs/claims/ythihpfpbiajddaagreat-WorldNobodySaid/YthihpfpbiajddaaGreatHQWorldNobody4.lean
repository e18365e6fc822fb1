/- Parts of the proof. -/
import Derived.Test.YthihpfpbiajddaaGreatHQWorldNobody1
import Derived.Test.YthihpfpbiajddaaGreatRows
import Derived.RangeFuncNested
import Derived.RangeFuncBound
import Derived.RangeFuncCalls
import Derived.RangeFuncLeaves
import Derived.Shelf.Abstract
import Derived.Shelf.RegionOpen
import Derived.OwnWalkIn
import Derived.TacticsInMore
import Derived.LoopNIn
import Derived.LoopIn
import Derived.RangeFuncBox
import Derived.Maps.AppendAt
import Derived.Outline
import Derived.Lib.AppendStr
import Derived.Laws.BytesArg
set_option maxRecDepth 100000
set_option maxHeartbeats 8000000
open Go.Proofs.Tryz
namespace Go.Proofs.YthihpfpbiajddaaGreat
open Go.RowKit
def dU (k:Int):Bool:=k == 1 || k == 2 || k == 3
structure om where
 code:Int
 fQ:Int
 data:ByteArray
 vs:List Int
def om.same (r s:om):Bool:=r.code == s.code && r.fQ == s.fQ && decide (r.data=s.data) && decide (r.vs=s.vs)
section
open Go.RowKit Go.Shelf
attribute [local go_sem] Oper.semAt_some
def Kb (n₀ Bs:Nat) (W W':World):Prop:=Below n₀ W W'/\∀ v,W.cell? ⟨Bs,0,none⟩=some v->W'.cell? ⟨Bs,0,none⟩=some v
theorem Kb.refl (d e:Nat) (W:World):Kb d e W W:=⟨Below.refl _ _,fun _ h=>h⟩
theorem Kb.t {d e:Nat} {A B C:World} (h:Kb d e A B) (k:Kb d e B C):Kb d e A C:=⟨h.1.trans k.1,fun v f=>k.2 v (h.2 v f)⟩
theorem Kb.b {d i:Nat} {w:World} (j:d<=w.heap.size) (W:World) (l:Nat) (o f:Obj) (k:w.heap.size<=l) (h:W.heap[l]?=some o) (g:o.isCells=false) (m:o.isWalk=false):Kb d i W (W.putObj l f):=
 ⟨belowK_b j W l o f k h g m,fun _ n=>cell_kept n (grownBy_putObj' W l f) (fun r e=>by cases e;exact ⟨_,h,g⟩)⟩
theorem Kb.alloc {d e:Nat} {W W':World} (h:Kb d e W W') (g:d<=W'.heap.size) (o:Obj):Kb d e W (W'.alloc o):=
 ⟨h.1.alloc g o,fun v i=>by
  have f:=h.2 v i
  exact (World.cell?_alloc_lt W' o ⟨e,0,none⟩ (World.block_lt_of_cell? W' _ f)).trans f⟩
theorem oo {d:Type} {B m:Nat}:OwnFrom B (fun (_:d) W=>m<=W.heap.size):=fun _ _ _ _ e f _=>ic e f.size
def nD (vs:List iF) (k:Nat):List (Nat×iF):=(List.range k).map fun j=>(vs.length - j,vs[vs.length - j - 1]?.getD default)
theorem vX (d:List iF) (k:Nat):nD d (k + 1)=nD d k ++ [(d.length - k,d[d.length - k - 1]?.getD default)]:=by simp [nD,List.range_succ]
theorem lD (d:List iF) (k:Nat):(nD d k).length=k:=by simp [nD]
theorem Ji (F:Fence) (m:Nat) (h8:F.fn 282) (z:F.round=none) (Y:1<=m) (l y f n B:Nat) (A:Option Addr) (h:List iF) (Z:n<=100000) (L:n=h.length) (J M:List (Nat×iF)->World->Prop)
 (S:∀ pre x W,J pre W->pre.length < n->YieldAt F (m - 1) prog l #[zi (x.1:Int),.agg #[.bool x.2.1,.string x.2.2]] W fun e W'=>
  (e=.returned (.bool true)/\J (pre ++ [x]) W'/\Kb f y W W')∨(e=.returned (.bool false)/\M (pre ++ [x]) W'))
 (W:World) (C:W.cell? ⟨y,0,none⟩=some (.slice A n B)) (T:lu W A h) (j:0 < n->∀ a,A=some a->a.block < f) (h0:J [] W) :
 CallsIn F m prog 282 #[.func (.yield l) #[] #[],av y 0] W fun e W'=>(∃ v,e=.returned v)/\
  ((∃ N,N=nD h n/\J N W')∨(∃ pre,(∃ k,k<=n/\pre=nD h k)/\M pre W')):=by
 have HL:=aa L
 clear L
 refine callsIn_of_wp func282 rfl h8 ?_ z
 simp only [ntmps282,List.size_toArray,iR,jV,Nat.reduceAdd,Nat.reduceSub,Array.replicate_succ,Array.replicate_zero,List.push_toArray,List.append_toArray,qz,xZ]
 gi_wp2
 gi_loopw [3] (fun i wr=>∃ k:Nat,k<=n/\i=zi ((n:Int) - k)/\J (nD h k) wr/\Kb f y W wr)
  (fun i _=>(intOf i).toNat)
 case atStart=>exact ⟨0,Nat.zero_le _,bE,h0,Kb.refl _ _ _⟩
 case round=>
  obtain ⟨k,hk,rfl,r,g⟩:=hrel
  have O:=g.2 _ C
  by_cases D:k < n
  ·obtain ⟨b,o,rfl,hb,E,G⟩:=T.at_ (k:=n - k - 1) I4
   have s:=j af _ rfl
   obtain ⟨x,H⟩:∃ x,x=h[n - k - 1]?.getD default:=⟨_,rfl⟩
   rw [<- H] at E G
   have P:=aa H
   clear H
   have U:=(g.1.cell (p:=⟨b,o + (n - k - 1) * 2,none⟩) s).trans E
   have V:=(g.1.cell (p:=⟨b,o + (n - k - 1) * 2 + 1,none⟩) s).trans G
   obtain ⟨fn,R,assign,body,hy,X⟩:=S _ (n - k,x) wr r (by rw [lD];exact D)
   dsimp only at hy
   have d:((n - k:Nat):Int)=(n:Int) - k:=af
   rw [d] at hy
   have HC:=aa d
   clear d E G
   gi_wp2
   refine X.mono ?_
   rintro e W3 (⟨rfl,I,K⟩ | ⟨rfl,u⟩)
   ·gi_wp2
    go_roundw
    case rel=>
     refine ⟨k + 1,af,oP,?_,g.t K⟩
     rw [vX,<- HL.o,<- P.o];exact I
    case measure=>simp [intOf];omega
   ·gi_wp2
    refine bodyPost_ret (results_none rfl _ _ _) rfl ?_
    refine ⟨⟨_,rfl⟩,.inr ⟨_,⟨k + 1,af,?_⟩,u⟩⟩
    rw [vX,<- HL.o,<- P.o]
  ·obtain rfl:k=n:=by omega
   gi_wp2
   go_end0
   exact ⟨⟨_,rfl⟩,.inl ⟨_,rfl,r⟩⟩
theorem M7 (F:Fence) (m:Nat) (h6:F.fn 276) (f:F.round=none) (A:Option Addr) (n d:Nat) (w:World) :
 CallsIn F m prog 276 #[.slice A n d] w fun e w'=>e=.returned (.func (.func 282) #[] #[w.heap.size])/\w'=w.alloc (.cells #[.slice A n d] 279):=by
 refine callsIn_of_wp func276 rfl h6 ?_ f
 simp only [ntmps276,List.size_toArray,iR,jV,Nat.reduceAdd,Nat.reduceSub,Array.replicate_succ,Array.replicate_zero,List.push_toArray,List.append_toArray,qz,xZ]
 gi_wp2
 go_ret
 exact ⟨rfl,rfl⟩
theorem Dw (F:Fence) (m:Nat) (h8:F.fn 282) (i:F.round=none) (s:1<=m) (e d n f:Nat) (A:Option Addr) (g:List iF) (u:n<=100000) (y:n=g.length) (w:World) (j:e < w.heap.size)
 (z:w.cell? ⟨e,0,none⟩=some (.slice A n f)) (B:lu w A g) (h:0 < n->∀ a,A=some a->a.block < d) :
 SeqStopsK F m prog 282 #[e] (fun x:Nat×iF=>#[Value.int .i64 (x.1:Int),.agg #[.bool x.2.1,.string x.2.2]]) (Kb d e) (fun C=>C=nD g n)
  (fun pre=>∃ k,k<=n/\pre=nD g k) n w:=fun l J D W r _ _ E h0=>
 Ji F m h8 i s l e d n f A g u y J D E W ((r.cell (p:=⟨e,0,none⟩) j).trans z) (ah.old B r) h h0
theorem pJ {j:Type} (g:Nat) (t:TypeId) (f:j->Array Value):Own (fun (s:j) W=>Bk W g t (f s)):=fun s W W' row d k l=>by
 unfold Bk at d ⊢
 by_cases h:row=some g
 ·subst h
  obtain ⟨o,i,m⟩:=l g rfl
  rw [d] at i
  injection i with i
  subst i
  simp [Obj.isCells] at m
 ·exact (k.block g (Array.getElem?_eq_some_iff.1 d).1 (fun e=>h e.symm)).trans d
theorem Bk.put {W:World} {g:Nat} {t:TypeId} {cs:Array Value} (h:Bk W g t cs) {D:Nat} {o:Obj} (e:W.heap[D]?=some o) (f:o.isCells=false) (d:Obj):Bk (W.putObj D d) g t cs:=
 (pJ g t (fun (_:Unit)=>cs)).putObj (s:=()) d h e f
theorem Old.put {w W:World} (h:Old w W) {D:Nat} {o:Obj} (f:W.heap[D]?=some o) (hd:w.heap.size<=D) (d:Obj):Old w (W.putObj D d):=
 h.grown (grownBy_putObj' W D d) h.size (fun k e=>by cases e;exact hd)
theorem lV {α d:Type} {B:Nat} {I:α->d->World->Prop} (h:∀ x,OwnFrom B (I x)):OwnFrom B (fun s W=>∃ x,I x s W):=
 fun s W W' row ⟨x,e⟩ f g=>⟨x,h x s W W' row e f g⟩
def qI (vs:List iF):iF:=vs[vs.length - 1]?.getD default
theorem Na (A:Option Addr) (n d:Nat) (s:List iF) (hn:n<=100000) (L:n=s.length) (w:World) (V:lu w A s) :
 CallsIn Fence.wide 5 prog 270 #[.slice A n d] w fun e W'=>
  e=.returned (.tuple #[zi (n:Int),.agg #[.bool (qI s).1,.string (qI s).2]])/\Old w W':=by
 have y:0 < n->∀ a,A=some a->a.block < w.heap.size:=fun h a e=>by
  obtain ⟨b,o,J,hb,_⟩:=V.at_ (k:=0) af
  rw [e] at J;injection J with J;subst J;exact hb
 have M:=aa L
 clear L
 refine callsIn_of_wp_marks func270 rfl trivial ?_ rfl
 simp only [ntmps270,List.size_toArray,iR,jV,Nat.reduceAdd,Nat.reduceSub,Array.replicate_succ,Array.replicate_zero,List.push_toArray,List.append_toArray,qz,xZ]
 gi_wp2_with (refine ⟨trivial,?_⟩;gi_at_call 276;refine (M7 Fence.wide _ trivial rfl _ _ _ _).mono ?_;rintro e w' ⟨rfl,rfl⟩)
 have X:Bk (((w.alloc (.cells #[zi 0] 3)).alloc (.cells #[.bool false,.string { data:=#[] }] 281)).alloc (.cells #[.slice A n d] 279)) w.heap.size 3 #[zi 0]:=((Bk.new w _ _).alloc _).alloc _
 have b1:Bk (((w.alloc (.cells #[zi 0] 3)).alloc (.cells #[.bool false,.string { data:=#[] }] 281)).alloc (.cells #[.slice A n d] 279)) (w.heap.size + 1) 281 #[.bool false,.string { data:=#[] }]:=by
  have:=(Bk.new (w.alloc (.cells #[zi 0] 3)) 281 #[.bool false,.string { data:=#[] }]).alloc (.cells #[.slice A n d] 279)
  rwa [jW] at this
 have b2:Bk (((w.alloc (.cells #[zi 0] 3)).alloc (.cells #[.bool false,.string { data:=#[] }] 281)).alloc (.cells #[.slice A n d] 279)) (w.heap.size + 2) 279 #[.slice A n d]:=by
  have:=Bk.new ((w.alloc (.cells #[zi 0] 3)).alloc (.cells #[.bool false,.string { data:=#[] }] 281)) 279 #[.slice A n d]
  rwa [jW,jW] at this
 have u:Old w (((w.alloc (.cells #[zi 0] 3)).alloc (.cells #[.bool false,.string { data:=#[] }] 281)).alloc (.cells #[.slice A n d] 279)):=(((Old.refl' w).ag _).ag _).ag _
 have N:(((w.alloc (.cells #[zi 0] 3)).alloc (.cells #[.bool false,.string { data:=#[] }] 281)).alloc (.cells #[.slice A n d] 279)).heap.size=w.heap.size + 3:=bE
 obtain ⟨W0,z⟩:=aR (((w.alloc (.cells #[zi 0] 3)).alloc (.cells #[.bool false,.string { data:=#[] }] 281)).alloc (.cells #[.slice A n d] 279))
 rw [z] at X b1 b2 u N ⊢
 clear z
 refine wpIn_rangeFunc_ownH rfl af (gf:=282) (lb:=#[av (w.heap.size + 1 + 1) 0]) rfl trivial (enters_of func282 ay rfl)
  (Dw Fence.wide _ trivial rfl af (w.heap.size + 1 + 1) w.heap.size n d A s hn M.o W0 af (by rw [b2.cell];rfl) (ah.old V u) y) Kb.t (Kb.b af) (Below.refl _ _) (fun _=>rfl)
  (fun pre W=>((Bk W w.heap.size 3 #[zi 0]/\Bk W (w.heap.size + 1) 281 #[.bool false,.string { data:=#[] }])/\Old w W)/\(pre=[]/\w.heap.size + 3<=W.heap.size))
  (fun c pre W=>((∃ x,(pre=[x]/\c=.ret)/\(Bk W w.heap.size 3 #[zi (x.1:Int)]/\Bk W (w.heap.size + 1) 281 #[.bool x.2.1,.string x.2.2]))/\Old w W))
  (OwnFrom.and (OwnFrom.and (OwnFrom.and (Own.from (pJ _ _ (fun _=>_)) _) (Own.from (pJ _ _ (fun _=>_)) _)) (ownFrom_below (dN _) af)) (OwnFrom.and (fun _ _ _ _ h _ _=>h) oo))
  (fun c=>OwnFrom.and (lV fun x=>OwnFrom.and (fun _ _ _ _ h _ _=>h) (OwnFrom.and (Own.from (pJ _ _ (fun _=>_)) _) (Own.from (pJ _ _ (fun _=>_)) _))) (ownFrom_below (dN _) af))
  ⟨⟨⟨X,b1⟩,u⟩,rfl,af⟩
  (fun x O W=>(∃ B,(w.heap.size + 2 < B/\O={ tmps:=#[.slice A n d,undef,av w.heap.size 0,av (w.heap.size + 1) 0,zi (x.1:Int),av B 0,.slice A n d,.func (.func 282) #[] #[av (w.heap.size + 1 + 1) 0],zi (x.1:Int),.agg #[.bool x.2.1,.string x.2.2],undef,undef,undef],defers:=[] })/\Bk W B 281 #[.bool x.2.1,.string x.2.2]))
  (fun x O=>lV fun B=>OwnFrom.and (fun _ _ _ _ h _ _=>h) (Own.from (pJ _ _ (fun _=>_)) _))
  ?assign ?body ?done ?stop
 case assign=>
  rintro l pre x W K ⟨⟨⟨c0,c1⟩,g⟩,rfl,C⟩ m
  gi_wp2
  exact m _ _ ((KeepsOthers.alloc _ _).from _) ((Kb.refl _ _ W).alloc g.size _) ⟨⟨⟨c0.alloc _,c1.alloc _⟩,g.ag _⟩,jR⟩ ⟨W.heap.size,⟨af,rfl⟩,Bk.new W _ _⟩
 case body=>
  rintro l pre x O W L ⟨r,hr⟩ ⟨⟨⟨c0,c1⟩,g⟩,rfl,C⟩ ⟨B,⟨hBx,rfl⟩,Y⟩ hlt
  have P:=c0.cell 0
  have f0:=c0.frozen 0
  have R:=c1.cell 0
  have S:=c1.cell 1
  have f1:=c1.frozen 0
  have f2:=c1.frozen 1
  have e3:=Y.cell 0
  have e4:=Y.cell 1
  simp at P R S e3 e4
  gi_wp2
  gi_region
  all_goals gi_wp2
  all_goals
   refine ⟨((((KeepsOthers.setCell _ _ _).trans (KeepsOthers.setCell _ _ _)).trans (KeepsOthers.setCell _ _ _)).trans (KeepsOthers.drew _)).from _,⟨x,⟨rfl,rfl⟩,?_,?_⟩,?_⟩
   ·exact ((((c0.bH 0 _).far (p:=⟨w.heap.size + 1,0,none⟩) bE _).far (p:=⟨w.heap.size + 1,1,none⟩) bE _)).drew
   ·exact (((c1.far (p:=⟨w.heap.size,0,none⟩) bE _).bH 0 _).bH 1 _).drew
   ·exact (((g.setCell (p:=⟨w.heap.size,0,none⟩) bE _).setCell (p:=⟨w.heap.size + 1,0,none⟩) bE _).setCell (p:=⟨w.heap.size + 1,1,none⟩) bE _).drew
 case done=>
  rintro D ys W hD E ⟨⟨⟨c0,c1⟩,g⟩,i,C⟩ m
  have F:n=0:=by
   rw [E] at i
   have:=lD s n
   rw [i] at this
   simpa using this.symm
  have P:=c0.cell 0
  have f0:=c0.frozen 0
  have R:=c1.cell 0
  have S:=c1.cell 1
  have f1:=c1.frozen 0
  have f2:=c1.frozen 1
  simp at P R S
  have HN:=aa F
  clear E i F
  gi_wp2
  have d0:=(((c0.bH 0 (zi 0)).far (p:=⟨w.heap.size + 1,0,none⟩) bE (.bool false)).far (p:=⟨w.heap.size + 1,1,none⟩) bE (.string { data:=#[] }))
  have d1:=(((c1.far (p:=⟨w.heap.size,0,none⟩) bE (zi 0)).bH 0 (.bool false)).bH 1 (.string { data:=#[] }))
  have j:=(((KeepsOthers.setCell W ⟨w.heap.size,0,none⟩ (zi 0)).trans (KeepsOthers.setCell _ ⟨w.heap.size + 1,0,none⟩ (.bool false))).trans (KeepsOthers.setCell _ ⟨w.heap.size + 1,1,none⟩ (.string { data:=#[] }))).same D _ m rfl
  have T:=((g.setCell (p:=⟨w.heap.size,0,none⟩) bE (zi 0)).setCell (p:=⟨w.heap.size + 1,0,none⟩) bE (.bool false)).setCell (p:=⟨w.heap.size + 1,1,none⟩) bE (.string { data:=#[] })
  refine ⟨bE,.inl ⟨_,_,rfl,run_takeDeferred j,?_⟩⟩
  have G:=(d0.put j rfl (.deferred none)).cell 0
  have H:=(d1.put j rfl (.deferred none)).cell 0
  have I:=(d1.put j rfl (.deferred none)).cell 1
  simp at G H I
  refine ⟨.tuple #[zi 0,.agg #[.bool false,.string { data:=#[] }]],by simp [results,Tryz.f270,go_sem,G,H,I],?_,Old.put T j af _⟩
  obtain rfl:=HN.o
  obtain rfl:s=[]:=List.eq_nil_of_length_eq_zero M.o.symm
  rfl
 case stop=>
  rintro D c pre W hD ⟨k,hk,f⟩ ⟨⟨x,⟨Z,rfl⟩,c0,c1⟩,hB⟩ m
  gi_wp2
  refine ⟨bE,.inl ⟨_,_,rfl,run_takeDeferred m,?_⟩⟩
  have G:=(c0.put m rfl (.deferred none)).cell 0
  have H:=(c1.put m rfl (.deferred none)).cell 0
  have I:=(c1.put m rfl (.deferred none)).cell 1
  simp at G H I
  refine ⟨.tuple #[zi (x.1:Int),.agg #[.bool x.2.1,.string x.2.2]],by simp [results,Tryz.f270,go_sem,G,H,I],?_,Old.put hB m af _⟩
  have U:k=1:=by
   have:=lD s k
   rw [<- f,Z] at this
   simpa using this.symm
  subst U
  rw [Z] at f
  simp [nD] at f
  subst f
  simp [qI,<- M.o]
theorem Jj (A:Option Addr) (n d:Nat) (f:List iF) (g:n<=100000) (h:n=f.length) (w:World) (i:lu w A f) :
 aS 270 #[.slice A n d] w fun e W'=>
  e=.returned (.tuple #[zi (n:Int),.agg #[.bool (qI f).1,.string (qI f).2]])/\Old w W':=
 callsIn_wide.1 (Na A n d f g h w i)
end
section
open Go.RowKit Go.Shelf
attribute [local go_sem] Oper.semAt_some
def Jk (x:Nat×iF):Int:=if x.2.1 then wrap64 (-(x.1:Int)) else (x.1:Int)
def BJ (vs:List iF):List Int:=((nD vs vs.length).map Jk).reverse
theorem Ac (d:List iF):(BJ d).length=d.length:=by simp [BJ,lD]
end
theorem Nb (x:Int) (w:World):aS 251 #[zi x] w fun e w'=>e=.returned (.bool false)/\w=w':=by
 go_enter func251,ntmps251
 go_wp2
 go_ret
 exact ⟨rfl,rfl⟩
theorem Jl (x:Int) (w:World):aS 275 #[zi x] w fun e w'=>e=.returned (.bool false)/\w=w':=by
 go_enter func275,ntmps275
 go_wp2
 go_ret
 exact ⟨rfl,rfl⟩
theorem BK (x y:Int) (b:Bool) (d:decide (x < y)=b) (w:World):aS 274 #[zi x,zi y] w fun e w'=>e=.returned (.bool b)/\w=w':=by
 go_enter func274,ntmps274
 go_wp2_with (go_at_call 251;refine (Nb _ _).mono ?_;rintro e w1 ⟨rfl,rfl⟩)
 go_ret
 exact ⟨rfl,rfl⟩
def mI (ks:List Int) (key:Int) (i:Nat):Prop:=i<=ks.length/\(∀ j,j < i->ks[j]?.getD 0 < key)/\∀ j,i<=j->j < ks.length->key<=ks[j]?.getD 0
theorem vD (A:Option Addr) (n s i:Nat) (ks:List Int) (key:Int) (f:Bool) (u:n=ks.length) (N:n<=100000) (I:mI ks key i) (F:(decide (i < n) && decide (ks[i]?.getD 0=key))=f) (w:World) (G:aP w A ks) :
 aS 268 #[.slice A n s,zi key] w fun e w'=>e=.returned (.tuple #[zi i,.bool f])/\w=w':=by
 obtain ⟨d,p,r⟩:=I
 have J:i<=n:=by rw [u];exact d
 have HL:=aa u
 have y:=aa p
 have z:=aa r
 have H:=aa F
 clear u d p r F
 go_enter func268,ntmps268
 go_wp2
 go_loopw [7,8] (fun B C wr=>∃ h d:Nat,h<=i/\i<=d/\d<=n/\B=zi h/\C=zi d/\w=wr) (fun B C _=>(intOf C - intOf B).toNat)
 case atStart=>exact ⟨0,n,af,af,af,rfl,rfl,rfl⟩
 case round=>
  obtain ⟨h,d,O,P,R,rfl,rfl,rfl⟩:=hrel
  by_cases K:h < d
  ·obtain ⟨b,o,rfl,L,g⟩:=G.at_ (k:=(h + d) / 2) I4
   obtain ⟨x,l⟩:=aR (ks[(h + d) / 2]?.getD 0)
   rw [l] at g
   by_cases D:(h + d) / 2 < i
   ·have E:decide (x < key)=true:=by rw [<- l];exact decide_eq_true (y.o _ D)
    clear l
    go_wp2_with (go_at_call 274;refine (BK _ _ true E _).mono ?_;rintro e w1 ⟨rfl,rfl⟩)
    go_roundw
    case rel=>exact ⟨(h + d) / 2 + 1,d,af,af,af,oP,rfl,trivial⟩
    case measure=>simp [intOf];omega
   ·have E:decide (x < key)=false:=by rw [<- l];exact decide_eq_false (by have:=z.o ((h + d) / 2) (by omega) (by have:=HL.o;omega);omega)
    clear l
    go_wp2_with (go_at_call 274;refine (BK _ _ false E _).mono ?_;rintro e w1 ⟨rfl,rfl⟩)
    go_roundw
    case rel=>exact ⟨h,(h + d) / 2,af,af,af,rfl,oP,trivial⟩
    case measure=>simp [intOf];omega
  ·obtain rfl:h=i:=by omega
   obtain rfl:d=h:=af
   by_cases m:d < n
   ·obtain ⟨b,o,rfl,L,g⟩:=G.at_ (k:=d) I4
    obtain ⟨x,l⟩:=aR (ks[d]?.getD 0)
    rw [l] at g
    have j:=H.o
    rw [l,decide_eq_true m,Bool.true_and] at j
    have M:(x == key)=f:=by rw [<- j];rfl
    clear l j
    cases f
    ·go_wp2_with (go_at_call 275;refine (Jl _ _).mono ?_;rintro e w1 ⟨rfl,rfl⟩)
     go_ret2
     exact ⟨rfl,rfl⟩
    ·go_wp2
     go_ret2
     exact ⟨rfl,rfl⟩
   ·have j:=H.o
    rw [decide_eq_false m,Bool.false_and] at j
    subst j
    go_wp2
    go_ret2
    exact ⟨rfl,rfl⟩
abbrev eB (bs:List Int):List Value:=bs.map (Value.int .u8)
theorem lF:(prog.info? 5).map (fun i=>(i.zero,i.size,i.bytes))=some (some (.int .u8 0),1,1):=ay
def gB (v:Nat):List Int:=if v < 128 then [(v:Int)] else ((v % 128 + 128:Nat):Int) :: gB (v / 128)
decreasing_by omega
theorem lX {v:Nat} (h:v < 128):gB v=[(v:Int)]:=by rw [gB,if_pos h]
theorem qX {v:Nat} (h:¬ v < 128):gB v=((v % 128 + 128:Nat):Int) :: gB (v / 128):=by rw [gB,if_neg h]
theorem uC:∀ (k:Nat) (v:Nat),v < 128 ^ k->1<=k->(gB v).length<=k
 | 1,v,h,_=>by rw [lX (by simpa using h)];simp
 | k + 2,v,h,_=>by
  by_cases d:v < 128
  ·rw [lX d];simp
  ·rw [qX d]
   have:=uC (k + 1) (v / 128) (by rw [Nat.pow_succ] at h;omega) af
   simp only [iR]
   omega
theorem gI (v:Nat) (h:v < 2 ^ 64):(gB v).length<=10:=uC 10 v (iD h aW) af
structure jw (w:World) (g:Nat) (V:Value) (bs:List Int):Prop where
 bk:Bk w g 231 #[V]
 own:w.ownsRow 0 5 1 V bs.length (eB bs)
 ne:V.ownBlock≠some g
def fo (g:Nat) (V:Value) (k:Nat):Prop:=k=g∨V.ownBlock=some k
theorem jw.ZT {w:World} {g:Nat} {V:Value} {e:List Int} (h:jw w g V e) {k:Nat} (d:fo g V k):k < w.heap.size:=by
 rcases d with rfl | d
 ·exact h.bk.lt
 ·exact (h.own.lt k d).2
theorem jw.fr {w w':World} {g:Nat} {V:Value} {d:List Int} {S:Nat->Prop} (h:jw w g V d) (e:Fr S w w') (f:∀ k,fo g V k->¬ S k):jw w' g V d:=
 ⟨h.bk.fr e (f g (.inl rfl)),dh h.own e (fun k i=>f k (.inr i)),h.ne⟩
theorem jw.old {w w':World} {g:Nat} {V:Value} {d:List Int} (h:jw w g V d) (e:Old w w'):jw w' g V d:=h.fr (Fr.aj (S:=fun _=>False) e) (fun _ _ h=>h)
def Wrote (w:World) (g:Nat) (V:Value) (bs:List Int) (w':World):Prop:=
 ∃ V',jw w' g V' bs/\Fr (fo g V) w w'/\∀ k,fo g V' k->fo g V k∨w.heap.size<=k
theorem Wrote.app {w W1 r:World} {g:Nat} {V V':Value} {j cs:List Int} (h:jw w g V j) (l:Old w W1) (m:fZ W1 0 5 1 V (j ++ cs).length (eB (j ++ cs)) V' r):Wrote w g V (j ++ cs) (r.setCell ⟨g,0,none⟩ V'):=by
 have s:=(h.bk.old l).lt
 have f:∀ k,V'.ownBlock=some k->V.ownBlock=some k∨W1.heap.size<=k:=fun k d=>by
  rcases m.2.2 with e | e
  ·left;rw [<- e];exact d
  ·right;rw [d] at e;injection e with e;omega
 have i:V'.ownBlock≠some g:=fun e=>by
  rcases f g e with e | e
  ·exact h.ne e
  ·omega
 have n:=m.bk (h.bk.old l) h.ne
 refine ⟨V',⟨?_,bz (p:=⟨g,0,none⟩) m.own i V',i⟩,?_,fun k d=>?_⟩
 ·have:=n.bH 0 V'
  simpa using this
 ·exact Fr.setCell (p:=⟨g,0,none⟩) ((Fr.aj l).trans (m.fr fun k _ d=>.inr d)) (.inr (.inl rfl)) _
 ·rcases d with rfl | d
  ·exact .inl (.inl rfl)
  ·rcases f k d with e | e
   ·exact .inl (.inr e)
   ·exact .inr (ic l.size e)
theorem Vf (cs:List Int) (x:Int):(cs ++ [x]).length=cs.length + 1:=bE
theorem Vg (cs:List Int) (x:Int):eB (cs ++ [x])=eB cs ++ [.int .u8 x]:=by simp [eB]
theorem Vh (u:Nat):bits BinOp.or IntKind.u8 ((u:Int) % 256) 128=((u % 128 + 128:Nat):Int):=by
 have h:∀ n:Fin 256,bits BinOp.or IntKind.u8 (n.val:Int) 128=((n.val % 128 + 128:Nat):Int):=iV
 have:=h ⟨u % 256,af⟩
 simp only at this
 rw [show ((u % 256:Nat):Int)=(u:Int) % 256 by omega] at this
 rw [this]
 omega
theorem pK {w:World} {g:Nat} {t:TypeId} {v:Value} (h:Bk w g t #[v]):w.cell? ⟨g,0,none⟩=some v/\w.frozen? ⟨g,0,none⟩=false:=⟨h.cell 0,h.frozen 0⟩
theorem Wrote.from_ {w W w':World} {g:Nat} {V V':Value} {cs:List Int} (k:Wrote W g V' cs w') (d:Fr (fo g V) w W) (e:∀ k,fo g V' k->fo g V k∨w.heap.size<=k):Wrote w g V cs w':=by
 obtain ⟨i,j,f2,l⟩:=k
 refine ⟨i,j,Fr.trans' d f2 (fun k f h=>(e k h).resolve_right af),fun k f=>?_⟩
 rcases l k f with h | h
 ·exact e k h
 ·exact .inr (ic d.size h)
theorem I5 (g v:Nat) (V:Value) (l:List Int) (X:l.length<=10000000) (N:v < 18446744073709551616) (w:World) (h:jw w g V l) :
 aS 167 #[av g 0,.int .u64 v] w fun e w'=>e=.returned (.tuple #[])/\Wrote w g V (l ++ gB v) w':=by
 obtain ⟨i0,I,p,r,s⟩:=info_parts lF
 go_enter func167,ntmps167
 go_wp2
 go_loopw [1] (fun i wr=>∃ (u:Nat) (E:Value) (cs:List Int),i=.int .u64 u/\u<=v/\jw wr g E cs/\Fr (fo g V) w wr/\(∀ k,fo g E k->fo g V k∨w.heap.size<=k)/\cs ++ gB u=l ++ gB v) (fun i _=>(intOf i).toNat)
 case atStart=>exact ⟨v,V,l,rfl,dN _,h,Fr.refl _ _,fun _ h=>.inl h,rfl⟩
 case round=>
  obtain ⟨u,E,cs,rfl,Y,d,F,f,y⟩:=hrel
  have O:cs.length<=10000010:=by
   have P:=congrArg List.length y
   simp only [ja] at P
   have:=gI v N
   omega
  obtain ⟨A,c,rfl,Z,hA⟩:=bI d.own
  have c0:=d.bk.cell 0
  have f0:=d.bk.frozen 0
  have j:=d.own
  have R:=d.bk.lt
  have m:=aa d
  have J:=aa F
  have K:=aa f
  simp only [List.size_toArray,iR,jV,Nat.reduceAdd,Nat.zero_lt_succ,getElem?_pos,List.getElem_toArray,List.getElem_cons_zero] at c0
  by_cases z:u < 128
  ·have D:=aa (y▸congrArg (cs ++ ·) (lX z).symm:cs ++ [(u:Int)]=l ++ gB v)
   clear y d F f
   have B:¬ (128:Int)<=(u:Int):=af
   have hw:IntKind.u8.wrap (u:Int)=u:=by simp [IntKind.wrap_u8];omega
   go_wp2_with (at_builtin;refine bT _ rfl (.tmp 26) (.tmp 29) 65 rfl 0 5 i0 (.int .u8 0) 1 1 underlying65 I p r s rfl aW _ _ _ rfl (j.alloc _) (some ⟨wr.heap.size,0,none⟩) 1 1 [.int .u8 (u:Int)] rfl rfl (cz (Bk.new wr 5 #[.int .u8 (u:Int)])) tC qy af bE _ rfl _ rfl ?_;intro A2 c2 S n;obtain ⟨T,y1⟩:=pK (n.bk (m.o.bk.alloc _) m.o.ne))
   go_end0
   have this:=Wrote.app m.o ((Old.refl' wr).ag _) (cs:=[(u:Int)]) (by rw [Vf,Vg];exact n)
   rw [D.o] at this
   exact ⟨rfl,this.from_ J.o K.o⟩
  ·have D:=aa (y▸congrArg (cs ++ ·) (qX z).symm:cs ++ (((u % 128 + 128:Nat):Int) :: gB (u / 128))=l ++ gB v)
   clear y d F f
   have B:(128:Int)<=(u:Int):=af
   have U:bits BinOp.or IntKind.u8 ((u:Int) % 256) 128=((u % 128 + 128:Nat):Int):=Vh u
   obtain ⟨x,C⟩:∃ x:Int,((u % 128 + 128:Nat):Int)=x:=⟨_,rfl⟩
   rw [C] at U D
   clear C
   go_wp2_with (at_builtin;refine bT _ rfl (.tmp 14) (.tmp 18) 65 rfl 0 5 i0 (.int .u8 0) 1 1 underlying65 I p r s rfl aW _ _ _ rfl (j.alloc _) (some ⟨wr.heap.size,0,none⟩) 1 1 [.int .u8 x] rfl rfl (cz (Bk.new wr 5 #[.int .u8 x])) tC qy af bE _ rfl _ rfl ?_;intro A2 c2 S n;obtain ⟨T,y1⟩:=pK (n.bk (m.o.bk.alloc _) m.o.ne))
   have this:=(Wrote.app m.o ((Old.refl' wr).ag (.cells #[.int .u8 x] 5)) (cs:=[x]) (by rw [Vf,Vg];exact n)).from_ J.o K.o
   obtain ⟨V',L,M,n'⟩:=this
   have W:=aa L
   have G:=aa M
   have H:=aa n'
   clear L M n' n
   go_roundw
   case rel=>exact ⟨u / 128,V',cs ++ [x],oP,af,W.o,G.o,H.o,by rw [MI];exact D.o⟩
   case measure=>simp [intOf];omega
def numsOf (d:ByteArray):List Int:=d.data.toList.map fun c=>(c.toNat:Int)
theorem Vi (g:Nat) (b:Bool) (V:Value) (d:List Int) (j:d.length<=10000000) (w:World) (h:jw w g V d) :
 aS 145 #[av g 0,.bool b] w fun e w'=>e=.returned (.tuple #[])/\Wrote w g V (d ++ [if b then 1 else 0]) w':=by
 have i:=aa (fun (v:Nat) (k:v < 128)=>lX k▸I5 g v V d j af w h)
 cases b
 ·go_enter func145,ntmps145
  go_wp2_with (go_at_call 167;refine (i.o 0 af).mono ?_;rintro e w1 ⟨rfl,f⟩)
  go_end0
  exact ⟨rfl,f⟩
 ·go_enter func145,ntmps145
  go_wp2_with (go_at_call 167;refine (i.o 1 af).mono ?_;rintro e w1 ⟨rfl,f⟩)
  go_end0
  exact ⟨rfl,f⟩
section
open Go.RowKit Go.Lib
theorem Jm {P:Program} (w:World) (base:Nat) (t u ty e:TypeId) (i:TypeInfo) (B:P.underlying t=some (.slice e)) (C:P.underlying u=some .string) (D:P.info? e=some i) (F:i.zero=some (.int .u8 0))
 (d:i.size=1) (l:i.bytes=1) (v:Value) (n:Nat) (xs:List Value) (f:w.ownsRow base e 1 v n xs) (s:ByteArray)
 (z:n + s.size<=maxLen) (k:n + s.size<=140737488355328) (m:base<=w.heap.size) :
 ∃ v' w',(Builtin.append_ #[t,u] ty #[v,.string s]).run P w=.ok v' w'/\fZ w base e 1 v (n + s.size) (xs ++ strCells s) v' w':=by
 obtain ⟨v',w',p,K,L,h4⟩:=run_append_own_string (P:=P) w base t u ty e i B C D F d l v n xs f s z k m
 refine ⟨v',w',p,K,L,?_⟩
 have E:n + s.size<=9223372036854775807:=by simp only [maxLen] at z;omega
 rcases f.2 with ⟨rfl,rfl⟩ | ⟨g,r,G,rfl,M,N,O,R,H,I⟩
 ·by_cases S:s.size=0
  ·have:=h4.2 ⟨rfl,S⟩
   subst this
   exact .inl rfl
  ·have h:=run_append_nil_string (P:=P) w t u ty e i (.int .u8 0) B C D F s af af (by rw [l];omega)
   rw [h] at p
   injection p with A _
   subst A
   exact .inr rfl
 ·by_cases x:n + s.size<=r
  ·have h:=run_append_room_string (P:=P) w t u ty e i B C D d g n r G N s x (by rw [Nat.mul_one] at H;omega)
   rw [h] at p
   injection p with A _
   subst A
   exact .inl rfl
  ·have J:xs.length=n:=by simpa using f.1
   have y:∀ j u,xs[j]?=some u->w.cell? ((⟨g,0,none⟩:Addr).add j)=some u:=f.cells (g:=g) rfl
   have h:=run_append_grow_string (P:=P) w t u ty e i (.int .u8 0) B C D F ⟨g,0,none⟩ n r xs (by rw [d];simpa using J) y s af af (by rw [l];exact growslice_fits (by omega) (by omega))
   rw [h] at p
   injection p with A _
   subst A
   exact .inr rfl
theorem BL {P:Program} {w:World} {ops:Array Oper} {rest:List Oper} {o:Oper} {a:Act} {Q:Exit->Act->World->Prop} (l:o.guard=none) (sl x:Operand) (t u:TypeId)
 (z:o.op=.call { callee:=.builtin .append,args:=#[sl,x],argTypes:=#[t,u] })
 (base:Nat) (e:TypeId) (i:TypeInfo) (A:P.underlying t=some (.slice e)) (B:P.underlying u=some .string) (C:P.info? e=some i) (D:i.zero=some (.int .u8 0))
 (f:i.size=1) (m:i.bytes=1)
 (v:Value) (n:Nat) (xs:List Value) (E:a.eval sl=v) (j:w.ownsRow base e 1 v n xs) (s:ByteArray) (F:a.eval x=.string s)
 (p:n + s.size<=maxLen) (d:n + s.size<=140737488355328) (g:base<=w.heap.size) (N:Nat) (G:n + s.size=N) (r:List Value) (hy:xs ++ strCells s=r)
 (h:∀ A' k w',fZ w base e 1 v N r (.slice A' N k) w'->wpList P ops Q rest (a.put o.dst (.slice A' N k)) w'):wpList P ops Q (o :: rest) a w:=by
 subst G hy
 refine wpList_plain l fun K H=>?_
 obtain ⟨v',w',I,y⟩:=Jm (P:=P) w base t u o.type e i A B C D f m v n xs j s p d g
 obtain ⟨A',k,rfl,_⟩:=bI y.1
 unfold Oper.wp execOp
 simp only [z,resolve,invoke,builtin,Sem.run_bind,Sem.run_pure,Result.andThen_ok,List.map_toArray,BB,IV,E,F,I]
 exact H _ _ (h A' k w' y)
end
section
open Go.RowKit Go.Lib
theorem yt (d:ByteArray):strCells d=eB (numsOf d):=by simp [strCells,eB,numsOf]
theorem numsOf_length (d:ByteArray):(numsOf d).length=d.size:=by rw [numsOf,List.length_map,Array.length_toList];rfl
def jD (d:ByteArray):List Int:=gB d.size ++ numsOf d
def oU (b:Bool):List Int:=[if b then 1 else 0]
theorem Ad {w:World} {A:Option Addr} {d:List Int} (n c:Nat) (e:d.length=n) (h:ah w A (eB d)):(convert 65 9 (.slice A n c)).run prog w=.ok (.string (strOfNums d)) w:=by
 by_cases f:d=[]
 ·subst f
  simp at e
  subst e
  rw [run_convert_bytes_string w 65 9 5 A 0 c underlying65 underlying5 underlying9]
  cases A with
  | none=>rfl
  | some a=>simp [Conv.bytesToString,strOfNums,loadCells,loadCellsFrom];rfl
 ·obtain ⟨b,o,rfl,j,g⟩:=h (by simpa using f)
  refine run_convert_bytes_arg w 65 5 underlying65 underlying5 b o n c d e (fun i k=>g i _ ?_) 9 underlying9
  rw [List.getElem?_map,gG af,List.getD_eq_getElem?_getD,gG af]
  rfl
theorem Ae (g:Nat) (d:ByteArray) (V:Value) (f:List Int) (F:f.length<=9000000) (hd:d.size<=100000) (w:World) (h:jw w g V f) :
 aS 148 #[av g 0,.string d] w fun e w'=>e=.returned (.tuple #[])/\Wrote w g V (f ++ jD d) w':=by
 obtain ⟨i0,x,l,m,n⟩:=info_parts lF
 have y:=aa (I5 g d.size V f af af w h)
 have z:=gI d.size af
 go_enter func148,ntmps148
 go_wp2_with fail
 refine y.o.mono ?_
 rintro e w1 ⟨rfl,G,i,f1,s⟩
 have p:(f ++ gB d.size).length<=9000010:=by rw [ja];omega
 obtain ⟨cs,j⟩:=aR (f ++ gB d.size)
 have B:=aa j
 rw [j] at i p
 clear j
 obtain ⟨A,c,rfl,H,I⟩:=bI i.own
 obtain ⟨c0,f0⟩:=pK i.bk
 have k:=i.own
 have C:=i.bk.lt
 have r:=aa i
 have D:=aa f1
 have E:=aa s
 clear i f1 s
 go_wp2_with (at_builtin;refine BL rfl (.tmp 15) (.tmp 16) 65 9 rfl 0 5 i0 underlying65 underlying9 x l m n _ _ _ rfl k d rfl qy af bE _ rfl _ rfl ?_;intro A2 c2 J u;obtain ⟨K,y1⟩:=pK (u.bk r.o.bk r.o.ne))
 go_end0
 have this:=(Wrote.app r.o (Old.refl' w1) (cs:=numsOf d) (by rw [ja,numsOf_length,show eB (cs ++ numsOf d)=eB cs ++ strCells d by rw [yt];simp [eB]];exact u)).from_ D.o E.o
 have e:cs ++ numsOf d=f ++ jD d:=by rw [<- B.o];simp [jD]
 rw [e] at this
 exact ⟨rfl,this⟩
theorem Af (g n:Nat) (V:Value) (i:List Int) (j:i.length=n) (E:n<=10000000) (w:World) (h:jw w g V i) :
 aS 149 #[g] w fun e w'=>∃ A c,e=.returned (.slice A n c)/\w'.ownsRow w.heap.size 5 1 (.slice A n c) n (eB i)/\Old w w':=by
 obtain ⟨i0,u,l,m,p⟩:=info_parts lF
 have f:=h.bk
 have d:=h.own
 obtain ⟨A,c,rfl,x,y⟩:=bI d
 obtain ⟨c0,f0⟩:=pK f
 have r:ah w A (eB i):=ah.bA d
 have z:=f.lt
 have B:=aa j
 rw [j] at c0
 clear h d x y j f
 go_enter func149,ntmps149
 go_wp2_with (at_builtin;refine bT _ rfl (.tmp 5) (.tmp 9) 65 rfl w.heap.size 5 i0 (.int .u8 0) 1 1 underlying65 u l m p rfl aW (.slice (some ⟨w.heap.size,0,none⟩) 0 0) 0 [] rfl (World.ownsRow_made w #[] 0 (dN _) aW rfl) A n c (eB i) rfl (by simp [B.o]) (ah.alloc r _) tC qy af bE n (mE _) (eB i) (qz _) ?_;intro A' C w1 s)
 go_ret
 exact ⟨A',C,rfl,s.own,s.old ((Old.refl' w).ag _) (fun k D=>by simp [Value.ownBlock] at D;omega)⟩
end
structure Rd where
 b:List Int
 wrong:Bool
def Dk (most:Nat):Nat->Nat->List Int->Option (Nat×List Int)
 | _,_,[]=>none
 | i,v,c :: r=>if i=9/\c > 1 then none else
  let v:=v + (c.toNat % 128) * 2 ^ (7 * i)
  if c≥128 then Dk most (i + 1) v r else if c=0/\i > 0∨v > most then none else some (v,r)
def Rd.num (most:Nat) (r:Rd):Nat×Rd:=if r.wrong then (0,r) else match Dk most 0 0 r.b with
 | some (v,b)=>(v,⟨b,false⟩)
 | none=>(0,⟨r.b,true⟩)
def Rd.text (most:Nat) (r:Rd):List Int×Rd:=
 let (n,r):=r.num most
 if r.wrong then ([],r) else if n > r.b.length then ([],⟨r.b,true⟩) else (r.b.take n,⟨r.b.drop n,false⟩)
def Rd.yes (r:Rd):Bool×Rd:=let (n,r):=r.num 1;(n == 1,r)
def Rd.end_ (r:Rd):Int:=if r.wrong then 2 else if r.b.length > 0 then 9 else 0
def iA (l:List Int):ByteArray:=⟨(l.map fun c=>UInt8.ofNat c.toNat).toArray⟩
def yu (l:List Int):List Int:=gB l.length ++ l
def qB:Nat->Nat->Nat
 | 0,c=>c
 | n + 1,c=>qB n ((c >>> 1) ^^^ (if c % 2=1 then 0xEDB88320 else 0))
def BM (l:List Int):Nat:=l.foldl (fun c x=>(c >>> 8) ^^^ qB 8 ((c ^^^ x.toNat) % 256)) 0xFFFFFFFF
def crc (l:List Int):Nat:=0xFFFFFFFF ^^^ BM l
structure bB where
 b:List Int
 synced:Nat
def bB.new:bB:=⟨[],0⟩
def bB.app (d:bB) (l:List Int):bB:=⟨d.b ++ l,d.synced⟩
def bB.sync (d:bB):bB:=⟨d.b,d.b.length⟩
def bB.cut (d:bB) (n:Nat):bB:=if n<=d.b.length then ⟨d.b.take n,n⟩ else d
def bB.Vj (d:bB) (keep:Int):bB:=d.cut (d.synced + min keep.toNat (d.b.length - d.synced))
def frame (l:List Int):Option (List Int):=if l.length < 1∨l.length > 4096 then none else
 let n:=l.length
 let c:=crc l
 some (([(n >>> 8) % 256,n % 256,(c >>> 24) % 256,(c >>> 16) % 256,(c >>> 8) % 256,c % 256].map Int.ofNat) ++ l)
def Ff:Nat->Nat->List Int->List (List Int)×Nat
 | 0,at_,_=>([],at_)
 | f + 1,at_,b=>
  if b.length > 6 then
   let n:=((b[0]?.getD 0).toNat <<< 8) + (b[1]?.getD 0).toNat
   if n > 4096∨n + 6 > b.length then ([],at_) else
   let x:=(b.drop 6).take n
   if frame x=some (b.take (6 + n)) then let (l,e):=Ff f (at_ + 6 + n) (b.drop (6 + n));(x :: l,e) else ([],at_)
  else ([],at_)
def Vk (b:List Int):List (List Int)×Nat:=Ff b.length 0 b
def jE (d:bB):List (List Int)×bB:=let (l,e):=Vk d.b;(l,d.cut e)
def bB.put (d:bB) (kind:Int) (l:List Int):bB:=((match frame (kind :: l) with
 | some f=>d.app f
 | none=>d)).sync
structure bU where
 round:Int
 node:Int
deriving DecidableEq
def bU.zero:bU:=⟨0,0⟩
def bU.may (b:bU):Bool:=decide (0<=b.round) && decide (b.round<=1099511627776) && decide (0<=b.node) && decide (b.node < 5)
def bU.lt (a b:bU):Bool:=decide (a.round < b.round) || (decide (a.round=b.round) && decide (a.node < b.node))
def bU.next (b:bU) (node:Int):Option bU:=if b.may then
 let o:bU:=⟨b.round,node⟩
 let o:bU:=if o=b∨o.lt b=true then ⟨b.round + 1,node⟩ else o
 if o.may then some o else none
 else none
def bU.bytes (b:bU):List Int:=gB b.round.toNat ++ gB b.node.toNat
def Rd.Nc (r:Rd):bU×Rd:=
 let (n,r):=r.num 1099511627776
 let (k,r):=r.num 4
 (⟨n,k⟩,r)
structure bC where
 az:Int
 nodes:List Int
deriving DecidableEq
def bC.zero:bC:=⟨0,[]⟩
def nE:List Int->Bool
 | []=>true
 | x :: l=>!(l.contains x) && nE l
def bC.may (c:bC):Bool:=decide (0<=c.az) && decide (c.az<=1073741824) && decide (1<=c.nodes.length) && decide (c.nodes.length<=5) && c.nodes.all (fun n=>decide (0<=n) && decide (n<=4)) && nE c.nodes
def bC.put (c:bC):Option (List Int):=if c.may then some (gB c.az.toNat ++ gB c.nodes.length ++ c.nodes.flatMap fun n=>gB n.toNat) else none
def bC.bytes (c:bC):List Int:=c.put.getD []
def Rd.nums (most:Nat):Nat->Rd->List Int×Rd
 | 0,r=>([],r)
 | k + 1,r=>let (n,r):=r.num most;let (l,r):=Rd.nums most k r;((n:Int) :: l,r)
def fF (b:List Int):Option bC:=
 let r:Rd:=⟨b,false⟩
 let (e,r):=r.num 1073741824
 let (n,r):=r.num 5
 let (l,r):=r.nums 5 n
 let c:bC:=⟨e,l⟩
 if r.end_=0/\c.may=true then some c else none
def bC.fits (c:bC) (n:Nat):Bool:=c.nodes.all fun x=>decide (0<=x) && decide (x < n)
def dO (n:Nat):bC:=⟨1,(List.range n).map Int.ofNat⟩
def BN (a:List Int):Nat->Nat->List Int->Option Nat
 | _,kept,[]=>some kept
 | at_,kept,x :: l=>match a.idxOf? x with
  | none=>if l=[] then some kept else none
  | some k=>if k < at_ then none else BN a (k + 1) (kept + 1) l
def bC.next (a b:bC) (n:Nat):Bool:=a.may && b.may && a.fits n && b.fits n && decide (b.az=a.az + 1) && (match BN a.nodes 0 0 b.nodes with | some k=>decide (0 < k) | none=>false)
def bC.has (c:bC) (n:Int):Bool:=c.nodes.contains n
def bC.head (c:bC):Int:=c.nodes.head?.getD (-1)
def bC.tail (c:bC):Int:=c.nodes.getLast?.getD (-1)
def bC.beside (c:bC) (n by_:Int):Int:=match c.nodes.idxOf? n with
 | none=>-1
 | some k=>if (k:Int) + by_ < 0 then -1 else (c.nodes[((k:Int) + by_).toNat]?).getD (-1)
def bC.above (c:bC) (n:Int):Int:=c.beside n (-1)
def bC.below (c:bC) (n:Int):Int:=c.beside n 1
def bC.ok (c:bC):Option bC:=if c.may then some c else none
def bC.without (c:bC) (gone:List Int):Option bC:=if c.may then bC.ok ⟨c.az + 1,c.nodes.filter fun n=>!(gone.contains n)⟩ else none
def bC.with_ (c:bC) (n:Int):Option bC:=if c.may then bC.ok ⟨c.az + 1,c.nodes ++ [n]⟩ else none
structure oM where
 promised:bU
 accepted:bU
 has:Bool
 chain:bC
def oM.zero:oM:=⟨.zero,.zero,false,.zero⟩
structure dY where
 n:Nat
 known:bC
 bN:oM
def dY.new (n:Nat):dY:=⟨n,dO n,.zero⟩
def dY.Jn (a:dY) (az:Int) (b:bU):Int:=if !b.may then 1 else if az<=a.known.az then 7 else if az≠a.known.az + 1 then 4 else if b.lt a.bN.promised then 7 else 0
def dY.Gx (a:dY) (az:Int) (b:bU):dY:=if a.Jn az b=0 then { a with bN:={ a.bN with promised:=b } } else a
def dY.Nf (a:dY) (c:bC) (b:bU) (tL:Bool):Int:=if !b.may || !c.may then 1 else if c.az<=a.known.az then 7 else if c.az≠a.known.az + 1 then 4 else if !(a.known.next c a.n) then 1 else if b.lt a.bN.promised then 7 else if tL then 8 else 0
def dY.acc (a:dY) (c:bC) (b:bU) (tL:Bool):dY:=if a.Nf c b tL=0 then { a with bN:=⟨b,b,true,c⟩ } else a
def dY.Dx (a:dY) (c:bC):Int:=if !c.may || !(c.fits a.n) then 1 else if c.az<=a.known.az then 7 else 0
def dY.lY (a:dY) (c:bC):dY:=if a.Dx c=0 then ⟨a.n,c,.zero⟩ else a
def dY.bytes (a:dY):List Int:=yu a.known.bytes ++ a.bN.promised.bytes ++ oU a.bN.has ++ (if a.bN.has then a.bN.accepted.bytes ++ yu a.bN.chain.bytes else [])
def Fg (n:Nat) (b:List Int):Option dY:=
 let r:Rd:=⟨b,false⟩
 let (t,r):=r.text b.length
 let k:=fF t
 let known:=k.getD .zero
 let (p,r):=r.Nc
 let ok:=k.isSome && known.fits n
 let (has,r):=r.yes
 if has then
  let (x,r):=r.Nc
  let (t,r):=r.text b.length
  let c:=fF t
  if (ok && c.isSome && known.next (c.getD .zero) n && !(p.lt x))=true/\r.end_=0 then some ⟨n,known,⟨p,x,true,c.getD .zero⟩⟩ else none
 else if ok=true/\r.end_=0 then some ⟨n,known,⟨p,.zero,false,.zero⟩⟩ else none
def uD (n:Nat):Nat:=n / 2 + 1
structure jF where
 n:Nat
 b:bU
 c:bC
 promised:List Int
 said:List Int
 best:Option (bU×bC)
def jF.Jo (t:jF) (node:Int) (v:oM):Bool:=decide (0<=node) && decide (node < t.n) && decide (v.promised=t.b) && (!v.has || (v.accepted.may && v.chain.may && decide (v.chain.az=t.c.az))) && !(t.promised.contains node)
def jF.prom (t:jF) (node:Int) (v:oM):jF:=if t.Jo node v then
 { t with promised:=t.promised ++ [node],best:=if v.has then (match t.best with
  | none=>some (v.accepted,v.chain)
  | some (b,c)=>if b.lt v.accepted then some (v.accepted,v.chain) else some (b,c)) else t.best } else t
def jF.ready (t:jF):Bool:=decide (uD t.n<=t.promised.length)
def jF.chain (t:jF):bC:=(t.best.map (·.2)).getD t.c
def jF.Ru (t:jF) (node:Int):Bool:=t.ready && decide (0<=node) && decide (node < t.n) && !(t.said.contains node)
def jF.yes (t:jF) (node:Int):jF:=if t.Ru node then { t with said:=t.said ++ [node] } else t
def jF.done (t:jF):Bool:=decide (uD t.n<=t.said.length)
structure Ag where
 n:Nat
 gJ:Int
 till:List Int
def Ag.new (n:Nat) (now:Int):Ag:=⟨n,now,(List.range 5).map fun i=>if i < n then now + 50 else 0⟩
def Ag.uE (g:Ag) (now node:Int):Bool:=decide (0<=node) && decide (node < g.n) && decide (g.gJ<=now) && decide (now<=1099511627776)
def Ag.give (g:Ag) (now node:Int):Ag:=if g.uE now node then { g with till:=g.till.set node.toNat (max (g.till[node.toNat]?.getD 0) (now + 50)) } else g
def Ag.tL (g:Ag) (now:Int) (a b:bC):Bool:=a.nodes.any fun x=>!(b.has x) && decide (0<=x) && decide (x < g.n) && decide (now < g.till[x.toNat]?.getD 0)
structure uU where
 id:Int
 asked:Int
 az:Int
 told:List Bool
structure kV where
 n:Nat
 row:List uU
def kV.last (h:kV):uU:=h.row.getLast?.getD ⟨0,0,0,[]⟩
def kV.mV (h:kV) (now az:Int):Int:=if now < h.last.asked∨now < 0∨1099511627776 < now∨az < 1∨1073741824 < az then -1 else h.last.id + 1
def kV.ask (h:kV) (now az:Int):kV:=if h.mV now az < 0 then h else
 let l:=h.row ++ [⟨h.last.id + 1,now,az,List.replicate 5 false⟩]
 ⟨h.n,if 4 < l.length then l.drop 1 else l⟩
def nG (id node az:Int):List uU->List uU
 | []=>[]
 | x :: l=>if x.id=id/\x.az=az then { x with told:=x.told.set node.toNat true } :: l else x :: nG id node az l
def kV.told (h:kV) (id node:Int):kV:=if 0<=node/\node < h.n then ⟨h.n,nG id node h.last.az h.row⟩ else h
def kV.valid (h:kV) (now az:Int):Bool:=h.row.any fun x=>decide (x.az=az) && decide (uD h.n<=x.told.count true) && decide (x.asked<=now) && decide (now - x.asked < 20)
structure Dl where
 n:Nat
 self:Int
 heard:List Int
def Dl.new (n:Nat) (self now:Int):Dl:=⟨n,self,(List.range 5).map fun i=>if i < n then now else 0⟩
def Dl.hear (w:Dl) (now node:Int):Dl:=if 0<=node/\node < w.n then { w with heard:=w.heard.set node.toNat (max (w.heard[node.toNat]?.getD 0) now) } else w
def Dl.there (w:Dl) (now node:Int):Bool:=decide (0<=node) && decide (node < w.n) && (decide (node=w.self) || decide (now<=w.heard[node.toNat]?.getD 0) || decide (now - w.heard[node.toNat]?.getD 0 < 12))
def bX (l:List Int):List Int:=l.flatMap fun n=>gB n.toNat
end Go.Proofs.YthihpfpbiajddaaGreat
