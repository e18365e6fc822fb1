/- Parts of the proof. -/
import Derived.Test.YthihpfpbiajddaaGreatHQWorldNobody3
import Derived.Test.YthihpfpbiajddaaGreatHQWorldNobody5
import Derived.Laws.CopyOwn
import Derived.Laws.Externs
import Derived.Lib.Overlaps
import Derived.Lib.AppendZeros
import Derived.Lib.AppendZerosOnto
set_option maxRecDepth 100000
set_option maxHeartbeats 8000000
open Go.Proofs.Tryz
namespace Go.Proofs.YthihpfpbiajddaaGreat
open Go.RowKit
theorem uF (A:Option Addr) (n d:Nat) (bs:List Int) (r:n<=70000000000000) (m:n=bs.length) (w:World) (hV:ah w A (eB bs)) :
 aS 106 #[.slice A n d] w fun e w'=>
  ∃ A' f,e=.returned (.slice A' n f)/\w'.ownsRow w.heap.size 5 1 (.slice A' n f) n (eB bs)/\Old w w':=by
 have HL:=aa m
 clear m
 obtain ⟨i0,g,h,i,j⟩:=info_parts lF
 cases A with
 | none=>
  have h0:n=0:=UU
  subst h0
  have l:bs=[]:=List.eq_nil_of_length_eq_zero HL.o.symm
  subst l
  have heq:=Lib.run_eql_slice_nil (P:=prog) w 65 5 none 0 d 0 0 underlying65
  go_enter func106,ntmps106
  go_wp2
  go_ret
  exact ⟨_,_,rfl,World.ownsRow_nil _ _ _ _,Old.refl' w⟩
 | some ad=>
  have heq:=Lib.run_eql_slice_nil (P:=prog) w 65 5 (some ad) n d 0 0 underlying65
  go_enter func106,ntmps106
  go_wp2_with (at_builtin;refine bT _ rfl (.tmp 5) (.tmp 6) 65 rfl w.heap.size 5 i0 (.int .u8 0) 1 1 underlying65 g h i j rfl aW (.slice (some ⟨w.heap.size,0,none⟩) 0 0) 0 [] rfl (World.ownsRow_made w #[] 0 (dN _) aW rfl) (some ad) n d (eB bs) rfl (by simp [HL.o]) (ah.alloc hV _) tC qy af bE n (mE _) (eB bs) (qz _) ?_;intro A' f w1 h1)
  go_ret
  exact ⟨A',f,rfl,h1.own,h1.old ((Old.refl' w).ag _) (by intro k p;simp [Value.ownBlock] at p;omega)⟩
structure fA (w:World) (F:Nat->Prop) (g:Nat) (d:bB):Prop where
 ex:∃ A c,Bk w g 171 #[.slice A d.b.length c,zi d.synced]/\w.ownsRow 0 5 1 (.slice A d.b.length c) d.b.length (eB d.b)/\∀ k,(Value.slice A d.b.length c).ownBlock=some k->F k
 gF:F g
 lt:∀ k,F k->k < w.heap.size
theorem fA.fr {w w':World} {F S:Nat->Prop} {g:Nat} {d:bB} (h:fA w F g d) (e:Fr S w w') (i:∀ k,F k->¬ S k):fA w' F g d:=by
 obtain ⟨A,c,l,m,j⟩:=h.ex
 exact ⟨⟨A,c,l.fr e (i g h.gF),dh m e (fun k f=>i k (j k f)),j⟩,h.gF,fun k f=>iD (h.lt k f) e.size⟩
theorem fA.old {w w':World} {F:Nat->Prop} {g:Nat} {d:bB} (h:fA w F g d) (e:Old w w'):fA w' F g d:=h.fr (S:=fun _=>False) (Fr.aj e) (fun _ _ h=>h)
theorem fA.mono {w:World} {F F':Nat->Prop} {g:Nat} {d:bB} (h:fA w F g d) (e:∀ k,F k->F' k) (f:∀ k,F' k->k < w.heap.size):fA w F' g d:=by
 obtain ⟨A,c,i,j,l⟩:=h.ex
 exact ⟨⟨A,c,i,j,fun k m=>e k (l k m)⟩,e g h.gF,f⟩
def jH (w:World) (F F':Nat->Prop):Prop:=∀ k,F' k->F k∨w.heap.size<=k
theorem ZU (w:World):aS 52 #[] w fun e w'=>e=.returned (av w.heap.size 0)/\fA w' (fun k=>k=w.heap.size) w.heap.size .new/\Old w w':=by
 have d:=aa (show fA (w.alloc (.cells #[aQ,zi 0] 171)) (fun k=>k=w.heap.size) w.heap.size .new from
  ⟨⟨none,0,Bk.new w _ _,World.ownsRow_nil _ _ _ _,fun k f=>by simp [Value.ownBlock] at f⟩,rfl,fun k f=>by subst f;simp⟩)
 go_enter func52,ntmps52
 go_wp2
 go_ret
 exact ⟨rfl,d.o,(Old.refl' w).ag _⟩
theorem Np (g:Nat) (F:Nat->Prop) (z:bB) (B:Option Addr) (m N:Nat) (f:List Int) (E:f.length=m) (T:z.b.length + m<=70368744177664) (w:World) (h:fA w F g z) (U:ah w B (eB f)) :
 aS 261 #[g,.slice B m N] w fun e w'=>e=.returned (.tuple #[])/\(∃ F',fA w' F' g (z.app f)/\jH w F F')/\Fr F w w':=by
 obtain ⟨V,G,s,u,x⟩:=info_parts lF
 obtain ⟨A,c,j,H,C⟩:=h.ex
 have r:=h.gF
 have I:=h.lt
 obtain ⟨b,O⟩:=z
 simp only [bB.app] at *
 obtain ⟨n,D⟩:=aR (b.length)
 rw [D] at j H C T
 obtain ⟨c0,c1,f0,f1,W⟩:=bk2 j
 have l:=aK H j aW
 have X:=aa (fun A' d (w1:World) (h9:fZ w 0 5 1 (.slice A n c) (n + m) (eB b ++ eB f) (.slice A' (n + m) d) w1)=>(show (∃ F',fA (w1.setCell ⟨g,0,none⟩ (.slice A' (n + m) d)) F' g ⟨b ++ f,O⟩/\jH w F F')/\Fr F w (w1.setCell ⟨g,0,none⟩ (.slice A' (n + m) d)) by
  have P:=h9.fr (S:=F) (fun k _ i=>C k i)
  have J:(b ++ f).length=n + m:=by rw [ja,D,E]
  have R:∀ k,(Value.slice A' (n + m) d).ownBlock=some k->(Value.slice A n c).ownBlock=some k∨w.heap.size<=k:=fun k i=>by
   rcases h9.2.2 with e | e
   ·exact .inl (e▸i)
   ·rw [i] at e;injection e with e;exact .inr af
  have y:(Value.slice A' (n + m) d).ownBlock≠some g:=fun e=>by
   rcases R g e with e | e
   ·exact l e
   ·omega
  have hs:=P.size
  refine ⟨⟨fun k=>k=g∨(Value.slice A' (n + m) d).ownBlock=some k,⟨⟨A',d,?_,?_,fun k i=>?_⟩,.inl rfl,fun k i=>?_⟩,fun k i=>?_⟩,P.setCell (p:=⟨g,0,none⟩) (.inr r) _⟩
  ·show Bk _ g 171 #[.slice A' (b ++ f).length d,zi O]
   rw [J]
   simpa using (h9.bk j l).bH 0 (.slice A' (n + m) d)
  ·show World.ownsRow _ 0 5 1 (.slice A' (b ++ f).length d) (b ++ f).length (eB (b ++ f))
   rw [J]
   have:=bz (p:=⟨g,0,none⟩) h9.own y (.slice A' (n + m) d)
   simpa [eB] using this
  ·show k=g∨_
   refine .inr ?_
   have K:(Value.slice A' (b ++ f).length d).ownBlock=some k:=i
   rwa [J] at K
  ·have L:(w1.setCell ⟨g,0,none⟩ (.slice A' (n + m) d)).heap.size=w1.heap.size:=by simp [World.setCell]
   rw [L]
   rcases i with rfl | i
   ·omega
   ·exact (h9.own.lt k i).2
  ·rcases i with rfl | i
   ·exact .inl r
   ·exact (R k i).imp (C k) id))
 have M:=aa (fun A' d (w1:World) (h9:fZ w 0 5 1 (.slice A n c) (n + m) (eB b ++ eB f) (.slice A' (n + m) d) w1)=>h9.bk j l)
 have HN:=aa (show (eB b).length=n by simp [D])
 have Y:=aa E
 clear j C r I l h E D
 go_enter func261,ntmps261
 go_wp2_with (at_builtin;refine bT _ rfl (.tmp 10) (.tmp 11) 65 rfl 0 5 V (.int .u8 0) 1 1 underlying65 G s u x rfl aW (.slice A n c) n (eB b) rfl (H) (B) m (N) (eB f) rfl (by simp [Y.o]) (U) tC qy af (Nat.zero_le _) (n + m) rfl (eB b ++ eB f) rfl ?_;intro A' d w1 j;obtain ⟨z0,z1,z2,z3,z4⟩:=bk2 (M.o A' d w1 j))
 obtain ⟨Z,r2⟩:=X.o A' d w1 j
 go_end0
 exact ⟨rfl,Z,r2⟩
theorem Qb (g:Nat) (F:Nat->Prop) (f:bB) (y:f.b.length<=9223372036854775807) (w:World) (h:fA w F g f) :
 aS 150 #[g] w fun e w'=>e=.returned (.tuple #[])/\fA w' F g f.sync/\Fr F w w':=by
 obtain ⟨A,c,d,i,l⟩:=h.ex
 obtain ⟨b,r⟩:=f
 simp only at *
 obtain ⟨n,j⟩:=aR (b.length)
 have m:=Fr.setCell (S:=fun k=>k=g) (p:=⟨g,1,none⟩) (Fr.refl _ w) (.inr rfl) (zi n)
 have s:=aa (show fA (w.setCell ⟨g,1,none⟩ (zi n)) F g (bB.sync ⟨b,r⟩) from
  ⟨⟨A,c,by have:=d.bH 1 (zi n);simpa [bB.sync,j] using this,bz i (aK i d aW) _,l⟩,h.gF,fun k u=>by have:=h.lt k u;simpa using this⟩)
 have x:=aa (m.mono (T:=F) fun k _ e=>e▸h.gF)
 rw [j] at d
 obtain ⟨c0,c1,f0,f1,z⟩:=bk2 d
 clear h d i l m j
 go_enter func150,ntmps150
 go_wp2
 go_end0
 exact ⟨rfl,s.o,x.o⟩
theorem Vl (g:Nat) (F:Nat->Prop) (d:bB) (w:World) (h:fA w F g d):aS 69 #[g] w fun e w'=>e=.returned (zi d.b.length)/\w=w':=by
 obtain ⟨A,c,f,-,-⟩:=h.ex
 obtain ⟨c0,c1,f0,f1,i⟩:=bk2 f
 clear h f
 go_enter func69,ntmps69
 go_wp2
 go_ret
 exact ⟨rfl,rfl⟩
section
variable {P:Program} {w w':World} {base:Nat} {e:TypeId} {g n cap:Nat} {xs:List Value}
def over (xs:List Value) (off:Nat) (cs:List Value):List Value:=xs.take off ++ (cs ++ xs.drop (off + cs.length))
theorem Jw (xs:List Value) (d:Nat):over xs d []=xs:=by simp [over]
theorem rW {o:Oper} {a:Act} {K:Act->World->Prop} {Q:Exit->Act->World->Prop} (d s:Operand) (t:TypeId)
 (I:o.op=.call { callee:=.builtin .copy,args:=#[d,s],argTypes:=#[t,t] }) (J:P.underlying t=some (.slice e)) (x:(P.info? e).map (·.size)=some 1)
 (A sp:Option Addr) (i m l p:Nat) (hd:a.eval d=.slice A i m) (L:a.eval s=.slice sp l p)
 (r:w.ownsRow base e 1 (.slice (some ⟨g,0,none⟩) n cap) n xs) (f:Nat) (cs:List Value) (M:cs.length=Nat.min l i)
 (B:0 < cs.length->A=some ⟨g,f,none⟩) (C:ah w sp cs) (N:f + cs.length<=n) (T:∀ v∈cs,v.oneCell'=true)
 (O:List Value) (hy:over xs f cs=O)
 (h:∀ w',w'.ownsRow base e 1 (.slice (some ⟨g,0,none⟩) n cap) n O->Fr (fun k=>k=g) w w'->K (a.put o.dst (goInt cs.length)) w'):o.wp P a w K Q:=by
 subst hy
 by_cases h0:cs.length=0
 ·obtain rfl:cs=[]:=List.eq_nil_of_length_eq_zero h0
  have D:=run_copy_none (P:=P) w t t o.type e A sp i m l p J x (by simpa using M.symm)
  unfold Oper.wp execOp
  simp only [I,resolve,invoke,builtin,Sem.run_bind,Sem.run_pure,Result.andThen_ok,List.map_toArray,BB,IV,hd,L,D]
  exact h w (by rw [Jw];exact r) (Fr.refl _ _)
 ·obtain rfl:=B af
  obtain ⟨b,R,rfl,Y,U⟩:=C (by rintro rfl;simp at h0)
  obtain ⟨E,F,G,u,S,H,y⟩:=gV r
  rw [Nat.mul_one] at H y
  have z:∀ j v,cs[j]?=some v->w.cell? ((⟨b,R,none⟩:Addr).add j)=some v:=fun j v V=>by rw [lS];exact U j v V
  have D:=run_copy_row (P:=P) w t t o.type e g f i m ⟨b,R,none⟩ l p u e cs J x S M z af T
  unfold Oper.wp execOp
  simp only [I,resolve,invoke,builtin,Sem.run_bind,Sem.run_pure,Result.andThen_ok,List.map_toArray,BB,IV,hd,L,D]
  refine h _ (pq E F G (setRow_heap w g u _ e _ S) ?_ ?_) ⟨rfl,rfl,rfl,bE,fun k _ W=>setRow_other w g k _ W⟩
  ·simp only [List.size_toArray,ja,vB,yj,Array.length_toList]
   omega
  ·rw [Nat.mul_one,<- y]
   simp only [over,MI]
   have X:f<=u.toList.length:=by rw [Array.length_toList];omega
   rw [List.take_append,vB,Nat.min_eq_left X,List.take_append,List.take_of_length_le (show cs.length<=n - f by omega),List.take_take,List.take_take,List.drop_take]
   rw [Nat.min_eq_right (show f<=n by omega),Nat.min_eq_left (show f<=n by omega)]
   rw [show n - f - cs.length=n - (f + cs.length) from by omega]
theorem iH {ops:Array Oper} {rest:List Oper} {p:Option Tmp} {ty:TypeId} {x:String} {D:Array Edge} {a:Act} {Q:Exit->Act->World->Prop} (d s:Operand) (t:TypeId)
 (E:P.underlying t=some (.slice e)) (y:(P.info? e).map (·.size)=some 1)
 (z sp:Option Addr) (f l i m:Nat)
 (r:w.ownsRow base e 1 (.slice (some ⟨g,0,none⟩) n cap) n xs) (j:Nat) (cs:List Value) (A:ah w sp cs) (F:∀ v∈cs,v.oneCell'=true)
 (B:List Value) (hd:a.eval d=.slice z f l) (G:a.eval s=.slice sp i m) (H:cs.length=Nat.min i f)
 (C:0 < cs.length->z=some ⟨g,j,none⟩) (u:j + cs.length<=n) (hy:over xs j cs=B)
 (h:∀ w',w'.ownsRow base e 1 (.slice (some ⟨g,0,none⟩) n cap) n B->Fr (fun k=>k=g) w w'->wpList P ops Q rest (a.put p (goInt cs.length)) w') :
 wpList P ops Q (⟨p,.call { callee:=.builtin .copy,args:=#[d,s],argTypes:=#[t,t] },ty,x,D,none⟩ :: rest) a w:=
 wpList_plain rfl fun _ I=>rW d s t rfl E y z sp f l i m hd G r j cs H C A u F B hy fun w' J K=>I _ _ (h w' J K)
theorem kF {ops:Array Oper} {o:Oper} {a:Act} {K:Act->World->Prop} {Q:Exit->Act->World->Prop} {E:Prop} (u:o.guard=none) (d s:Operand) (t:TypeId)
 (C:o.op=.call { callee:=.builtin .copy,args:=#[d,s],argTypes:=#[t,t] }) (D:P.underlying t=some (.slice e)) (x:(P.info? e).map (·.size)=some 1)
 (y sp:Option Addr) (f l i m:Nat) (hd:a.eval d=.slice y f l) (F:a.eval s=.slice sp i m)
 (p:w.ownsRow base e 1 (.slice (some ⟨g,0,none⟩) n cap) n xs) (j:Nat) (cs:List Value) (G:cs.length=Nat.min i f)
 (z:0 < cs.length->y=some ⟨g,j,none⟩) (A:ah w sp cs) (r:j + cs.length<=n) (H:∀ v∈cs,v.oneCell'=true)
 (B:List Value) (hy:over xs j cs=B)
 (h:∀ w',w'.ownsRow base e 1 (.slice (some ⟨g,0,none⟩) n cap) n B->Fr (fun k=>k=g) w w'->K (a.put o.dst (goInt cs.length)) w') :
 if Region.wanted o (yielded ops a.tmps)=true then Oper.wp P o a w K Q else E:=by
 have I:Region.wanted o (yielded ops a.tmps)=true:=by simp [Region.wanted,u]
 rw [if_pos I]
 exact rW d s t C D x y sp f l i m hd F p j cs G z A r H B hy h
theorem yV (t A ty:TypeId) (i:TypeInfo) (z:Value) (bytes:Nat) (G kn:IntKind) (J:P.underlying t=some (.slice e)) (B:P.underlying A=some (.int kn)) (K:P.info? e=some i) (L:i.zero=some z)
 (l:i.size=1) (s:i.bytes=bytes) (C:z.cells=#[z])
 (h:w.ownsRow base e 1 (.slice (some ⟨g,0,none⟩) n cap) n xs) (k:Nat) (h0:0 < k) (M:cap < n + k) (x:n + k<=maxLen) (d:(n + k) * bytes<=140737488355328) (p:base<=w.heap.size) :
 ∃ H w',(Builtin.append_ #[t,A] ty #[.slice (some ⟨g,0,none⟩) n cap,.int G k]).run P w=.ok (.slice (some ⟨w.heap.size,0,none⟩) (n + k) H) w'/\
  w'.ownsRow base e 1 (.slice (some ⟨w.heap.size,0,none⟩) (n + k) H) (n + k) (xs ++ List.replicate k z)/\Old w w':=by
 have r:∀ j u,xs[j]?=some u->w.drew.cell? ((⟨g,0,none⟩:Addr).add j)=some u:=fun j u N=>by
  rw [lS,mE]
  exact lM h j u N
 have D:xs.length=n:=by have:=h.1;omega
 have y:=run_firstCells_some (P:=P) w.drew i.size n ⟨g,0,none⟩ n cap xs (by rw [l];omega) r
 have I:n + k<=9223372036854775807:=by unfold maxLen at x;omega
 have O:=Lib.run_append_grow_zeros (P:=P) w t A ty e i z G kn J B K L (some ⟨g,0,none⟩) n cap xs y k h0 af M af (by rw [s];have:=Nat.mul_le_mul_right bytes (show k<=n + k by omega);omega) (growslice_fits af (by rw [s];exact d))
 have E:=grownCap_ge w (n + k) cap e
 have F:=grownCap_le_maxLen w (n + k) cap e x
 have f:∀ m,Builtin.zeroCells z.cells m=(List.replicate m z).toArray:=fun m=>by
  rw [C]
  apply Array.ext'
  apply List.ext_getElem
  ·simp [Builtin.zeroCells]
  ·intro i R S
   simp [Builtin.zeroCells,Nat.mod_one]
 refine ⟨_,_,O,pq p E F (heap_alloc_new w.drew _) ?_ ?_,((Old.refl' w).drew').ag _⟩
 ·rw [f,f]
  simp
  omega
 ·rw [f,f,Nat.mul_one]
  simp
  rw [List.take_append,D,List.take_of_length_le af,show n + k - n=k from by omega,List.take_replicate,Nat.min_eq_left af]
theorem BZ (d:w.ownsRow base e 1 (.slice (some ⟨g,0,none⟩) n cap) n xs) (m:n + 1<=cap):∃ y,w.ownsRow base e 1 (.slice (some ⟨g,0,none⟩) (n + 1) cap) (n + 1) (xs ++ [y]):=by
 obtain ⟨i,p,j,f,r,k,h⟩:=gV d
 rw [Nat.mul_one] at k h
 have l:n < f.toList.length:=by rw [Array.length_toList];omega
 refine ⟨f.toList[n],pq i m j r af ?_⟩
 rw [Nat.mul_one,MG l,h]
theorem yX (f:FuncId) (fn:Func) (l:TypeId) (t:TypeId) (y:P.funcs[f]?=some fn) (d:(fn.name == "runtime.NumGoroutine")=false) (z:fn.body.isNone=true) (A:Extern.findNext fn=none)
 (B:Extern.find fn=some (Extern.SlicesOverlaps.overlaps #[t,t] #[l])) (C:P.underlying t=some (.slice e)) (D:∀ w,(Go.sizeOf e).run P w=.ok 1 w)
 {h:Nat} {m p:TypeId} {cs r:Array Value} (j:Bk w h p r) (E:Bk w g m cs) (k:h≠g) (F:cs.size≠0) (s u x ca lb i:Nat) :
 (callFunc f #[.slice (some ⟨h,s,none⟩) x ca,.slice (some ⟨g,u,none⟩) lb i]).run P w=.ok (.value (.bool false)) w:=by
 rw [run_callFunc_extern y d z A B,
  Lib.run_overlaps_apart w t l e C 1 D ⟨h,s,none⟩ ⟨g,u,none⟩ x ca lb i k p m r.size cs.size (by unfold World.shape?;rw [show w.heap[h]?=_ from j]) (by unfold World.shape?;rw [show w.heap[g]?=_ from E]) F (j.frozen _) (j.frozen _)]
 rfl
end
theorem GB {w:World} {A:Option Addr} {xs d:List Value} (h:ah w A xs) (f:∀ (k:Nat) u,d[k]?=some u->xs[k]?=some u):ah w A d:=fun g=>by
 have i:xs≠[]:=fun e=>by
  subst e
  obtain ⟨y,l,rfl⟩:=List.exists_cons_of_ne_nil g
  have:=f 0 y rfl
  simp at this
 obtain ⟨b,o,e,j,m⟩:=h i
 exact ⟨b,o,e,j,fun k u n=>m k u (f k u n)⟩
theorem Jy (b:List Int) (n:Nat):∀ (k:Nat) u,(eB (b.take n))[k]?=some u->(eB b)[k]?=some u:=fun k u h=>by
 simp only [eB,List.getElem?_map,List.getElem?_take] at h ⊢
 split at h
 ·exact h
 ·simp at h
theorem ZV (g:Nat) (F:Nat->Prop) (x:bB) (n:Nat) (X:n<=x.b.length) (Y:x.b.length<=70000000000000) (w:World) (h:fA w F g x) :
 aS 85 #[g,zi n] w fun e w'=>e=.returned (zi 0)/\(∃ F',fA w' F' g (x.cut n)/\jH w F F')/\Fr F w w':=by
 obtain ⟨A,c,D,E,G⟩:=h.ex
 have y:x.b.length<=c:=by obtain ⟨_,_,Z,G,_⟩:=bI E;cases Z;exact G
 have z:=h.gF
 have B:=h.lt
 obtain ⟨b,H⟩:=x
 simp only at *
 obtain ⟨m,I⟩:=aR (b.length)
 rw [I] at D E G X Y y
 have O:ah w A (eB (b.take n)):=GB (ah.bA E) (Jy b n)
 have cC:=aa (uF A n c (b.take n) af jR w O)
 obtain ⟨c0,c1,f0,f1,hg⟩:=bk2 D
 have P:=aa D
 have J:=aa z
 have Fp:=aa B
 have R:=aa I
 have k1:¬ ((m:Int) < n):=af
 have k2:¬ ((n:Int) < 0):=af
 have k3:(n:Int)<=c:=af
 clear h D E G O z B I
 go_enter func85,ntmps85
 go_wp2_with fail
 refine cC.o.mono ?_
 rintro e w1 ⟨r,d,rfl,s,j⟩
 have l:∀ k,(Value.slice r n d).ownBlock=some k->w.heap.size<=k/\k < w1.heap.size:=fun k i=>s.lt k i
 have K:(Value.slice r n d).ownBlock≠some g:=fun e=>by have:=(l g e).1;omega
 have T:=(Fr.aj (S:=F) j).setCell (p:=⟨g,0,none⟩) (.inr J.o) (.slice r n d)
 have C:(w1.setCell ⟨g,0,none⟩ (.slice r n d)).heap.size=w1.heap.size:=by simp [World.setCell]
 have f:(b.take n).length=n:=by rw [vB];have:=R.o;omega
 have U:fA (w1.setCell ⟨g,0,none⟩ (.slice r n d)) (fun k=>k=g∨(Value.slice r n d).ownBlock=some k) g ⟨b.take n,H⟩:=by
  refine ⟨⟨r,d,?_,?_,?_⟩,.inl rfl,fun k i=>?_⟩
  ·simp only [f];simpa using (P.o.old j).bH 0 (.slice r n d)
  ·simp only [f];exact dX (bz (p:=⟨g,0,none⟩) s K _) (Nat.zero_le _)
  ·simp only [f];exact fun k i=>.inr i
  ·rw [C];rcases i with rfl | i
   ·have:=j.size;omega
   ·exact (l k i).2
 have cS:=aa (Qb g _ ⟨b.take n,H⟩ (by simp only [f];omega) _ U)
 have V:=aa T
 have W:=aa l
 have L:=aa f
 obtain ⟨d0,d1,d2,d3,d4⟩:=bk2 (P.o.old j)
 clear U T l C f
 go_wp2_with fail
 refine cS.o.mono ?_
 rintro e w2 ⟨rfl,M,N⟩
 go_wp2
 go_ret
 have hs1:=V.o.size
 refine ⟨rfl,⟨_,by have e:bB.cut ⟨b,H⟩ n=bB.sync ⟨b.take n,H⟩:=(by show (if n<=b.length then _ else _)=_;rw [if_pos (by have:=R.o;omega)];simp [bB.sync,L.o]);rw [e];exact M,fun k i=>?_⟩,V.o.trans' N fun k i u=>?_⟩
 ·rcases i with rfl | i
  ·exact .inl J.o
  ·exact .inr (W.o k i).1
 ·rcases u with rfl | u
  ·exact J.o
  ·have:=(W.o k u).1;omega
theorem ZW:(prog.info? 5).map (·.size)=some 1:=ay
theorem RE (g:Nat) (F:Nat->Prop) (l:bB) (m:Nat) (r:l.b.length=m) (K:m<=70000000000000) (w:World) (h:fA w F g l) :
 aS 63 #[g] w fun e w'=>∃ A c,e=.returned (.slice A m c)/\w'.ownsRow w.heap.size 5 1 (.slice A m c) m (eB l.b)/\Old w w':=by
 obtain ⟨i0,s,u,x,y⟩:=info_parts lF
 obtain ⟨A,c,n,z,G⟩:=h.ex
 obtain ⟨b,L⟩:=l
 simp only at *
 rw [r] at n z
 have H:=aa n
 have I:=aa (ah.bA z)
 have E:=aa r
 obtain ⟨c0,c1,f0,f1,M⟩:=bk2 n
 clear h n z G r
 go_enter func63,ntmps63
 have B:∀ xs:List Value,xs.length=m->over xs 0 (eB b)=eB b:=fun xs h=>by
  have e:xs.drop (0 + (eB b).length)=[]:=List.drop_eq_nil_of_le (by simp [E.o];omega)
  unfold over
  rw [e]
  simp
 have C:∀ v∈eB b,v.oneCell'=true:=tC
 have i:(eB b).length=m:=by simp [E.o]
 go_wp2_with
  (first
   | (at_make;refine wpList_make_full _ rfl (.tmp 10) (.tmp 10) 65 rfl w.heap.size 5 i0 (.int .u8 0) 1 Tryz.underlying65 s u x .i64 .i64 m m m rfl rfl rfl rfl (by rw [y];omega) qy (dN _) ?_;intro w1 d j;have p:Old w w1:=(Old.refl' w).grown j bE (fun k e=>by cases e);obtain ⟨d0,d1,d2,d3,d4⟩:=bk2 (H.o.old p);have J:=aa p;have t1:ah w1 A (eB b):=I.o.old p;have t2:=aa (B _ (d.1.trans (Nat.mul_one m)));clear j p)
   | ((with_reducible refine iH (.tmp 12) (.tmp 16) 65 Tryz.underlying65 ZW (some ⟨w.heap.size,0,none⟩) A m m m c d 0 (eB b) t1 C _ ?_ ?_ ?_ ?_ ?_ t2.o ?_);(· rfl);(· rfl);(· exact i.trans (Nat.min_self m).symm);(· exact fun _=>rfl);(· rw [i];omega);intro N f D))
 go_ret
 exact ⟨_,_,rfl,f,Old.iE J.o D (fun k e=>by subst e;exact dN _)⟩
theorem pM (d:List Int) (n c:Nat) (e:n=d.length) (m:1<=n) (p:n<=4096) (f:crc d=c):frame d=some (([(n:Int) / 256,(n:Int) % 256,(c:Int) / 16777216 % 256,(c:Int) / 65536 % 256,(c:Int) / 256 % 256,(c:Int) % 256]:List Int) ++ d):=by
 unfold frame
 rw [if_neg af]
 simp only [<- e,f,BB,IV,Nat.shiftRight_eq_div_pow]
 congr 1
 have g:Int.ofNat (n / 2 ^ 8 % 256)=(n:Int) / 256:=by show ((n / 2 ^ 8 % 256:Nat):Int)=_;omega
 have h:Int.ofNat (n % 256)=(n:Int) % 256:=rfl
 have i:Int.ofNat (c / 2 ^ 24 % 256)=(c:Int) / 16777216 % 256:=rfl
 have j:Int.ofNat (c / 2 ^ 16 % 256)=(c:Int) / 65536 % 256:=rfl
 have k:Int.ofNat (c / 2 ^ 8 % 256)=(c:Int) / 256 % 256:=rfl
 have l:Int.ofNat (c % 256)=(c:Int) % 256:=rfl
 rw [g,h,i,j,k,l]
theorem Jz (A:Option Addr) (n f:Nat) (d fr:List Int) (r:n=d.length) (D:1<=n) (E:n<=4096) (h8:iq d) (z:frame d=some fr) (w:World) (s:ah w A (eB d)) :
 aS 164 #[.slice A n f] w fun e w'=>∃ A' p m,m=n + 6/\e=.returned (.tuple #[.slice A' m p,zi 0])/\w'.ownsRow w.heap.size 5 1 (.slice A' m p) m (eB fr)/\Old w w':=by
 obtain ⟨c,u⟩:=aR (crc d)
 have B:=aa (Nl A n f d r af h8 w s)
 rw [u] at B
 have K:¬ (n:Int) < 1:=af
 have L:¬ (4096:Int) < n:=af
 obtain ⟨F,x,h,i,j⟩:=info_parts lF
 have C:=aa r
 have M:=aa h8
 have G:=aa z
 have H:=aa u
 clear r h8 z u
 go_enter func164,ntmps164
 have I:=aa s
 clear s
 go_upto_region 5 with (go_at_call 215;refine B.o.mono ?_;rintro e w1 ⟨rfl,l⟩)
 have y:=aa ((I.o.old l).alloc (.cells #[.int .u8 ((n:Int) / 256),.int .u8 ((n:Int) % 256),.int .u8 ((c:Int) / 16777216 % 256),.int .u8 ((c:Int) / 65536 % 256),.int .u8 ((c:Int) / 256 % 256),.int .u8 ((c:Int) % 256)] 5))
 go_wp2_with (at_builtin;refine bT _ rfl (.tmp 32) (.tmp 33) 65 rfl w.heap.size 5 F (.int .u8 0) 1 1 underlying65 x h i j rfl aW (.slice (some ⟨w1.heap.size,0,none⟩) 6 6) 6 ([.int .u8 ((n:Int) / 256),.int .u8 ((n:Int) % 256),.int .u8 ((c:Int) / 16777216 % 256),.int .u8 ((c:Int) / 65536 % 256),.int .u8 ((c:Int) / 256 % 256),.int .u8 ((c:Int) % 256)]) rfl (pq (g:=w1.heap.size) l.size (dN 6) aW (Bk.new w1 5 _) rfl rfl) (A) n (f) (eB d) rfl (by simp [eB,<- C.o]) (y.o) tC qy af (by have:=l.size;simp;omega) ((6 + n)) rfl ([.int .u8 ((n:Int) / 256),.int .u8 ((n:Int) % 256),.int .u8 ((c:Int) / 16777216 % 256),.int .u8 ((c:Int) / 65536 % 256),.int .u8 ((c:Int) / 256 % 256),.int .u8 ((c:Int) % 256)] ++ eB d) rfl ?_;intro A' p N h9)
 go_ret2
 refine ⟨A',p,6 + n,af,rfl,?_,h9.old (l.ag _) (by intro k J;simp [Value.ownBlock] at J;have:=l.size;omega)⟩
 have e:=(pM d n c C.o D E H.o).symm.trans G.o
 injection e with e
 rw [<- e]
 simpa [eB] using h9.own
theorem fA.ZX {w w1:World} {F:Nat->Prop} {g:Nat} {P:(Nat->Prop)->Prop} (h:∃ F',P F'/\jH w1 F F') (i:w.heap.size<=w1.heap.size):∃ F',P F'/\jH w F F':=by
 obtain ⟨F',d,e⟩:=h
 exact ⟨F',d,fun k f=>(e k f).imp id af⟩
theorem Nq (g:Nat) (F:Nat->Prop) (k:bB) (A:Option Addr) (n i:Nat) (f fr:List Int) (l:n=f.length) (y:1<=n) (z:n<=4096) (h8:iq f) (p:frame f=some fr) (hd:k.b.length<=60000000000000) (w:World) (h:fA w F g k) (B:ah w A (eB f)) :
 aS 253 #[g,.slice A n i] w fun e w'=>e=.returned (zi 0)/\(∃ F',fA w' F' g (k.app fr)/\jH w F F')/\Fr F w w':=by
 have E:=aa (Jz A n i f fr l y z h8 p w B)
 have j:fr.length=n + 6:=by
  have e:=(pM f n _ l y z rfl).symm.trans p
  injection e with e
  rw [<- e]
  simp [<- l]
 have G:=aa h
 have r:=aa j
 clear p h8 B h l j
 go_enter func253,ntmps253
 go_wp2_with fail
 refine E.o.mono ?_
 rintro e w1 ⟨H,c1,m,C,rfl,d,s⟩
 have D:=aa C
 clear C
 have I:=aa (Np g F k H m c1 fr (by have:=D.o;have:=r.o;omega) (by have:=D.o;omega) w1 (G.o.old s) (ah.bA d))
 clear d
 go_wp2_with fail
 refine I.o.mono ?_
 rintro e J ⟨rfl,u,x⟩
 go_wp2
 go_ret
 exact ⟨rfl,fA.ZX (g:=g) u s.size,(Fr.aj s).trans x⟩
section
open Go.RowKit Go.Shelf
attribute [local go_sem] Oper.semAt_some
end
section
open Go.RowKit Go.Shelf
attribute [local go_sem] Oper.semAt_some
end
section
open Go.RowKit Go.Shelf
attribute [local go_sem] Oper.semAt_some
def Ca (w:World) (base:Nat) (vs:List Value) (recs:List (List Int)):Prop:=
 vs.length=recs.length/\∀ (k:Nat) r,recs[k]?=some r->∃ A c,vs[k]?=some (.slice A r.length c)/\w.ownsRow base 5 1 (.slice A r.length c) r.length (eB r)
theorem Ca.fr {w w':World} {base:Nat} {f:List Value} {d:List (List Int)} {S:Nat->Prop} (h:Ca w base f d) (i:Fr S w w') (j:∀ k cs,base<=k->Bk w k 5 cs->¬ S k):Ca w' base f d:=
 ⟨h.1,fun k r l=>by
  obtain ⟨A,c,m,g⟩:=h.2 k r l
  exact ⟨A,c,m,dh g i fun b n=>by obtain ⟨p,e,s⟩:=iO g n;exact j b e p s⟩⟩
theorem Ca.nil (w:World) (base:Nat):Ca w base [] []:=⟨rfl,fun k r h=>by simp at h⟩
theorem GD (A:Option Addr) (f d:Nat) (m:Nat) (w:World) :
 CallsIn Fence.wide m prog 105 #[.slice A f d] w fun e w'=>e=.returned (.func (.func 163) #[] #[w.heap.size])/\w'=w.alloc (.cells #[.slice A f d] 65):=by
 refine callsIn_of_wp func105 rfl trivial ?_ rfl
 simp only [ntmps105,List.size_toArray,iR,jV,Nat.reduceAdd,Nat.reduceSub,Array.replicate_succ,Array.replicate_zero,List.push_toArray,List.append_toArray,qz,xZ]
 gi_wp2
 go_ret
 exact ⟨rfl,rfl⟩
end
def zQ (k m:Int) (d:ByteArray):Bool:=
 if k=1 then decide (m=0) && decide (d.size<=64) else if k=2 then decide (d.size<=64) else if k=3 then decide (d=ByteArray.empty)
 else if k=5 then decide (1<=m) && decide (d=ByteArray.empty) else if k=4∨k=6 then decide (m=0) && decide (d=ByteArray.empty) else false
def mX (c s k i m:Int) (d:ByteArray):Bool:=decide (0<=c/\c<=3) && decide (1<=s/\s<=1073741824) && decide (0<=i/\i<=31) && decide (0<=m/\m<=100) && zQ k m d
theorem gY (n d f:Int) (b:Bool) (g:decide (d<=n/\n<=f)=b) (w:World) :
 aS 140 #[zi n,zi d,zi f] w fun e w'=>e=.returned (.bool b)/\w=w':=by
 subst g
 by_cases h:d<=n
 ·by_cases i:n<=f
  ·exact Rh
  ·exact Rh
 ·exact Rh
theorem ZO (m:Int):(m == 0)=decide (m=0):=by rw [Bool.eq_iff_iff];simp
theorem GG {d:ByteArray}:d.toList=[]↔d=ByteArray.empty:=by
 have:=@rO d ByteArray.empty
 rwa [show ByteArray.empty.toList=[] by simp [ByteArray.toList_eq]] at this
theorem Fq (c s k i m:Int) (d:ByteArray) (w:World) :
 aS 81 #[.agg #[zi c,zi s,zi k,zi i,zi m,.string d]] w fun e w'=>e=.returned (.bool (mX c s k i m d))/\Old w w':=by
 obtain ⟨b1,j⟩:=aR (decide (0<=c/\c<=3))
 obtain ⟨b2,l⟩:=aR (decide (1<=s/\s<=1073741824))
 obtain ⟨f,n⟩:=aR (decide (0<=i/\i<=31))
 obtain ⟨g,h4⟩:=aR (decide (0<=m/\m<=100))
 have W1:=aa (gY c 0 3 b1 j)
 have W2:=aa (gY s 1 1073741824 b2 l)
 have W3:=aa (gY i 0 31 f n)
 have W4:=aa (gY m 0 100 g h4)
 have HQ:=aa (show mX c s k i m d=(b1 && b2 && f && g && zQ k m d) by unfold mX;rw [j,l,n,h4])
 clear j l n h4
 have hO:=aa ((Old.refl' w).ag (.cells #[zi c,zi s,zi k,zi i,zi m,.string d] 36))
 by_cases r:b1=true/\b2=true/\f=true/\g=true
 ·obtain ⟨rfl,rfl,rfl,rfl⟩:=r
  have hE:=aa (show mX c s k i m d=zQ k m d by rw [HQ.o];simp)
  clear HQ
  by_cases hd:d=ByteArray.empty
  ·subst hd
   by_cases h:m=0
   ·subst h
    go_enter func81,ntmps81
    go_wp2_with (go_at_call 140;first | ((with_reducible refine (W1.o _).mono ?_);rintro e w1 ⟨rfl,rfl⟩) | ((with_reducible refine (W2.o _).mono ?_);rintro e w1 ⟨rfl,rfl⟩) | ((with_reducible refine (W3.o _).mono ?_);rintro e w1 ⟨rfl,rfl⟩) | ((with_reducible refine (W4.o _).mono ?_);rintro e w1 ⟨rfl,rfl⟩))
    all_goals go_ret
    all_goals exact ⟨YU,hO.o⟩
   ·have u:(m == 0)=false:=by simpa using h
    by_cases p:1<=m
    all_goals
     go_enter func81,ntmps81
     go_wp2_with (go_at_call 140;first | ((with_reducible refine (W1.o _).mono ?_);rintro e w1 ⟨rfl,rfl⟩) | ((with_reducible refine (W2.o _).mono ?_);rintro e w1 ⟨rfl,rfl⟩) | ((with_reducible refine (W3.o _).mono ?_);rintro e w1 ⟨rfl,rfl⟩) | ((with_reducible refine (W4.o _).mono ?_);rintro e w1 ⟨rfl,rfl⟩))
     all_goals go_ret
     all_goals exact ⟨YU,hO.o⟩
  ·have u:¬ d.toList=[]:=fun e=>hd (GG.1 e)
   have y:d.toList.isEmpty=false:=by simpa using u
   by_cases h:m=0
   ·subst h
    by_cases x:d.size<=64
    all_goals
     go_enter func81,ntmps81
     go_wp2_with (go_at_call 140;first | ((with_reducible refine (W1.o _).mono ?_);rintro e w1 ⟨rfl,rfl⟩) | ((with_reducible refine (W2.o _).mono ?_);rintro e w1 ⟨rfl,rfl⟩) | ((with_reducible refine (W3.o _).mono ?_);rintro e w1 ⟨rfl,rfl⟩) | ((with_reducible refine (W4.o _).mono ?_);rintro e w1 ⟨rfl,rfl⟩))
     all_goals go_ret
     all_goals exact ⟨YU,hO.o⟩
   ·have z:(m == 0)=false:=by simpa using h
    by_cases p:1<=m
    all_goals
     by_cases x:d.size<=64
     all_goals
      go_enter func81,ntmps81
      go_wp2_with (go_at_call 140;first | ((with_reducible refine (W1.o _).mono ?_);rintro e w1 ⟨rfl,rfl⟩) | ((with_reducible refine (W2.o _).mono ?_);rintro e w1 ⟨rfl,rfl⟩) | ((with_reducible refine (W3.o _).mono ?_);rintro e w1 ⟨rfl,rfl⟩) | ((with_reducible refine (W4.o _).mono ?_);rintro e w1 ⟨rfl,rfl⟩))
      all_goals go_ret
      all_goals exact ⟨YU,hO.o⟩
 ·have hE:=aa (show mX c s k i m d=false by rw [HQ.o];cases b1 <;> cases b2 <;> cases f <;> cases g <;> simp_all)
  clear HQ
  cases b1
  ·exact MS
  cases b2
  ·exact MS
  cases f
  ·exact MS
  cases g
  ·exact MS
  exact absurd ⟨rfl,rfl,rfl,rfl⟩ r
theorem rX:∀ ns:List Int,nE ns=true↔∀ (j:Nat) (x:Int),ns[j]?=some x->¬ x∈ns.take j
 | []=>by simp [nE]
 | a :: l=>by
  have k:=rX l
  simp only [nE,kE,k]
  constructor
  ·rintro ⟨m,n⟩ j x f
   have g:¬ a∈l:=by simpa using m
   cases j with
   | zero=>simp
   | succ j=>
    have d:l[j]?=some x:=by simpa using f
    rw [List.take_succ_cons,tF]
    rintro (rfl | h)
    ·exact g (EY d)
    ·exact n j x d h
  ·intro h
   refine ⟨?_,fun j x f p=>?_⟩
   ·have:¬ a∈l:=fun r=>by
     obtain ⟨i,s,e⟩:=List.getElem_of_mem r
     exact h (i + 1) a (by simp [gG s,e]) bE
    simpa using this
   ·exact h (j + 1) x (by simpa using f) (by rw [List.take_succ_cons];exact List.mem_cons_of_mem _ p)
theorem bC.rY (f:Int) (ns:List Int):bC.may ⟨f,ns⟩=true↔(0<=f/\f<=1073741824)/\(1<=ns.length/\ns.length<=5)/\∀ (j:Nat) (x:Int),ns[j]?=some x->(0<=x/\x<=4)/\¬ x∈ns.take j:=by
 unfold bC.may
 simp only [kE,rJ,List.all_eq_true,rX]
 constructor
 ·rintro ⟨⟨⟨⟨⟨g,h⟩,k⟩,h4⟩,h5⟩,h6⟩
  exact ⟨⟨g,h⟩,⟨k,h4⟩,fun j x d=>⟨h5 x (EY d),h6 j x d⟩⟩
 ·rintro ⟨⟨g,h⟩,⟨k,h4⟩,h5⟩
  refine ⟨⟨⟨⟨⟨g,h⟩,k⟩,h4⟩,fun x l=>?_⟩,fun j x d=>(h5 j x d).2⟩
  obtain ⟨i,m,e⟩:=List.getElem_of_mem l
  exact (h5 i x (by rw [gG m,e])).1
theorem wu (g:Int) (A:Option Addr) (n d:Nat) (ns:List Int) (b:Bool) (I:n=ns.length) (P:n<=100000) (J:n<=d) (K:bC.may ⟨g,ns⟩=b) (w:World) (h:aP w A ns) :
 aS 132 #[.agg #[zi g,.slice A n d]] w fun e w'=>e=.returned (.bool b)/\Old w w':=by
 have f:=aa (bC.rY g ns)
 have s:=aa ((Old.refl' w).ag (.cells #[zi g,.slice A n d] 59))
 have B:=h.alloc (.cells #[zi g,.slice A n d] 59)
 have C:=bk2 (Bk.new w 59 #[zi g,.slice A n d])
 obtain ⟨u0,u1,u2,u3,u4⟩:=C
 have HL:=aa I
 have D:=aa K
 clear I K h
 have no:∀ x:Bool,x=b->(bC.may ⟨g,ns⟩=x):=fun x u=>D.o.trans u.symm
 have l:=aa (fun m:¬ bC.may ⟨g,ns⟩=true=>(show b=false by rw [<- D.o];simpa using m))
 clear no
 by_cases E:0<=g/\g<=1073741824
 ·have c1:=aa (fun w=>gY g 0 1073741824 true jR w)
  by_cases F:1<=n/\n<=5
  ·have c2:=aa (fun w=>gY (n:Int) 1 5 true jR w)
   go_enter func132,ntmps132
   go_wp2_with (go_at_call 140;first | ((with_reducible refine (c1.o _).mono ?_);rintro e w1 ⟨rfl,rfl⟩) | ((with_reducible refine (c2.o _).mono ?_);rintro e w1 ⟨rfl,rfl⟩))
   go_loopw [19] (fun iv wr=>∃ k:Nat,k<=n/\iv=zi k/\kN (∀ (j:Nat) (x:Int),j < k->ns[j]?=some x->(0<=x/\x<=4)/\¬ x∈ns.take j)/\(w.alloc (.cells #[zi g,.slice A n d] 59))=wr) (fun iv _=>n - (intOf iv).toNat)
   case atStart=>exact ⟨0,af,rfl,aa (fun j x r=>absurd r (Nat.not_lt_zero _)),rfl⟩
   case round=>
    obtain ⟨k,R,rfl,L,rfl⟩:=hrel
    by_cases hlt:k < n
    ·obtain ⟨x,u⟩:∃ x,ns[k]?=some x:=⟨ns[k]'MQ,gG _⟩
     obtain ⟨M,o,rfl,O,N⟩:=B.at_ (k:=k) MQ
     rw [u] at N
     simp only [Gu] at N
     have G:=aa u
     clear u
     have H:k<=d:=af
     by_cases p:0<=x/\x<=4
     ·have c3:=aa (fun w=>gY x 0 4 true jR w)
      by_cases i:x∈ns.take k
      ·have e:=l.o (fun m=>((f.o.1 m).2.2 k x G.o).2 i)
       subst e
       have c4:=aa (mW (some ⟨M,o,none⟩) k d (ns.take k) x true (by rw [vB,<- HL.o];omega) af (by simpa using i) _ (by have:=B.take k;rwa [<- List.map_take] at this))
       clear i
       go_wp2_with (first | (go_at_call 140;((with_reducible refine (c3.o _).mono ?_);rintro e w1 ⟨rfl,rfl⟩)) | (go_at_call 101;((with_reducible refine (c4.o).mono ?_);rintro e w1 ⟨rfl,rfl⟩)))
       go_ret
       exact ⟨rfl,s.o⟩
      ·have c4:=aa (mW (some ⟨M,o,none⟩) k d (ns.take k) x false (by rw [vB,<- HL.o];omega) af (by simpa using i) _ (by have:=B.take k;rwa [<- List.map_take] at this))
       have z:=aa i
       clear i
       go_wp2_with (first | (go_at_call 140;((with_reducible refine (c3.o _).mono ?_);rintro e w1 ⟨rfl,rfl⟩)) | (go_at_call 101;((with_reducible refine (c4.o).mono ?_);rintro e w1 ⟨rfl,rfl⟩)))
       go_roundw
       case rel=>exact ⟨k + 1,af,oP,aa (fun j y r hy=>by
        rcases Nat.lt_succ_iff_lt_or_eq.1 r with h | rfl
        ·exact L.o j y h hy
        ·rw [G.o] at hy;injection hy with hy;subst hy;exact ⟨p,z.o⟩),trivial⟩
       case measure=>simp [intOf];omega
     ·have c3:=aa (fun w=>gY x 0 4 false jR w)
      have e:=l.o (fun m=>p ((f.o.1 m).2.2 k x G.o).1)
      subst e
      clear p
      go_wp2_with (first | (go_at_call 140;((with_reducible refine (c3.o _).mono ?_);rintro e w1 ⟨rfl,rfl⟩)))
      go_ret
      exact ⟨rfl,s.o⟩
    ·have e:b=true:=by
      rw [<- D.o,f.o]
      exact ⟨E,by rw [<- HL.o];exact F,fun j x r=>L.o j x (by have:=(List.getElem?_eq_some_iff.1 r).1;have:=HL.o;omega) r⟩
     subst e
     go_wp2
     go_ret
     exact ⟨rfl,s.o⟩
  ·have c2:=aa (fun w=>gY (n:Int) 1 5 false jR w)
   have e:=l.o (fun m=>F (by have:=(f.o.1 m).2.1;rwa [<- HL.o] at this))
   subst e
   clear F
   go_enter func132,ntmps132
   go_wp2_with (go_at_call 140;first | ((with_reducible refine (c1.o _).mono ?_);rintro e w1 ⟨rfl,rfl⟩) | ((with_reducible refine (c2.o _).mono ?_);rintro e w1 ⟨rfl,rfl⟩))
   go_ret
   exact ⟨rfl,s.o⟩
 ·have c1:=aa (fun w=>gY g 0 1073741824 false jR w)
  have e:=l.o (fun m=>E (f.o.1 m).1)
  subst e
  clear E
  go_enter func132,ntmps132
  go_wp2_with (go_at_call 140;((with_reducible refine (c1.o _).mono ?_);rintro e w1 ⟨rfl,rfl⟩))
  go_ret
  exact ⟨rfl,s.o⟩
end Go.Proofs.YthihpfpbiajddaaGreat
