/- Parts of the proof. -/
import Derived.Test.YthihpfpbiajddaaGreatHQWorldNobody27
set_option maxRecDepth 100000
set_option maxHeartbeats 8000000
open Go.Proofs.Tryz
namespace Go.Proofs.YthihpfpbiajddaaGreat
open Go.RowKit
theorem EB (g:Nat) (a b c:Int) (r:Bool) (M:decide ((1<=a/\a<=5)/\(1<=b/\b<=4)/\1<=c/\c<=100)=r) (w:World) (h:Bk w g 3 #[zi a,zi 5,zi b,zi 4,zi c,zi 100]) :
 aS 98 #[.slice (some ⟨g,0,none⟩) 6 6] w fun e w'=>e=.returned (.bool r)/\Old w w':=by
 have B:=aa h
 have N:=aa M
 clear h M
 go_enter func98,ntmps98
 go_wp2_with fail
 go_loopw [3] (fun iv wr=>∃ k:Nat,k<=3/\iv=zi ((2 * k:Nat):Int)/\Old w wr/\((0 < k->1<=a/\a<=5)/\(1 < k->1<=b/\b<=4)/\(2 < k->1<=c/\c<=100))) (fun iv _=>6 - (intOf iv).toNat)
 case atStart=>exact ⟨0,af,rfl,Old.refl' _,af⟩
 case round=>
  obtain ⟨k,hk,rfl,C,D⟩:=hrel
  have O:=aa (B.o.old C)
  have P:=aa C
  have u:=aa D
  clear C D
  by_cases U:k < 3
  ·obtain ⟨v,m,F,G,l,R⟩:∃ v m:Int,#[Value.int .i64 a,zi 5,zi b,zi 4,zi c,zi 100][2 * k]?=some (zi v)/\#[Value.int .i64 a,zi 5,zi b,zi 4,zi c,zi 100][2 * k + 1]?=some (zi m)/\
    (v < 1∨m < v->¬ ((1<=a/\a<=5)/\(1<=b/\b<=4)/\1<=c/\c<=100))/\(¬ v < 1->¬ m < v->((0 < k + 1->1<=a/\a<=5)/\(1 < k + 1->1<=b/\b<=4)/\(2 < k + 1->1<=c/\c<=100))):=by
    have D:=u.o
    rcases (by omega:k=0∨k=1∨k=2) with rfl | rfl | rfl
    ·exact ⟨a,5,rfl,rfl,af,af⟩
    ·exact ⟨b,4,rfl,rfl,af,af⟩
    ·exact ⟨c,100,rfl,rfl,af,af⟩
   obtain ⟨b1,d⟩:=aR (decide (v < 1))
   obtain ⟨b2,f⟩:=aR (decide (m < v))
   obtain ⟨z,i⟩:=aR ((b1 || b2))
   have V:=aa (show z=true->¬ ((1<=a/\a<=5)/\(1<=b/\b<=4)/\1<=c/\c<=100) from fun e=>l (by rw [<- i,<- d,<- f] at e;simpa using e))
   have W:=aa (show z=false->_ from fun e=>(by rw [<- i,<- d,<- f] at e;simp only [Bool.or_eq_false_iff,decide_eq_false_iff_not] at e;exact R e.1 e.2))
   have H:=aa d
   have I:=aa f
   have J:=aa i
   obtain ⟨j,K⟩:=aR (2 * k)
   rw [K] at F G ⊢
   have S:=aa F
   have T:=aa G
   have X:=aa K
   have q1:(0:Int)<=(j:Int):=af
   have q2:(j:Int) < 6:=af
   have q3:(0:Int)<=(j:Int) + 1:=af
   have q4:(j:Int) + 1 < 6:=af
   have q5:((j:Int) + 1).toNat=j + 1:=af
   have Y:IntKind.i64.wrap ((j:Int) + 1)=(j:Int) + 1:=kP _ af
   have Z:IntKind.i64.wrap ((j:Int) + 2)=(j:Int) + 2:=kP _ af
   clear F G l R d f i u K
   go_wp2_with fail
   refine bG Old wr [.val (.slice (some ⟨g,0,none⟩) 6 6),.val (zi (j:Int)),.val (av g j),.val (zi v),.val (.bool b1),.val (.bool b1),.val (if b1=false then .slice (some ⟨g,0,none⟩) 6 6 else undef),.val (if b1=false then zi (j:Int) else undef),.val (if b1=false then av g j else undef),.val (if b1=false then zi v else undef),.val (if b1=false then .slice (some ⟨g,0,none⟩) 6 6 else undef),.val (if b1=false then zi (j:Int) else undef),.val (if b1=false then zi ((j:Int) + 1) else undef),.val (if b1=false then av g (j + 1) else undef),.val (if b1=false then zi m else undef),.val (if b1=false then .bool b2 else undef),.val (.bool z)] ((Old.refl' _).drew') ?st ?en
   case st=>
    refine .cons (sp [] [(0,.slice (some ⟨g,0,none⟩) 6 6)] ?_)<|.cons (sp [] [(3,zi (j:Int))] ?_)<|.cons (sp [(0,11),(1,12)] [] ?_)<|.cons (sp [(2,13)] [] ?_)<|.cons (sp [(3,14)] [] ?c4)<|.cons (sp [(4,15)] [] ?_)<|.cons (mD 5 16 b1 false (.slice (some ⟨g,0,none⟩) 6 6) [] [(0,.slice (some ⟨g,0,none⟩) 6 6)] ?i6)<|.cons (mD 5 16 b1 false (zi (j:Int)) [] [(3,zi (j:Int))] ?i7)<|.cons (mD 5 16 b1 false (av g j) [(6,17),(7,18)] [] ?i8)<|.cons (mD 5 16 b1 false (zi v) [(8,19)] [] ?i9)<|.cons (mD 5 16 b1 false (.slice (some ⟨g,0,none⟩) 6 6) [] [(0,.slice (some ⟨g,0,none⟩) 6 6)] ?i10)<|.cons (mD 5 16 b1 false (zi (j:Int)) [] [(3,zi (j:Int))] ?i11)<|.cons (mD 5 16 b1 false (zi ((j:Int) + 1)) [(11,22)] [] ?i12)<|.cons (mD 5 16 b1 false (av g (j + 1)) [(10,21),(12,23)] [] ?i13)<|.cons (mD 5 16 b1 false (zi m) [(13,24)] [] ?i14)<|.cons (mD 5 16 b1 false (.bool b2) [(9,20),(14,25)] [] ?c15)<|.cons (sp [(5,16),(15,26)] [] ?c16)<|.nil
    case c4=>
     intro E w' s A l
     rintro e14
     have d:=H.o
     exact ⟨_,dP,rfl⟩
    case c15=>
     intro n E w' s A l
     subst n
     rintro e20 e25
     have f:=I.o
     show _=_
     go_simp
    case c16=>
     intro E w' s A l
     rintro e16 e26
     obtain rfl:=J.o
     cases b1 <;> exact ⟨_,dP,rfl⟩
    case i6 | i7 | i8 | i9 | i10 | i11 | i12 | i13 | i14=>
     intro n E w' s A l
     subst n
     have p:=O.o.old s
     have x0:=(p.cell j).trans S.o
     have x1:=(p.cell (j + 1)).trans T.o
     have xl:=p.lt
     repeat intro _
     show _=_
     go_simp
    all_goals
     intro E w' s A l
     have p:=O.o.old s
     have x0:=(p.cell j).trans S.o
     have x1:=(p.cell (j + 1)).trans T.o
     have xl:=p.lt
     repeat intro _
     exact ⟨_,dP,rfl⟩
   case en=>
    intro jA w9 x
    iterate 6 refine Ends.eqv _ _ rfl (fun _ h=>h) ?_
    iterate 10 (refine Ends.ex _ rfl ?_;intro _ _ _)
    iterate 1 refine Ends.eqv _ _ rfl (fun _ h=>h) ?_
    refine Ends.nil ?_
    simp only [aC,ax,fM,fJ]
    have y:=aa (P.o.trans' x)
    clear x
    cases z with
    | true=>
     have L:r=false:=by rw [<- N.o];exact decide_eq_false (fun e=>V.o rfl e)
     subst L
     go_wp2_with fail
     go_ret
     exact ⟨rfl,y.o⟩
    | false=>
     go_wp2_with fail
     go_roundw
     case rel=>exact ⟨k + 1,af,by rw [show ((2 * (k + 1):Nat):Int)=(j:Int) + 2 by have:=X.o;omega],y.o,W.o rfl⟩
     case measure=>simp [intOf];omega
  ·obtain rfl:k=3:=by omega
   have L:r=true:=by rw [<- N.o];exact decide_eq_true ⟨u.o.1 (by omega),u.o.2.1 (by omega),u.o.2.2 (by omega)⟩
   subst L
   go_wp2_with fail
   go_ret
   exact ⟨rfl,P.o⟩
theorem F3 (a b c:Int) (r:Bool) (d:decide ((1<=a/\a<=5)/\(1<=b/\b<=4)/\1<=c/\c<=100)=r) (w:World):aS 48 #[.agg #[zi a,zi b,zi c]] w fun e w'=>e=.returned (.bool r)/\Old w w':=by
 have h:=aa (fun g W (i:Bk W g 3 #[zi a,zi 5,zi b,zi 4,zi c,zi 100])=>EB g a b c r d W i)
 have j:=aa (((Old.refl' w).ag (.cells #[zi a,zi b,zi c] 23)).ag (.cells #[zi a,zi 5,zi b,zi 4,zi c,zi 100] 3))
 have k:=aa (fV w (.cells #[zi a,zi b,zi c] 23) 3 #[zi a,zi 5,zi b,zi 4,zi c,zi 100])
 clear d
 go_enter func48,ntmps48
 go_wp2_with fail
 refine (h.o _ _ k.o).mono ?_
 rintro e w1 ⟨rfl,f⟩
 have l:=aa f
 clear f
 go_wp2_with fail
 go_ret
 exact ⟨rfl,j.o.trans' l.o⟩
theorem SN (a b c:Int) (d:1<=a/\a<=5) (f:1<=b/\b<=4) (g:1<=c/\c<=100) (w:World):aS 48 #[.agg #[zi a,zi b,zi c]] w fun e w'=>e=.returned (.bool true)/\Old w w':=
 F3 a b c true (decide_eq_true ⟨d,f,g⟩) w
section
variable {w w':World} {own own':Nat->Tag} {c i W:Nat} {u:bV} {gs cs:List Nat} {l:List bR} {s:WV}
theorem jb.far (a:jb) {T t:Tag} (h0:T≠aB) (f:t≠aB) (g:T≠t) (j:a.P w (fun k=>own k=T) (fun k=>own k=aB)) (m:vO w own) (h:Ext w own own') (n:∀ k,w.heap.size<=k->own' k=aB∨own' k=t) (p:Fr (fun k=>own k=t) w w'):a.P w' (fun k=>own' k=T) (fun k=>own' k=aB):=by
 have r:∀ k,w.heap.size<=k->own' k≠T:=fun k d e=>by
  rcases n k d with h5 | h5
  ·exact h0 (e.symm.trans h5)
  ·exact g (e.symm.trans h5)
 refine a.fr (a.lift h0 j h r) p (fun k d e=>?_)
 have h6:k < w.heap.size:=Nat.lt_of_not_le fun h6=>f (e.symm.trans (m k h6))
 rw [<- h k h6] at e
 rcases d with d | d
 ·exact g (d.symm.trans e)
 ·exact f (e.symm.trans d.1)
theorem jb.mine (a:jb) {t:Tag} (d:t≠aB) {F':Nat->Prop} (m:a.P w' F' (fun k=>own k=aB)) (n:∀ k,F' k->own k=t∨w.heap.size<=k) (h:Ext w own own') (p:vO w' own') (r:∀ k,w.heap.size<=k->F' k->own' k=t) (h4:∀ k,w.heap.size<=k->¬ F' k->own' k=aB):a.P w' (fun k=>own' k=t) (fun k=>own' k=aB):=by
 refine a.mono m (fun k f=>?_) (fun k f=>?_) fun k f j g=>?_
 ·rcases Nat.lt_or_ge k w.heap.size with h5 | h5
  ·exact (h k h5).trans ((n k f).resolve_right af)
  ·exact r k h5 f
 ·rcases Nat.lt_or_ge k w'.heap.size with h5 | h5
  ·exact h5
  ·exact absurd ((p k h5).symm.trans f) (Ne.symm d)
 ·rcases Nat.lt_or_ge k w.heap.size with h5 | h5
  ·exact ⟨(h k h5).trans j,fun e=>d (e.symm.trans ((h k h5).trans j))⟩
  ·exact ⟨h4 k h5 g,fun e=>d (e.symm.trans (h4 k h5 g))⟩
theorem aN.far {g:Nat} {x:NS} (N:aN w own c i W g u x) {t:Tag} (d:t≠aB) (e:∀ q,bM c i q≠t) (h:Ext w own own') (j:∀ k,w.heap.size<=k->own' k=aB∨own' k=t) (m:vO w' own') (n:Fr (fun k=>own k=t) w w'):aN w' own' c i W g u x:=by
 obtain ⟨p,f⟩:=N.ex
 exact ⟨⟨p,fun q=>jb.far _ (jN c i q) d (e q) (f.at_ q) f.top h j n,m⟩,N.dQ,N.self,N.i5⟩
theorem SQ (c i k q:Nat) (d:i < 5):bM c i q≠kZ c k:=fun e=>by
 unfold bM kZ at e
 split at e
 ·simp at e
  omega
 ·split at e
  ·simp at e
   omega
  ·simp at e
   omega
theorem SS (c i q:Nat) (d:i < 5):bM c i q≠oJ c:=fun e=>by
 unfold bM oJ at e
 split at e
 ·simp at e
 ·split at e
  ·simp at e
  ·simp at e
   omega
theorem gZ.Bj (h:gZ w own c W u gs cs l s) {j:Nat} (A:j < s.au.length) {F':Nat->Prop} {x':jc} (y:(gy (cs[j]?.getD 0) x').P w' F' (fun k=>own k=aB)) (B:∀ k,F' k->own k=kZ c j∨w.heap.size<=k) (d:Fr (fun k=>own k=kZ c j) w w') :
 ∃ own',gZ w' own' c W u gs cs l { s with au:=s.au.set j x' }/\gT w own c w' own':=by
 have t0:kZ c j≠aB:=by simp [kZ,aB]
 obtain ⟨own',g,p,z,h4⟩:=retag w w' own (kZ c j) F' h.top (fun k f=>(gy _ x').lt y f) d.size
 have m:∀ k,w.heap.size<=k->own' k=aB∨own' k=kZ c j:=fun k f=>by
  by_cases d:F' k
  ·exact .inr (z k f d)
  ·exact .inl (h4 k f d)
 refine ⟨own',⟨p,⟨h.len.1,h.len.2.1,by simp [h.len.2.2.1],h.len.2.2.2⟩,h.conf,fun i n C=>?_,fun k x f=>?_,jb.far _ (by simp [oJ,aB]) t0 (by simp [oJ,kZ] <;> omega) h.past h.top g m d,h.acts,jb.far _ xY t0 (by simp [kZ] <;> omega) h.rn h.top g m d,jb.far _ xY t0 (by simp [kZ] <;> omega) h.rc h.top g m d,jb.far _ xY t0 (by simp [kZ] <;> omega) h.Io h.top g m d,h.dQ⟩,⟨g,d.mono fun k _ (e:own k=kZ c j)=>by rw [e],fun k f=>(m k f).imp id fun e=>.inr (by rw [e])⟩⟩
 ·have N:=h.node i n C
  exact N.far t0 (fun q=>SQ c i j q N.i5) g m p d
 ·by_cases e:j=k
  ·subst e
   have D:x=x':=by
    have:(s.au.set j x')[j]?=some x:=f
    rw [ME A] at this
    exact (Option.some.inj this).symm
   subst D
   exact jb.mine _ t0 y B g p z h4
  ·have r:s.au[k]?=some x:=by
    have:(s.au.set j x')[k]?=some x:=f
    rwa [MF e] at this
   exact jb.far _ (by simp [kZ,aB]) t0 (by simp [kZ] <;> omega) (h.client k x r) h.top g m d
theorem gZ.Lm (h:gZ w own c W u gs cs l s) {F':Nat->Prop} {v':PV} {l':List bR} (p:(sZ u.pp v' l').P w' F' (fun k=>own k=aB)) (y:∀ k,F' k->own k=oJ c∨w.heap.size<=k) (d:Fr (fun k=>own k=oJ c) w w') :
 ∃ own',gZ w' own' c W u gs cs l' { s with past:=v',acts:=l'.map bR.strip }/\gT w own c w' own':=by
 have t0:oJ c≠aB:=by simp [oJ,aB]
 obtain ⟨own',g,m,r,h4⟩:=retag w w' own (oJ c) F' h.top (fun k f=>(sZ _ v' l').lt p f) d.size
 have j:∀ k,w.heap.size<=k->own' k=aB∨own' k=oJ c:=fun k f=>by
  by_cases d:F' k
  ·exact .inr (r k f d)
  ·exact .inl (h4 k f d)
 refine ⟨own',⟨m,h.len,h.conf,fun i n z=>?_,fun k x f=>jb.far _ (by simp [kZ,aB]) t0 (by simp [oJ,kZ] <;> omega) (h.client k x f) h.top g j d,jb.mine _ t0 p y g m r h4,rfl,jb.far _ xY t0 (by simp [oJ]) h.rn h.top g j d,jb.far _ xY t0 (by simp [oJ]) h.rc h.top g j d,jb.far _ xY t0 (by simp [oJ]) h.Io h.top g j d,h.dQ⟩,⟨g,d.mono fun k _ (e:own k=oJ c)=>by rw [e],fun k f=>(j k f).imp id fun e=>.inr (by rw [e])⟩⟩
 have N:=h.node i n z
 exact N.far t0 (fun q=>SS c i q N.i5) g j m d
end
theorem mU {w:World} {e:TypeId} {size n:Nat} {V:Value} {xs:List Value} (h:w.ownsRow 0 e size V n xs) {b:Nat} (d:V.ownBlock=some b):b < w.heap.size:=(iO h d).2.elim fun _ h=>h.lt
theorem xH:(prog.info? 51).map (fun i=>(i.zero,i.size,i.bytes))=some (some (.agg #[zi 0,zi 0,.bool false,zi 0,zi 0,zi 0,zi 0,zi 0,.string { data:=#[] },zi 0,zi 0,.string { data:=#[] },aQ,zi 0]),14,144):=ay
theorem IX.asked {w w':World} {cs:Array Value} {V l:Value} {F G:Nat->Prop} {st:PV} {g:Nat} {c:Nat} {s k i m:Int} {j:ByteArray} (h:IX w cs V F st) (n:c < 4) (p:∀ v q,nJ w F v q->nJ w' G v q) (r:Bk w' g 36 #[zi c,zi s,zi k,zi i,zi m,.string j]) (u:G g) :
 IX w' (((cs.setIfInBounds (5 + c) (av g 0)).setIfInBounds (1 + c) (zi s)).setIfInBounds 0 l) l G (st.asked ⟨c,s,k,i,m,j⟩):=by
 refine ⟨?_,fun d f=>?_,fun d f=>?_⟩
 ·exact get_eq (v:=V) (by rw [bK (by omega),bK (by omega)];exact h.c0) _
 ·rw [bK af]
  show _=some (Value.int .i64 (if (d:Int)=(c:Int) then s else st.last d))
  by_cases e:c=d
  ·subst e
   rw [if_pos rfl]
   exact get_eq (v:=zi (st.last c)) (by rw [bK (by omega)];exact h.lc c n) _
  ·rw [bK af,bK af,if_neg af];exact h.lc d f
 ·rw [bK af,bK af]
  show nJ w' G _ (if (d:Int)=(c:Int) then some ⟨c,s,k,i,m,j⟩ else st.wait d)
  by_cases e:c=d
  ·subst e
   rw [if_pos rfl]
   have h0:=h.wc c n
   obtain ⟨v,x⟩:∃ v,cs[5 + c]?=some v:=Vb
   exact ⟨g,get_eq x _,r,u⟩
  ·rw [bK af,if_neg af]
   exact p _ _ (h.wc d f)
theorem EC (p:Nat) (F:Nat->Prop) (st:PV) (n:Nat) (hn:st.n=n) (Ao:n<=50000) (q:aG) (hq:q.q.may=true) (hw:st.wait q.client=none) (hs:st.last q.client < q.seq) (w:World) (h:ru w p F st) :
 aS 36 #[p,.agg #[zi q.client,zi q.seq,zi q.kind,zi q.id,zi q.eD,.string q.data]] w fun e w'=>e=.returned (zi 0)/\(∃ F',ru w' p F' (st.asked q)/\∀ b,F' b->F b∨w.heap.size<=b)/\Fr F w w'/\AO w' p n [zi q.client,zi q.seq,.bool false,zi q.client,zi q.seq,zi q.kind,zi q.id,zi q.eD,.string q.data,zi 0,zi 0,.string { data:=#[] },aQ,zi 0]/\Kz w p n w' [zi q.client,zi q.seq,.bool false,zi q.client,zi q.seq,zi q.kind,zi q.id,zi q.eD,.string q.data,zi 0,zi 0,.string { data:=#[] },aQ,zi 0]:=by
 obtain ⟨j0,hj0,Av,Aw,Ay⟩:=info_parts xH
 obtain ⟨c,s,k,i,m,y⟩:=q
 simp only [aG.q,Q.may] at hq hw hs ⊢
 obtain ⟨⟨c0,c3⟩,-,-,-⟩:=Aq hq
 obtain ⟨c,rfl⟩:∃ n:Nat,c=n:=⟨c.toNat,af⟩
 obtain ⟨⟨cs,V,xs,hB,hC,hV⟩,gF,hlt,hwn⟩:=h
 have h1:=hC.wc c af
 rw [hw] at h1
 obtain ⟨sq,Qn⟩:=aR (st.last c)
 have M:=hC.lc c af
 rw [Qn] at M hs
 rw [hn] at hB
 obtain ⟨A,ca,rfl,-,-⟩:=bI hB.row
 have hxl:xs.length=n * 14:=hB.row.1
 have hgl:=hB.bk.lt
 have R4:=aa (fun (W:World) (hW:Old (w.alloc (.cells #[zi c,zi s,zi k,zi i,zi m,.string y] 36)) W)=>(((((Old.refl' w).ag _).trans' hW).cell (p:=⟨p,5 + c,none⟩) hgl).trans ((hB.bk.cell _).trans h1):W.cell? ⟨p,5 + c,none⟩=some (.pointer none)))
 have hL1:=aa (fun (W:World) (hW:Old (w.alloc (.cells #[zi c,zi s,zi k,zi i,zi m,.string y] 36)) W)=>(((((Old.refl' w).ag _).trans' hW).cell (p:=⟨p,1 + c,none⟩) hgl).trans ((hB.bk.cell _).trans M):W.cell? ⟨p,1 + c,none⟩=some (zi sq)))
 have cM:=aa (fun (W:World)=>lG c s k i m y true hq W)
 have cN:=aa (fun (W:World)=>wF c s k i m y sq true true hq (by simpa using hs) W)
 have hX:=aa (fun (W:World) (h:Old (w.alloc (.cells #[zi c,zi s,zi k,zi i,zi m,.string y] 36)) W)=>lH ((Bk.new w 36 #[zi c,zi s,zi k,zi i,zi m,.string y]).old h))
 have hBQ:=aa (fun (W:World) (h:Old (w.alloc (.cells #[zi c,zi s,zi k,zi i,zi m,.string y] 36)) W)=>(Bk.new w 36 #[zi c,zi s,zi k,zi i,zi m,.string y]).old h)
 have hBB:=aa (fun (W:World) (h:Old (w.alloc (.cells #[zi c,zi s,zi k,zi i,zi m,.string y] 36)) W)=>hB.old (((Old.refl' w).ag (.cells #[zi c,zi s,zi k,zi i,zi m,.string y] 36)).trans' h))
 have HB:=aa hB
 have HC:=aa hC
 have HV:=aa hV
 have Ws:=aa hwn
 have Fp:=aa hlt
 have HGF:=aa gF
 have Zx:=aa hxl
 have hc4:(c:Int) < 4:=af
 have HC1:=aa h1
 have HC2:=aa M
 clear hq hw hB hC hV hlt hwn h1 M hs Qn gF hxl
 go_enter func36,ntmps36
 go_wp2_with (go_at_call 81;refine (cM.o _).mono ?_;rintro e w1 ⟨rfl,D⟩;obtain ⟨⟨x0,x1,x2,x3,x4,x5⟩,l1⟩:=hX.o _ D)
 refine aY (R:=pick [eqv (av p 0),eqv (av w.heap.size 0),eqv (zi c),eqv (av p 0),eqv (av p 5),eqv (av p (5 + c)),eqv (.pointer none),eqv (.bool false),eqv (.bool false)]) (S:=fun _ w'=>Old (w.alloc (.cells #[zi c,zi s,zi k,zi i,zi m,.string y] 36)) w') (T:=Old) ay ay ay (ai.pick (ai.eqv (ai.eqv (ai.eqv (ai.eqv (ai.eqv (ai.eqv (ai.eqv (ai.eqv (ai.eqv (ai.nil))))))))))) (D.drew') ?steps ?ends
 case steps=>
  refine .cons (zp [] [(0,p)]) <|.cons (zp [] [(3,w.heap.size)]) ?_
  refine .cons (zp [(1,15)] [] (fun d E w' f g hS J K=>by rintro _ q1 rfl e15 ;obtain ⟨⟨N,O,P,X,Y,Z⟩,l9⟩:=hX.o _ hS;have t0:=R4.o _ hS;exact ⟨_,by go_simp,rfl⟩)) ?_
  refine .cons (zp [(0,14)] []) <|.cons (zp [(3,17)] []) ?_
  refine .cons (zp [(4,18),(2,16)] [] (fun d E w' f g hS J K=>by rintro _ q4 rfl e18 _ q2 rfl e16 ;obtain ⟨⟨N,O,P,X,Y,Z⟩,l9⟩:=hX.o _ hS;have t0:=R4.o _ hS;exact ⟨_,by go_simp,rfl⟩)) ?_
  refine .cons (zp [(5,19)] [] (fun d E w' f g hS J K=>by rintro _ q5 rfl e19 ;obtain ⟨⟨N,O,P,X,Y,Z⟩,l9⟩:=hX.o _ hS;have t0:=R4.o _ hS;exact ⟨_,by go_simp,rfl⟩)) ?_
  refine .cons (zp [(6,20)] []) <|.cons (zp [(7,21)] []) ?_
  exact aH.nil
 case ends=>
  intro jA w9 G L
  iterate 9 refine .eqv _ _ rfl (fun _ h=>h) ?_
  refine Ends.nil ?_
  clear L
  simp only [aC,ax,fM,fJ]
  clear x0 x1 x2 x3 x4 x5 l1 D
  have D:=G
  clear G
  obtain ⟨⟨x0,x1,x2,x3,x4,x5⟩,l1⟩:=hX.o _ D
  go_wp2_with fail
  refine aY (R:=pick [eqv (.agg #[zi c,zi s,zi k,zi i,zi m,.string y]),eqv (av p 0),eqv (av w.heap.size 0),eqv (zi c),eqv (av p 0),eqv (av p 1),eqv (av p (1 + c)),eqv (zi sq),eqv (.bool true),eqv (.bool false),eqv (.bool false)]) (S:=fun _ w'=>Old (w.alloc (.cells #[zi c,zi s,zi k,zi i,zi m,.string y] 36)) w') (T:=Old) ay ay ay (ai.pick (ai.eqv (ai.eqv (ai.eqv (ai.eqv (ai.eqv (ai.eqv (ai.eqv (ai.eqv (ai.eqv (ai.eqv (ai.eqv (ai.nil))))))))))))) (D.drew') ?steps ?ends
  case steps=>
   refine .cons (zp [] [(3,w.heap.size)] (fun d E w' f g hS J K=>by rintro  e3;obtain ⟨⟨N,O,P,X,Y,Z⟩,l9⟩:=hX.o _ hS;have t0:=hL1.o _ hS;exact ⟨_,by go_simp,rfl⟩)) ?_
   refine .cons (zp [] [(0,p)]) <|.cons (zp [] [(3,w.heap.size)]) ?_
   refine .cons (zp [(2,25)] [] (fun d E w' f g hS J K=>by rintro _ q2 rfl e25 ;obtain ⟨⟨N,O,P,X,Y,Z⟩,l9⟩:=hX.o _ hS;have t0:=hL1.o _ hS;exact ⟨_,by go_simp,rfl⟩)) ?_
   refine .cons (zp [(1,24)] []) <|.cons (zp [(4,27)] []) ?_
   refine .cons (zp [(5,28),(3,26)] [] (fun d E w' f g hS J K=>by rintro _ q5 rfl e28 _ q3 rfl e26 ;obtain ⟨⟨N,O,P,X,Y,Z⟩,l9⟩:=hX.o _ hS;have t0:=hL1.o _ hS;exact ⟨_,by go_simp,rfl⟩)) ?_
   refine .cons (zp [(6,29)] [] (fun d E w' f g hS J K=>by rintro _ q6 rfl e29 ;obtain ⟨⟨N,O,P,X,Y,Z⟩,l9⟩:=hX.o _ hS;have t0:=hL1.o _ hS;exact ⟨_,by go_simp,rfl⟩)) ?_
   refine aH.cons (bP [(0,23),(7,30)] [] rfl rfl ay ay rfl ?_) ?_
   ·rintro d a w' f g hS _ q0 rfl e23 _ q7 rfl e30 
    first | refine Given.nil (aU.nil ?_) | refine aU.nil ?_
    refine fI 83 _ func83 ay ay _ _ iW [.agg #[zi c,zi s,zi k,zi i,zi m,.string y],zi sq] zap (cN.o _) ?_
    rintro e w1 ⟨rfl,hb⟩
    exact ⟨_,rfl,_,rfl,rfl,hb,hS.trans' hb⟩
   refine .cons (zp [(8,31)] []) <|.cons (zp [(9,32)] []) ?_
   exact aH.nil
  case ends=>
   intro jA w9 G L
   iterate 11 refine .eqv _ _ rfl (fun _ h=>h) ?_
   refine Ends.nil ?_
   clear L
   simp only [aC,ax,fM,fJ]
   clear x0 x1 x2 x3 x4 x5 l1 D
   have D:=G
   clear G
   obtain ⟨⟨x0,x1,x2,x3,x4,x5⟩,l1⟩:=hX.o _ D
   go_wp2_with fail
   clear x0 x1 x2 x3 x4 x5 l1
   have ML:=hBB.o _ D
   have MM:=hBQ.o _ D
   have OU:=aa (((Old.refl' w).ag (.cells #[zi c,zi s,zi k,zi i,zi m,.string y] 36)).trans' D)
   obtain ⟨W5,SV⟩:=aR (w9)
   rw [SV] at ML MM OU
   simp only [SV]
   clear SV D
   obtain ⟨l,hb3⟩:=aR (w.heap.size)
   have HB3:=aa hb3
   have hqg:p≠l:=af
   rw [hb3] at MM
   simp only [hb3]
   clear hb3
   have hC2:=fun o1 o2=>rT (a:=5 + c) (b:=1 + c) (u:=av l 0) (v:=zi s) (j:=5 + c) HC1.o o1 o2
   have VF:=fun o1 o2=>rT (a:=5 + c) (b:=1 + c) (u:=av l 0) (v:=zi s) (j:=1 + c) HC2.o o1 o2
   have Kr:∀ (d:Nat->Option Value) (W:World),d 11=none->uJ W p (cs2 cs (5 + c) (1 + c) (av l 0) (zi s) (d 11) (d 15)) (.slice A n ca) n xs->uJ (W.setCell ⟨p,5 + c,none⟩ (av l 0)) p (cs2 cs (5 + c) (1 + c) (av l 0) (zi s) (upd d 11 undef 11) (upd d 11 undef 15)) (.slice A n ca) n xs:=fun d W h1 M=>by
    have e1:upd d 11 undef 11=some undef:=vL
    have e2:upd d 11 undef 15=d 15:=vL
    rw [h1] at M
    rw [e1,e2,<- PZ af]
    exact M.bH _ _
   have Ks:∀ (d:Nat->Option Value) (W:World),d 15=none->uJ W p (cs2 cs (5 + c) (1 + c) (av l 0) (zi s) (d 11) (d 15)) (.slice A n ca) n xs->uJ (W.setCell ⟨p,1 + c,none⟩ (zi s)) p (cs2 cs (5 + c) (1 + c) (av l 0) (zi s) (upd d 15 undef 11) (upd d 15 undef 15)) (.slice A n ca) n xs:=fun d W h1 M=>by
    have e1:upd d 15 undef 15=some undef:=vL
    have e2:upd d 15 undef 11=d 11:=vL
    rw [h1] at M
    rw [e1,e2,<- P7]
    exact M.bH _ _
   refine aY (R:=pick [eqv (av p 0),eqv (av l 0),eqv (zi c),eqv (av p 0),eqv (av l 0),eqv (zi c),eqv (av l 1),eqv (zi s),eqv (av p 0),eqv (av p 5),eqv (av p (5 + c)),eqv (undef),eqv (av p 0),eqv (av p 1),eqv (av p (1 + c)),eqv (undef)]) (S:=fun σ w'=>uJ w' p (cs2 cs (5 + c) (1 + c) (av l 0) (zi s) (σ 11) (σ 15)) (.slice A n ca) n xs/\Bk w' l 36 #[zi c,zi s,zi k,zi i,zi m,.string y]/\Fr (fun b=>b=p) W5 w') (T:=(fun _ _=>True)) ay ay ay (ai.pick (ai.eqv (ai.eqv (ai.eqv (ai.eqv (ai.eqv (ai.eqv (ai.eqv (ai.eqv (ai.eqv (ai.eqv (ai.eqv (ai.eqv (ai.eqv (ai.eqv (ai.eqv (ai.eqv (ai.nil)))))))))))))))))) (⟨ML.old (Old.refl' _).drew',MM.drew,(Fr.refl _ _).drew⟩) ?steps ?ends
   case steps=>
    refine .cons (zp [] [(0,p)]) <|.cons (zp [] [(3,l)]) ?_
    refine .cons (zp [(1,34)] [] (fun d E w' f g hS J K=>by rintro _ q1 rfl e34 ;obtain ⟨z,B,Lp⟩:=hS;obtain ⟨⟨N,O,P,X,Y,Z⟩,l9⟩:=lH B;have H:=z.bk;exact ⟨_,by go_simp,rfl⟩)) ?_
    refine .cons (zp [] [(0,p)]) <|.cons (zp [] [(3,l)]) ?_
    refine .cons (zp [(4,37)] [] (fun d E w' f g hS J K=>by rintro _ q4 rfl e37 ;obtain ⟨z,B,Lp⟩:=hS;obtain ⟨⟨N,O,P,X,Y,Z⟩,l9⟩:=lH B;have H:=z.bk;exact ⟨_,by go_simp,rfl⟩)) ?_
    refine .cons (zp [] [(3,l)]) ?_
    refine .cons (zp [(6,39)] [] (fun d E w' f g hS J K=>by rintro _ q6 rfl e39 ;obtain ⟨z,B,Lp⟩:=hS;obtain ⟨⟨N,O,P,X,Y,Z⟩,l9⟩:=lH B;have H:=z.bk;exact ⟨_,by go_simp,rfl⟩)) ?_
    refine .cons (zp [(0,33)] []) <|.cons (zp [(8,41)] []) ?_
    refine .cons (zp [(9,42),(2,35)] [] (fun d E w' f g hS J K=>by rintro _ q9 rfl e42 _ q2 rfl e35 ;obtain ⟨z,B,Lp⟩:=hS;obtain ⟨⟨N,O,P,X,Y,Z⟩,l9⟩:=lH B;have H:=z.bk;exact ⟨_,by go_simp,rfl⟩)) ?_
    refine aH.cons (dH [(10,43)] [(3,l)] rfl rfl ay ay rfl (fun d E w' f g hS J K=>by rintro _ GI rfl e43 e3;obtain ⟨z,B,Lp⟩:=hS;obtain ⟨⟨N,O,P,X,Y,Z⟩,l9⟩:=lH B;have H:=z.bk;obtain ⟨v0,hv0⟩:=hC2 (d 11) (d 15);have y0:=(H.cell (5 + c)).trans hv0;have y1:=H.frozen (5 + c);exact ⟨w'.setCell ⟨p,5 + c,none⟩ (av l 0),by go_simp,rfl,trivial,⟨Kr _ _ (f 11 (by kernel_rfl)) z,B.far (p:=⟨p,5 + c,none⟩) (Ne.symm hqg) _,Lp.setCell (p:=⟨p,5 + c,none⟩) (.inr rfl) _⟩⟩)) ?_
    refine .cons (zp [(3,36)] []) <|.cons (zp [(12,44)] []) ?_
    refine .cons (zp [(13,45),(5,38)] [] (fun d E w' f g hS J K=>by rintro _ TT rfl e45 _ q5 rfl e38 ;obtain ⟨z,B,Lp⟩:=hS;obtain ⟨⟨N,O,P,X,Y,Z⟩,l9⟩:=lH B;have H:=z.bk;exact ⟨_,by go_simp,rfl⟩)) ?_
    refine aH.cons (dH [(14,46),(7,40)] [] rfl rfl ay ay rfl (fun d E w' f g hS J K=>by rintro _ Qk rfl e46 _ q7 rfl e40 ;obtain ⟨z,B,Lp⟩:=hS;obtain ⟨⟨N,O,P,X,Y,Z⟩,l9⟩:=lH B;have H:=z.bk;obtain ⟨v0,hv0⟩:=VF (d 11) (d 15);have y0:=(H.cell (1 + c)).trans hv0;have y1:=H.frozen (1 + c);exact ⟨w'.setCell ⟨p,1 + c,none⟩ (zi s),by go_simp,rfl,trivial,⟨Ks _ _ (f 15 (by kernel_rfl)) z,B.far (p:=⟨p,1 + c,none⟩) (Ne.symm hqg) _,Lp.setCell (p:=⟨p,1 + c,none⟩) (.inr rfl) _⟩⟩)) ?_
    exact aH.nil
   case ends=>
    intro jA w9 G L
    iterate 16 refine .eqv _ _ rfl (fun _ h=>h) ?_
    refine Ends.nil ?_
    have I:=L
    clear L
    simp only [aC,ax,fM,fJ]
    obtain ⟨Qo,vG,TW⟩:=G
    obtain ⟨u1,hu1⟩:=Option.isSome_iff_exists.1 (I 11 bE)
    obtain ⟨u2,hu2⟩:=Option.isSome_iff_exists.1 (I 15 bE)
    rw [hu1,hu2] at Qo
    clear hu1 hu2 I
    clear hC2 VF Kr Ks ML MM
    go_wp2_with fail
    have SX:=Qo.old (Old.refl' w9).drew'
    have SY:=vG.drew
    have QC:=aa (TW.drew)
    obtain ⟨WD,J5⟩:=aR (w9.drew)
    rw [J5] at SX SY QC
    obtain ⟨cs7,Lr⟩:=aR (cs2 cs (5 + c) (1 + c) (av l 0) (zi s) (some u1) (some u2))
    rw [Lr] at SX
    have Dm:=SX.bk
    have wR:=SX.row
    have Fy:=SX.ne
    have hX1:cs7[0]?=some (.slice A n ca):=by rw [<- Lr];exact vT (by omega) (by omega) HC.o.c0 _ _
    have CS:=aa (fun (U:World) (h:Old WD U)=>(⟨(lH (SY.old h)).1,((Dm.old h).cell 0).trans hX1⟩:(U.cell? ⟨l,0,none⟩=some (zi c)/\U.cell? ⟨l,1,none⟩=some (zi s)/\U.cell? ⟨l,2,none⟩=some (zi k)/\U.cell? ⟨l,3,none⟩=some (zi i)/\U.cell? ⟨l,4,none⟩=some (zi m)/\U.cell? ⟨l,5,none⟩=some (.string y))/\U.cell? ⟨p,0,none⟩=some (.slice A n ca)))
    obtain ⟨Fin,Az⟩:∃ F:World->Prop,F=fun U=>∃ A2 c2,uJ U p (cs7.setIfInBounds 0 (.slice A2 (n + 1) c2)) (.slice A2 (n + 1) c2) (n + 1) (xs ++ [zi c,zi s,.bool false,zi c,zi s,zi k,zi i,zi m,.string y,zi 0,zi 0,.string { data:=#[] },aQ,zi 0])/\Bk U l 36 #[zi c,zi s,zi k,zi i,zi m,.string y]/\
     Fr (fun b=>b=p∨(Value.slice A n ca).ownBlock=some b) WD U/\(∀ b,(Value.slice A2 (n + 1) c2).ownBlock=some b->(Value.slice A n ca).ownBlock=some b∨WD.heap.size<=b):=⟨_,rfl⟩
    have hqv:(Value.slice A n ca).ownBlock≠some l:=fun e=>by have:=Fp.o _ (HV.o _ e);have:=HB3.o;omega
    have wS:=fun (A2:Option Addr) (c2:Nat) (W2:World) (M:fZ (WD.alloc (.cells #[zi c,zi s,.bool false,zi c,zi s,zi k,zi i,zi m,.string y,zi 0,zi 0,.string { data:=#[] },aQ,zi 0] 51)) 0 51 14 (.slice A n ca) (n + 1) (xs ++ [zi c,zi s,.bool false,zi c,zi s,zi k,zi i,zi m,.string y,zi 0,zi 0,.string { data:=#[] },aQ,zi 0]) (.slice A2 (n + 1) c2) W2)=>(by
     obtain ⟨a1,a2,a3⟩:=SX.app ((Old.refl' WD).ag _) M
     rw [Az]
     exact ⟨A2,c2,a1,SY.fr a2 (fun e=>by rcases e with e | e;exact hqg e.symm;exact hqv e),a2,a3⟩:Fin (W2.setCell ⟨p,0,none⟩ (.slice A2 (n + 1) c2)))
    clear SX SY Qo vG TW
    refine aY (R:=pick [eqv (av p 0),eqv (av p 0),eqv (av p 0),eqv (av p 0),eqv (.slice A n ca),eqv (av l 0),eqv (zi c),eqv (av l 1),eqv (zi s),eqv (.agg #[zi c,zi s,zi k,zi i,zi m,.string y]),eqv (.agg #[zi c,zi s,.bool false,zi c,zi s,zi k,zi i,zi m,.string y,zi 0,zi 0,.string { data:=#[] },aQ,zi 0]),eqv (.slice (some ⟨WD.heap.size,0,none⟩) 1 1),fun v w'=>∃ A2 c2,v=.slice A2 (n + 1) c2,eqv (av p 0),eqv (av p 0),eqv (undef)]) (S:=fun σ w'=>(σ 15≠none->Fin w')/\(σ 15=none->σ 12≠none->∃ A2 c2,σ 12=some (.slice A2 (n + 1) c2)/\fZ (WD.alloc (.cells #[zi c,zi s,.bool false,zi c,zi s,zi k,zi i,zi m,.string y,zi 0,zi 0,.string { data:=#[] },aQ,zi 0] 51)) 0 51 14 (.slice A n ca) (n + 1) (xs ++ [zi c,zi s,.bool false,zi c,zi s,zi k,zi i,zi m,.string y,zi 0,zi 0,.string { data:=#[] },aQ,zi 0]) (.slice A2 (n + 1) c2) w')/\(σ 15=none->σ 12=none->σ 11≠none->w'=(WD.alloc (.cells #[zi c,zi s,.bool false,zi c,zi s,zi k,zi i,zi m,.string y,zi 0,zi 0,.string { data:=#[] },aQ,zi 0] 51)))/\(σ 15=none->σ 12=none->σ 11=none->w'=WD)) (T:=(fun _ _=>True)) ay ay ay (ai.pick (ai.eqv (ai.eqv (ai.eqv (ai.eqv (ai.eqv (ai.eqv (ai.eqv (ai.eqv (ai.eqv (ai.eqv (ai.eqv (ai.eqv (ai.cons (fun _ _ _ _ h=>h) (ai.eqv (ai.eqv (ai.eqv (ai.nil)))))))))))))))))) (⟨fun h=>absurd rfl h,fun _ h=>absurd rfl h,fun _ _ h=>absurd rfl h,fun _ _ _=>J5⟩) ?steps ?ends
    case steps=>
     refine .cons (zp [] [(0,p)]) <|.cons (zp [] [(0,p)]) <|.cons (zp [(1,48)] []) <|.cons (zp [(2,49)] []) ?_
     refine .cons (zp [(3,50)] [] (fun d E w' f g hS J K=>by rintro _ q3 rfl e50 ;obtain ⟨⟨N,O,P,X,Y,Z⟩,t1⟩:=CS.o w' ((Classical.em (d 11=none)).elim (fun C=>by rw [hS.2.2.2 (f 15 (by kernel_rfl)) (f 12 (by kernel_rfl)) C];exact Old.refl' _) (fun C=>by rw [hS.2.2.1 (f 15 (by kernel_rfl)) (f 12 (by kernel_rfl)) C];exact (Old.refl' _).ag _));exact ⟨_,by go_simp,rfl⟩)) ?_
     refine .cons (zp [] [(3,l)]) ?_
     refine .cons (zp [(5,52)] [] (fun d E w' f g hS J K=>by rintro _ q5 rfl e52 ;obtain ⟨⟨N,O,P,X,Y,Z⟩,t1⟩:=CS.o w' ((Classical.em (d 11=none)).elim (fun C=>by rw [hS.2.2.2 (f 15 (by kernel_rfl)) (f 12 (by kernel_rfl)) C];exact Old.refl' _) (fun C=>by rw [hS.2.2.1 (f 15 (by kernel_rfl)) (f 12 (by kernel_rfl)) C];exact (Old.refl' _).ag _));exact ⟨_,by go_simp,rfl⟩)) ?_
     refine .cons (zp [] [(3,l)]) ?_
     refine .cons (zp [(7,54)] [] (fun d E w' f g hS J K=>by rintro _ q7 rfl e54 ;obtain ⟨⟨N,O,P,X,Y,Z⟩,t1⟩:=CS.o w' ((Classical.em (d 11=none)).elim (fun C=>by rw [hS.2.2.2 (f 15 (by kernel_rfl)) (f 12 (by kernel_rfl)) C];exact Old.refl' _) (fun C=>by rw [hS.2.2.1 (f 15 (by kernel_rfl)) (f 12 (by kernel_rfl)) C];exact (Old.refl' _).ag _));exact ⟨_,by go_simp,rfl⟩)) ?_
     refine .cons (zp [] [(3,l)] (fun d E w' f g hS J K=>by rintro  e3;obtain ⟨⟨N,O,P,X,Y,Z⟩,t1⟩:=CS.o w' ((Classical.em (d 11=none)).elim (fun C=>by rw [hS.2.2.2 (f 15 (by kernel_rfl)) (f 12 (by kernel_rfl)) C];exact Old.refl' _) (fun C=>by rw [hS.2.2.1 (f 15 (by kernel_rfl)) (f 12 (by kernel_rfl)) C];exact (Old.refl' _).ag _));exact ⟨_,by go_simp,rfl⟩)) ?_
     refine .cons (zp [(6,53),(8,55),(9,56)] [] (fun d E w' f g hS J K=>by rintro _ q6 rfl e53 _ q8 rfl e55 _ q9 rfl e56 ;exact ⟨_,by go_simp,rfl⟩)) ?_
     refine aH.cons (bP [(10,57)] [] rfl rfl ay ay rfl ?_) ?_
     ·rintro d a w' f g hS _ GI rfl e57 
      first | refine Given.nil (aU.nil ?_) | refine aU.nil ?_
      obtain rfl:=(hS.2.2.2 (f 15 ay) (f 12 ay) (f 11 ay)).symm
      refine jC (w':=(WD.alloc (.cells #[zi c,zi s,.bool false,zi c,zi s,zi k,zi i,zi m,.string y,zi 0,zi 0,.string { data:=#[] },aQ,zi 0] 51))) (.slice (some ⟨WD.heap.size,0,none⟩) 1 1) (by revert e57;generalize a.eval=E;intro e57;go_simp) ⟨_,rfl,rfl,trivial,?_⟩
      exact ⟨fun h=>absurd (f 15 ay) yg,fun _ h=>absurd (f 12 ay) yg,fun _ _ _=>rfl,fun _ _ h=>xX⟩
     refine aH.cons (bP [(4,51),(11,58)] [] rfl rfl ay ay rfl ?_) ?_
     ·rintro d a w' f g hS _ q4 rfl e51 _ UH rfl e58 
      first | refine Given.nil (aU.nil ?_) | refine aU.nil ?_
      obtain rfl:=hS.2.2.1 (f 15 ay) (f 12 ay) (by rw [UH];simp)
      refine qU _ (.tmp 51) (.tmp 58) 46 rfl 0 51 j0 (.agg #[zi 0,zi 0,.bool false,zi 0,zi 0,zi 0,zi 0,zi 0,.string { data:=#[] },zi 0,zi 0,.string { data:=#[] },aQ,zi 0]) 14 144 underlying46 hj0 Av Aw Ay rfl aW (.slice A n ca) n (xs) e51 (wR.alloc _) (some ⟨WD.heap.size,0,none⟩) 1 1 [zi c,zi s,.bool false,zi c,zi s,zi k,zi i,zi m,.string y,zi 0,zi 0,.string { data:=#[] },aQ,zi 0] e58 rfl (cz (Bk.new WD 51 #[zi c,zi s,.bool false,zi c,zi s,zi k,zi i,zi m,.string y,zi 0,zi 0,.string { data:=#[] },aQ,zi 0])) tC qy af (Nat.zero_le _) (n + 1) rfl _ rfl ?_
      intro A2 c2 W2 M
      exact ⟨_,rfl,⟨A2,c2,rfl⟩,trivial,fun h=>absurd (f 15 ay) yg,fun _ _=>⟨A2,c2,vL,M⟩,fun _ h=>xX,fun _ h=>xX⟩
     refine .cons (zp [(0,47)] []) <|.cons (zp [(13,60)] []) ?_
     refine aH.cons (dH [(14,61),(12,59)] [] rfl rfl ay ay rfl (fun d E w' f g hS J K=>by rintro _ Qk rfl e61 _ MJ ⟨A2,c2,rfl⟩ e59 ;obtain ⟨A3,c3,e14,M⟩:=hS.2.1 (f 15 (by kernel_rfl)) (by rw [MJ];simp);rw [MJ] at e14;injection e14 with e14;injection e14 with AB _ AF;subst AB AF;have hG2:=M.bk (Dm.alloc _) Fy;have y0:=(hG2.cell 0).trans hX1;have y1:=hG2.frozen 0;exact ⟨w'.setCell ⟨p,0,none⟩ (.slice A2 (n + 1) c2),by go_simp,rfl,trivial,⟨fun _=>wS _ _ _ M,fun h=>by simp [upd] at h,fun h=>by simp [upd] at h,fun h=>by simp [upd] at h⟩⟩)) ?_
     exact aH.nil
    case ends=>
     intro jA w9 G L
     iterate 12 refine .eqv _ _ rfl (fun _ h=>h) ?_
     refine Ends.ex (some 59) rfl ?_
     rintro _ p12 ⟨A2,c2,rfl⟩
     iterate 3 refine .eqv _ _ rfl (fun _ h=>h) ?_
     refine Ends.nil ?_
     have I:=L
     clear L
     simp only [aC,ax,fM,fJ]
     have hfin:=G.1 (by have:=I 15 (by simp);intro e;rw [e] at this;simp at this)
     clear G I
     rw [Az] at hfin
     obtain ⟨A2,c2,Ec,hQ8,Wj,WO⟩:=hfin
     clear CS wS Dm wR Fy Az J5 hX1
     have hlast:=aa (Ec.last (get_eq (v:=.slice A n ca) (by rw [<- Lr];exact vT (by omega) (by omega) HC.o.c0 _ _) _) Zx.o rfl)
     have hfr:Fr F w w9:=((Fr.aj (S:=F) OU.o).trans' QC.o (fun b _ hb=>by rw [show b=p from hb];exact HGF.o)).trans' Wj (fun b _ hb=>by rcases hb with hb | hb;exact hb▸HGF.o;exact HV.o b hb)
     have hFR:=aa hfr
     have hs7:=QC.o.size
     have hs5:=OU.o.size
     have hfin:=aa (show ∃ F',ru w9 p F' (st.asked ⟨c,s,k,i,m,y⟩)/\∀ b,F' b->F b∨w.heap.size<=b from by
      refine ⟨fun b=>(F b∨b=l∨(Value.slice A2 (n + 1) c2).ownBlock=some b),⟨⟨_,_,_,by rw [show (st.asked ⟨c,s,k,i,m,y⟩).n=n + 1 by rw [<- hn];rfl];exact Ec,?_,fun b hb=>.inr (.inr hb)⟩,.inl HGF.o,fun b hb=>?_,fun x hx=>?_⟩,fun b hb=>?_⟩
      ·rw [<- Lr]
       refine IX.asked HC.o af (fun v r hv=>?_) hQ8 (.inr (.inl rfl))
       cases r with
       | none=>exact hv
       | some r=>
        obtain ⟨bw,e1,e2,e3⟩:=hv
        have hbp:bw≠p:=fun e=>by rw [e] at e2;exact Bk.vC e2 HB.o.bk (by decide) rfl
        have hbv:(Value.slice A n ca).ownBlock≠some bw:=aK HB.o.row e2 aW
        exact ⟨bw,e1,((e2.old OU.o).fr QC.o hbp).fr Wj (fun e=>by rcases e with e | e;exact hbp e;exact hbv e),.inl e3⟩
      ·rcases hb with hb | hb | hb
       ·exact iD (Fp.o b hb) hfr.size
       ·rw [hb];exact hQ8.lt
       ·exact mU Ec.row hb
      ·show (if x=(c:Int) then some _ else st.wait x)=none
       rw [if_neg af]
       exact Ws.o x hx
      ·rcases hb with hb | hb | hb
       ·exact .inl hb
       ·exact .inr (by rw [hb,HB3.o];exact dN _)
       ·rcases WO b hb with hb | hb
        ·exact .inl (HV.o b hb)
        ·exact .inr af)
     have hrow:=aa (show Kz w p n w9 [zi c,zi s,.bool false,zi c,zi s,zi k,zi i,zi m,.string y,zi 0,zi 0,.string { data:=#[] },aQ,zi 0] from ⟨.slice A n ca,xs,.slice A2 (n + 1) c2,(HB.o.bk.cell 0).trans HC.o.c0,HB.o.row,(Ec.bk.cell 0).trans (get_eq (v:=.slice A n ca) (by rw [<- Lr];exact vT (by omega) (by omega) HC.o.c0 _ _) _),Ec.row⟩)
     clear Ec hQ8 Wj WO hfr QC
     go_wp2_with fail
     go_ret
     exact ⟨rfl,hfin.o,hFR.o,hlast.o,hrow.o⟩
end Go.Proofs.YthihpfpbiajddaaGreat
