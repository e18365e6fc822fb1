/- Parts of the proof. -/
import Derived.Test.YthihpfpbiajddaaGreatHQWorldNobody6
import Derived.Deep.Slices
import Derived.Deep.Fields
import Derived.ProofKit
import Derived.OpenShut
import Derived.ShutString
import Derived.ChangeOld
import Derived.Below
set_option maxRecDepth 100000
set_option maxHeartbeats 8000000
open Go.Proofs.Tryz
namespace Go.Proofs.YthihpfpbiajddaaGreat
open Go.RowKit
theorem Dp (ns:List Int) {k:Nat} {x:Int} (h:ns[k]?=some x):bX (ns.take (k + 1))=bX (ns.take k) ++ gB x.toNat:=by
 obtain ⟨d,e⟩:=List.getElem?_eq_some_iff.1 h
 rw [MG d,e]
 simp [bX]
theorem mZ (ns:List Int) (h:∀ x∈ns,0<=x/\x < 18446744073709551616):(bX ns).length<=10 * ns.length:=by
 induction ns with
 | nil=>simp [bX]
 | cons a l ih=>
  have e:=gI a.toNat (by have:=h a (by simp);omega)
  have f:=ih (fun x d=>h x (by simp [d]))
  simp only [bX,List.flatMap_cons,ja,iR] at *
  omega
theorem Dz (g:Nat) (V:Value) (bs:List Int) (A:Option Addr) (n f:Nat) (ns:List Int) (i:n=ns.length) (m:n<=100000) (l:bs.length<=1000000) (h0:∀ x∈ns,0<=x/\x < 9223372036854775808)
 (w:World) (h:jw w g V bs) (hA:aP w A ns) (d:ns≠[]->∀ a,A=some a->¬ fo g V a.block) :
 aS 250 #[av g 0,.slice A n f] w fun e w'=>e=.returned (.tuple #[])/\Wrote w g V (bs ++ bX ns) w':=by
 have HL:=aa i
 have H0:=aa h0
 have HO:=aa d
 clear i h0 d
 go_enter func250,ntmps250
 go_wp2
 go_loopw [8] (fun iv wr=>∃ (k:Nat) (V1:Value),k<=n/\iv=zi k/\jw wr g V1 (bs ++ bX (ns.take k))/\Fr (fo g V) w wr/\(∀ j,fo g V1 j->fo g V j∨w.heap.size<=j)) (fun iv _=>n - (intOf iv).toNat)
 case atStart=>exact ⟨0,V,af,rfl,by simpa [bX] using h,Fr.refl _ _,fun _ h=>.inl h⟩
 case round=>exact Ur
theorem JB (w:World):jw (w.alloc (.cells #[aQ] 231)) w.heap.size aQ []:=
 ⟨Bk.new w _ _,World.ownsRow_nil _ _ _ _,by simp [Value.ownBlock]⟩
theorem mJ {w:World} {k:Nat} (h:fo w.heap.size aQ k):k=w.heap.size:=by
 rcases h with h | h
 ·exact h
 ·simp [Value.ownBlock] at h
theorem wB {w:World} {g:Nat} {t:TypeId} {ns:List Int} (h:Bk w g t (ns.map (Value.int .i64)).toArray):aP w (some ⟨g,0,none⟩) ns:=fun _=>
 ⟨g,0,rfl,h.lt,fun k u d=>by rw [mE,h.cell];simpa using d⟩
theorem bC.rO {c:bC} (h:c.may=true):c.bytes=bX [c.az,c.nodes.length] ++ bX c.nodes:=by
 unfold bC.bytes bC.put
 rw [h]
 simp [bX]
theorem Wrote.own {w W w':World} {g:Nat} {V:Value} {d:List Int} (h:Wrote W g V d w') (e:Old w W) (i:∀ k,fo g V k->w.heap.size<=k):∃ V',jw w' g V' d/\Old w w'/\∀ k,fo g V' k->w.heap.size<=k:=by
 obtain ⟨V',a,f,n⟩:=h
 exact ⟨V',a,Old.iE e f i,fun k j=>(n k j).elim (i k) (fun h=>ic e.size h)⟩
theorem JC (d:Int) (A:Option Addr) (n j:Nat) (ns:List Int) (y:List Int) (b:Bool) (m:Nat) (F:n=ns.length) (hn:n<=100000) (G:n<=j) (p:bC.bytes ⟨d,ns⟩=y) (D:bC.may ⟨d,ns⟩=b) (H:y.length=m) (w:World) (h:aP w A ns) :
 aS 209 #[.agg #[zi d,.slice A n j]] w fun e w'=>∃ A' P,e=.returned (.tuple #[.slice A' m P,zi (if b then 0 else 1)])/\w'.ownsRow w.heap.size 5 1 (.slice A' m P) m (eB y)/\Old w w':=by
 have I:=(Old.refl' w).ag (.cells #[zi d,.slice A n j] 59)
 have r:=h.old I
 have cM:=aa (wu d A n j ns b F hn G D _ r)
 have s:=Bk.new w 59 #[zi d,.slice A n j]
 have S:=bk2 s
 obtain ⟨u0,u1,u2,u3,u4⟩:=S
 cases b with
 | false=>
  have e0:y=[]:=by rw [<- p];unfold bC.bytes bC.put;rw [D];rfl
  subst e0
  simp at H
  subst H
  have T:=aa I
  clear F p D h r s I
  go_enter func209,ntmps209
  go_wp2_with (go_at_call 132;refine cM.o.mono ?_;rintro e w1 ⟨rfl,f⟩)
  refine bodyPost_ret (v:=.tuple #[aQ,zi 1]) (by simp [results,results209,go_sem]) rfl ⟨none,0,rfl,World.ownsRow_nil _ _ _ _,T.o.trans' f⟩
 | true=>
  have J:=(bC.rY d ns).1 D
  obtain ⟨⟨he1,he2⟩,⟨U,X⟩,K⟩:=J
  have u:=aa (show bX [d,(n:Int)] ++ bX ns=y by rw [<- p,bC.rO D,F])
  have l:∀ x∈ns,0<=x/\x < 9223372036854775808:=fun x z=>by
   obtain ⟨i,hi,e⟩:=List.getElem_of_mem z
   have:=(K i x (by rw [gG hi,e])).1
   omega
  have B:(bX [d,(n:Int)]).length<=20:=by
   have:=mZ [d,(n:Int)] (fun x z=>by simp at z;omega)
   simpa using this
  have Y:=aa (fun W:World=>Dz W.heap.size aQ [] (some ⟨W.heap.size + 1,0,none⟩) 2 2 [d,(n:Int)] rfl af bE (fun x z=>by simp at z;omega)
   ((W.alloc (.cells #[aQ] 231)).alloc (.cells #[zi d,zi n] 3)) ((JB W).old ((Old.refl' _).ag _)) (wB (fV W (.cells #[aQ] 231) 3 #[zi d,zi n])) (fun _ a e Z=>by injection e with e;subst e;have:=mJ Z;simp at this))
  have cN2:=aa (fun (W:World) (g:Nat) (V:Value) (E:jw W g V ([] ++ bX [d,(n:Int)])) (hA:aP W A ns) (L:ns≠[]->∀ a,A=some a->¬ fo g V a.block)=>Dz g V ([] ++ bX [d,(n:Int)]) A n j ns F hn jR l W E hA L)
  have cB:=aa (fun (W:World) (g:Nat) (V:Value) (E:jw W g V y)=>Af g m V y H (by rw [<- H,<- u.o,ja];have:=mZ ns (fun x z=>by have:=l x z;omega);omega) W E)
  have T:=aa I
  have M:=aa s
  have HA:=aa r
  have hAw:=aa (fun (C:ns≠[]) (a:Addr) (e:A=some a)=>(show a.block < w.heap.size from by
   obtain ⟨b',o',R,hlt,_⟩:=h (by simpa using C)
   rw [e] at R;injection R with R;subst R;exact hlt))
  clear F p D h r s I K l B U X H
  go_enter func209,ntmps209
  go_wp2_with (go_at_call 132;refine cM.o.mono ?_;rintro e w1 ⟨rfl,f⟩;clear u0 u1 u2 u3 u4;obtain ⟨u0,u1,u2,u3,u4⟩:=bk2 (M.o.old f))
  refine (Y.o w1).mono ?_
  rintro e w2 ⟨rfl,V1,a1,f1,n1⟩
  obtain ⟨V2,a2,o2,m2⟩:=Wrote.own (w:=w1) ⟨V1,a1,f1,n1⟩ (((Old.refl' w1).ag _).ag _) (fun k hk=>by have:=mJ hk;omega)
  clear a1 f1 n1 V1 u0 u1 u2 u3 u4
  obtain ⟨u0,u1,u2,u3,u4⟩:=bk2 ((M.o.old f).old o2)
  have N:=f.size
  have cM2:=aa (cN2.o w2 w1.heap.size V2 a2 ((HA.o.old f).old o2) (fun C a e Z=>by have h1:=hAw.o C a e;have h2:=m2 _ Z;simp at N;omega))
  go_wp2_with (go_at_call 250;refine cM2.o.mono ?_;rintro e w3 ⟨rfl,E⟩)
  obtain ⟨V3,a3,o3,m3⟩:=E.own (w:=w1) o2 m2
  have cB2:=aa (cB.o w3 w1.heap.size V3 (by have:=a3;simp only [qz] at this;rwa [u.o] at this))
  clear u0 u1 u2 u3 u4 E a3 m3 a2 m2
  go_wp2_with (go_at_call 149;refine cB2.o.mono ?_;rintro e w4 ⟨A',P,rfl,O,o4⟩)
  go_ret2
  exact ⟨A',P,rfl,dX O (by have:=o3.size;simp at N;omega),((T.o.trans' f).trans' o3).trans' o4⟩
section
open Go.ChangeShapes Go.WideShapes Go.ChangeAt Go.RowKit Go.Deep
theorem own:ownKnob prog.godebug=none:=ay
theorem laidOut:laidOutB prog=true:=ay
section
variable {H:Type} {enc:TypeId×Value->H} {w:World} {base:Nat} {spare:Nat->Bool} {held:Bool}
theorem uG {e:TypeId} {i:Array Field} {n:Nat} {cs:List Value} {y:DataW H×List MemPlace} (B:prog.underlying e=some (.struct i)) (d:oneCellFields prog i=true) (h:DataW.trod enc prog w base spare held n e cs=some y) :
 ∃ m,∀ (j:Nat) (f:Field) (c:Value),i[j]?=some f->cs[j]?=some c->∃ z,DataW.trod enc prog w base spare held m f.type [c]=some z:=by
 obtain ⟨s,n',C,hy,u,D,E⟩:=DataW.trod_struct B h
 refine ⟨n',fun j f c k x=>?_⟩
 obtain ⟨F,G⟩:=hone_of d j f k
 have A:=E j f k
 have I:j < i.size:=(Array.getElem?_eq_some_iff.1 k).1
 have g:j < cs.length:=(List.getElem?_eq_some_iff.1 x).1
 have l:s[j]?=some (s[j]'af):=gG af
 have p:(cs.drop j).take 1=[c]:=by
  rw [List.drop_eq_getElem_cons g]
  have r:cs[j]=c:=Option.some.inj ((gG g).symm.trans x)
  rw [r]
  rfl
 rw [F,G,p] at A
 exact ⟨_,A.trans l⟩
def In64 (n:Int):Prop:=-9223372036854775808<=n/\n<=9223372036854775807
theorem jI {n:Int} (h:(Lit.int .i64 n).wf=true):In64 n:=by
 have:=bounds_i64 h
 exact ⟨af,af⟩
end
end
section
open Go.ChangeShapes Go.WideShapes Go.ChangeAt Go.RowKit Go.Deep
section
variable {H:Type} {enc:TypeId×Value->H} {w:World} {base:Nat} {spare:Nat->Bool} {held:Bool}
structure aG where
 client:Int
 seq:Int
 kind:Int
 id:Int
 eD:Int
 data:ByteArray
instance:Inhabited aG:=⟨⟨0,0,0,0,0,ByteArray.empty⟩⟩
def aG.cells (q:aG):List Value:=[zi q.client,zi q.seq,zi q.kind,zi q.id,zi q.eD,.string q.data]
def aG.ok (q:aG):Prop:=In64 q.client/\In64 q.seq/\In64 q.kind/\In64 q.id/\In64 q.eD
theorem RF {n:Nat} {cs:List Value} {y:DataW H×List MemPlace} (k:cs.length=6) (l:DataW.trod enc prog w base spare held n 36 cs=some y):∃ q:aG,cs=q.cells/\q.ok:=by
 obtain ⟨m,d⟩:=uG underlying36 ay l
 match cs,k with
 | [c0,c1,c2,c3,c4,c5],_=>
  obtain ⟨_,h0⟩:=d 0 _ c0 rfl rfl
  obtain ⟨_,p⟩:=d 1 _ c1 rfl rfl
  obtain ⟨_,r⟩:=d 2 _ c2 rfl rfl
  obtain ⟨_,u⟩:=d 3 _ c3 rfl rfl
  obtain ⟨_,h4⟩:=d 4 _ c4 rfl rfl
  obtain ⟨_,h5⟩:=d 5 _ c5 rfl rfl
  obtain ⟨n0,e,_,w0⟩:=DataW.trod_int underlying3 h0
  obtain ⟨x,f,_,w1⟩:=DataW.trod_int underlying3 p
  obtain ⟨z,g,_,A⟩:=DataW.trod_int underlying3 r
  obtain ⟨B,h,_,C⟩:=DataW.trod_int underlying3 u
  obtain ⟨D,i,_,E⟩:=DataW.trod_int underlying3 h4
  obtain ⟨s,j,_⟩:=DataW.trod_string underlying9 h5
  simp at e f g h i j
  subst e f g h i j
  exact ⟨⟨n0,x,z,B,D,s⟩,rfl,jI w0,jI w1,jI A,jI C,jI E⟩
def ou (w:World) (A:Option Addr) (qs:List aG):Prop:=ah w A (qs.flatMap aG.cells)
end
end
theorem DC:(prog.info? 3).map (fun i=>(i.zero,i.size,i.bytes))=some (some (zi 0),1,8):=ay
theorem Nr:(prog.info? 3).map (·.size)=some 1:=ay
theorem RG:∀ w,(Go.sizeOf 3).run prog w=.ok 1 w:=fun _=>ay
theorem JD (base n i:Nat) (A:Option Addr) (r:Nat) (xs:List Value) (x:Value) (w:World) (d:w.ownsRow base 3 1 (.slice A n i) n xs) (N:n<=99999) (u:x.oneCell'=true) (y:Bk w r 3 #[x]) (f:base<=w.heap.size) :
 aS 271 #[.slice A n i,zi n,.slice (some ⟨r,0,none⟩) 1 1] w fun e w'=>
  ∃ A' C,e=.returned (.slice A' (n + 1) C)/\fZ w base 3 1 (.slice A n i) (n + 1) (xs ++ [x]) (.slice A' (n + 1) C) w':=by
 obtain ⟨i0,j,k,l,m⟩:=info_parts DC
 obtain ⟨O,c0,E,F,G⟩:=bI d
 injection E with z _ H
 subst z H
 cases A with
 | none=>
  have h0:n=0/\i=0:=by
   rcases d.2 with ⟨h,I⟩ | ⟨g,c,J,h,_⟩
   ·injection h with _ _ p;exact ⟨I,p⟩
   ·injection h with K;cases K
  obtain ⟨rfl,rfl⟩:=h0
  go_enter func271,ntmps271
  go_wp2_with (at_builtin;refine bT _ rfl (.tmp 23) (.tmp 24) 34 rfl base 3 i0 (zi 0) 1 8 underlying34 j k l m rfl aW _ _ _ rfl d (some ⟨r,0,none⟩) 1 1 [x] rfl rfl (cz y) (by simpa using u) qy af f 1 (mE _) _ rfl ?_;intro A2 c2 D p)
  go_ret
  exact ⟨A2,c2,rfl,p⟩
 | some a=>
  obtain ⟨_,_,L⟩:=G a rfl
  obtain ⟨g,o,sp⟩:=a
  injection L with _ z M
  subst z M
  have B:=(iG d).2
  unfold maxLen at B
  have P:(0:Int)<=(n:Int):=af
  have q1:(n:Int)<=(n:Int):=af
  have R:(n:Int)<=(i:Int):=af
  by_cases s:i=n
  ·subst s
   go_enter func271,ntmps271
   go_wp2_with (at_builtin;refine bT _ rfl (.tmp 23) (.tmp 24) 34 rfl base 3 i0 (zi 0) 1 8 underlying34 j k l m rfl aW _ _ _ rfl d (some ⟨r,0,none⟩) 1 1 [x] rfl rfl (cz y) (by simpa using u) qy af f _ rfl _ rfl ?_;intro A2 c2 D p)
   go_ret
   exact ⟨A2,c2,rfl,p⟩
  ·go_enter func271,ntmps271
   go_wp2_with (at_builtin;refine bT _ rfl (.tmp 23) (.tmp 24) 34 rfl base 3 i0 (zi 0) 1 8 underlying34 j k l m rfl aW _ _ _ rfl d (some ⟨r,0,none⟩) 1 1 [x] rfl rfl (cz y) (by simpa using u) qy af f _ rfl _ rfl ?_;intro A2 c2 D p)
   go_ret
   exact ⟨A2,c2,rfl,p⟩
theorem GH (base g n i F:Nat) (xs:List Value) (x:Value) (w:World) (d:w.ownsRow base 3 1 (.slice (some ⟨g,0,none⟩) n n) n xs) (hi:i < n) (hn:n<=99999) (U:∀ u∈xs,u.oneCell'=true) (W:x.oneCell'=true) (X:Bk w F 3 #[x]) (j:base<=w.heap.size) :
 aS 271 #[.slice (some ⟨g,0,none⟩) n n,zi i,.slice (some ⟨F,0,none⟩) 1 1] w fun e w'=>
  ∃ h,e=.returned (.slice (some ⟨w.heap.size,0,none⟩) (n + 1) h)/\w'.ownsRow base 3 1 (.slice (some ⟨w.heap.size,0,none⟩) (n + 1) h) (n + 1) (xs.take i ++ ([x] ++ xs.drop i))/\Old w w':=by
 obtain ⟨i0,H,I,J,K⟩:=info_parts DC
 have L:=(iG d).2
 unfold maxLen at L
 have y:xs.length=n:=by have:=d.1;omega
 have hcut:=zV d (k:=i) af
 rw [Nat.mul_one] at hcut
 obtain ⟨h,w1,G,f,l⟩:=yV (P:=prog) 34 3 34 i0 (zi 0) 8 .i64 .i64 underlying34 underlying3 H I J K rfl hcut (n + 1 - i) af af qy af j
 rw [show i + (n + 1 - i)=n + 1 from by omega] at G f
 rw [show (((n + 1 - i:Nat)):Int)=(n:Int) + 1 - (i:Int) from by omega] at G
 obtain ⟨V,z⟩:=iG f
 unfold maxLen at z
 have M:ah w1 (some ⟨F,0,none⟩) [x]:=ah.old (cz X) l
 have m:ah w1 (some ⟨g,i,none⟩) (xs.drop i):=ah.old (pz d i) l
 have y1:over (xs.take i ++ List.replicate (n + 1 - i) (zi 0:Value)) i [x]=xs.take i ++ ([x] ++ List.replicate (n - i) (zi 0:Value)):=U1
 have y2:over (xs.take i ++ ([x] ++ List.replicate (n - i) (zi 0:Value))) (i + 1) (xs.drop i)=xs.take i ++ ([x] ++ xs.drop i):=by
  unfold over
  have e:(xs.take i ++ [x]).length=i + 1:=by rw [ja,vB];simp;omega
  have a:xs.take i ++ ([x] ++ List.replicate (n - i) (zi 0:Value))=(xs.take i ++ [x]) ++ List.replicate (n - i) (zi 0:Value):=(MI _ _ _).symm
  have hd:(xs.take i ++ [x] ++ List.replicate (n - i) (zi 0:Value)).drop (i + 1 + (xs.drop i).length)=[]:=List.drop_of_length_le jR
  rw [a,List.take_left' e,hd]
  simp
 have Y:g < w.heap.size:=vN d
 have A:∀ u∈xs.drop i,u.oneCell'=true:=fun u Z=>U u (List.mem_of_mem_drop Z)
 have B:(xs.drop i).length=n - i:=by rw [yj,y]
 have C:∀ u∈[x],u.oneCell'=true:=by simpa using W
 have HZ:=aa G
 have D:=aa B
 have N:=aa y1
 have O:=aa y2
 have R:=aa C
 have S:=aa A
 have q0:(0:Int)<=(i:Int):=af
 have q1:(i:Int)<=(n:Int):=af
 have q3:((i:Int) == (n:Int))=false:=by rw [beq_eq_false_iff_ne];omega
 have q4:(i:Int)<=(h:Int):=af
 have q5:(i:Int) + 1<=(h:Int):=af
 have q6:(0:Int)<=(i:Int) + 1:=af
 have q7:(i:Int) + 1<=(n:Int) + 1:=af
 have q8:(i:Int)<=(n:Int) + 1:=af
 have q9:¬ h=i:=af
 have GI:¬ h=i + 1:=af
 have UH:¬ n=i:=af
 have MJ:IntKind.i64.wrap ((i:Int) + 1)=(i:Int) + 1:=kP _ af
 clear G B y1 y2 C A U y hcut
 go_enter func271,ntmps271
 go_wp2_with
  (first
   | (at_builtin;refine Lib.wpList_append_run _ rfl (.tmp 34) (.tmp 39) 34 3 rfl _ _ rfl rfl _ _ HZ.o ?_)
   | ((with_reducible refine iH (.tmp 43) (.tmp 44) 34 Tryz.underlying34 Nr (some ⟨w.heap.size,i,none⟩) (some ⟨F,0,none⟩) (n + 1 - i) (h - i) 1 1 f i [x] M R.o _ ?_ ?_ ?_ ?_ ?_ N.o ?_);(· rfl);(· rfl);(· show (1:Nat)=min 1 (n + 1 - i);omega);(· exact fun _=>rfl);(· show i + 1<=n + 1;omega);intro w2 p E))
 have r:ah w2 (some ⟨g,i,none⟩) (xs.drop i):=m.fr E (fun _ a e=>by cases e;simp;omega)
 go_region_law ((refine kF rfl (.tmp 50) (.tmp 53) 34 iW underlying34 Nr (some ⟨w.heap.size,i + 1,none⟩) (some ⟨g,i,none⟩) (n - i) (h - (i + 1)) (n - i) (n - i) EV EV (by exact p) (i + 1) (xs.drop i) (by rw [D.o];show n - i=min (n - i) (n - i);omega) (fun _=>rfl) (by exact r) (by rw [D.o];omega) S.o _ O.o ?_;intro w3 s T))
 go_wp2
 go_ret
 exact ⟨h,rfl,s,Old.iE (Old.drew' (Old.iE l E (fun k e=>by subst e;exact dN _))) T (fun k e=>by subst e;exact dN _)⟩
theorem GJ (base g n d i s:Nat) (xs:List Value) (x:Value) (w:World) (f:w.ownsRow base 3 1 (.slice (some ⟨g,0,none⟩) n d) n xs) (hi:i < n) (O:n + 1<=d) (hn:n<=99999) (M:∀ u∈xs,u.oneCell'=true) (R:x.oneCell'=true) (N:Bk w s 3 #[x]) (z:s≠g) :
 aS 271 #[.slice (some ⟨g,0,none⟩) n d,zi i,.slice (some ⟨s,0,none⟩) 1 1] w fun e w'=>
  e=.returned (.slice (some ⟨g,0,none⟩) (n + 1) d)/\w'.ownsRow base 3 1 (.slice (some ⟨g,0,none⟩) (n + 1) d) (n + 1) (xs.take i ++ ([x] ++ xs.drop i))/\Fr (fun k=>k=g) w w':=by
 obtain ⟨i0,S,T,U,V⟩:=info_parts DC
 have G:=(iG f).2
 unfold maxLen at G
 have A:xs.length=n:=by have:=f.1;omega
 obtain ⟨y,l⟩:=BZ f O
 obtain ⟨_,_,_,W,j,h,_⟩:=gV f
 have X:=fun (lb Y:Nat)=>yX (P:=prog) (w:=w) 277 _ 4 34 func277 ay ay ay ay underlying34 RG N j z (by rw [h];omega) 0 (i + 1) 1 1 lb Y
 have m:ah w (some ⟨g,i,none⟩) (xs.drop i):=pz f i
 have y1:over (xs ++ [y]) (i + 1) (xs.drop i)=xs.take (i + 1) ++ xs.drop i:=UY
 have y2:over (xs.take (i + 1) ++ xs.drop i) i [x]=xs.take i ++ ([x] ++ xs.drop i):=US
 have B:∀ u∈xs.drop i,u.oneCell'=true:=fun u Z=>M u (List.mem_of_mem_drop Z)
 have C:(xs.drop i).length=n - i:=by rw [yj,A]
 have D:∀ u∈[x],u.oneCell'=true:=by simpa using R
 have E:=aa C
 have H:=aa y1
 have I:=aa y2
 have J:=aa D
 have K:=aa B
 have q0:(0:Int)<=(i:Int):=af
 have q1:(i:Int)<=(n:Int):=af
 have q3:((i:Int) == (n:Int))=false:=by rw [beq_eq_false_iff_ne];omega
 have q4:(i:Int)<=(d:Int):=af
 have q5:(i:Int) + 1<=(d:Int):=af
 have q6:(0:Int)<=(i:Int) + 1:=af
 have q7:(i:Int) + 1<=(n:Int) + 1:=af
 have q8:(i:Int)<=(n:Int) + 1:=af
 have q9:¬ d=i:=af
 have GI:¬ d=i + 1:=af
 have MJ:IntKind.i64.wrap ((i:Int) + 1)=(i:Int) + 1:=kP _ af
 clear C y1 y2 D B M A f j h
 go_enter func271,ntmps271
 go_wp2_with fail
 go_region_law ((refine kF rfl (.tmp 73) (.tmp 76) 34 iW underlying34 Nr (some ⟨g,i + 1,none⟩) (some ⟨g,i,none⟩) (n - i) (d - (i + 1)) (n + 1 - i) (d - i) EV EV (by exact l) (i + 1) (xs.drop i) (by rw [E.o];show n - i=min (n + 1 - i) (n - i);omega) (fun _=>rfl) (by exact m) (by rw [E.o];omega) K.o _ H.o ?_;intro w2 p F))
 have h:ah w2 (some ⟨s,0,none⟩) [x]:=cz ((N.drew).fr F z)
 go_wp2_with
  ((with_reducible refine iH (.tmp 80) (.tmp 81) 34 underlying34 Nr (some ⟨g,i,none⟩) (some ⟨s,0,none⟩) (n + 1 - i) (d - i) 1 1 p i [x] h J.o _ ?_ ?_ ?_ ?_ ?_ I.o ?_);(· rfl);(· rfl);(· show (1:Nat)=min 1 (n + 1 - i);omega);(· exact fun _=>rfl);(· show i + 1<=n + 1;omega);intro w3 r L)
 go_ret
 exact ⟨rfl,r,Fr.trans (Fr.trans (Fr.refl _ w).drew F) L⟩
theorem JE (base n d i m:Nat) (A:Option Addr) (xs:List Value) (x:Value) (w:World) (f:w.ownsRow base 3 1 (.slice A n d) n xs) (L:i<=n) (s:n<=99999) (F:∀ u∈xs,u.oneCell'=true) (y:x.oneCell'=true) (z:Bk w m 3 #[x]) (B:(Value.slice A n d).ownBlock≠some m) (j:base<=w.heap.size) :
 aS 271 #[.slice A n d,zi i,.slice (some ⟨m,0,none⟩) 1 1] w fun e w'=>
  ∃ A' p,e=.returned (.slice A' (n + 1) p)/\w'.ownsRow base 3 1 (.slice A' (n + 1) p) (n + 1) (xs.take i ++ ([x] ++ xs.drop i))/\Fr (fun k=>(Value.slice A n d).ownBlock=some k) w w'/\
   ∀ k,(Value.slice A' (n + 1) p).ownBlock=some k->(Value.slice A n d).ownBlock=some k∨w.heap.size<=k:=by
 have G:xs.length=n:=by have:=f.1;omega
 by_cases l:i=n
 ·subst l
  refine (JD base i d A m xs x w f s y z j).mono fun e w' ⟨A',p,l,C⟩=>⟨A',p,l,?_,C.fr (fun k _ h=>h),fun k r=>?_⟩
  ·rw [List.take_of_length_le af,List.drop_of_length_le af]
   exact C.own
  ·rcases C.2.2 with h | h
   ·left;rw [<- h];exact r
   ·right;rw [r] at h;injection h with h;omega
 ·obtain ⟨g,c,e,_,M⟩:=f.form af
  injection e with H _ I
  subst H I
  by_cases J:n + 1<=d
  ·refine (GJ base g n d i m xs x w f af J s F y z (fun e=>B (by subst e;rfl))).mono fun e w' ⟨l,D,E⟩=>⟨_,_,l,D,E.mono (fun k _ h=>by subst h;rfl),fun k r=>.inl r⟩
  ·have K:=(iG f).1
   obtain rfl:d=n:=af
   refine (GH base g d i m xs x w f af s F y z j).mono fun e w' ⟨p,l,D,E⟩=>⟨_,_,l,D,Fr.aj E,fun k r=>.inr ?_⟩
   simp [Value.ownBlock] at r
   omega
def pN (g:Nat) (K V:Value) (k:Nat):Prop:=k=g∨K.ownBlock=some k∨V.ownBlock=some k
theorem Cb {ks:List Int} {key:Int} {i:Nat} (h:ks.Pairwise (· < ·)) (s:mI ks key i) (k:(decide (i < ks.length) && decide (ks[i]?.getD 0=key))=false):(ks.take i ++ ([key] ++ ks.drop i)).Pairwise (· < ·):=by
 obtain ⟨u,l,e⟩:=s
 have f:∀ a∈ks.take i,a < key:=fun a f=>by
  obtain ⟨j,m,rfl⟩:=List.getElem_of_mem f
  simp only [vB] at m
  have:=l j af
  rw [gG af] at this
  simpa using this
 have g:∀ b∈ks.drop i,key < b:=fun b g=>by
  obtain ⟨j,m,rfl⟩:=List.getElem_of_mem g
  simp only [yj] at m
  have d:=e (i + j) af af
  have h0:=e i (dN _) af
  rw [gG af] at d h0 k
  simp only [Gu] at d h0 k
  have n:i < ks.length:=af
  simp only [n,decide_true,Bool.true_and,decide_eq_false_iff_not] at k
  simp only [List.getElem_drop]
  by_cases p:j=0
  ·subst p
   simp only [I9] at d ⊢
   omega
  ·have:=List.pairwise_iff_getElem.1 h i (i + j) af af af
   omega
 refine List.pairwise_append.2 ⟨h.sublist (List.take_sublist _ _),?_,?_⟩
 ·exact List.pairwise_cons.2 ⟨g,h.sublist (List.drop_sublist _ _)⟩
 ·intro a d b r
  rcases List.mem_cons.1 r with rfl | r
  ·exact f a d
  ·have:=f a d
   have:=g b r
   omega
def nR (ks:List Int) (key:Int):Nat:=(ks.takeWhile fun k=>decide (k < key)).length
theorem lQ {ks:List Int} (h:ks.Pairwise (· < ·)) (key:Int):mI ks key (nR ks key):=by
 induction ks with
 | nil=>exact ⟨by simp [nR],fun j d=>by simp [nR] at d,fun j _ d=>by simp at d⟩
 | cons k ks ih=>
  rw [List.pairwise_cons] at h
  obtain ⟨g,i⟩:=h
  obtain ⟨a,b,c⟩:=ih i
  by_cases f:k < key
  ·have e:nR (k :: ks) key=nR ks key + 1:=by simp [nR,f]
   rw [e]
   refine ⟨by simpa using a,fun j d=>?_,fun j l h4=>?_⟩
   ·cases j with
    | zero=>simpa using f
    | succ j=>simpa using b j af
   ·cases j with
    | zero=>omega
    | succ j=>simpa using c j af (by simpa using h4)
  ·have e:nR (k :: ks) key=0:=by simp [nR,f]
   rw [e]
   refine ⟨bE,fun j d=>af,fun j _ h4=>?_⟩
   cases j with
   | zero=>simp;omega
   | succ j=>
    have d:j < ks.length:=by simpa using h4
    have:=g ks[j] (List.getElem_mem d)
    simp [gG d]
    omega
theorem qa {ks:List Int} {key:Int} {i:Nat} (p:ks.Pairwise (· < ·)) (r:mI ks key i):(decide (i < ks.length) && decide (ks[i]?.getD 0=key))=decide (key∈ks):=by
 obtain ⟨u,g,k⟩:=r
 by_cases f:key∈ks
 ·obtain ⟨j,l,e⟩:=List.getElem_of_mem f
  have s:i<=j:=by
   rcases Nat.lt_or_ge j i with h | h
   ·have:=g j h
    rw [gG l] at this
    simp [e] at this
   ·exact h
  have m:j=i:=by
   rcases Nat.lt_or_ge i j with h | h
   ·have x:=List.pairwise_iff_getElem.1 p i j af l h
    have n:=k i (dN _) af
    rw [gG af] at n
    simp at n
    omega
   ·omega
  subst m
  simp [f,l,e]
 ·rw [decide_eq_false f]
  by_cases d:i < ks.length
  ·have:ks[i]≠key:=fun e=>f (e▸List.getElem_mem d)
   simp [d,this]
  ·simp [d]
def pO (ks:List Int) (key:Int):List Int:=if key∈ks then ks else ks.take (nR ks key) ++ ([key] ++ ks.drop (nR ks key))
def DD {α:Type} (ks:List Int) (us:List α) (key:Int) (v:α):List α:=if key∈ks then us.set (nR ks key) v else us.take (nR ks key) ++ ([v] ++ us.drop (nR ks key))
theorem JF {ks:List Int} (d:ks.Pairwise (· < ·)) (key:Int):nR ks key<=ks.length:=(lQ d key).1
theorem DF {ks:List Int} (d:ks.Pairwise (· < ·)) {key:Int} (h:key∈ks):nR ks key < ks.length/\ks[nR ks key]?.getD 0=key:=by
 have:=qa d (lQ d key)
 rw [decide_eq_true h] at this
 simpa using this
theorem JG {ks:List Int} {key x:Int}:x∈pO ks key↔x=key∨x∈ks:=by
 unfold pO
 split
 ·rename_i h
  constructor
  ·exact .inr
  ·rintro (rfl | d)
   ·exact h
   ·exact d
 ·rw [MY,MY,Vd]
  constructor
  ·rintro (h | h | h)
   ·exact .inr (List.mem_of_mem_take h)
   ·exact .inl h
   ·exact .inr (List.mem_of_mem_drop h)
  ·rintro (h | h)
   ·exact .inr (.inl h)
   ·rw [<- List.take_append_drop (nR ks key) ks,MY] at h
    rcases h with h | h
    ·exact .inl h
    ·exact .inr (.inr h)
theorem GK {ks:List Int} (d:ks.Pairwise (· < ·)) (key:Int):(pO ks key).Pairwise (· < ·):=by
 unfold pO
 split
 ·exact d
 ·rename_i h
  exact Cb d (lQ d key) (by rw [qa d (lQ d key)];exact decide_eq_false h)
theorem JH {ks:List Int} (d:ks.Pairwise (· < ·)) (key:Int):(pO ks key).length=if key∈ks then ks.length else ks.length + 1:=by
 unfold pO
 split
 ·rfl
 ·have:=JF d key
  simp
  omega
theorem JI:∀ {xs d:List Int},xs.Pairwise (· < ·)->d.Pairwise (· < ·)->(∀ x,x∈xs↔x∈d)->xs=d:=by
 intro xs
 induction xs with
 | nil=>
  intro d _ _ h
  cases d with
  | nil=>rfl
  | cons y d=>have:=(h y).2 bE;simp at this
 | cons x xs ih=>
  intro d j hy h
  cases d with
  | nil=>have:=(h x).1 bE;simp at this
  | cons y d=>
   rw [List.pairwise_cons] at j hy
   have k:x=y:=by
    have f:=(h x).1 bE
    have g:=(h y).2 bE
    rw [tF] at f g
    rcases f with f | f
    ·exact f
    ·rcases g with g | g
     ·exact g.symm
     ·have:=hy.1 x f
      have:=j.1 y g
      omega
   subst k
   rw [ih j.2 hy.2 (fun z=>?_)]
   constructor
   ·intro i
    have:=(h z).1 (by simp [i])
    rw [tF] at this
    rcases this with e | e
    ·have:=j.1 z i;omega
    ·exact e
   ·intro i
    have:=(h z).2 (by simp [i])
    rw [tF] at this
    rcases this with e | e
    ·have:=hy.1 z i;omega
    ·exact e
theorem Cc:(prog.info? 281).map (fun i=>(i.zero,i.size,i.bytes))=some (some (.agg #[.bool false,.string ByteArray.empty]),2,24):=ay
theorem Ns {w:World} {base:Nat} {e:TypeId} {size n c:Nat} {A:Option Addr} {xs:List Value} (h:w.ownsRow base e size (.slice A n c) n xs):∀ a,A=some a->base<=a.block:=by
 rintro a rfl
 exact (h.lt a.block rfl).1
theorem GL (A:Option Addr) (n d:Nat) (j:List iF) (C:n<=100000) (y:n=j.length) (w:World) (z:lu w A j) :
 aS 269 #[.slice A n d] w fun e w'=>
  ∃ A' l,e=.returned (.slice A' n l)/\w'.ownsRow w.heap.size 281 2 (.slice A' n l) n (dm j)/\Old w w':=by
 have HL:=aa y
 clear y
 obtain ⟨i0,m,p,r,s⟩:=info_parts Cc
 cases A with
 | none=>
  have h0:n=0:=by
   rcases Nat.eq_zero_or_pos n with h | h
   ·exact h
   ·obtain ⟨b,o,e,_⟩:=z.at_ (k:=0) I4
    cases e
  subst h0
  have u:j=[]:=List.eq_nil_of_length_eq_zero HL.o.symm
  subst u
  have heq:=Lib.run_eql_slice_nil (P:=prog) w 279 281 none 0 d 0 0 underlying279
  go_enter func269,ntmps269
  go_wp2
  go_ret
  exact ⟨_,_,rfl,World.ownsRow_nil _ _ _ _,Old.refl' w⟩
 | some ad=>
  have heq:=Lib.run_eql_slice_nil (P:=prog) w 279 281 (some ad) n d 0 0 underlying279
  go_enter func269,ntmps269
  go_wp2_with (at_builtin;refine wpList_append_own _ rfl (.tmp 5) (.tmp 6) 279 rfl w.heap.size 281 i0 (.agg #[.bool false,.string ByteArray.empty]) 2 24 underlying279 m p r s rfl aW (.slice (some ⟨w.heap.size,0,none⟩) 0 0) 0 [] rfl (World.ownsRow_made w #[] 0 (dN _) aW rfl) ad n d (dm j) rfl (by rw [kQ,HL.o]) (ah.news (ah.alloc z _)) (zU j) qy af bE ?_;intro v' w1 f i _)
  go_ret
  have x:Old w w1:=((Old.refl' w).ag (.cells #[] 281)).grown i bE (fun k e=>by simp [Value.ownBlock] at e;omega)
  rw [mE,qz] at f
  obtain ⟨A',l,rfl⟩:∃ A' l,v'=.slice A' n l:=by
   rcases f.2 with ⟨rfl,rfl⟩ | ⟨g,d,B,rfl,_⟩
   ·exact ⟨_,_,rfl⟩
   ·exact ⟨_,_,rfl⟩
  exact ⟨A',l,rfl,f,x⟩
def Nt (vs:List iF) (k m:Int):om:=
 if k=4 then
  if vs.length=0 then ⟨2,0,ByteArray.empty,[]⟩
  else if (qI vs).1 then ⟨3,vs.length,ByteArray.empty,[]⟩ else ⟨1,vs.length,(qI vs).2,[]⟩
 else if k=5 then
  if m < 1∨(vs.length:Int) < m then ⟨2,0,ByteArray.empty,[]⟩
  else if (vs[m.toNat - 1]?.getD default).1 then ⟨3,m,ByteArray.empty,[]⟩ else ⟨1,m,(vs[m.toNat - 1]?.getD default).2,[]⟩
 else if k=6 then
  if vs.length=0 then ⟨2,0,ByteArray.empty,[]⟩ else ⟨1,vs.length,ByteArray.empty,BJ vs⟩
 else ⟨0,0,ByteArray.empty,[]⟩
def Fu (w0 w:World) (v:Value) (r:om):Prop:=
 ∃ A c,v=.agg #[zi r.code,zi r.fQ,.string r.data,.slice A r.vs.length c]/\aP w A r.vs/\∀ a,A=some a->w0.heap.size<=a.block
theorem Fu.nil (w0 w:World) (c v:Int) (d:ByteArray):Fu w0 w (.agg #[zi c,zi v,.string d,aQ]) ⟨c,v,d,[]⟩:=
 ⟨none,0,rfl,ah.nil _ _,fun _ h=>by cases h⟩
def DI (vs:List iF) (k m aI:Int) (d:ByteArray):List iF×Int×Int:=
 if k=1/\vs≠[]/\(qI vs).1=false then (vs,4,vs.length)
 else if k≠1/\vs=[] then (vs,2,0)
 else if k≠1/\(qI vs).1=true then (vs,3,vs.length)
 else if m≠0/\m≠vs.length then (vs,5,vs.length)
 else if aI<=vs.length then (vs,6,vs.length)
 else (vs ++ [if k=3 then (true,ByteArray.empty) else (false,d)],1,vs.length + 1)
def RH (w0 w:World) (v:Value) (vs:List iF):Prop:=
 ∃ A c,v=.slice A vs.length c/\lu w A vs/\(∀ a,A=some a->w0.heap.size<=a.block)/\vs.length<=c
theorem Nu {w:World} {base:Nat} {e:TypeId} {size n c:Nat} {A:Option Addr} {xs:List Value} (h:w.ownsRow base e size (.slice A n c) n xs):n<=c:=by
 rcases h.2 with ⟨d,rfl⟩ | ⟨g,f,i,d,_,_,j,_⟩
 ·exact Nat.zero_le _
 ·injection d with _ _ k
  omega
theorem yY {a w w':World} {base:Nat} {e:TypeId} {size n:Nat} {v:Value} {xs:List Value} (h:Old a w) (f:w.grownBy w' v.ownBlock) (d:w.ownsRow base e size v n xs) (g:a.heap.size<=base):Old a w':=
 h.grown f h.size (fun k e=>ic g (d.lt k e).1)
theorem wC {w:World} {b b' o:Nat} {v0 f g j:Value} (h:b≠b') :
 ((((w.setCell ⟨b,0,none⟩ v0).setCell ⟨b,1,none⟩ f).setCell ⟨b,2,none⟩ g).setCell ⟨b,3,none⟩ j).cell? ⟨b',o,none⟩=w.cell? ⟨b',o,none⟩:=by
 have d:∀ i,(⟨b,i,none⟩:Addr)≠⟨b',o,none⟩:=fun i e=>h (congrArg Addr.block e)
 rw [World.cell?_setCell_other _ _ _ _ (d 3),World.cell?_setCell_other _ _ _ _ (d 2),World.cell?_setCell_other _ _ _ _ (d 1),World.cell?_setCell_other _ _ _ _ (d 0)]
def Am (vs:List iF) (k m aI:Int) (d:ByteArray):List iF:=if k=1∨k=2∨k=3 then (DI vs k m aI d).1 else vs
def iT (vs:List iF) (k m aI:Int) (d:ByteArray):om:=if k=1∨k=2∨k=3 then ⟨(DI vs k m aI d).2.1,(DI vs k m aI d).2.2,ByteArray.empty,[]⟩ else Nt vs k m
structure jZ where
 seq:Int
 place:Nat
 rep:om
def om.zero:om:=⟨0,0,ByteArray.empty,[]⟩
def jZ.zero:jZ:=⟨0,0,om.zero⟩
structure fG where
 aI:Int
 n:Nat
 f:Int->List iF
 ss:Int->jZ
def fG.new (aI:Int):fG:=⟨aI,0,fun _=>[],fun _=>jZ.zero⟩
structure Q where
 client:Int
 seq:Int
 kind:Int
 id:Int
 eD:Int
 data:ByteArray
def Q.v (q:Q):Value:=.agg #[zi q.client,zi q.seq,zi q.kind,zi q.id,zi q.eD,.string q.data]
def Q.may (q:Q):Bool:=mX q.client q.seq q.kind q.id q.eD q.data
def fG.Am (s:fG) (q:Q):List iF:=YthihpfpbiajddaaGreat.Am (s.f q.id) q.kind q.eD s.aI q.data
def fG.iT (s:fG) (q:Q):om:=YthihpfpbiajddaaGreat.iT (s.f q.id) q.kind q.eD s.aI q.data
def fG.done (s:fG) (q:Q):fG:=⟨s.aI,s.n + 1,fun i=>if i=q.id then s.Am q else s.f i,fun c=>if c=q.client then ⟨q.seq,s.n + 1,s.iT q⟩ else s.ss c⟩
def fG.may (s:fG) (q:Q):Bool:=q.may && dU q.kind && decide ((s.ss q.client).seq < q.seq)
def fG.put (s:fG) (q:Q):fG:=if s.may q then s.done q else s
def fG.err (s:fG) (q:Q):Int:=if q.may && dU q.kind then (if (s.ss q.client).seq < q.seq then 0 else 9) else 1
def fG.rep (s:fG) (q:Q):om:=if s.may q then s.iT q else om.zero
def Fv (q:Q):Bool:=q.may && !dU q.kind
def fG.ask (s:fG) (q:Q):om:=if Fv q then Nt (s.f q.id) q.kind q.eD else om.zero
def dS (f:Int->List iF):List Int:=((List.range 32).map Int.ofNat).filter fun i=>decide (f i≠[])
theorem rZ {f:Int->List iF} {k:Int}:k∈dS f↔(0<=k/\k<=31)/\f k≠[]:=by
 unfold dS
 simp only [List.mem_filter,List.mem_map,List.mem_range,rJ]
 constructor
 ·rintro ⟨⟨n,d,rfl⟩,h⟩
  exact ⟨⟨bE,jR⟩,h⟩
 ·rintro ⟨⟨e,g⟩,h⟩
  exact ⟨⟨k.toNat,af,jR⟩,h⟩
theorem qb (f:Int->List iF):(dS f).Pairwise (· < ·):=by
 unfold dS
 refine List.Pairwise.filter _ ?_
 rw [List.pairwise_map]
 exact List.pairwise_lt_range.imp fun h=>by simpa using h
theorem pP (f:Int->List iF):(dS f).length<=32:=by
 unfold dS
 refine ic (List.length_filter_le _ _) ?_
 simp
theorem JJ {f:Int->List iF} {id:Int} {l:List iF} (h:0<=id/\id<=31) (e:l≠[]):pO (dS f) id=dS (fun i=>if i=id then l else f i):=by
 refine JI (GK (qb f) id) (qb _) fun x=>?_
 rw [JG,rZ,rZ]
 by_cases d:x=id
 ·subst d;simp [h,e]
 ·simp [d]
theorem Nv {α:Type} {ks:List Int} (r:ks.Pairwise (· < ·)) {n:List α} (A:n.length=ks.length) {id:Int} {u:α} {i:Nat} {k:Int} {v:α} (d:(pO ks id)[i]?=some k) (f:(DD ks n id u)[i]?=some v) :
 (k=id/\v=u)∨∃ j:Nat,ks[j]?=some k/\n[j]?=some v/\k≠id:=by
 unfold pO at d
 unfold DD at f
 by_cases s:id∈ks
 ·rw [if_pos s] at d f
  obtain ⟨g,l⟩:=DF r s
  by_cases x:i=nR ks id
  ·subst x
   rw [gG g] at l d
   simp at l d
   rw [ME af] at f
   injection f with f
   exact .inl ⟨af,f.symm⟩
  ·rw [MF (Ne.symm x)] at f
   refine .inr ⟨i,d,f,fun e=>x ?_⟩
   subst e
   have m:=(List.getElem?_eq_some_iff.1 d).1
   have B:ks[i]'m=k:=(List.getElem?_eq_some_iff.1 d).2
   rw [gG g] at l
   simp at l
   rcases Nat.lt_trichotomy i (nR ks k) with h | h | h
   ·have:=List.pairwise_iff_getElem.1 r i (nR ks k) m g h;omega
   ·exact h
   ·have:=List.pairwise_iff_getElem.1 r (nR ks k) i g m h;omega
 ·rw [if_neg s] at d f
  have C:=JF r id
  have p:∀ {j:Nat},ks[j]?=some k->k≠id:=fun {j} h e=>s (e▸EY h)
  rcases Nat.lt_trichotomy i (nR ks id) with h | h | h
  ·rw [BG jR,List.getElem?_take_of_lt h] at d f
   exact .inr ⟨i,d,f,p d⟩
  ·subst h
   rw [Dr jR] at d f
   have y:nR ks id - (ks.take (nR ks id)).length=0:=jR
   have z:nR ks id - (n.take (nR ks id)).length=0:=jR
   rw [y] at d
   rw [z] at f
   simp at d f
   exact .inl ⟨d.symm,f.symm⟩
  ·have y:(ks.take (nR ks id)).length=nR ks id:=by simp;omega
   have z:(n.take (nR ks id)).length=nR ks id:=jR
   rw [Dr af,y,Dr jR] at d
   rw [Dr af,z,Dr jR] at f
   simp only [iR,jV,List.getElem?_drop] at d f
   exact .inr ⟨_,d,f,p d⟩
def Nw (v:iF):List Int:=oU v.1 ++ jD v.2
def yB (x:jZ):List Int:=gB x.seq.toNat ++ gB x.place
def Ny (f:Int->List iF) (k:Int):List Int:=gB k.toNat ++ gB (f k).length ++ (f k).flatMap Nw
def fG.bytes (s:fG):List Int:=gB s.n ++ (yB (s.ss 0) ++ yB (s.ss 1) ++ yB (s.ss 2) ++ yB (s.ss 3)) ++ (dS s.f).flatMap (Ny s.f)
end Go.Proofs.YthihpfpbiajddaaGreat
