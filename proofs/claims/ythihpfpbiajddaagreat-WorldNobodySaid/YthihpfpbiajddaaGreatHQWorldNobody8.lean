/- Parts of the proof. -/
import Derived.Test.YthihpfpbiajddaaGreatHQWorldNobody7
set_option maxRecDepth 100000
set_option maxHeartbeats 8000000
open Go.Proofs.Tryz
namespace Go.Proofs.YthihpfpbiajddaaGreat
open Go.RowKit
theorem DK:(prog.info? 279).map (fun i=>(i.zero,i.size,i.bytes))=some (some aQ,1,24):=ay
theorem Nz:(prog.info? 279).map (·.size)=some 1:=ay
theorem RI:∀ w,(Go.sizeOf 279).run prog w=.ok 1 w:=fun _=>ay
theorem JK (base n i:Nat) (A:Option Addr) (r:Nat) (xs:List Value) (x:Value) (w:World) (d:w.ownsRow base 279 1 (.slice A n i) n xs) (N:n<=99999) (u:x.oneCell'=true) (y:Bk w r 279 #[x]) (f:base<=w.heap.size) :
 aS 272 #[.slice A n i,zi n,.slice (some ⟨r,0,none⟩) 1 1] w fun e w'=>
  ∃ A' C,e=.returned (.slice A' (n + 1) C)/\fZ w base 279 1 (.slice A n i) (n + 1) (xs ++ [x]) (.slice A' (n + 1) C) w':=by
 obtain ⟨i0,j,k,l,m⟩:=info_parts DK
 obtain ⟨O,c0,E,F,G⟩:=bI d
 injection E with z _ H
 subst z H
 cases A with
 | none=>
  have h0:n=0/\i=0:=by
   rcases d.2 with ⟨h,I⟩ | ⟨g,c,J,h,_⟩
   ·injection h with _ _ p;exact ⟨I,p⟩
   ·injection h with K;cases K
  obtain ⟨rfl,rfl⟩:=h0
  go_enter func272,ntmps272
  go_wp2_with (at_builtin;refine bT _ rfl (.tmp 23) (.tmp 24) 262 rfl base 279 i0 aQ 1 24 underlying262 j k l m rfl aW _ _ _ rfl d (some ⟨r,0,none⟩) 1 1 [x] rfl rfl (cz y) (by simpa using u) qy af f 1 (mE _) _ rfl ?_;intro A2 c2 D p)
  go_ret
  exact ⟨A2,c2,rfl,p⟩
 | some a=>
  obtain ⟨_,_,L⟩:=G a rfl
  obtain ⟨g,o,sp⟩:=a
  injection L with _ z M
  subst z M
  have B:=(iG d).2
  unfold maxLen at B
  have P:(0:Int)<=(n:Int):=af
  have q1:(n:Int)<=(n:Int):=af
  have R:(n:Int)<=(i:Int):=af
  by_cases s:i=n
  ·subst s
   go_enter func272,ntmps272
   go_wp2_with (at_builtin;refine bT _ rfl (.tmp 23) (.tmp 24) 262 rfl base 279 i0 aQ 1 24 underlying262 j k l m rfl aW _ _ _ rfl d (some ⟨r,0,none⟩) 1 1 [x] rfl rfl (cz y) (by simpa using u) qy af f _ rfl _ rfl ?_;intro A2 c2 D p)
   go_ret
   exact ⟨A2,c2,rfl,p⟩
  ·go_enter func272,ntmps272
   go_wp2_with (at_builtin;refine bT _ rfl (.tmp 23) (.tmp 24) 262 rfl base 279 i0 aQ 1 24 underlying262 j k l m rfl aW _ _ _ rfl d (some ⟨r,0,none⟩) 1 1 [x] rfl rfl (cz y) (by simpa using u) qy af f _ rfl _ rfl ?_;intro A2 c2 D p)
   go_ret
   exact ⟨A2,c2,rfl,p⟩
theorem GM (base g n i F:Nat) (xs:List Value) (x:Value) (w:World) (d:w.ownsRow base 279 1 (.slice (some ⟨g,0,none⟩) n n) n xs) (hi:i < n) (hn:n<=99999) (U:∀ u∈xs,u.oneCell'=true) (W:x.oneCell'=true) (X:Bk w F 279 #[x]) (j:base<=w.heap.size) :
 aS 272 #[.slice (some ⟨g,0,none⟩) n n,zi i,.slice (some ⟨F,0,none⟩) 1 1] w fun e w'=>
  ∃ h,e=.returned (.slice (some ⟨w.heap.size,0,none⟩) (n + 1) h)/\w'.ownsRow base 279 1 (.slice (some ⟨w.heap.size,0,none⟩) (n + 1) h) (n + 1) (xs.take i ++ ([x] ++ xs.drop i))/\Old w w':=by
 obtain ⟨i0,H,I,J,K⟩:=info_parts DK
 have L:=(iG d).2
 unfold maxLen at L
 have y:xs.length=n:=by have:=d.1;omega
 have hcut:=zV d (k:=i) af
 rw [Nat.mul_one] at hcut
 obtain ⟨h,w1,G,f,l⟩:=yV (P:=prog) 262 3 262 i0 aQ 24 .i64 .i64 underlying262 underlying3 H I J K rfl hcut (n + 1 - i) af af qy af j
 rw [show i + (n + 1 - i)=n + 1 from by omega] at G f
 rw [show (((n + 1 - i:Nat)):Int)=(n:Int) + 1 - (i:Int) from by omega] at G
 obtain ⟨V,z⟩:=iG f
 unfold maxLen at z
 have M:ah w1 (some ⟨F,0,none⟩) [x]:=ah.old (cz X) l
 have m:ah w1 (some ⟨g,i,none⟩) (xs.drop i):=ah.old (pz d i) l
 have y1:over (xs.take i ++ List.replicate (n + 1 - i) (aQ:Value)) i [x]=xs.take i ++ ([x] ++ List.replicate (n - i) (aQ:Value)):=U1
 have y2:over (xs.take i ++ ([x] ++ List.replicate (n - i) (aQ:Value))) (i + 1) (xs.drop i)=xs.take i ++ ([x] ++ xs.drop i):=by
  unfold over
  have e:(xs.take i ++ [x]).length=i + 1:=by rw [ja,vB];simp;omega
  have a:xs.take i ++ ([x] ++ List.replicate (n - i) (aQ:Value))=(xs.take i ++ [x]) ++ List.replicate (n - i) (aQ:Value):=(MI _ _ _).symm
  have hd:(xs.take i ++ [x] ++ List.replicate (n - i) (aQ:Value)).drop (i + 1 + (xs.drop i).length)=[]:=List.drop_of_length_le jR
  rw [a,List.take_left' e,hd]
  simp
 have Y:g < w.heap.size:=vN d
 have A:∀ u∈xs.drop i,u.oneCell'=true:=fun u Z=>U u (List.mem_of_mem_drop Z)
 have B:(xs.drop i).length=n - i:=by rw [yj,y]
 have C:∀ u∈[x],u.oneCell'=true:=by simpa using W
 have HZ:=aa G
 have D:=aa B
 have N:=aa y1
 have O:=aa y2
 have R:=aa C
 have S:=aa A
 have q0:(0:Int)<=(i:Int):=af
 have q1:(i:Int)<=(n:Int):=af
 have q3:((i:Int) == (n:Int))=false:=by rw [beq_eq_false_iff_ne];omega
 have q4:(i:Int)<=(h:Int):=af
 have q5:(i:Int) + 1<=(h:Int):=af
 have q6:(0:Int)<=(i:Int) + 1:=af
 have q7:(i:Int) + 1<=(n:Int) + 1:=af
 have q8:(i:Int)<=(n:Int) + 1:=af
 have q9:¬ h=i:=af
 have GI:¬ h=i + 1:=af
 have UH:¬ n=i:=af
 have MJ:IntKind.i64.wrap ((i:Int) + 1)=(i:Int) + 1:=kP _ af
 clear G B y1 y2 C A U y hcut
 go_enter func272,ntmps272
 go_wp2_with
  (first
   | (at_builtin;refine Lib.wpList_append_run _ rfl (.tmp 34) (.tmp 39) 262 3 rfl _ _ rfl rfl _ _ HZ.o ?_)
   | ((with_reducible refine iH (.tmp 43) (.tmp 44) 262 Tryz.underlying262 Nz (some ⟨w.heap.size,i,none⟩) (some ⟨F,0,none⟩) (n + 1 - i) (h - i) 1 1 f i [x] M R.o _ ?_ ?_ ?_ ?_ ?_ N.o ?_);(· rfl);(· rfl);(· show (1:Nat)=min 1 (n + 1 - i);omega);(· exact fun _=>rfl);(· show i + 1<=n + 1;omega);intro w2 p E))
 have r:ah w2 (some ⟨g,i,none⟩) (xs.drop i):=m.fr E (fun _ a e=>by cases e;simp;omega)
 go_region_law ((refine kF rfl (.tmp 50) (.tmp 53) 262 iW underlying262 Nz (some ⟨w.heap.size,i + 1,none⟩) (some ⟨g,i,none⟩) (n - i) (h - (i + 1)) (n - i) (n - i) EV EV (by exact p) (i + 1) (xs.drop i) (by rw [D.o];show n - i=min (n - i) (n - i);omega) (fun _=>rfl) (by exact r) (by rw [D.o];omega) S.o _ O.o ?_;intro w3 s T))
 go_wp2
 go_ret
 exact ⟨h,rfl,s,Old.iE (Old.drew' (Old.iE l E (fun k e=>by subst e;exact dN _))) T (fun k e=>by subst e;exact dN _)⟩
theorem GN (base g n d i s:Nat) (xs:List Value) (x:Value) (w:World) (f:w.ownsRow base 279 1 (.slice (some ⟨g,0,none⟩) n d) n xs) (hi:i < n) (O:n + 1<=d) (hn:n<=99999) (M:∀ u∈xs,u.oneCell'=true) (R:x.oneCell'=true) (N:Bk w s 279 #[x]) (z:s≠g) :
 aS 272 #[.slice (some ⟨g,0,none⟩) n d,zi i,.slice (some ⟨s,0,none⟩) 1 1] w fun e w'=>
  e=.returned (.slice (some ⟨g,0,none⟩) (n + 1) d)/\w'.ownsRow base 279 1 (.slice (some ⟨g,0,none⟩) (n + 1) d) (n + 1) (xs.take i ++ ([x] ++ xs.drop i))/\Fr (fun k=>k=g) w w':=by
 obtain ⟨i0,S,T,U,V⟩:=info_parts DK
 have G:=(iG f).2
 unfold maxLen at G
 have A:xs.length=n:=by have:=f.1;omega
 obtain ⟨y,l⟩:=BZ f O
 obtain ⟨_,_,_,W,j,h,_⟩:=gV f
 have X:=fun (lb Y:Nat)=>yX (P:=prog) (w:=w) 279 _ 4 262 func279 ay ay ay ay underlying262 RI N j z (by rw [h];omega) 0 (i + 1) 1 1 lb Y
 have m:ah w (some ⟨g,i,none⟩) (xs.drop i):=pz f i
 have y1:over (xs ++ [y]) (i + 1) (xs.drop i)=xs.take (i + 1) ++ xs.drop i:=UY
 have y2:over (xs.take (i + 1) ++ xs.drop i) i [x]=xs.take i ++ ([x] ++ xs.drop i):=US
 have B:∀ u∈xs.drop i,u.oneCell'=true:=fun u Z=>M u (List.mem_of_mem_drop Z)
 have C:(xs.drop i).length=n - i:=by rw [yj,A]
 have D:∀ u∈[x],u.oneCell'=true:=by simpa using R
 have E:=aa C
 have H:=aa y1
 have I:=aa y2
 have J:=aa D
 have K:=aa B
 have q0:(0:Int)<=(i:Int):=af
 have q1:(i:Int)<=(n:Int):=af
 have q3:((i:Int) == (n:Int))=false:=by rw [beq_eq_false_iff_ne];omega
 have q4:(i:Int)<=(d:Int):=af
 have q5:(i:Int) + 1<=(d:Int):=af
 have q6:(0:Int)<=(i:Int) + 1:=af
 have q7:(i:Int) + 1<=(n:Int) + 1:=af
 have q8:(i:Int)<=(n:Int) + 1:=af
 have q9:¬ d=i:=af
 have GI:¬ d=i + 1:=af
 have MJ:IntKind.i64.wrap ((i:Int) + 1)=(i:Int) + 1:=kP _ af
 clear C y1 y2 D B M A f j h
 go_enter func272,ntmps272
 go_wp2_with fail
 go_region_law ((refine kF rfl (.tmp 73) (.tmp 76) 262 iW underlying262 Nz (some ⟨g,i + 1,none⟩) (some ⟨g,i,none⟩) (n - i) (d - (i + 1)) (n + 1 - i) (d - i) EV EV (by exact l) (i + 1) (xs.drop i) (by rw [E.o];show n - i=min (n + 1 - i) (n - i);omega) (fun _=>rfl) (by exact m) (by rw [E.o];omega) K.o _ H.o ?_;intro w2 p F))
 have h:ah w2 (some ⟨s,0,none⟩) [x]:=cz ((N.drew).fr F z)
 go_wp2_with
  ((with_reducible refine iH (.tmp 80) (.tmp 81) 262 underlying262 Nz (some ⟨g,i,none⟩) (some ⟨s,0,none⟩) (n + 1 - i) (d - i) 1 1 p i [x] h J.o _ ?_ ?_ ?_ ?_ ?_ I.o ?_);(· rfl);(· rfl);(· show (1:Nat)=min 1 (n + 1 - i);omega);(· exact fun _=>rfl);(· show i + 1<=n + 1;omega);intro w3 r L)
 go_ret
 exact ⟨rfl,r,Fr.trans (Fr.trans (Fr.refl _ w).drew F) L⟩
theorem JL (base n d i m:Nat) (A:Option Addr) (xs:List Value) (x:Value) (w:World) (f:w.ownsRow base 279 1 (.slice A n d) n xs) (L:i<=n) (s:n<=99999) (F:∀ u∈xs,u.oneCell'=true) (y:x.oneCell'=true) (z:Bk w m 279 #[x]) (B:(Value.slice A n d).ownBlock≠some m) (j:base<=w.heap.size) :
 aS 272 #[.slice A n d,zi i,.slice (some ⟨m,0,none⟩) 1 1] w fun e w'=>
  ∃ A' p,e=.returned (.slice A' (n + 1) p)/\w'.ownsRow base 279 1 (.slice A' (n + 1) p) (n + 1) (xs.take i ++ ([x] ++ xs.drop i))/\Fr (fun k=>(Value.slice A n d).ownBlock=some k) w w'/\
   ∀ k,(Value.slice A' (n + 1) p).ownBlock=some k->(Value.slice A n d).ownBlock=some k∨w.heap.size<=k:=by
 have G:xs.length=n:=by have:=f.1;omega
 by_cases l:i=n
 ·subst l
  refine (JK base i d A m xs x w f s y z j).mono fun e w' ⟨A',p,l,C⟩=>⟨A',p,l,?_,C.fr (fun k _ h=>h),fun k r=>?_⟩
  ·rw [List.take_of_length_le af,List.drop_of_length_le af]
   exact C.own
  ·rcases C.2.2 with h | h
   ·left;rw [<- h];exact r
   ·right;rw [r] at h;injection h with h;omega
 ·obtain ⟨g,c,e,_,M⟩:=f.form af
  injection e with H _ I
  subst H I
  by_cases J:n + 1<=d
  ·refine (GN base g n d i m xs x w f af J s F y z (fun e=>B (by subst e;rfl))).mono fun e w' ⟨l,D,E⟩=>⟨_,_,l,D,E.mono (fun k _ h=>by subst h;rfl),fun k r=>.inl r⟩
  ·have K:=(iG f).1
   obtain rfl:d=n:=af
   refine (GM base g d i m xs x w f af s F y z j).mono fun e w' ⟨p,l,D,E⟩=>⟨_,_,l,D,Fr.aj E,fun k r=>.inr ?_⟩
   simp [Value.ownBlock] at r
   omega
structure iI (w:World) (base g o:Nat) (K V:Value) (ks:List Int) (vs:List Value):Prop where
 k0:w.cell? ⟨g,o,none⟩=some K
 v0:w.cell? ⟨g,o + 1,none⟩=some V
 fk:w.frozen? ⟨g,o,none⟩=false
 fv:w.frozen? ⟨g,o + 1,none⟩=false
 ko:w.ownsRow base 3 1 K ks.length (ks.map (Value.int .i64))
 vo:w.ownsRow base 279 1 V ks.length vs
 one:∀ u∈vs,u.oneCell'=true
 ne:∀ k,K.ownBlock=some k->V.ownBlock≠some k
 kg:K.ownBlock≠some g
 vg:V.ownBlock≠some g
 low:base<=g
 lt:g < w.heap.size
 NA:ks.Pairwise (· < ·)
def kX (g o:Nat) (w w':World):Prop:=∀ j,j≠o->j≠o + 1->w'.cell? ⟨g,j,none⟩=w.cell? ⟨g,j,none⟩/\w'.frozen? ⟨g,j,none⟩=w.frozen? ⟨g,j,none⟩
theorem kX.Qd {g o:Nat} {w w':World} {S:Nat->Prop} (d:Fr S w w') (e:g < w.heap.size) (f:¬ S g):kX g o w w':=fun j _ _=>⟨d.cell (p:=⟨g,j,none⟩) e f,d.frozen (p:=⟨g,j,none⟩) e f⟩
theorem kX.set2 {g o:Nat} {w W:World} {a b:Value} (h:kX g o w W):kX g o w ((W.setCell ⟨g,o,none⟩ a).setCell ⟨g,o + 1,none⟩ b):=fun j d f=>by
 obtain ⟨c1,f1⟩:=h j d f
 refine ⟨?_,?_⟩
 ·rw [World.cell?_setCell_other _ _ _ _ (by intro e;injection e;omega),World.cell?_setCell_other _ _ _ _ (by intro e;injection e;omega)]
  exact c1
 ·simp only [World.frozen?_setCell]
  exact f1
theorem JM {w W1 f:World} {base g o:Nat} {K V K' V':Value} {ks ks':List Int} {E vs':List Value} (h:iI w base g o K V ks E) (D:vs'.length=ks'.length)
 (i:Fr (fun k=>K.ownBlock=some k∨V.ownBlock=some k) w f) (F:w.heap.size<=W1.heap.size) (m:Fr (fun k=>V.ownBlock=some k) W1 f)
 (n:W1.ownsRow base 3 1 K' ks'.length (ks'.map (Value.int .i64))) (B:f.ownsRow base 279 1 V' ks'.length vs')
 (j:∀ k,K'.ownBlock=some k->K.ownBlock=some k∨w.heap.size<=k) (l:∀ k,V'.ownBlock=some k->V.ownBlock=some k∨W1.heap.size<=k) (r:∀ u∈vs',u.oneCell'=true) (G:ks'.Pairwise (· < ·)) :
 iI ((f.setCell ⟨g,o,none⟩ K').setCell ⟨g,o + 1,none⟩ V') base g o K' V' ks' vs'/\Fr (pN g K V) w ((f.setCell ⟨g,o,none⟩ K').setCell ⟨g,o + 1,none⟩ V')/\kX g o w ((f.setCell ⟨g,o,none⟩ K').setCell ⟨g,o + 1,none⟩ V')/\∀ k,pN g K' V' k->pN g K V k∨w.heap.size<=k:=by
 have s:∀ k,V.ownBlock=some k->k < w.heap.size:=fun k d=>(h.vo.lt k d).2
 have x:∀ {S:Nat->Prop},(∀ k,S k->K.ownBlock=some k∨V.ownBlock=some k)->¬ S g:=fun H I=>(H g I).elim h.kg h.vg
 have gk:K'.ownBlock≠some g:=fun e=>by
  rcases j g e with e | e
  ·exact h.kg e
  ·have:=h.lt;omega
 have C:V'.ownBlock≠some g:=fun e=>by
  rcases l g e with e | e
  ·exact h.vg e
  ·have:=h.lt;omega
 have y:∀ k,K'.ownBlock=some k->V.ownBlock≠some k:=fun k d e=>by
  rcases j k d with z | z
  ·exact h.ne k z e
  ·have:=s k e;omega
 have A:f.ownsRow base 3 1 K' ks'.length (ks'.map (Value.int .i64)):=dh n m y
 have c0:f.cell? ⟨g,o,none⟩=some K:=(i.cell (p:=⟨g,o,none⟩) h.lt (x fun _ h=>h)).trans h.k0
 have c1:f.cell? ⟨g,o + 1,none⟩=some V:=(i.cell (p:=⟨g,o + 1,none⟩) h.lt (x fun _ h=>h)).trans h.v0
 have f0:f.frozen? ⟨g,o,none⟩=false:=(i.frozen (p:=⟨g,o,none⟩) h.lt (x fun _ h=>h)).trans h.fk
 have f1:f.frozen? ⟨g,o + 1,none⟩=false:=(i.frozen (p:=⟨g,o + 1,none⟩) h.lt (x fun _ h=>h)).trans h.fv
 refine ⟨⟨by simp [go_sem,c0],by simp [go_sem,c1],by simp [go_sem,f0],by simp [go_sem,f1],bz (bz A gk _) gk _,bz (bz B C _) C _,r,fun k d e=>?_,gk,C,h.low,?_,G⟩,?_,(kX.Qd i h.lt (x fun _ h=>h)).set2,fun k d=>?_⟩
 ·rcases l k e with z | z
  ·exact y k d z
  ·have:=(n.lt k d).2;omega
 ·have:=h.lt
  have:=i.size
  simp [World.setCell]
  omega
 ·exact Fr.setCell (p:=⟨g,o + 1,none⟩) (Fr.setCell (p:=⟨g,o,none⟩) (i.mono fun k _ d=>.inr d) (.inr (.inl rfl)) _) (.inr (.inl rfl)) _
 ·rcases d with rfl | d | d
  ·exact .inl (.inl rfl)
  ·rcases j k d with e | e
   ·exact .inl (.inr (.inl e))
   ·exact .inr e
  ·rcases l k d with e | e
   ·exact .inl (.inr (.inr e))
   ·exact .inr af
theorem JN (base g o i n f m:Nat) (A B:Option Addr) (ks:List Int) (p:List Value) (key:Int) (d:n=ks.length) (r:n<=100000) (j:mI ks key i) (k:(decide (i < n) && decide (ks[i]?.getD 0=key))=false) (w:World) (h:iI w base g o (.slice A n f) (.slice B n m) ks p) :
 aS 262 #[av g o,zi key] w fun e w'=>e=.returned (.tuple #[aQ,.bool false])/\w=w':=by
 have l:=h.ko
 rw [<- d] at l
 have s:=aa (vD A n f i ks key false d r j k w (ah.bA l))
 clear j k d
 have u:=h.k0
 go_enter func262,ntmps262
 go_wp2_with (go_at_call 268;refine s.o.mono ?_;rintro e w1 ⟨rfl,rfl⟩)
 go_ret2
 exact ⟨rfl,rfl⟩
theorem GQ (base g o i n j x:Nat) (A B:Option Addr) (ks:List Int) (k:List Value) (key:Int) (u:Value) (d:n=ks.length) (y:n<=100000) (l:mI ks key i) (z:i < n) (m:ks[i]?.getD 0=key) (p:k[i]?=some u) (w:World) (h:iI w base g o (.slice A n j) (.slice B n x) ks k) :
 aS 262 #[av g o,zi key] w fun e w'=>e=.returned (.tuple #[u,.bool true])/\w=w':=by
 have r:=h.ko
 have f:=h.vo
 rw [<- d] at r f
 have C:=aa (vD A n j i ks key true d y l (by simp [z,m]) w (ah.bA r))
 obtain ⟨b,G,rfl,H,s⟩:=(ah.bA f) (by have:=f.1;intro e;subst e;simp at p)
 have D:=s i u p
 clear l d m s
 have I:=h.k0
 have v0:=h.v0
 have E:(i:Int) < n:=af
 have F:(0:Int)<=i:=af
 go_enter func262,ntmps262
 go_wp2_with (go_at_call 268;refine C.o.mono ?_;rintro e w1 ⟨rfl,rfl⟩)
 go_ret2
 exact ⟨rfl,rfl⟩
theorem JO {w:World} {base g o b n i f j:Nat} {A:Option Addr} {ks:List Int} {s:List Value} (u:Value) (y:n=ks.length) (B:u.oneCell'=true) (h:iI w base g o (.slice A n f) (.slice (some ⟨b,0,none⟩) n j) ks s) :
 iI (w.setCell ⟨b,i,none⟩ u) base g o (.slice A n f) (.slice (some ⟨b,0,none⟩) n j) ks (s.set i u)/\Fr (pN g (.slice A n f) (.slice (some ⟨b,0,none⟩) n j)) w (w.setCell ⟨b,i,none⟩ u)/\kX g o w (w.setCell ⟨b,i,none⟩ u):=by
 have m:(Value.slice (some ⟨b,0,none⟩) n j).ownBlock=some b:=rfl
 have l:b≠g:=fun e=>h.vg (by rw [m,e])
 have C:(Value.slice A n f).ownBlock≠some b:=fun e=>h.ne b e m
 have D:Fr (pN g (.slice A n f) (.slice (some ⟨b,0,none⟩) n j)) w (w.setCell ⟨b,i,none⟩ u):=Fr.setCell (p:=⟨b,i,none⟩) (Fr.aj (Old.refl' w)) (.inr (.inr (.inr m))) u
 have d:Fr (fun k=>k=b) w (w.setCell ⟨b,i,none⟩ u):=Fr.setCell (S:=fun k=>k=b) (p:=⟨b,i,none⟩) (Fr.aj (Old.refl' w)) (.inr rfl) u
 have z:=h.vo
 rw [<- y] at z
 refine ⟨⟨(d.cell (p:=⟨g,o,none⟩) h.lt (Ne.symm l)).trans h.k0,(d.cell (p:=⟨g,o + 1,none⟩) h.lt (Ne.symm l)).trans h.v0,(d.frozen (p:=⟨g,o,none⟩) h.lt (Ne.symm l)).trans h.fk,(d.frozen (p:=⟨g,o + 1,none⟩) h.lt (Ne.symm l)).trans h.fv,
  bz (p:=⟨b,i,none⟩) h.ko C u,?_,fun x r=>?_,h.ne,h.kg,h.vg,h.low,iD h.lt d.size,h.NA⟩,D,kX.Qd d h.lt (Ne.symm l)⟩
 ·rw [<- y]
  exact Gw z i u
 ·rcases List.mem_or_eq_of_mem_set r with r | rfl
  ·exact h.one x r
  ·exact B
theorem JP (base g o i n j l:Nat) (A B:Option Addr) (ks:List Int) (m:List Value) (key:Int) (p:Option Addr) (r c3:Nat) (u:Value) (k:n=ks.length) (N:n<=99999) (x:mI ks key i) (C:i < n) (y:ks[i]?.getD 0=key) (D:m[i]?=some u) (w:World) (h:iI w base g o (.slice A n j) (.slice B n l) ks m) :
 aS 264 #[av g o,zi key,.slice p r c3] w fun e w'=>e=.returned (.tuple #[u,.bool true])/\iI w' base g o (.slice A n j) (.slice B n l) ks (m.set i (.slice p r c3))/\Fr (pN g (.slice A n j) (.slice B n l)) w w'/\kX g o w w':=by
 have z:=h.ko
 have d:=h.vo
 rw [<- k] at z d
 have E:=aa (vD A n j i ks key true k af x (by simp [C,y]) w (ah.bA z))
 cases B with
 | none=>
  have F:=d.2
  simp [Value.ownBlock] at F
  have O:=d.1
  omega
 | some a=>
 obtain ⟨b,q,f⟩:=a
 obtain ⟨rfl,rfl⟩:q=0/\f=none:=by
  obtain ⟨A2,c2,G,_,H⟩:=bI d
  cases G
  have I:=(H _ rfl).2.2
  cases I
  exact ⟨rfl,rfl⟩
 have J:=lM d i u D
 have K:=Dt d i
 have s:=aa (JO (i:=i) (.slice p r c3) k tC h)
 clear x k y
 have P:=h.k0
 have v0:=h.v0
 have L:(i:Int) < n:=af
 have M:(0:Int)<=i:=af
 go_enter func264,ntmps264
 go_wp2_with (go_at_call 268;refine E.o.mono ?_;rintro e w1 ⟨rfl,rfl⟩)
 go_ret2
 exact ⟨rfl,s.o⟩
theorem JQ (base g o i n z C:Nat) (A B:Option Addr) (ks:List Int) (J:List Value) (key:Int) (l:Option Addr) (m c3:Nat) (P:n=ks.length) (hn:n<=99999) (hp:mI ks key i) (hf:(decide (i < n) && decide (ks[i]?.getD 0=key))=false) (w:World) (h:iI w base g o (.slice A n z) (.slice B n C) ks J) :
 aS 264 #[av g o,zi key,.slice l m c3] w fun e w'=>∃ A' c' B' d',e=.returned (.tuple #[aQ,.bool false])/\iI w' base g o (.slice A' (n + 1) c') (.slice B' (n + 1) d') (ks.take i ++ ([key] ++ ks.drop i)) (J.take i ++ ([.slice l m c3] ++ J.drop i))/\Fr (pN g (.slice A n z) (.slice B n C)) w w'/\kX g o w w'/\∀ k,pN g (.slice A' (n + 1) c') (.slice B' (n + 1) d') k->pN g (.slice A n z) (.slice B n C) k∨w.heap.size<=k:=by
 have cB:=aa (fun (W:World) (hW:aP W A ks)=>vD A n z i ks key false P af hp hf W hW)
 have T:i<=n:=by rw [P];exact hp.1
 have R:=h.ko
 have hv:=h.vo
 rw [<- P] at R hv
 have hvl:J.length=n:=by have:=hv.1;omega
 have V:(ks.take i ++ ([key] ++ ks.drop i)).length=n + 1:=by simp only [ja,vB,yj,iR,jV];omega
 have N:=aa (fun (U G:World) (H I:Option Addr) (c1 d1:Nat) (E:Fr (fun k=>(Value.slice A n z).ownBlock=some k∨(Value.slice B n C).ownBlock=some k) w G) (h1s:w.heap.size<=U.heap.size) (X:Fr (fun k=>(Value.slice B n C).ownBlock=some k) U G)
  (ho1:U.ownsRow base 3 1 (.slice H (n + 1) c1) (n + 1) ((ks.map (Value.int .i64)).take i ++ ([zi key] ++ (ks.map (Value.int .i64)).drop i))) (ho2:G.ownsRow base 279 1 (.slice I (n + 1) d1) (n + 1) (J.take i ++ ([.slice l m c3] ++ J.drop i)))
  (hn1:∀ k,(Value.slice H (n + 1) c1).ownBlock=some k->(Value.slice A n z).ownBlock=some k∨w.heap.size<=k) (hn2:∀ k,(Value.slice I (n + 1) d1).ownBlock=some k->(Value.slice B n C).ownBlock=some k∨U.heap.size<=k)=>
  JM (W1:=U) (K':=.slice H (n + 1) c1) (V':=.slice I (n + 1) d1) (ks':=ks.take i ++ ([key] ++ ks.drop i)) (vs':=J.take i ++ ([.slice l m c3] ++ J.drop i)) h (by simp only [ja,vB,yj,iR,jV];omega) E h1s X
   (by rw [V];simpa only [BH,List.map_take,List.map_drop,BB,IV] using ho1) (by rw [V];exact ho2) hn1 hn2
   (fun u K=>by
    rcases List.mem_append.1 K with K | K
    ·exact h.one u (List.mem_of_mem_take K)
    rcases List.mem_append.1 K with K | K
    ·cases List.mem_singleton.1 K;simp [Value.oneCell']
    ·exact h.one u (List.mem_of_mem_drop K)) (Cb h.NA hp (by rw [<- P];exact hf)))
 have HL:=aa P
 clear hp hf P
 have k0:=h.k0
 have v0:=h.v0
 have L:=h.lt
 have Y:base<=w.heap.size:=ic h.low (Nat.le_of_lt h.lt)
 have F:∀ U,Fr (fun k=>(Value.slice A n z).ownBlock=some k∨(Value.slice B n C).ownBlock=some k) w U->U.cell? ⟨g,o,none⟩=some (.slice A n z)/\U.cell? ⟨g,o + 1,none⟩=some (.slice B n C):=fun U M=>
  ⟨(M.cell (p:=⟨g,o,none⟩) L (fun e=>e.elim h.kg h.vg)).trans k0,(M.cell (p:=⟨g,o + 1,none⟩) L (fun e=>e.elim h.kg h.vg)).trans v0⟩
 have kf:∀ U,Fr (fun k=>(Value.slice A n z).ownBlock=some k∨(Value.slice B n C).ownBlock=some k) w U->U.frozen? ⟨g,o,none⟩=false/\U.frozen? ⟨g,o + 1,none⟩=false:=fun U M=>
  ⟨(M.frozen (p:=⟨g,o,none⟩) L (fun e=>e.elim h.kg h.vg)).trans h.fk,(M.frozen (p:=⟨g,o + 1,none⟩) L (fun e=>e.elim h.kg h.vg)).trans h.fv⟩
 have cK:=aa (fun (W:World) (b1:Nat) (hO:Old w W) (hb:Bk W b1 3 #[zi key]) (hb1:w.heap.size<=b1)=>JE base n z i b1 A (ks.map (Value.int .i64)) (zi key) W (bF R hO) T hn tC rfl hb (fun e=>by have:=(R.lt _ e).2;omega) (ic Y hO.size))
 have cV:=aa (fun (U:World) (b2:Nat) (M:Fr (fun k=>(Value.slice A n z).ownBlock=some k) w U) (hb:Bk U b2 279 #[.slice l m c3]) (hb2:w.heap.size<=b2)=>JL base n C i b2 B J (.slice l m c3) U (dh hv M (fun k O e=>h.ne k e O)) T hn h.one rfl hb (fun e=>by have:=(hv.lt _ e).2;omega) (ic Y M.size))
 go_enter func264,ntmps264
 go_wp2_with (go_at_call 268;refine (cB.o _ (ah.bA R)).mono ?_;rintro e w1 ⟨rfl,rfl⟩)
 refine uz (S:=fun w'=>w'.cell? ⟨g,o,none⟩=some (.slice A n z)/\w'.cell? ⟨g,o + 1,none⟩=some (.slice B n C)) (Z:=[20,23].contains) ay ?_
 refine bu 0 (av g o) rfl ay ay ay (fun _ _ _ h=>h) (Or.inl ⟨iW,fun w _=>dP⟩) ?_
 refine bu 1 (av g o) rfl ay ay ay (fun _ _ _ h=>h) (Or.inl ⟨iW,fun w _=>dP⟩) ?_
 refine bu 2 (av g o) rfl ay ay ay (fun _ _ _ h=>h) (Or.inl ⟨iW,fun w _=>dP⟩) ?_
 refine bu 3 (av g o) rfl ay ay ay (fun _ _ _ h=>h) (Or.inl ⟨iW,fun w _=>dP⟩) ?_
 refine bu 4 (av g o) rfl ay ay ay (fun _ _ _ h=>h) (Or.inl ⟨iW,fun w _=>dP⟩) ?_
 refine pE 5 (.slice A n z) rfl ay ay ay ay (fun _ _ _ h=>h) (Or.inl ⟨iW,fun w' hS=>by obtain ⟨s0,s1⟩:=hS;go_simp⟩) (by exact ⟨k0,v0⟩) ?_
 refine bu 6 (zi i) rfl ay ay ay (fun _ _ _ h=>h) (Or.inl ⟨iW,fun w _=>dP⟩) ?_
 refine bu 7 (zi key) rfl ay ay ay (fun _ _ _ h=>h) (Or.inl ⟨iW,fun w _=>dP⟩) ?_
 refine bu 10 (av g o) rfl ay ay ay (fun _ _ _ h=>h) (Or.inl ⟨iW,fun w _=>dP⟩) ?_
 refine bu 11 (av g o) rfl ay ay ay (fun _ _ _ h=>h) (Or.inl ⟨iW,fun w _=>dP⟩) ?_
 refine bu 12 (av g (o + 1)) rfl ay ay ay (fun _ _ _ h=>h) (Or.inl ⟨iW,fun w _=>dP⟩) ?_
 refine pE 13 (.slice B n C) rfl ay ay ay ay (fun _ _ _ h=>h) (Or.inl ⟨iW,fun w' hS=>by obtain ⟨s0,s1⟩:=hS;go_simp⟩) (by exact ⟨k0,v0⟩) ?_
 refine bu 14 (zi i) rfl ay ay ay (fun _ _ _ h=>h) (Or.inl ⟨iW,fun w _=>dP⟩) ?_
 refine bu 15 (.slice l m c3) rfl ay ay ay (fun _ _ _ h=>h) (Or.inl ⟨iW,fun w _=>dP⟩) ?_
 refine di (rs:=[8,16]) ay bE ?_
 intro j d
 simp only [tF,yh,or_false] at d
 rcases d with rfl | rfl
 ·refine lU (w':=w.drew.alloc (.cells #[zi key] 3)) (.slice (some ⟨w.drew.heap.size,0,none⟩) 1 1) rfl rfl dP ⟨.inr fun _=>F _ (Fr.aj ((Old.refl' w).drew'.ag (.cells #[zi key] 3))),?_⟩
  refine di (rs:=[9,16]) ay bE ?_
  intro j d
  simp only [tF,yh,or_false] at d
  rcases d with rfl | rfl
  ·refine lN rfl rfl 271 _ func271 ay ay [.tmp 42,.tmp 43,.tmp 45] #[34,3,34] rfl [.slice A n z,zi i,.slice (some ⟨w.heap.size,0,none⟩) 1 1] EV (cK.o _ w.heap.size ((Old.refl' w).drew'.ag (.cells #[zi key] 3)) (Bk.new w.drew 3 #[zi key]) (dN _)) ?_
   rintro e W1 ⟨H,c1,rfl,r,f,s⟩
   refine ⟨_,rfl,.inr fun _=>F _ ?Vm,?_⟩
   case Vm=>exact (Fr.aj ((Old.refl' w).drew'.ag (.cells #[zi key] 3))).trans (f.mono fun _ _ h=>.inl h)
   refine di (rs:=[16]) ay bE ?_
   intro j d
   simp only [tF,yh,or_false] at d
   subst d
   refine lU (w':=W1.alloc (.cells #[.slice l m c3] 279)) (.slice (some ⟨W1.heap.size,0,none⟩) 1 1) rfl rfl dP ⟨.inr fun _=>F _ ((Fr.trans (Fr.aj ((Old.refl' w).drew'.ag (.cells #[zi key] 3))) (f.mono fun _ _ h=>.inl h)).alloc _),?_⟩
   refine di (rs:=[17]) ay bE ?_
   intro j d
   simp only [tF,yh,or_false] at d
   subst d
   refine lN rfl rfl 272 _ func272 ay ay [.tmp 50,.tmp 51,.tmp 53] #[262,3,262] rfl [.slice B n C,zi i,.slice (some ⟨W1.heap.size,0,none⟩) 1 1] EV (cV.o _ W1.heap.size ((Fr.trans (Fr.aj ((Old.refl' w).drew'.ag (.cells #[zi key] 3))) f).alloc _) (Bk.new W1 279 #[.slice l m c3]) (by have:=f.size;simp at this;omega)) ?_
   rintro e G ⟨I,d1,rfl,x,D,y⟩
   have E:Fr (fun k=>(Value.slice A n z).ownBlock=some k∨(Value.slice B n C).ownBlock=some k) w G:=(((Fr.trans (Fr.aj ((Old.refl' w).drew'.ag (.cells #[zi key] 3))) f).alloc _).mono fun _ _ h=>.inl h).trans (D.mono fun _ _ h=>.inr h)
   refine ⟨_,rfl,.inr fun _=>F _ E,?_⟩
   obtain ⟨x0,x1⟩:=F _ E
   obtain ⟨y0,y1⟩:=kf _ E
   refine bu 18 (av g o) rfl ay ay ay (fun _ _ _ h=>h) (Or.inl ⟨iW,fun w _=>dP⟩) ?_
   refine bu 19 (av g o) rfl ay ay ay (fun _ _ _ h=>h) (Or.inl ⟨iW,fun w _=>dP⟩) ?_
   refine di (rs:=[20]) ay bE ?_
   intro j d
   simp only [tF,yh,or_false] at d
   subst d
   refine eT rfl rfl ?_
   go_simp
   refine bu 21 (av g o) rfl ay ay ay (fun _ _ _ h=>h) (Or.inl ⟨iW,fun w _=>dP⟩) ?_
   refine bu 22 (av g (o + 1)) rfl ay ay ay (fun _ _ _ h=>h) (Or.inl ⟨iW,fun w _=>dP⟩) ?_
   refine di (rs:=[23]) ay bE ?_
   intro j d
   simp only [tF,yh,or_false] at d
   subst d
   refine eT rfl rfl ?_
   go_simp
   refine mG ay ?_ _
   go_wp2
   go_ret2
   exact ⟨H,c1,I,d1,rfl,N.o _ G H I c1 d1 E ((Fr.trans (Fr.aj ((Old.refl' w).drew'.ag (.cells #[zi key] 3))) f).alloc _).size D (bF r ((Old.refl' W1).ag _)) x (fun k O=>(s k O).imp_right fun q=>by simp at q;omega) y⟩
  ·refine lU (w':=(w.drew.alloc (.cells #[zi key] 3)).alloc (.cells #[.slice l m c3] 279)) (.slice (some ⟨(w.drew.alloc (.cells #[zi key] 3)).heap.size,0,none⟩) 1 1) rfl rfl dP ⟨.inr fun _=>F _ (Fr.aj (((Old.refl' w).drew'.ag (.cells #[zi key] 3)).ag (.cells #[.slice l m c3] 279))),?_⟩
   refine di (rs:=[9]) ay bE ?_
   intro j d
   simp only [tF,yh,or_false] at d
   subst d
   refine lN rfl rfl 271 _ func271 ay ay [.tmp 42,.tmp 43,.tmp 45] #[34,3,34] rfl [.slice A n z,zi i,.slice (some ⟨w.heap.size,0,none⟩) 1 1] EV (cK.o _ w.heap.size (((Old.refl' w).drew'.ag (.cells #[zi key] 3)).ag (.cells #[.slice l m c3] 279)) ((Bk.new w.drew 3 #[zi key]).alloc _) (dN _)) ?_
   rintro e W1 ⟨H,c1,rfl,r,f,s⟩
   refine ⟨_,rfl,.inr fun _=>F _ ?Vm,?_⟩
   case Vm=>exact (Fr.aj (((Old.refl' w).drew'.ag (.cells #[zi key] 3)).ag (.cells #[.slice l m c3] 279))).trans (f.mono fun _ _ h=>.inl h)
   refine di (rs:=[17]) ay bE ?_
   intro j d
   simp only [tF,yh,or_false] at d
   subst d
   refine lN rfl rfl 272 _ func272 ay ay [.tmp 50,.tmp 51,.tmp 53] #[262,3,262] rfl [.slice B n C,zi i,.slice (some ⟨(w.heap.size + 1),0,none⟩) 1 1] EV (cV.o _ (w.heap.size + 1) (Fr.trans (Fr.aj (((Old.refl' w).drew'.ag (.cells #[zi key] 3)).ag (.cells #[.slice l m c3] 279))) f) ((fV w.drew (.cells #[zi key] 3) 279 #[.slice l m c3]).fr f (fun e=>absurd (show w.heap.size + 1 < w.heap.size from (R.lt _ e).2) af)) af) ?_
   rintro e G ⟨I,d1,rfl,x,D,y⟩
   have E:Fr (fun k=>(Value.slice A n z).ownBlock=some k∨(Value.slice B n C).ownBlock=some k) w G:=((Fr.trans (Fr.aj (((Old.refl' w).drew'.ag (.cells #[zi key] 3)).ag (.cells #[.slice l m c3] 279))) f).mono fun _ _ h=>.inl h).trans (D.mono fun _ _ h=>.inr h)
   refine ⟨_,rfl,.inr fun _=>F _ E,?_⟩
   obtain ⟨x0,x1⟩:=F _ E
   obtain ⟨y0,y1⟩:=kf _ E
   refine bu 18 (av g o) rfl ay ay ay (fun _ _ _ h=>h) (Or.inl ⟨iW,fun w _=>dP⟩) ?_
   refine bu 19 (av g o) rfl ay ay ay (fun _ _ _ h=>h) (Or.inl ⟨iW,fun w _=>dP⟩) ?_
   refine di (rs:=[20]) ay bE ?_
   intro j d
   simp only [tF,yh,or_false] at d
   subst d
   refine eT rfl rfl ?_
   go_simp
   refine bu 21 (av g o) rfl ay ay ay (fun _ _ _ h=>h) (Or.inl ⟨iW,fun w _=>dP⟩) ?_
   refine bu 22 (av g (o + 1)) rfl ay ay ay (fun _ _ _ h=>h) (Or.inl ⟨iW,fun w _=>dP⟩) ?_
   refine di (rs:=[23]) ay bE ?_
   intro j d
   simp only [tF,yh,or_false] at d
   subst d
   refine eT rfl rfl ?_
   go_simp
   refine mG ay ?_ _
   go_wp2
   go_ret2
   exact ⟨H,c1,I,d1,rfl,N.o W1 G H I c1 d1 E (Fr.trans (Fr.aj (((Old.refl' w).drew'.ag (.cells #[zi key] 3)).ag (.cells #[.slice l m c3] 279))) f).size D r x (fun k O=>(s k O).imp_right fun q=>by simp at q;omega) y⟩
 ·refine lU (w':=w.drew.alloc (.cells #[.slice l m c3] 279)) (.slice (some ⟨w.drew.heap.size,0,none⟩) 1 1) rfl rfl dP ⟨.inr fun _=>F _ (Fr.aj ((Old.refl' w).drew'.ag (.cells #[.slice l m c3] 279))),?_⟩
  refine di (rs:=[8]) ay bE ?_
  intro j d
  simp only [tF,yh,or_false] at d
  subst d
  refine lU (w':=(w.drew.alloc (.cells #[.slice l m c3] 279)).alloc (.cells #[zi key] 3)) (.slice (some ⟨(w.drew.alloc (.cells #[.slice l m c3] 279)).heap.size,0,none⟩) 1 1) rfl rfl dP ⟨.inr fun _=>F _ (Fr.aj (((Old.refl' w).drew'.ag (.cells #[.slice l m c3] 279)).ag (.cells #[zi key] 3))),?_⟩
  refine di (rs:=[9]) ay bE ?_
  intro j d
  simp only [tF,yh,or_false] at d
  subst d
  refine lN rfl rfl 271 _ func271 ay ay [.tmp 42,.tmp 43,.tmp 45] #[34,3,34] rfl [.slice A n z,zi i,.slice (some ⟨(w.heap.size + 1),0,none⟩) 1 1] EV (cK.o _ (w.heap.size + 1) (((Old.refl' w).drew'.ag (.cells #[.slice l m c3] 279)).ag (.cells #[zi key] 3)) (fV w.drew (.cells #[.slice l m c3] 279) 3 #[zi key]) af) ?_
  rintro e W1 ⟨H,c1,rfl,r,f,s⟩
  refine ⟨_,rfl,.inr fun _=>F _ ?Vm,?_⟩
  case Vm=>exact (Fr.aj (((Old.refl' w).drew'.ag (.cells #[.slice l m c3] 279)).ag (.cells #[zi key] 3))).trans (f.mono fun _ _ h=>.inl h)
  refine di (rs:=[17]) ay bE ?_
  intro j d
  simp only [tF,yh,or_false] at d
  subst d
  refine lN rfl rfl 272 _ func272 ay ay [.tmp 50,.tmp 51,.tmp 53] #[262,3,262] rfl [.slice B n C,zi i,.slice (some ⟨w.heap.size,0,none⟩) 1 1] EV (cV.o _ w.heap.size (Fr.trans (Fr.aj (((Old.refl' w).drew'.ag (.cells #[.slice l m c3] 279)).ag (.cells #[zi key] 3))) f) (((Bk.new w.drew 279 #[.slice l m c3]).alloc (.cells #[zi key] 3)).fr f (fun e=>absurd (show w.heap.size < w.heap.size from (R.lt _ e).2) af)) (dN _)) ?_
  rintro e G ⟨I,d1,rfl,x,D,y⟩
  have E:Fr (fun k=>(Value.slice A n z).ownBlock=some k∨(Value.slice B n C).ownBlock=some k) w G:=((Fr.trans (Fr.aj (((Old.refl' w).drew'.ag (.cells #[.slice l m c3] 279)).ag (.cells #[zi key] 3))) f).mono fun _ _ h=>.inl h).trans (D.mono fun _ _ h=>.inr h)
  refine ⟨_,rfl,.inr fun _=>F _ E,?_⟩
  obtain ⟨x0,x1⟩:=F _ E
  obtain ⟨y0,y1⟩:=kf _ E
  refine bu 18 (av g o) rfl ay ay ay (fun _ _ _ h=>h) (Or.inl ⟨iW,fun w _=>dP⟩) ?_
  refine bu 19 (av g o) rfl ay ay ay (fun _ _ _ h=>h) (Or.inl ⟨iW,fun w _=>dP⟩) ?_
  refine di (rs:=[20]) ay bE ?_
  intro j d
  simp only [tF,yh,or_false] at d
  subst d
  refine eT rfl rfl ?_
  go_simp
  refine bu 21 (av g o) rfl ay ay ay (fun _ _ _ h=>h) (Or.inl ⟨iW,fun w _=>dP⟩) ?_
  refine bu 22 (av g (o + 1)) rfl ay ay ay (fun _ _ _ h=>h) (Or.inl ⟨iW,fun w _=>dP⟩) ?_
  refine di (rs:=[23]) ay bE ?_
  intro j d
  simp only [tF,yh,or_false] at d
  subst d
  refine eT rfl rfl ?_
  go_simp
  refine mG ay ?_ _
  go_wp2
  go_ret2
  exact ⟨H,c1,I,d1,rfl,N.o W1 G H I c1 d1 E (Fr.trans (Fr.aj (((Old.refl' w).drew'.ag (.cells #[.slice l m c3] 279)).ag (.cells #[zi key] 3))) f).size D r x (fun k O=>(s k O).imp_right fun q=>by simp at q;omega) y⟩
def DL (w:World) (F G:Nat->Prop) (v:Value) (l:List iF):Prop:=
 ∃ A c,v=.slice A l.length c/\lu w A l/\l.length<=c/\(l≠[]->∀ a,A=some a->F a.block/\¬ G a.block)
def qJ (w:World) (g o:Nat) (x:jZ):Prop:=
 w.cell? ⟨g,o,none⟩=some (zi x.seq)/\w.cell? ⟨g,o + 1,none⟩=some (zi x.place)/\w.cell? ⟨g,o + 2,none⟩=some (zi x.rep.code)/\w.cell? ⟨g,o + 3,none⟩=some (zi x.rep.fQ)/\
 w.cell? ⟨g,o + 4,none⟩=some (.string x.rep.data)/\x.rep.vs=[]/\∃ A c,w.cell? ⟨g,o + 5,none⟩=some (.slice A 0 c)
structure oV (w:World) (g o:Nat) (F:Nat->Prop) (f:Int->List iF):Prop where
 ex:∃ A ck B cv vs,iI w 0 g o (.slice A (dS f).length ck) (.slice B (dS f).length cv) (dS f) vs/\(∀ k,pN g (.slice A (dS f).length ck) (.slice B (dS f).length cv) k->F k)/\
  ∀ (i:Nat) k v,(dS f)[i]?=some k->vs[i]?=some v->DL w F (pN g (.slice A (dS f).length ck) (.slice B (dS f).length cv)) v (f k)
structure kS (w:World) (g:Nat) (F:Nat->Prop) (s:fG):Prop where
 q0:w.cell? ⟨g,0,none⟩=some (zi s.aI)
 n0:w.cell? ⟨g,1,none⟩=some (zi s.n)
 tab:oV w g 2 F s.f
 JR:∀ c,c < 4->qJ w g (4 + c * 6) (s.ss c)
 fz:∀ o,w.frozen? ⟨g,o,none⟩=false
 lt:∀ k,F k->k < w.heap.size
 gF:F g
 few:∀ k,(s.f k).length<=s.n
 off:∀ k,¬ (0<=k/\k<=31)->s.f k=[]
section
variable {w w':World} {g o:Nat} {F F' G S:Nat->Prop} {s:fG} {f:Int->List iF}
theorem DL.fr {v:Value} {l:List iF} (h:DL w F G v l) (i:Fr S w w') (j:∀ k,F k->¬ S k):DL w' F G v l:=by
 obtain ⟨A,c,rfl,m,n,d⟩:=h
 refine ⟨A,c,rfl,ah.fr m i (fun p a r=>?_),n,d⟩
 have u:l≠[]:=fun e=>p (by rw [e];rfl)
 exact j _ (d u a r).1
theorem DL.fr' {v:Value} {l:List iF} (h:DL w F G v l) (i:Fr G w w'):DL w' F G v l:=by
 obtain ⟨A,c,rfl,j,k,d⟩:=h
 refine ⟨A,c,rfl,ah.fr j i (fun m a n=>?_),k,d⟩
 have p:l≠[]:=fun e=>m (by rw [e];rfl)
 exact (d p a n).2
theorem iI.fr {base:Nat} {K V:Value} {ks:List Int} {j:List Value} (h:iI w base g o K V ks j) (d:Fr S w w') (e:∀ k,pN g K V k->¬ S k):iI w' base g o K V ks j:=
 ⟨(
  d.cell (p:=⟨g,o,none⟩) h.lt (e g (.inl rfl))).trans h.k0,(d.cell (p:=⟨g,o + 1,none⟩) h.lt (e g (.inl rfl))).trans h.v0,(d.frozen (p:=⟨g,o,none⟩) h.lt (e g (.inl rfl))).trans h.fk,
  (d.frozen (p:=⟨g,o + 1,none⟩) h.lt (e g (.inl rfl))).trans h.fv,dh h.ko d (fun k i=>e k (.inr (.inl i))),dh h.vo d (fun k i=>e k (.inr (.inr i))),h.one,h.ne,h.kg,h.vg,h.low,iD h.lt d.size,h.NA⟩
theorem oV.fr (h:oV w g o F f) (e:Fr S w w') (j:∀ k,F k->¬ S k):oV w' g o F f:=by
 obtain ⟨A,m,B,n,p,r,l,u⟩:=h.ex
 exact ⟨A,m,B,n,p,r.fr e (fun k d=>j k (l k d)),l,fun i k v d x=>(u i k v d x).fr e j⟩
theorem qJ.fr {x:jZ} (h:qJ w g o x) (e:g < w.heap.size) (i:Fr S w w') (k:¬ S g):qJ w' g o x:=by
 obtain ⟨h0,l,m,n,h4,h5,A,c,h6⟩:=h
 have d:∀ j,w'.cell? ⟨g,j,none⟩=w.cell? ⟨g,j,none⟩:=fun j=>i.cell (p:=⟨g,j,none⟩) e k
 exact ⟨(d _).trans h0,(d _).trans l,(d _).trans m,(d _).trans n,(d _).trans h4,h5,A,c,(d _).trans h6⟩
theorem kS.fr (h:kS w g F s) (d:Fr S w w') (e:∀ k,F k->¬ S k):kS w' g F s:=by
 have i:=h.lt g h.gF
 have m:∀ j,w'.cell? ⟨g,j,none⟩=w.cell? ⟨g,j,none⟩:=fun j=>d.cell (p:=⟨g,j,none⟩) i (e g h.gF)
 exact ⟨(m _).trans h.q0,(m _).trans h.n0,h.tab.fr d e,fun c l=>(h.JR c l).fr i d (e g h.gF),fun j=>(d.frozen (p:=⟨g,j,none⟩) i (e g h.gF)).trans (h.fz j),fun k n=>iD (h.lt k n) d.size,h.gF,h.few,h.off⟩
theorem kS.old (h:kS w g F s) (d:Old w w'):kS w' g F s:=h.fr (S:=fun _=>False) (Fr.aj d) (fun _ _ h=>h)
end
def wD (aI:Int):Array Value:=#[zi aI,zi 0,aQ,aQ,zi 0,zi 0,zi 0,zi 0,.string { data:=#[] },aQ,zi 0,zi 0,zi 0,zi 0,.string { data:=#[] },aQ,zi 0,zi 0,zi 0,zi 0,.string { data:=#[] },aQ,zi 0,zi 0,zi 0,zi 0,.string { data:=#[] },aQ]
theorem Ce:dS (fun _=>[])=[]:=by simp [dS]
theorem RJ {w:World} {g:Nat} {t:TypeId} {e:Int} (h:Bk w g t (wD e)):kS w g (fun k=>k=g) (fG.new e):=by
 have d:∀ (i:Nat) (v:Value),(wD e)[i]?=some v->w.cell? ⟨g,i,none⟩=some v:=fun i v m=>(h.cell i).trans m
 refine ⟨d 0 _ rfl,d 1 _ rfl,⟨none,0,none,0,[],?_,?_,?_⟩,?_,fun o=>h.frozen o,fun k j=>by subst j;exact h.lt,rfl,fun k=>by simp [fG.new],fun k _=>rfl⟩
 ·show iI w 0 g 2 (.slice none (dS fun _=>[]).length 0) (.slice none (dS fun _=>[]).length 0) (dS fun _=>[]) []
  rw [Ce]
  exact ⟨d 2 _ rfl,d 3 _ rfl,h.frozen 2,h.frozen 3,World.ownsRow_nil _ _ _ _,World.ownsRow_nil _ _ _ _,bE,by simp [Value.ownBlock],by simp [Value.ownBlock],by simp [Value.ownBlock],Nat.zero_le _,h.lt,bE⟩
 ·intro k j
  simpa [pN,Value.ownBlock] using j
 ·intro i k v j
  simp [fG.new,Ce] at j
 ·intro c l
  match c,l with
  | 0,_=>exact ⟨d 4 _ rfl,d 5 _ rfl,d 6 _ rfl,d 7 _ rfl,d 8 _ rfl,rfl,none,0,d 9 _ rfl⟩
  | 1,_=>exact ⟨d 10 _ rfl,d 11 _ rfl,d 12 _ rfl,d 13 _ rfl,d 14 _ rfl,rfl,none,0,d 15 _ rfl⟩
  | 2,_=>exact ⟨d 16 _ rfl,d 17 _ rfl,d 18 _ rfl,d 19 _ rfl,d 20 _ rfl,rfl,none,0,d 21 _ rfl⟩
  | 3,_=>exact ⟨d 22 _ rfl,d 23 _ rfl,d 24 _ rfl,d 25 _ rfl,d 26 _ rfl,rfl,none,0,d 27 _ rfl⟩
theorem RL (d:Int) (h:1<=d/\d<=100) (w:World) :
 aS 151 #[zi d] w fun e w'=>e=.returned (.tuple #[w.heap.size,zi 0])/\kS w' w.heap.size (fun k=>k=w.heap.size) (fG.new d)/\Old w w':=by
 obtain ⟨q1,i⟩:=h
 go_enter func151,ntmps151
 go_wp2
 go_ret2
 exact ⟨rfl,RJ (Bk.new w 269 (wD d)),(Old.refl' w).ag _⟩
theorem RN (g:Nat) (F:Nat->Prop) (s:fG) (w:World) (h:kS w g F s) :
 aS 104 #[g] w fun e w'=>e=.returned (zi s.n)/\w=w':=by
 have n0:=h.n0
 go_enter func104,ntmps104
 go_wp2
 go_ret
 exact ⟨rfl,rfl⟩
theorem GR:(prog.info? 3).map (fun i=>(i.zero,i.size,i.bytes))=some (some (zi 0),1,8):=ay
theorem jg (A:Option Addr) (n d:Nat) (bs:List Int) (x:n<=100000) (r:n=bs.length) (w:World) (hV:ah w A (bs.map (Value.int .i64))) :
 aS 61 #[.slice A n d] w fun e w'=>
  ∃ A' h,e=.returned (.slice A' n h)/\w'.ownsRow w.heap.size 3 1 (.slice A' n h) n (bs.map (Value.int .i64))/\Old w w':=by
 have HL:=aa r
 clear r
 obtain ⟨i0,i,j,l,m⟩:=info_parts GR
 cases A with
 | none=>
  have h0:n=0:=UU
  subst h0
  have p:bs=[]:=List.eq_nil_of_length_eq_zero HL.o.symm
  subst p
  have heq:=Lib.run_eql_slice_nil (P:=prog) w 34 3 none 0 d 0 0 underlying34
  go_enter func61,ntmps61
  go_wp2
  go_ret
  exact ⟨_,_,rfl,World.ownsRow_nil _ _ _ _,Old.refl' w⟩
 | some ad=>
  have heq:=Lib.run_eql_slice_nil (P:=prog) w 34 3 (some ad) n d 0 0 underlying34
  go_enter func61,ntmps61
  go_wp2_with (at_builtin;refine bT _ rfl (.tmp 5) (.tmp 6) 34 rfl w.heap.size 3 i0 (zi 0) 1 8 underlying34 i j l m rfl aW (.slice (some ⟨w.heap.size,0,none⟩) 0 0) 0 [] rfl (World.ownsRow_made w #[] 0 (dN _) aW rfl) (some ad) n d (bs.map (Value.int .i64)) rfl (by simp [HL.o]) (ah.alloc hV _) tC qy af bE n (mE _) (bs.map (Value.int .i64)) (qz _) ?_;intro A' h w1 h1)
  go_ret
  exact ⟨A',h,rfl,h1.own,h1.old ((Old.refl' w).ag _) (by intro k u;simp [Value.ownBlock] at u;omega)⟩
theorem JS {w:World} {base:Nat} {e:TypeId} {size n c:Nat} {A:Option Addr} {xs:List Value} (h:w.ownsRow base e size (.slice A n c) n xs):∀ a,A=some a->base<=a.block:=fun a d=>by
 obtain ⟨A',k,i,-,j⟩:=bI h
 cases i
 exact (j a d).1
theorem Fx {w:World} {g:Nat} {t:TypeId} {a b c d:Value} (h:Bk w g t #[a,b,c,d]):(w.cell? ⟨g,0,none⟩=some a/\w.cell? ⟨g,1,none⟩=some b/\w.cell? ⟨g,2,none⟩=some c/\w.cell? ⟨g,3,none⟩=some d)/\(w.frozen? ⟨g,0,none⟩=false/\w.frozen? ⟨g,1,none⟩=false/\w.frozen? ⟨g,2,none⟩=false/\w.frozen? ⟨g,3,none⟩=false)/\g < w.heap.size:=
 ⟨⟨h.cell 0,h.cell 1,h.cell 2,h.cell 3⟩,⟨h.frozen 0,h.frozen 1,h.frozen 2,h.frozen 3⟩,h.lt⟩
theorem DN (c v:Int) (d:ByteArray) (ns:List Int) (n i:Nat) (A:Option Addr) (x:n<=100000) (y:n=ns.length) (w:World) (z:aP w A ns) :
 aS 265 #[.agg #[zi c,zi v,.string d,.slice A n i]] w fun e w'=>∃ A' B,e=.returned (.agg #[zi c,zi v,.string d,.slice A' n B])/\aP w' A' ns/\(∀ a,A'=some a->w.heap.size<=a.block)/\Old w w':=by
 have C:=aa (fun (W:World) (D:ah W A (ns.map (Value.int .i64)))=>jg A n i ns x y W D)
 have u:=aa ((ah.alloc z (.cells #[zi c,zi v,.string d,.slice A n i] 49)).alloc (.cells #[zi 0,zi 0,.string ByteArray.empty,aQ] 49))
 clear y x z
 go_enter func265,ntmps265
 go_wp2_with fail
 refine (C.o _ u.o).mono ?_
 rintro e w1 ⟨r,c1,rfl,k,j⟩
 obtain ⟨⟨I,J,r2,r3⟩,⟨f0,f1,f2,f3⟩,K⟩:=Fx (((Bk.new w 49 #[zi c,zi v,.string d,.slice A n i]).alloc (.cells #[zi 0,zi 0,.string ByteArray.empty,aQ] 49)).old j)
 obtain ⟨⟨x0,x1,x2,L⟩,⟨M,y1,y2,N⟩,O⟩:=Fx ((fV w (.cells #[zi c,zi v,.string d,.slice A n i] 49) 49 #[zi 0,zi 0,.string ByteArray.empty,aQ]).old j)
 have h:=JS k
 simp at h
 have E:=ah.bA k
 have H:=aa j
 clear j
 go_wp2_with fail
 refine bodyPost_ret (v:=.agg #[zi c,zi v,.string d,.slice r n c1]) ?_ rfl ⟨r,c1,rfl,?_,?_,?_⟩
 ·simp [results,results265,go_sem, *]
 ·have l:∀ a,r=some a->a.block≠w.heap.size:=fun a m=>by have:=h a m;omega
  have p:∀ a,r=some a->a.block≠w.heap.size + 1:=fun a m=>by have:=h a m;omega
  show ah _ _ _
  repeat (first | with_reducible exact E | with_reducible refine ah.bH ?_ l _ | with_reducible refine ah.bH ?_ p _)
 ·intro a m
  have:=h a m
  omega
 ·repeat (first | with_reducible refine Old.aJ ?_ bE _ | with_reducible refine Old.trans' ?_ H.o | with_reducible refine Old.ag ?_ _ | with_reducible exact Old.refl' _)
end Go.Proofs.YthihpfpbiajddaaGreat
