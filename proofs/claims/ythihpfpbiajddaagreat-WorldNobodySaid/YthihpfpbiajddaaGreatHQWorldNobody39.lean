/- Parts of the proof. -/
import Derived.Test.YthihpfpbiajddaaGreatHQWorldNobody37
import Derived.Test.YthihpfpbiajddaaGreatHQWorldNobody38
set_option maxRecDepth 100000
set_option maxHeartbeats 8000000
open Go.Proofs.Tryz
namespace Go.Proofs.YthihpfpbiajddaaGreat
open Go.RowKit
def Gr (n:Nat) (v:Value) (_:World):Prop:=∃ A c,v=.slice A n c
instance (n:Nat):uT Old (Gr n):=⟨fun _ _ _ _ h=>h⟩
theorem xW (a b c:Int) (r:Bool) (hr:decide ((1<=a/\a<=5)/\(1<=b/\b<=4)/\1<=c/\c<=100)=r) (w:World):aS 16 #[.agg #[zi a,zi b,zi c]] w fun e w'=>e=.returned (.bool r)/\Old w w':=by
 by_cases h0:1<=a
 rotate_left
 ·exact Gt
 by_cases d:a<=5
 rotate_left
 ·exact Gt
 by_cases f:1<=b
 rotate_left
 ·exact Gt
 by_cases g:b<=4
 rotate_left
 ·exact Gt
 by_cases h4:1<=c
 rotate_left
 ·exact Gt
 by_cases h5:c<=100
 rotate_left
 ·exact Gt
 obtain rfl:r=true:=by rw [<- hr];exact decide_eq_true ⟨⟨h0,d⟩,⟨f,g⟩,h4,h5⟩
 clear hr
 go_enter func16,ntmps16
 go_wp2_with fail
 go_ret
 exact ⟨rfl,(Old.refl' w).ag _⟩
theorem MW (w:World):aS 26 #[.agg #[zi 1,zi 1,zi 5],zi 1] w fun e w'=>e=.returned (zi 1620)/\Old w w':=by
 obtain ⟨w1,d⟩:∃ x,x=w.alloc (.cells #[zi 1,zi 1,zi 5] 23):=⟨_,rfl⟩
 have f:=aa (show Bk w1 w.heap.size 23 #[zi 1,zi 1,zi 5] from d▸Bk.new w 23 _)
 have j:=aa (show Old w w1 from d▸(Old.refl' w).ag _)
 have k:=aa (xW 1 1 5 true aW w1)
 have x0:=f.o.cell 0
 have x1:=f.o.cell 1
 have x2:=f.o.cell 2
 have i:=f.o.lt
 simp only [iZ,je,nW] at x0 x1 x2
 go_enter func26,ntmps26
 go_wp2_with fail
 rw [<- d]
 clear d
 refine k.o.mono ?_
 rintro e m ⟨rfl,h⟩
 have g:=aa (f.o.old h)
 have l:=aa (j.o.trans' h)
 clear x0 x1 x2 i h
 have x0:=g.o.cell 0
 have i:=g.o.lt
 simp only [iZ,je] at x0
 go_wp2_with fail
 go_ret
 exact ⟨rfl,l.o⟩
section
variable {w0 w:World} {p:QZ} {fair:Bool} {ask:Int} {V:Value} {s:WV} {a n:List Int}
theorem Is.acts (h:Is w0 p fair ask V s a n w) (k:Nat) (d:s.acts.length=k) (h5:k<=50000) (f:∀ a∈s.acts,a.r.vs.length<=50000):aS 12 #[p.W] w fun e w'=>∃ A g L,e=.returned (.slice A k g)/\L.map bR.strip=s.acts/\kD w' A L/\Old w w':=by
 obtain ⟨own,u,l,h⟩:=h
 exact YS h.at_ k d h5 f
theorem Is.blk (h:Is w0 p fair ask V s a n w):Bk w p.gP 33 #[p.W,zi s.conf.nodes,zi s.conf.au,zi s.conf.aI,av p.gK 0,.bool fair,zi ask,V]:=by
 obtain ⟨own,u,l,h⟩:=h
 exact h.blk
theorem Is.base (h:Is w0 p fair ask V s a n w):Old w0 w:=by
 obtain ⟨own,u,l,h⟩:=h
 exact h.old
theorem My (L:List bR) (h:L.map bR.strip=T7.acts):L.length=2/\∃ y,L[1]?.getD default=y/\y.ans=true/\y.r.code=1/\y.at_=1:=by
 have e:L.length=2:=by rw [<- zK.1,<- h,List.length_map]
 refine ⟨e,_,rfl,?_⟩
 have d:=zK.2.1
 rw [<- h,List.getElem?_map,gG af] at d
 rw [gG af]
 simp only [Option.map_some,Option.some.injEq,Prod.mk.injEq] at d
 exact d
def TSt (w0:World) (p:QZ) (k:Nat) (w:World):Prop:=(k=0/\Is w0 p true 1 aQ T1 [0,0] [0,0] w)∨(k=1/\Is w0 p true 1 aQ T4 [1,1] [1,1] w)∨(k=2/\Is w0 p true 1 aQ T7 [2,2] [2,2] w)
theorem qx:T1.acts.length=1/\T4.acts.length=1/\(∀ a∈T1.acts,a.r.vs.length<=50000)/\(∀ a∈T4.acts,a.r.vs.length<=50000)/\∀ a∈T7.acts,a.r.vs.length<=50000:=iV
theorem zP:T7.aA.length=1/\∀ x∈T7.aA,x.nodes.length<=1000:=iV
theorem ET (w:World):aS 8 #[] w fun e w'=>e=.returned (.bool true)/\Old w w':=by
 have cN:=aa (TK 1 1 5 af af af true w)
 go_enter func8,ntmps8
 go_wp2_with fail
 refine cN.o.mono ?_
 rintro e w1 ⟨gP,rfl,W,gK,ka,kb,own,u,gs,cs,F⟩
 obtain ⟨p,N⟩:∃ p:QZ,p=⟨W,gs,cs,gP,gK,ka,kb⟩:=⟨_,rfl⟩
 have h0:Is w p true 0 aQ T0 [0,0] [0,0] w1:=by
  subst N
  exact ⟨own,u,[],F⟩
 have S:p.gP=gP:=by rw [N]
 have O:p.W=W:=by rw [N]
 have cA:=aa (h0.Mv (s':=T1) jd.1 (fun own u l h=>abk h _ rfl))
 rw [O] at cA
 have P:=h0.blk
 rw [S,O] at P
 have x0:=P.cell 0
 have B:=P.lt
 simp only [iZ,je] at x0
 have z:=aa S
 have x:=aa O
 clear F N h0 P S O
 go_wp2_with fail
 refine cA.o.mono ?_
 rintro e w2 ⟨rfl,h1⟩
 have b1:=h1.blk
 rw [z.o,x.o] at b1
 have x6:=b1.cell 6
 have T:=b1.frozen 6
 have U:=b1.lt
 simp only [iZ,je,nW] at x6
 have H2:=aa (show TSt w p 0 (w2.setCell ⟨gP,6,none⟩ (zi 1)) from .inl ⟨rfl,by
  obtain ⟨own,u,l,h⟩:=h1
  have h9:=h.ask 1
  rw [z.o] at h9
  exact ⟨own,u,l,z.o▸h9⟩⟩)
 clear x0 B b1 h1
 go_wp2_with fail
 go_loopw [2] (fun iv wr=>∃ k:Nat,iv=zi (k:Int)/\kN (TSt w p k wr)) (fun iv _=>2 - (intOf iv).toNat)
 case atStart=>exact ⟨0,rfl,H2⟩
 case round=>
  obtain ⟨k,rfl,R⟩:=hrel
  clear x6 T U H2
  rcases R.o with ⟨rfl,h⟩ | ⟨rfl,h⟩ | ⟨rfl,h⟩
  ·have b1:=h.blk
   rw [z.o,x.o,show T1.conf=xQ from jd.1] at b1
   have X:=aa b1
   have G:=aa h
   have H:=aa (fun W' (f:Old wr W')=>(show W'.cell? ⟨gP,0,none⟩=some (av W 0)/\W'.cell? ⟨gP,6,none⟩=some (zi 1)/\gP < W'.heap.size from ⟨(b1.old f).cell 0,(b1.old f).cell 6,(b1.old f).lt⟩))
   have Y7:=aa (fun W' (f:Old wr W')=>(show ∀ (j:Nat) v,#[zi 1,zi 1,(zi 5:Value)][j]?=some v->W'.cell? ⟨gP,1 + j,none⟩=some v from fun j v d=>by
    rw [(b1.old f).cell]
    match j,d with
    | 0,d=>exact d
    | 1,d=>exact d
    | 2,d=>exact d
    | j + 3,d=>simp at d))
   have HA:=aa (fun W' (f:Old wr W')=>(show aS 12 #[W] W' fun e w'=>∃ A i,e=.returned (.slice A 1 i)/\Old W' w' from x.o▸((h.old f).acts 1 qx.1 aW qx.2.2.1).mono fun e w2 ⟨A,i,L,h1,_,_,h4⟩=>⟨A,i,h1,h4⟩))
   clear R h b1
   go_wp2_with fail
   refine bG Old wr [.val (zi 0),.val gP,.val gP,.val (av gP 1),.val (.agg #[zi 1,zi 1,zi 5]),.val gP,.val gP,.val (av gP 6),.val (zi 1),.val (zi 1620),.val (.bool true),.val (.bool true),.val gP,.val gP,.val gP,.val W,.rel (Gr 1),.val (zi 1),.val (.bool true),.val (.bool true)] ((Old.refl' _).drew') ?st ?en
   case st=>
    refine .cons (sp [] [(2,zi 0)] ?_)<|.cons (sp [] [(1,gP)] ?_)<|.cons (sp [(1,24)] [] ?_)<|.cons (sp [(2,25)] [] ?_)<|.cons (sp [(3,26)] [] ?c4)<|.cons (sp [] [(1,gP)] ?_)<|.cons (sp [(5,28)] [] ?_)<|.cons (sp [(6,29)] [] ?_)<|.cons (sp [(7,30)] [] ?_)<|.cons (sc 26 func26 [(4,27),(8,31)] [] _ ?c9)<|.cons (sp [(0,23),(9,32)] [] ?_)<|.cons (sp [(10,33)] [] ?_)<|.cons (fC 11 34 true [] [(1,gP)] ?_)<|.cons (fC 11 34 true [(12,35)] [] ?_)<|.cons (fC 11 34 true [(13,36)] [] ?_)<|.cons (fC 11 34 true [(14,37)] [] ?_)<|.cons (IU 11 34 true 12 func12 [(15,38)] [] _ ?c16)<|.cons (fC 11 34 true [(16,39)] [] ?c17)<|.cons (fC 11 34 true [(17,40)] [] ?_)<|.cons (sp [(11,34),(18,41)] [] ?_)<|.nil
    case c4=>exact Rb
    case c9=>exact Rc
    case c16=>exact Ra
    case c17=>exact Rk
    all_goals
     intro E w' hS hc hf
     obtain ⟨y0,y6,yl⟩:=H.o w' hS
     repeat intro _
     exact ⟨_,dP,rfl⟩
   case en=>
    intro I w9 g
    iterate 16 refine Ends.eqv _ _ rfl (fun _ h=>h) ?_
    refine Ends.ex _ rfl ?_
    rintro _ _ ⟨A9,c9,rfl⟩
    iterate 3 refine Ends.eqv _ _ rfl (fun _ h=>h) ?_
    refine Ends.nil ?_
    simp only [aC,ax,fM,fJ]
    have Y:=aa (z.o▸PR (G.o.old g))
    clear g
    go_wp2_with fail
    refine Y.o.mono ?_
    rintro e w3 ⟨rfl,J⟩
    have Z:=aa J
    clear J
    go_wp2_with fail
    go_roundw
    case rel=>exact ⟨1,rfl,aa (.inr <| .inl ⟨rfl,Z.o⟩)⟩
    case measure=>simp [intOf]
  ·have b1:=h.blk
   rw [z.o,x.o,show T4.conf=xQ from jd.2.2.2.1] at b1
   have X:=aa b1
   have G:=aa h
   have H:=aa (fun W' (f:Old wr W')=>(show W'.cell? ⟨gP,0,none⟩=some (av W 0)/\W'.cell? ⟨gP,6,none⟩=some (zi 1)/\gP < W'.heap.size from ⟨(b1.old f).cell 0,(b1.old f).cell 6,(b1.old f).lt⟩))
   have Y7:=aa (fun W' (f:Old wr W')=>(show ∀ (j:Nat) v,#[zi 1,zi 1,(zi 5:Value)][j]?=some v->W'.cell? ⟨gP,1 + j,none⟩=some v from fun j v d=>by
    rw [(b1.old f).cell]
    match j,d with
    | 0,d=>exact d
    | 1,d=>exact d
    | 2,d=>exact d
    | j + 3,d=>simp at d))
   have HA:=aa (fun W' (f:Old wr W')=>(show aS 12 #[W] W' fun e w'=>∃ A i,e=.returned (.slice A 1 i)/\Old W' w' from x.o▸((h.old f).acts 1 qx.2.1 aW qx.2.2.2.1).mono fun e w2 ⟨A,i,L,h1,_,_,h4⟩=>⟨A,i,h1,h4⟩))
   clear R h b1
   go_wp2_with fail
   refine bG Old wr [.val (zi 1),.val gP,.val gP,.val (av gP 1),.val (.agg #[zi 1,zi 1,zi 5]),.val gP,.val gP,.val (av gP 6),.val (zi 1),.val (zi 1620),.val (.bool true),.val (.bool true),.val gP,.val gP,.val gP,.val W,.rel (Gr 1),.val (zi 1),.val (.bool true),.val (.bool true)] ((Old.refl' _).drew') ?st ?en
   case st=>
    refine .cons (sp [] [(2,zi 1)] ?_)<|.cons (sp [] [(1,gP)] ?_)<|.cons (sp [(1,24)] [] ?_)<|.cons (sp [(2,25)] [] ?_)<|.cons (sp [(3,26)] [] ?c4)<|.cons (sp [] [(1,gP)] ?_)<|.cons (sp [(5,28)] [] ?_)<|.cons (sp [(6,29)] [] ?_)<|.cons (sp [(7,30)] [] ?_)<|.cons (sc 26 func26 [(4,27),(8,31)] [] _ ?c9)<|.cons (sp [(0,23),(9,32)] [] ?_)<|.cons (sp [(10,33)] [] ?_)<|.cons (fC 11 34 true [] [(1,gP)] ?_)<|.cons (fC 11 34 true [(12,35)] [] ?_)<|.cons (fC 11 34 true [(13,36)] [] ?_)<|.cons (fC 11 34 true [(14,37)] [] ?_)<|.cons (IU 11 34 true 12 func12 [(15,38)] [] _ ?c16)<|.cons (fC 11 34 true [(16,39)] [] ?c17)<|.cons (fC 11 34 true [(17,40)] [] ?_)<|.cons (sp [(11,34),(18,41)] [] ?_)<|.nil
    case c4=>exact Rb
    case c9=>exact Rc
    case c16=>exact Ra
    case c17=>exact Rk
    all_goals
     intro E w' hS hc hf
     obtain ⟨y0,y6,yl⟩:=H.o w' hS
     repeat intro _
     exact ⟨_,dP,rfl⟩
   case en=>
    intro I w9 g
    iterate 16 refine Ends.eqv _ _ rfl (fun _ h=>h) ?_
    refine Ends.ex _ rfl ?_
    rintro _ _ ⟨A9,c9,rfl⟩
    iterate 3 refine Ends.eqv _ _ rfl (fun _ h=>h) ?_
    refine Ends.nil ?_
    simp only [aC,ax,fM,fJ]
    have Y:=aa (z.o▸PS (G.o.old g))
    clear g
    go_wp2_with fail
    refine Y.o.mono ?_
    rintro e w3 ⟨rfl,J⟩
    have Z:=aa J
    clear J
    go_wp2_with fail
    go_roundw
    case rel=>exact ⟨2,rfl,aa (.inr <| .inr ⟨rfl,Z.o⟩)⟩
    case measure=>simp [intOf]
  ·have b1:=h.blk
   rw [z.o,x.o,show T7.conf=xQ from jd.2.2.2.2.2.2] at b1
   have X:=aa b1
   have G:=aa h
   have H:=aa (fun W' (f:Old wr W')=>(show W'.cell? ⟨gP,0,none⟩=some (av W 0)/\W'.cell? ⟨gP,6,none⟩=some (zi 1)/\gP < W'.heap.size from ⟨(b1.old f).cell 0,(b1.old f).cell 6,(b1.old f).lt⟩))
   have Y7:=aa (fun W' (f:Old wr W')=>(show ∀ (j:Nat) v,#[zi 1,zi 1,(zi 5:Value)][j]?=some v->W'.cell? ⟨gP,1 + j,none⟩=some v from fun j v d=>by
    rw [(b1.old f).cell]
    match j,d with
    | 0,d=>exact d
    | 1,d=>exact d
    | 2,d=>exact d
    | j + 3,d=>simp at d))
   have HA:=aa (fun W' (f:Old wr W')=>(show aS 12 #[W] W' fun e w'=>∃ A i,e=.returned (.slice A 2 i)/\Old W' w' from x.o▸((h.old f).acts 2 zK.1 aW qx.2.2.2.2).mono fun e w2 ⟨A,i,L,h1,_,_,h4⟩=>⟨A,i,h1,h4⟩))
   clear R h b1
   go_wp2_with fail
   refine bG Old wr [.val (zi 2),.val gP,.val gP,.val (av gP 1),.val (.agg #[zi 1,zi 1,zi 5]),.val gP,.val gP,.val (av gP 6),.val (zi 1),.val (zi 1620),.val (.bool true),.val (.bool true),.val gP,.val gP,.val gP,.val W,.rel (Gr 2),.val (zi 2),.val (.bool false),.val (.bool false)] ((Old.refl' _).drew') ?st ?en
   case st=>
    refine .cons (sp [] [(2,zi 2)] ?_)<|.cons (sp [] [(1,gP)] ?_)<|.cons (sp [(1,24)] [] ?_)<|.cons (sp [(2,25)] [] ?_)<|.cons (sp [(3,26)] [] ?c4)<|.cons (sp [] [(1,gP)] ?_)<|.cons (sp [(5,28)] [] ?_)<|.cons (sp [(6,29)] [] ?_)<|.cons (sp [(7,30)] [] ?_)<|.cons (sc 26 func26 [(4,27),(8,31)] [] _ ?c9)<|.cons (sp [(0,23),(9,32)] [] ?_)<|.cons (sp [(10,33)] [] ?_)<|.cons (fC 11 34 true [] [(1,gP)] ?_)<|.cons (fC 11 34 true [(12,35)] [] ?_)<|.cons (fC 11 34 true [(13,36)] [] ?_)<|.cons (fC 11 34 true [(14,37)] [] ?_)<|.cons (IU 11 34 true 12 func12 [(15,38)] [] _ ?c16)<|.cons (fC 11 34 true [(16,39)] [] ?c17)<|.cons (fC 11 34 true [(17,40)] [] ?_)<|.cons (sp [(11,34),(18,41)] [] ?_)<|.nil
    case c4=>exact Rb
    case c9=>exact Rc
    case c16=>exact Ra
    case c17=>exact Rk
    all_goals
     intro E w' hS hc hf
     obtain ⟨y0,y6,yl⟩:=H.o w' hS
     repeat intro _
     exact ⟨_,dP,rfl⟩
   case en=>
    intro I w9 g
    iterate 16 refine Ends.eqv _ _ rfl (fun _ h=>h) ?_
    refine Ends.ex _ rfl ?_
    rintro _ _ ⟨A9,c9,rfl⟩
    iterate 3 refine Ends.eqv _ _ rfl (fun _ h=>h) ?_
    refine Ends.nil ?_
    simp only [aC,ax,fM,fJ]
    have H9:=aa (G.o.old g)
    have C:=aa (X.o.old g)
    have x0:=C.o.cell 0
    have B:=C.o.lt
    simp only [iZ,je,nW] at x0
    have cA2:=aa (x.o▸H9.o.acts 2 zK.1 aW qx.2.2.2.2)
    clear g
    go_wp2_with fail
    refine cA2.o.mono ?_
    rintro e w4 ⟨A,cA4,L,rfl,F,K,o4⟩
    obtain ⟨hL2,y,hy,y1,y2,y3⟩:=My L F
    obtain ⟨bb,bo,rfl,hbb,m⟩:=K.at_ (k:=1) af
    rw [hy] at m
    have z2:=m 2 _ af rfl
    have z9:=m 9 _ af rfl
    have ZN:=m 13 _ af rfl
    rw [y1] at z2
    rw [y2] at z9
    rw [y3] at ZN
    have D:=aa (C.o.old o4)
    have H4:=aa (H9.o.old o4)
    clear x0 B F K m hy y1 y2 y3 hL2 o4
    have x0:=D.o.cell 0
    have B:=D.o.lt
    simp only [iZ,je,nW] at x0
    obtain ⟨own,u,l,r⟩:=id H4.o
    have cL:=aa (x.o▸abo r.at_ 0 S3.n ay zK.2.2.2.1 1 zK.2.2.1 aW)
    clear r
    go_wp2_with fail
    refine cL.o.mono ?_
    rintro e w5 ⟨A5,c5,rfl,-,o5⟩
    have M:=aa (D.o.old o5)
    have H5:=aa (H4.o.old o5)
    clear x0 B o5
    have x0:=M.o.cell 0
    have B:=M.o.lt
    simp only [iZ,je,nW] at x0
    obtain ⟨own,u,l,r⟩:=id H5.o
    have cC:=aa (x.o▸PU r.at_ 1 zP.1 aW zP.2)
    clear r
    go_wp2_with fail
    refine cC.o.mono ?_
    rintro e w6 ⟨A6,c6,rfl,-,o6⟩
    have HZ:=aa (H5.o.base.trans' o6)
    clear x0 B o6
    go_wp2_with fail
    go_ret
    exact ⟨rfl,HZ.o⟩
end
theorem PW (a b c:Int) (h:¬ ((1<=a/\a<=5)/\(1<=b/\b<=4)/\1<=c/\c<=100)) (w:World):aS 15 #[.agg #[zi a,zi b,zi c]] w fun e w'=>e=.returned (.tuple #[.pointer none,zi 1])/\Old w w':=by
 obtain ⟨w1,d⟩:∃ x,x=w.alloc (.cells #[zi a,zi b,zi c] 23):=⟨_,rfl⟩
 have g:=aa (show Old w w1 from d▸(Old.refl' w).ag _)
 have i:=aa (F3 a b c false (decide_eq_false h) w1)
 clear h
 go_enter func15,ntmps15
 go_wp2_with fail
 rw [<- d]
 clear d
 refine i.o.mono ?_
 rintro e k ⟨rfl,f⟩
 have j:=aa (g.o.trans' f)
 clear f
 go_wp2_with fail
 go_ret2
 exact ⟨rfl,j.o⟩
theorem dV {w:World} {b:Nat} {t:TypeId} {u0 u1 u2 u3 u4 u5 u6 u7 u8:Value} (h:Bk w b t #[u0,u1,u2,u3,u4,u5,u6,u7,u8]) :
 w.cell? ⟨b,0,none⟩=some u0/\w.cell? ⟨b,1,none⟩=some u1/\w.cell? ⟨b,2,none⟩=some u2/\w.cell? ⟨b,3,none⟩=some u3/\w.cell? ⟨b,4,none⟩=some u4/\w.cell? ⟨b,5,none⟩=some u5/\w.cell? ⟨b,6,none⟩=some u6/\w.cell? ⟨b,7,none⟩=some u7/\w.cell? ⟨b,8,none⟩=some u8/\b < w.heap.size:=
 ⟨h.cell 0,h.cell 1,h.cell 2,h.cell 3,h.cell 4,h.cell 5,h.cell 6,h.cell 7,h.cell 8,h.lt⟩
theorem gQ {w:World} {b:Nat} (h:Bk w b 61 #[.bool false,.bool false,.bool false,zi 0,aQ,zi 0,zi 0]):w.cell? ⟨b,0,none⟩=some (.bool false)/\w.cell? ⟨b,5,none⟩=some (zi 0)/\b < w.heap.size:=⟨h.cell 0,h.cell 5,h.lt⟩
theorem MB (k I J:Int) (q:aG) (n a b c:Int) (w:World):aS 5 #[.agg #[zi k,zi I,zi J,zi q.client,zi q.seq,zi q.kind,zi q.id,zi q.eD,.string q.data],zi n,.agg #[zi a,zi b,zi c]] w fun e w'=>e=.returned (.bool true)/\Old w w':=by
 obtain ⟨W1,F⟩:∃ x,x=(w.alloc (.cells #[zi k,zi I,zi J,zi q.client,zi q.seq,zi q.kind,zi q.id,zi q.eD,.string q.data] 38)).alloc (.cells #[zi a,zi b,zi c] 23):=⟨_,rfl⟩
 have es:(w.alloc (.cells #[zi k,zi I,zi J,zi q.client,zi q.seq,zi q.kind,zi q.id,zi q.eD,.string q.data] 38)).heap.size=w.heap.size + 1:=jW ..
 have f:=aa (show Bk W1 w.heap.size 38 #[zi k,zi I,zi J,zi q.client,zi q.seq,zi q.kind,zi q.id,zi q.eD,.string q.data] from F▸(Bk.new w _ _).alloc _)
 have G:=aa (show Bk W1 (w.heap.size + 1) 23 #[zi a,zi b,zi c] from F▸es▸Bk.new (w.alloc (.cells #[zi k,zi I,zi J,zi q.client,zi q.seq,zi q.kind,zi q.id,zi q.eD,.string q.data] 38)) _ _)
 have j:=aa (show Old w W1 from F▸((Old.refl' w).ag _).ag _)
 obtain ⟨l,m,p,r,s,y,z,A,B,sl⟩:=dV f.o
 have c0:=G.o.cell 0
 have c1:=G.o.cell 1
 have c2:=G.o.cell 2
 have K:=G.o.lt
 simp only [iZ,je,nW] at c0 c1 c2
 clear es
 by_cases V:200 < (q.data.size:Int)
 ·go_enter func5,ntmps5
  go_wp2_with fail
  rw [<- F]
  refine (ET W1).mono ?_
  rintro e w2 ⟨rfl,H⟩
  have HZ:=aa (j.o.trans' H)
  clear F l m p r s y z A B sl c0 c1 c2 K H
  go_wp2_with fail
  go_ret
  exact ⟨rfl,HZ.o⟩
 ·have i:=aa (show ∃ (P:Option Addr) (E:Int),((P=none/\E=1/\decide ((1<=a/\a<=5)/\(1<=b/\b<=4)/\1<=c/\c<=100)=false)∨((∃ g,P=some ⟨g,0,none⟩)/\E=0/\decide ((1<=a/\a<=5)/\(1<=b/\b<=4)/\1<=c/\c<=100)=true))/\aS 15 #[.agg #[zi a,zi b,zi c]] W1 fun e w'=>(∃ L,(L=none↔P=none)/\e=.returned (.tuple #[.pointer L,zi E]))/\Old W1 w' by
   by_cases N:(1<=a/\a<=5)/\(1<=b/\b<=4)/\1<=c/\c<=100
   ·obtain ⟨O,rfl⟩:∃ O:Nat,a=O:=⟨a.toNat,af⟩
    obtain ⟨b',rfl⟩:∃ b':Nat,b=b':=⟨b.toNat,af⟩
    obtain ⟨R,rfl⟩:∃ R:Nat,c=R:=⟨c.toNat,af⟩
    refine ⟨some ⟨0,0,none⟩,0,.inr ⟨⟨0,rfl⟩,rfl,decide_eq_true N⟩,(YB O b' R af af af W1 (fun _=>aB) 0 (fun _ _=>rfl) (fun _ h=>absurd rfl h)).mono ?_⟩
    intro e w' hm
    obtain ⟨W,X,u,gs,cs,rfl,-,-,ho⟩:=hm.o
    exact ⟨⟨_,bE,rfl⟩,ho⟩
   ·exact ⟨none,1,.inl ⟨rfl,rfl,decide_eq_false N⟩,(PW a b c N W1).mono fun e w' h=>⟨⟨none,Iff.rfl,h.1⟩,h.2⟩⟩)
  obtain ⟨P,E,S,Y⟩:=i.o
  have T:=aa Y
  clear i Y
  rcases S with ⟨rfl,rfl,U⟩ | ⟨⟨g,rfl⟩,rfl,U⟩
  all_goals
   have Z:=aa U
   clear U
   go_enter func5,ntmps5
   go_wp2_with fail
   rw [<- F]
   clear F
   refine T.o.mono ?_
   rintro e w2 ⟨⟨L,M,rfl⟩,H⟩
   have j:=aa (j.o.trans' H)
   have f:=aa (f.o.old H)
   have G:=aa (G.o.old H)
   clear l m p r s y z A B sl c0 c1 c2 K H
   obtain ⟨l,m,p,r,s,y,z,A,B,sl⟩:=dV f.o
   have c0:=G.o.cell 0
   have c1:=G.o.cell 1
   have c2:=G.o.cell 2
   have K:=G.o.lt
   simp only [iZ,je,nW] at c0 c1 c2
   cases L with
   | none=>first | (exfalso;simp at M;done) | (
    clear M
    go_wp2_with
    (first
    | (go_at_call 16;refine (xW _ _ _ _ Z.o _).mono ?_;rintro e wq ⟨rfl,d⟩;have j:=aa (j.o.trans' d);have f:=aa (f.o.old d);clear l m p r s y z A B sl c0 c1 c2 K d;obtain ⟨l,m,p,r,s,y,z,A,B,sl⟩:=dV f.o)
    | (go_at_call 17;refine (C8 n _).mono ?_;rintro e wq ⟨rfl,d⟩;have i:=aa (Bk.new wq 61 #[.bool false,.bool false,.bool false,.int .i64 0,.slice none 0 0,.int .i64 0,.int .i64 0]);have j:=aa ((j.o.trans' d).ag (.cells #[.bool false,.bool false,.bool false,.int .i64 0,.slice none 0 0,.int .i64 0,.int .i64 0] 61));have f:=aa ((f.o.old d).alloc (.cells #[.bool false,.bool false,.bool false,.int .i64 0,.slice none 0 0,.int .i64 0,.int .i64 0] 61));clear l m p r s y z A B sl d;obtain ⟨n0,C,D⟩:=gQ i.o;obtain ⟨l,m,p,r,s,y,z,A,B,sl⟩:=dV f.o)
    | (go_at_call 8;refine (ET _).mono ?_;rintro e wq ⟨rfl,d⟩;have i:=aa (i.o.old d);have j:=aa (j.o.trans' d);have f:=aa (f.o.old d);clear n0 C D l m p r s y z A B sl d;obtain ⟨n0,C,D⟩:=gQ i.o;obtain ⟨l,m,p,r,s,y,z,A,B,sl⟩:=dV f.o)
    | (go_at_call 9;refine (C6 _ _ _ _ _ _ _ _ _ _).mono ?_;rintro e wq ⟨rfl,d⟩;have i:=aa (i.o.old d);have j:=aa (j.o.trans' d);have f:=aa (f.o.old d);clear n0 C D l m p r s y z A B sl d;obtain ⟨n0,C,D⟩:=gQ i.o;obtain ⟨l,m,p,r,s,y,z,A,B,sl⟩:=dV f.o)
    | (go_at_call 12;refine (C4 _).mono ?_;rintro e wq ⟨rfl,d⟩;have i:=aa (i.o.old d);have j:=aa (j.o.trans' d);have f:=aa (f.o.old d);clear n0 C D l m p r s y z A B sl d;obtain ⟨n0,C,D⟩:=gQ i.o;obtain ⟨l,m,p,r,s,y,z,A,B,sl⟩:=dV f.o)
    | (go_at_call 18;refine (xK _).mono ?_;rintro e wq ⟨rfl,d⟩;have i:=aa (i.o.old d);have j:=aa (j.o.trans' d);have f:=aa (f.o.old d);clear n0 C D l m p r s y z A B sl d;obtain ⟨n0,C,D⟩:=gQ i.o;obtain ⟨l,m,p,r,s,y,z,A,B,sl⟩:=dV f.o)
    | (go_at_call 19;refine (xM _ _).mono ?_;rintro e wq ⟨rfl,d⟩;have i:=aa (i.o.old d);have j:=aa (j.o.trans' d);have f:=aa (f.o.old d);clear n0 C D l m p r s y z A B sl d;obtain ⟨n0,C,D⟩:=gQ i.o;obtain ⟨l,m,p,r,s,y,z,A,B,sl⟩:=dV f.o)
    | (go_at_call 20;refine (F8 _ _).mono ?_;rintro e wq ⟨rfl,d⟩;have i:=aa (i.o.old d);have j:=aa (j.o.trans' d);have f:=aa (f.o.old d);clear n0 C D l m p r s y z A B sl d;obtain ⟨n0,C,D⟩:=gQ i.o;obtain ⟨l,m,p,r,s,y,z,A,B,sl⟩:=dV f.o)
    | (go_at_call 21;refine (zI _ _).mono ?_;rintro e wq ⟨rfl,d⟩;have i:=aa (i.o.old d);have j:=aa (j.o.trans' d);have f:=aa (f.o.old d);clear n0 C D l m p r s y z A B sl d;obtain ⟨n0,C,D⟩:=gQ i.o;obtain ⟨l,m,p,r,s,y,z,A,B,sl⟩:=dV f.o)
    | (go_at_call 22;refine (xL _).mono ?_;rintro e wq ⟨rfl,d⟩;have i:=aa (i.o.old d);have j:=aa (j.o.trans' d);have f:=aa (f.o.old d);clear n0 C D l m p r s y z A B sl d;obtain ⟨n0,C,D⟩:=gQ i.o;obtain ⟨l,m,p,r,s,y,z,A,B,sl⟩:=dV f.o)
    | (go_at_call 23;refine (LC _ _).mono ?_;rintro e wq ⟨rfl,d⟩;have i:=aa (i.o.old d);have j:=aa (j.o.trans' d);have f:=aa (f.o.old d);clear n0 C D l m p r s y z A B sl d;obtain ⟨n0,C,D⟩:=gQ i.o;obtain ⟨l,m,p,r,s,y,z,A,B,sl⟩:=dV f.o)
    | (go_at_call 10;refine (zH _ _).mono ?_;rintro e wq ⟨rfl,d⟩;have i:=aa (i.o.old d);have j:=aa (j.o.trans' d);have f:=aa (f.o.old d);clear n0 C D l m p r s y z A B sl d;obtain ⟨n0,C,D⟩:=gQ i.o;obtain ⟨l,m,p,r,s,y,z,A,B,sl⟩:=dV f.o)
    | (go_at_call 13;refine (uO _).mono ?_;rintro e wq ⟨rfl,d⟩;have i:=aa (i.o.old d);have j:=aa (j.o.trans' d);have f:=aa (f.o.old d);clear n0 C D l m p r s y z A B sl d;obtain ⟨n0,C,D⟩:=gQ i.o;obtain ⟨l,m,p,r,s,y,z,A,B,sl⟩:=dV f.o)
    | (go_at_call 24;refine (C5 _ _).mono ?_;rintro e wq ⟨rfl,d⟩;have i:=aa (i.o.old d);have j:=aa (j.o.trans' d);have f:=aa (f.o.old d);clear n0 C D l m p r s y z A B sl d;obtain ⟨n0,C,D⟩:=gQ i.o;obtain ⟨l,m,p,r,s,y,z,A,B,sl⟩:=dV f.o))
    go_ret
    exact ⟨rfl,j.o⟩)
   | some L=>first | (exfalso;simp at M;done) | (
    clear M
    go_wp2_with
    (first
    | (go_at_call 16;refine (xW _ _ _ _ Z.o _).mono ?_;rintro e wq ⟨rfl,d⟩;have j:=aa (j.o.trans' d);have f:=aa (f.o.old d);clear l m p r s y z A B sl c0 c1 c2 K d;obtain ⟨l,m,p,r,s,y,z,A,B,sl⟩:=dV f.o)
    | (go_at_call 17;refine (C8 n _).mono ?_;rintro e wq ⟨rfl,d⟩;have i:=aa (Bk.new wq 61 #[.bool false,.bool false,.bool false,.int .i64 0,.slice none 0 0,.int .i64 0,.int .i64 0]);have j:=aa ((j.o.trans' d).ag (.cells #[.bool false,.bool false,.bool false,.int .i64 0,.slice none 0 0,.int .i64 0,.int .i64 0] 61));have f:=aa ((f.o.old d).alloc (.cells #[.bool false,.bool false,.bool false,.int .i64 0,.slice none 0 0,.int .i64 0,.int .i64 0] 61));clear l m p r s y z A B sl d;obtain ⟨n0,C,D⟩:=gQ i.o;obtain ⟨l,m,p,r,s,y,z,A,B,sl⟩:=dV f.o)
    | (go_at_call 8;refine (ET _).mono ?_;rintro e wq ⟨rfl,d⟩;have i:=aa (i.o.old d);have j:=aa (j.o.trans' d);have f:=aa (f.o.old d);clear n0 C D l m p r s y z A B sl d;obtain ⟨n0,C,D⟩:=gQ i.o;obtain ⟨l,m,p,r,s,y,z,A,B,sl⟩:=dV f.o)
    | (go_at_call 9;refine (C6 _ _ _ _ _ _ _ _ _ _).mono ?_;rintro e wq ⟨rfl,d⟩;have i:=aa (i.o.old d);have j:=aa (j.o.trans' d);have f:=aa (f.o.old d);clear n0 C D l m p r s y z A B sl d;obtain ⟨n0,C,D⟩:=gQ i.o;obtain ⟨l,m,p,r,s,y,z,A,B,sl⟩:=dV f.o)
    | (go_at_call 12;refine (C4 _).mono ?_;rintro e wq ⟨rfl,d⟩;have i:=aa (i.o.old d);have j:=aa (j.o.trans' d);have f:=aa (f.o.old d);clear n0 C D l m p r s y z A B sl d;obtain ⟨n0,C,D⟩:=gQ i.o;obtain ⟨l,m,p,r,s,y,z,A,B,sl⟩:=dV f.o)
    | (go_at_call 18;refine (xK _).mono ?_;rintro e wq ⟨rfl,d⟩;have i:=aa (i.o.old d);have j:=aa (j.o.trans' d);have f:=aa (f.o.old d);clear n0 C D l m p r s y z A B sl d;obtain ⟨n0,C,D⟩:=gQ i.o;obtain ⟨l,m,p,r,s,y,z,A,B,sl⟩:=dV f.o)
    | (go_at_call 19;refine (xM _ _).mono ?_;rintro e wq ⟨rfl,d⟩;have i:=aa (i.o.old d);have j:=aa (j.o.trans' d);have f:=aa (f.o.old d);clear n0 C D l m p r s y z A B sl d;obtain ⟨n0,C,D⟩:=gQ i.o;obtain ⟨l,m,p,r,s,y,z,A,B,sl⟩:=dV f.o)
    | (go_at_call 20;refine (F8 _ _).mono ?_;rintro e wq ⟨rfl,d⟩;have i:=aa (i.o.old d);have j:=aa (j.o.trans' d);have f:=aa (f.o.old d);clear n0 C D l m p r s y z A B sl d;obtain ⟨n0,C,D⟩:=gQ i.o;obtain ⟨l,m,p,r,s,y,z,A,B,sl⟩:=dV f.o)
    | (go_at_call 21;refine (zI _ _).mono ?_;rintro e wq ⟨rfl,d⟩;have i:=aa (i.o.old d);have j:=aa (j.o.trans' d);have f:=aa (f.o.old d);clear n0 C D l m p r s y z A B sl d;obtain ⟨n0,C,D⟩:=gQ i.o;obtain ⟨l,m,p,r,s,y,z,A,B,sl⟩:=dV f.o)
    | (go_at_call 22;refine (xL _).mono ?_;rintro e wq ⟨rfl,d⟩;have i:=aa (i.o.old d);have j:=aa (j.o.trans' d);have f:=aa (f.o.old d);clear n0 C D l m p r s y z A B sl d;obtain ⟨n0,C,D⟩:=gQ i.o;obtain ⟨l,m,p,r,s,y,z,A,B,sl⟩:=dV f.o)
    | (go_at_call 23;refine (LC _ _).mono ?_;rintro e wq ⟨rfl,d⟩;have i:=aa (i.o.old d);have j:=aa (j.o.trans' d);have f:=aa (f.o.old d);clear n0 C D l m p r s y z A B sl d;obtain ⟨n0,C,D⟩:=gQ i.o;obtain ⟨l,m,p,r,s,y,z,A,B,sl⟩:=dV f.o)
    | (go_at_call 10;refine (zH _ _).mono ?_;rintro e wq ⟨rfl,d⟩;have i:=aa (i.o.old d);have j:=aa (j.o.trans' d);have f:=aa (f.o.old d);clear n0 C D l m p r s y z A B sl d;obtain ⟨n0,C,D⟩:=gQ i.o;obtain ⟨l,m,p,r,s,y,z,A,B,sl⟩:=dV f.o)
    | (go_at_call 13;refine (uO _).mono ?_;rintro e wq ⟨rfl,d⟩;have i:=aa (i.o.old d);have j:=aa (j.o.trans' d);have f:=aa (f.o.old d);clear n0 C D l m p r s y z A B sl d;obtain ⟨n0,C,D⟩:=gQ i.o;obtain ⟨l,m,p,r,s,y,z,A,B,sl⟩:=dV f.o)
    | (go_at_call 24;refine (C5 _ _).mono ?_;rintro e wq ⟨rfl,d⟩;have i:=aa (i.o.old d);have j:=aa (j.o.trans' d);have f:=aa (f.o.old d);clear n0 C D l m p r s y z A B sl d;obtain ⟨n0,C,D⟩:=gQ i.o;obtain ⟨l,m,p,r,s,y,z,A,B,sl⟩:=dV f.o))
    go_ret
    exact ⟨rfl,j.o⟩)
section
open Go.ChangeShapes Go.WideShapes Go.ChangeAt Go.RowKit Go.Deep
theorem uw:prog.cellsOf 3=1:=ay
theorem IK:prog.cellsOf 36=6:=ay
section
variable {H:Type} {enc:TypeId×Value->H} {w:World} {base:Nat} {spare:Nat->Bool} {held:Bool}
theorem Bz {e:TypeId} {d:Array Field} {n:Nat} {cs:List Value} {y:DataW H×List MemPlace} (k:prog.underlying e=some (.struct d)) (h:DataW.trod enc prog w base spare held n e cs=some y) :
 ∃ m,∀ (j:Nat) (f:Field),d[j]?=some f->∃ z,DataW.trod enc prog w base spare held m f.type ((cs.drop f.offset).take (prog.cellsOf f.type))=some z:=by
 obtain ⟨u,n',l,hy,g,p,r⟩:=DataW.trod_struct k h
 refine ⟨n',fun j f i=>?_⟩
 have s:j < d.size:=(Array.getElem?_eq_some_iff.1 i).1
 exact ⟨_,(r j f i).trans (gG af)⟩
theorem IL {r:Reach} {k:Nat} {v:Value} {d:DataW H} {p:List MemPlace} (n:Value.okWide prog w r k 23 v) (h:DataW.Trod enc prog w base spare held 23 v d p) :
 ∃ a b c:Int,v=.agg #[zi a,zi b,zi c]/\In64 a/\In64 b/\In64 c:=by
 obtain ⟨cs,rfl,s⟩:=okWide_struct underlying23 n
 obtain ⟨l⟩:=cs
 obtain ⟨f,u⟩:=h
 have x:l.length=3:=s.trans ay
 obtain ⟨m,e⟩:=uG underlying23 ay u
 match l,x with
 | [c0,c1,c2],_=>
  obtain ⟨_,h0⟩:=e 0 _ c0 rfl rfl
  obtain ⟨_,y⟩:=e 1 _ c1 rfl rfl
  obtain ⟨_,z⟩:=e 2 _ c2 rfl rfl
  obtain ⟨n0,g,_,w0⟩:=DataW.trod_int underlying3 h0
  obtain ⟨A,i,_,w1⟩:=DataW.trod_int underlying3 y
  obtain ⟨B,j,_,C⟩:=DataW.trod_int underlying3 z
  simp at g i j
  subst g i j
  exact ⟨n0,A,B,rfl,jI w0,jI w1,jI C⟩
theorem IM {r:Reach} {x:Nat} {v:Value} {d:DataW H} {p:List MemPlace} (y:Value.okWide prog w r x 38 v) (h:DataW.Trod enc prog w base spare held 38 v d p) :
 ∃ (k n m:Int) (q:aG),v=.agg #[zi k,zi n,zi m,zi q.client,zi q.seq,zi q.kind,zi q.id,zi q.eD,.string q.data]/\(In64 k/\In64 n/\In64 m)/\q.ok:=by
 obtain ⟨cs,rfl,A⟩:=okWide_struct underlying38 y
 obtain ⟨l⟩:=cs
 obtain ⟨g,B⟩:=h
 have C:l.length=9:=A.trans ay
 match l,C with
 | [c0,c1,c2,c3,c4,c5,c6,c7,c8],_=>
  obtain ⟨m,e⟩:=Bz (cs:=[c0,c1,c2,c3,c4,c5,c6,c7,c8]) underlying38 B
  obtain ⟨_,h0⟩:∃ z,DataW.trod enc prog w base spare held m 3 [c0]=some z:=by have h:=e 0 _ rfl;simpa [uw] using h
  obtain ⟨_,D⟩:∃ z,DataW.trod enc prog w base spare held m 3 [c1]=some z:=by have h:=e 1 _ rfl;simpa [uw] using h
  obtain ⟨_,E⟩:∃ z,DataW.trod enc prog w base spare held m 3 [c2]=some z:=by have h:=e 2 _ rfl;simpa [uw] using h
  obtain ⟨_,F⟩:∃ z,DataW.trod enc prog w base spare held m 36 [c3,c4,c5,c6,c7,c8]=some z:=by have h:=e 3 _ rfl;simpa [IK] using h
  obtain ⟨n0,i,_,w0⟩:=DataW.trod_int underlying3 h0
  obtain ⟨G,j,_,w1⟩:=DataW.trod_int underlying3 D
  obtain ⟨I,s,_,J⟩:=DataW.trod_int underlying3 E
  obtain ⟨q,u,f⟩:=RF rfl F
  simp at i j s
  simp only [aG.cells,List.cons.injEq,and_true] at u
  obtain ⟨K,q1,L,M,N,O⟩:=u
  subst i j s K q1 L M N O
  exact ⟨n0,G,I,q,rfl,⟨jI w0,jI w1,jI J⟩,f⟩
end
end
end Go.Proofs.YthihpfpbiajddaaGreat
