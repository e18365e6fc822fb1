/- Parts of the proof. -/
import Derived.Test.YthihpfpbiajddaaGreatHQWorldNobody19
set_option maxRecDepth 100000
set_option maxHeartbeats 8000000
open Go.Proofs.Tryz
namespace Go.Proofs.YthihpfpbiajddaaGreat
open Go.RowKit
section
variable {w:World} {own:Nat->Tag} {c i W g k:Nat} {u:bV} {s:NS}
theorem aV.hds {w:World} {F K:Nat->Prop} {W g:Nat} {p:iC} {n:dM} (h:aV w F K W g p n) {a:Nat} (d:a < 5) (m:aO) (e:n.heard[a]?.getD .zero=m) :
 w.cell? ⟨g,14 + a * 34 + 1,none⟩=some (zi m.known.az)/\w.cell? ⟨g,14 + a * 34 + 3,none⟩=some (zi m.n)/\w.cell? ⟨g,14 + a * 34 + 4,none⟩=some (zi m.bD)/\w.cell? ⟨g,14 + a * 34 + 5,none⟩=some (zi m.bL)/\w.cell? ⟨g,14 + a * 34 + 25,none⟩=some (.bool m.hop)/\w.cell? ⟨g,14 + a * 34 + 26,none⟩=some (.bool m.open_):=by
 subst e
 exact ⟨h.hd d 1 _ rfl,h.hd d 3 _ rfl,h.hd d 4 _ rfl,h.hd d 5 _ rfl,h.hd d 25 _ rfl,h.hd d 26 _ rfl⟩
theorem FM (N:aN w own c i W g u s) (ok:aF s i k) (x:Int) (Z:x < 5) (b:Bool) (r:s.same x=b) :
 aS 205 #[g,zi x] w fun e w'=>e=.returned (.bool b)/\Old w w':=by
 obtain ⟨p,y⟩:=N.ex
 have z:aV w (fun k=>own k=bM c i 3) (fun k=>own k=aB) W g p s.n:=aV.ub (y.at_ 3)
 have F:=aa z
 have K:=aa N.self
 obtain ⟨ke,kn,hk⟩:∃ ke kn,s.known=⟨ke,kn⟩:=⟨_,_,rfl⟩
 obtain ⟨m,hm⟩:=aR (kn.length)
 have d:m<=5:=Di
 have L:=aa (fun W' (G:Old w W')=>zu (N.old G) (base:=w.heap.size) G.size hk hm d)
 have A:=aa (Old.refl' w)
 by_cases h0:0<=x
 ·obtain ⟨j,rfl⟩:∃ j:Nat,x=j:=⟨x.toNat,af⟩
  have M:j < 5:=af
  obtain ⟨H,f⟩:=aR ((s.n.heard[j]?.getD .zero).known.az)
  have O:(H == ke)=b:=by
   rw [<- r,<- f]
   show _=(decide ((0:Int)<=j) && decide ((s.n.heard[(j:Int).toNat]?.getD .zero).known.az=s.known.az))
   rw [hk]
   simp
   rfl
  have P:=aa f
  have R:=aa M
  have q1:(0:Int)<=(j:Int):=af
  have q2:(j:Int) < 5:=af
  clear z y N ok r hk hm d f
  go_enter func205,ntmps205
  go_wp2_with fail
  refine bG Old w [.val (zi j),.val (.bool true),.val (.bool true),.val g,.val (zi j),.val g,.val (av g 14),.val (av g (14 + j * 34)),.val (av g (14 + j * 34 + 1)),.val (av g (14 + j * 34 + 1)),.val (zi H),.val g,.rel (rq w.heap.size ke m (kn.map (Value.int .i64))),.val (zi ke),.val (.bool b),.val (.bool b),.val (.bool b)] ((Old.refl' _).drew') ?st ?en
  case st=>
   refine .cons (sp [] [(1,zi j)] ?_)<|.cons (sp [(0,5)] [] ?_)<|.cons (sp [(1,6)] [] ?_)<|.cons (fC 2 7 true [] [(0,g)] ?_)<|.cons (fC 2 7 true [] [(1,zi j)] ?_)<|.cons (fC 2 7 true [(3,8)] [] ?_)<|.cons (fC 2 7 true [(5,10)] [] ?_)<|.cons (fC 2 7 true [(6,11),(4,9)] [] ?_)<|.cons (fC 2 7 true [(7,12)] [] ?_)<|.cons (fC 2 7 true [(8,13)] [] ?_)<|.cons (fC 2 7 true [(9,14)] [] ?_)<|.cons (fC 2 7 true [] [(0,g)] ?_)<|.cons (IU 2 7 true 56 func56 [(11,16)] [] _ ?c12)<|.cons (fC 2 7 true [(12,17)] [] ?c13)<|.cons (fC 2 7 true [(10,15),(13,18)] [] ?_)<|.cons (sp [(2,7),(14,19)] [] ?_)<|.cons (sp [(15,20)] [] ?_)<|.nil
   case c12=>
    intro E w' n B
    rintro S
    exact ⟨_,jQ,L.o w' (A.o.trans' n)⟩
   case c13=>
    intro E w' n B I
    rintro _ ⟨J,q1,rfl,C⟩ T
    have f1:=qR (zi ke) (.slice J m q1)
    exact ⟨_,dP,rfl⟩
   all_goals
    intro E w' n B I
    obtain ⟨u0,u1,u2,u3,u4,u5,u6,u8,u9,dF,dD,dK,eu,aX,ug⟩:=(F.o.old (A.o.trans' n)).c K.o
    obtain ⟨U,v3,v4,v5,V,X⟩:=(F.o.old (A.o.trans' n)).hds (a:=j) R.o _ rfl
    rw [P.o] at U
    repeat intro _
    exact ⟨_,dP,rfl⟩
  case en=>
   intro D Y l
   iterate 12 refine Ends.eqv _ _ rfl (fun _ h=>h) ?_
   refine Ends.ex _ rfl ?_
   rintro _ _ ⟨J,q1,rfl,C⟩
   iterate 4 refine Ends.eqv _ _ rfl (fun _ h=>h) ?_
   refine Ends.nil ?_
   simp only [aC,ax,fM,fJ]
   go_wp2_with fail
   go_ret
   exact ⟨rfl,l⟩
 ·obtain rfl:false=b:=by
   rw [<- r]
   show _=(decide (0<=x) && _)
   simp [h0]
  clear z y N ok r hk hm d
  go_enter func205,ntmps205
  go_wp2_with fail
  refine bG Old w [.val (zi x),.val (.bool false),.val (.bool false),.val (undef),.val (undef),.val (undef),.val (undef),.val (undef),.val (undef),.val (undef),.val (undef),.val (undef),.val (undef),.val (undef),.val (undef),.val (.bool false),.val (.bool false)] ((Old.refl' _).drew') ?st ?en
  case st=>
   refine .cons (sp [] [(1,zi x)] ?_)<|.cons (sp [(0,5)] [] ?_)<|.cons (sp [(1,6)] [] ?_)<|.cons (sk 2 7 false)<|.cons (sk 2 7 false)<|.cons (sk 2 7 false)<|.cons (sk 2 7 false)<|.cons (sk 2 7 false)<|.cons (sk 2 7 false)<|.cons (sk 2 7 false)<|.cons (sk 2 7 false)<|.cons (sk 2 7 false)<|.cons (sk 2 7 false)<|.cons (sk 2 7 false)<|.cons (sk 2 7 false)<|.cons (sp [(2,7),(14,19)] [] ?_)<|.cons (sp [(15,20)] [] ?_)<|.nil
   all_goals
    intro E w' n B I
    repeat intro _
    exact ⟨_,dP,rfl⟩
  case en=>
   intro D Y l
   iterate 17 refine Ends.eqv _ _ rfl (fun _ h=>h) ?_
   refine Ends.nil ?_
   simp only [aC,ax,fM,fJ]
   go_wp2_with fail
   go_ret
   exact ⟨rfl,l⟩
theorem sQ (N:aN w own c i W g u s) (ok:aF s i k) (r:Int) (P:s.bL=r) :
 aS 199 #[g] w fun e w'=>e=.returned (zi r)/\Old w w':=by
 obtain ⟨p,R⟩:=N.ex
 have J:aV w (fun k=>own k=bM c i 3) (fun k=>own k=aB) W g p s.n:=aV.ub (R.at_ 3)
 have H3:=aa J
 have HS:=aa N.self
 obtain ⟨ke,kn,hk⟩:∃ ke kn,s.known=⟨ke,kn⟩:=⟨_,_,rfl⟩
 obtain ⟨m,hm⟩:=aR (kn.length)
 have K:m<=5:=Di
 have I:=aa (fun W' (B:Old w W')=>zu (N.old B) (base:=w.heap.size) B.size hk hm K)
 obtain ⟨cs,JA,jq,b1,b2,T,S⟩:=J.ex
 obtain ⟨j,l⟩:=aR (s.n.kept.join.az)
 obtain ⟨jn,n⟩:=aR (s.n.kept.join.nodes.length)
 have U:jn<=5:=n▸ok.join.len
 rw [n] at b2
 have L:=aa (fun W' (B:Old w W')=>(⟨((b1.old B).cell 6).trans (b2.one 6 _ (by rw [show jM W p s.n (.slice JA jn jq) 6=some (zi s.n.kept.join.az) from rfl,l])),((b1.old B).cell 7).trans (b2.one 7 _ rfl)⟩:W'.cell? ⟨g,6,none⟩=some (zi j)/\W'.cell? ⟨g,7,none⟩=some (.slice JA jn jq)))
 obtain ⟨M,C⟩:=aR (s.n.kept.join.tail)
 have O:=aa (fun W' (B:Old w W')=>yL j JA jn jq s.n.kept.join.nodes M n.symm af C W' (S.1.old B))
 obtain ⟨x,D⟩:=aR (s.known.tail)
 have y:kn.getLast?.getD (-1)=x:=by rw [<- D,hk];rfl
 have V:0<=ke/\ke<=1073741824:=by have:=bC.Sg ok.acc.may;rw [show s.n.kept.acc.known=⟨ke,kn⟩ from hk] at this;exact this
 have X:IntKind.i64.wrap (ke + 1)=ke + 1:=kP _ af
 have f:(if j≠ke + 1∨x≠(i:Int) then -1 else M)=r:=by
  rw [<- P,<- l,<- D,<- C,<- N.self]
  unfold NS.bL
  rw [hk]
 have HJE:=aa l
 have c1:=I.o w (Old.refl' w)
 have F:=aa (fun A q W' (h:aP W' A kn)=>yL ke A m q kn x hm.symm af y W' h)
 clear J R N ok hk b1 b2 T S n C D y P l
 by_cases G:j=ke + 1
 ·have Y:(j != ke + 1)=false:=by simp [G]
  by_cases H:x=(i:Int)
  ·have Z:(x != (i:Int))=false:=by simp [H]
   obtain rfl:M=r:=by rw [<- f,if_neg (by simp [G,H])]
   clear f G H
   go_enter func199,ntmps199
   go_wp2_with fail
   refine c1.mono ?_
   rintro e w1 ⟨_,rfl,⟨A,q,rfl,d⟩,z⟩
   have X0:=aa (Bk.new w1 59 #[zi ke,.slice A m q])
   have O2:=aa (z.ag (.cells #[zi ke,.slice A m q] 59))
   have HO:=aa (bF d ((Old.refl' w1).ag (.cells #[zi ke,.slice A m q] 59)))
   have cT:=aa (fun W' h=>F.o A q W' h)
   clear d z c1 I
   go_wp2_with fail
   refine bG Old (w1.alloc (.cells #[zi ke,.slice A m q] 59)) [.val g,.val g,.val (av g 4),.val (av g 6),.val (av g 6),.val (zi j),.val w1.heap.size,.val (zi ke),.val (zi (ke + 1)),.val (.bool false),.val (.bool false),.val (.agg #[zi ke,.slice A m q]),.val (zi x),.val g,.val g,.val (av g 1),.val (zi i),.val (.bool false),.val (.bool false)] ((Old.refl' _).drew') ?st ?en
   case st=>exact Uu
   case en=>
    intro jA w9 nT
    iterate 19 refine Ends.eqv _ _ rfl (fun _ h=>h) ?_
    refine Ends.nil ?_
    simp only [aC,ax,fM,fJ]
    obtain ⟨j6,j7⟩:=L.o w9 (O2.o.trans' nT)
    have cJ:=aa (O.o w9 (O2.o.trans' nT))
    obtain ⟨u0,u1,u2,u3,u4,u5,u6,u8,u9,dF,dD,dK,eu,aX,ug⟩:=(H3.o.old (O2.o.trans' nT)).c HS.o
    clear u0 u1 u2 u3 u4 u5 u6 u8 u9 dF dD dK eu aX
    go_wp2_with fail
    refine cJ.o.mono ?_
    rintro e w8 ⟨rfl,o8⟩
    go_wp2_with fail
    go_ret
    exact ⟨rfl,(O2.o.trans' nT).trans' o8⟩
  ·have Z:(x != (i:Int))=true:=by simp [H]
   obtain rfl:-1=r:=by rw [<- f,if_pos (.inr H)]
   clear f G H
   go_enter func199,ntmps199
   go_wp2_with fail
   refine c1.mono ?_
   rintro e w1 ⟨_,rfl,⟨A,q,rfl,d⟩,z⟩
   have X0:=aa (Bk.new w1 59 #[zi ke,.slice A m q])
   have O2:=aa (z.ag (.cells #[zi ke,.slice A m q] 59))
   have HO:=aa (bF d ((Old.refl' w1).ag (.cells #[zi ke,.slice A m q] 59)))
   have cT:=aa (fun W' h=>F.o A q W' h)
   clear d z c1 I
   go_wp2_with fail
   refine bG Old (w1.alloc (.cells #[zi ke,.slice A m q] 59)) [.val g,.val g,.val (av g 4),.val (av g 6),.val (av g 6),.val (zi j),.val w1.heap.size,.val (zi ke),.val (zi (ke + 1)),.val (.bool false),.val (.bool false),.val (.agg #[zi ke,.slice A m q]),.val (zi x),.val g,.val g,.val (av g 1),.val (zi i),.val (.bool true),.val (.bool true)] ((Old.refl' _).drew') ?st ?en
   case st=>exact Uu
   case en=>exact UO
 ·have Y:(j != ke + 1)=true:=by simp [G]
  obtain rfl:-1=r:=by rw [<- f,if_pos (.inl G)]
  clear f G
  go_enter func199,ntmps199
  go_wp2_with fail
  refine c1.mono ?_
  rintro e w1 ⟨_,rfl,⟨A,q,rfl,d⟩,z⟩
  have X0:=aa (Bk.new w1 59 #[zi ke,.slice A m q])
  have O2:=aa (z.ag (.cells #[zi ke,.slice A m q] 59))
  have HO:=aa (bF d ((Old.refl' w1).ag (.cells #[zi ke,.slice A m q] 59)))
  have cT:=aa (fun W' h=>F.o A q W' h)
  clear d z c1 I
  go_wp2_with fail
  refine bG Old (w1.alloc (.cells #[zi ke,.slice A m q] 59)) [.val g,.val g,.val (av g 4),.val (av g 6),.val (av g 6),.val (zi j),.val w1.heap.size,.val (zi ke),.val (zi (ke + 1)),.val (.bool true),.val (.bool true),.val (undef),.val (undef),.val (undef),.val (undef),.val (undef),.val (undef),.val (undef),.val (.bool true)] ((Old.refl' _).drew') ?st ?en
  case st=>
   refine .cons (sp [] [(0,g)] ?_)<|.cons (sp [(0,6)] [] ?_)<|.cons (sp [(1,7)] [] ?_)<|.cons (sp [(2,8)] [] ?_)<|.cons (sp [(3,9)] [] ?_)<|.cons (sp [(4,10)] [] ?_)<|.cons (sp [] [(3,w1.heap.size)] ?_)<|.cons (sp [(6,12)] [] ?_)<|.cons (sp [(7,13)] [] ?_)<|.cons (sp [(5,11),(8,14)] [] ?_)<|.cons (sp [(9,15)] [] ?_)<|.cons (sk 10 16 true)<|.cons (sk 10 16 true)<|.cons (sk 10 16 true)<|.cons (sk 10 16 true)<|.cons (sk 10 16 true)<|.cons (sk 10 16 true)<|.cons (sk 10 16 true)<|.cons (sp [(10,16),(17,23)] [] ?_)<|.nil
   all_goals
    intro E w' hS hc hf
    obtain ⟨u0,u1,u2,u3,u4,u5,u6,u8,u9,dF,dD,dK,eu,aX,ug⟩:=(H3.o.old (O2.o.trans' hS)).c HS.o
    obtain ⟨x0,x1,x2,x3,x4⟩:=bk2 (X0.o.old hS)
    rw [HJE.o] at u6
    repeat intro _
    exact ⟨_,dP,rfl⟩
  case en=>exact UO
end
section
variable {w:World} {own:Nat->Tag} {c i W g k:Nat} {u:bV} {s:NS}
theorem V4 (N:aN w own c i W g u s) (ok:aF s i k) (j:Nat) (hj:j < 5) (b:Bool) (hb:s.left j=b) :
 aS 183 #[g,zi j] w fun e w'=>e=.returned (.bool b)/\Old w w':=by
 obtain ⟨p,hp⟩:=N.ex
 have h3:aV w (fun k=>own k=bM c i 3) (fun k=>own k=aB) W g p s.n:=aV.ub (hp.at_ 3)
 have D:=aa h3
 have V:=aa N.self
 obtain ⟨ke,kn,hk⟩:∃ ke kn,s.known=⟨ke,kn⟩:=⟨_,_,rfl⟩
 obtain ⟨m,hm⟩:=aR (kn.length)
 have X:m<=5:=Di
 have cK:=aa (fun W' (hW:Old w W')=>zu (N.old hW) (base:=w.heap.size) hW.size hk hm X)
 have h5:iy w (fun k=>own k=bM c i 5) (fun k=>own k=aB) p.ac s.n.kept.acc:=hp.at_ 5
 have l:=Ka _ _ p.ac s.n.kept.acc (by have:=ok.acc.c_;omega) w h5
 obtain ⟨v,hv⟩:=aR (s.n.kept.acc.bN)
 have I:v.chain.nodes.length<=5:=hv▸ok.acc.c_
 have n:(decide (s.n.refuse[j]?.getD 0=ke) || (v.has && !(v.chain.has j)))=b:=by
  rw [<- hb,<- hv]
  unfold NS.left
  rw [hk]
  rfl
 rw [hv] at l
 obtain ⟨⟨F,G⟩,⟨H,an⟩,d,⟨x,S⟩⟩:=v
 unfold wJ at l
 simp only at l I n
 obtain ⟨y,J⟩:=aR (S.length)
 rw [J] at l I
 obtain ⟨rf,K⟩:=aR (s.n.refuse[j]?.getD 0)
 obtain ⟨C,L⟩:=aR (S.contains (j:Int))
 rw [K,show (⟨x,S⟩:bC).has j=S.contains (j:Int) from rfl,L] at n
 have Y:=aa (fun A q W' (h:aP W' A S)=>NL x A y q S j C J.symm af L W' h)
 have cV:=aa l
 have M:=aa K
 have HJ:=aa hj
 have q1:(0:Int)<=(j:Int):=af
 have q2:(j:Int) < 5:=af
 clear h3 hp N ok hk hm X h5 l hv J I K L hb hj
 by_cases T:rf=ke
 ·have k1:(rf == ke)=true:=by simp [T]
  obtain rfl:true=b:=by rw [<- n];simp [T]
  clear n T
  obtain ⟨u0,u1,u2,u3,u4,u5,u6,u8,u9,dF,dD,dK,eu,aX,U⟩:=D.o.c V.o
  clear u0 u1 u2 u3 u5 u6 u8 u9 dF dD dK eu aX
  go_enter func183,ntmps183
  go_wp2_with fail
  refine cV.o.mono ?_
  rintro e w1 ⟨A,q,rfl,f,Z⟩
  have r:=aa (Bk.new w1 108 #[zi F,zi G,zi H,zi an,.bool d,zi x,.slice A y q])
  have z:=aa (Z.ag (.cells #[zi F,zi G,zi H,zi an,.bool d,zi x,.slice A y q] 108))
  have HO:=aa (bF f ((Old.refl' w1).ag (.cells #[zi F,zi G,zi H,zi an,.bool d,zi x,.slice A y q] 108)))
  have cH:=aa (fun W' h=>Y.o A q W' h)
  clear f Z cV u4 U
  go_wp2_with fail
  refine bG Old (w1.alloc (.cells #[zi F,zi G,zi H,zi an,.bool d,zi x,.slice A y q] 108)) [.val g,.val (zi j),.val g,.val (av g 184),.val (av g (184 + j)),.val (zi rf),.val g,.rel (rq w.heap.size ke m (kn.map (Value.int .i64))),.val (zi ke),.val (.bool true),.val (.bool true),.val (undef),.val (undef),.val (undef),.val (undef),.val (undef),.val (undef),.val (undef),.val (undef),.val (undef),.val (.bool true),.val (.bool true)] ((Old.refl' _).drew') ?st ?en
  case st=>
   refine .cons (sp [] [(0,g)] ?_)<|.cons (sp [] [(1,zi j)] ?_)<|.cons (sp [(0,12)] [] ?_)<|.cons (sp [(2,14)] [] ?_)<|.cons (sp [(3,15),(1,13)] [] ?_)<|.cons (sp [(4,16)] [] ?_)<|.cons (sp [] [(0,g)] ?_)<|.cons (sc 56 func56 [(6,18)] [] _ ?c7)<|.cons (sp [(7,19)] [] ?c8)<|.cons (sp [(5,17),(8,20)] [] ?_)<|.cons (sp [(9,21)] [] ?_)<|.cons (sk 10 22 true)<|.cons (sk 10 22 true)<|.cons (sk 10 22 true)<|.cons (su 13 25 true)<|.cons (su 13 25 true)<|.cons (su 13 25 true)<|.cons (su 13 25 true)<|.cons (su 13 25 true)<|.cons (sk 10 22 true)<|.cons (sp [(10,22),(19,31)] [] ?_)<|.cons (sp [(20,32)] [] ?_)<|.nil
   case c7=>
    intro E w' hS hc
    rintro e18
    exact ⟨_,jQ,cK.o w' (z.o.trans' hS)⟩
   case c8=>exact U8
   all_goals
    intro E w' hS hc hf
    obtain ⟨u0,u1,u2,u3,u4,u5,u6,u8,u9,dF,dD,dK,eu,aX,U⟩:=(D.o.old (z.o.trans' hS)).c V.o
    have ur:=(D.o.old (z.o.trans' hS)).rf HJ.o
    rw [M.o] at ur
    have x4:=(r.o.old hS).cell 4
    have x5:=(r.o.old hS).cell 5
    have x6:=(r.o.old hS).cell 6
    have xl:=(r.o.old hS).lt
    simp only [iZ,nW,je] at x4 x5 x6
    repeat intro _
    exact ⟨_,dP,rfl⟩
  case en=>
   intro jA w9 O
   iterate 7 refine Ends.eqv _ _ rfl (fun _ h=>h) ?_
   refine Ends.ex _ rfl ?_
   rintro _ _ ⟨A1,q1,rfl,ho1⟩
   iterate 14 refine Ends.eqv _ _ rfl (fun _ h=>h) ?_
   refine Ends.nil ?_
   simp only [aC,ax,fM,fJ]
   go_wp2_with fail
   go_ret
   exact ⟨rfl,z.o.trans' O⟩
 ·have k1:(rf == ke)=false:=by simp [T]
  obtain ⟨nv,P⟩:=aR ((!C))
  obtain ⟨p2,R⟩:=aR ((d && nv))
  obtain rfl:p2=b:=by rw [<- n,<- R,<- P];simp [T]
  have HNV:=aa P
  have Sl:=aa R
  clear n T P R
  obtain ⟨u0,u1,u2,u3,u4,u5,u6,u8,u9,dF,dD,dK,eu,aX,U⟩:=D.o.c V.o
  clear u0 u1 u2 u3 u5 u6 u8 u9 dF dD dK eu aX
  go_enter func183,ntmps183
  go_wp2_with fail
  refine cV.o.mono ?_
  rintro e w1 ⟨A,q,rfl,f,Z⟩
  have r:=aa (Bk.new w1 108 #[zi F,zi G,zi H,zi an,.bool d,zi x,.slice A y q])
  have z:=aa (Z.ag (.cells #[zi F,zi G,zi H,zi an,.bool d,zi x,.slice A y q] 108))
  have HO:=aa (bF f ((Old.refl' w1).ag (.cells #[zi F,zi G,zi H,zi an,.bool d,zi x,.slice A y q] 108)))
  have cH:=aa (fun W' h=>Y.o A q W' h)
  clear f Z cV u4 U
  go_wp2_with fail
  refine bG Old (w1.alloc (.cells #[zi F,zi G,zi H,zi an,.bool d,zi x,.slice A y q] 108)) [.val g,.val (zi j),.val g,.val (av g 184),.val (av g (184 + j)),.val (zi rf),.val g,.rel (rq w.heap.size ke m (kn.map (Value.int .i64))),.val (zi ke),.val (.bool false),.val (.bool false),.val (av w1.heap.size 4),.val (.bool d),.val (.bool d),.val (if d=true then av w1.heap.size 5 else undef),.val (if d=true then .agg #[zi x,.slice A y q] else undef),.val (if d=true then zi j else undef),.val (if d=true then .bool C else undef),.val (if d=true then .bool nv else undef),.val (.bool p2),.val (.bool p2),.val (.bool p2)] ((Old.refl' _).drew') ?st ?en
  case st=>
   refine .cons (sp [] [(0,g)] ?_)<|.cons (sp [] [(1,zi j)] ?_)<|.cons (sp [(0,12)] [] ?_)<|.cons (sp [(2,14)] [] ?_)<|.cons (sp [(3,15),(1,13)] [] ?_)<|.cons (sp [(4,16)] [] ?_)<|.cons (sp [] [(0,g)] ?_)<|.cons (sc 56 func56 [(6,18)] [] _ ?c7)<|.cons (sp [(7,19)] [] ?c8)<|.cons (sp [(5,17),(8,20)] [] ?_)<|.cons (sp [(9,21)] [] ?_)<|.cons (fC 10 22 false [] [(5,w1.heap.size)] ?_)<|.cons (fC 10 22 false [(11,23)] [] ?_)<|.cons (fC 10 22 false [(12,24)] [] ?_)<|.cons (mD 13 25 d true (av w1.heap.size 5) [] [(5,w1.heap.size)] ?i14)<|.cons (mD 13 25 d true (.agg #[zi x,.slice A y q]) [(14,26)] [] ?i15)<|.cons (mD 13 25 d true (zi j) [] [(1,zi j)] ?i16)<|.cons (MN 13 25 d true (.bool C) 57 func57 [(15,27),(16,28)] [] _ ?c17)<|.cons (mD 13 25 d true (.bool nv) [(17,29)] [] ?c18)<|.cons (fC 10 22 false [(13,25),(18,30)] [] ?c19)<|.cons (sp [(10,22),(19,31)] [] ?_)<|.cons (sp [(20,32)] [] ?_)<|.nil
   case c7=>
    intro E w' hS hc
    rintro e18
    exact ⟨_,jQ,cK.o w' (z.o.trans' hS)⟩
   case c8=>exact U8
   case c17=>
    intro B E w' hS hc
    subst B
    rintro e27 e28
    exact ⟨_,IZ,cH.o w' (ah.bA (bF HO.o hS))⟩
   case c18=>
    intro B E w' hS hc hf
    subst B
    rintro e29
    obtain rfl:=HNV.o
    show _=_
    go_simp
   case c19=>
    intro E w' hS hc hf
    rintro e25 e30
    obtain rfl:=Sl.o
    cases d <;> exact ⟨_,dP,rfl⟩
   case i14 | i15 | i16=>
    intro B E w' hS hc hf
    subst B
    obtain ⟨u0,u1,u2,u3,u4,u5,u6,u8,u9,dF,dD,dK,eu,aX,U⟩:=(D.o.old (z.o.trans' hS)).c V.o
    have ur:=(D.o.old (z.o.trans' hS)).rf HJ.o
    rw [M.o] at ur
    have x4:=(r.o.old hS).cell 4
    have x5:=(r.o.old hS).cell 5
    have x6:=(r.o.old hS).cell 6
    have xl:=(r.o.old hS).lt
    simp only [iZ,nW,je] at x4 x5 x6
    repeat intro _
    show _=_
    go_simp
   all_goals
    intro E w' hS hc hf
    obtain ⟨u0,u1,u2,u3,u4,u5,u6,u8,u9,dF,dD,dK,eu,aX,U⟩:=(D.o.old (z.o.trans' hS)).c V.o
    have ur:=(D.o.old (z.o.trans' hS)).rf HJ.o
    rw [M.o] at ur
    have x4:=(r.o.old hS).cell 4
    have x5:=(r.o.old hS).cell 5
    have x6:=(r.o.old hS).cell 6
    have xl:=(r.o.old hS).lt
    simp only [iZ,nW,je] at x4 x5 x6
    repeat intro _
    exact ⟨_,dP,rfl⟩
  case en=>
   intro jA w9 O
   iterate 7 refine Ends.eqv _ _ rfl (fun _ h=>h) ?_
   refine Ends.ex _ rfl ?_
   rintro _ _ ⟨A1,q1,rfl,ho1⟩
   iterate 6 refine Ends.eqv _ _ rfl (fun _ h=>h) ?_
   iterate 5 (refine Ends.ex _ rfl ?_;intro _ _ _)
   iterate 3 refine Ends.eqv _ _ rfl (fun _ h=>h) ?_
   refine Ends.nil ?_
   simp only [aC,ax,fM,fJ]
   go_wp2_with fail
   go_ret
   exact ⟨rfl,z.o.trans' O⟩
theorem FN {α:Type} {P:α->Bool}:∀ (l:List α),(∀ x∈l,P x=false)->l.find? P=none:=fun l h=>List.find?_eq_none.2 fun x d=>by simp [h x d]
theorem El {n j:Nat} {P:Int->Bool} (d:j < n) (e:P j=true) (f:∀ x:Nat,x < j->P x=false):((List.range n).map Int.ofNat).find? P=some j:=by
 rw [List.find?_map]
 have:(List.range n).find? (P ∘ Int.ofNat)=some j:=by
  rw [List.find?_range_eq_some]
  exact ⟨e,List.mem_range.2 d,fun x h=>by simpa using f x h⟩
 rw [this]
 rfl
theorem Hu (N:aN w own c i W g u s) (ok:aF s i k) (r:Int) (hr:s.kK=r) :
 aS 178 #[g] w fun e w'=>e=.returned (zi r)/\Old w w':=by
 obtain ⟨p,hp⟩:=N.ex
 have h3:aV w (fun k=>own k=bM c i 3) (fun k=>own k=aB) W g p s.n:=aV.ub (hp.at_ 3)
 have H3:=aa h3
 have HS:=aa N.self
 obtain ⟨ke,kn,hk⟩:∃ ke kn,s.known=⟨ke,kn⟩:=⟨_,_,rfl⟩
 obtain ⟨m,hm⟩:=aR (kn.length)
 have X:m<=5:=Di
 have cK:=aa (fun W' (d:Old w W')=>zu (N.old d) (base:=w.heap.size) d.size hk hm X)
 have h0:iB w (fun k=>own k=bM c i 0) (fun k=>own k=aB) W s.conf u s.aA:=hp.at_ 0
 obtain ⟨w0,-,-,-,wl⟩:=h0.cells
 have h10:fH w p.wa 254 s.n.watch.n s.n.watch.self s.n.watch.heard:=(hp.at_ 10).1
 obtain ⟨n,hn⟩:=aR (s.conf.nodes)
 have Ql:n<=5:=hn▸ok.conf.n5
 obtain ⟨now,B⟩:=aR (s.now)
 obtain ⟨jo,L⟩:=aR (s.bL)
 have c1:=cK.o w (Old.refl' w)
 have cJ:=aa (fun W' (d:Old w W')=>sQ (N.old d) ok jo L)
 have cS0:=aa (fun (x:Nat) (M:x < 5) (b:Bool) (H:s.same x=b) W' (d:Old w W')=>FM (N.old d) ok x af b H)
 have cN0:=aa (fun W' (d:Old w W')=>B▸Cx (N.old d))
 have cT0:=aa (fun (x:Nat) (b:Bool) (H:s.n.watch.there now x=b) W' (d:Old w W')=>vI p.wa s.n.watch now x b (ok.wa.n_▸ok.conf.n5) (by have:=ok.now;rw [B] at this;omega) (fun j hj=>by have:=ok.wa.h_ j hj;omega) H W' (h10.old d))
 have cH0:=aa (fun (x:Nat) (b:Bool) (H:kn.contains (x:Int)=b) A q W' (h:aP W' A kn)=>NL ke A m q kn x b hm.symm af H W' h)
 obtain ⟨P,hP⟩:∃ P:Int->Bool,P=fun x=>!(kn.contains x) && s.same x && s.n.watch.there now x:=⟨_,rfl⟩
 have C:(if 0<=jo then jo else ((((List.range n).map Int.ofNat).find? P).getD (-1)))=r:=by
  rw [<- hr,<- L,hP,<- B,<- hn]
  unfold NS.kK
  rw [hk]
  rfl
 have HP:=aa hP
 have W0:=aa (fun W' (d:Old w W')=>(⟨(d.cell (p:=⟨W,0,none⟩) wl).trans w0,iD wl d.size⟩:W'.cell? ⟨W,0,none⟩=some (zi s.conf.nodes)/\W < W'.heap.size))
 rw [hn] at W0
 clear h3 hp N ok hk hm X h0 h10 hr hP w0 wl hn B L cK
 go_enter func178,ntmps178
 go_wp2_with fail
 refine c1.mono ?_
 rintro e w1 ⟨_,rfl,⟨A,q,rfl,J⟩,o1⟩
 have X1:=aa (Bk.new w1 59 #[zi ke,.slice A m q])
 have o2:=o1.ag (.cells #[zi ke,.slice A m q] 59)
 have Y:=aa (bF J ((Old.refl' w1).ag (.cells #[zi ke,.slice A m q] 59)))
 have Z:=aa (cJ.o _ o2)
 have O1:=aa o2
 clear J o1 o2 c1 cJ
 go_wp2_with fail
 refine Z.o.mono ?_
 rintro e I ⟨rfl,o3⟩
 have X0:=aa (X1.o.old o3)
 have F:=aa (O1.o.trans' o3)
 have HO:=aa (bF Y.o o3)
 obtain ⟨MO,w21⟩:=W0.o I F.o
 obtain ⟨u0,u1,u2,u3,u4,u5,u6,u8,u9,dF,dD,dK,eu,aX,ug⟩:=(H3.o.old F.o).c HS.o
 clear u1 u2 u3 u4 u5 u6 u8 u9 dF dD dK eu aX X1 O1 Y Z o3 W0
 by_cases e0:0<=jo
 ·obtain rfl:jo=r:=by rw [<- C,if_pos e0]
  clear C
  go_wp2
  go_ret
  exact ⟨rfl,F.o⟩
 ·have HF:=aa (fun (j:Nat) (h0:j < n) (h1:P j=true) (h2:∀ x:Nat,x < j->P x=false)=>(show (j:Int)=r by rw [<- C,if_neg e0,El h0 h1 h2];rfl))
  have V5:=aa (fun (h:∀ x:Nat,x < n->P x=false)=>(show (-1:Int)=r by
   rw [<- C,if_neg e0,FN _ (fun x M=>by
    obtain ⟨y,hy,rfl⟩:=List.mem_map.1 M
    exact h y (List.mem_range.1 hy))]
   rfl))
  clear C
  go_wp2
  go_loopw [21] (fun iv wr=>∃ j:Nat,j<=n/\iv=zi j/\kN (∀ x:Nat,x < j->P x=false)/\Old I wr) (fun iv _=>n - (intOf iv).toNat)
  case atStart=>exact ⟨0,af,rfl,aa (fun x M=>absurd M (Nat.not_lt_zero _)),Old.refl' I⟩
  case round=>
   obtain ⟨j,hj,rfl,HB,D⟩:=hrel
   by_cases hlt:j < n
   ·have Fp:=aa hlt
    obtain ⟨H,O⟩:=aR (kn.contains (j:Int))
    have cH:=aa (fun W' (d:Old I W')=>cH0.o j H O A q W' (ah.bA (bF HO.o d)))
    obtain ⟨sb,R⟩:=aR (s.same j)
    have cS:=aa (fun W' (d:Old I W')=>cS0.o j af sb R W' (F.o.trans' d))
    have cN:=aa (fun W' (d:Old I W')=>cN0.o W' (F.o.trans' d))
    obtain ⟨tb,S⟩:=aR (s.n.watch.there now j)
    have cT:=aa (fun W' (d:Old I W')=>cT0.o j tb S W' (F.o.trans' d))
    obtain ⟨G,T⟩:=aR ((!H))
    obtain ⟨f,U⟩:=aR ((G && sb))
    obtain ⟨p3,V⟩:=aR ((f && tb))
    have HPJ:=aa (show P j=p3 by rw [HP.o];simp only [O,R,S];rw [T,U,V])
    have MP:=aa T
    have Sl:=aa U
    have HP3:=aa V
    clear O R S T U V
    have hlt':(j:Int) < (n:Int):=af
    go_wp2_with fail
    refine bG Old wr [.val (.agg #[zi ke,.slice A m q]),.val (zi j),.val (.bool H),.val (.bool G),.val (.bool G),.val (if G=true then av g 0 else undef),.val (if G=true then zi j else undef),.val (if G=true then .bool sb else undef),.val (.bool f),.val (.bool f),.val (if f=true then av g 0 else undef),.val (if f=true then av g 0 else undef),.val (if f=true then av g 13 else undef),.val (if f=true then av p.wa 0 else undef),.val (if f=true then av g 0 else undef),.val (if f=true then zi now else undef),.val (if f=true then zi j else undef),.val (if f=true then .bool tb else undef),.val (.bool p3)] ((Old.refl' _).drew') ?st ?en
    case st=>
     refine .cons (sp [] [(3,w1.heap.size)] ?_)<|.cons (sp [] [(5,zi j)] ?_)<|.cons (sc 57 func57 [(0,24),(1,25)] [] _ ?c2)<|.cons (sp [(2,26)] [] ?c3)<|.cons (sp [(3,27)] [] ?_)<|.cons (mD 4 28 G true (av g 0) [] [(0,g)] ?i5)<|.cons (mD 4 28 G true (zi j) [] [(5,zi j)] ?i6)<|.cons (MN 4 28 G true (.bool sb) 205 func205 [(5,29),(6,30)] [] _ ?c7)<|.cons (sp [(4,28),(7,31)] [] ?c8)<|.cons (sp [(8,32)] [] ?_)<|.cons (mD 9 33 f true (av g 0) [] [(0,g)] ?i10)<|.cons (mD 9 33 f true (av g 0) [(10,34)] [] ?i11)<|.cons (mD 9 33 f true (av g 13) [(11,35)] [] ?i12)<|.cons (mD 9 33 f true (av p.wa 0) [(12,36)] [] ?i13)<|.cons (mD 9 33 f true (av g 0) [] [(0,g)] ?i14)<|.cons (MN 9 33 f true (zi now) 92 func92 [(14,38)] [] _ ?c15)<|.cons (mD 9 33 f true (zi j) [] [(5,zi j)] ?i16)<|.cons (MN 9 33 f true (.bool tb) 226 func226 [(13,37),(15,39),(16,40)] [] _ ?c17)<|.cons (sp [(9,33),(17,41)] [] ?c18)<|.nil
     case c2=>
      intro E w' l K
      rintro e24 e25
      exact ⟨_,jQ,.of (cH.o w' (D.trans' l)) fun e I h=>⟨_,h.1,rfl,h.2⟩⟩
     case c3=>
      intro E w' l K hf
      rintro e26
      rw [<- MP.o]
      exact ⟨_,dP,rfl⟩
     case c7=>
      intro z E w' l K
      subst z
      rintro e29 e30
      exact ⟨_,IZ,cS.o w' (D.trans' l)⟩
     case c8=>
      intro E w' l K hf
      rintro e28 e31
      obtain rfl:=Sl.o
      cases G <;> exact ⟨_,dP,rfl⟩
     case c15=>
      intro z E w' l K
      subst z
      rintro e38
      exact ⟨_,IZ,cN.o w' (D.trans' l)⟩
     case c17=>
      intro z E w' l K
      subst z
      rintro e37 e39 e40
      exact ⟨_,IZ,(cT.o w' (D.trans' l)).mono fun e I h=>⟨h.1,h.2▸Old.refl' _⟩⟩
     case c18=>
      intro E w' l K hf
      rintro e33 e41
      obtain rfl:=HP3.o
      cases f <;> exact ⟨_,dP,rfl⟩
     case i5 | i6 | i10 | i11 | i12 | i13 | i14 | i16=>
      intro z E w' l K hf
      subst z
      obtain ⟨u0,u1,u2,u3,u4,u5,u6,u8,u9,dF,dD,dK,eu,aX,ug⟩:=(H3.o.old (F.o.trans' (D.trans' l))).c HS.o
      clear u0 u1 u2 u3 u4 u5 u6 u8 u9 dF dD dK aX
      obtain ⟨x0,x1,x2,x3,x4⟩:=bk2 (X0.o.old (D.trans' l))
      repeat intro _
      show _=_
      go_simp
     all_goals
      intro E w' l K hf
      obtain ⟨u0,u1,u2,u3,u4,u5,u6,u8,u9,dF,dD,dK,eu,aX,ug⟩:=(H3.o.old (F.o.trans' (D.trans' l))).c HS.o
      clear u0 u1 u2 u3 u4 u5 u6 u8 u9 dF dD dK aX
      obtain ⟨x0,x1,x2,x3,x4⟩:=bk2 (X0.o.old (D.trans' l))
      repeat intro _
      exact ⟨_,dP,rfl⟩
    case en=>
     intro jA w9 nT
     iterate 5 refine Ends.eqv _ _ rfl (fun _ h=>h) ?_
     iterate 3 (refine Ends.ex _ rfl ?_;intro _ _ _)
     iterate 2 refine Ends.eqv _ _ rfl (fun _ h=>h) ?_
     iterate 8 (refine Ends.ex _ rfl ?_;intro _ _ _)
     iterate 1 refine Ends.eqv _ _ rfl (fun _ h=>h) ?_
     refine Ends.nil ?_
     simp only [aC,ax,fM,fJ]
     have Rl:=aa (D.trans' nT)
     clear D nT
     cases p3 with
     | false=>
      go_wp2
      go_roundw
      case rel=>exact ⟨j + 1,af,oP,aa (fun x M=>by
       rcases Nat.lt_succ_iff_lt_or_eq.1 M with h | rfl
       ·exact HB.o x h
       ·exact HPJ.o),Rl.o⟩
      case measure=>simp [intOf];omega
     | true=>
      go_wp2
      go_ret
      exact ⟨vE (HF.o j Fp.o HPJ.o HB.o),F.o.trans' Rl.o⟩
   ·have hlt':¬ (j:Int) < (n:Int):=by omega
    have hfin:=aa (V5.o (fun x M=>HB.o x af))
    go_wp2
    go_ret
    exact ⟨vE hfin.o,F.o.trans' D⟩
end
section
variable {w:World} {own:Nat->Tag} {c i W g k:Nat} {u:bV} {s:NS}
def Zk (s:NS) (x:Int):Bool:=decide (x≠s.n.self) && s.same x && (s.iQ x).open_ && s.there x
def KG (s:NS) (j:Nat):Bool:=s.n.kept.acc.bN.has || ((List.range j).map Int.ofNat).any (Zk s)
theorem KH (s:NS) (j:Nat):KG s (j + 1)=(KG s j || Zk s j):=by
 unfold KG
 rw [List.range_succ,BH,List.any_append,Bool.or_assoc]
 simp
theorem Hw (s:NS):s.isOpen=KG s s.conf.nodes:=by
 unfold NS.isOpen KG NS.range
 congr 1
theorem Cy (a b c d e f h:Value):∀ w,(Instr.field 108 (.agg #[a,b,c,d,e,f,h]) 2).run prog w=.ok e w:=fun _=>ay
theorem KJ (N:aN w own c i W g u s) (ok:aF s i k) (b:Bool) (X:s.isOpen=b) :
 aS 245 #[g] w fun e w'=>e=.returned (.bool b)/\Old w w':=by
 obtain ⟨p,Z⟩:=N.ex
 have h3:aV w (fun k=>own k=bM c i 3) (fun k=>own k=aB) W g p s.n:=aV.ub (Z.at_ 3)
 have Y:=aa h3
 have HS:=aa N.self
 have h0:iB w (fun k=>own k=bM c i 0) (fun k=>own k=aB) W s.conf u s.aA:=Z.at_ 0
 obtain ⟨w0,-,-,-,wl⟩:=h0.cells
 have h5:iy w (fun k=>own k=bM c i 5) (fun k=>own k=aB) p.ac s.n.kept.acc:=Z.at_ 5
 have h10:fH w p.wa 254 s.n.watch.n s.n.watch.self s.n.watch.heard:=(Z.at_ 10).1
 obtain ⟨n,hn⟩:=aR (s.conf.nodes)
 have Ql:n<=5:=hn▸ok.conf.n5
 have z:=Ka _ _ p.ac s.n.kept.acc (by have:=ok.acc.c_;omega) w h5
 obtain ⟨hs,H⟩:=aR (s.n.kept.acc.bN.has)
 have A0:=aa (show KG s 0=hs by unfold KG;simp [H])
 have HB:=aa (show KG s n=b by rw [<- X,Hw,hn])
 obtain ⟨v,hv⟩:=aR (s.n.kept.acc.bN)
 rw [hv] at z H
 obtain ⟨⟨pr,pn⟩,⟨ar,an⟩,I,⟨ce,cn⟩⟩:=v
 obtain rfl:I=hs:=H
 unfold wJ at z
 simp only at z
 generalize cn.length=cm at z
 obtain ⟨now,r⟩:=aR (s.now)
 have cS0:=aa (fun (x:Nat) (hx:x < 5) (b:Bool) (X:s.same x=b) W' (y:Old w W')=>FM (N.old y) ok x af b X)
 have cN0:=aa (fun W' (y:Old w W')=>r▸Cx (N.old y))
 have cT0:=aa (fun (x:Nat) (b:Bool) (X:s.n.watch.there now x=b) W' (y:Old w W')=>vI p.wa s.n.watch now x b (ok.wa.n_▸ok.conf.n5) (by have:=ok.now;rw [r] at this;omega) (fun j hj=>by have:=ok.wa.h_ j hj;omega) X W' (h10.old y))
 have HQ:=aa (fun (j:Nat)=>(show Zk s j=(decide ((j:Int)≠i) && s.same j && (s.n.heard[j]?.getD .zero).open_ && s.n.watch.there now j) by unfold Zk;rw [N.self,<- r];rfl))
 have W0:=aa (fun W' (y:Old w W')=>(⟨(y.cell (p:=⟨W,0,none⟩) wl).trans w0,iD wl y.size⟩:W'.cell? ⟨W,0,none⟩=some (zi s.conf.nodes)/\W < W'.heap.size))
 rw [hn] at W0
 obtain ⟨u0,u1,u2,u3,u4,u5,u6,u8,u9,dF,dD,dK,eu,aX,ug⟩:=h3.c HS.o
 have cV:=aa z
 clear u0 u1 u2 u3 u5 u6 u8 u9 dF dD dK eu aX h3 Z N ok h0 h5 h10 X w0 wl hn r hv z
 go_enter func245,ntmps245
 go_wp2_with fail
 refine cV.o.mono ?_
 rintro e J ⟨A,q,rfl,hown,o2⟩
 have f1:=Cy (zi pr) (zi pn) (zi ar) (zi an) (.bool I) (zi ce) (.slice A cm q)
 have C:=aa o2
 obtain ⟨MO,w21⟩:=W0.o J C.o
 obtain ⟨u0,u1,u2,u3,u4',u5,u6,u8,u9,dF,dD,dK,eu,aX,ug'⟩:=(Y.o.old C.o).c HS.o
 clear u1 u2 u3 u4 u4' u5 u6 u8 u9 dF dD dK eu aX o2 W0 cV hown
 go_wp2_with fail
 go_loopw [3,20] (fun bv iv wr=>∃ (j:Nat) (ac:Bool),bv=.bool ac/\j<=n/\iv=zi j/\KG s j=ac/\Old J wr) (fun _ iv _=>n - (intOf iv).toNat)
 case atStart=>exact ⟨0,I,rfl,af,rfl,A0.o,Old.refl' J⟩
 case round=>
  obtain ⟨j,ac,rfl,hj,rfl,hA,B⟩:=hrel
  clear f1
  by_cases hlt:j < n
  ·have K:=aa (show j < 5 by omega)
   obtain ⟨sb,L⟩:=aR (s.same j)
   have cS:=aa (fun W' (y:Old J W')=>cS0.o j af sb L W' (C.o.trans' y))
   have cN:=aa (fun W' (y:Old J W')=>cN0.o W' (C.o.trans' y))
   obtain ⟨ob,M⟩:=aR ((s.n.heard[j]?.getD .zero).open_)
   have V6:=aa M
   obtain ⟨tb,O⟩:=aR (s.n.watch.there now j)
   have cT:=aa (fun W' (y:Old J W')=>cT0.o j tb O W' (C.o.trans' y))
   obtain ⟨ne,P⟩:=aR (decide ((j:Int)≠i))
   have D:=aa (show KG s (j + 1)=(ac || (ne && sb && ob && tb)) by rw [KH,hA,HQ.o,L,M,O,P])
   have hne':((j:Int) != (i:Int))=ne:=by rw [<- P,Bool.eq_iff_iff];simp
   clear L M O hA P
   have hlt':(j:Int) < (n:Int):=af
   have q1:(0:Int)<=(j:Int):=af
   have q2:(j:Int) < 5:=by have:=K.o;omega
   cases ac with
   | true=>
    go_wp2_with fail
    refine bG Old wr [.val (.bool true),.val (.bool true),.val (undef),.val (undef),.val (undef),.val (undef),.val (undef),.val (undef),.val (undef),.val (undef),.val (undef),.val (undef),.val (undef),.val (undef),.val (undef),.val (undef),.val (undef),.val (undef),.val (undef),.val (undef),.val (undef),.val (undef),.val (undef),.val (undef),.val (undef),.val (undef),.val (undef),.val (undef),.val (undef),.val (undef),.val (undef),.val (undef),.val (.bool true),.val (.bool true)] ((Old.refl' _).drew') ?st ?en
    case st=>
     refine .cons (sp [] [(3,.bool true)] ?_)<|.cons (sp [(0,23)] [] ?_)<|.cons (sk 1 24 true)<|.cons (sk 1 24 true)<|.cons (sk 1 24 true)<|.cons (sk 1 24 true)<|.cons (sk 1 24 true)<|.cons (sk 1 24 true)<|.cons (sk 1 24 true)<|.cons (su 8 31 true)<|.cons (su 8 31 true)<|.cons (su 8 31 true)<|.cons (sk 1 24 true)<|.cons (sk 1 24 true)<|.cons (su 13 36 true)<|.cons (su 13 36 true)<|.cons (su 13 36 true)<|.cons (su 13 36 true)<|.cons (su 13 36 true)<|.cons (su 13 36 true)<|.cons (su 13 36 true)<|.cons (sk 1 24 true)<|.cons (sk 1 24 true)<|.cons (su 22 45 true)<|.cons (su 22 45 true)<|.cons (su 22 45 true)<|.cons (su 22 45 true)<|.cons (su 22 45 true)<|.cons (su 22 45 true)<|.cons (su 22 45 true)<|.cons (su 22 45 true)<|.cons (sk 1 24 true)<|.cons (sp [(1,24),(31,54)] [] ?_)<|.cons (sp [(32,55)] [] ?_)<|.nil
     all_goals
      intro E w' l G hf
      obtain ⟨u0,u1,u2,u3,u4,u5,u6,u8,u9,dF,dD,dK,eu,aX,ug⟩:=(Y.o.old (C.o.trans' (B.trans' l))).c HS.o
      repeat intro _
      exact ⟨_,dP,rfl⟩
    case en=>
     intro jA w9 F
     iterate 34 refine Ends.eqv _ _ rfl (fun _ h=>h) ?_
     refine Ends.nil ?_
     simp only [aC,ax,fM,fJ]
     go_wp2
     go_roundw
     case rel=>exact ⟨j + 1,true,rfl,af,oP,by rw [D.o];exact rfl,B.trans' F⟩
     case measure=>simp [intOf];omega
   | false=>
    obtain ⟨f,R⟩:=aR ((ne && sb))
    obtain ⟨d,S⟩:=aR ((f && ob))
    obtain ⟨p4,T⟩:=aR ((d && tb))
    have D:=aa (show KG s (j + 1)=p4 by rw [D.o,<- T,<- S,<- R];rfl)
    have Sl:=aa R
    have HP3:=aa S
    have HP4:=aa T
    clear R S T
    go_wp2_with fail
    refine bG Old wr [.val (.bool false),.val (.bool false),.val (zi j),.val g,.val g,.val (av g 1),.val (zi i),.val (.bool ne),.val (.bool ne),.val (if ne=true then av g 0 else undef),.val (if ne=true then zi j else undef),.val (if ne=true then .bool sb else undef),.val (.bool f),.val (.bool f),.val (if f=true then av g 0 else undef),.val (if f=true then zi j else undef),.val (if f=true then av g 0 else undef),.val (if f=true then av g 14 else undef),.val (if f=true then av g (14 + j * 34) else undef),.val (if f=true then av g (14 + j * 34 + 26) else undef),.val (if f=true then .bool ob else undef),.val (.bool d),.val (.bool d),.val (if d=true then av g 0 else undef),.val (if d=true then av g 0 else undef),.val (if d=true then av g 13 else undef),.val (if d=true then av p.wa 0 else undef),.val (if d=true then av g 0 else undef),.val (if d=true then zi now else undef),.val (if d=true then zi j else undef),.val (if d=true then .bool tb else undef),.val (.bool p4),.val (.bool p4),.val (.bool p4)] ((Old.refl' _).drew') ?st ?en
    case st=>
     refine .cons (sp [] [(3,.bool false)] ?_)<|.cons (sp [(0,23)] [] ?_)<|.cons (fC 1 24 false [] [(4,zi j)] ?_)<|.cons (fC 1 24 false [] [(0,g)] ?_)<|.cons (fC 1 24 false [(3,26)] [] ?_)<|.cons (fC 1 24 false [(4,27)] [] ?_)<|.cons (fC 1 24 false [(5,28)] [] ?_)<|.cons (fC 1 24 false [(2,25),(6,29)] [] ?_)<|.cons (fC 1 24 false [(7,30)] [] ?_)<|.cons (mD 8 31 ne true (av g 0) [] [(0,g)] ?i9)<|.cons (mD 8 31 ne true (zi j) [] [(4,zi j)] ?i10)<|.cons (MN 8 31 ne true (.bool sb) 205 func205 [(9,32),(10,33)] [] _ ?c11)<|.cons (fC 1 24 false [(8,31),(11,34)] [] ?c12)<|.cons (fC 1 24 false [(12,35)] [] ?_)<|.cons (mD 13 36 f true (av g 0) [] [(0,g)] ?i14)<|.cons (mD 13 36 f true (zi j) [] [(4,zi j)] ?i15)<|.cons (mD 13 36 f true (av g 0) [(14,37)] [] ?i16)<|.cons (mD 13 36 f true (av g 14) [(16,39)] [] ?i17)<|.cons (mD 13 36 f true (av g (14 + j * 34)) [(17,40),(15,38)] [] ?i18)<|.cons (mD 13 36 f true (av g (14 + j * 34 + 26)) [(18,41)] [] ?i19)<|.cons (mD 13 36 f true (.bool ob) [(19,42)] [] ?i20)<|.cons (fC 1 24 false [(13,36),(20,43)] [] ?c21)<|.cons (fC 1 24 false [(21,44)] [] ?_)<|.cons (mD 22 45 d true (av g 0) [] [(0,g)] ?i23)<|.cons (mD 22 45 d true (av g 0) [(23,46)] [] ?i24)<|.cons (mD 22 45 d true (av g 13) [(24,47)] [] ?i25)<|.cons (mD 22 45 d true (av p.wa 0) [(25,48)] [] ?i26)<|.cons (mD 22 45 d true (av g 0) [] [(0,g)] ?i27)<|.cons (MN 22 45 d true (zi now) 92 func92 [(27,50)] [] _ ?c28)<|.cons (mD 22 45 d true (zi j) [] [(4,zi j)] ?i29)<|.cons (MN 22 45 d true (.bool tb) 226 func226 [(26,49),(28,51),(29,52)] [] _ ?c30)<|.cons (fC 1 24 false [(22,45),(30,53)] [] ?c31)<|.cons (sp [(1,24),(31,54)] [] ?_)<|.cons (sp [(32,55)] [] ?_)<|.nil
     case c11=>
      intro m E w' l G
      subst m
      rintro e32 e33
      exact ⟨_,IZ,cS.o w' (B.trans' l)⟩
     case c12=>
      intro E w' l G hf
      rintro e31 e34
      obtain rfl:=Sl.o
      cases ne <;> exact ⟨_,dP,rfl⟩
     case c21=>
      intro E w' l G hf
      rintro e36 e43
      obtain rfl:=HP3.o
      cases f <;> exact ⟨_,dP,rfl⟩
     case c28=>
      intro m E w' l G
      subst m
      rintro e50
      exact ⟨_,IZ,cN.o w' (B.trans' l)⟩
     case c30=>
      intro m E w' l G
      subst m
      rintro e49 e51 e52
      exact ⟨_,IZ,(cT.o w' (B.trans' l)).mono fun e J h=>⟨h.1,h.2▸Old.refl' _⟩⟩
     case c31=>
      intro E w' l G hf
      rintro e45 e53
      obtain rfl:=HP4.o
      cases d <;> exact ⟨_,dP,rfl⟩
     case i9 | i10 | i14 | i15 | i16 | i17 | i18 | i19 | i20 | i23 | i24 | i25 | i26 | i27 | i29=>
      intro m E w' l G hf
      subst m
      obtain ⟨u0,u1,u2,u3,u4,u5,u6,u8,u9,dF,dD,dK,eu,aX,ug⟩:=(Y.o.old (C.o.trans' (B.trans' l))).c HS.o
      clear u0 u2 u3 u4 u5 u6 u8 u9 dF dD dK aX
      obtain ⟨v1,v3,v4,v5,U,V⟩:=(Y.o.old (C.o.trans' (B.trans' l))).hds (a:=j) K.o _ rfl
      clear v1 v3 v4 v5 U
      rw [V6.o] at V
      repeat intro _
      show _=_
      go_simp
     all_goals
      intro E w' l G hf
      obtain ⟨u0,u1,u2,u3,u4,u5,u6,u8,u9,dF,dD,dK,eu,aX,ug⟩:=(Y.o.old (C.o.trans' (B.trans' l))).c HS.o
      clear u0 u2 u3 u4 u5 u6 u8 u9 dF dD dK aX
      obtain ⟨v1,v3,v4,v5,U,V⟩:=(Y.o.old (C.o.trans' (B.trans' l))).hds (a:=j) K.o _ rfl
      clear v1 v3 v4 v5 U
      rw [V6.o] at V
      repeat intro _
      exact ⟨_,dP,rfl⟩
    case en=>
     intro jA w9 F
     iterate 9 refine Ends.eqv _ _ rfl (fun _ h=>h) ?_
     iterate 3 (refine Ends.ex _ rfl ?_;intro _ _ _)
     iterate 2 refine Ends.eqv _ _ rfl (fun _ h=>h) ?_
     iterate 7 (refine Ends.ex _ rfl ?_;intro _ _ _)
     iterate 2 refine Ends.eqv _ _ rfl (fun _ h=>h) ?_
     iterate 8 (refine Ends.ex _ rfl ?_;intro _ _ _)
     iterate 3 refine Ends.eqv _ _ rfl (fun _ h=>h) ?_
     refine Ends.nil ?_
     simp only [aC,ax,fM,fJ]
     have Rl:=aa (B.trans' F)
     clear B F
     go_wp2
     go_roundw
     case rel=>exact ⟨j + 1,p4,rfl,af,oP,D.o,Rl.o⟩
     case measure=>simp [intOf];omega
  ·have hlt':¬ (j:Int) < (n:Int):=by omega
   obtain rfl:j=n:=af
   obtain rfl:ac=b:=hA.symm.trans HB.o
   clear hA
   go_wp2
   go_ret
   exact ⟨rfl,C.o.trans' B⟩
end
end Go.Proofs.YthihpfpbiajddaaGreat
