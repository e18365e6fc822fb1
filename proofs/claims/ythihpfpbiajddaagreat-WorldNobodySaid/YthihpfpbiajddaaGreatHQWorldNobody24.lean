/- Parts of the proof. -/
import Derived.Test.YthihpfpbiajddaaGreatHQWorldNobody23
import Derived.DeepKeys3
set_option maxRecDepth 100000
set_option maxHeartbeats 8000000
open Go.Proofs.Tryz
namespace Go.Proofs.YthihpfpbiajddaaGreat
open Go.RowKit
section
variable {w:World} {own:Nat->Tag} {c i W g k:Nat} {u:bV} {s:NS}
def NS.FU (s:NS) (gJ:Int) (m:aO):NS:=if gJ < s.conf.nodes then (if (s.aZ fun n=>{ n with watch:=n.watch.hear s.now gJ }).known.az < m.known.az then (s.aZ fun n=>{ n with watch:=n.watch.hear s.now gJ }).lY m.known else (s.aZ fun n=>{ n with watch:=n.watch.hear s.now gJ })) else s
theorem NS.xA {m:aO} (d:s.n.self=i) (f:i < s.conf.nodes) (e:m.known.az=s.known.az):s.FU i m=s.bJ:=by
 unfold NS.FU NS.bJ
 rw [if_pos af,if_neg (by rw [e];show ¬ s.known.az < s.known.az;omega)]
 unfold NS.aZ
 simp only [d]
theorem Wp (N:aN w own c i W g u s) (ok:aF s i k) (m:aO) (M:Array Value) (hM:fe w own m M) (hmd:Qx m) (l:Int) (y s':NS) (hs1:s.FU l m=y) (ok1:aF y i k) (D:l < s.conf.nodes) (hC:m.known.az=s.known.az) (h34:m.kind=3/\(∀ W' d,aN W' d c i W g u y->fe W' d m M->aS 123 #[g,zi l,.agg M] W' (fO W' d c i W g u s'))∨m.kind=4/\s'=y.lI l m) :
 aS 73 #[g,zi l,.agg M] w (fO w own c i W g u s'):=by
 obtain ⟨n,hn⟩:=aR (s.conf.nodes)
 obtain ⟨now,H⟩:=aR (s.now)
 obtain ⟨me,hme⟩:=aR (m.known.az)
 obtain ⟨ke,kn,hk⟩:∃ ke kn,s.known=⟨ke,kn⟩:=⟨_,_,rfl⟩
 obtain ⟨mk,hm⟩:=aR (kn.length)
 have FO:mk<=5:=Di
 obtain ⟨B,nB,dB,hbt⟩:=N.box (.cells M 110)
 have Zm:=hM.did dB
 have XB0:=Bk.new w 110 M
 obtain ⟨V,hV2,hVs⟩:=Zm.kn
 obtain ⟨w1,hw1⟩:∃ w1,w1=w.alloc (.cells M 110):=⟨_,rfl⟩
 rw [<- hw1] at nB dB Zm XB0 hVs
 obtain ⟨p,hp⟩:=nB.ex
 have h3:aV w1 (fun k=>B k=bM c i 3) (fun k=>B k=aB) W g p s.n:=aV.ub (hp.at_ 3)
 have h0:iB w1 (fun k=>B k=bM c i 0) (fun k=>B k=aB) W s.conf u s.aA:=hp.at_ 0
 have H3:=aa h3
 have HS:=aa N.self
 have HP:=aa hp
 obtain ⟨v0,-,-,-,vl⟩:=h0.cells
 rw [hn] at v0
 obtain ⟨u0,u1,u2,u3,u4,u5,u6,u8,u9,dF,dD,dK,eu,aX,ug⟩:=h3.c N.self
 have MP:=aa nB
 have Ua:=aa dB
 have Em:=aa Zm
 have HXB:=aa XB0
 have MC:=aa hbt
 have HK:=aa hk
 have HM:=aa hm
 have HM5:=aa FO
 have HMs:=aa hM.size
 have Wq:=aa (show M[1]?=some (zi me) by rw [<- hme];exact hM.at_.2.1)
 have Ws:=aa (show s.n.watch.n<=5 by rw [ok.wa.n_];exact ok.conf.n5)
 have I:=aa ok1
 have HH:=aa h34
 have Zn:=aa hmd
 have hl:¬ ke < me:=by rw [<- hme,hC,hk];exact Int.lt_irrefl _
 have hf:l < (n:Int):=by rw [<- hn];exact D
 have HS2:=aa (show (s.aZ fun n=>{ n with watch:=n.watch.hear now l })=y by
  rw [<- hs1,<- H]
  unfold NS.FU
  rw [if_pos D,if_neg (by rw [hC];exact Int.lt_irrefl _)])
 have hk1:y.known=⟨ke,kn⟩:=by rw [<- HS2.o];exact hk
 have hee:ke=me:=by rw [<- hme,hC,hk]
 have HK1:=aa hk1
 have cN:=aa (fun W' (hW:Old w1 W')=>H▸Cx (nB.old hW))
 rw [hw1] at u0 ug v0 vl
 clear u1 u2 u3 u4 u5 u6 u8 u9 dF dD dK eu aX h3 h0 hp N ok ok1 hM nB dB Zm XB0 hbt hn H hme hk hm FO hs1 h34 hV2 hVs hmd hk1 D hC
 subst hee
 go_enter func73,ntmps73
 go_wp2_with fail
 rw [<- hw1]
 clear hw1 u0 ug v0 vl hf
 refine kI Old 7 w1 [.val g,.val g,.val (av g 13),.val p.wa,.val g,.val (zi now),.val (zi l)] ((Old.refl' _).drew') ?st ?en
 case st=>
  refine .cons (sp [] [(0,g)] ?_)<|.cons (sp [(0,19)] [] ?_)<|.cons (sp [(1,20)] [] ?_)<|.cons (sp [(2,21)] [] ?_)<|.cons (sp [] [(0,g)] ?_)<|.cons (sc 92 func92 [(4,23)] [] _ ?c5)<|.cons (sp [] [(1,zi l)] ?_)<|.nil
  case c5=>
   intro E w' hS hc
   rintro e23
   exact ⟨_,jQ,.of (cN.o w' hS) fun e w2 h=>⟨_,h.1,rfl,h.2⟩⟩
  all_goals
   intro E w' hS hc hf
   obtain ⟨u0,u1,u2,u3,u4,u5,u6,u8,u9,dF,dD,dK,eu,aX,ug⟩:=(H3.o.old hS).c HS.o
   repeat intro _
   exact ⟨_,dP,rfl⟩
 case en=>
  intro J A f
  iterate 7 refine Ends.eqv _ _ rfl (fun _ h=>h) ?_
  refine Ends.nil ?_
  simp only [aC,ax,fM,fJ]
  have Wt:=HP.o.old f
  have n9:=MP.o.old f
  have h10:=(Wt.at_ 10).1
  have cH:=aa (Sk p.wa s.n.watch _ now l (Ws.o) rfl A h10)
  have HT:=aa (fun W2 hA D=>aN.Ib (x:=s.n.watch.hear now l) Wt n9 (w1:=W2) hA D)
  have Zl:=aa f
  clear Wt n9 h10
  go_wp2_with fail
  refine cH.o.mono ?_
  rintro e w2 ⟨rfl,hA,D⟩
  obtain ⟨r,n2,d2⟩:=HT.o w2 hA D
  have N2:=aa n2
  have D2:=aa ((MP.o.qQ Zl.o).trans d2)
  have XB:=aa (D2.o.keep HXB.o (.inr MC.o))
  have xbl:=XB.o.lt
  have cK:=aa (fun W' (hW:Old w2 W')=>zu (N2.o.old hW) (base:=w2.heap.size) hW.size HK.o HM.o HM5.o)
  have Wu:=aa (Em.o.did D2.o)
  clear n2 d2 hA D cH HT
  go_wp2_with fail
  refine bG Old w2 [.val (av w.heap.size 1),.val (av w.heap.size 1),.val (zi ke),.val g,.rel (rq w2.heap.size ke mk (kn.map (Value.int .i64))),.val (zi ke),.val (.bool false)] ((Old.refl' _).drew') ?st ?en
  case st=>
   refine .cons (sp [] [(5,w.heap.size)] ?_)<|.cons (sp [(0,27)] [] ?_)<|.cons (sp [(1,28)] [] ?_)<|.cons (sp [] [(0,g)] ?_)<|.cons (sc 56 func56 [(3,30)] [] _ ?c4)<|.cons (sp [(4,31)] [] ?c5)<|.cons (sp [(2,29),(5,32)] [] ?_)<|.nil
   case c4=>
    intro E w' hS hc
    rintro e30
    exact ⟨_,jQ,cK.o w' hS⟩
   case c5=>
    intro E w' hS hc hf
    rintro _ ⟨A1,q1,rfl,K⟩ e31
    have f1:=qR (zi ke) (.slice A1 mk q1)
    exact ⟨_,dP,rfl⟩
   all_goals
    intro E w' hS hc hf
    have x1:=(XB.o.old hS).cell 1
    rw [Wq.o] at x1
    have xl:=(XB.o.old hS).lt
    repeat intro _
    exact ⟨_,dP,rfl⟩
  case en=>
   intro J A f
   iterate 4 refine Ends.eqv _ _ rfl (fun _ h=>h) ?_
   refine Ends.ex _ rfl ?_
   rintro _ _ ⟨A1,q1,rfl,K⟩
   iterate 2 refine Ends.eqv _ _ rfl (fun _ h=>h) ?_
   refine Ends.nil ?_
   simp only [aC,ax,fM,fJ]
   clear K cK
   have HD1:=aa ((D2.o).old f)
   have Ub:=aa (show aN A r c i W g u y from HS2.o▸N2.o.old f)
   have L:=aa (Wu.o.old f)
   have O:=aa (XB.o.old f)
   have Wv:=aa (Ua.o.trans HD1.o)
   obtain ⟨wc,hwc⟩:∃ x,x=A:=⟨_,rfl⟩
   rw [<- hwc] at Ub L O Wv ⊢
   clear N2 D2 Wu XB f HD1 hwc
   have cK:=aa (fun W' (hW:Old wc W')=>zu (Ub.o.old hW) (base:=wc.heap.size) hW.size HK1.o HM.o HM5.o)
   have aaC:(ke == ke)=true:=bE
   go_wp2_with fail
   refine bG Old wc [.val (av w.heap.size 1),.val (av w.heap.size 1),.val (zi ke),.val g,.rel (rq wc.heap.size ke mk (kn.map (Value.int .i64))),.val (zi ke),.val (.bool true),.val (.bool true)] ((Old.refl' _).drew') ?st ?en
   case st=>
    refine .cons (sp [] [(5,w.heap.size)] ?_)<|.cons (sp [(0,38)] [] ?_)<|.cons (sp [(1,39)] [] ?_)<|.cons (sp [] [(0,g)] ?_)<|.cons (sc 56 func56 [(3,41)] [] _ ?c4)<|.cons (sp [(4,42)] [] ?c5)<|.cons (sp [(2,40),(5,43)] [] ?_)<|.cons (sp [(6,44)] [] ?_)<|.nil
    case c4=>
     intro E w' hS hc
     rintro e41
     exact ⟨_,jQ,cK.o w' hS⟩
    case c5=>
     intro E w' hS hc hf
     rintro _ ⟨A1,q1,rfl,K⟩ e42
     have f1:=qR (zi ke) (.slice A1 mk q1)
     exact ⟨_,dP,rfl⟩
    all_goals
     intro E w' hS hc hf
     have x1:=(O.o.old hS).cell 1
     rw [Wq.o] at x1
     have xl:=(O.o.old hS).lt
     repeat intro _
     exact ⟨_,dP,rfl⟩
   case en=>
    intro J A f
    iterate 4 refine Ends.eqv _ _ rfl (fun _ h=>h) ?_
    refine Ends.ex _ rfl ?_
    rintro _ _ ⟨A1,q1,rfl,K⟩
    iterate 3 refine Ends.eqv _ _ rfl (fun _ h=>h) ?_
    refine Ends.nil ?_
    simp only [aC,ax,fM,fJ]
    clear K cK
    have N5:=aa (Ub.o.old f)
    have D5:=aa (Wv.o.old f)
    have z:=aa (L.o.old f)
    have Dq:=aa (O.o.old f)
    clear Ub Wv L O HXB MP Ua Em f
    obtain ⟨X,Uc⟩:∃ X,X=A:=⟨_,rfl⟩
    rw [<- Uc] at N5 D5 z Dq ⊢
    clear Uc
    have xl:=Dq.o.lt
    have x1:=Dq.o.cell 1
    rw [Wq.o] at x1
    rcases HH.o with ⟨P,hh⟩ | ⟨P,hh⟩
    ·have x0:=Dq.o.cell 0
     rw [z.o.at_.1,P] at x0
     have cA:=aa (hh X r N5.o z.o)
     clear hh P HH
     have Wm:=xy Dq.o
     go_wp2_with ((with_reducible refine bZ 110 (.tmp 5) w.heap.size 0 M _ ?_ Wm underlying110 rfl ?_ ?_);(· rfl);(· rw [HMs.o];exact xx))
     refine cA.o.mono ?_
     rintro e w6 ⟨rfl,SC,n6,d6⟩
     have HZ:=aa (⟨SC,n6,D5.o.trans d6⟩:∃ d,aN w6 d c i W g u s'/\fT w own c i w6 d)
     clear n6 d6 Wm x0 x1 xl
     go_wp2_with fail
     go_end0
     exact ⟨rfl,HZ.o⟩
    ·have x0:=Dq.o.cell 0
     rw [z.o.at_.1,P] at x0
     have HHE:=aa hh
     clear hh P HH
     obtain ⟨Y,Qy⟩:=N5.o.ex
     have h35:aV X (fun k=>r k=bM c i 3) (fun k=>r k=aB) W g Y y.n:=aV.ub (Qy.at_ 3)
     have h85:mq X (fun k=>r k=bM c i 8) Y.ak y.n.asked:=Qy.at_ 8
     have YY:=aa h35
     have YZ:=aa N5.o.self
     have Zo:=aa Qy
     obtain ⟨mid,C⟩:=aR (m.id)
     obtain ⟨R,T⟩:=aR (m.asked)
     have Y6:=aa (show M[6]?=some (zi mid) by rw [<- C];exact z.o.at_.2.2.2.2.2.1)
     have HM7:=aa (show M[7]?=some (zi R) by rw [<- T];exact z.o.at_.2.2.2.2.2.2.1)
     have HE:=aa (show s'=(match y.n.asked mid with | some a=>if a=R then y.aZ fun n=>{ n with hold:=n.hold.told mid l } else y | none=>y) by rw [HHE.o,<- C,<- T];rfl)
     obtain ⟨Z,hqa⟩:=aR (y.n.asked mid)
     have U:=fun W' (hW:Old X W')=>(h85.fr (S:=fun _=>False) (Fr.aj hW) (fun _ _ h=>h)).look mid (by have:=Zn.o.id;rw [C] at this;omega)
     rw [hqa] at HE U
     clear h35 h85 Qy C T hqa
     cases Z with
     | none=>
      have HL:=aa (show ∀ W',Old X W'->(Instr.lookup 102 (.map (some Y.ak)) (zi mid) true).run prog W'=.ok (.tuple #[zi 0,.bool false]) W' from U)
      clear U
      go_wp2_with fail
      refine bG Old X [.val g,.val g,.val (av g 10),.val (.map (some Y.ak)),.val (av w.heap.size 6),.val (zi mid),.val (.tuple #[zi 0,.bool false]),.val (.tuple #[zi 0,.bool false]),.val (zi 0),.val (.bool false),.val (zi 0),.val (.bool false)] ((Old.refl' _).drew') ?st ?en
      case st=>exact Uy
      case en=>
       intro J A f
       iterate 12 refine Ends.eqv _ _ rfl (fun _ h=>h) ?_
       refine Ends.nil ?_
       simp only [aC,ax,fM,fJ]
       have HZ:=aa (show ∃ d,aN A d c i W g u s'/\fT w own c i A d from ⟨r,by rw [HE.o];exact N5.o.old f,D5.o.old f⟩)
       go_wp2_with fail
       go_end0
       exact ⟨rfl,HZ.o⟩
     | some Z=>
      have HL:=aa (show ∀ W',Old X W'->(Instr.lookup 102 (.map (some Y.ak)) (zi mid) true).run prog W'=.ok (.tuple #[zi Z,.bool true]) W' from U)
      clear U
      go_wp2_with fail
      refine bG Old X [.val g,.val g,.val (av g 10),.val (.map (some Y.ak)),.val (av w.heap.size 6),.val (zi mid),.val (.tuple #[zi Z,.bool true]),.val (.tuple #[zi Z,.bool true]),.val (zi Z),.val (.bool true),.val (zi Z),.val (.bool true)] ((Old.refl' _).drew') ?st ?en
      case st=>exact Uy
      case en=>
       intro J A f
       iterate 12 refine Ends.eqv _ _ rfl (fun _ h=>h) ?_
       refine Ends.nil ?_
       simp only [aC,ax,fM,fJ]
       have F:=aa f
       obtain ⟨w6,rfl⟩:∃ w6,w6=A:=⟨_,rfl⟩
       have x7:=(Dq.o.old f).cell 7
       rw [HM7.o] at x7
       have xl6:=(Dq.o.old f).lt
       clear f
       by_cases G:Z=R
       ·have hb:(Z == R)=true:=by simpa using G
        have HR:=aa (show s'=y.aZ fun n=>{ n with hold:=n.hold.told mid l } by rw [HE.o];exact if_pos G)
        clear G
        go_wp2_with fail
        refine kI Old 7 w6 [.val g,.val g,.val (av g 9),.val Y.ho,.val (av w.heap.size 6),.val (zi mid),.val (zi l)] ((Old.refl' _).drew') ?st ?en
        case st=>
         refine .cons (sp [] [(0,g)] ?_)<|.cons (sp [(0,86)] [] ?_)<|.cons (sp [(1,87)] [] ?_)<|.cons (sp [(2,88)] [] ?_)<|.cons (sp [] [(5,w.heap.size)] ?_)<|.cons (sp [(4,90)] [] ?_)<|.cons (sp [] [(1,zi l)] ?_)<|.nil
         all_goals
          intro E w' hS hc hf
          obtain ⟨u0,u1,u2,u3,u4,u5,u6,u8,u9,dF,dD,dK,eu,aX,ug⟩:=(YY.o.old (F.o.trans' hS)).c YZ.o
          clear u0 u1 u2 u3 u4 u5 u6 u8 dF dD dK eu aX
          have x6:=(Dq.o.old (F.o.trans' hS)).cell 6
          rw [Y6.o] at x6
          have xl:=(Dq.o.old (F.o.trans' hS)).lt
          repeat intro _
          exact ⟨_,dP,rfl⟩
        case en=>
         intro J A f
         iterate 7 refine Ends.eqv _ _ rfl (fun _ h=>h) ?_
         refine Ends.nil ?_
         simp only [aC,ax,fM,fJ]
         have O8:=aa (F.o.trans' f)
         have NF:=Zo.o.old O8.o
         have n8:=N5.o.old O8.o
         have h7:dz A (fun k=>r k=bM c i 7) Y.ho y.n.hold:=NF.at_ 7
         have HT:=aa (fun W2 hA D=>aN.CG (x:=y.n.hold.told mid l) (F':=fun k=>r k=bM c i 7) NF n8 (w1:=W2) hA (fun k hk=>.inl hk) D)
         have HD8:=aa (D5.o.old O8.o)
         by_cases hin:0<=l/\l < (y.n.hold.n:Int)
         ·obtain ⟨fj,rfl⟩:∃ j:Nat,l=j:=⟨l.toNat,af⟩
          have cT:=aa (Kl (fun k=>r k=bM c i 7) Y.ho y.n.hold _ I.o.hold.row (by rw [I.o.hold.n_];exact I.o.conf.n5) mid fj af rfl A h7)
          clear NF n8 h7 hin
          go_wp2_with fail
          refine cT.o.mono ?_
          rintro e w7 ⟨b,rfl,hA,D⟩
          obtain ⟨Eu,n7,d7⟩:=HT.o w7 hA D
          have HZ:=aa (show ∃ d,aN w7 d c i W g u s'/\fT w own c i w7 d from ⟨Eu,by rw [HR.o];exact n7,HD8.o.trans d7⟩)
          clear n7 d7 hA D
          go_wp2_with fail
          go_end0
          exact ⟨rfl,HZ.o⟩
         ·have hno:y.n.hold.told mid l=y.n.hold:=by unfold kV.told;rw [if_neg hin]
          have HZ:=aa (show ∃ d,aN A d c i W g u s'/\fT w own c i A d from ⟨r,by rw [HR.o];show aN A r c i W g u { y with n:={ y.n with hold:=y.n.hold.told mid l } };rw [hno];exact n8,HD8.o⟩)
          have cT:=aa (Kj Y.ho y.n.hold mid l hin _ A h7)
          clear NF n8 h7 hin hno HT
          go_wp2_with fail
          refine cT.o.mono ?_
          rintro e w7 ⟨rfl,rfl⟩
          go_wp2_with fail
          go_end0
          exact ⟨rfl,HZ.o⟩
       ·have hb:(Z == R)=false:=by simpa using G
        have HZ:=aa (show ∃ d,aN w6 d c i W g u s'/\fT w own c i w6 d from ⟨r,by rw [show s'=y by rw [HE.o];exact if_neg G];exact N5.o.old F.o,D5.o.old F.o⟩)
        clear G
        go_wp2_with fail
        go_end0
        exact ⟨rfl,HZ.o⟩
end
theorem Qx.wk {m:aO} (h:Qx m) {c:bC} (d:c.nodes.length<=5):Qx { m with known:=c }:=⟨⟨h.n,h.c,h.j⟩,d,h.chain,h.b,h.p,h.a,h.vc,h.l,h.id,h.asked⟩
theorem nP:Qx aO.zero:=⟨⟨aW,aW,aW⟩,aW,aW,⟨aW,aW⟩,⟨aW,aW⟩,⟨aW,aW⟩,aW,aW,aW,aW⟩
section
variable {w:World} {own:Nat->Tag} {c i W g k:Nat} {u:bV} {s:NS}
end
theorem rG {w:World} {g:Nat} {t:TypeId} {M:Array Value} (h:Bk w g t M) (j:Nat) {v:Value} (e:M[j]?=some v):w.cell? ⟨g,j,none⟩=some v:=(h.cell j).trans e
section
variable {w:World} {own:Nat->Tag} {c i W g k:Nat} {u:bV} {s:NS}
end
theorem yG {P:Program} {w w':World} {ops:Array Oper} {rest:List Oper} {o:Oper} {a:Act} {Q:Exit->Act->World->Prop} (i:o.guard=none) (m x v:Operand) (t:TypeId) (f:o.op=Op.mapUpdate t m x v) (M X V:Value)
 (j:a.eval m=M) (k:a.eval x=X) (l:a.eval v=V) (d:(Instr.mapUpdate t M X V).run P w=.ok () w') (n:wpList P ops Q rest (a.put o.dst undef) w'):wpList P ops Q (o :: rest) a w:=by
 refine wpList_plain i fun K' h=>?_
 unfold Oper.wp
 simp [execOp,f,j,k,l,d,Result.andThen]
 exact h _ _ n
section
variable {w:World} {F:Nat->Prop} {g:Nat} {v:Int->bU->List Int} {e:Int} {b:bU}
theorem K5:(prog.info? 59).map (fun i=>(i.zero,i.size,i.bytes))=some (some (.agg #[zi 0,aQ]),2,32):=ay
end
section
variable {w:World} {own:Nat->Tag} {c i W g k:Nat} {u:bV} {s:NS}
theorem aaD {w:World} {g:Nat} {t:TypeId} {a b:Value} (h:Bk w g t #[a,b]):w.cell? ⟨g,0,none⟩=some a/\w.cell? ⟨g,1,none⟩=some b/\g < w.heap.size:=⟨(h.cell 0).trans rfl,(h.cell 1).trans rfl,h.lt⟩
end
section
variable {w:World} {own:Nat->Tag} {c i W g k:Nat} {u:bV} {s:NS}
theorem SE (N:aN w own c i W g u s) (ok:aF s i k) (G:s.known.tail=(i:Int)) (H:s.bL=-1) (x:s.kK=-1) :
 aS 201 #[g] w fun e w'=>e=.returned (.tuple #[])/\Old w w':=by
 obtain ⟨p,I⟩:=N.ex
 have J:aV w (fun k=>own k=bM c i 3) (fun k=>own k=aB) W g p s.n:=aV.ub (I.at_ 3)
 have V:=aa J
 have X:=aa N.self
 obtain ⟨ke,kn,hk⟩:∃ ke kn,s.known=⟨ke,kn⟩:=⟨_,_,rfl⟩
 obtain ⟨m,hm⟩:=aR (kn.length)
 have y:m<=5:=Di
 have K:=aa (fun W' (r:Old w W')=>zu (N.old r) (base:=w.heap.size) r.size hk hm y)
 have z:kn.getLast?.getD (-1)=(i:Int):=by rw [<- G,hk];rfl
 have L:=aa (fun W' A q (h:aP W' A kn)=>yL ke A m q kn i hm.symm af z W' h)
 have M:=aa (fun W' (r:Old w W')=>sQ (N.old r) ok (-1) H)
 have O:=aa (fun W' (r:Old w W')=>Hu (N.old r) ok (-1) x)
 have c1:=K.o w (Old.refl' w)
 clear J I ok hk hm y G H x z K N
 go_enter func201,ntmps201
 go_wp2_with fail
 refine c1.mono ?_
 rintro e w1 ⟨_,rfl,⟨A,q,rfl,j⟩,P⟩
 obtain ⟨l,f⟩:∃ l,l=w1.alloc (.cells #[zi ke,.slice A m q] 59):=⟨_,rfl⟩
 have B:Old w1 l:=f▸(Old.refl' w1).ag _
 have R:=aa (show Bk l w1.heap.size 59 #[zi ke,.slice A m q] from f▸Bk.new w1 59 _)
 have C:=aa (P.trans' B)
 have S:=aa (bF j B)
 clear j P B c1
 go_wp2_with fail
 rw [<- f]
 clear f
 refine bG Old l [.val (.agg #[zi ke,.slice A m q]),.val (zi (i:Int)),.val g,.val g,.val (av g 1),.val (zi i),.val (.bool false),.val (.bool false),.val g,.val (zi (-1)),.val (.bool false),.val (.bool false)] ((Old.refl' _).drew') ?st ?en
 case st=>
  refine .cons (sp [] [(2,w1.heap.size)] ?_)<|.cons (sc 179 func179 [(0,10)] [] _ ?c1)<|.cons (sp [] [(0,g)] ?_)<|.cons (sp [(2,12)] [] ?_)<|.cons (sp [(3,13)] [] ?_)<|.cons (sp [(4,14)] [] ?_)<|.cons (sp [(1,11),(5,15)] [] ?_)<|.cons (sp [(6,16)] [] ?_)<|.cons (fC 7 17 false [] [(0,g)] ?_)<|.cons (IU 7 17 false 199 func199 [(8,18)] [] _ ?c9)<|.cons (fC 7 17 false [(9,19)] [] ?_)<|.cons (sp [(7,17),(10,20)] [] ?_)<|.nil
  case c1=>
   intro E w' n D
   rintro Y
   exact ⟨_,jQ,.of (L.o w' A q (ah.bA (bF S.o n))) fun e l h=>⟨_,h.1,rfl,h.2⟩⟩
  case c9=>
   intro E w' n D
   rintro Z
   exact ⟨_,jQ,.of (M.o w' (C.o.trans' n)) fun e l h=>⟨_,h.1,rfl,h.2⟩⟩
  all_goals
   intro E w' n D hf
   obtain ⟨u0,u1,u2,u3,u4,u5,u6,u8,u9,dF,dD,dK,eu,aX,ug⟩:=(V.o.old (C.o.trans' n)).c X.o
   clear u0 u2 u3 u4 u5 u6 u8 u9 dF dD dK eu aX
   obtain ⟨x0,x1,x2,x3,x4⟩:=bk2 (R.o.old n)
   repeat intro _
   exact ⟨_,dP,rfl⟩
 case en=>
  intro F w9 d
  iterate 12 refine Ends.eqv _ _ rfl (fun _ h=>h) ?_
  refine Ends.nil ?_
  simp only [aC,ax,fM,fJ]
  have T:=aa (C.o.trans' d)
  clear d L M R S
  go_wp2_with fail
  refine (O.o _ T.o).mono ?_
  rintro e w4 ⟨rfl,U⟩
  have O4:=aa (T.o.trans' U)
  clear U O
  go_wp2_with fail
  refine bG Old w4 [.val (zi (-1)),.val (.bool true),.val (.bool true),.val (undef),.val (undef),.val (undef),.val (undef),.val (undef),.val (undef),.val (undef),.val (undef),.val (undef),.val (undef),.val (undef),.val (undef),.val (undef),.val (undef),.val (.bool true)] ((Old.refl' _).drew') ?st ?en
  case st=>
   refine .cons (sp [] [(3,zi (-1))] ?_)<|.cons (sp [(0,24)] [] ?_)<|.cons (sp [(1,25)] [] ?_)<|.cons (sk 2 26 true)<|.cons (sk 2 26 true)<|.cons (sk 2 26 true)<|.cons (sk 2 26 true)<|.cons (sk 2 26 true)<|.cons (sk 2 26 true)<|.cons (sk 2 26 true)<|.cons (sk 2 26 true)<|.cons (sk 2 26 true)<|.cons (sk 2 26 true)<|.cons (sk 2 26 true)<|.cons (sk 2 26 true)<|.cons (sk 2 26 true)<|.cons (sk 2 26 true)<|.cons (sp [(2,26),(16,40)] [] ?_)<|.nil
   all_goals
    intro E w' n D hf
    repeat intro _
    exact ⟨_,dP,rfl⟩
  case en=>
   intro F w9 d
   iterate 18 refine Ends.eqv _ _ rfl (fun _ h=>h) ?_
   refine Ends.nil ?_
   simp only [aC,ax,fM,fJ]
   have O5:=aa (O4.o.trans' d)
   clear d
   go_wp2_with fail
   refine bodyPost_ret (results_none rfl _ _ _) rfl ?_
   exact ⟨rfl,O5.o⟩
theorem K6 (N:aN w own c i W g u s) (ok:aF s i k) {ke:Int} (hk:s.known=⟨ke,[(i:Int)]⟩) (X:s.there i=true) (Y:s.isOpen=false) (Z:s.bL=-1) (hwl:s.gD=true∨s.now - s.n.well < 60) :
 aS 203 #[g] w fun e w'=>e=.returned (.tuple #[.agg #[zi 0,aQ],.bool false])/\∃ d,aN w' d c i W g u (if s.gD=true then s.aZ fun n=>{ n with well:=s.now } else s)/\fT w own c i w' d:=by
 obtain ⟨p,hp⟩:=N.ex
 have h3:aV w (fun k=>own k=bM c i 3) (fun k=>own k=aB) W g p s.n:=aV.ub (hp.at_ 3)
 have h10:fH w p.wa 254 s.n.watch.n s.n.watch.self s.n.watch.heard:=(hp.at_ 10).1
 have H3:=aa h3
 have HS:=aa N.self
 have HGL:=aa (show g < w.heap.size from h3.Oi)
 obtain ⟨now,f⟩:=aR (s.now)
 obtain ⟨R,l⟩:=aR (s.n.well)
 obtain ⟨lb,r⟩:=aR (s.gD)
 obtain ⟨s',E⟩:∃ x,(if s.gD=true then s.aZ fun n=>{ n with well:=s.now } else s)=x:=⟨_,rfl⟩
 rw [E]
 have oA:=(Old.refl' w).ag (.cells #[zi 0,aQ] 59)
 have XR0:=aa (Bk.new w 59 #[zi 0,aQ])
 have O0:=aa oA
 have c1:=aa (zu (N.old oA) (base:=(w.alloc (.cells #[zi 0,aQ] 59)).heap.size) (dN _) hk (rfl:[(i:Int)].length=1) (show (1:Nat)<=5 by omega))
 have Zp:=aa (fun W' (y:Old w W')=>f▸Cx (N.old y))
 have Zq:=aa (fun W' (y:Old w W')=>A7 (N.old y) ok true (by unfold NS.member;rw [hk,N.self];simp [bC.has]))
 have cLs:=aa (fun W' (y:Old w W')=>FK (N.old y) ok lb r)
 have cJo:=aa (fun W' (y:Old w W')=>sQ (N.old y) ok (-1) Z)
 have cTh:=aa (fun W' (y:Old w W')=>vI p.wa s.n.watch now i true (ok.wa.n_▸ok.conf.n5) (by have:=ok.now;rw [f] at this;omega) (fun j hj=>by have:=ok.wa.h_ j hj;omega) (by rw [<- f];exact X) W' (h10.old y))
 obtain ⟨ownB,nB,dB,hbt⟩:=N.box (.cells #[zi 0,aQ] 59)
 have NB:=aa nB
 have DB:=aa dB
 have MC:=aa hbt
 have NT:=aa ok
 have V6:=aa Y
 have Zr:=aa f
 have HWE:=aa l
 have HWW:=aa (show IntKind.i64.wrap (now - R)=now - R from kP _ (by have h1:=ok.now;have h2:=ok.well;rw [f] at h1;rw [l] at h2;omega))
 have HLB:=aa r
 have HWL:=aa (show lb=true∨now - R < 60 by rw [<- r,<- f,<- l];exact hwl)
 have HS':=aa E
 clear h3 h10 hp N ok nB dB hbt hk X Y Z hwl f l r E oA
 go_enter func203,ntmps203
 go_wp2_with fail
 refine c1.o.mono ?_
 rintro e w1 ⟨_,rfl,⟨A,q,rfl,D⟩,o1⟩
 have O1:=aa (O0.o.trans' o1)
 have XR1:=aa (XR0.o.old o1)
 have P1:=aa o1
 have HI1:=aa (ah.bA D:aP w1 A [(i:Int)])
 clear D
 go_wp2_with fail
 refine (Zp.o w1 O1.o).mono ?_
 rintro e w2 ⟨rfl,o2⟩
 have O2:=aa (O1.o.trans' o2)
 have XR2:=aa (XR1.o.old o2)
 have P2:=aa (P1.o.trans' o2)
 obtain ⟨w3,z⟩:∃ x,x=w2.alloc (.cells #[zi ke,.slice A 1 q] 59):=⟨_,rfl⟩
 have o3:Old w2 w3:=z▸(Old.refl' w2).ag _
 have O3:=aa (O2.o.trans' o3)
 have XR3:=aa (XR2.o.old o3)
 have P3:=aa (P2.o.trans' o3)
 have X3:=aa (show Bk w3 w2.heap.size 59 #[zi ke,.slice A 1 q] from z▸Bk.new w2 59 _)
 have HI3:=aa (HI1.o.old (o2.trans' o3))
 go_wp2_with fail
 rw [<- z]
 clear z
 refine (Zq.o w3 O3.o).mono ?_
 rintro e w4 ⟨rfl,S⟩
 have O4:=aa (O3.o.trans' S)
 have XR4:=aa (XR3.o.old S)
 have P4:=aa (P3.o.trans' S)
 go_wp2_with fail
 refine (cLs.o w4 O4.o).mono ?_
 rintro e w5 ⟨rfl,T⟩
 have O5:=aa (O4.o.trans' T)
 have XR5:=aa (XR4.o.old T)
 have P5:=aa (P4.o.trans' T)
 go_wp2_with fail
 refine (cJo.o w5 O5.o).mono ?_
 rintro e w6 ⟨rfl,U⟩
 have O6:=aa (O5.o.trans' U)
 have XR6:=aa (XR5.o.old U)
 have P6:=aa (P5.o.trans' U)
 have X6:=aa (X3.o.old (S.trans' (T.trans' U)))
 have HI6:=aa (HI3.o.old (S.trans' (T.trans' U)))
 obtain ⟨x0,x1,x2,x3,x4⟩:=bk2 X6.o
 clear o1 o2 o3 S T U Zq cLs cJo Zp c1
 go_wp2_with fail
 clear x0 x1 x2 x3 x4
 cases lb with
 | true=>
  have Rl:=aa (show s'=s.aZ fun n=>{ n with well:=now } by rw [<- HS'.o,if_pos HLB.o,Zr.o])
  go_loopw [8,9,10,39] (fun gv bv jv iv wr=>gv=aQ/\bv=.bool true/\jv=zi (-1)/\∃ j:Nat,j<=1/\iv=zi j/\Old w6 wr) (fun _ _ _ iv _=>1 - (intOf iv).toNat)
  case atStart=>exact ⟨rfl,rfl,rfl,0,af,rfl,Old.refl' w6⟩
  case round=>
   obtain ⟨rfl,rfl,rfl,j,hj,rfl,hR⟩:=hrel
   by_cases hlt:j < 1
   ·exact Uv
   ·obtain rfl:j=1:=by omega
    have hlt':¬ (1:Int) < (1:Int):=af
    have OR:=aa (O6.o.trans' hR)
    have F:=aa (XR6.o.old hR)
    have V:=aa (P6.o.trans' hR)
    clear hR
    obtain ⟨u0,u1,u2,u3,u4,u5,u6,u8,u9,dF,dD,dK,eu,aX,ug⟩:=(H3.o.old OR.o).c HS.o
    clear u0 u1 u2 u3 u4 u5 u6 u8 u9 dF dD dK eu
    obtain ⟨p7,G⟩:=(NB.o.old V.o).ex
    obtain ⟨n8,d8⟩:=aN.qh G (NB.o.old V.o) now
    have f192:=(aV.ub (G.at_ 3):aV wr _ _ W g p7 s.n).fz 192
    obtain ⟨w8,B⟩:∃ x,x=wr.setCell ⟨g,192,none⟩ (zi now):=⟨_,rfl⟩
    rw [<- B] at n8 d8
    have N8:=aa (show aN w8 ownB c i W g u (s.aZ fun n=>{ n with well:=now }) from n8)
    have D8:=aa ((DB.o.old V.o).trans d8)
    have H:=aa (show Bk w8 w.heap.size 59 #[zi 0,aQ] by rw [B];exact F.o.far (p:=⟨g,192,none⟩) (by have:=HGL.o;show w.heap.size≠g;omega) _)
    have HW:=aa (show ({ s.n with well:=now }:dM).well=now from rfl)
    clear n8 d8 G
    go_wp2_with fail
    rw [<- B]
    clear B aX f192 ug
    have okW:=aa (show aF (s.aZ fun n=>{ n with well:=now }) i k by rw [<- Zr.o];exact NT.o.qh)
    have I:=aa (KJ N8.o okW.o false V6.o)
    refine I.o.mono ?_
    rintro e J ⟨rfl,C⟩
    have N9:=aa (N8.o.old C)
    have D9:=aa (D8.o.old C)
    have m:=aa (H.o.old C)
    obtain ⟨p9,h⟩:=N9.o.ex
    have aX:=(aV.ub (h.at_ 3):aV J _ _ W g p9 (s.aZ fun n=>{ n with well:=now }).n).cell 192 _ (fun _=>rfl)
    have ug:=(aV.ub (h.at_ 3):aV J _ _ W g p9 (s.aZ fun n=>{ n with well:=now }).n).Oi
    simp only [NS.aZ] at aX
    have hww:IntKind.i64.wrap (now - now)=0:=by rw [Int.sub_self];rfl
    obtain ⟨K,L,z2,z3,M⟩:=bk2 m.o
    clear C h
    go_wp2_with fail
    obtain ⟨O,hwz⟩:∃ x,x=(J.setCell ⟨w.heap.size,0,none⟩ (zi 0)).setCell ⟨w.heap.size,1,none⟩ aQ:=⟨_,rfl⟩
    have HZ:∃ d,aN O d c i W g u s'/\fT w own c i O d:=U4
    have P:Bk O w.heap.size 59 #[zi 0,aQ]:=by
     rw [hwz]
     exact (m.o.bH 0 (zi 0)).bH 1 aQ
    rw [<- hwz]
    clear hwz K L z2 z3 M
    obtain ⟨K,L,z2,z3,M⟩:=bk2 P
    refine bodyPost_ret (v:=.tuple #[.agg #[zi 0,aQ],.bool false]) (by simp [results,results203,go_sem,K,L,M]) rfl ⟨rfl,HZ⟩
 | false=>
  have Rl:=aa (show s'=s by rw [<- HS'.o,if_neg (by rw [HLB.o];decide)])
  have HW6:=aa (show now - R < 60 from HWL.o.resolve_left aW)
  go_loopw [8,9,10,39] (fun gv bv jv iv wr=>gv=aQ/\bv=.bool false/\jv=zi (-1)/\∃ j:Nat,j<=1/\iv=zi j/\Old w6 wr) (fun _ _ _ iv _=>1 - (intOf iv).toNat)
  case atStart=>exact ⟨rfl,rfl,rfl,0,af,rfl,Old.refl' w6⟩
  case round=>
   obtain ⟨rfl,rfl,rfl,j,hj,rfl,hR⟩:=hrel
   by_cases hlt:j < 1
   ·exact Uv
   ·obtain rfl:j=1:=by omega
    have hlt':¬ (1:Int) < (1:Int):=af
    have OR:=aa (O6.o.trans' hR)
    have F:=aa (XR6.o.old hR)
    have V:=aa (P6.o.trans' hR)
    clear hR
    obtain ⟨u0,u1,u2,u3,u4,u5,u6,u8,u9,dF,dD,dK,eu,aX,ug⟩:=(H3.o.old OR.o).c HS.o
    clear u0 u1 u2 u3 u4 u5 u6 u8 u9 dF dD dK eu
    obtain ⟨w8,rfl⟩:∃ x,x=wr:=⟨_,rfl⟩
    have N8:=aa (NB.o.old V.o)
    have D8:=aa (DB.o.old V.o)
    have H:=aa F.o
    go_wp2_with fail
    clear aX ug
    have I:=aa (KJ N8.o NT.o false V6.o)
    refine I.o.mono ?_
    rintro e J ⟨rfl,C⟩
    have N9:=aa (N8.o.old C)
    have D9:=aa (D8.o.old C)
    have m:=aa (H.o.old C)
    obtain ⟨p9,h⟩:=N9.o.ex
    have aX:=(aV.ub (h.at_ 3):aV J _ _ W g p9 s.n).cell 192 _ (fun _=>rfl)
    have ug:=(aV.ub (h.at_ 3):aV J _ _ W g p9 s.n).Oi
    rw [HWE.o] at aX
    have hww:IntKind.i64.wrap (now - R)=now - R:=HWW.o
    have abI:=HW6.o
    obtain ⟨K,L,z2,z3,M⟩:=bk2 m.o
    clear C h
    go_wp2_with fail
    obtain ⟨O,hwz⟩:∃ x,x=(J.setCell ⟨w.heap.size,0,none⟩ (zi 0)).setCell ⟨w.heap.size,1,none⟩ aQ:=⟨_,rfl⟩
    have HZ:∃ d,aN O d c i W g u s'/\fT w own c i O d:=U4
    have P:Bk O w.heap.size 59 #[zi 0,aQ]:=by
     rw [hwz]
     exact (m.o.bH 0 (zi 0)).bH 1 aQ
    rw [<- hwz]
    clear hwz K L z2 z3 M
    obtain ⟨K,L,z2,z3,M⟩:=bk2 P
    refine bodyPost_ret (v:=.tuple #[.agg #[zi 0,aQ],.bool false]) (by simp [results,results203,go_sem,K,L,M]) rfl ⟨rfl,HZ⟩
theorem Be (N:aN w own c i W g u s) (ok:aF s i k) {ke:Int} (P:s.known=⟨ke,[(i:Int)]⟩) (z:s.there i=true) (A:s.isOpen=false) (l:s.bL=-1) (B:s.gD=true∨s.now - s.n.well < 60) (C:s.kK=-1) (D:s.leads=true) :
 aS 137 #[g] w (fO w own c i W g u ((if s.gD=true then s.aZ fun n=>{ n with well:=s.now } else s).aZ fun n=>{ n with p:=none })):=by
 have E:=aa (SE N ok (by rw [P];rfl) l C)
 have F:=aa (fun W' (hW:Old w W')=>Sn (N.old hW) ok true D)
 have m:=aa (fun W' d (N':aN W' d c i W g u s)=>K6 N' ok P z A l B)
 obtain ⟨s',G⟩:∃ x,(if s.gD=true then s.aZ fun n=>{ n with well:=s.now } else s)=x:=⟨_,rfl⟩
 rw [G] at m ⊢
 have X:=aa N
 clear N ok P z A l B C D G
 go_enter func137,ntmps137
 go_wp2_with fail
 refine E.o.mono ?_
 rintro e w1 ⟨rfl,Y⟩
 have Z:=aa Y
 clear Y
 go_wp2_with fail
 refine (F.o w1 Z.o).mono ?_
 rintro e r ⟨rfl,o2⟩
 have R:=aa (Z.o.trans' o2)
 obtain ⟨H,S,T,I⟩:=(X.o.old R.o).box (.cells #[zi 0,aQ] 59)
 obtain ⟨w3,h⟩:∃ x,x=r.alloc (.cells #[zi 0,aQ] 59):=⟨_,rfl⟩
 rw [<- h] at S T
 have X3:=aa (show Bk w3 r.heap.size 59 #[zi 0,aQ] from h▸Bk.new r 59 _)
 have D3:=aa ((X.o.qQ R.o).trans T)
 have J:=aa I
 have cW:=aa (m.o w3 H S)
 have K:=aa (show w.heap.size<=r.heap.size from R.o.size)
 clear S T I F m E o2
 go_wp2_with fail
 rw [<- h]
 clear h
 refine cW.o.mono ?_
 rintro e w4 ⟨rfl,j,n4,d4⟩
 have N4:=aa n4
 have D4:=aa (D3.o.trans d4)
 have L:=d4.keep X3.o (.inr J.o)
 have M:=aa (show j r.heap.size=bS from (d4.ext _ X3.o.lt).trans J.o)
 obtain ⟨z0,z1,z2,z3,z4⟩:=bk2 L
 obtain ⟨U,y⟩:∃ x,x=(w4.setCell ⟨r.heap.size,0,none⟩ (zi 0)).setCell ⟨r.heap.size,1,none⟩ aQ:=⟨_,rfl⟩
 have O:=(N4.o.nV M.o 0 (zi 0)).nV M.o 1 aQ
 have d5:=(D4.o.nV K.o 0 (zi 0)).nV K.o 1 aQ
 rw [<- y] at O d5
 obtain ⟨V,f⟩:=O.ex
 obtain ⟨n6,d6⟩:=aN.K4 f O
 have f191:=(aV.ub (f.at_ 3):aV U _ _ W g V s'.n).fz 191
 have Ww:=(aV.ub (f.at_ 3):aV U _ _ W g V s'.n).cell 191 _ (fun _=>rfl)
 have ug:=(aV.ub (f.at_ 3):aV U _ _ W g V s'.n).Oi
 have HZ:=aa (⟨j,n6,d5.trans d6⟩:∃ d,aN _ d c i W g u (s'.aZ fun n=>{ n with p:=none })/\fT w own c i _ d)
 clear n4 d4 L O d5 f n6 d6 cW
 rw [y] at f191 Ww ug HZ
 clear y
 unfold FI at Ww
 go_wp2_with fail
 refine bodyPost_ret (results_none rfl _ _ _) rfl ?_
 exact ⟨rfl,HZ.o⟩
end
structure Ik where
 e:TypeId
 s:Nat
 v:Value
 n:Nat
 xs:List Value
def Rows (base:Nat) (l:List Ik) (W:World):Prop:=∀ x∈l,W.ownsRow base x.e x.s x.v x.n x.xs/\x.e≠284/\x.e≠110
structure RM (w W:World) (gm gr:Nat) (z cs:Array Value) (r:Rd) (l:List Ik):Prop where
 o:Old w W
 rs:Bk W w.heap.size 110 z
 ms:Bk W gm 110 cs
 rd:dI W gr r
 rows:Rows w.heap.size l W
 gm:w.heap.size < gm
 gr:w.heap.size < gr
section
variable {w W W':World} {gm gr:Nat} {z cs:Array Value} {r r':Rd} {l:List Ik}
theorem RM.read (h:RM w W gm gr z cs r l) (j:dI W' gr r') (d:Fr (fun k=>k=gr) W W'):RM w W' gm gr z cs r' l:=by
 obtain ⟨c,m⟩:=h.rd.bk
 have n:=h.gr
 refine ⟨((Fr.aj (S:=fun _=>False) h.o).trans' d (fun x f e=>af)).old,h.rs.fr d af,h.ms.fr d (h.rd.ne h.ms aW),j,fun x f=>?_,h.gm,h.gr⟩
 obtain ⟨g,i,p⟩:=h.rows x f
 exact ⟨dh g d (fun k s e=>aK g m i (e▸s)),i,p⟩
theorem RM.set (h:RM w W gm gr z cs r l) (i:Nat) (u:Value):RM w (W.setCell ⟨gm,i,none⟩ u) gm gr z (cs.setIfInBounds i u) r l:=by
 have f:=h.gm
 refine ⟨h.o.aJ (p:=⟨gm,i,none⟩) (by show w.heap.size<=gm;omega) u,h.rs.far (p:=⟨gm,i,none⟩) (by show w.heap.size≠gm;omega) u,h.ms.bH i u,h.rd.far h.ms aW aW u,fun x g=>?_,h.gm,h.gr⟩
 obtain ⟨d,j,e⟩:=h.rows x g
 exact ⟨bz (p:=⟨gm,i,none⟩) d (aK d h.ms e) u,j,e⟩
end
def CO (w w':World) (V:Value) (ns:List Int):Prop:=∃ A q,V=.slice A ns.length q/\w'.ownsRow w.heap.size 3 1 V ns.length (ns.map (Value.int .i64))
def aaE (w w':World) (V:Value) (qs:List aG):Prop:=∃ A q,V=.slice A qs.length q/\w'.ownsRow w.heap.size 36 6 V qs.length (qs.flatMap aG.cells)
def iY (w:World) (m:aO) (e:Ending) (w':World):Prop:=
 ∃ K V C R L,e=.returned (.agg (iX m.kind m K V C R L))/\Old w w'/\CO w w' K m.known.nodes/\CO w w' V m.bN.chain.nodes/\CO w w' C m.chain.nodes/\CO w w' R m.rep.vs/\aaE w w' L m.l
theorem pg (k:Int) (m:aO) (d A2 e f g:Option Addr) (h i j l n c1 c2 c3 c4 c5:Nat):(iX k m (.slice d h c1) (.slice A2 i c2) (.slice e j c3) (.slice f l c4) (.slice g n c5)).all (·.oneCell')=true:=by
 simp [iX,Value.oneCell']
def zM:Array Value:=#[zi 0,zi 0,aQ,zi 0,zi 0,zi 0,zi 0,zi 0,zi 0,zi 0,zi 0,zi 0,zi 0,zi 0,.bool false,zi 0,aQ,zi 0,aQ,zi 0,zi 0,zi 0,zi 0,zi 0,.string { data:=#[] },.bool false,.bool false,.bool false,zi 0,zi 0,.string { data:=#[] },aQ,zi 0,aQ]
theorem vK:zM.size=34:=rfl
theorem kM {E:Operand->Value} {w:World} {o:Oper} (d:o.op=.alloc 110):(execOp E o).run prog w=.ok (.value (av w.heap.size 0)) (w.alloc (.cells zM 110)):=by
 unfold execOp
 simp only [d]
 kernel_rfl
theorem xB (w:World) (z cs:Array Value) (t:TypeId):(w.alloc (.cells z t)).setRow w.heap.size cs=w.alloc (.cells cs t):=by
 unfold World.setRow World.alloc
 simp only [World.mk.injEq,and_true,true_and]
 apply Array.ext_getElem?
 intro j
 rw [Array.getElem?_modify]
 rcases Nat.lt_trichotomy j w.heap.size with h | h | h
 ·rw [if_neg af,Array.getElem?_push_lt h,Array.getElem?_push_lt h]
 ·subst h
  rw [if_pos rfl,Array.getElem?_push_size,Array.getElem?_push_size]
  rfl
 ·rw [if_neg af,Array.getElem?_eq_none jR,Array.getElem?_eq_none jR]
theorem CP (d e:Int) (f:Option Addr) (g h:Nat) (kn:List Int):prog.built 110 [(0,zi d),(1,.agg #[zi e,.slice f g h])]=some (iX d { aO.zero with kind:=d,known:=⟨e,kn⟩ } (.slice f g h) aQ aQ aQ aQ):=ay
theorem xC {P:Program} (w:World) (g o:Nat) (t ty:TypeId) (cs:Array Value) (l:List Value) (y:Value) (hy:y.cells=l.toArray) (f:Bk w g t cs) (d:(P.info? ty).map (·.size)=some l.length) (e:o + l.length<=cs.size) (h:∀ v∈l,v.oneCell'=true) :
 (storeVar ty ⟨g,o,none⟩ y).run P w=.ok () (setAt w g o l):=by
 have:=run_storeCells_at (P:=P) (g:=g) o l 0 w cs f af h
 cases hq:P.info? ty with
 | none=>simp [hq] at d
 | some i=>
  have e:l.length=i.size:=by simp [hq] at d;omega
  simp only [I9] at this
  simp [storeVar,sizeOf,typeInfo,hq,hy,e,this]
theorem aL {P:Program} {ops:Array Oper} {rest:List Oper} {dst:Option Tmp} {d:TypeId} {pos:String} {e:Array Edge} {a:Act} {w:World} {Q:Exit->Act->World->Prop} (ty:TypeId) (x y:Operand)
 (g o:Nat) (l:List Value) (f:a.eval x=av g o) (hy:(a.eval y).cells=l.toArray)
 (t:TypeId) (cs:Array Value) (i:Bk w g t cs) (j:(P.info? ty).map (·.size)=some l.length) (k:o + l.length<=cs.size) (m:∀ v∈l,v.oneCell'=true)
 (h:wpList P ops Q rest (a.put dst undef) (setAt w g o l)):wpList P ops Q ({ dst:=dst,op:=.store ty x y,type:=d,pos:=pos,after:=e,guard:=none } :: rest) a w:=by
 refine wpList_plain rfl fun K n=>?_
 unfold Oper.wp execOp
 simp only [f,Instr.storeAt,Instr.sureAddr,Sem.run_bind,Sem.run_pure,Result.andThen_ok,xC w g o t ty cs l _ hy i j k m]
 exact n _ _ h
theorem Il:(prog.info? 3).map (·.size)=some 1:=ay
theorem SF:(prog.info? 4).map (·.size)=some 1:=ay
theorem aaF:(prog.info? 9).map (·.size)=some 1:=ay
theorem SG:(prog.info? 106).map (·.size)=some 2:=ay
theorem Qz:(prog.info? 36).map (·.size)=some 6:=ay
theorem sU:(prog.info? 110).map (·.size)=some 34:=ay
theorem pX:∀ (l:List Value) (d:Array Value),d.size=l.length->bg d 0 l=l.toArray:=fun l d h=>by
 apply Array.ext_getElem?
 intro j
 rcases Nat.lt_or_ge j l.length with e | e
 ·have:=p8 l d 0 j af e
  rw [mE] at this
  rw [this]
  simp
 ·rw [aD _ _ _ _ (.inr af),Array.getElem?_eq_none af,Array.getElem?_eq_none (by simpa using e)]
theorem ji {w:World} {g:Nat}:∀ {w':World},Old w w'->w.heap.size<=g->∀ (l:List Value) (o:Nat),Old w (setAt w' g o l)
 | _,h,_,[],_=>h
 | _,h,hg,v :: l,o=>ji (h.aJ (p:=⟨g,o,none⟩) hg v) hg l (o + 1)
section
variable {w W:World} {gm gr:Nat} {z cs:Array Value} {r:Rd} {rows:List Ik}
theorem RM.setAt:∀ (l:List Value) {W:World} {cs:Array Value} (o:Nat),RM w W gm gr z cs r rows->RM w (setAt W gm o l) gm gr z (bg cs o l) r rows
 | [],_,_,_,h=>h
 | v :: l,_,_,o,h=>RM.setAt l (o + 1) (h.set o v)
end
theorem Rd.nQ {r d:Rd} {v:Int} (h:r.gu=(v,d)):d.b.length<=r.b.length:=by
 have:=(Rd.fq r sJ).2
 unfold Rd.gu at h
 injection h with f e
 rw [<- e]
 exact this
theorem Rd.FV {r d:Rd} {v:Bool} (h:r.yes=(v,d)):d.b.length<=r.b.length:=by
 have:=(Rd.fq r 1).2
 unfold Rd.yes at h
 injection h with f e
 rw [<- e]
 exact this
theorem Rd.Bf {r e:Rd} {k:Nat} {v:List Int} (h:r.text k=(v,e)):e.b.length<=r.b.length:=by
 have:=(Rd.fq r k).2
 unfold Rd.text at h
 simp only at h
 split at h
 ·injection h with f d;rw [<- d];exact this
 ·split at h
  ·injection h with f d;rw [<- d];exact this
  ·injection h with f d;rw [<- d];exact ic bE this
theorem Rd.zC {r d:Rd} {v:bC} (h:r.chain=(v,d)):d.b.length<=r.b.length:=by
 unfold Rd.chain at h
 injection h with f e
 rw [<- e]
 exact Rd.Bf rfl
theorem Rd.FW {r d:Rd} {v:aG} (h:r.req=(v,d)):d.b.length<=r.b.length:=by
 unfold Rd.req at h
 injection h with f e
 rw [<- e]
 exact Rd.Bf rfl
end Go.Proofs.YthihpfpbiajddaaGreat
