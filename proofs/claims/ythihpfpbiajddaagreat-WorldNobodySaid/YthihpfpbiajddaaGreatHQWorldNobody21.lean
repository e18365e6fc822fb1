/- Parts of the proof. -/
import Derived.Test.YthihpfpbiajddaaGreatHQWorldNobody20
set_option maxRecDepth 100000
set_option maxHeartbeats 8000000
open Go.Proofs.Tryz
namespace Go.Proofs.YthihpfpbiajddaaGreat
open Go.RowKit
theorem Om (a b:Value):∀ w,(Instr.field 59 (.agg #[a,b]) 1).run prog w=.ok b w:=fun _=>ay
section
variable {w:World} {own:Nat->Tag} {c i W g k:Nat} {u:bV} {s:NS}
theorem Sn (N:aN w own c i W g u s) (ok:aF s i k) (b:Bool) (hb:s.leads=b) :
 aS 202 #[g] w fun e w'=>e=.returned (.bool b)/\Old w w':=by
 obtain ⟨p,hp⟩:=N.ex
 have h3:aV w (fun k=>own k=bM c i 3) (fun k=>own k=aB) W g p s.n:=aV.ub (hp.at_ 3)
 have R:=aa h3
 have S:=aa N.self
 obtain ⟨ke,kn,hk⟩:∃ ke kn,s.known=⟨ke,kn⟩:=⟨_,_,rfl⟩
 obtain ⟨m,hm⟩:=aR (kn.length)
 have FO:m<=5:=Di
 have cK:=aa (fun W' (l:Old w W')=>zu (N.old l) (base:=w.heap.size) l.size hk hm FO)
 have h10:fH w p.wa 254 s.n.watch.n s.n.watch.self s.n.watch.heard:=(hp.at_ 10).1
 obtain ⟨now,r⟩:=aR (s.now)
 obtain ⟨ob,J⟩:=aR (s.isOpen)
 have cO:=aa (fun W' (l:Old w W')=>KJ (N.old l) ok ob J)
 have T:=aa (fun W' (l:Old w W')=>r▸Cx (N.old l))
 have U:=aa (fun (x:Int) (b:Bool) (hb:s.there x=b) W' (l:Old w W')=>vI p.wa s.n.watch now x b (ok.wa.n_▸ok.conf.n5) (by have:=ok.now;rw [r] at this;omega) (fun j V=>by have:=ok.wa.h_ j V;omega) (by rw [<- r];exact hb) W' (h10.old l))
 have hi5:=ok.conf.iN
 have hi6:=ok.conf.n5
 have K:(match kn.find? s.there with
  | some x=>decide (x=(i:Int))
  | none=>if ((List.range i).map Int.ofNat).any s.there then false else ob)=b:=by
  rw [<- hb,<- J]
  unfold NS.leads
  rw [hk,N.self]
  rfl
 have H1:=aa (fun (j:Nat) (x:Int) (V:kn[j]?=some x) (ht:s.there x=true) (h2:∀ y:Nat,y < j->s.there (kn[y]?.getD 0)=false)=>(show (x == (i:Int))=b by
  have e:kn.find? s.there=some x:=by
   rw [List.find?_eq_some_iff_getElem]
   obtain ⟨hj1,X⟩:=List.getElem?_eq_some_iff.1 V
   refine ⟨ht,j,hj1,X,fun y hy=>?_⟩
   have:=h2 y hy
   rw [gG af] at this
   simpa using this
  rw [<- K,e]
  rw [Bool.eq_iff_iff]
  simp))
 have H2:=aa (fun (h1:∀ y:Nat,y < m->s.there (kn[y]?.getD 0)=false)=>(show (if ((List.range i).map Int.ofNat).any s.there then false else ob)=b by
  have e:kn.find? s.there=none:=FN _ (fun x G=>by
   obtain ⟨y,hy,rfl⟩:=List.getElem_of_mem G
   have:=h1 y af
   rw [gG hy] at this
   simpa using this)
  rw [<- K,e]))
 have HM:=aa hm
 have c1:=cK.o w (Old.refl' w)
 clear h3 hp N ok hk hm h10 hb K J r cK
 go_enter func202,ntmps202
 go_wp2_with fail
 refine c1.mono ?_
 rintro e w1 ⟨_,rfl,⟨A,q,rfl,H⟩,o1⟩
 have f1:=Om (zi ke) (.slice A m q)
 have I:=aa o1
 have HI:=aa (ah.bA H)
 clear H o1 c1
 go_wp2_with fail
 go_loopw [10] (fun iv wr=>∃ j:Nat,j<=m/\iv=zi j/\kN (∀ y:Nat,y < j->s.there (kn[y]?.getD 0)=false)/\Old w1 wr) (fun iv _=>m - (intOf iv).toNat)
 case atStart=>exact ⟨0,af,rfl,aa (fun x G=>absurd G (Nat.not_lt_zero _)),Old.refl' w1⟩
 case round=>
  obtain ⟨j,V,rfl,L,d⟩:=hrel
  clear f1
  by_cases M:j < m
  ·have Y:aP wr A kn:=HI.o.old d
   obtain ⟨b0,o,rfl,hbb,g0⟩:=Y.at_ (k:=j) (by rw [HM.o];exact M)
   obtain ⟨x,G⟩:∃ x,kn[j]?=some x:=⟨_,gG (by rw [HM.o];exact M)⟩
   rw [G] at g0
   simp only [Gu] at g0
   have cN:=aa (fun W' (l:Old wr W')=>T.o W' (I.o.trans' (d.trans' l)))
   obtain ⟨Z,n⟩:=aR (s.there x)
   have cT:=aa (fun W' (l:Old wr W')=>U.o x Z n W' (I.o.trans' (d.trans' l)))
   have HX:=aa G
   have HT:=aa n
   have D:(j:Int) < (m:Int):=af
   have q1:(0:Int)<=(j:Int):=af
   clear G n Y
   cases Z with
   | true=>
    have B:=aa d
    go_wp2_with fail
    refine bG Old wr [.val g,.val g,.val (av g 13),.val p.wa,.val g,.val (zi now),.val (zi x),.val (.bool true)] ((Old.refl' _).drew') ?st ?en
    case st=>
     refine .cons (sp [] [(0,g)] ?_)<|.cons (sp [(0,14)] [] ?_)<|.cons (sp [(1,15)] [] ?_)<|.cons (sp [(2,16)] [] ?_)<|.cons (sp [] [(0,g)] ?_)<|.cons (sc 92 func92 [(4,18)] [] _ ?c5)<|.cons (sp [] [(4,zi x)] ?_)<|.cons (sc 226 func226 [(3,17),(5,19),(6,20)] [] _ ?c7)<|.nil
     case c5=>exact U2
     case c7=>exact UW
     all_goals
      intro E w' hS hc hf
      obtain ⟨u0,u1,u2,u3,u4,u5,u6,u8,u9,dF,dD,dK,eu,aX,ug⟩:=(R.o.old (I.o.trans' (B.o.trans' hS))).c S.o
      repeat intro _
      exact ⟨_,dP,rfl⟩
    case en=>
     intro O w9 f
     iterate 8 refine Ends.eqv _ _ rfl (fun _ h=>h) ?_
     refine Ends.nil ?_
     simp only [aC,ax,fM,fJ]
     obtain ⟨u0,u1,u2,u3,u4,u5,u6,u8,u9,dF,dD,dK,eu,aX,ug⟩:=(R.o.old (I.o.trans' (B.o.trans' f))).c S.o
     clear u0 u2 u3 u4 u5 u6 u8 u9 dF dD dK eu aX
     have F:=aa (H1.o j x HX.o HT.o L.o)
     go_wp2
     go_ret
     exact ⟨jG F.o,I.o.trans' (B.o.trans' f)⟩
   | false=>
    go_wp2_with fail
    refine bG Old wr [.val g,.val g,.val (av g 13),.val p.wa,.val g,.val (zi now),.val (zi x),.val (.bool false)] ((Old.refl' _).drew') ?st ?en
    case st=>
     refine .cons (sp [] [(0,g)] ?_)<|.cons (sp [(0,14)] [] ?_)<|.cons (sp [(1,15)] [] ?_)<|.cons (sp [(2,16)] [] ?_)<|.cons (sp [] [(0,g)] ?_)<|.cons (sc 92 func92 [(4,18)] [] _ ?c5)<|.cons (sp [] [(4,zi x)] ?_)<|.cons (sc 226 func226 [(3,17),(5,19),(6,20)] [] _ ?c7)<|.nil
     case c5=>exact U2
     case c7=>exact UW
     all_goals
      intro E w' hS hc hf
      obtain ⟨u0,u1,u2,u3,u4,u5,u6,u8,u9,dF,dD,dK,eu,aX,ug⟩:=(R.o.old (I.o.trans' (d.trans' hS))).c S.o
      repeat intro _
      exact ⟨_,dP,rfl⟩
    case en=>
     intro O w9 f
     iterate 8 refine Ends.eqv _ _ rfl (fun _ h=>h) ?_
     refine Ends.nil ?_
     simp only [aC,ax,fM,fJ]
     go_wp2
     go_roundw
     case rel=>exact ⟨j + 1,af,oP,aa (fun y hy=>by
      rcases Nat.lt_succ_iff_lt_or_eq.1 hy with h | rfl
      ·exact L.o y h
      ·rw [HX.o];exact HT.o),d.trans' f⟩
     case measure=>simp [intOf];omega
  ·have D:¬ (j:Int) < (m:Int):=by omega
   have HF:=aa (H2.o (fun y hy=>L.o y af))
   obtain ⟨u0,u1,u2,u3,u4,u5,u6,u8,u9,dF,dD,dK,eu,aX,ug⟩:=(R.o.old (I.o.trans' d)).c S.o
   clear u0 u2 u3 u4 u5 u6 u8 u9 dF dD dK eu aX
   have P:=aa (I.o.trans' d)
   clear d L M V H1 H2
   obtain ⟨wo,rfl⟩:∃ wo:World,wo=wr:=⟨_,rfl⟩
   go_wp2
   go_loopw [33] (fun iv wr=>∃ j:Nat,j<=i/\iv=zi j/\kN (∀ y:Nat,y < j->s.there y=false)/\Old wo wr) (fun iv _=>i - (intOf iv).toNat)
   case atStart=>exact ⟨0,af,rfl,aa (fun x G=>absurd G (Nat.not_lt_zero _)),Old.refl' wo⟩
   case round=>
    obtain ⟨C,X,rfl,L,d⟩:=hrel
    by_cases hlt2:C < i
    ·have cN:=aa (fun W' (l:Old wr W')=>T.o W' (P.o.trans' (d.trans' l)))
     obtain ⟨Z,n⟩:=aR (s.there C)
     have cT:=aa (fun W' (l:Old wr W')=>U.o C Z n W' (P.o.trans' (d.trans' l)))
     have HT:=aa n
     have Fp:=aa hlt2
     have D:(C:Int) < (i:Int):=af
     clear n
     cases Z with
     | true=>
      have B:=aa d
      go_wp2_with fail
      refine bG Old wr [.val g,.val g,.val (av g 13),.val p.wa,.val g,.val (zi now),.val (zi C),.val (.bool true)] ((Old.refl' _).drew') ?st ?en
      case st=>
       refine .cons (sp [] [(0,g)] ?_)<|.cons (sp [(0,36)] [] ?_)<|.cons (sp [(1,37)] [] ?_)<|.cons (sp [(2,38)] [] ?_)<|.cons (sp [] [(0,g)] ?_)<|.cons (sc 92 func92 [(4,40)] [] _ ?c5)<|.cons (sp [] [(5,zi C)] ?_)<|.cons (sc 226 func226 [(3,39),(5,41),(6,42)] [] _ ?c7)<|.nil
       case c5=>exact UZ
       case c7=>exact UT
       all_goals
        intro E w' hS hc hf
        obtain ⟨u0,u1,u2,u3,u4,u5,u6,u8,u9,dF,dD,dK,eu,aX,ug⟩:=(R.o.old (P.o.trans' (B.o.trans' hS))).c S.o
        repeat intro _
        exact ⟨_,dP,rfl⟩
      case en=>
       intro O w9 f
       iterate 8 refine Ends.eqv _ _ rfl (fun _ h=>h) ?_
       refine Ends.nil ?_
       simp only [aC,ax,fM,fJ]
       have F:=aa (show false=b by
        rw [<- HF.o,if_pos]
        rw [List.any_eq_true]
        exact ⟨C,List.mem_map.2 ⟨C,List.mem_range.2 Fp.o,rfl⟩,HT.o⟩)
       go_wp2
       go_ret
       exact ⟨jG F.o,P.o.trans' (B.o.trans' f)⟩
     | false=>
      go_wp2_with fail
      refine bG Old wr [.val g,.val g,.val (av g 13),.val p.wa,.val g,.val (zi now),.val (zi C),.val (.bool false)] ((Old.refl' _).drew') ?st ?en
      case st=>
       refine .cons (sp [] [(0,g)] ?_)<|.cons (sp [(0,36)] [] ?_)<|.cons (sp [(1,37)] [] ?_)<|.cons (sp [(2,38)] [] ?_)<|.cons (sp [] [(0,g)] ?_)<|.cons (sc 92 func92 [(4,40)] [] _ ?c5)<|.cons (sp [] [(5,zi C)] ?_)<|.cons (sc 226 func226 [(3,39),(5,41),(6,42)] [] _ ?c7)<|.nil
       case c5=>exact UZ
       case c7=>exact UT
       all_goals
        intro E w' hS hc hf
        obtain ⟨u0,u1,u2,u3,u4,u5,u6,u8,u9,dF,dD,dK,eu,aX,ug⟩:=(R.o.old (P.o.trans' (d.trans' hS))).c S.o
        repeat intro _
        exact ⟨_,dP,rfl⟩
      case en=>
       intro O w9 f
       iterate 8 refine Ends.eqv _ _ rfl (fun _ h=>h) ?_
       refine Ends.nil ?_
       simp only [aC,ax,fM,fJ]
       go_wp2
       go_roundw
       case rel=>exact ⟨C + 1,af,oP,aa (fun y hy=>by
        rcases Nat.lt_succ_iff_lt_or_eq.1 hy with h | rfl
        ·exact L.o y h
        ·exact HT.o),d.trans' f⟩
       case measure=>simp [intOf];omega
    ·have D:¬ (C:Int) < (i:Int):=by omega
     have F:=aa (show ob=b by
      rw [<- HF.o,if_neg]
      rw [List.any_eq_true]
      rintro ⟨y,hy,ht⟩
      obtain ⟨z,hz,rfl⟩:=List.mem_map.1 hy
      have:=L.o z (by have:=List.mem_range.1 hz;omega)
      exact absurd (ht.symm.trans this) bE)
     have cO1:=aa (cO.o wr (P.o.trans' d))
     have OF:=aa (P.o.trans' d)
     go_wp2_with fail
     refine cO1.o.mono ?_
     rintro e w9 ⟨rfl,o9⟩
     go_wp2_with fail
     go_ret
     exact ⟨jG F.o,OF.o.trans' o9⟩
end
theorem kL.at_ {w:World} {F K:Nat->Prop} {g:Nat} {l:List jy} (h:kL w F K g l) {k:Nat} {x:jy} (n:l[k]?=some x) :
 ∃ (d:List mo) (m:mo) (f c:Nat),d.map mo.way=l/\d[k]?=some m/\m.way=x/\Bk w g 155 #[.slice (some ⟨f,0,none⟩) d.length c]/\w.ownsRow 0 157 3 (.slice (some ⟨f,0,none⟩) d.length c) d.length (d.flatMap mo.cells)/\F f/\
  w.cell? ⟨f,k * 3,none⟩=some (zi m.gJ)/\w.cell? ⟨f,k * 3 + 1,none⟩=some (zi m.BX)/\w.cell? ⟨f,k * 3 + 2,none⟩=some m.sl/\(∀ m∈d,ah w m.A (eB m.bs)/\(m.bs≠[]->∀ a,m.A=some a->K a.block/\¬ F a.block)):=by
 obtain ⟨d,A,c,p,r,i,h4,h5⟩:=h.ex
 subst p
 rw [List.getElem?_map,Option.map_eq_some_iff] at n
 obtain ⟨m,j,rfl⟩:=n
 have s:k < d.length:=(List.getElem?_eq_some_iff.1 j).1
 obtain ⟨f,u,e,_,_⟩:=i.form af
 injection e with y _ z
 subst y z
 obtain ⟨B,C,D⟩:=Al d k m j
 exact ⟨d,m,f,c,rfl,j,rfl,r,i,h4 f rfl,lM i _ _ B,lM i _ _ C,lM i _ _ D,h5⟩
theorem Qv (F K:Nat->Prop) (g:Nat) (l:List jy) (N:Nat) (hN:l.length=N) (j:N<=1099511627776) (d f:Int) (A:Option Addr) (n H:Nat) (u:List Int) (hl:n=u.length) (hnb:n<=100000) (w:World) (hK:∀ k,w.heap.size<=k->K k) (h:kL w F K g l) (hA:ah w A (eB u)) :
 aS 78 #[g,zi d,zi f,.slice A n H] w fun e w'=>
  e=.returned (zi N)/\(∃ F',kL w' F' K g (l ++ [⟨d,f,u⟩])/\jH w F F')/\Fr F w w':=by
 obtain ⟨i0,hi0,hz0,hz1,hz2⟩:=info_parts BU
 obtain ⟨P,Ab,c,rfl,y,ho,I,R⟩:=h.ex
 have S:=h.gF
 have T:=h.lt
 rw [List.length_map] at hN
 rw [hN] at y ho I
 have cC:=aa (fun (W:World) (hW:ah W A (eB u))=>uF A n H u af hl W hW)
 have HL:=aa hl
 have HN:=aa hN
 clear hN hl h
 have hg:=y.lt
 have c0:=y.cell 0
 simp at c0
 have U:∀ k,(Value.slice Ab N c).ownBlock=some k->k≠g:=fun k i e=>aK ho y aW (e▸i)
 have hone:=rV P
 have E:=uV P
 have z:=aa U
 have V7:=aa E
 have B:=aa I
 have Em:=aa R
 have HKK:=aa hK
 have V:=aa T
 have HG:=aa S
 clear U E I R hK T S
 go_enter func78,ntmps78
 go_wp2_with fail
 go_region_law
  (first
   | (refine yM iW 106 _ Tryz.func106 ay ay [.tmp 19] #[65] iW [.slice A n H] iW (cC.o _ (show ah w.drew A (eB u) from hA)) ?_;rintro e w1 ⟨C,c1,rfl,x,r⟩;refine ⟨_,rfl,?_⟩;have G1:g < w1.heap.size:=(by have:=r.size;simp at this;omega);have B1:=(y.old (Old.trans' (Old.refl' w).drew' r)).cell 0;simp at B1)
   | (refine Jd _ iW (.tmp 16) (.tmp 22) 151 iW 0 157 i0 (.agg #[.int .i64 0,.int .i64 0,.slice none 0 0]) 3 40 Tryz.underlying151 hi0 hz0 hz1 hz2 rfl af (.slice Ab N c) N (P.flatMap mo.cells) iW (by exact (bF ho (Old.trans' (Old.refl' w).drew' r)).alloc _) (some ⟨w1.heap.size,0,none⟩) 1 1 [.int .i64 d,.int .i64 f,.slice C n c1] iW iW (by exact cz (Bk.new w1 157 #[.int .i64 d,.int .i64 f,.slice C n c1])) tC qy af (Nat.zero_le _) (N + 1) rfl _ rfl ?_;intro A2 c2 M J;have B2:=(J.bk ((y.old (Old.trans' (Old.refl' w).drew' r)).alloc _) (fun e=>z.o g e rfl)).cell 0;have F2:=(J.bk ((y.old (Old.trans' (Old.refl' w).drew' r)).alloc _) (fun e=>z.o g e rfl)).frozen 0;simp at B2))
 all_goals
  have X:=J.bk ((y.old (Old.trans' (Old.refl' w).drew' r)).alloc (.cells #[zi d,zi f,.slice C n c1] 157)) (fun e=>z.o g e rfl)
  have L:Old w w1:=Old.trans' (Old.refl' w).drew' r
  have hs1:=L.size
  have D:Fr F (w1.alloc (.cells #[zi d,zi f,.slice C n c1] 157)) M:=J.fr fun k _ i=>B.o k i
  have Y:=D.size
  simp only [jW] at Y
  have hF:Fr F w (M.setCell ⟨g,0,none⟩ (.slice A2 (N + 1) c2)):=((Fr.aj (L.ag _)).trans' D (fun k _ h=>h)).setCell (p:=⟨g,0,none⟩) (.inr HG.o) _
  have Z:∀ k,(Value.slice A2 (N + 1) c2).ownBlock=some k->(Value.slice Ab N c).ownBlock=some k∨w1.heap.size < k:=fun k i=>by
   rcases J.2.2 with e | e
   ·exact .inl (e▸i)
   ·rw [i] at e;injection e with e;simp only [jW] at e;exact .inr af
  have G:(Value.slice A2 (N + 1) c2).ownBlock≠some g:=fun e=>by
   rcases Z g e with e | e
   ·exact z.o g e rfl
   ·omega
  have hsz:(M.setCell ⟨g,0,none⟩ (.slice A2 (N + 1) c2)).heap.size=M.heap.size:=by simp [World.setCell]
  have hR:kL (M.setCell ⟨g,0,none⟩ (.slice A2 (N + 1) c2)) (fun k=>k=g∨(Value.slice A2 (N + 1) c2).ownBlock=some k) K g (P.map mo.way ++ [⟨d,f,u⟩]):=by
   refine ⟨⟨P ++ [⟨d,f,C,c1,u⟩],A2,c2,by simp [mo.way],?_,?_,?_,fun m hm=>?_⟩,.inl rfl,fun k i=>?_⟩
   ·rw [ja,HN.o]
    exact X.bH 0 _
   ·rw [ja,HN.o,List.flatMap_append,show [(⟨d,f,C,c1,u⟩:mo)].flatMap mo.cells=[zi d,zi f,.slice C n c1] from by rw [HL.o];rfl]
    exact bz J.own G _
   ·intro k i
    rw [ja,HN.o] at i
    exact .inr i
   ·have hnF:∀ k,k < w.heap.size->¬ F k->¬ (k=g∨(Value.slice A2 (N + 1) c2).ownBlock=some k):=fun k i j=>by
     rintro (rfl | hh)
     ·exact j HG.o
     ·rcases Z k hh with e | e
      ·exact j (B.o k e)
      ·omega
    rcases List.mem_append.1 hm with hm | hm
    ·obtain ⟨k1,k2⟩:=Em.o m hm
     refine ⟨k1.fr hF (fun j a e=>(k2 (by rintro e;exact j (by simp [eB,e])) a e).2),fun j a e=>⟨(k2 j a e).1,hnF _ ?_ (k2 j a e).2⟩⟩
     obtain ⟨b,o,O,y,-⟩:=k1 (by simpa [eB] using j)
     rw [e] at O;injection O with O;subst O;exact y
    ·obtain rfl:m=⟨d,f,C,c1,u⟩:=by simpa using hm
     have hA1:=ah.bA x
     have s:∀ a,u≠[]->C=some a->w.heap.size<=a.block/\a.block < w1.heap.size:=fun a j e=>by
      subst e
      obtain ⟨A',c',O,-,h3⟩:=bI x
      cases O
      have:=h3 a rfl
      exact ⟨this.1,this.2.1⟩
     have aaz:∀ k,w.heap.size<=k->k < w1.heap.size->¬ (k=g∨(Value.slice A2 (N + 1) c2).ownBlock=some k):=fun k q1 q2=>by
      rintro (rfl | hh)
      ·omega
      ·rcases Z k hh with e | e
       ·have:=V.o k (B.o k e);omega
       ·omega
     refine ⟨?_,fun j a e=>⟨HKK.o _ (s a j e).1,aaz _ (s a j e).1 (s a j e).2⟩⟩
     have hfr:Fr F w1 (M.setCell ⟨g,0,none⟩ (.slice A2 (N + 1) c2)):=((Fr.aj ((Old.refl' w1).ag _)).trans' D (fun k _ h=>h)).setCell (p:=⟨g,0,none⟩) (.inr HG.o) _
     refine hA1.fr hfr (fun j a e i=>?_)
     have:=s a (by rintro e;exact j (by simp [eB,e])) e
     have:=V.o _ i
     omega
   ·rw [hsz]
    rcases i with rfl | i
    ·omega
    ·exact (J.own.lt k i).2
  have hG:jH w F (fun k=>k=g∨(Value.slice A2 (N + 1) c2).ownBlock=some k):=fun k i=>by
   rcases i with rfl | i
   ·exact .inl HG.o
   ·rcases Z k i with e | e
    ·exact .inl (B.o k e)
    ·exact .inr af
  have HF:=aa hF
  have HR:=aa hR
  have V8:=aa hG
  clear hF hR hG X L hs1 D Y Z G hsz
  go_wp2
  go_ret
  exact ⟨rfl,⟨_,HR.o,V8.o⟩,HF.o⟩
def Qw (w:World) (F K:Nat->Prop) (x:jy) (v:Value):Prop:=∃ A c,v=.slice A x.bs.length c/\ah w A (eB x.bs)/\(x.bs≠[]->∀ a,A=some a->K a.block/\¬ F a.block)
theorem qM {α d:Type} (f:α->d):∀ (l:List α) (k:Nat),(l.eraseIdx k).map f=(l.map f).eraseIdx k
 | [],_=>rfl
 | _ :: _,0=>rfl
 | a :: l,k + 1=>by simp [qM f l k]
theorem Wd (F K:Nat->Prop) (g k:Nat) (l:List jy) (x:jy) (hk:l[k]?=some x) (s:l.length<=1099511627776) (w:World) (h:kL w F K g l) :
 aS 111 #[g,zi k] w fun e w'=>
  ∃ V,e=.returned (.agg #[zi x.gJ,zi x.BX,V])/\kL w' F K g (l.eraseIdx k)/\Qw w' F K x V/\Fr F w w':=by
 obtain ⟨D,m,E,c,rfl,hm,rfl,G,L,H,g0,g1,g2,u⟩:=h.at_ hk
 have i:k < D.length:=(List.getElem?_eq_some_iff.1 hm).1
 have P:=aa (u m (EY hm))
 obtain ⟨n,S⟩:∃ n,n=D.length:=⟨_,rfl⟩
 rw [List.length_map] at s
 rw [<- S] at G L s i
 have M:=aa S
 have T:=aa u
 have I:=h.gF
 have U:=aa h.lt
 clear S u h hk
 obtain ⟨d,f,A,y,C⟩:=m
 simp only [mo.sl,mo.way] at g0 g1 g2 ⊢
 have Y:g≠E:=by
  obtain ⟨_,_,_,cur,hc,_,_⟩:=gV L
  exact G.vC hc aW
 have hlg:=vN L
 have hg:=G.lt
 have J:=rV D
 have c0:=G.cell 0
 simp at c0
 have cD:=aa (fun (W:World) (hW:Old w W)=>Dy 0 E n c k (D.flatMap mo.cells) W (bF L hW) i s J)
 have Z:=(G.alloc (.cells #[zi 0,zi 0,aQ] 157)).alloc (.cells #[zi d,zi f,.slice A C.length y] 157)
 have hr0:=(Bk.new w 157 #[zi 0,zi 0,aQ]).alloc (.cells #[zi d,zi f,.slice A C.length y] 157)
 have hx0:=fV w (.cells #[zi 0,zi 0,aQ] 157) 157 #[zi d,zi f,.slice A C.length y]
 go_enter func111,ntmps111
 go_wp2_with (go_at_call 169;refine (cD.o _ (((Old.refl' w).ag _).ag _)).mono ?_;rintro e w1 ⟨rfl,z,r⟩;have B:=Z.fr r Y;have R:=hr0.fr r af;have X:=hx0.fr r af;have b0:=B.cell 0;have b1:=B.frozen 0;have r0:=R.cell 0;have r1:=R.cell 1;have r2:=R.cell 2;have rf0:=R.frozen 0;have rf1:=R.frozen 1;have rf2:=R.frozen 2;have x0:=X.cell 0;have x1:=X.cell 1;have x2:=X.cell 2;simp at b0 r0 r1 r2 x0 x1 x2)
 have hF:Fr F w ((((w1.setCell ⟨g,0,none⟩ (.slice (some ⟨E,0,none⟩) (n - 1) c)).setCell ⟨w.heap.size,0,none⟩ (zi d)).setCell ⟨w.heap.size,1,none⟩ (zi f)).setCell ⟨w.heap.size,2,none⟩ (.slice A C.length y)):=by
  have f1:Fr F w w1:=(Fr.aj (((Old.refl' w).ag _).ag _)).trans' r (fun k _ e=>by subst e;exact H)
  exact (((f1.setCell (p:=⟨g,0,none⟩) (.inr I) _).setCell (p:=⟨w.heap.size,0,none⟩) (.inl (dN _)) _).setCell (p:=⟨w.heap.size,1,none⟩) (.inl (dN _)) _).setCell (p:=⟨w.heap.size,2,none⟩) (.inl (dN _)) _
 have N:=aa hF
 clear hF
 refine bodyPost_ret (v:=.agg #[zi d,zi f,.slice A C.length y]) ?_ rfl ⟨.slice A C.length y,rfl,?_,⟨A,y,rfl,P.o.1.fr N.o (fun s a e=>(P.o.2 (by rintro e;exact s (by simp [eB,e])) a e).2),P.o.2⟩,N.o⟩
 ·have e1:¬ g=w.heap.size:=by omega
  have e2:¬ w.heap.size=g:=af
  simp [results,results111,go_sem,r0,r1,r2]
 ·refine ⟨⟨D.eraseIdx k,some ⟨E,0,none⟩,c,qM _ _ _,?_,?_,fun j O=>?_,fun m' hm'=>?_⟩,I,fun j O=>iD (U.o j O) N.o.size⟩
  ·rw [List.length_eraseIdx,if_pos (by rw [<- M.o];exact i),<- M.o]
   exact (((B.bH 0 _).far (p:=⟨w.heap.size,0,none⟩) jR _).far (p:=⟨w.heap.size,1,none⟩) jR _).far (p:=⟨w.heap.size,2,none⟩) jR _
  ·rw [List.length_eraseIdx,if_pos (by rw [<- M.o];exact i),<- M.o,List.eraseIdx_eq_take_drop_succ,List.flatMap_append,<- yz,<- yA]
   have n1:(Value.slice (some ⟨E,0,none⟩) (n - 1) c).ownBlock≠some w.heap.size:=by simp [Value.ownBlock];omega
   exact bz (bz (bz (bz z (by simp [Value.ownBlock];omega) _) n1 _) n1 _) n1 _
  ·simp [Value.ownBlock] at O
   exact O▸H
  ·obtain ⟨k1,k2⟩:=T.o m' (List.mem_of_mem_eraseIdx hm')
   exact ⟨k1.fr N.o (fun s a e=>(k2 (by rintro e;exact s (by simp [eB,e])) a e).2),k2⟩
theorem KL (F K:Nat->Prop) (g k:Nat) (l:List jy) (x:jy) (j:l[k]?=some x) (f:l.length<=1099511627776) (w:World) (h:kL w F K g l) :
 aS 71 #[g,zi k] w fun e w'=>
  ∃ V,e=.returned (.tuple #[zi x.gJ,zi x.BX,V,zi 0])/\kL w' F K g (l.eraseIdx k)/\Qw w' F K x V/\Fr F w w':=by
 obtain ⟨r,m,H,c,s,u,-,y,-⟩:=h.at_ j
 have d:k < r.length:=(List.getElem?_eq_some_iff.1 u).1
 have C:=aa (RD g r.length c k _ d (by rw [<- s,List.length_map] at f;exact f) w y)
 have z:=aa (Wd F K g k l x j f w h)
 clear y j d f h u s
 obtain ⟨n,p,D⟩:=x
 simp only at z ⊢
 go_enter func71,ntmps71
 go_wp2_with
  (first
   | (go_at_call 77;refine C.o.mono ?_;rintro e w1 ⟨rfl,rfl⟩)
   | (go_at_call 111;refine z.o.mono ?_;rintro e w1 ⟨V,rfl,E,i,G⟩;obtain ⟨A,B,rfl,i⟩:=i))
 go_quiet (fail)
 go_wp2
 refine bodyPost_ret (v:=.tuple #[zi n,zi p,.slice A D.length B,zi 0]) ?_ rfl ⟨_,rfl,(E.old ((Old.refl' _).ag _)).old ((Old.refl' _).Rn _),⟨A,B,rfl,(i.1.alloc _).drewN _,i.2⟩,(G.alloc _).drewN _⟩
 simp [results,results71,go_sem]
section
variable {s:NS} {i k:Nat}
theorem aF.accepted (h:aF s i (k + 1)) (b:bU) (c:bC) (j:c.may=true):aF (s.accepted b c) i k:=by
 have d:=h.mono (ym k)
 have g:=h.aA
 have f:((s.aA ++ [c])≠[]/\∀ x∈s.aA ++ [c],x.may=true)/\(s.aA ++ [c]).length + k<=1099511627776:=⟨⟨bE,fun x e=>by
  rcases List.mem_append.1 e with e | e
  ·exact g.1.2 x e
  ·obtain rfl:=List.mem_singleton.1 e
   exact j⟩,by have:=g.2;simp only [ja,List.length_singleton];omega⟩
 unfold NS.accepted
 simp only
 repeat' split
 all_goals first
  | exact ⟨d.conf,d.now,d.acc,d.log,d.join,d.disk,d.junk,d.hold,d.gr,d.wa,d.hd,d.rf,d.seen,d.p,d.bO,f,d.last,d.well⟩
  | exact ⟨d.conf,d.now,d.acc,d.log,d.join,d.disk,d.junk,d.hold,d.gr,d.wa,d.hd,d.rf,d.seen,d.p,d.bO,d.aA,d.last,d.well⟩
theorem zw (id node d:Int):∀ (l:List uU),(nG id node d l).length=l.length
 | []=>rfl
 | x :: l=>by
  unfold nG
  split
  ·simp
  ·simp [zw id node d l]
theorem zx (id node d:Int):∀ (l:List uU) (x:uU),x∈nG id node d l->∃ y∈l,x.id=y.id/\x.asked=y.asked/\x.az=y.az
 | [],x,h=>by cases h
 | y :: l,x,h=>by
  unfold nG at h
  split at h
  ·rcases List.mem_cons.1 h with rfl | h
   ·exact ⟨y,bE,rfl,rfl,rfl⟩
   ·exact ⟨x,by simp [h],rfl,rfl,rfl⟩
  ·rcases List.mem_cons.1 h with rfl | h
   ·exact ⟨x,bE,rfl,rfl,rfl⟩
   ·obtain ⟨z,f,e⟩:=zx id node d l x h
    exact ⟨z,by simp [f],e⟩
theorem xh.told {n:Nat} {x:kV} (h:xh n k x) (id node:Int):xh n k (x.told id node):=by
 unfold kV.told
 split
 ·refine ⟨h.n_,by rw [zw];exact h.row,h.k_,fun y hy=>?_⟩
  obtain ⟨z,d,e,f,-⟩:=zx _ _ _ _ _ hy
  rw [e,f]
  exact h.ask z d
 ·exact h
theorem aF.lI (h:aF s i k) (d:Int) (m:aO):aF (s.lI d m) i k:=by
 unfold NS.lI
 split
 ·split
  ·exact ⟨h.conf,h.now,h.acc,h.log,h.join,h.disk,h.junk,h.hold.told _ _,h.gr,h.wa,h.hd,h.rf,h.seen,h.p,h.bO,h.aA,h.last,h.well⟩
  ·exact h
 ·exact h
theorem sN.yes {n:Nat} {t:jF} (h:sN n t) (j:Int):sN n (t.yes j):=by
 unfold jF.yes
 split
 ·rename_i e
  unfold jF.Ru at e
  simp only [kE,rJ,Bool.not_eq_true',List.contains_eq_mem,decide_eq_false_iff_not] at e
  refine ⟨h.n_,h.c_,h.pn,h.pr,?_,?_,h.best⟩
  ·refine List.nodup_append.2 ⟨h.sn,bE,fun x d y hy=>?_⟩
   simp at hy
   subst hy
   rintro rfl
   exact e.2 d
  ·intro x d
   rcases List.mem_append.1 d with d | d
   ·exact h.sr x d
   ·simp at d
    subst d
    have:=h.n_
    omega
 ·exact h
theorem aF.Ba (h:aF s i k) (p:Option uK) (d:∀ x,p=some x->KE s.conf.nodes x):aF (s.aZ fun n=>{ n with p:=p }) i k:=
 ⟨h.conf,h.now,h.acc,h.log,h.join,h.disk,h.junk,h.hold,h.gr,h.wa,h.hd,h.rf,h.seen,d,h.bO,h.aA,h.last,h.well⟩
theorem aF.xe (h:aF s i (k + 3)) (d:Int) (b:bU):aF (s.xe d b) i k:=by
 unfold NS.xe
 split
 ·exact h.mono af
 ·rename_i p g
  have e:=h.p p g
  split
  ·have f:=h.Ba (some { p with jS:=p.jS.yes d }) (fun x j=>by cases j;exact ⟨e.b,e.t.yes _,e.c,e.s⟩)
   simp only
   split
   ·exact f.lY _
   ·exact f.mono af
  ·exact h.mono af
theorem aF.bJ (h:aF s i k):aF s.bJ i k:=h.hear _
theorem aF.kG (h:aF s i (k + 1)) (d:Int) (m:aO):aF (s.kG d m) i k:=by
 unfold NS.kG
 split
 ·have e:aF (s.aZ fun n=>{ n with grants:=n.grants.give s.now d }) i (k + 1):=
   ⟨h.conf,h.now,h.acc,h.log,h.join,h.disk,h.junk,h.hold,by show (s.n.grants.give s.now d).n=_;rw [show (s.n.grants.give s.now d).n=s.n.grants.n from by unfold Ag.give;split <;> rfl];exact h.gr,h.wa,h.hd,h.rf,h.seen,h.p,h.bO,h.aA,h.last,h.well⟩
  simp only
  split
  ·exact (e.bJ.lI _ _).mono (ym k)
  ·exact e.way _ _
 ·exact h.mono (ym k)
theorem sN.prom {n:Nat} {t:jF} (h:sN n t) (j:Int) (v:oM):sN n (t.prom j v):=by
 unfold jF.prom
 split
 ·rename_i f
  unfold jF.Jo at f
  simp only [kE,rJ,Bool.not_eq_true',List.contains_eq_mem,decide_eq_false_iff_not,Bool.or_eq_true] at f
  refine ⟨h.n_,h.c_,?_,?_,h.sn,h.sr,?_⟩
  ·refine List.nodup_append.2 ⟨h.pn,bE,fun x d y hy=>?_⟩
   simp at hy
   subst hy
   rintro rfl
   exact f.2 d
  ·intro x d
   rcases List.mem_append.1 d with d | d
   ·exact h.pr x d
   ·simp at d
    subst d
    have:=h.n_
    omega
  ·intro x d
   dsimp only at d
   split at d
   ·rename_i l
    have g:v.chain.nodes.length<=5:=by
     rcases f.1.2 with e | e
     ·rw [l] at e;cases e
     ·exact (bC.sO e.1.2).2
    split at d
    ·cases d;exact g
    ·rename_i b c m
     split at d
     ·cases d;exact g
     ·cases d;exact h.best _ m
   ·exact h.best _ d
 ·exact h
theorem aF.Bb (h:aF s i k) (b:bU) (d:jr b):aF (s.aZ fun n=>{ n with seen:=b }) i k:=
 ⟨h.conf,h.now,h.acc,h.log,h.join,h.disk,h.junk,h.hold,h.gr,h.wa,h.hd,h.rf,d,h.p,h.bO,h.aA,h.last,h.well⟩
theorem aF.mP (h:aF s i k) (f:Int) (b:bU) (v:oM) (g:jr v.promised):aF (s.mP f b v).1 i k:=by
 unfold NS.mP
 split
 ·exact h
 ·rename_i p j
  have d:=h.p p j
  split
  ·exact h
  ·split
   ·exact (h.Ba none (fun x e=>by cases e)).Bb _ (by split;exact g;exact h.seen)
   ·split
    ·exact h
    ·simp only
     split
     ·exact h.Ba _ (fun x e=>by cases e;exact ⟨d.b,d.t.prom _ _,(d.t.prom _ _).ch,d.s⟩)
     ·exact h.Ba _ (fun x e=>by cases e;exact ⟨d.b,d.t.prom _ _,d.c,d.s⟩)
theorem dY.KM {a:dY} {c:bC} {b:bU} {tL:Bool} (h:a.Nf c b tL=0):b.may=true/\c.may=true:=by
 unfold dY.Nf at h
 split at h
 ·cases h
 ·rename_i d
  simp only [Bool.or_eq_true,Bool.not_eq_true',not_or,Bool.not_eq_false] at d
  exact d
theorem jT.acc {n:Nat} {a:dY} (h:jT n a) (c:bC) (b:bU) (tL:Bool):jT n (a.acc c b tL):=by
 unfold dY.acc
 split
 ·rename_i f
  obtain ⟨d,e⟩:=dY.KM f
  exact ⟨h.n_,h.may,h.fits,bU.AU d,bU.AU d,(bC.sO e).2,fun _=>e⟩
 ·exact h
theorem jT.Gx {n:Nat} {a:dY} (h:jT n a) (e:Int) (b:bU):jT n (a.Gx e b):=by
 unfold dY.Gx
 split
 ·rename_i d
  have f:b.may=true:=by
   unfold dY.Jn at d
   split at d
   ·cases d
   ·rename_i g;simpa using g
  exact ⟨h.n_,h.may,h.fits,bU.AU f,h.a_,h.c_,h.h_⟩
 ·exact h
theorem aF.KN (h:aF s i k) (a:dY) (d:jT s.conf.nodes a):aF (s.aZ fun n=>{ n with kept:={ n.kept with acc:=a } }) i k:=
 ⟨h.conf,h.now,d,h.log,h.join,h.disk,h.junk,h.hold,h.gr,h.wa,h.hd,h.rf,h.seen,h.p,h.bO,h.aA,h.last,h.well⟩
def Bc (c ch:bC) (l:List Int) (r:List Int):List Int:=l.foldl (fun r i=>if ch.has i then r else r.set i.toNat c.az) r
theorem uL (c ch:bC):∀ (l r:List Int),(Bc c ch l r).length=r.length
 | [],_=>rfl
 | x :: l,r=>by
  unfold Bc
  rw [List.foldl_cons]
  have:=uL c ch l (if ch.has x then r else r.set x.toNat c.az)
  unfold Bc at this
  rw [this]
  split <;> simp
theorem aF.Hy (h:aF s i k) (r:List Int) (d:r.length=5):aF (s.aZ fun n=>{ n with refuse:=r }) i k:=
 ⟨h.conf,h.now,h.acc,h.log,h.join,h.disk,h.junk,h.hold,h.gr,h.wa,h.hd,d,h.seen,h.p,h.bO,h.aA,h.last,h.well⟩
theorem aF.nK (h:aF s i (k + 6)) (g:Int) (b:bU) (ch:bC):aF (s.nK g b ch) i k:=by
 unfold NS.nK
 simp only
 split
 ·exact h.mono af
 ·have d:aF (s.aZ fun n=>{ n with refuse:=s.known.nodes.foldl (fun r i=>if ch.has i then r else r.set i.toNat s.known.az) n.refuse }) i (k + 6):=h.Hy _ ((uL s.known ch s.known.nodes s.n.refuse).trans h.rf)
  split
  ·rename_i l
   have j:=d.KN _ (d.acc.acc ch b (s.n.grants.tL s.now s.known ch))
   have e:=(j.bN (k:=k + 4)).accepted (k:=k + 3) b ch (dY.KM l).2
   have f:=j.mono (show k + 3<=k + 6 by omega)
   repeat' split
   all_goals first
    | exact e.bJ.xe _ _
    | exact f.bJ.xe _ _
    | exact (e.mono (show k + 1<=k + 3 by omega)).way _ _
    | exact (f.mono (show k + 1<=k + 3 by omega)).way _ _
  ·split
   ·split
    ·exact (d.bJ.mP _ _ _ h.acc.p_).mono af
    ·exact (d.mono (show k + 1<=k + 6 by omega)).way _ _
   ·exact d.mono af
theorem NS.zz (s:NS) (m:aO):∃ b:List jy,s.others m={ s with bO:=s.bO ++ b }/\b.length<=s.conf.nodes:=by
 have key:∀ (l:List Int) (b:List jy),∃ b',l.foldl (fun s i=>s.way i m) { s with bO:=s.bO ++ b }={ s with bO:=s.bO ++ b' }/\b'.length=b.length + l.length:=by
  intro l
  induction l with
  | nil=>intro b;exact ⟨b,rfl,rfl⟩
  | cons x l ih=>
   intro b
   obtain ⟨b',e,d⟩:=ih (b ++ [⟨s.n.self,x,({ m with known:=s.known }).bytes⟩])
   refine ⟨b',?_,by simp at d ⊢;omega⟩
   rw [List.foldl_cons,<- e,<- MI]
   rfl
 obtain ⟨b,e,d⟩:=key (s.range.filter fun i=>decide (i≠s.n.self)) []
 refine ⟨b,?_,?_⟩
 ·unfold NS.others
  rw [<- e]
  simp
 ·rw [d]
  have:=List.length_filter_le (fun i=>decide (i≠s.n.self)) s.range
  have f:s.range.length=s.conf.nodes:=by simp [NS.range]
  simp only [jV]
  omega
theorem aF.others (h:aF s i (k + 1)) (m:aO):aF (s.others m) i k:=by
 obtain ⟨b,e,d⟩:=s.zz m
 rw [e]
 refine (h.mono (ym k)).xk _ ?_
 have:=h.bO
 have:=h.conf.n5
 simp only [ja]
 omega
theorem aF.kz (h:aF s i (k + 7)) (b:bU) (c:bC):aF (s.kz b c) i k:=(h.others (k:=k + 6) _).bJ.nK _ _ _
theorem aF.ry (h:aF s i (k + 7)) (d:Int) (b:bU) (v:oM) (f:jr v.promised):aF (s.ry d b v) i k:=by
 have e:=h.mP d b v f
 unfold NS.ry
 generalize s.mP d b v=r at e
 obtain ⟨g,j⟩:=r
 simp only at e ⊢
 split
 ·split
  ·exact e.kz _ _
  ·exact e.mono af
 ·exact e.mono af
theorem aF.kC (h:aF s i (k + 9)) (f:Int) (b:bU):aF (s.kC f b) i k:=by
 unfold NS.kC
 simp only
 have g:aF (s.aZ fun n=>{ n with kept:={ n.kept with acc:=n.kept.acc.Gx (s.known.az + 1) b } }) i (k + 9):=h.KN _ (h.acc.Gx _ _)
 have d:=g.bN (k:=k + 7)
 have e:=g.mono (show k + 7<=k + 9 by omega)
 have j:=g.acc.p_
 repeat' split
 all_goals first
  | exact d.bJ.ry _ _ _ j
  | exact e.bJ.ry _ _ _ j
  | exact (d.mono (show k + 1<=k + 7 by omega)).way _ _
  | exact (e.mono (show k + 1<=k + 7 by omega)).way _ _
theorem dW.sK (l:dW) (q:aG):l.qs.length<=(l.put q).qs.length/\(l.put q).qs.length<=l.qs.length + 1/\(l.put q).aI=l.aI/\(l.put q).k=l.k:=by
 unfold dW.put
 split
 ·simp
 ·simp
theorem sM.put {c:dZ} {l:dW} (h:sM c (k + 1) l) (q:aG):sM c k (l.put q):=by
 obtain ⟨e,f,d,h4⟩:=l.sK q
 exact ⟨d.trans h.q,by have:=h.few;omega,by rw [h4];have:=h.kl;omega⟩
theorem aF.We (h:aF s i (k + 1)) (l:dW) (q:aG) (e:sM s.conf k l):aF ((s.aZ fun n=>{ n with kept:={ n.kept with log:=l } }).entry q) i k:=by
 have d:=h.mono (ym k)
 exact ⟨d.conf,d.now,d.acc,e,d.join,h.disk.put af (by have:=nM q;omega) (pV q),d.junk,d.hold,d.gr,d.wa,d.hd,d.rf,d.seen,d.p,d.bO,d.aA,d.last,d.well⟩
theorem aF.write (h:aF s i (k + 2)) (q:aG):aF (s.write q) i k:=by
 unfold NS.write
 simp only
 split
 ·exact h.mono af
 ·split
  ·split
   ·rw [NS.Cw]
    have:=h.bO
    exact (h.mono (show k<=k + 2 by omega)).xk _ (by simp only [ja,List.length_singleton];omega)
   ·exact h.mono af
  ·split
   ·exact (h.We (k:=k + 1) _ _ (h.log.put q)).advance
   ·exact h.mono af
theorem aF.onRequest (h:aF s i (k + 4)) (m:aO):aF (s.onRequest m) i k:=by
 unfold NS.onRequest
 simp only
 have e:∀ (s':NS) (d:Int),aF s' i (k + 2)->aF (if d≠s'.n.self/\m.hop=false then ((s'.way d { aO.zero with kind:=9,q:=m.q,hop:=true }).way (s'.conf.nodes + m.q.client) { aO.zero with kind:=10,q:=m.q }) else s') i k:=fun s' d f=>by
  split
  ·exact (f.way (k:=k + 1) _ _).way _ _
  ·exact f.mono af
 split
 ·exact h.mono af
 ·split
  ·exact e _ _ (h.write (k:=k + 2) _)
  ·split
   ·exact (h.mono (show k + 1<=k + 4 by omega)).way _ _
   ·exact e _ _ (h.mono af)
structure Qx (m:aO):Prop extends MOk m where
 known:m.known.nodes.length<=5
 chain:m.chain.nodes.length<=5
 b:jr m.b
 p:jr m.bN.promised
 a:jr m.bN.accepted
 vc:m.bN.chain.nodes.length<=5
 l:m.l.length<=16
 id:0<=m.id/\m.id<=1099511627776
 asked:0<=m.asked/\m.asked<=1099511627776
end
section
variable {s:NS} {i k:Nat}
theorem kV.KO (x:kV):x.last.id=0/\x.last.asked=0∨x.last∈x.row:=by
 unfold kV.last
 cases e:x.row.getLast? with
 | none=>exact .inl ⟨rfl,rfl⟩
 | some y=>exact .inr (by simpa using List.mem_of_getLast? e)
theorem xh.asked {n:Nat} {x:kV} (h:xh n (k + 1) x) {now:Int} (g:0<=now/\now<=1099511627776) (d:Int):xh n k (x.ask now d):=by
 have h0:∀ y∈x.row,(0<=y.asked/\y.asked<=1099511627776)/\0<=y.id/\y.id + k<=1125899906842624:=fun y hy=>by
  have:=h.ask y hy
  push_cast at this
  exact ⟨this.1,this.2.1,af⟩
 unfold kV.ask
 simp only
 split
 ·exact ⟨h.n_,h.row,by have:=h.k_;omega,h0⟩
 ·have f:∀ y∈x.row ++ [(⟨x.last.id + 1,now,d,List.replicate 5 false⟩:uU)],(0<=y.asked/\y.asked<=1099511627776)/\0<=y.id/\y.id + k<=1125899906842624:=fun y hy=>by
   rcases List.mem_append.1 hy with hy | hy
   ·exact h0 y hy
   ·simp at hy
    subst hy
    refine ⟨g,?_⟩
    show 0<=x.last.id + 1/\x.last.id + 1 + k<=_
    have j:=h.row
    have m:=h.k_
    rcases x.KO with e | e
    ·omega
    ·have:=h.ask _ e
     push_cast at this
     omega
  have j:=h.row
  split
  ·refine ⟨h.n_,by simp only [yj,ja,List.length_singleton];omega,by have:=h.k_;omega,fun y hy=>f y (List.mem_of_mem_drop hy)⟩
  ·rename_i l
   exact ⟨h.n_,by simp only [ja,List.length_singleton] at l ⊢;omega,by have:=h.k_;omega,f⟩
theorem bC.KP {c d:bC} (h:c.ok=some d):d.may=true:=by
 unfold bC.ok at h
 split at h
 ·cases h;assumption
 ·cases h
theorem bC.Cz {c d:bC} {x:Int} (h:c.with_ x=some d):d.may=true:=by
 unfold bC.with_ at h
 split at h
 ·exact bC.KP h
 ·cases h
theorem bC.pW {c d:bC} {g:List Int} (h:c.without g=some d):d.may=true:=by
 unfold bC.without at h
 split at h
 ·exact bC.KP h
 ·cases h
theorem aF.take (h:aF s i (k + 1)):aF s.take i k:=by
 unfold NS.take
 simp only
 split
 ·exact h.mono (ym k)
 ·split
  ·exact h.mono (ym k)
  ·split
   ·exact h.mono (ym k)
   ·rename_i j d
    have e:=Cv.of (bC.Cz d)
    have f:aF (s.aZ fun n=>{ n with kept:={ n.kept with join:=j } }) i (k + 1):=
     ⟨h.conf,h.now,h.acc,h.log,e,h.disk,h.junk,h.hold,h.gr,h.wa,h.hd,h.rf,h.seen,h.p,h.bO,h.aA,h.last,h.well⟩
    exact f.oD af (by have:=bC.eG j;omega) (bC.fB j)
theorem aF.qh (h:aF s i k):aF (s.aZ fun n=>{ n with well:=s.now }) i k:=
 ⟨h.conf,h.now,h.acc,h.log,h.join,h.disk,h.junk,h.hold,h.gr,h.wa,h.hd,h.rf,h.seen,h.p,h.bO,h.aA,h.last,h.now⟩
def NS.gone (s:NS):List Int:=s.known.nodes.filter fun i=>!(s.there i)
def NS.Wh (s:NS):Bool:=s.gD && s.known.nodes.all fun i=>decide (i=s.n.self) || (s.same i && (s.iQ i).hop)
def NS.jo (s:NS):Int:=if s.known.tail≠s.n.self/\s.same s.known.tail=true then (s.iQ s.known.tail).bL - 1 else s.bL
def NS.lZ (s:NS):NS:=if s.Wh then s.aZ fun n=>{ n with well:=s.now } else s
def NS.FP (s:NS) (c:bC) (gone:List Int) (j:Int):Option bC:=
 if gone≠[]∨s.isOpen then c.without gone else if 0<=j/\s.there j=true then c.with_ j else if j < 0/\s.now - s.n.well < 60 then none else c.without gone
theorem NS.Hz (s:NS):s.wanted=if s.member=false then (s,s.known.without []) else (s.lZ,s.lZ.FP s.known s.gone s.jo):=by
 unfold NS.wanted NS.FP
 simp only
 split
 ·rfl
 ·show (if s.gone≠[]∨s.lZ.isOpen then (s.lZ,s.known.without s.gone) else if 0<=s.jo/\s.lZ.there s.jo=true then (s.lZ,s.known.with_ s.jo) else if s.jo < 0/\s.lZ.now - s.lZ.n.well < 60 then (s.lZ,none) else (s.lZ,s.known.without s.gone))=_
  generalize s.lZ=s1
  repeat' split
  all_goals rfl
theorem aF.lZ (h:aF s i k):aF s.lZ i k:=by
 unfold NS.lZ
 split
 ·exact h.qh
 ·exact h
theorem NS.Ia {s:NS} {c d:bC} {g:List Int} {j:Int} (h:s.FP c g j=some d):d.may=true:=by
 unfold NS.FP at h
 split at h
 ·exact bC.pW h
 ·split at h
  ·exact bC.Cz h
  ·split at h
   ·cases h
   ·exact bC.pW h
theorem aF.wanted (h:aF s i k):aF s.wanted.1 i k/\∀ c,s.wanted.2=some c->c.may=true:=by
 rw [NS.Hz]
 split
 ·exact ⟨h,fun c d=>bC.pW d⟩
 ·exact ⟨h.lZ,fun c d=>NS.Ia d⟩
theorem bU.KQ {b d:bU} {x:Int} (h:b.next x=some d):d.may=true:=by
 unfold bU.next at h
 split at h
 ·dsimp only at h
  split at h
  ·split at h
   ·cases h;assumption
   ·cases h
  ·split at h
   ·cases h;assumption
   ·cases h
 ·cases h
theorem aF.lK (h:aF s i k) (c:bC) (g:c.may=true):aF (s.lK c) i k:=by
 unfold NS.lK
 simp only
 have e:aF (s.aZ fun n=>{ n with p:=none,seen:=if n.seen.lt s.n.kept.acc.bN.promised then s.n.kept.acc.bN.promised else n.seen }) i k:=
  (h.Ba none (fun x d=>by cases d)).Bb _ (by split;exact h.acc.p_;exact h.seen)
 split
 ·exact e
 ·rename_i b j
  have f:=bU.KQ j
  refine (e.Bb b (bU.AU f)).Ba _ fun x d=>?_
  cases d
  exact ⟨f,⟨rfl,(bC.sO g).2,List.nodup_nil,(fun x d=>by cases d),List.nodup_nil,(fun x d=>by cases d),fun x d=>by cases d⟩,by show 0<=5;omega,h.now⟩
def NS.xm (s:NS):NS×Option bC:=if s.leads then s.wanted else (s.aZ fun n=>{ n with well:=s.now },none)
def NS.CB (s:NS) (c:bC):NS:=match s.n.p with
 | none=>s.lK c
 | some p=>if p.jS.ready=false/\s.now - p.since≥12 then s.lK c else s
def NS.KR (s:NS):NS:=match s.n.p with
 | none=>s
 | some p=>if p.jS.ready then s.kz p.b p.chain else (s.others { aO.zero with kind:=5,b:=p.b }).bJ.kC s.n.self p.b
theorem NS.On (s:NS):s.lead=match s.take.xm.2 with
 | none=>s.take.xm.1.aZ fun n=>{ n with p:=none }
 | some c=>(s.take.xm.1.CB c).KR:=rfl
theorem aF.lead (h:aF s i (k + 11)):aF s.lead i k:=by
 have g:aF s.take i (k + 10):=h.take
 rw [NS.On]
 have d:aF s.take.xm.1 i (k + 10)/\∀ c,s.take.xm.2=some c->c.may=true:=by
  unfold NS.xm
  split
  ·exact g.wanted
  ·exact ⟨g.qh,fun c e=>by cases e⟩
 generalize s.take.xm=r at d ⊢
 obtain ⟨f,o⟩:=r
 obtain ⟨d,j⟩:=d
 simp only at d j ⊢
 cases o with
 | none=>exact (d.Ba none (fun x l=>by cases l)).mono af
 | some c=>
  have e:=j c rfl
  have h4:aF (f.CB c) i (k + 10):=by
   unfold NS.CB
   split
   ·exact d.lK c e
   ·split
    ·exact d.lK c e
    ·exact d
  show aF (f.CB c).KR i k
  generalize f.CB c=s3 at h4 ⊢
  unfold NS.KR
  split
  ·exact h4.mono af
  ·split
   ·exact (h4.mono (show k + 7<=k + 10 by omega)).kz _ _
   ·exact (h4.others (k:=k + 9) _).bJ.kC _ _
theorem aF.tick (h:aF s i (k + 16)):aF s.tick i k:=by
 unfold NS.tick
 simp only
 have e:=h.others (k:=k + 15) { aO.zero with kind:=1,n:=s.n.kept.log.qs.length,bD:=s.n.kept.log.k,bL:=s.bL + 1,hop:=s.gD,open_:=s.n.kept.acc.bN.has }
 generalize s.others { aO.zero with kind:=1,n:=s.n.kept.log.qs.length,bD:=s.n.kept.log.k,bL:=s.bL + 1,hop:=s.gD,open_:=s.n.kept.acc.bN.has }=s1 at e ⊢
 refine aF.advance (aF.lead (k:=k + 1) ?_)
 split
 ·have h2:aF ((s1.aZ fun n=>{ n with last:=s1.now }).aZ fun n=>{ n with hold:=n.hold.ask s1.now (s1.aZ fun n=>{ n with last:=s1.now }).known.az }) i (k + 14):=by
   have d:=e.mono (show k + 14<=k + 15 by omega)
   have f:=e.now
   exact ⟨d.conf,d.now,d.acc,d.log,d.join,d.disk,d.junk,e.hold.asked f _,d.gr,d.wa,d.hd,d.rf,d.seen,d.p,d.bO,d.aA,⟨by show -4<=s1.now;omega,f.2⟩,d.well⟩
  split
  ·exact UR
  ·exact h2.mono af
 ·exact e.mono af
end
end Go.Proofs.YthihpfpbiajddaaGreat
