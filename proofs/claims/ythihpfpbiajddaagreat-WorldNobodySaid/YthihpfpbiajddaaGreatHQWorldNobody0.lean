/- Parts of the proof. -/
import Derived.Test.YthihpfpbiajddaaGreatProg
import Derived.WalkKit
import Derived.WalkSpells
import Derived.WalkLawsBesides
set_option maxRecDepth 100000
set_option maxHeartbeats 8000000
open Go.Proofs.Tryz
namespace Go.Proofs.YthihpfpbiajddaaGreat
open Go.RowKit
abbrev zi (x:Int):Value:=.int .i64 x
abbrev av (g o:Nat):Value:=.pointer (some ⟨g,o,none⟩)
abbrev aQ:Value:=.slice none 0 0
abbrev aS:=Calls prog
def kN (p:Prop):Prop:=p
theorem kN.o {p:Prop} (h:kN p):p:=h
instance:Coe Nat Value:=⟨fun g=>.pointer (some ⟨g,0,none⟩)⟩
theorem af {p:Prop}(h:p:=by omega):p:=h
theorem ay {p:Prop}(h:p:=by kernel_rfl):p:=h
theorem iw {p:Prop}(h:p:=by simp only [List.length_cons,List.length_nil,YT.o];omega):p:=h
theorem jQ {p:Prop}(h:p:=by simp only [List.map_cons,List.map_nil, *]):p:=h
theorem aW {p:Prop}(h:p:=by decide):p:=h
theorem Di {p:Prop}(h:p:=by have:=ok.acc.len;rw [show s.n.kept.acc.known=⟨ke,kn⟩ from hk] at this;exact hm▸this):p:=h
theorem bE {p:Prop}(h:p:=by simp):p:=h
theorem iV {p:Prop}(h:p:=by decide +kernel):p:=h
theorem dP {p:Prop}(h:p:=by go_simp):p:=h
theorem EU {p:Prop}(h:p:=by simp only [List.length_cons,List.length_nil];omega):p:=h
theorem qy {p:Prop}(h:p:=by unfold maxLen;omega):p:=h
theorem Q7 {p:Prop}(h:p:=by have:=yK.o;(try simp only [aT]);simp only [List.length_cons,List.length_nil];omega):p:=h
theorem jR {p:Prop}(h:p:=by simp;omega):p:=h
theorem tC {p:Prop}(h:p:=by simp [Value.oneCell']):p:=h
theorem IZ {p:Prop}(h:p:=by simp only [List.map_cons,List.map_nil,eq_self,if_true, *]):p:=h
theorem zap {p:Prop}(h:p:=by simp only [List.map_cons,List.map_nil, *];try rfl):p:=h
theorem TP {p:Prop}(h:p:=by have:=I1.o;(try simp only [aT]);simp only [List.length_cons,List.length_nil];omega):p:=h
theorem TQ {p:Prop}(h:p:=by rw [← hc];cases t0 <;> cases t1 <;> cases t2 <;> cases t3 <;> cases t4 <;> decide):p:=h
theorem yg {p:Prop}(h:p:=by simpa [upd] using h):p:=h
theorem zat {p:Prop}(h:p:=by rw [lS];exact (Bk.new W 36 #[zi x.2.client,zi x.2.seq,zi x.2.kind,zi x.2.id,zi x.2.eD,.string x.2.data]).cell (0 + j) |>.trans (by rw [Nat.zero_add];simpa using hj)):p:=h
theorem YU {p:Prop}(h:p:=by rw [hE.o];first | (simp_all [zQ];done) | (simp_all [zQ];omega) | (simp_all [zQ];exact ZO m)):p:=h
theorem YV {p:Prop}(h:p:=by have:=PX.o;(try simp only [aT]);simp only [List.length_cons,List.length_nil];omega):p:=h
theorem EV {p:Prop}(h:p:=by simp [Act.eval,Act.put]):p:=h
theorem Uo {p:Prop}(h:p:=by cases t0 <;> cases t1 <;> cases t2 <;> cases t3 <;> cases t4 <;> rfl):p:=h
theorem xX {p:Prop}(h:p:=by simp [upd] at h):p:=h
theorem EX {p:Prop}(h:p:=by rw [← hE];kernel_rfl):p:=h
theorem Up {p:Prop}(h:p:=by simp only [List.map_toArray,List.map_cons,List.map_nil, *]):p:=h
theorem xY {p:Prop}(h:p:=by simp [aB]):p:=h
theorem iW {p:Prop}(h:p:=by rfl):p:=h
theorem YW {p:Prop}(h:p:=by rw [HT.o,e1.o];have:=hs.o;rw [e1.o] at this;exact this.drew):p:=h
theorem IQ {p:Prop}(h:p:=by first | trivial | rfl):p:=h
theorem vL {p:Prop}(h:p:=by simp [upd]):p:=h
theorem BA {p:Prop}(h:p:=by simp [bS]):p:=h
theorem MQ {p:Prop}(h:p:=by rw [← HL.o];exact hlt):p:=h
theorem oP {p:Prop}(h:p:=by go_num):p:=h
theorem I4 {p:Prop}(h:p:=by have:=HL.o;omega):p:=h
theorem Uq {p:Prop}(h:p:=by
 obtain ⟨jj,rfl⟩:∃ jj:Nat,jo=jj:=⟨jo.toNat,af⟩
 have HJ5:=aa (show jj < 5 by omega)
 have qj0:(0:Int)≤(jj:Int):=af
 have qj5:(jj:Int) < 5:=af
 cases sj with
 | true=>
  obtain ⟨hn,hhn⟩:∃ x,(s.n.heard[jj]?.getD .zero).n=x:=⟨_,rfl⟩
  have HHN:=aa hhn
  have MR:=aa (show s.oW=(if hn < (L:Int) then hn else (L:Int)) by rw [Gs.o,if_pos hj0,if_pos rfl];show min (L:Int) (s.n.heard[((jj:Nat):Int).toNat]?.getD .zero).n=_;rw [Int.toNat_natCast,hhn];omega)
  obtain ⟨tO,hto⟩:∃ x,(if hn < (L:Int) then hn else (L:Int))=x:=⟨_,rfl⟩
  rw [hto] at MR
  clear hhn Gs
  have cL:=aa (cLen.o w5 O5.o)
  obtain ⟨u0,u1,u2,u3,u4,u5,u6,u8,u9,dF,dD,dK,eu,aX,ug⟩:=(H3.o.old O5.o).c HS.o
  clear u0 u1 u2 u3 u4 u6 u8 u9 dF dD dK eu aX
  go_wp2_with fail
  refine cL.o.mono ?_
  rintro e w6 ⟨rfl,rfl⟩
  have PY:=aa (cJ.o w5 O5.o)
  go_wp2_with fail
  refine PY.o.mono ?_
  rintro e w6 ⟨rfl,o6⟩
  have O6:=aa (O5.o.trans' o6)
  clear o6 cL PY u5 ug
  have cS2:=aa (cSj.o w6 O6.o)
  go_wp2_with fail
  refine cS2.o.mono ?_
  rintro e w7 ⟨rfl,o7⟩
  have O7:=aa (O6.o.trans' o7)
  clear o7 cS2
  have cC:=aa (MR.o▸Q8.o w7 O7.o)
  obtain ⟨u0,u1,u2,u3,u4,u5,u6,u8,u9,dF,dD,dK,eu,aX,ug⟩:=(H3.o.old O7.o).c HS.o
  clear u0 u1 u2 u3 u4 u5 u6 u8 u9 dF dD dK eu aX
  obtain ⟨v1,v3,v4,v5,v25,v26⟩:=(H3.o.old O7.o).hds (a:=jj) HJ5.o _ rfl
  rw [HHN.o] at v3
  clear v1 v4 v5 v25 v26
  go_wp2_with fail
  try rw [show min (L:Int) hn=tO by rw [← hto];split <;> omega]
  refine cC.o.mono ?_
  rintro e w9 ⟨rfl,vM,N9,D9⟩
  have HF:=aa (⟨vM,N9,D9⟩:∃ own',aN w9 own' c i W g u (s.bD tO)∧fT w7 own c i w9 own')
  clear N9 D9
  go_wp2_with fail
  go_end0
  obtain ⟨vM,N9,D9⟩:=HF.o
  exact ⟨rfl,vM,by rw [HR.o,MR.o];exact N9,(HN.o.qQ O7.o).trans D9⟩
 | false=>
  have MR:=aa (show s.oW=0 by rw [Gs.o,if_pos hj0,if_neg bE];omega)
  have hL0:¬ ((L:Int) < 0):=af
  have hL2:(if 0 < L then (0:Int) else (L:Int))=0:=by split <;> omega
  have hL1:(if (0:Int) < (L:Int) then (0:Int) else (L:Int))=0:=by split <;> omega
  clear Gs
  have cL:=aa (cLen.o w5 O5.o)
  obtain ⟨u0,u1,u2,u3,u4,u5,u6,u8,u9,dF,dD,dK,eu,aX,ug⟩:=(H3.o.old O5.o).c HS.o
  clear u0 u1 u2 u3 u4 u6 u8 u9 dF dD dK eu aX
  go_wp2_with fail
  refine cL.o.mono ?_
  rintro e w6 ⟨rfl,rfl⟩
  have PY:=aa (cJ.o w5 O5.o)
  go_wp2_with fail
  refine PY.o.mono ?_
  rintro e w6 ⟨rfl,o6⟩
  have O6:=aa (O5.o.trans' o6)
  clear o6 cL PY u5 ug
  have cS2:=aa (cSj.o w6 O6.o)
  go_wp2_with fail
  refine cS2.o.mono ?_
  rintro e w7 ⟨rfl,o7⟩
  have O7:=aa (O6.o.trans' o7)
  clear o7 cS2
  have cC:=aa (MR.o▸Q8.o w7 O7.o)
  go_wp2_with fail
  try rw [show min (L:Int) 0=0 by omega]
  refine cC.o.mono ?_
  rintro e w9 ⟨rfl,vM,N9,D9⟩
  have HF:=aa (⟨vM,N9,D9⟩:∃ own',aN w9 own' c i W g u (s.bD 0)∧fT w7 own c i w9 own')
  clear N9 D9
  go_wp2_with fail
  go_end0
  obtain ⟨vM,N9,D9⟩:=HF.o
  exact ⟨rfl,vM,by rw [HR.o,MR.o];exact N9,(HN.o.qQ O7.o).trans D9⟩):p:=h
theorem Q9 {p:Prop}(h:p:=by
 rintro σ k o w' hkn hk hs1 hd ⟨hS1,hR,hcl⟩
 have hst:=steps.at_ (i:=k) (o:=o) (by rw [List.getElem?_take,if_pos hkn];exact hk)
 rw [Nat.zero_add] at hst
 have:=hst σ (bW l σ a l.length) w' hs1 hd hS1 (fun j v hj hv=>⟨hR j v hv,fun oj t hj' ht hlt=>vz hn hj' ht hv hlt hj⟩) (fun t ht=>jU fun j oj hj hd=>ht j oj hj hd) hcl
 refine wpOp_mono ?_ this
 rintro a' w'' ⟨v,rfl,hRk,hT,hS2⟩
 refine ⟨v,rfl,hS2,?_,?_⟩
 ·intro j u hj
  unfold upd at hj
  split at hj
  ·rename_i e;subst e;cases hj;exact hRk
  ·exact hs.st j u w' w'' hT (hR j u hj)
 ·intro j oj hj hsj e he hb
  have hon:(σ e.on).isSome=true:=by
   unfold upd at hsj
   split at hsj
   ·rename_i h
    subst h
    rw [hk] at hj
    cases hj
    exact hd e he hb
   ·exact hcl j oj hj hsj e he hb
  unfold upd
  split
  ·rfl
  ·exact hon):p:=h
theorem Ur {p:Prop}(h:p:=by
 obtain ⟨k,V1,hk,rfl,hw1,hF,hnew⟩:=hrel
 by_cases hlt:k < n
 ·obtain ⟨x,hx⟩:∃ x,ns[k]?=some x:=⟨ns[k]'MQ,List.getElem?_eq_getElem _⟩
  have hA1:aP wr A ns:=hA.fr hF (fun hne a e=>HO.o (by rintro rfl;simp at hx) a e)
  obtain ⟨b,o,rfl,hbb,g0⟩:=hA1.at_ (k:=k) MQ
  rw [hx] at g0
  simp only [Option.getD_some] at g0
  obtain ⟨x1,x2⟩:=H0.o x (List.mem_of_getElem? hx)
  have hts:=aa (Dp ns hx)
  obtain ⟨y,rfl⟩:=Int.eq_ofNat_of_zero_le x1
  have hwr:IntKind.u64.wrap (y:Int)=y:=nS _ af
  have hlen:(bs ++ bX (ns.take k)).length≤10000000:=by
   have h1:=mZ (ns.take k) (fun x hx=>by have:=H0.o x (List.mem_of_mem_take hx);omega)
   have h2:(ns.take k).length≤k:=List.length_take_le _ _
   rw [List.length_append];omega
  have cN:=aa (I5 g y V1 _ hlen af wr hw1)
  have HF:=aa hF
  have HN:=aa hnew
  clear hA1 hx hw1 hF hnew hlen
  go_wp2_with (go_at_call 167;refine cN.o.mono ?_;rintro e w1 ⟨rfl,hW⟩)
  have hfin:=aa (hW.from_ HF.o HN.o)
  obtain ⟨V2,a2,f2,n2⟩:=hfin.o
  have A2:=aa (show jw w1 g V2 (bs ++ bX (ns.take (k + 1))) by rw [hts.o,← List.append_assoc];exact a2)
  have F2:=aa f2
  have N2:=aa n2
  clear a2 f2 n2 hW
  go_roundw
  case rel=>exact ⟨k + 1,V2,af,oP,A2.o,F2.o,N2.o⟩
  case measure=>simp [intOf];omega
 ·have e:ns.take k=ns:=List.take_of_length_le I4
  rw [e] at hw1
  have hfin:=aa (show Wrote w g V (bs ++ bX ns) wr from ⟨V1,hw1,hF,hnew⟩)
  clear e hw1 hF hnew
  go_wp2
  go_end0
  exact ⟨rfl,hfin.o⟩):p:=h
theorem Us {p:Prop}(h:p:=by
 refine .cons (zp [] [(3,w.heap.size)] (fun d E w' hk hda hS hc hf=>by rintro  e3;obtain ⟨⟨s0,s1,s2,s3,s4,s5⟩,l9⟩:=hX.o _ hS;have t0:=Ut.o _ hS;exact ⟨_,by go_simp,rfl⟩)) ?_
 refine .cons (zp [] [(0,g)]) <|.cons (zp [] [(3,w.heap.size)]) ?_
 refine .cons (zp [(2,22)] [] (fun d E w' hk hda hS hc hf=>by rintro _ q2 rfl e22 ;obtain ⟨⟨s0,s1,s2,s3,s4,s5⟩,l9⟩:=hX.o _ hS;have t0:=Ut.o _ hS;exact ⟨_,by go_simp,rfl⟩)) ?_
 refine .cons (zp [(1,21)] []) <|.cons (zp [(4,24)] []) ?_
 refine .cons (zp [(5,25),(3,23)] [] (fun d E w' hk hda hS hc hf=>by rintro _ q5 rfl e25 _ q3 rfl e23 ;obtain ⟨⟨s0,s1,s2,s3,s4,s5⟩,l9⟩:=hX.o _ hS;have t0:=Ut.o _ hS;exact ⟨_,by go_simp,rfl⟩)) ?_
 refine .cons (zp [(6,26)] [] (fun d E w' hk hda hS hc hf=>by rintro _ q6 rfl e26 ;obtain ⟨⟨s0,s1,s2,s3,s4,s5⟩,l9⟩:=hX.o _ hS;have t0:=Ut.o _ hS;exact ⟨_,by go_simp,rfl⟩)) ?_
 refine aH.cons (bP [(0,20),(7,27)] [] rfl rfl ay ay rfl ?_) ?_
 ·rintro d a w' hk hda hS _ q0 rfl e20 _ q7 rfl e27 
  first | refine Given.nil (aU.nil ?_) | refine aU.nil ?_
  refine fI 83 _ func83 ay ay _ _ iW [.agg #[zi c,zi s,zi k,zi i,zi m,.string dt],zi sq] zap (cN.o _) ?_
  rintro e w1 ⟨rfl,hb⟩
  exact ⟨_,rfl,_,rfl,rfl,hb,hS.trans' hb⟩
 refine .cons (zp [(8,28)] []) <|.cons (zp [(9,29)] []) ?_
 exact aH.nil):p:=h
theorem I6 {p:Prop}(h:p:=by
 have eb:ev=-1∧h'=h:=hbad.o af
 obtain ⟨rfl,rfl⟩:=eb
 clear hw1
 go_enter func135,ntmps135
 go_wp2_with (go_at_call 185;refine cL.o.mono ?_;rintro e w1 ⟨rfl,o1⟩)
 go_ret
 exact ⟨rfl,⟨F,HH.o.old (o1.trans' (((Old.refl' _).ag _))),fun k h=>.inl h⟩,Fr.aj (o1.trans' (((Old.refl' _).ag _)))⟩):p:=h
theorem MS {p:Prop}(h:p:=by
 go_enter func81,ntmps81
 go_wp2_with (go_at_call 140;first | ((with_reducible refine (W1.o _).mono ?_);rintro e w1 ⟨rfl,rfl⟩) | ((with_reducible refine (W2.o _).mono ?_);rintro e w1 ⟨rfl,rfl⟩) | ((with_reducible refine (W3.o _).mono ?_);rintro e w1 ⟨rfl,rfl⟩) | ((with_reducible refine (W4.o _).mono ?_);rintro e w1 ⟨rfl,rfl⟩))
 all_goals go_ret
 all_goals exact ⟨by rw [hE.o];rfl,hO.o⟩):p:=h
theorem Uu {p:Prop}(h:p:=by
 refine .cons (sp [] [(0,g)] ?_) <| .cons (sp [(0,6)] [] ?_) <| .cons (sp [(1,7)] [] ?_) <| .cons (sp [(2,8)] [] ?_) <| .cons (sp [(3,9)] [] ?_) <| .cons (sp [(4,10)] [] ?_) <| .cons (sp [] [(3,w1.heap.size)] ?_) <| .cons (sp [(6,12)] [] ?_) <| .cons (sp [(7,13)] [] ?_) <| .cons (sp [(5,11),(8,14)] [] ?_) <| .cons (sp [(9,15)] [] ?_) <| .cons (fC 10 16 false [] [(3,w1.heap.size)] ?_) <| .cons (IU 10 16 false 179 func179 [(11,17)] [] _ ?c12) <| .cons (fC 10 16 false [] [(0,g)] ?_) <| .cons (fC 10 16 false [(13,19)] [] ?_) <| .cons (fC 10 16 false [(14,20)] [] ?_) <| .cons (fC 10 16 false [(15,21)] [] ?_) <| .cons (fC 10 16 false [(12,18),(16,22)] [] ?_) <| .cons (sp [(10,16),(17,23)] [] ?_) <| .nil
 case c12=>
  intro E w' hS hc
  rintro e17
  exact ⟨_,jQ,.of (cT.o w' (ah.bA (bF HO.o hS))) fun e w2 h=>⟨_,h.1,rfl,h.2⟩⟩
 all_goals
  intro E w' hS hc hf
  obtain ⟨u0,u1,u2,u3,u4,u5,u6,u8,u9,dF,dD,dK,eu,aX,ug⟩:=(H3.o.old (O2.o.trans' hS)).c HS.o
  obtain ⟨x0,x1,x2,x3,x4⟩:=bk2 (X0.o.old hS)
  rw [HJE.o] at u6
  repeat intro _
  exact ⟨_,dP,rfl⟩):p:=h
theorem Uv {p:Prop}(h:p:=by
 obtain rfl:j=0:=af
 have hIr:aP wr A [(i:Int)]:=HI6.o.old hR
 obtain ⟨b0,o,rfl,hbb,g0⟩:=hIr.at_ (k:=0) bE
 simp only [Nat.add_zero,List.getElem?_cons_zero,Option.getD_some] at g0
 obtain ⟨x0,x1,x2,x3,x4⟩:=bk2 (X6.o.old hR)
 obtain ⟨u0,u1,u2,u3,u4,u5,u6,u8,u9,dF,dD,dK,eu,aX,ug⟩:=(H3.o.old (O6.o.trans' hR)).c HS.o
 clear u0 u2 u3 u4 u5 u6 u8 u9 dF dD dK aX hIr
 have cT:=aa (cTh.o wr (O6.o.trans' hR))
 have hlt':(0:Int) < (1:Int):=af
 have HR:=aa hR
 clear hR
 go_wp2_with fail
 refine cT.o.mono ?_
 rintro e w7 ⟨rfl,rfl⟩
 go_wp2_with fail
 refine (yL ke (some ⟨b0,o,none⟩) 1 q [(i:Int)] i rfl af rfl _ (HI6.o.old HR.o)).mono ?_
 rintro e w8 ⟨rfl,o8⟩
 have YX:=aa (HR.o.trans' o8)
 obtain ⟨u0,u1,u2,u3,u4,u5,u6,u8,u9,dF,dD,dK,eu,aX,ug⟩:=(H3.o.old (O6.o.trans' YX.o)).c HS.o
 clear u0 u2 u3 u4 u5 u6 u8 u9 dF dD dK eu aX x0 x1 x2 x3 x4 o8 g0 hbb
 go_wp2_with fail
 go_roundw
 case rel=>exact ⟨rfl,rfl,rfl,1,af,oP,YX.o⟩
 case measure=>simp [intOf]):p:=h
theorem Uw {p:Prop}(h:p:=by
 have MR:=aa (show s.oW=(L:Int) by rw [Gs.o,if_neg hj0])
 clear Gs
 have cL:=aa (cLen.o w5 O5.o)
 obtain ⟨u0,u1,u2,u3,u4,u5,u6,u8,u9,dF,dD,dK,eu,aX,ug⟩:=(H3.o.old O5.o).c HS.o
 clear u0 u1 u2 u3 u4 u6 u8 u9 dF dD dK eu aX
 go_wp2_with fail
 refine cL.o.mono ?_
 rintro e w6 ⟨rfl,rfl⟩
 have PY:=aa (cJ.o w5 O5.o)
 go_wp2_with fail
 refine PY.o.mono ?_
 rintro e w6 ⟨rfl,o6⟩
 have O6:=aa (O5.o.trans' o6)
 clear o6 cL PY u5 ug
 have hjo:¬ 0≤jo:=af
 have cC:=aa (MR.o▸Q8.o w6 O6.o)
 go_wp2_with fail
 refine cC.o.mono ?_
 rintro e w9 ⟨rfl,vM,N9,D9⟩
 have HF:=aa (⟨vM,N9,D9⟩:∃ own',aN w9 own' c i W g u (s.bD (L:Int))∧fT w6 own c i w9 own')
 clear N9 D9
 go_wp2_with fail
 go_end0
 obtain ⟨vM,N9,D9⟩:=HF.o
 exact ⟨rfl,vM,by rw [HR.o,MR.o];exact N9,(HN.o.qQ O6.o).trans D9⟩):p:=h
theorem Ux {p:Prop}(h:p:=by
 refine .cons (sp [] [(0,g)] ?_) <| .cons (sp [(0,9)] [] ?_) <| .cons (sp [(1,10)] [] ?_) <| .cons (sp [(2,11)] [] ?_) <| .cons (sp [(3,12)] [] ?_) <| .cons (sp [(4,13)] [] ?_) <| .cons (fC 5 14 false [] [(2,w1.heap.size)] ?_) <| .cons (IU 5 14 false 179 func179 [(6,15)] [] _ ?c7) <| .cons (fC 5 14 false [] [(0,g)] ?_) <| .cons (fC 5 14 false [(8,17)] [] ?_) <| .cons (fC 5 14 false [(9,18)] [] ?_) <| .cons (fC 5 14 false [(10,19)] [] ?_) <| .cons (fC 5 14 false [(7,16),(11,20)] [] ?_) <| .cons (sp [(5,14),(12,21)] [] ?_) <| .nil
 case c7=>
  intro E w' hS hc
  rintro e15
  exact ⟨_,jQ,.of (cT.o w' A q (ah.bA (bF HO.o hS))) fun e w2 h=>⟨_,h.1,rfl,h.2⟩⟩
 all_goals
  intro E w' hS hc hf
  obtain ⟨u0,u1,u2,u3,u4,u5,u6,u8,u9,dF,dD,dK,eu,aX,ug⟩:=(H3.o.old (O2.o.trans' hS)).c HS.o
  obtain ⟨x0,x1,x2,x3,x4⟩:=bk2 (X0.o.old hS)
  rw [HU.o] at u2
  repeat intro _
  exact ⟨_,dP,rfl⟩):p:=h
theorem Gt {p:Prop}(h:p:=by
 obtain rfl:r=false:=by rw [← hr];exact decide_eq_false (by rintro ⟨⟨_,_⟩,⟨_,_⟩,_,_⟩;omega)
 clear hr
 go_enter func16,ntmps16
 go_wp2_with fail
 go_ret
 exact ⟨rfl,(Old.refl' w).ag _⟩):p:=h
theorem Uy {p:Prop}(h:p:=by
 refine .cons (sp [] [(0,g)] ?_) <| .cons (sp [(0,70)] [] ?_) <| .cons (sp [(1,71)] [] ?_) <| .cons (sp [(2,72)] [] ?_) <| .cons (sp [] [(5,w.heap.size)] ?_) <| .cons (sp [(4,74)] [] ?_) <| .cons (sp [(3,73),(5,75)] [] ?c6) <| .cons (sp [(6,76)] [] ?_) <| .cons (sp [(7,69)] [] ?_) <| .cons (sp [(7,69)] [] ?_) <| .cons (sp [(8,77)] [] ?_) <| .cons (sp [(9,78)] [] ?_) <| .nil
 case c6=>
  intro E w' hS hc hf
  rintro ZP e75
  exact ⟨_,BD 102 (.tmp 73) (.tmp 75) true rfl (by rw [ZP,e75];exact HL.o w' hS),rfl⟩
 all_goals
  intro E w' hS hc hf
  obtain ⟨u0,u1,u2,u3,u4,u5,u6,u8,u9,dF,dD,dK,eu,aX,ug⟩:=(YY.o.old hS).c YZ.o
  clear u0 u1 u2 u3 u4 u5 u6 u8 u9 dD dK eu aX
  have x6:=(Dq.o.old hS).cell 6
  rw [Y6.o] at x6
  have xl:=(Dq.o.old hS).lt
  repeat intro _
  exact ⟨_,dP,rfl⟩):p:=h
theorem Uz {p:Prop}(h:p:=by
 refine .cons (sp [] [(0,g)] ?_) <| .cons (sc 56 func56 [(0,26)] [] _ ?c1) <| .cons (sc 195 func195 [(1,27)] [] _ ?c2) <| .cons (sp [] [(0,g)] ?_) <| .cons (sp [(3,29)] [] ?_) <| .cons (sp [(4,30)] [] ?_) <| .cons (sp [(5,31)] [] ?_) <| .cons (sp [(2,28),(6,32)] [] ?_) <| .nil
 case c1=>
  intro E w' hS hc
  rintro e26
  exact ⟨_,jQ,cK.o w' hS⟩
 case c2=>
  intro E w' hS hc
  rintro _ ⟨A1,q1,rfl,ho1⟩ e27
  exact ⟨_,jQ,.of (cH.o w' A1 q1 (ah.bA ho1)) fun e w2 h=>⟨_,h.1,rfl,h.2⟩⟩
 all_goals
  intro E w' hS hc hf
  obtain ⟨u0,u1,u2,u3,u4,u5,u6,u8,u9,dF,dD,dK,eu,aX,ug⟩:=(UA.o.old hS).c UB.o
  repeat intro _
  exact ⟨_,dP,rfl⟩):p:=h
theorem UC {p:Prop}(h:p:=by
 rintro σ k o w' hkt hkf hk hs1 hd hcl ⟨hS1,hR⟩
 have hst:=steps.at_ hk
 rw [Nat.zero_add] at hst
 have hst':=hst.resolve_left (by simp [hkf,hkt])
 have:=hst' σ (bW l σ a l.length) w' hs1 hd hS1 (fun j v hj hv=>⟨hR j v hv,fun oj t hj' ht hlt=>vz hn hj' ht hv hlt hj⟩) (fun t ht=>jU fun j oj hj hd=>ht j oj hj hd) hcl
 refine wpOp_mono ?_ this
 rintro a' w'' ⟨v,rfl,hRk,hT,hS2⟩
 refine ⟨v,rfl,hS2,?_⟩
 intro j u hj
 unfold upd at hj
 split at hj
 ·rename_i e;subst e;cases hj;exact hRk
 ·exact hs.st j u w' w'' hT (hR j u hj)):p:=h
theorem zR {p:Prop}(h:p:=by
 have h:=hok
 simp only [fU,Bool.and_eq_true] at h
 exact oZ h.1):p:=h
theorem MU {p:Prop}(h:p:=by
 by_cases hki:k=i
 ·subst hki
  rw [Array.getElem?_setIfInBounds]
  simp [upd,hsz,hk]
 ·rw [Array.getElem?_setIfInBounds_ne (Ne.symm hki),hls k hk]
  simp [upd,hki]):p:=h
theorem UD {p:Prop}(h:p:=by
 have h:=List.all_eq_true.1 hfo k hk
 simp only [Bool.and_eq_true,Bool.not_eq_true',List.contains_eq_mem,decide_eq_false_iff_not] at h
 refine ⟨h.1.1,?_,?_⟩
 ·have h2:=h.1.2
  cases hv:oQ Rs k with
  | val v=>exact ⟨v,rfl⟩
  | rel r=>rw [hv] at h2;simp [I7] at h2
 ·have h2:=h.2
  cases ho:l[k]? with
  | none=>rw [ho] at h2;cases h2
  | some o=>
   rw [ho] at h2
   refine ⟨o,rfl,fun e he hb=>?_⟩
   have:=Array.all_eq_true'.1 h2 e he
   simpa [hb] using this):p:=h
theorem UE {p:Prop}(h:p:=by
 rintro ⟨hi,h1,o,ho,h2⟩
 refine ⟨hi,?_,?_⟩
 ·rw [Array.getD_eq_getD_getElem?,hls i hi,h1];rfl
 ·rw [ho]
  simp only [Option.map_some,Option.getD_some,Array.all_eq_true']
  intro e he
  cases hb:Region.binds .any e with
  | false=>rfl
  | true=>
   have hlt:e.on < i:=by
    have:=hok.2 i hi
    simp only [ho,Array.all_eq_true'] at this
    simpa [hb] using this e he
   simp only [Bool.not_true,Bool.false_or]
   exact (hg e.on).2 ⟨af,h2 e he hb⟩):p:=h
theorem UF {p:Prop}(h:p:=by
 subst e
 have hm:m=s'.n:=by
  have:(s.nodes.set i s'.n)[i]?=some m:=hj
  rw [List.getElem?_set_self hlt] at this
  exact (Option.some.inj this).symm
 subst hm
 have e2:WV.ns { s with nodes:=s.nodes.set i s'.n,bO:=s'.bO,bY:=s'.bY,aA:=s'.aA } i s'.n=s':=by
  unfold WV.ns
  show (⟨s'.n,s'.bO,s'.bY,s'.aA,s.clocks[i]?.getD 0,s.conf⟩:NS)=s'
  rw [← hc,← zS]
 rw [e2]
 exact N'):p:=h
theorem UG {p:Prop}(h:p:=by
 rintro d a w' hk hda hS _ UH rfl e50 
 first | refine Given.nil (aU.nil ?_) | refine aU.nil ?_
 refine fI 185 _ func185 ay ay _ _ iW [av g 0] zap (cL.o _ (OW.o.trans' hS)) ?_
 rintro e w1 ⟨rfl,hb⟩
 exact ⟨_,rfl,_,rfl,rfl,hb,hS.trans' hb⟩):p:=h
theorem Ra {p:Prop}(h:p:=by
 intro E w' hS hc
 rintro e38
 exact ⟨_,jQ,.of (HA.o w' hS) fun e w2 h=>by obtain ⟨A,c,h1,h2⟩:=h;exact ⟨_,h1,⟨A,c,rfl⟩,h2⟩⟩):p:=h
theorem UI {p:Prop}(h:p:=by
 rintro ⟨hi,h1,h2⟩
 have hl:=hls i hi
 rw [Array.getD_eq_getD_getElem?,hl] at h1
 refine ⟨hi,by simpa using h1,l[i],List.getElem?_eq_getElem hi,fun e he hb=>?_⟩
 rw [List.getElem?_eq_getElem hi] at h2
 simp only [Option.map_some,Option.getD_some,Array.all_eq_true'] at h2
 have h3:=h2 e he
 simp only [hb,Bool.not_true,Bool.false_or] at h3
 exact ((hg e.on).1 h3).2):p:=h
theorem UJ {p:Prop}(h:p:=by
 obtain ⟨ho,hgw,hWa,hlt⟩:=HN4.o
 have hf:Fr (fun k=>k=g) w9 (setAt w9 g 13 [av gw 0]):=Fr.setAt (S:=fun k=>k=g) (.inr rfl) _ _ 13 (Fr.refl (fun k=>k=g) w9)
 refine ⟨gw,hgw,hWa.fr hf (fun e=>by have:=rM.o.lt;omega),TR.o.setAt _ 13,(Fr.aj ho).trans hf,Nat.lt_of_lt_of_le hlt hf.size⟩):p:=h
theorem MV {p:Prop}(h:p:=by
 subst e
 rw [HX.o] at hy
 injection hy with hy
 subst hy
 exact HBAD.o):p:=h
theorem Rb {p:Prop}(h:p:=by
 intro E w' hS hc hf
 rintro e26
 exact ⟨_,eH 23 (.tmp 26) rfl gP 1 _ _ (by assumption) (Y7.o w' hS) underlying23 rfl I8,rfl⟩):p:=h
theorem UK {p:Prop}(h:p:=by
 intro jA w9 nT
 iterate 14 refine Ends.eqv _ _ rfl (fun _ h=>h) ?_
 refine Ends.nil ?_
 simp only [aC,ax,List.set_cons_zero,List.set_cons_succ]
 have O9:=aa (O2.o.trans' nT)
 go_wp2
 go_end0
 exact ⟨rfl,own,by rw [HR.o];exact HN.o.old O9.o,HN.o.qQ O9.o⟩):p:=h
theorem Rc {p:Prop}(h:p:=by
 intro E w' hS hc
 rintro e27 e31
 exact ⟨_,jQ,.of (MW w') fun e w2 h=>⟨_,h.1,rfl,h.2⟩⟩):p:=h
theorem Re {p:Prop}(h:p:=by
 unfold upd at hks
 split at hks
 ·rename_i e1;subst e1;rw [hi] at hk;cases hk;exact hd e he hb
 ·exact hcl k ok hk hks e he hb):p:=h
theorem UL {p:Prop}(h:p:=by
 rcases e with e | e | e
 ·exact aK b3 b2 aW (e▸hk)
 ·subst e
  rcases hrb with e2 | e2
  ·have:=lT c _ _ ((b4 k hk).symm.trans e2);omega
  ·exact ni k 0 e2 (b4 k hk)
 ·have:=lT c _ _ ((b4 k hk).symm.trans e);omega):p:=h
theorem UM {p:Prop}(h:p:=by
 intro jA w9 nT
 iterate 28 refine Ends.eqv _ _ rfl (fun _ h=>h) ?_
 refine Ends.nil ?_
 simp only [aC,ax,List.set_cons_zero,List.set_cons_succ]
 have O9:=aa nT
 clear nT
 go_wp2
 go_ret2
 exact ⟨rfl,HH.o.old O9.o,Fr.aj O9.o⟩):p:=h
theorem UN {p:Prop}(h:p:=by
 intro E w' hS hc hf
 rintro e1
 have x0:=(Dq.o.fr hS HTN.o).cell 0
 have xl:=(Dq.o.fr hS HTN.o).lt
 simp only [List.getElem?_toArray,List.getElem?_cons_zero] at x0
 exact ⟨_,dP,rfl⟩):p:=h
theorem UO {p:Prop}(h:p:=by
 intro jA w9 nT
 iterate 19 refine Ends.eqv _ _ rfl (fun _ h=>h) ?_
 refine Ends.nil ?_
 simp only [aC,ax,List.set_cons_zero,List.set_cons_succ]
 go_wp2_with fail
 go_ret
 exact ⟨rfl,O2.o.trans' nT⟩):p:=h
theorem UQ {p:Prop}(h:p:=by
 have h1:=hall e he hb
 have h0:=(mem_ready.1 hr).1
 rw [heq] at h1
 rcases Nat.lt_or_ge i listed.size with h' | h'
 ·simp [h'] at h0 h1;rw [h0] at h1;cases h1
 ·simp [Array.getElem?_eq_none h'] at h1):p:=h
theorem UR {p:Prop}(h:p:=by
 refine aF.kG (k:=k + 12) (aF.bJ (aF.others (k:=k + 13) ?_ _)) _ _
 exact ⟨h2.conf,h2.now,h2.acc,h2.log,h2.join,h2.disk,h2.junk,h2.hold,h2.gr,h2.wa,h2.hd,h2.rf,h2.seen,h2.p,h2.bO,h2.aA,h2.last,h2.well⟩):p:=h
theorem Rf {p:Prop}(h:p:=by
 split at h
 ·simp at h;omega
 ·split at h
  ·simp at h;omega
  ·simp at h;omega):p:=h
theorem US {p:Prop}(h:p:=by
 unfold over
 have e:(xs.take (i + 1)).length=i + 1:=by rw [List.length_take];omega
 rw [List.take_append_of_le_length af,List.take_take,Nat.min_eq_left af]
 congr 2
 exact List.drop_left' e):p:=h
theorem Rh {p:Prop}(h:p:=by
 go_enter func140,ntmps140
 go_wp2
 go_ret
 exact ⟨by first | (simp;done) | (simp;omega),rfl⟩):p:=h
theorem UT {p:Prop}(h:p:=by
 intro E w' hS hc
 rintro e39 e41 e42
 exact ⟨_,jQ,.of (cT.o w' hS) fun e w2 h=>⟨_,h.1,rfl,h.2▸Old.refl' _⟩⟩):p:=h
theorem Ri {p:Prop}(h:p:=by
 rcases h2.2.2 with e | e
 ·exact .inl (e▸hb)
 ·rw [hb] at e;injection e with e;exact .inr e.symm):p:=h
theorem UU {p:Prop}(h:p:=by
 rcases Nat.eq_zero_or_pos n with h | h
 ·exact h
 ·obtain ⟨b,o,e,_⟩:=hV (by intro e;have h1:bs=[]:=(by simpa using e);have h2:=HL.o;rw [h1] at h2;simp at h2;omega)
  cases e):p:=h
theorem Rj {p:Prop}(h:p:=by
 conv=>lhs;rw [← List.take_append_drop n l]
 exact BF (by rw [hlt];exact Nat.le_refl _)):p:=h
theorem UW {p:Prop}(h:p:=by
 intro E w' hS hc
 rintro e17 e19 e20
 exact ⟨_,jQ,.of (cT.o w' hS) fun e w2 h=>⟨_,h.1,rfl,h.2▸Old.refl' _⟩⟩):p:=h
theorem MX {p:Prop}(h:p:=by
 induction k with
 | zero=>rfl
 | succ k ih=>unfold bW;exact ih):p:=h
theorem UX {p:Prop}(h:p:=by
 refine h.old.iE hf fun b hb=>?_
 rcases hb with rfl | rfl | hb
 ·exact h.ge Y8
 ·rcases hrb with e | e
  ·exact h.ge e
  ·exact Nat.le_trans h.old.size e
 ·exact h.ge hb):p:=h
theorem Rk {p:Prop}(h:p:=by
 intro E w' hS hc hf
 rintro _ ⟨A9,c9,rfl⟩ e39
 exact ⟨_,dP,rfl⟩):p:=h
theorem UY {p:Prop}(h:p:=by
 unfold over
 have hd:(xs ++ [y]).drop (i + 1 + (xs.drop i).length)=[]:=List.drop_of_length_le jR
 rw [hd,List.append_nil,List.take_append_of_le_length af]):p:=h
theorem UZ {p:Prop}(h:p:=by
 intro E w' hS hc
 rintro e40
 exact ⟨_,jQ,.of (cN.o w' hS) fun e w2 h=>⟨_,h.1,rfl,h.2⟩⟩):p:=h
theorem U1 {p:Prop}(h:p:=by
 unfold over
 have e:(xs.take i).length=i:=by rw [List.length_take];omega
 rw [List.take_left' e,List.drop_append,List.drop_of_length_le jR,e]
 simp
 omega):p:=h
theorem U2 {p:Prop}(h:p:=by
 intro E w' hS hc
 rintro e18
 exact ⟨_,jQ,.of (cN.o w' hS) fun e w2 h=>⟨_,h.1,rfl,h.2⟩⟩):p:=h
theorem U3 {p:Prop}(h:p:=by
 unfold nU at h
 split at h
 ·cases hv:oQ Rs k with
  | val x=>rw [hv] at h;injection h with h;rw [h]
  | rel r=>rw [hv] at h;cases h
 ·cases h):p:=h
theorem U4 {p:Prop}(h:p:=by
 rw [hwz,Rl.o]
 exact ⟨ownB,(N9.o.nV MC.o 0 _).nV MC.o 1 _,(D9.o.nV (Nat.le_refl _) 0 _).nV (Nat.le_refl _) 1 _⟩):p:=h
theorem U5 {p:Prop}(h:p:=by
 obtain rfl:k=n:=af
 have HA:=aa hA
 have HO:=aa hO
 clear hA hO
 go_wp2
 go_ret2
 exact ⟨_,rfl,Nat.le_refl _,HA.o,HO.o⟩):p:=h
theorem U6 {p:Prop}(h:p:=by
 obtain ⟨b',o',e1,hb',-⟩:=k1 (by simpa using hn)
 refine ⟨(k2 hn a e).1,?_⟩
 rw [e] at e1
 cases e1
 exact hb'):p:=h
theorem U7 {p:Prop}(h:p:=by
 have hm:(key,v0)∈es.toList.map (fun e=>(e.key,e.val)):=by rw [hL];simp
 obtain ⟨x,hx,e1⟩:=List.mem_map.1 hm
 exact absurd (Prod.mk.inj e1).1 (h2 x hx)):p:=h
theorem U8 {p:Prop}(h:p:=by
 intro E w' hS hc hf
 rintro _ ⟨A1,q1,rfl,ho1⟩ e19
 have f1:=qR (zi ke) (.slice A1 m q1)
 exact ⟨_,dP,rfl⟩):p:=h
theorem U9 {p:Prop}(h:p:=by
 have:M9.all (·.oneCell')=true:=by rw [hmc];exact pg ..
 intro v hv
 exact (Array.all_eq_true_iff_forall_mem.1 this) v (by simpa using hv)):p:=h
theorem Va {p:Prop}(h:p:=by
 rw [Array.getD_eq_getD_getElem?]
 by_cases hk:k < l.length
 ·rw [hls k hk];simp [hk]
 ·rw [Array.getElem?_eq_none af];simp [hk]):p:=h
theorem Vb {p:Prop}(h:p:=by
 cases hw:st.wait c with
 | none=>rw [hw] at h0;exact ⟨_,h0⟩
 | some q=>rw [hw] at h0;obtain ⟨b,h1,-,-⟩:=h0;exact ⟨_,h1⟩):p:=h
abbrev fM:=@List.set_cons_zero
abbrev fJ:=@List.set_cons_succ
abbrev iR:=@List.length_cons
abbrev jV:=@List.length_nil
abbrev gG:=@List.getElem?_eq_getElem
abbrev je:=@List.getElem?_cons_zero
abbrev nW:=@List.getElem?_cons_succ
abbrev BB:=@List.map_cons
abbrev IV:=@List.map_nil
abbrev iD:=@Nat.lt_of_lt_of_le
abbrev ic:=@Nat.le_trans
abbrev dN:=@Nat.le_refl
abbrev iZ:=@List.getElem?_toArray
abbrev ja:=@List.length_append
abbrev ME:=@List.getElem?_set_self
abbrev MF:=@List.getElem?_set_ne
abbrev EY:=@List.mem_of_getElem?
abbrev MG:=@List.take_succ_eq_append_getElem
abbrev BG:=@List.getElem?_append_left
abbrev Dr:=@List.getElem?_append_right
abbrev MY:=@List.mem_append
abbrev Vd:=@List.mem_singleton
abbrev yh:=@List.not_mem_nil
abbrev Rm:=@List.length_set
abbrev jW:=@World.size_alloc
abbrev kP:=@IntWalk.i64_in
abbrev vB:=@List.length_take
abbrev yj:=@List.length_drop
abbrev ZQ:=@of_decide_eq_true
abbrev tF:=@List.mem_cons
abbrev ZR:=@List.setIfInBounds_toArray
abbrev mE:=@Nat.zero_add
abbrev I9:=@Nat.add_zero
abbrev Gu:=@Option.getD_some
abbrev MH:=@List.drop_succ_cons
abbrev Ja:=@List.drop_zero
abbrev qz:=@List.nil_append
abbrev xZ:=@List.cons_append
abbrev Jb:=@List.getElem?_eq_none
abbrev EZ:=@Int.toNat_natCast
abbrev MI:=@List.append_assoc
abbrev BH:=@List.map_append
abbrev kE:=@Bool.and_eq_true
abbrev rJ:=@decide_eq_true_eq
abbrev ym:=@Nat.le_succ
theorem aR {α:Type} (a:α):∃ x,a=x:=⟨a,rfl⟩
theorem aa {p:Prop} (h:p):kN p:=h
structure Fr (S:Nat->Prop) (w w':World):Prop where
 os:w'.os=w.os
 tape:w'.tape=w.tape
 output:w'.output=w.output
 size:w.heap.size<=w'.heap.size
 block:∀ k,k < w.heap.size->¬ S k->w'.heap[k]?=w.heap[k]?
abbrev Old (w w':World):Prop:=Below w.heap.size w w'
section
variable {S T:Nat->Prop} {w w' w'':World}
theorem Fr.refl (S:Nat->Prop) (w:World):Fr S w w:=⟨rfl,rfl,rfl,dN _,fun _ _ _=>rfl⟩
theorem Fr.trans (h:Fr S w w') (k:Fr S w' w''):Fr S w w'':=
 ⟨k.os.trans h.os,k.tape.trans h.tape,k.output.trans h.output,ic h.size k.size,
  fun i d e=>(k.block i (iD d h.size) e).trans (h.block i d e)⟩
theorem Fr.mono (h:Fr S w w') (e:∀ k,k < w.heap.size->S k->T k):Fr T w w':=
 ⟨h.os,h.tape,h.output,h.size,fun i d f=>h.block i d fun j=>f (e i d j)⟩
theorem Fr.trans' (h:Fr S w w') (k:Fr T w' w'') (f:∀ k,k < w.heap.size->T k->S k):Fr S w w'':=
 ⟨k.os.trans h.os,k.tape.trans h.tape,k.output.trans h.output,ic h.size k.size,
  fun i d e=>(k.block i (iD d h.size) fun j=>e (f i d j)).trans (h.block i d e)⟩
theorem Fr.aj (h:Old w w'):Fr S w w':=⟨h.os,h.tape,h.output,h.size,fun i d _=>h.block i d⟩
theorem Fr.gU {row:Option Nat} (h:w.grownBy w' row) (f:∀ k,k < w.heap.size->row=some k->S k):Fr S w w':=
 ⟨h.os,h.tape,h.output,h.size,fun i d j=>h.block i d fun e=>j (f i d e.symm)⟩
theorem Fr.old (h:Fr (fun _=>False) w w'):Old w w':=⟨h.os,h.tape,h.output,h.size,fun i d=>h.block i d id⟩
theorem Fr.cell (h:Fr S w w') {p:Addr} (d:p.block < w.heap.size) (e:¬ S p.block):w'.cell? p=w.cell? p:=
 World.cell?_of_block (w:=w) (h.block p.block d e)
theorem Fr.frozen (h:Fr S w w') {p:Addr} (d:p.block < w.heap.size) (e:¬ S p.block):w'.frozen? p=w.frozen? p:=
 World.frozen?_of_block (w:=w) (h.block p.block d e)
theorem Fr.drew (h:Fr S w w'):Fr S w w'.drew:=⟨h.os,h.tape,h.output,h.size,h.block⟩
theorem Fr.drewN (h:Fr S w w') (n:Nat):Fr S w (w'.drewN n):=⟨h.os,h.tape,h.output,h.size,h.block⟩
theorem Fr.alloc (h:Fr S w w') (o:Obj):Fr S w (w'.alloc o):=
 ⟨h.os,h.tape,h.output,ic h.size bE,fun i d e=>(Below.heap_alloc w' o i (iD d h.size)).trans (h.block i d e)⟩
theorem Fr.setCell (h:Fr S w w') {p:Addr} (d:w.heap.size<=p.block∨S p.block) (u:Value):Fr S w (w'.setCell p u):=
 ⟨h.os,h.tape,h.output,by simpa [World.setCell] using h.size,fun i f e=>(Below.heap_setCell w' p u i (by
  rintro rfl
  rcases d with d | d
  ·omega
  ·exact e d)).trans (h.block i f e)⟩
theorem Old.refl' (w:World):Old w w:=Below.refl _ _
theorem Old.trans' (h:Old w w') (k:Old w' w''):Old w w'':=h.trans (k.mono h.size)
theorem Old.Rn (h:Old w w') (n:Nat):Old w (w'.drewN n):=⟨h.os,h.tape,h.output,h.size,h.block⟩
theorem Old.ag (h:Old w w') (o:Obj):Old w (w'.alloc o):=h.alloc h.size o
theorem Old.aJ (h:Old w w') {p:Addr} (d:w.heap.size<=p.block) (u:Value):Old w (w'.setCell p u):=h.setCell d u
theorem Old.drew' (h:Old w w'):Old w w'.drew:=h.drew
theorem Fa {W w1:World} (d:Old W w1):(∀ b o,b < W.heap.size->w1.cell? ⟨b,o,none⟩=W.cell? ⟨b,o,none⟩)/\(∀ b o,b < W.heap.size->w1.frozen? ⟨b,o,none⟩=W.frozen? ⟨b,o,none⟩):=
 ⟨fun b o h=>d.cell (p:=⟨b,o,none⟩) h,fun b o h=>d.frozen (p:=⟨b,o,none⟩) h⟩
end
theorem qT:({ data:=#[] }:ByteArray)=ByteArray.empty:=rfl
def ah (w:World) (A:Option Addr) (cs:List Value):Prop:=
 cs≠[]->∃ b o,A=some ⟨b,o,none⟩/\b < w.heap.size/\∀ k u,cs[k]?=some u->w.cell? ⟨b,o + k,none⟩=some u
def Off (S:Nat->Prop) (A:Option Addr):Prop:=∀ a,A=some a->¬ S a.block
section
variable {S:Nat->Prop} {w w':World} {A:Option Addr} {cs:List Value}
theorem ah.nil (w:World) (A:Option Addr):ah w A []:=fun h=>absurd rfl h
theorem ah.fr (h:ah w A cs) (d:Fr S w w') (i:cs≠[]->Off S A):ah w' A cs:=fun e=>by
 obtain ⟨b,o,rfl,f,j⟩:=h e
 exact ⟨b,o,rfl,iD f d.size,fun k u l=>(d.cell (p:=⟨b,o + k,none⟩) f (i e ⟨b,o,none⟩ rfl)).trans (j k u l)⟩
theorem ah.old (h:ah w A cs) (d:Old w w'):ah w' A cs:=
 h.fr (S:=fun _=>False) (Fr.aj d) (fun _ _ _ h=>h)
theorem ah.drew (h:ah w A cs):ah w.drew A cs:=h
theorem ah.drewN (h:ah w A cs) (n:Nat):ah (w.drewN n) A cs:=h
theorem ah.alloc (h:ah w A cs) (o:Obj):ah (w.alloc o) A cs:=h.old ((Old.refl' w).ag o)
theorem ah.take (h:ah w A cs) (n:Nat):ah w A (cs.take n):=fun f=>by
 obtain ⟨b,o,rfl,i,j⟩:=h (fun e=>f (by simp [e]))
 refine ⟨b,o,rfl,i,fun k u d=>j k u ?_⟩
 rw [List.getElem?_take] at d
 split at d
 ·exact d
 ·cases d
theorem ah.bH (h:ah w A cs) {p:Addr} (d:∀ a,A=some a->a.block≠p.block) (u:Value):ah (w.setCell p u) A cs:=
 h.fr (S:=fun k=>k=p.block) ((Fr.refl (fun k=>k=p.block) w).setCell (.inr rfl) u) (fun _ a e f=>d a e f)
theorem lS (b o j:Nat):(⟨b,o,none⟩:Addr).add j=⟨b,o + j,none⟩:=by
 by_cases h:j=0
 ·subst h;simp [Addr.add]
 ·simp [Addr.add,h]
theorem ah.news {f:Addr} (h:ah w (some f) cs):∀ j u,cs[j]?=some u->w.cell? (f.add j)=some u:=fun j u d=>by
 obtain ⟨b,o,e,_,i⟩:=h (fun e=>by rw [e] at d;simp at d)
 injection e with e
 subst e
 rw [lS]
 exact i j u d
theorem ah.bA {base:Nat} {e:TypeId} {size n c:Nat} (h:w.ownsRow base e size (.slice A n c) n cs):ah w A cs:=fun f=>by
 have i:=h
 rcases h with ⟨j,⟨_,h0⟩ | ⟨g,l,m,p,_,r,_⟩⟩
 ·subst h0;exact absurd (List.eq_nil_of_length_eq_zero (by simpa using j)) f
 ·have s:A=some ⟨g,0,none⟩:=by injection p
  subst s
  refine ⟨g,0,rfl,(Array.getElem?_eq_some_iff.1 r).1,fun k u x=>?_⟩
  have:=i.cells (g:=g) rfl k u x
  by_cases d:k=0
  ·subst d;simpa [Addr.add] using this
  ·simpa [Addr.add,d] using this
end
def Bk (w:World) (g:Nat) (t:TypeId) (cs:Array Value):Prop:=w.heap[g]?=some (.cells cs t (0,0))
section
variable {w w':World} {g:Nat} {t:TypeId} {cs:Array Value}
theorem Bk.lt (h:Bk w g t cs):g < w.heap.size:=(Array.getElem?_eq_some_iff.1 h).1
theorem Bk.cell (h:Bk w g t cs) (i:Nat):w.cell? ⟨g,i,none⟩=cs[i]?:=cell_of_row w g i cs t (0,0) h
theorem Bk.frozen (h:Bk w g t cs) (i:Nat):w.frozen? ⟨g,i,none⟩=false:=by
 unfold Bk at h
 simp [World.frozen?,h]
theorem Bk.new (w:World) (t:TypeId) (cs:Array Value):Bk (w.alloc (.cells cs t)) w.heap.size t cs:=heap_alloc_new w _
theorem Bk.drew (h:Bk w g t cs):Bk w.drew g t cs:=h
theorem Bk.alloc (h:Bk w g t cs) (o:Obj):Bk (w.alloc o) g t cs:=(Below.heap_alloc w o g h.lt).trans h
theorem Bk.bH (h:Bk w g t cs) (i:Nat) (u:Value):Bk (w.setCell ⟨g,i,none⟩ u) g t (cs.setIfInBounds i u):=by
 unfold Bk at h ⊢
 simp [World.setCell,Array.getElem?_modify,h]
theorem Bk.far (h:Bk w g t cs) {p:Addr} (d:g≠p.block) (u:Value):Bk (w.setCell p u) g t cs:=(Below.heap_setCell w p u g d).trans h
theorem Bk.fr {S:Nat->Prop} (h:Bk w g t cs) (d:Fr S w w') (e:¬ S g):Bk w' g t cs:=(d.block g h.lt e).trans h
theorem Bk.old (h:Bk w g t cs) (d:Old w w'):Bk w' g t cs:=(d.block g h.lt).trans h
theorem Bk.grown {row:Option Nat} (h:Bk w g t cs) (d:w.grownBy w' row) (e:some g≠row):Bk w' g t cs:=(d.block g h.lt e).trans h
theorem Bk.vC {f:Nat} {i:TypeId} {cs':Array Value} (h:Bk w g t cs) (d:Bk w f i cs') (e:t≠i):g≠f:=by
 rintro rfl
 unfold Bk at h d
 rw [h] at d
 injection d with d
 injection d with _ j
 exact e j
end
abbrev iF:=Bool×ByteArray
instance:Inhabited iF:=⟨(false,ByteArray.empty)⟩
def dm (vs:List iF):List Value:=vs.flatMap fun v=>[.bool v.1,.string v.2]
def lu (w:World) (A:Option Addr) (vs:List iF):Prop:=ah w A (dm vs)
def aP (w:World) (A:Option Addr) (ns:List Int):Prop:=ah w A (ns.map (.int .i64))
theorem kQ (d:List iF):(dm d).length=d.length * 2:=by
 induction d with
 | nil=>rfl
 | cons v d ih=>simp [dm] at ih ⊢;omega
theorem uR (d e:List iF):dm (d ++ e)=dm d ++ dm e:=by simp [dm]
theorem zT (d:List iF):∀ k,k < d.length->(dm d)[k * 2]?=some (.bool (d[k]?.getD default).1)/\(dm d)[k * 2 + 1]?=some (.string (d[k]?.getD default).2):=by
 induction d with
 | nil=>intro k h;simp at h
 | cons v d ih=>
  intro k f
  cases k with
  | zero=>simp [dm]
  | succ k=>
   have:=ih k (by simpa using f)
   have e:dm (v :: d)=.bool v.1 :: .string v.2 :: dm d:=rfl
   rw [e,show (k + 1) * 2=k * 2 + 1 + 1 from by omega]
   simpa using this
theorem zU (e:List iF):∀ u∈dm e,u.oneCell'=true:=by
 intro u d
 simp only [dm,List.mem_flatMap] at d
 obtain ⟨v,_,h⟩:=d
 simp at h
 rcases h with rfl | rfl <;> rfl
theorem lu.at_ {w:World} {A:Option Addr} {d:List iF} (h:lu w A d) {k:Nat} (i:k < d.length) :
 ∃ b o,A=some ⟨b,o,none⟩/\b < w.heap.size/\w.cell? ⟨b,o + k * 2,none⟩=some (.bool (d[k]?.getD default).1)/\w.cell? ⟨b,o + k * 2 + 1,none⟩=some (.string (d[k]?.getD default).2):=by
 obtain ⟨b,o,rfl,j,f⟩:=h (fun e=>by have:=kQ d;rw [e] at this;simp at this;omega)
 obtain ⟨l,m⟩:=zT d k i
 exact ⟨b,o,rfl,j,f _ _ l,f _ _ m⟩
theorem aP.at_ {w:World} {A:Option Addr} {ns:List Int} (h:aP w A ns) {k:Nat} (d:k < ns.length) :
 ∃ b o,A=some ⟨b,o,none⟩/\b < w.heap.size/\w.cell? ⟨b,o + k,none⟩=some (zi (ns[k]?.getD 0)):=by
 obtain ⟨b,o,rfl,f,i⟩:=h (fun e=>by
  have:(ns.map (Value.int .i64)).length=0:=by rw [e];rfl
  simp at this;subst this;simp at d)
 refine ⟨b,o,rfl,f,i k _ ?_⟩
 rw [List.getElem?_map,gG d]
 rfl
theorem lu.alloc {w:World} {A:Option Addr} {d:List iF} (h:lu w A d) (o:Obj):lu (w.alloc o) A d:=ah.alloc h o
theorem aP.old {w w':World} {A:Option Addr} {ns:List Int} (h:aP w A ns) (d:Old w w'):aP w' A ns:=ah.old h d
theorem aP.alloc {w:World} {A:Option Addr} {ns:List Int} (h:aP w A ns) (o:Obj):aP (w.alloc o) A ns:=ah.alloc h o
theorem rO {a b:ByteArray}:a.toList=b.toList↔a=b:=by
 constructor
 ·intro h
  rw [ByteArray.toList_eq,ByteArray.toList_eq] at h
  cases a;cases b
  simp at h
  simp [h]
 ·intro h;rw [h]
end Go.Proofs.YthihpfpbiajddaaGreat
