/- Parts of the proof. -/
import Derived.Test.YthihpfpbiajddaaGreatHQWorldNobody18
import Derived.StillTailTactics
set_option maxRecDepth 100000
set_option maxHeartbeats 8000000
open Go.Proofs.Tryz
namespace Go.Proofs.YthihpfpbiajddaaGreat
open Go.RowKit
theorem dY.fB (a:dY):iq a.bytes:=by
 unfold dY.bytes
 refine (((sF (bC.fB _)).app (bU.fB _)).app (Cm _)).app ?_
 split
 ·exact (bU.fB _).app (sF (bC.fB _))
 ·exact iq.nil
section
variable {w W W':World} {g:Nat} {F:Nat->Prop} {dv dv':bB}
end
theorem Hr {x:Int} {l:List Int} (h:l.length<=4000):∃ f,frame (x :: l)=some f/\f.length=l.length + 7:=by
 obtain ⟨fr,d⟩:∃ fr,frame (x :: l)=some fr:=by
  unfold frame
  rw [if_neg (by simp only [iR];omega)]
  exact ⟨_,rfl⟩
 refine ⟨fr,d,?_⟩
 have e:=(pM (x :: l) (l.length + 1) _ bE af af rfl).symm.trans d
 injection e with e
 rw [<- e]
 simp
theorem bB.sK (d:bB) (x:Int) {l:List Int} (h:l.length<=4000):(d.put x l).b.length=d.b.length + l.length + 7:=by
 obtain ⟨f,e,i⟩:=Hr (x:=x) h
 unfold bB.put
 rw [e]
 simp [bB.app,bB.sync,i]
 omega
theorem KD (g:Nat) (F:Nat->Prop) (l:dW) (N:Nat) (i:l.qs.length=N) (d:N<=50000) (w:World) (h:eZ w g F l) :
 aS 65 #[g,zi 0,zi N] w fun e w'=>∃ A c,e=.returned (.slice A N c)/\w'.ownsRow w.heap.size 36 6 (.slice A N c) N (l.qs.flatMap aG.cells)/\Old w w':=by
 by_cases h0:N=0
 ·subst h0
  have m:l.qs=[]:=List.eq_nil_of_length_eq_zero i
  refine (zh g F l 0 ((0:Nat):Int) (.inr (.inl bE)) w h).mono ?_
  rintro e w' ⟨rfl,f⟩
  exact ⟨none,0,rfl,by rw [m];exact World.ownsRow_nil _ _ _ _,f⟩
 ·refine (Cq g F l N 0 N i af af d w h).mono ?_
  rintro e w' ⟨A,c,k,rfl,rfl,j,f⟩
  rw [Nat.sub_zero,Nat.min_self] at j
  refine ⟨A,c,by rw [Nat.sub_zero,Nat.min_self],?_,f⟩
  rwa [Ja,List.take_of_length_le af] at j
structure rz (c:dZ) (i:Nat):Prop where
 n1:1<=c.nodes
 n5:c.nodes<=5
 iN:i < c.nodes
 c4:c.au<=4
 q:1<=c.aI/\c.aI<=100
structure jT (n:Nat) (a:dY):Prop where
 n_:a.n=n
 may:a.known.may=true
 fits:a.known.fits n=true
 p_:jr a.bN.promised
 a_:jr a.bN.accepted
 c_:a.bN.chain.nodes.length<=5
 h_:a.bN.has=true->a.bN.chain.may=true
structure sM (c:dZ) (k:Nat) (l:dW):Prop where
 q:l.aI=c.aI
 few:l.qs.length + k<=50000
 kl:l.k<=l.qs.length
structure Cv (c:bC):Prop where
 len:c.nodes.length<=5
 m:∀ x∈c.nodes,0<=x/\x < 5
theorem uf:Cv .zero:=⟨Nat.zero_le _,fun x d=>by cases d⟩
theorem Cv.of {c:bC} (h:c.may=true):Cv c:=by
 simp only [bC.may,kE,rJ,List.all_eq_true] at h
 exact ⟨h.1.1.2,fun x d=>by have:=h.1.2 x d;omega⟩
structure rA (k:Nat) (d:bB):Prop where
 len:d.b.length + k * 16777216<=30000000000000
 yw:iq d.b
 sy:d.synced<=d.b.length
structure xh (n k:Nat) (h:kV):Prop where
 n_:h.n=n
 row:h.row.length<=4
 k_:k<=1000000000
 ask:∀ x∈h.row,(0<=x.asked/\x.asked<=1099511627776)/\0<=x.id/\x.id + k<=1125899906842624
structure Oj (n:Nat) (x:Dl):Prop where
 n_:x.n=n
 len:x.heard.length=5
 h_:∀ i,i < 5->0<=x.heard[i]?.getD 0/\x.heard[i]?.getD 0<=1099511627776
structure MOk (m:aO):Prop where
 n:0<=m.n/\m.n<=1099511627776
 c:0<=m.bD/\m.bD<=1099511627776
 j:0<=m.bL/\m.bL<=1099511627776
structure VZ (l:List aO):Prop where
 len:l.length=5
 m:∀ i,i < 5->MOk (l[i]?.getD .zero)
structure sN (n:Nat) (t:jF):Prop where
 n_:t.n=n
 c_:t.c.nodes.length<=5
 pn:t.promised.Nodup
 pr:∀ x∈t.promised,0<=x/\x < n
 sn:t.said.Nodup
 sr:∀ x∈t.said,0<=x/\x < n
 best:∀ x,t.best=some x->x.2.nodes.length<=5
structure KE (n:Nat) (x:uK):Prop where
 b:x.b.may=true
 t:sN n x.jS
 c:x.chain.nodes.length<=5
 s:0<=x.since/\x.since<=1099511627776
structure aF (s:NS) (i k:Nat):Prop where
 conf:rz s.conf i
 now:0<=s.now/\s.now<=1099511627776
 acc:jT s.conf.nodes s.n.kept.acc
 log:sM s.conf k s.n.kept.log
 join:Cv s.n.kept.join
 disk:rA k s.n.disk
 junk:0<=s.n.junk/\s.n.junk + k * 16777216<=1152921504606846976
 hold:xh s.conf.nodes k s.n.hold
 gr:s.n.grants.n=s.conf.nodes
 wa:Oj s.conf.nodes s.n.watch
 hd:VZ s.n.heard
 rf:s.n.refuse.length=5
 seen:jr s.n.seen
 p:∀ x,s.n.p=some x->KE s.conf.nodes x
 bO:s.bO.length + k * 65536<=1099511627776
 aA:(s.aA≠[]/\∀ x∈s.aA,x.may=true)/\s.aA.length + k<=1099511627776
 last:-4<=s.n.last/\s.n.last<=1099511627776
 well:0<=s.n.well/\s.n.well<=1099511627776
theorem eY:jr .zero:=by
 unfold jr bU.zero
 decide
theorem sN.ch {n:Nat} {t:jF} (h:sN n t):t.chain.nodes.length<=5:=by
 unfold jF.chain
 cases e:t.best with
 | none=>exact h.c_
 | some x=>exact h.best x e
theorem bC.sO {c:bC} (h:c.may=true):1<=c.nodes.length/\c.nodes.length<=5:=by
 simp [bC.may] at h;omega
theorem bC.Sg {c:bC} (h:c.may=true):0<=c.az/\c.az<=1073741824:=by
 simp [bC.may] at h;omega
theorem bU.AU {b:bU} (h:b.may=true):jr b:=by
 simp [bU.may] at h
 exact ⟨⟨af,af⟩,af,af⟩
theorem jT.len {n:Nat} {a:dY} (h:jT n a):a.known.nodes.length<=5:=(bC.sO h.may).2
section
variable {s:NS} {i k:Nat}
theorem sM.mono {c:dZ} {l:dW} {d:Nat} (h:sM c k l) (e:d<=k):sM c d l:=⟨h.q,ic (Nat.add_le_add_left e _) h.few,h.kl⟩
theorem rA.mono {d:bB} {e:Nat} (h:rA k d) (f:e<=k):rA e d:=⟨ic (Nat.add_le_add_left (Nat.mul_le_mul_right _ f) _) h.len,h.yw,h.sy⟩
theorem xh.mono {n:Nat} {x:kV} {d:Nat} (h:xh n k x) (e:d<=k):xh n d x:=⟨h.n_,h.row,ic e h.k_,fun y hy=>⟨(h.ask y hy).1,(h.ask y hy).2.1,by have:=(h.ask y hy).2.2;omega⟩⟩
theorem aF.mono {e:Nat} (h:aF s i k) (d:e<=k):aF s i e:=by
 have f:=h.junk
 have g:s.n.junk + (e:Int) * 16777216<=1152921504606846976:=by
  have:(e:Int) * 16777216<=(k:Int) * 16777216:=af
  omega
 exact ⟨h.conf,h.now,h.acc,h.log.mono d,h.join,h.disk.mono d,⟨f.1,g⟩,h.hold.mono d,h.gr,h.wa,h.hd,h.rf,h.seen,h.p,ic (Nat.add_le_add_left (Nat.mul_le_mul_right _ d) _) h.bO,⟨h.aA.1,ic (Nat.add_le_add_left d _) h.aA.2⟩,h.last,h.well⟩
theorem aF.way (h:aF s i (k + 1)) (d:Int) (m:aO):aF (s.way d m) i k:=by
 have e:=h.mono (ym k)
 have f:=h.bO
 exact ⟨e.conf,e.now,e.acc,e.log,e.join,e.disk,e.junk,e.hold,e.gr,e.wa,e.hd,e.rf,e.seen,e.p,by simp only [NS.way,ja,List.length_singleton];omega,e.aA,e.last,e.well⟩
theorem aF.xk (h:aF s i k) (b:List jy) (d:b.length + k * 65536<=1099511627776):aF { s with bO:=b } i k:=
 ⟨h.conf,h.now,h.acc,h.log,h.join,h.disk,h.junk,h.hold,h.gr,h.wa,h.hd,h.rf,h.seen,h.p,d,h.aA,h.last,h.well⟩
theorem Oj.hear {n:Nat} {x:Dl} (h:Oj n x) {now:Int} (g:0<=now/\now<=1099511627776) (j:Int):Oj n (x.hear now j):=by
 unfold Dl.hear
 split
 ·refine ⟨h.n_,by simp [h.len],fun i d=>?_⟩
  have f:=h.h_ i d
  simp only [List.getElem?_set,h.len]
  split
  ·rename_i e
   subst e
   rw [if_pos d]
   simp only [Gu]
   have:=h.h_ j.toNat d
   omega
  ·exact f
 ·exact h
theorem aF.hear (h:aF s i k) (j:Int):aF (s.aZ fun n=>{ n with watch:=n.watch.hear s.now j }) i k:=
 ⟨h.conf,h.now,h.acc,h.log,h.join,h.disk,h.junk,h.hold,h.gr,h.wa.hear h.now j,h.hd,h.rf,h.seen,h.p,h.bO,h.aA,h.last,h.well⟩
theorem Ht {l f:List Int} (h:iq l) (d:frame l=some f):iq f:=by
 by_cases g:l.length < 1∨4096 < l.length
 ·unfold frame at d
  rw [if_pos af] at d
  cases d
 ·rw [pM l l.length (crc l) rfl af af rfl] at d
  injection d with d
  subst d
  refine iq.app (fun c e=>?_) h
  simp only [tF,yh,or_false] at e
  rcases e with rfl | rfl | rfl | rfl | rfl | rfl <;> omega
structure Sm (n:Nat) (d:bB):Prop where
 len:d.b.length<=n
 yw:iq d.b
 sy:d.synced<=d.b.length
theorem Sm.put {n:Nat} {d:bB} (h:Sm n d) {x:Int} (j:0<=x/\x < 256) {l:List Int} (m:Nat) (p:l.length<=m) (r:m<=4000) (h8:iq l):Sm (n + m + 7) (d.put x l):=by
 refine ⟨by rw [bB.sK d x (by omega)];have:=h.len;omega,?_,?_⟩
 ·unfold bB.put
  cases e:frame (x :: l) with
  | none=>exact h.yw
  | some f=>exact h.yw.app (Ht (fun c g=>by
   rcases List.mem_cons.1 g with rfl | g
   ·exact j
   ·exact h8 c g) e)
 ·unfold bB.put bB.sync
  exact dN _
theorem rA.put {d:bB} (h:rA (k + 1) d) {x:Int} (f:0<=x/\x < 256) {l:List Int} (g:l.length<=4000) (h8:iq l):rA k (d.put x l):=by
 have e:=(Sm.put ⟨dN _,h.yw,h.sy⟩ f 4000 g (dN _) h8:Sm (d.b.length + 4000 + 7) _)
 exact ⟨by have:=h.len;have:=e.len;omega,e.yw,e.sy⟩
theorem Sm.fold:∀ (l:List aG) {n:Nat} {d:bB},Sm n d->Sm (n + 131 * l.length) (l.foldl (fun d q=>d.put 101 (qC q)) d)
 | [],_,_,h=>by simpa using h
 | q :: l,n,d,h=>by
  have f:=(h.put (x:=101) af 124 (nM q) af (pV q)).fold l
  have e:n + 124 + 7 + 131 * l.length=n + 131 * (q :: l).length:=by simp only [iR];omega
  rw [e] at f
  exact f
theorem rA.rewrite {d:bB} (h:rA (k + 1) d) (K:oN) (p:K.log.qs.length<=50000) (j:jr K.acc.bN.promised) (l:jr K.acc.bN.accepted):rA k (wZ d K):=by
 have h0:Sm 0 (d.cut 0):=by
  unfold bB.cut
  rw [if_pos (Nat.zero_le _)]
  exact ⟨bE,by simpa using iq.nil,Nat.zero_le _⟩
 have f:=h0.put (x:=97) af 300 (dY.eG ⟨j.1.2,j.2.2⟩ ⟨l.1.2,l.2.2⟩) af (dY.fB K.acc)
 have n:Sm 384 (match K.join.put with
  | some b=>((d.cut 0).put 97 K.acc.bytes).put 106 b
  | none=>(d.cut 0).put 97 K.acc.bytes):=by
  cases e:K.join.put with
  | none=>exact ⟨ic f.len af,f.yw,f.sy⟩
  | some b=>
   have m:K.join.bytes=b:=by simp [bC.bytes,e]
   exact f.put af 70 (m▸bC.eG _) af (m▸bC.fB _)
 have g:=n.fold K.log.qs
 have r:=h.len
 have e:wZ d K=K.log.qs.foldl (fun d q=>d.put 101 (qC q)) (match K.join.put with
  | some b=>((d.cut 0).put 97 K.acc.bytes).put 106 b
  | none=>(d.cut 0).put 97 K.acc.bytes):=rfl
 rw [e]
 exact ⟨by have:=g.len;omega,g.yw,g.sy⟩
def NS.AX (s:NS) (q:aG) (at_:Int):jy:=⟨s.n.self,s.conf.nodes + q.client,({ aO.zero with kind:=10,known:=s.known,q:=q,ans:=true,rep:=(if 1<=at_/\at_<=s.n.kept.log.k then s.n.kept.log.rep (at_ - 1).toNat else om.zero),at_:=at_ }:aO).bytes⟩
theorem NS.Cw (s:NS) (q:aG) (at_:Int):s.pU q at_={ s with bO:=s.bO ++ [s.AX q at_] }:=rfl
theorem NS.rC (s:NS) (f:Nat):∀ (l:List (aG×Nat)) (b:List jy),l.foldl (fun s x=>s.pU x.1 (f + 1 + x.2)) { s with bO:=b }={ s with bO:=b ++ l.map fun x=>s.AX x.1 (f + 1 + x.2) }
 | [],b=>by simp
 | x :: l,b=>by
  rw [List.foldl_cons]
  show List.foldl _ { s with bO:=b ++ [s.AX x.1 (f + 1 + x.2)] } l=_
  rw [NS.rC s f l]
  simp
theorem aF.AY (h:aF s i k) (l:dW) (d:sM s.conf k l):aF (s.aZ fun n=>{ n with kept:={ n.kept with log:=l } }) i k:=
 ⟨h.conf,h.now,h.acc,d,h.join,h.disk,h.junk,h.hold,h.gr,h.wa,h.hd,h.rf,h.seen,h.p,h.bO,h.aA,h.last,h.well⟩
theorem aF.bD (h:aF s i (k + 1)) (d:Int):aF (s.bD d) i k:=by
 unfold NS.bD
 simp only
 split
 ·exact h.mono (ym k)
 ·rename_i hd
  have f:aF (s.aZ fun n=>{ n with kept:={ n.kept with log:=s.n.kept.log.bD d.toNat } }) i (k + 1):=h.AY _ ⟨h.log.q,h.log.few,by show d.toNat<=s.n.kept.log.qs.length;omega⟩
  split
  ·have e:=NS.rC (s.aZ fun n=>{ n with kept:={ n.kept with log:=s.n.kept.log.bD d.toNat } }) s.n.kept.log.k (((s.n.kept.log.qs.drop s.n.kept.log.k).take (d.toNat - s.n.kept.log.k)).zipIdx) s.bO
   refine (show aF _ i k from ?_)
   have g:{ (s.aZ fun n=>{ n with kept:={ n.kept with log:=s.n.kept.log.bD d.toNat } }) with bO:=s.bO }=(s.aZ fun n=>{ n with kept:={ n.kept with log:=s.n.kept.log.bD d.toNat } }):=rfl
   rw [g] at e
   rw [e]
   refine (f.mono (ym k)).xk _ ?_
   have j:=h.bO
   have l:=h.log.few
   simp only [ja,List.length_map,List.length_zipIdx,vB,yj]
   omega
  ·exact f.mono (ym k)
theorem aF.advance (h:aF s i (k + 1)):aF s.advance i k:=by
 unfold NS.advance
 simp only
 split
 ·exact h.mono (ym k)
 ·split
  ·exact h.mono (ym k)
  ·exact h.bD _
theorem aF.oD (h:aF s i (k + 1)) {x:Int} (f:0<=x/\x < 256) {l:List Int} (e:l.length<=4000) (h8:iq l):aF (s.oD x l) i k:=by
 have d:=h.mono (ym k)
 have g:=h.junk
 have j:=bB.sK s.n.disk x e
 refine ⟨d.conf,d.now,d.acc,d.log,d.join,h.disk.put f e h8,?_,d.hold,d.gr,d.wa,d.hd,d.rf,d.seen,d.p,d.bO,d.aA,d.last,d.well⟩
 show 0<=s.n.junk + (((s.n.disk.put x l).b.length:Int) - s.n.disk.b.length)/\s.n.junk + (((s.n.disk.put x l).b.length:Int) - s.n.disk.b.length) + k * 16777216<=1152921504606846976
 rw [j]
 push_cast at g ⊢
 omega
theorem aF.rewrite (h:aF s i (k + 1)):aF s.rewrite i k:=by
 have d:=h.mono (ym k)
 have e:=h.junk
 exact ⟨d.conf,d.now,d.acc,d.log,d.join,h.disk.rewrite s.n.kept (by have:=h.log.few;omega) h.acc.p_ h.acc.a_,by show (0:Int)<=0/\(0:Int) + ((k:Int) * 16777216)<=1152921504606846976;push_cast at e;omega,d.hold,d.gr,d.wa,d.hd,d.rf,d.seen,d.p,d.bO,d.aA,d.last,d.well⟩
theorem jT.bytes {n:Nat} {a:dY} (h:jT n a):a.bytes.length<=300:=dY.eG ⟨h.p_.1.2,h.p_.2.2⟩ ⟨h.a_.1.2,h.a_.2.2⟩
theorem aF.bN (h:aF s i (k + 2)):aF s.bN i k:=by
 have d:aF (s.oD 97 s.n.kept.acc.bytes) i (k + 1):=h.oD (k:=k + 1) af (by have:=h.acc.bytes;omega) (dY.fB _)
 unfold NS.bN
 simp only
 split
 ·exact d.rewrite
 ·exact d.mono (ym k)
theorem jT.lY {n:Nat} {a:dY} (h:jT n a) (c:bC):jT n (a.lY c):=by
 unfold dY.lY
 split
 ·rename_i d
  have f:c.may=true/\c.fits a.n=true:=by
   unfold dY.Dx at d
   split at d
   ·cases d
   ·rename_i g
    simp only [Bool.or_eq_true,Bool.not_eq_true',not_or,Bool.not_eq_false] at g
    exact g
  exact ⟨h.n_,f.1,h.n_▸f.2,eY,eY,by show 0<=5;omega,(fun e=>by cases e)⟩
 ·exact h
theorem aF.lY (h:aF s i (k + 3)) (c:bC):aF (s.lY c) i k:=by
 have e:=h.mono (show k + 3<=k + 3 from dN _)
 unfold NS.lY
 simp only
 split
 ·exact h.mono af
 ·have d:aF (s.aZ fun n=>{ n with kept:={ n.kept with acc:=n.kept.acc.lY c },p:=none,well:=s.now }) i (k + 3):=
   ⟨e.conf,e.now,e.acc.lY c,e.log,e.join,e.disk,e.junk,e.hold,e.gr,e.wa,e.hd,e.rf,e.seen,(fun x f=>by cases f),e.bO,e.aA,e.last,e.now⟩
  split
  ·have j:=h.log.few
   have g:aF ((s.aZ fun n=>{ n with kept:={ n.kept with acc:=n.kept.acc.lY c },p:=none,well:=s.now }).aZ fun n=>{ n with kept:={ n.kept with log:=dW.new s.conf.aI,join:=.zero } }) i (k + 1):=by
    have d:=d.mono (show k + 1<=k + 3 by omega)
    exact ⟨d.conf,d.now,d.acc,⟨rfl,by show 0 + _<=_;omega,dN _⟩,uf,d.disk,d.junk,d.hold,d.gr,d.wa,d.hd,d.rf,d.seen,d.p,d.bO,d.aA,d.last,d.well⟩
   exact g.rewrite
  ·exact (d.bN (k:=k + 1)).advance
end
section
variable {w:World} {own:Nat->Tag} {c i W g:Nat} {u:bV} {s:NS}
theorem iB.cells {F K:Nat->Prop} {e:dZ} {l:List bC} (h:iB w F K W e u l) :
 w.cell? ⟨W,0,none⟩=some (zi e.nodes)/\w.cell? ⟨W,2,none⟩=some (zi e.aI)/\w.cell? ⟨W,5,none⟩=some (.slice u.uY u.dQ.length u.Se)/\w.cell? ⟨W,6,none⟩=some (av u.pb 0)/\W < w.heap.size:=by
 obtain ⟨rs,A,q,f,d,-⟩:=h.ex
 exact ⟨d.cell 0,d.cell 2,d.cell 5,d.cell 6,d.lt⟩
theorem aN.clock (N:aN w own c i W g u s):∃ b o,u.uY=some ⟨b,o,none⟩/\b < w.heap.size/\w.cell? ⟨b,o + i,none⟩=some (zi s.now)/\i < u.dQ.length/\u.dQ.length<=100:=by
 obtain ⟨p,f⟩:=N.ex
 have h:aP w u.uY u.dQ:=(f.at_ 12).1
 have d:=(List.getElem?_eq_some_iff.1 N.dQ.1).1
 obtain ⟨b,o,e,j,l⟩:=h.at_ (k:=i) d
 refine ⟨b,o,e,j,?_,d,N.dQ.2⟩
 rw [l,N.dQ.1]
 rfl
theorem Cx (N:aN w own c i W g u s) :
 aS 92 #[g] w fun e w'=>e=.returned (zi s.now)/\Old w w':=by
 obtain ⟨p,f⟩:=N.ex
 have d:aV w (fun k=>own k=bM c i 3) (fun k=>own k=aB) W g p s.n:=aV.ub (f.at_ 3)
 have h0:iB w (fun k=>own k=bM c i 0) (fun k=>own k=aB) W s.conf u s.aA:=f.at_ 0
 have n0:=d.cell 0 _ (fun _=>rfl)
 have l:=d.cell 1 _ (fun _=>rfl)
 have x:=d.Oi
 obtain ⟨-,-,h,-,y⟩:=h0.cells
 obtain ⟨b,o,j,z,c1,n,r⟩:=N.clock
 rw [N.self] at l
 rw [j] at h
 generalize u.dQ.length=m at h n r
 generalize s.now=t at c1 ⊢
 have q1:(i:Int) < (m:Int):=af
 have A:(0:Int)<=(i:Int):=af
 unfold ptr at n0
 clear d h0 f N j
 go_enter func92,ntmps92
 go_wp2_with fail
 go_region
 all_goals
  go_wp2
  go_ret
  exact ⟨rfl,(Old.refl' w).drew'⟩
theorem Si (N:aN w own c i W g u s) (h:s.known.nodes.length<=1000) :
 aS 56 #[g] w (wI w s.known):=by
 obtain ⟨p,l⟩:=N.ex
 have n:aV w (fun k=>own k=bM c i 3) (fun k=>own k=aB) W g p s.n:=aV.ub (l.at_ 3)
 have h5:iy w (fun k=>own k=bM c i 5) (fun k=>own k=aB) p.ac s.n.kept.acc:=l.at_ 5
 have y:=n.cell 4 _ (fun _=>rfl)
 have G:=n.Oi
 have r:=(Old.refl' w).ag (.cells #[zi 0,aQ] 59)
 have f:=aa (RS _ _ p.ac s.n.kept.acc h _ (h5.old r))
 have z:=aa (Bk.new w 59 #[zi 0,aQ])
 have B:=aa r
 show Calls _ _ _ w (wI w s.n.kept.acc.known)
 change (s.n.kept.acc.known.nodes.length<=1000) at h
 generalize s.n.kept.acc.known=kn at f h ⊢
 obtain ⟨E,kn⟩:=kn
 unfold wI at f ⊢
 simp only at f h ⊢
 generalize kn.length=m at f h ⊢
 unfold ptr at y
 clear n h5 l N r
 go_enter func56,ntmps56
 go_wp2_with fail
 refine f.o.mono ?_
 rintro e H ⟨A,q,rfl,d,C⟩
 have D:=aa (z.o.old C)
 have j:=aK d D.o aW
 have x:=aa (B.o.trans' C)
 obtain ⟨x0,x1,x2,I,F⟩:=bk2 D.o
 clear f y B z
 go_wp2_with fail
 exact bodyPost_ret (v:=.agg #[zi E,.slice A m q]) (by simp [results,results56,go_sem,x0,x1,F]) rfl ⟨A,q,rfl,bz (bz (dX d bE) j _) j _,((x.o).aJ (p:=⟨w.heap.size,0,none⟩) bE _).aJ (p:=⟨w.heap.size,1,none⟩) bE _⟩
end
theorem sP {Rs:List RR} {w:World} {E:Operand->Value} {G f:Prop} (d:G->f):∀ {deps:List (Nat×Tmp)},Gv Rs w E G deps->Gv Rs w E f deps
 | [],h=>d h
 | (j,t) :: r,h=>by
  unfold Gv at h ⊢
  split at h
  ·intro e
   exact sP d (h e)
  ·intro v g e
   exact sP d (h v g e)
theorem oG {E:Operand->Value} {G d:Prop} (f:G->d):∀ {outs:List (Tmp×Value)},aU E G outs->aU E d outs
 | [],h=>f h
 | (_,_) :: _,h=>fun e=>oG f (h e)
theorem Ej {b c:Bool} (h:¬ b=c):c=!b:=by cases b <;> cases c <;> simp_all
section
variable {T:World->World->Prop} [ht:Rq T] {P:Program} {Q:Exit->Act->World->Prop} {l:List Oper} {a0:Act} {W0:World} {Rs:List RR} {k:Nat} {o:Oper}
theorem mD (g:Nat) (t:Tmp) (b c:Bool) (x:Value) (deps:List (Nat×Tmp)) (outs:List (Tmp×Value))
 (h:b=c->∀ (E:Operand->Value) (w:World),T W0 w->(∀ v,E (.const v)=v)->(∀ f,E (.func f)=.func (.func f) #[] #[])->Gv Rs w E (aU E ((execOp E o).run P w=.ok (.value x) w) outs) deps)
 (i:oQ Rs k=.val (if b=c then x else undef):=by rfl) (j:∀ v w,bQ Rs g v w->v=.bool b:=by exact fun _ _ h=>h) (m:o.guard=some (g,c):=by rfl) (n:l[k]?=some o:=by rfl)
 (hd:dw l o a0.tmps.size [(g,t)]=true:=by kernel_rfl) (e:dw l o a0.tmps.size deps=true:=by kernel_rfl) (r:gN l k outs=true:=by kernel_rfl)
 (s:(outs.map fun p=>a0.tmps[p.1]?)=(outs.map fun p=>some p.2):=by rfl):SO T P Q l a0 Rs W0 k o:=by
 by_cases d:b=c
 ·have u:oQ Rs k=.val x:=by rw [i,if_pos d]
  exact fC g t b deps outs (fun E w y z A=>sP (oG fun B=>⟨x,B,by unfold bQ;rw [u];rfl⟩) (h d E w y z A)) j (d▸m) n hd e r s
 ·exact sk g t b (by rw [m,Ej d]) n hd j (fun w=>by unfold bQ;rw [i,if_neg d];rfl)
def IfR (b c:Bool) (r:Value->World->Prop):Value->World->Prop:=fun v w=>b=c->r v w
instance (b c:Bool) (r:Value->World->Prop) [h:uT T r]:uT T (IfR b c r):=⟨fun v w w' ho hr e=>h.st v w w' ho (hr e)⟩
theorem aay (g:Nat) (t:Tmp) (b c:Bool) (r:Value->World->Prop) (f:FuncId) {fn:Func} (A:P.funcs[f]?=some fn) (deps:List (Nat×Tmp)) (outs:List (Tmp×Value)) (xs:List Operand) {m:Array TypeId}
 (h:b=c->∀ (E:Operand->Value) (w:World),T W0 w->(∀ v,E (.const v)=v)->Gv Rs w E (aU E (∃ d,xs.map E=d/\jY T P f d w r) outs) deps)
 (u:oQ Rs k=.rel (IfR b c r):=by rfl) (x:∀ v w,bQ Rs g v w->v=.bool b:=by exact fun _ _ h=>h)
 (n:o.op=.call { callee:=.value (.func f),args:=xs.toArray,argTypes:=m }:=by rfl)
 (B:(fn.name == "runtime.NumGoroutine")=false:=by kernel_rfl) (s:fn.body.isNone=false:=by kernel_rfl)
 (y:o.guard=some (g,c):=by rfl) (z:l[k]?=some o:=by rfl) (j:dw l o a0.tmps.size [(g,t)]=true:=by kernel_rfl) (hd:dw l o a0.tmps.size deps=true:=by kernel_rfl) (C:gN l k outs=true:=by kernel_rfl)
 (D:(outs.map fun p=>a0.tmps[p.1]?)=(outs.map fun p=>some p.2):=by rfl):SO T P Q l a0 Rs W0 k o:=by
 by_cases i:b=c
 ·exact IU g t b f A deps outs xs (fun E w F G=>sP (oG fun ⟨d,e,H⟩=>⟨d,e,H.mono fun e w' ⟨v,h,I,h4⟩=>⟨v,h,by unfold bQ;rw [u];exact fun _=>I,h4⟩⟩) (h i E w F G)) x n B s (i▸y) z j hd C D
 ·exact sk g t b (by rw [y,Ej i]) z j x (fun w=>by unfold bQ;rw [u];exact fun e=>absurd e i)
theorem MN (g:Nat) (t:Tmp) (b c:Bool) (x:Value) (f:FuncId) {fn:Func} (A:P.funcs[f]?=some fn) (deps:List (Nat×Tmp)) (outs:List (Tmp×Value)) (xs:List Operand) {m:Array TypeId}
 (h:b=c->∀ (E:Operand->Value) (w:World),T W0 w->(∀ v,E (.const v)=v)->Gv Rs w E (aU E (∃ d,xs.map E=d/\Calls P f d.toArray w (fun e w'=>e=.returned x/\T w w')) outs) deps)
 (s:oQ Rs k=.val (if b=c then x else undef):=by rfl) (u:∀ v w,bQ Rs g v w->v=.bool b:=by exact fun _ _ h=>h)
 (n:o.op=.call { callee:=.value (.func f),args:=xs.toArray,argTypes:=m }:=by rfl)
 (B:(fn.name == "runtime.NumGoroutine")=false:=by kernel_rfl) (r:fn.body.isNone=false:=by kernel_rfl)
 (y:o.guard=some (g,c):=by rfl) (z:l[k]?=some o:=by rfl) (j:dw l o a0.tmps.size [(g,t)]=true:=by kernel_rfl) (hd:dw l o a0.tmps.size deps=true:=by kernel_rfl) (C:gN l k outs=true:=by kernel_rfl)
 (D:(outs.map fun p=>a0.tmps[p.1]?)=(outs.map fun p=>some p.2):=by rfl):SO T P Q l a0 Rs W0 k o:=by
 by_cases i:b=c
 ·have F:oQ Rs k=.val x:=by rw [s,if_pos i]
  exact IU g t b f A deps outs xs (fun E w G H=>sP (oG fun ⟨d,e,I⟩=>⟨d,e,I.mono fun e w' h=>⟨x,h.1,by unfold bQ;rw [F];rfl,h.2⟩⟩) (h i E w G H)) u n B r (i▸y) z j hd C D
 ·exact sk g t b (by rw [y,Ej i]) z j u (fun w=>by unfold bQ;rw [s,if_neg i];rfl)
end
theorem fH.drew {w:World} {g:Nat} {t:TypeId} {a b:Int} {l:List Int} (h:fH w g t a b l):fH w.drew g t a b l:=⟨h.ex,h.len⟩
theorem AZ (a b:Int):max a b=if a < b then b else a:=by rw [Int.max_def];split <;> split <;> omega
theorem Sj (g:Nat) (s f:Ag) (now x:Int) (b:Bool) (I:s.n<=5) (y:0<=now/\now<=1099511627876) (m:s.uE now x=b) (r:s.give now x=f) (w:World) (h:fH w g 252 s.n s.gJ s.till) :
 aS 184 #[g,zi now,zi x] w fun e w'=>e=.returned (.bool b)/\fH w' g 252 f.n f.gJ f.till/\Fr (fun k=>k=g) w w':=by
 obtain ⟨n,j,d⟩:=s
 simp only at h I
 obtain ⟨c0,c1,J⟩:=h.hd
 obtain ⟨K,L⟩:=y
 obtain ⟨b1,l⟩:=aR ((decide (0<=x) && decide (x < n)))
 have z:=aa (fun W M=>aau g n j x d b1 l W M)
 have e:b=(b1 && decide (j<=now) && decide (now<=1099511627776)):=by rw [<- m];unfold Ag.uE;rw [<- l]
 have H:=aa h
 cases b1 with
 | false=>
  simp only [Bool.false_and] at e
  have u:f=⟨n,j,d⟩:=by rw [<- r];unfold Ag.give;rw [m,e];rfl
  subst e u
  clear m r h l
  go_enter func184,ntmps184
  go_wp2_with (go_at_call 227;refine (z.o _ H.o).mono ?_;rintro e w1 ⟨rfl,rfl⟩)
  go_ret
  exact ⟨rfl,H.o,Fr.refl _ _⟩
 | true=>
  simp only [Bool.true_and] at e
  by_cases C:j<=now
  ·by_cases F:now<=1099511627776
   ·rw [decide_eq_true C,decide_eq_true F] at e
    simp only [kE,rJ] at l
    obtain ⟨A,D⟩:=l
    obtain ⟨i,rfl⟩:=Int.eq_ofNat_of_zero_le A
    have u:f=⟨n,j,d.set i (max (d[i]?.getD 0) (now + 50))⟩:=by rw [<- r];unfold Ag.give;rw [m,e];rfl
    subst e u
    obtain ⟨c2,f2,-⟩:=h.at_ (i:=i) af
    obtain ⟨t,E⟩:=aR (d[i]?.getD 0)
    rw [E] at c2
    have hs:=aa (h.bH (i:=i) (v:=max t (now + 50)) af)
    have B:=aa (fun v=>Fr.setCell (S:=fun k=>k=g) (p:=⟨g,2 + i,none⟩) (Fr.refl _ w) (.inr rfl) v)
    have HT:=aa E
    have N:IntKind.i64.wrap (now + 50)=now + 50:=kP _ af
    have O:i < 5:=af
    clear m r h A D E
    by_cases G:t < now + 50
    ·have e1:=aa (show max t (now + 50)=now + 50 by rw [AZ,if_pos G])
     go_enter func184,ntmps184
     go_wp2_with (go_at_call 227;refine (z.o _ H.o).mono ?_;rintro e w1 ⟨rfl,rfl⟩)
     go_region
     go_wp2
     go_ret
     exact ⟨rfl,YW,(B.o _).drew⟩
    ·have e1:=aa (show max t (now + 50)=t by rw [AZ,if_neg G])
     go_enter func184,ntmps184
     go_wp2_with (go_at_call 227;refine (z.o _ H.o).mono ?_;rintro e w1 ⟨rfl,rfl⟩)
     go_region
     go_wp2
     go_ret
     exact ⟨rfl,YW,(B.o _).drew⟩
   ·rw [decide_eq_true C,decide_eq_false F] at e
    simp at e
    have u:f=⟨n,j,d⟩:=by rw [<- r];unfold Ag.give;rw [m,e];rfl
    subst e u
    clear m r h l
    go_enter func184,ntmps184
    go_wp2_with (go_at_call 227;refine (z.o _ H.o).mono ?_;rintro e w1 ⟨rfl,rfl⟩)
    go_ret
    exact ⟨rfl,H.o,Fr.refl _ _⟩
  ·rw [decide_eq_false C] at e
   simp at e
   have u:f=⟨n,j,d⟩:=by rw [<- r];unfold Ag.give;rw [m,e];rfl
   subst e u
   clear m r h l
   go_enter func184,ntmps184
   go_wp2_with (go_at_call 227;refine (z.o _ H.o).mono ?_;rintro e w1 ⟨rfl,rfl⟩)
   go_ret
   exact ⟨rfl,H.o,Fr.refl _ _⟩
theorem Ol (w:World) (g:Nat):Fr (fun k=>k=g) w w:=Fr.refl _ w
theorem Sk (g:Nat) (m f:Dl) (now x:Int) (D:m.n<=5) (u:m.hear now x=f) (w:World) (h:fH w g 254 m.n m.self m.heard) :
 aS 119 #[g,zi now,zi x] w fun e w'=>e=.returned (.tuple #[])/\fH w' g 254 f.n f.self f.heard/\Fr (fun k=>k=g) w w':=by
 obtain ⟨n,self,d⟩:=m
 simp only at h D
 obtain ⟨c0,c1,E⟩:=h.hd
 obtain ⟨b1,j⟩:=aR ((decide (0<=x) && decide (x < n)))
 have y:=aa (fun W F=>VW g n self x d b1 j W F)
 have H:=aa h
 cases b1 with
 | false=>
  have z:f=⟨n,self,d⟩:=by rw [<- u];unfold Dl.hear;rw [if_neg (by intro B;rw [decide_eq_true B.1,decide_eq_true B.2] at j;exact absurd j (by decide))]
  subst z
  clear u h j
  go_enter func119,ntmps119
  go_wp2_with (go_at_call 171;refine (y.o _ H.o).mono ?_;rintro e w1 ⟨rfl,rfl⟩)
  go_end0
  exact ⟨rfl,H.o,Ol _ _⟩
 | true=>
  simp only [kE,rJ] at j
  obtain ⟨l,r⟩:=j
  obtain ⟨i,rfl⟩:=Int.eq_ofNat_of_zero_le l
  have z:f=⟨n,self,d.set i (max (d[i]?.getD 0) now)⟩:=by rw [<- u];unfold Dl.hear;rw [if_pos ⟨l,r⟩];rfl
  subst z
  obtain ⟨c2,f2,-⟩:=h.at_ (i:=i) af
  obtain ⟨t,A⟩:=aR (d[i]?.getD 0)
  rw [A] at c2
  have hs:=aa (h.bH (i:=i) (v:=max t now) af)
  have s:=aa (fun v=>Fr.setCell (S:=fun k=>k=g) (p:=⟨g,2 + i,none⟩) (Fr.refl _ w) (.inr rfl) v)
  have HT:=aa A
  have G:i < 5:=af
  clear u h l r A
  by_cases C:t < now
  ·have e1:=aa (show max t now=now by rw [AZ,if_pos C])
   go_enter func119,ntmps119
   go_wp2_with (go_at_call 171;refine (y.o _ H.o).mono ?_;rintro e w1 ⟨rfl,rfl⟩)
   go_region
   go_wp2
   go_end0
   exact ⟨rfl,YW,(s.o _).drew⟩
  ·have e1:=aa (show max t now=t by rw [AZ,if_neg C])
   go_enter func119,ntmps119
   go_wp2_with (go_at_call 171;refine (y.o _ H.o).mono ?_;rintro e w1 ⟨rfl,rfl⟩)
   go_region
   go_wp2
   go_end0
   exact ⟨rfl,YW,(s.o _).drew⟩
theorem vI (g:Nat) (k:Dl) (now x:Int) (b:Bool) (D:k.n<=5) (m:0<=now/\now<=1099511627876) (u:∀ i,i < 5->0<=k.heard[i]?.getD 0/\k.heard[i]?.getD 0<=1099511627876) (y:k.there now x=b) (w:World) (h:fH w g 254 k.n k.self k.heard) :
 aS 226 #[g,zi now,zi x] w fun e w'=>e=.returned (.bool b)/\w=w':=by
 obtain ⟨n,self,f⟩:=k
 simp only at h D u
 obtain ⟨c0,c1,E⟩:=h.hd
 obtain ⟨F,G⟩:=m
 obtain ⟨b1,j⟩:=aR ((decide (0<=x) && decide (x < n)))
 have p:=aa (fun W I=>VW g n self x f b1 j W I)
 have H:=aa h
 have d:(b1 && (decide (x=self) || decide (now<=f[x.toNat]?.getD 0) || decide (now - f[x.toNat]?.getD 0 < 12)))=b:=by rw [<- y,<- j];rfl
 cases b1 with
 | false=>
  simp only [Bool.false_and] at d
  subst d
  clear y h j u
  go_enter func226,ntmps226
  go_wp2_with (go_at_call 171;refine (p.o _ H.o).mono ?_;rintro e w1 ⟨rfl,rfl⟩)
  go_ret
  first | exact ⟨rfl,rfl⟩ | exact ⟨jG jR,rfl⟩
 | true=>
  simp only [Bool.true_and] at d
  simp only [kE,rJ] at j
  obtain ⟨r,J⟩:=j
  obtain ⟨i,rfl⟩:=Int.eq_ofNat_of_zero_le r
  have s:=u i af
  obtain ⟨c2,f2,-⟩:=h.at_ (i:=i) af
  rw [EZ] at d
  obtain ⟨t,A⟩:=aR (f[i]?.getD 0)
  rw [A] at c2 d s
  obtain ⟨K,L⟩:=s
  have M:i < 5:=af
  clear y h r A u
  by_cases l:(i:Int)=self
  ·have z:((i:Int) == self)=true:=by simpa using l
   rw [decide_eq_true l] at d
   simp only [Bool.true_or] at d
   subst d
   clear l
   go_enter func226,ntmps226
   go_wp2_with (go_at_call 171;refine (p.o _ H.o).mono ?_;rintro e w1 ⟨rfl,rfl⟩)
   go_ret
   first | exact ⟨rfl,rfl⟩ | exact ⟨jG jR,rfl⟩
  ·have z:((i:Int) == self)=false:=by simpa using l
   rw [decide_eq_false l] at d
   simp only [Bool.false_or] at d
   clear l
   by_cases B:now<=t
   ·rw [decide_eq_true B] at d
    simp only [Bool.true_or] at d
    subst d
    go_enter func226,ntmps226
    go_wp2_with (go_at_call 171;refine (p.o _ H.o).mono ?_;rintro e w1 ⟨rfl,rfl⟩)
    go_ret
    first | exact ⟨rfl,rfl⟩ | exact ⟨jG jR,rfl⟩
   ·rw [decide_eq_false B] at d
    simp only [Bool.false_or] at d
    by_cases C:now - t < 12
    ·rw [decide_eq_true C] at d
     subst d
     go_enter func226,ntmps226
     go_wp2_with (go_at_call 171;refine (p.o _ H.o).mono ?_;rintro e w1 ⟨rfl,rfl⟩)
     go_ret
     first | exact ⟨rfl,rfl⟩ | exact ⟨jG jR,rfl⟩
    ·rw [decide_eq_false C] at d
     subst d
     go_enter func226,ntmps226
     go_wp2_with (go_at_call 171;refine (p.o _ H.o).mono ?_;rintro e w1 ⟨rfl,rfl⟩)
     go_ret
     first | exact ⟨rfl,rfl⟩ | exact ⟨jG jR,rfl⟩
theorem qR (a b:Value):∀ w,(Instr.field 59 (.agg #[a,b]) 0).run prog w=.ok a w:=fun _=>ay
theorem aV.old {w w':World} {F K:Nat->Prop} {W g:Nat} {p:iC} {n:dM} (h:aV w F K W g p n) (d:Old w w'):aV w' F K W g p n:=h.fr (S:=fun _=>False) (Fr.aj d) (fun _ _ h=>h)
theorem aV.c {w:World} {F K:Nat->Prop} {W g i:Nat} {p:iC} {n:dM} (h:aV w F K W g p n) (d:n.self=i) :
 w.cell? ⟨g,0,none⟩=some (av W 0)/\w.cell? ⟨g,1,none⟩=some (zi i)/\w.cell? ⟨g,2,none⟩=some (.bool n.up)/\w.cell? ⟨g,3,none⟩=some (av p.dk 0)/\w.cell? ⟨g,4,none⟩=some (av p.ac 0)/\w.cell? ⟨g,5,none⟩=some (av p.lg 0)/\w.cell? ⟨g,6,none⟩=some (zi n.kept.join.az)/\w.cell? ⟨g,8,none⟩=some (zi n.junk)/\
  w.cell? ⟨g,9,none⟩=some (av p.ho 0)/\w.cell? ⟨g,10,none⟩=some (.map (some p.ak))/\w.cell? ⟨g,11,none⟩=some (zi n.last)/\w.cell? ⟨g,12,none⟩=some (av p.gr 0)/\w.cell? ⟨g,13,none⟩=some (av p.wa 0)/\w.cell? ⟨g,192,none⟩=some (zi n.well)/\g < w.heap.size:=
 ⟨h.cell 0 _ (fun _=>rfl),d▸h.cell 1 _ (fun _=>rfl),h.cell 2 _ (fun _=>rfl),h.cell 3 _ (fun _=>rfl),h.cell 4 _ (fun _=>rfl),h.cell 5 _ (fun _=>rfl),h.cell 6 _ (fun _=>rfl),h.cell 8 _ (fun _=>rfl),h.cell 9 _ (fun _=>rfl),h.cell 10 _ (fun _=>rfl),h.cell 11 _ (fun _=>rfl),h.cell 12 _ (fun _=>rfl),h.cell 13 _ (fun _=>rfl),h.cell 192 _ (fun _=>rfl),h.Oi⟩
section
variable {w:World} {own:Nat->Tag} {c i W g k:Nat} {u:bV} {s:NS}
theorem zu (N:aN w own c i W g u s) {base:Nat} (l:base<=w.heap.size) {h:Int} {kn:List Int} {m:Nat} (j:s.known=⟨h,kn⟩) (n:kn.length=m) (h5:m<=5) :
 jY Old prog 56 [av g 0] w (rq base h m (kn.map (Value.int .i64))):=
 .of (Si N (by rw [j];show kn.length<=1000;omega)) fun e r ⟨A,q,d,f,p⟩=>by
  rw [j] at d f
  simp only [n] at d f
  exact ⟨_,d,⟨A,q,rfl,dX f l⟩,p⟩
theorem A7 (N:aN w own c i W g u s) (ok:aF s i k) (b:Bool) (r:s.member=b) :
 aS 102 #[g] w fun e w'=>e=.returned (.bool b)/\Old w w':=by
 obtain ⟨p,x⟩:=N.ex
 have y:aV w (fun k=>own k=bM c i 3) (fun k=>own k=aB) W g p s.n:=aV.ub (x.at_ 3)
 have F:=aa y
 have G:=aa N.self
 obtain ⟨ke,kn,hk⟩:∃ ke kn,s.known=⟨ke,kn⟩:=⟨_,_,rfl⟩
 obtain ⟨m,hm⟩:=aR (kn.length)
 have d:m<=5:=Di
 have H:=aa (fun W' (z:Old w W')=>zu (N.old z) (base:=w.heap.size) z.size hk hm d)
 have f:kn.contains (i:Int)=b:=by
  rw [<- r]
  show _=s.known.has s.n.self
  rw [hk,N.self]
  rfl
 have I:=aa (fun W' A q (h:aP W' A kn)=>NL ke A m q kn i b hm.symm af f W' h)
 have B:=aa (Old.refl' w)
 clear y x N ok
 clear r f hk hm d
 go_enter func102,ntmps102
 go_wp2_with fail
 refine bG Old w [.val g,.rel (rq w.heap.size ke m (kn.map (Value.int .i64))),.val g,.val g,.val (av g 1),.val (zi i),.val (.bool b),.val (.bool b)] ((Old.refl' _).drew') ?st ?en
 case st=>
  refine .cons (sp [] [(0,g)] ?_)<|.cons (sc 56 func56 [(0,3)] [] _ ?c1)<|.cons (sp [] [(0,g)] ?_)<|.cons (sp [(2,5)] [] ?_)<|.cons (sp [(3,6)] [] ?_)<|.cons (sp [(4,7)] [] ?_)<|.cons (sc 57 func57 [(1,4),(5,8)] [] _ ?c6)<|.cons (sp [(6,9)] [] ?_)<|.nil
  case c1=>
   intro E w' l C
   rintro K
   exact ⟨_,jQ,H.o w' (B.o.trans' l)⟩
  case c6=>
   intro E w' l C
   rintro _ ⟨D,q1,rfl,j⟩ L M
   exact ⟨_,jQ,.of (I.o w' D q1 (ah.bA j)) fun e O h=>⟨_,h.1,rfl,h.2⟩⟩
  all_goals
   intro E w' l C P
   obtain ⟨u0,u1,u2,u3,u4,u5,u6,u8,u9,dF,dD,dK,eu,aX,R⟩:=(F.o.old (B.o.trans' l)).c G.o
   repeat intro _
   exact ⟨_,dP,rfl⟩
 case en=>
  intro J S n
  iterate 1 refine Ends.eqv _ _ rfl (fun _ h=>h) ?_
  refine Ends.ex _ rfl ?_
  rintro _ _ ⟨D,q1,rfl,j⟩
  iterate 6 refine Ends.eqv _ _ rfl (fun _ h=>h) ?_
  refine Ends.nil ?_
  simp only [aC,ax,fM,fJ]
  go_wp2_with fail
  go_ret
  exact ⟨rfl,n⟩
theorem FK (N:aN w own c i W g u s) (ok:aF s i k) (b:Bool) (S:s.gD=b) :
 aS 58 #[g] w fun e w'=>e=.returned (.bool b)/\Old w w':=by
 obtain ⟨p,K⟩:=N.ex
 have T:aV w (fun k=>own k=bM c i 3) (fun k=>own k=aB) W g p s.n:=aV.ub (K.at_ 3)
 have U:=aa T
 have V:=aa N.self
 obtain ⟨ke,kn,hk⟩:∃ ke kn,s.known=⟨ke,kn⟩:=⟨_,_,rfl⟩
 obtain ⟨m,hm⟩:=aR (kn.length)
 have F:m<=5:=Di
 have Y:=aa (fun W' (n:Old w W')=>zu (N.old n) (base:=w.heap.size) n.size hk hm F)
 obtain ⟨now,j⟩:=aR (s.now)
 have h7:dz w (fun k=>own k=bM c i 7) p.ho s.n.hold:=K.at_ 7
 obtain ⟨G,y⟩:=aR (s.member)
 have Z:=aa (fun W' (n:Old w W')=>A7 (N.old n) ok G y)
 have cN:=aa (fun W' (n:Old w W')=>j▸Cx (N.old n))
 obtain ⟨H,z⟩:=aR (s.n.hold.valid now ke)
 have cV:=aa (fun W' (n:Old w W')=>RV _ p.ho s.n.hold ok.hold.row (ok.hold.n_▸ok.conf.n1) (ok.hold.n_▸ok.conf.n5) now ke (by have:=ok.now;rw [j] at this;omega) (fun x hx=>by have:=(ok.hold.ask x hx).1;omega) H z W' (h7.old n))
 have A:(s.n.up && G && H)=b:=by
  rw [<- S,<- y,<- z,<- j]
  show _=(s.n.up && s.member && s.n.hold.valid s.now s.known.az)
  rw [hk]
 obtain ⟨up,L⟩:=aR (s.n.up)
 rw [L] at A
 have D:=aa (Old.refl' w)
 have X:=aa L
 clear T K N ok S y z hk hm F h7 L j
 obtain ⟨d,B⟩:=aR ((up && G))
 obtain ⟨M,C⟩:=aR ((d && H))
 obtain rfl:M=b:=by rw [<- A,<- C,<- B]
 have O:=aa B
 have P:=aa C
 clear A B C
 go_enter func58,ntmps58
 go_wp2_with fail
 refine bG Old w [.val g,.val g,.val (av g 2),.val (.bool up),.val (.bool up),.val (if up=true then av g 0 else undef),.val (if up=true then .bool G else undef),.val (.bool d),.val (.bool d),.val (if d=true then av g 0 else undef),.val (if d=true then av g 0 else undef),.val (if d=true then av g 9 else undef),.val (if d=true then av p.ho 0 else undef),.val (if d=true then av g 0 else undef),.val (if d=true then zi now else undef),.val (if d=true then av g 0 else undef),.rel (IfR d true (rq w.heap.size ke m (kn.map (Value.int .i64)))),.val (if d=true then zi ke else undef),.val (if d=true then .bool H else undef),.val (.bool M),.val (.bool M)] ((Old.refl' _).drew') ?st ?en
 case st=>
  refine .cons (sp [] [(0,g)] ?_)<|.cons (sp [(0,3)] [] ?_)<|.cons (sp [(1,4)] [] ?_)<|.cons (sp [(2,5)] [] ?_)<|.cons (sp [(3,6)] [] ?_)<|.cons (mD 4 7 up true (av g 0) [] [(0,g)] ?i5)<|.cons (MN 4 7 up true (.bool G) 102 func102 [(5,8)] [] _ ?c6)<|.cons (sp [(4,7),(6,9)] [] ?c7)<|.cons (sp [(7,10)] [] ?_)<|.cons (mD 8 11 d true (av g 0) [] [(0,g)] ?i9)<|.cons (mD 8 11 d true (av g 0) [(9,12)] [] ?i10)<|.cons (mD 8 11 d true (av g 9) [(10,13)] [] ?i11)<|.cons (mD 8 11 d true (av p.ho 0) [(11,14)] [] ?i12)<|.cons (mD 8 11 d true (av g 0) [] [(0,g)] ?i13)<|.cons (MN 8 11 d true (zi now) 92 func92 [(13,16)] [] _ ?c14)<|.cons (mD 8 11 d true (av g 0) [] [(0,g)] ?i15)<|.cons (aay 8 11 d true (rq w.heap.size ke m (kn.map (Value.int .i64))) 56 func56 [(15,18)] [] _ ?c16)<|.cons (mD 8 11 d true (zi ke) [(16,19)] [] ?c17)<|.cons (MN 8 11 d true (.bool H) 103 func103 [(12,15),(14,17),(17,20)] [] _ ?c18)<|.cons (sp [(8,11),(18,21)] [] ?c19)<|.cons (sp [(19,22)] [] ?_)<|.nil
  case c6=>
   intro f E w' l r
   subst f
   rintro e8
   exact ⟨_,IZ,Z.o w' (D.o.trans' l)⟩
  case c7=>
   intro E w' l r J
   rintro e7 e9
   obtain rfl:=O.o
   cases up <;> exact ⟨_,dP,rfl⟩
  case c14=>
   intro f E w' l r
   subst f
   rintro e16
   exact ⟨_,IZ,cN.o w' (D.o.trans' l)⟩
  case c16=>
   intro f E w' l r
   subst f
   rintro e18
   exact ⟨_,IZ,Y.o w' (D.o.trans' l)⟩
  case c17=>
   intro f E w' l r J
   subst f
   rintro _ I e19
   obtain ⟨A1,q1,rfl,ho1⟩:=I rfl
   have f1:=qR (zi ke) (.slice A1 m q1)
   show _=_
   go_simp
  case c18=>
   intro f E w' l r
   subst f
   rintro e15 e17 e20
   exact ⟨_,IZ,cV.o w' (D.o.trans' l)⟩
  case c19=>
   intro E w' l r J
   rintro e11 e21
   obtain rfl:=P.o
   cases d <;> exact ⟨_,dP,rfl⟩
  case i5 | i9 | i10 | i11 | i12 | i13 | i15=>
   intro f E w' l r J
   subst f
   obtain ⟨u0,u1,u2,u3,u4,u5,u6,u8,u9,dF,dD,dK,eu,aX,ug⟩:=(U.o.old (D.o.trans' l)).c V.o
   clear u0 u1 u3 u4 u5 u6 u8 dF dD dK eu aX
   rw [X.o] at u2
   repeat intro _
   show _=_
   go_simp
  all_goals
   intro E w' l r J
   obtain ⟨u0,u1,u2,u3,u4,u5,u6,u8,u9,dF,dD,dK,eu,aX,ug⟩:=(U.o.old (D.o.trans' l)).c V.o
   clear u0 u1 u3 u4 u5 u6 u8 dF dD dK eu aX
   rw [X.o] at u2
   repeat intro _
   exact ⟨_,dP,rfl⟩
 case en=>
  intro jA w9 R
  iterate 5 refine Ends.eqv _ _ rfl (fun _ h=>h) ?_
  iterate 2 (refine Ends.ex _ rfl ?_;intro _ _ _)
  iterate 2 refine Ends.eqv _ _ rfl (fun _ h=>h) ?_
  iterate 10 (refine Ends.ex _ rfl ?_;intro _ _ _)
  iterate 2 refine Ends.eqv _ _ rfl (fun _ h=>h) ?_
  refine Ends.nil ?_
  simp only [aC,ax,fM,fJ]
  go_wp2_with fail
  go_ret
  exact ⟨rfl,R⟩
end
end Go.Proofs.YthihpfpbiajddaaGreat
