/- Parts of the proof. -/
import Derived.Test.YthihpfpbiajddaaGreatHQWorldNobody25
set_option maxRecDepth 100000
set_option maxHeartbeats 8000000
open Go.Proofs.Tryz
namespace Go.Proofs.YthihpfpbiajddaaGreat
open Go.RowKit
section
variable {P:Program} {Q:Exit->Act->World->Prop} {l:List Oper} {a:Act}
def K9 (l:List Oper) (n f:Nat):Bool:=(List.range n).all fun j=>decide (j=f) || (below l j).contains n
theorem Ex {i j:Nat} {o:Oper} (f:(below l j).contains i=true) (hi:l[i]?=some o) (m:j < i) {σ:Nat->Option Value} (hcl:nA l σ) (hd:∀ e∈o.after,Region.binds .any e=true->(σ e.on).isSome=true):(σ j).isSome=true:=by
 cases hs:σ j with
 | some v=>rfl
 | none=>
  have g:=ny (l0:=l) (k:=j) (σ:=upd σ i undef) (fun k ok hk hks e he hb=>by
   have d:(σ e.on).isSome=true:=Re
   unfold upd
   split
   ·rfl
   ·exact d) (by unfold upd;rw [if_neg (by omega)];exact hs) l 0 [] (fun j=>by rw [mE]) (fun _ h=>by cases h) i (by simpa [below] using f)
  simp [upd] at g
theorem Im {n f:Nat} (h:K9 l n f=true) {o:Oper} (m:l[n]?=some o) {σ:Nat->Option Value} (d:nA l σ) (hd:∀ e∈o.after,Region.binds .any e=true->(σ e.on).isSome=true) {j:Nat} (i:j < n) (g:j≠f):(σ j).isSome=true:=by
 unfold K9 at h
 have k:=List.all_eq_true.1 h j (List.mem_range.2 i)
 simp only [Bool.or_eq_true,rJ] at k
 exact Ex (k.resolve_left g) m i d hd
theorem upd_ne {σ:Nat->Option Value} {i k:Nat} {v:Value} (h:k≠i):upd σ i v k=σ k:=by unfold upd;rw [if_neg h]
theorem SK {σ:Nat->Option Value} {i:Nat} {v:Value}:upd σ i v i=some v:=by unfold upd;rw [if_pos rfl]
theorem xD (hok:fU l=true) (n f:Nat) (hfn:f < n) (hnl:n < l.length) (ht:qG l (n + 1)=true) (hb:K9 l n f=true) (I:(Nat->Option Value)->World->Prop)
 (S:∀ σ k o w,k < n->l[k]?=some o->σ k=none->(∀ e∈o.after,Region.binds .any e=true->(σ e.on).isSome=true)->I σ w->
  wpOp P l.toArray Q k (fun C w'=>∃ v,C=(bW l σ a l.length).put o.dst v/\I (upd σ k v) w') (bW l σ a l.length) w)
 (T:∀ σ w,(∀ k,k < n->(σ k).isSome=true)->(∀ k,n<=k->σ k=none)->I σ w->wpOp P l.toArray Q n (fun C w'=>wpList P l.toArray Q (l.drop (n + 1)) C w') (bW l σ a l.length) w)
 (U:∀ σ w,(∀ k,k < n->k≠f->(σ k).isSome=true)->σ f=none->(∀ k,n<=k->σ k=none)->I σ w->wpOp P l.toArray Q n (fun C w'=>wpOp P l.toArray Q f (fun V W=>wpList P l.toArray Q (l.drop (n + 1)) V W) C w') (bW l σ a l.length) w) :
 ∀ (r:Nat) (d:Array Bool) (σ:Nat->Option Value) (w:World),d.size=l.length->(∀ k,k < l.length->d[k]?=some (σ k).isSome)->(∀ k,n<=k->σ k=none)->nA l σ->
  (List.range l.length).countP (fun k=>(σ k).isNone)<=r->I σ w->wpAny P .any l.toArray Q r d (bW l σ a l.length) w:=by
 have hnd:(jB l).Nodup:=zR
 have D:∀ (k:Nat) (o:Oper),l[k]?=some o->∀ e∈o.after,Region.binds .any e=true->e.on < k:=fun k o hk e he hb=>by
  simp only [fU,kE,List.all_eq_true,List.mem_range] at hok
  have:=hok.2 k (List.getElem?_eq_some_iff.1 hk).1
  simp only [hk,Array.all_eq_true'] at this
  simpa [hb] using this e he
 intro r
 induction r with
 | zero=>
  intro d σ w hsz hls F G hc hI
  exfalso
  have:0 < (List.range l.length).countP (fun k=>(σ k).isNone):=List.countP_pos_iff.2 ⟨n,List.mem_range.2 hnl,by simp [F n (dN n)]⟩
  omega
 | succ r ih=>
  intro d σ w hsz hls F G hc hI
  refine ⟨fun hr=>?_,fun i hi=>?_⟩
  ·-- something is ready
   exfalso
   have hall:∀ k,k<=n->(σ k).isSome=true:=fun k=>by
    induction k using Nat.strongRecOn with
    | _ k ihk=>
     intro hk
     cases hs:σ k with
     | some v=>rfl
     | none=>
      have B:k < l.length:=af
      have:k∈Region.ready .any l.toArray d:=(eU hok hsz hls k).2 ⟨B,hs,l[k],gG B,fun e he hb=>by
       have:=D k l[k] (gG B) e he hb
       exact ihk e.on this af⟩
      rw [hr] at this
      simp at this
   have:=hall n (dN n)
   rw [F n (dN n)] at this
   cases this
  ·obtain ⟨O,X,o,ho,u⟩:=(eU hok hsz hls i).1 hi
   have hin:i<=n:=by
    rcases Nat.lt_or_ge n i with h | h
    ·exfalso
     have:=nZ ht ho h h G u
     rw [F n (dN n)] at this
     cases this
    ·exact h
   have H:∀ v,(List.range l.length).countP (fun k=>(upd σ i v k).isNone)<=r:=fun v=>by
    have:=jm (p:=fun k=>(σ k).isNone) (p':=fun k=>(upd σ i v k).isNone) (fun x J=>by
     unfold upd at J
     split at J
     ·simp at J
     ·exact J) (i:=i) (by simp [X]) vL (List.mem_range.2 O)
    omega
   have A:∀ v k,k < l.length->(d.setIfInBounds i true)[k]?=some (upd σ i v k).isSome:=fun v k hk=>MU
   rcases Nat.lt_or_ge i n with h | h
   ·refine wpOp_mono ?_ (S σ i o w h ho X u hI)
    rintro C w' ⟨v,rfl,hI'⟩
    rw [<- pF (v:=v) hnd ho X O]
    exact ih _ (upd σ i v) w' (by simp [hsz]) (A v) (fun k hk=>by rw [upd_ne (by omega)];exact F k hk) (G.upd ho u) (H v) hI'
   ·obtain rfl:i=n:=by omega
    have s:∀ j,j < i->j≠f->(σ j).isSome=true:=fun j hj M=>Im hb ho G u hj M
    have K:∀ (z:Nat) (g:Array Bool) (C:Act) (w':World),g.size=l.length->(∀ k,k < l.length->g[k]?=some (decide (k < i + 1)))->l.length - (i + 1)<=z->wpList P l.toArray Q (l.drop (i + 1)) C w'->wpAny P .any l.toArray Q z g C w':=fun z g C w' h1 h2 h3 h4=>
     rU hok ht (l.drop (i + 1)) z (i + 1) g C w' rfl (dN _) af h1 h2 (by rw [yj];omega) h4
    have hge:∀ (τ:Nat->Option Value),(∀ k,i + 1<=k->τ k=none)->l.length - (i + 1)<=(List.range l.length).countP (fun k=>(τ k).isNone):=fun τ hτ=>by
     have e:List.range l.length=List.range (i + 1) ++ (List.range (l.length - (i + 1))).map ((i + 1) + ·):=by
      rw [<- List.range_add];congr 1;omega
     rw [e,List.countP_append]
     have:((List.range (l.length - (i + 1))).map ((i + 1) + ·)).countP (fun k=>(τ k).isNone)=l.length - (i + 1):=by
      rw [List.countP_eq_length.2]
      ·simp
      ·intro x J
       obtain ⟨y,_,rfl⟩:=List.mem_map.1 J
       simp [hτ (i + 1 + y) af]
     omega
    cases Zs:σ f with
    | some vf=>
     refine wpOp_mono ?_ (T σ w (fun k hk=>?_) F hI)
     ·intro C w' h4
      refine K r _ C w' (by simp [hsz]) (fun k hk=>?_) ?_ h4
      ·rw [A undef k hk]
       congr 1
       by_cases hki:k=i
       ·subst hki;simp [upd]
       ·rw [upd_ne hki]
        by_cases B:k < i
        ·by_cases L:k=f
         ·subst L;simp [Zs];omega
         ·simp [s k B L];omega
        ·simp [F k af];omega
      ·exact ic (hge (upd σ i undef) (fun k hk=>by rw [upd_ne (by omega)];exact F k (by omega))) (H undef)
     ·by_cases L:k=f
      ·subst L;rw [Zs];rfl
      ·exact s k hk L
    | none=>
     refine wpOp_mono ?_ (U σ w s Zs F hI)
     intro C w' h4
     have aaJ:nA l (upd σ i undef):=G.upd ho u
     have E:upd σ i undef f=none:=by rw [upd_ne (by omega)];exact Zs
     have hpos:0 < (List.range l.length).countP (fun k=>(upd σ i undef k).isNone):=List.countP_pos_iff.2 ⟨f,List.mem_range.2 af,by simp [E]⟩
     have hc2:=H undef
     obtain ⟨Y,rfl⟩:∃ m,r=m + 1:=⟨r - 1,af⟩
     have Z:f < l.length:=af
     have R:f∈Region.ready .any l.toArray (d.setIfInBounds i true):=(eU hok (by simp [hsz]) (A undef) f).2 ⟨Z,E,l[f],gG Z,fun e he hb'=>by
      have h5:=D f l[f] (gG Z) e he hb'
      rw [upd_ne af]
      exact s e.on af af⟩
     refine ⟨fun h0=>(by rw [h0] at R;cases R),fun j hj=>?_⟩
     obtain ⟨hjlt,N,oj,hoj,hdj⟩:=(eU hok (by simp [hsz]) (A undef) j).1 hj
     obtain rfl:j=f:=by
      rcases Nat.lt_or_ge j i with h5 | h5
      ·by_cases M:j=f
       ·exact M
       ·have h6:=s j h5 M
        rw [upd_ne af] at N
        rw [N] at h6;cases h6
      ·rcases Nat.eq_or_lt_of_le h5 with h6 | h6
       ·subst h6;rw [SK] at N;cases N
       ·have:=nZ ht hoj af (show f < j by omega) aaJ hdj
        rw [E] at this;cases this
     refine wpOp_mono ?_ h4
     intro V W h5
     refine K Y _ V W (by simp [hsz]) (fun k hk=>?_) ?_ h5
     ·by_cases hkj:k=j
      ·subst hkj
       rw [Array.getElem?_setIfInBounds]
       simp [hsz,hk];omega
      ·rw [Array.getElem?_setIfInBounds_ne (Ne.symm hkj),A undef k hk]
       congr 1
       by_cases hki:k=i
       ·subst hki;simp [upd]
       ·rw [upd_ne hki]
        by_cases B:k < i
        ·simp [s k B hkj];omega
        ·simp [F k af];omega
     ·have:=jm (p:=fun k=>(upd σ i undef k).isNone) (p':=fun k=>(upd (upd σ i undef) j undef k).isNone) (fun x J=>by
       unfold upd at J ⊢
       split at J
       ·simp at J
       ·exact J) (i:=j) (by simp [E]) vL (List.mem_range.2 hjlt)
      have h7:=hge (upd (upd σ i undef) j undef) (fun k hk=>by rw [upd_ne (by omega),upd_ne (by omega)];exact F k (by omega))
      omega
theorem uo {n:Nat} {o:Oper} {r:List Oper} {w:World} (d:l[n]?=some o) (h:wpList P l.toArray Q (o :: r) a w):wpOp P l.toArray Q n (fun e w'=>wpList P l.toArray Q r e w') a w:=by
 unfold Go.wpOp
 simp only [iZ,d]
 exact h
theorem Bg {n:Nat} {o:Oper} (d:l[n]?=some o):l.drop n=o :: l.drop (n + 1):=by
 have e:=(List.getElem?_eq_some_iff.1 d).1
 rw [List.drop_eq_getElem_cons e]
 congr 1
 exact (List.getElem?_eq_some_iff.1 d).2
theorem Ey (z:(Nat->Option Value)->World->Prop) (T:World->World->Prop) {id:Nat} {w:World} (n f:Nat) (Rs:List RR) (h0:z (fun _=>none) w.drew) [hs:Fe T Rs]
 (steps:aH (ig P Q l a (bQ Rs) z T) 0 (l.take n))
 (u:∀ σ w',z σ w'->(∀ k,k < n->(σ k).isSome=true)->Ends (bQ Rs) w' σ (fun a'=>wpList P l.toArray Q (l.drop n) a' w') 0 (l.take n) a)
 (x:∀ σ w',z σ w'->(∀ k,k < n->k≠f->(σ k).isSome=true)->dx (bQ Rs) w' σ [f] (fun a'=>wpList P l.toArray Q ((l[n]?).toList ++ ((l[f]?).toList ++ l.drop (n + 1))) a' w') 0 (l.take n) a)
 (J:P.follows .mixedOrders=true:=by kernel_rfl) (hok:fU l=true:=by kernel_rfl) (I:(jB l).all (fun t=>decide (t < a.tmps.size))=true:=by kernel_rfl) (D:decide (n < l.length)=true:=by kernel_rfl) (E:decide (f < n)=true:=by kernel_rfl) (ht:qG l (n + 1)=true:=by kernel_rfl) (hb:K9 l n f=true:=by kernel_rfl) :
 (Code.region id l.toArray true).wp P Q a w:=by
 have hn:(jB l).Nodup:=zR
 have p:n < l.length:=by simpa using D
 have A:f < n:=by simpa using E
 refine wp_region_any J ?_
 have K:∀ k,bW l (fun _=>none) a k=a:=fun k=>MX
 have hlt:(l.take n).length=n:=by rw [vB];omega
 have s:∀ σ:Nat->Option Value,bW l σ a n=bW (l.take n) σ a n:=fun σ=>Rj
 have i:l[n]?=some l[n]:=gG p
 have B:l[f]?=some l[f]:=gG af
 have:=xD (P:=P) (Q:=Q) (a:=a) hok n f A p ht hb (fun σ w'=>z σ w'/\(∀ j v,σ j=some v->bQ Rs j v w')/\(∀ j oj,l[j]?=some oj->(σ j).isSome=true->∀ e∈oj.after,Region.binds .any e=true->(σ e.on).isSome=true)) ?_ ?_ ?_ l.length (Array.replicate l.length false) (fun _=>none) w.drew bE (fun k hk=>by simp [hk]) (fun _ _=>rfl) (fun j oj _ h=>by simp at h) (by
  refine ic List.countP_le_length ?_
  simp) ⟨h0,fun j v h=>by (cases h),fun j oj _ h=>by simp at h⟩
 ·rw [K] at this
  simpa using this
 ·exact Q9
 ·rintro σ w' d g ⟨hS1,hR,-⟩
  rw [nC (m:=l.length) (n:=n) af g,s]
  have:=nu (G:=fun a'=>wpList P l.toArray Q (l.drop n) a' w') (l.take n) [] (u σ w' hS1 d) (fun k hk=>by
   have y:k < n:=by simp at hk;omega
   cases hv:σ k with
   | none=>have:=d k y;rw [hv] at this;simp at this
   | some v=>exact ⟨v,rfl,hR k v hv⟩)
  rw [qz,hlt,Bg i] at this
  exact uo i this
 ·rintro σ w' d F g ⟨hS1,hR,-⟩
  rw [nC (m:=l.length) (n:=n) af g,s]
  have:=oh (ts:=[f]) (G:=fun a'=>wpList P l.toArray Q ((l[n]?).toList ++ ((l[f]?).toList ++ l.drop (n + 1))) a' w') (l.take n) [] (x σ w' hS1 d) (fun k hk H=>by
   have y:k < n:=by simp at hk;omega
   have C:k≠f:=by simpa using H
   cases hv:σ k with
   | none=>have:=d k y C;rw [hv] at this;simp at this
   | some v=>exact ⟨v,rfl,hR k v hv⟩) (fun k hk=>by
   have:k=f:=by simpa using hk
   rw [this];exact F)
  rw [qz,hlt] at this
  simp only [i,B,Option.toList_some,xZ,qz] at this
  refine wpOp_mono ?_ (uo (r:=l[f] :: l.drop (n + 1)) i this)
  intro a' w'' h
  exact uo B h
theorem La {D:Nat->Prop} {W0:World} (c:Nat) (k:World->World->Prop) {id:Nat} {w:World} (n f:Nat) (m:c < n/\c≠f) (Rs:List RR) (h0:Old W0 w.drew) [hs:Fe (Fr D) Rs]
 (steps:aH (T9 D c k P Q l a Rs W0) 0 (l.take n))
 (g:∀ σ w' x y,Old W0 x->k x y->Old y w'->Ends (bQ Rs) w' σ (fun p=>wpList P l.toArray Q (l.drop n) p w') 0 (l.take n) a)
 (h:∀ σ w' x y,Old W0 x->k x y->Old y w'->dx (bQ Rs) w' σ [f] (fun p=>wpList P l.toArray Q ((l[n]?).toList ++ ((l[f]?).toList ++ l.drop (n + 1))) p w') 0 (l.take n) a)
 (B:P.follows .mixedOrders=true:=by kernel_rfl) (r:fU l=true:=by kernel_rfl) (i:(jB l).all (fun t=>decide (t < a.tmps.size))=true:=by kernel_rfl) (s:decide (n < l.length)=true:=by kernel_rfl) (u:decide (f < n)=true:=by kernel_rfl) (C:qG l (n + 1)=true:=by kernel_rfl) (E:K9 l n f=true:=by kernel_rfl) :
 (Code.region id l.toArray true).wp P Q a w:=
 Ey (BC W0 c k) (Fr D) n f Rs h0 steps (fun σ w' hI d=>by
  have j:=d c m.1
  unfold BC at hI
  split at hI
  ·rename_i e;rw [e] at j;cases j
  ·obtain ⟨x,y,z,A,h4⟩:=hI
   exact g σ w' x y z A h4) (fun σ w' hI d=>by
  have j:=d c m.1 m.2
  unfold BC at hI
  split at hI
  ·rename_i e;rw [e] at j;cases j
  ·obtain ⟨x,y,z,A,h4⟩:=hI
   exact h σ w' x y z A h4) B r i s u C E
end
def NS.asks (s:NS):NS:=if s.member/\s.now - s.n.last≥4 then
 let s:=s.aZ fun n=>{ n with last:=s.now }
 let id:=s.n.hold.mV s.now s.known.az
 let s:=s.aZ fun n=>{ n with hold:=n.hold.ask s.now s.known.az }
 if 0 < id then
  let s:=s.aZ fun n=>{ n with asked:=fun x=>if x=id - 4 then none else if x=id then some s.now else n.asked x }
  (s.others { aO.zero with kind:=3,id:=id,asked:=s.now }).bJ.kG s.n.self { aO.zero with kind:=3,id:=id,asked:=s.now }
 else s
 else s
structure Lone (s:NS) (i:Nat):Prop where
 known:∃ ke,s.known=⟨ke,[(i:Int)]⟩
 there:s.there i=true
 op:s.isOpen=false
 jo:s.bL=-1
 well:s.gD=true∨s.now - s.n.well < 60
 otd:s.kK=-1
 leads:s.leads=true
def NS.jO (s:NS):NS:=(if s.gD=true then s.aZ fun n=>{ n with well:=s.now } else s).aZ fun n=>{ n with p:=none }
theorem NS.qp (s:NS):s.jO.n.kept.log=s.n.kept.log:=by
 unfold NS.jO
 split <;> rfl
theorem NS.OH {s:NS} (h:¬ (s.member/\s.now - s.n.last≥4)):s.asks=s:=if_neg h
def NS.fu (s:NS):NS:=(s.aZ fun n=>{ n with last:=s.now }).aZ fun n=>{ n with hold:=n.hold.ask s.now s.known.az }
theorem NS.Lb {s:NS} (h:s.member/\s.now - s.n.last≥4) (d:¬ 0 < s.n.hold.mV s.now s.known.az):s.asks=s.fu:=by
 unfold NS.asks
 rw [if_pos h]
 exact if_neg d
theorem NS.Lc {s:NS} (h:s.member/\s.now - s.n.last≥4) {E:Int} (e:s.n.hold.mV s.now s.known.az=E) (d:0 < E):s.asks=((s.fu.aZ fun n=>{ n with asked:=fun x=>if x=E - 4 then none else if x=E then some s.now else s.n.asked x }).others { aO.zero with kind:=3,id:=E,asked:=s.now }).bJ.kG s.n.self { aO.zero with kind:=3,id:=E,asked:=s.now }:=by
 subst e
 unfold NS.asks
 rw [if_pos h]
 exact if_pos d
def EpA (ke:Int) (v:Value) (_:World):Prop:=∃ V,v=.agg #[zi ke,V]
instance (T:World->World->Prop) (ke:Int):uT T (EpA ke):=⟨fun _ _ _ _ h=>h⟩
def HQ (c i:Nat) (own:Nat->Tag) (g:Nat) (h:kV) (x y:World):Prop:=(∃ F',dz y F' g h/\jH x (fun k=>own k=bM c i 7) F')/\Fr (fun k=>own k=bM c i 7) x y
section
variable {w:World} {own:Nat->Tag} {c i W g k:Nat} {u:bV} {s:NS}
theorem Ld (c i q:Nat):bM c i q≠bS:=by
 unfold bM bS
 split
 ·simp
 ·split <;> simp
theorem aF.fu (h:aF s i (k + 16)):aF s.fu i (k + 14):=by
 have d:=h.mono (show k + 14<=k + 16 by omega)
 have e:=h.now
 exact ⟨d.conf,d.now,d.acc,d.log,d.join,d.disk,d.junk,((h.hold.mono af:xh _ (k + 14 + 1) _)).asked e _,d.gr,d.wa,d.hd,d.rf,d.seen,d.p,d.bO,d.aA,⟨by show -4<=s.now;omega,e.2⟩,d.well⟩
theorem aF.asks (h:aF s i (k + 15)):aF s.asks i (k + 12):=by
 unfold NS.asks
 split
 ·have h2:aF ((s.aZ fun n=>{ n with last:=s.now }).aZ fun n=>{ n with hold:=n.hold.ask s.now (s.aZ fun n=>{ n with last:=s.now }).known.az }) i (k + 14):=by
   have d:=h.mono (show k + 14<=k + 15 by omega)
   have e:=h.now
   exact ⟨d.conf,d.now,d.acc,d.log,d.join,d.disk,d.junk,h.hold.asked e _,d.gr,d.wa,d.hd,d.rf,d.seen,d.p,d.bO,d.aA,⟨by show -4<=s.now;omega,e.2⟩,d.well⟩
  simp only
  split
  ·exact UR
  ·exact h2.mono af
 ·exact h.mono af
theorem aF.jO (h:aF s i k):aF s.jO i k:=by
 unfold NS.jO
 split
 ·exact h.qh.Ba none (fun x d=>by cases d)
 ·exact h.Ba none (fun x d=>by cases d)
theorem FX (N:aN w own c i W g u s) (ok:aF s i (k + 16)) (hn:s.conf.nodes=1) (hid:0<=s.n.hold.last.id/\s.n.hold.last.id<=100000000000) (zS:s.now<=1000000000000) (hL:Lone s.asks i) (T8:iL s.asks.n.kept.log) (hG:s.member/\s.now - s.n.last≥4->s.known.nodes.contains (i:Int)=true/\s.left i=false/\s.n.grants.uE s.now i=true) :
 aS 79 #[g] w (fO w own c i W g u s.asks.jO.advance):=by
 have Ub:=aa hn
 have V8:=aa hG
 clear hG
 refine callsIn_wide.1 (callsIn_of_wp_marks (n:=5) func79 rfl trivial ?_ rfl)
 simp only [ntmps79,List.size_toArray,iR,jV,Nat.reduceAdd,Nat.reduceSub,Array.replicate_succ,Array.replicate_zero,List.push_toArray,List.append_toArray,qz,xZ]
 refine wpIn_wide.2 ?_
 obtain ⟨abJ,n1,d1,t1⟩:=N.box (.cells #[g] 94)
 obtain ⟨w1,hw1⟩:∃ x,x=w.alloc (.cells #[g] 94):=⟨_,rfl⟩
 rw [<- hw1] at n1 d1
 have b1:Bk w1 w.heap.size 94 #[g]:=hw1▸Bk.new w 94 _
 obtain ⟨Le,n2,d2,t2⟩:=n1.box (.cells #[g] 94)
 obtain ⟨C,hw2⟩:∃ x,x=w1.alloc (.cells #[g] 94):=⟨_,rfl⟩
 rw [<- hw2] at n2 d2
 have b2:Bk C w1.heap.size 94 #[g]:=hw2▸Bk.new w1 94 _
 go_wp2_with fail
 rw [<- hw1]
 refine (aaI g w1).mono ?_
 rintro e w9 ⟨rfl,rfl⟩
 rw [<- hw2]
 have B1:=aa (b1.old ((Old.refl' w1).ag (.cells #[g] 94)))
 rw [<- hw2] at B1
 have D2:=aa (d1.trans d2)
 have N2:=aa n2
 have B2:=aa b2
 have T2:=aa (show Le w.heap.size=bS from (d2.ext _ b1.lt).trans t1)
 have S1:=aa (show w.heap.size<=w1.heap.size from d1.fr.size)
 have S0:=aa (show w.heap.size<=C.heap.size from (d1.trans d2).fr.size)
 have S2:=aa (show w1.heap.size < C.heap.size from b2.lt)
 have T1:=aa t2
 clear n1 d1 t1 hw1 b1 n2 d2 t2 hw2 b2
 go_wp2_with fail
 refine (wpIn_wide (n:=5)).1 ?_
 refine zF (α:=Empty) (F:=Fence.wide) rfl aW (gf:=198) (lb:=#[w1.heap.size]) rfl trivial (enters_of func198 ay rfl) (fun x=>x.elim) (fun x=>x.elim) []
  (fun _ wr=>∃ d,aN wr d c i W g u s/\fT w own c i wr d/\(d w.heap.size=bS/\d w1.heap.size=bS/\d C.heap.size=bS/\d (C.heap.size + 1)=bS)/\Bk wr w.heap.size 94 #[g]/\Bk wr w1.heap.size 94 #[g]/\C.heap.size + 2<=wr.heap.size)
  ?h0 ?hI ?OD ?hseq ?oI ?hdone
 case oI=>exact fun _ x=>x.elim
 case OD=>
  rintro pre wr w' ⟨d,L,B,h3,h4,h5,h6⟩ ho
  exact ⟨d,L.old ho,B.old ho,h3,h4.old ho,h5.old ho,ic h6 ho.size⟩
 case hI=>
  rintro pre wr r ⟨d,L,B,h3,h4,h5,h6⟩
  have hf:=Fr.gU (S:=fun k=>k=C.heap.size + 1) (grownBy_putObj' wr (C.heap.size + 1) (.loop r)) (fun k _ e=>by cases e;rfl)
  have:=S1.o
  have:=S2.o
  exact ⟨d,L.qE h3.2.2.2 _,B.qE af _,h3,h4.fr hf af,h5.fr hf af,ic h6 hf.size⟩
 case h0=>
  intro r
  obtain ⟨abK,n3,d3,t3⟩:=N2.o.box (.deferred (some []))
  obtain ⟨aaK,n4,d4,t4⟩:=n3.box (.loop r)
  have e3:(C.alloc (.deferred (some []))).heap.size=C.heap.size + 1:=jW ..
  rw [e3] at t4
  have o4:=((Old.refl' C).ag (.deferred (some []))).ag (.loop r)
  have:=S1.o
  have:=S2.o
  refine ⟨aaK,n4,(D2.o.trans d3).trans d4,⟨?_,?_,?_,t4⟩,B1.o.old o4,B2.o.old o4,by rw [jW,e3];omega⟩
  ·rw [d4.ext _ (by rw [e3];omega),d3.ext _ af];exact T2.o
  ·rw [d4.ext _ (by rw [e3];omega),d3.ext _ af];exact T1.o
  ·rw [d4.ext _ (by rw [e3];omega)];exact t3
 case hseq=>
  intro J wr hJ Zt h0 _
  obtain ⟨d,L,B,h3,h4,h5,h6⟩:=hJ _ _ h0
  refine callsIn_wide.2 ((Wx L ok hn w1.heap.size h5 _).mono ?_)
  rintro e w' ⟨hv,ho⟩
  exact ⟨hv,Zt _ _ _ h0 ho⟩
 case hdone=>
  rintro wr ⟨d,L,B,h3,h4,h5,h6⟩ hd
  obtain ⟨now,hnw⟩:=aR (s.now)
  obtain ⟨la,hla⟩:=aR (s.n.last)
  obtain ⟨mb,hmb⟩:=aR (s.member)
  have Zp:=aa (hnw▸Cx L)
  have Zq:=aa (fun W' (hW:Old wr W')=>A7 (L.old hW) ok mb hmb)
  obtain ⟨p,hp⟩:=L.ex
  have H3:=aa (show aV wr (fun k=>d k=bM c i 3) (fun k=>d k=aB) W g p s.n from aV.ub (hp.at_ 3))
  have HS:=aa N.self
  have NR:=aa L
  have DR:=aa B
  have ER:=aa L.did
  have OK:=aa ok
  have TB:=aa h3.1
  have TD:=aa h3.2.2.1
  have Z:=aa h4
  have HD:=aa hd
  have Ud:=aa hL
  have Zu:=aa T8
  have WE:=aa hla
  have R:=aa hnw
  have Em:=aa hmb
  have HWW:=aa (show IntKind.i64.wrap (now - la)=now - la from kP _ (by have L:=ok.now;have B:=ok.last;rw [hnw] at L;rw [hla] at B;omega))
  have x0:=h4.cell 0
  have xl:=h4.lt
  simp only [iZ,je] at x0
  clear L B h3 h4 h5 h6 hd hp hnw hla hmb N ok hL N2 B1 B2 T1 T2 D2 S1 S2 hn
  go_wp2_with fail
  refine Zp.o.mono ?_
  rintro e w3 ⟨rfl,o3⟩
  have O3:=aa o3
  have f:=Z.o.old o3
  clear x0 xl o3
  have x0:=f.cell 0
  have xl:=f.lt
  simp only [iZ,je] at x0
  clear f
  go_wp2_with fail
  refine (Zq.o w3 O3.o).mono ?_
  rintro e w4 ⟨rfl,o4⟩
  have O4:=aa (O3.o.trans' o4)
  have f:=Z.o.old O4.o
  clear x0 xl o4
  have x0:=f.cell 0
  have xl:=f.lt
  simp only [iZ,je] at x0
  clear f
  have N4:=aa (NR.o.old O4.o)
  have D4:=aa (DR.o.old O4.o)
  have E4:=aa (ER.o.old O4.o)
  have Zv:=aa (OK.o.mono af:aF s i (k + 12))
  cases mb with
  | false=>
   have HA:=aa (show s.asks=s by unfold NS.asks;rw [if_neg (by rw [Em.o];simp)])
   have j:=aa (show Lone (s) i from HA.o▸Ud.o)
   have HP:=aa (show iL (s).n.kept.log from HA.o▸Zu.o)
   obtain ⟨M,D⟩:=j.o.known
   have T:=aa (Be N4.o Zv.o D j.o.there j.o.op j.o.jo j.o.well j.o.otd j.o.leads)
   have f:=E4.o.keep Z.o (.inr TB.o)
   have x0:=f.cell 0
   have xl:=f.lt
   simp only [iZ,je] at x0
   clear f D
   go_wp2_with fail
   refine T.o.mono ?_
   rintro e MO ⟨rfl,U,G,d20⟩
   have V:=aa (D4.o.trans d20)
   have l:=aa (E4.o.trans d20)
   have X:=aa (nO G (Zv.o.jO:aF _ i (k + 10 + 2)) (by have h:=HP.o;rw [<- NS.qp] at h;exact h))
   have f:=l.o.keep Z.o (.inr TB.o)
   clear x0 xl G d20
   have x0:=f.cell 0
   have xl:=f.lt
   simp only [iZ,je] at x0
   clear f
   go_wp2_with fail
   refine X.o.mono ?_
   rintro e H ⟨rfl,z,I,d21⟩
   have TZ:=(((l.o.trans d21).ext _ (Array.getElem?_eq_some_iff.1 HD.o).1)).trans TD.o
   have HZ:=aa (show ∃ d,aN (H.putObj C.heap.size (.deferred none)) d c i W g u s.asks.jO.advance/\fT w own c i (H.putObj C.heap.size (.deferred none)) d from ⟨z,by rw [HA.o];exact I.qE TZ _,(V.o.trans d21).qE S0.o _⟩)
   have hD:=(l.o.trans d21).um HD.o TD.o
   clear x0 xl I d21
   go_wp2_with fail
   refine ⟨bE,.inl ⟨_,_,rfl,run_takeDeferred hD,?_⟩⟩
   exact ⟨_,results_none rfl _ _ _,rfl,HZ.o⟩
  | true=>
   obtain ⟨u0,u1,u2,u3,u4,u5,u6,u8,u9,dF,dD,dK,eu,aX,ug⟩:=(H3.o.old O4.o).c HS.o
   clear u0 u1 u2 u3 u4 u5 u6 u8 u9 dF dK eu aX
   rw [WE.o] at dD
   have hww:=HWW.o
   by_cases hge:(4:Int)<=now - la
   ·have HGE:=aa (show s.member/\s.now - s.n.last≥4 by rw [R.o,WE.o];exact ⟨Em.o,hge⟩)
    obtain ⟨p4,hp4⟩:=N4.o.ex
    obtain ⟨n5,d5⟩:=aN.setLast hp4 N4.o now
    have f11:=(aV.ub (hp4.at_ 3):aV w4 _ _ W g p4 s.n).fz 11
    obtain ⟨w5,Uc⟩:∃ x,x=w4.setCell ⟨g,11,none⟩ (zi now):=⟨_,rfl⟩
    rw [<- Uc] at n5 d5
    obtain ⟨s5,hs5⟩:=aR ((s.aZ fun n=>{ n with last:=now }))
    rw [hs5] at n5
    have N5:=aa n5
    have D5:=aa (D4.o.trans d5)
    have E5:=aa (E4.o.trans d5)
    have aaL:=aa hs5
    have Dq:=aa (E5.o.keep Z.o (.inr TB.o))
    obtain ⟨p5,Qy⟩:=N5.o.ex
    have YY:=aa (aV.ub (Qy.at_ 3):aV w5 (fun k=>d k=bM c i 3) (fun k=>d k=aB) W g p5 (s5).n)
    have YZ:=aa N5.o.self
    have Zo:=aa Qy
    clear Qy
    obtain ⟨M,kn,hk⟩:∃ M kn,s5.known=⟨M,kn⟩:=⟨_,_,rfl⟩
    obtain ⟨m,hm⟩:=aR (kn.length)
    have hk0:s.known=⟨M,kn⟩:=by rw [<- hk,<- hs5];rfl
    have FO:m<=5:=by have:=OK.o.acc.len;rw [show s.n.kept.acc.known=⟨M,kn⟩ from hk0] at this;exact hm▸this
    have HKE:=aa (show s.known.az=M by rw [hk0])
    obtain ⟨E,hE⟩:=aR (s.n.hold.mV now M)
    have HE:=aa hE
    have cK:=aa (fun W' (hW:Old w5 W')=>(show jY Old prog 56 [av g 0] W' (EpA M) from .of (zu (N5.o.old hW) (base:=w5.heap.size) hW.size hk hm FO) fun e C ⟨v,L,⟨A,q,B,_⟩,h3⟩=>⟨v,L,⟨_,B⟩,h3⟩))
    have HH5:=aa (show dz w5 (fun k=>d k=bM c i 7) p5.ho s.n.hold by have:=Zo.o.at_ 7;rw [<- hs5] at this;exact this)
    have HTN:=aa (show ¬ d w.heap.size=bM c i 7 by rw [TB.o];exact fun h=>Ld c i 7 h.symm)
    have HSI:=aa (show s.n.self=(i:Int) from NR.o.self)
    have aaM:=aa (show s.n.hold.row.length<=4 from OK.o.hold.row)
    have cA:=aa (fun W' (hW:Old w5 W')=>(aah _ p5.ho s.n.hold _ aaM.o now M E ⟨hid.1,af⟩ hE rfl W' (HH5.o.old hW)).mono fun e C h=>(show e=.returned (zi E)/\HQ c i d p5.ho (s.n.hold.ask now M) W' C from ⟨h.1,h.2.1,h.2.2⟩))
    clear n5 d5 hp4 hs5 hk hm FO hk0 hE
    go_wp2_with fail
    rw [<- Uc]
    clear Uc f11 dD ug x0 xl hww hge
    refine qo (fun k=>d k=bM c i 7) 8 (HQ c i d p5.ho (s.n.hold.ask now M)) 10 aW w5 [.val g,.val g,.val (av g 9),.val p5.ho,.val (zi now),.val g,.rel (EpA M),.val (zi M),.val (zi E),.val (zi E)] ((Old.refl' _).drew') ?st ?en
    case st=>
     refine .cons (sp1 (fun _ _ h=>h.2) [] [(1,w.heap.size)] ?c0)<|.cons (sp1 (fun _ _ h=>h.2) [(0,31)] [] ?_)<|.cons (sp1 (fun _ _ h=>h.2) [(1,32)] [] ?_)<|.cons (ve (fun _ _ h=>h.2) [(2,33)] [] ?c3)<|.cons (sp1 (fun _ _ h=>h.2) [] [(4,zi now)] ?_)<|.cons (sp1 (fun _ _ h=>h.2) [] [(1,w.heap.size)] ?c5)<|.cons (SI (fun _ _ h=>h.2) 56 func56 [(5,36)] [] _ ?c6)<|.cons (ve (fun _ _ h=>h.2) [(6,37)] [] ?c7)<|.cons (Et (fun _ _ h=>h.2) 135 func135 [(3,34),(4,35),(7,38)] [] _ ?c8)<|.cons (sp1 (fun _ _ h=>h.2) [(8,39)] [] ?_)<|.nil
     case c0=>exact UN
     case c3=>
      intro E w' hS hc hf
      rintro e33
      obtain ⟨u0,u1,u2,u3,u4,u5,u6,u8,u9,dF,dD,dK,eu,aX,ug⟩:=(YY.o.old hS).c YZ.o
      clear u0 u1 u2 u3 u4 u5 u6 u8 dF dD dK eu aX
      exact ⟨_,dP,rfl⟩
     case c5=>exact UN
     case c6=>
      intro E w' hS hc
      rintro e36
      exact ⟨_,jQ,cK.o w' hS⟩
     case c7=>
      intro E w' hS hc hf
      rintro _ ⟨V1,rfl⟩ e37
      have f1:=qR (zi M) V1
      exact ⟨_,dP,rfl⟩
     case c8=>
      intro E w' hS hc
      rintro e34 e35 e38
      exact ⟨_,jQ,(cA.o w' hS).mono fun e C h=>⟨_,h.1,rfl,h.2⟩⟩
     all_goals
      intro E w' hS hc hf
      repeat intro _
      exact ⟨_,dP,rfl⟩
    case en=>
     intro jA w9 x9 y9 OI vG Lf
     iterate 6 refine Ends.eqv _ _ rfl (fun _ h=>h) ?_
     refine Ends.ex _ rfl ?_
     rintro _ _ ⟨V1,rfl⟩
     iterate 3 refine Ends.eqv _ _ rfl (fun _ h=>h) ?_
     refine Ends.nil ?_
     simp only [aC,ax,fM,fJ]
     simp only [MH,Ja,List.drop_nil]
     obtain ⟨⟨F',hA,hG⟩,hF⟩:=vG
     obtain ⟨O,n6,d6⟩:=aN.CG (x:=s.n.hold.ask now M) (Zo.o.old OI) (N5.o.old OI) (hA.old Lf) hG (hF.trans (Fr.aj Lf))
     obtain ⟨w6,rfl⟩:∃ x,x=w9:=⟨_,rfl⟩
     have N6:=aa (show aN w6 O c i W g u s.fu by
      rw [<- aaL.o] at n6
      unfold NS.fu
      rw [R.o,HKE.o]
      exact n6)
     have D6:=aa ((D5.o.old OI).trans d6)
     have E6:=aa ((E5.o.old OI).trans d6)
     have OK6:=aa (show aF s.fu i (k + 14) from OK.o.fu)
     clear n6 d6 hA hG hF OI Lf
     have f:=E6.o.keep Z.o (.inr TB.o)
     have x0:=f.cell 0
     have xl:=f.lt
     simp only [iZ,je] at x0
     clear f
     by_cases hE:(0:Int) < E
     ·obtain ⟨p6,WG⟩:=N6.o.ex
      have Zw:=aa (show E<=100000000001 by
       have h:=HE.o
       unfold kV.mV at h
       split at h <;> omega)
      have MP:=aa (show 0<=now/\now<=1000000000000 by have L:=OK.o.now;rw [<- R.o];exact ⟨L.1,zS⟩)
      have hw4:IntKind.i64.wrap (E - 4)=E - 4:=kP _ (by have:=Zw.o;omega)
      obtain ⟨w7,hr7,ha7,hf7⟩:=(WG.at_ 8:mq w6 (fun k=>O k=bM c i 8) p6.ak s.fu.n.asked).put E now (by have:=Zw.o;omega)
      obtain ⟨Eu,n7,d7⟩:=aN.zA WG N6.o ha7 (fun k hk=>.inl hk) (hf7.mono fun k _ (e:k=p6.ak)=>by rw [e];exact (WG.at_ 8:mq w6 (fun k=>O k=bM c i 8) p6.ak s.fu.n.asked).gF)
      have H36:=(aV.ub (WG.at_ 3):aV w6 (fun k=>O k=bM c i 3) (fun k=>O k=aB) W g p6 s.fu.n)
      obtain ⟨u0,u1,u2,u3,u4,u5,u6,u8,u9,dF,dD,dK,eu,aX,ug⟩:=H36.c N6.o.self
      clear u0 u1 u2 u3 u4 u5 u6 u8 u9 dD dK eu aX
      obtain ⟨p7,Ue⟩:=n7.ex
      obtain ⟨w8,Uf,ha8,WH⟩:=(Ue.at_ 8:mq w7 (fun k=>Eu k=bM c i 8) p7.ak (fun y=>if y=E then some now else s.fu.n.asked y)).del (E - 4) (by have:=Zw.o;omega) 0
      obtain ⟨CL,n8,d8⟩:=aN.zA Ue n7 ha8 (fun k hk=>.inl hk) (WH.mono fun k _ (e:k=p7.ak)=>by rw [e];exact (Ue.at_ 8:mq w7 (fun k=>Eu k=bM c i 8) p7.ak (fun y=>if y=E then some now else s.fu.n.asked y)).gF)
      have HR7:=aa hr7
      have YX:=aa Uf
      have N7:=aa n7
      have N8:=aa n8
      have E7:=aa (E6.o.trans d7)
      have E8:=aa ((E6.o.trans d7).trans d8)
      have D8:=aa ((D6.o.trans d7).trans d8)
      have HP7:=aa Ue
      have f:=E7.o.keep Z.o (.inr TB.o)
      have y0:=f.cell 0
      have yl:=f.lt
      simp only [iZ,je] at y0
      have H37:=(aV.ub (Ue.at_ 3):aV w7 (fun k=>Eu k=bM c i 3) (fun k=>Eu k=aB) W g p7 _)
      obtain ⟨v0,v1,v2,v3,v4,v5,v6,v8,v9,v10,v11,v12,v13,aaN,vg⟩:=H37.c N7.o.self
      obtain ⟨s8,P⟩:∃ x,(s.fu.aZ fun n=>{ n with asked:=fun x=>if x=E - 4 then none else if x=E then some now else s.n.asked x })=x:=⟨_,rfl⟩
      have N9:=aa (show aN w8 CL c i W g u s8 by rw [<- P];exact N8.o)
      have OK8:=aa (show aF s8 i (k + 14) by
       rw [<- P]
       have B:=OK6.o
       exact ⟨B.conf,B.now,B.acc,B.log,B.join,B.disk,B.junk,B.hold,B.gr,B.wa,B.hd,B.rf,B.seen,B.p,B.bO,B.aA,B.last,B.well⟩)
      obtain ⟨mg,hmg⟩:∃ mg:aO,({ aO.zero with kind:=3,id:=E,asked:=now }:aO)=mg:=⟨_,rfl⟩
      have HMG:=aa hmg
      obtain ⟨M3,hM3⟩:=aR (iX 3 { aO.zero with kind:=3,id:=E,asked:=now } aQ aQ aQ aQ aQ)
      have WI:=aa (show prog.built 110 [(0,zi 3),(5,zi E),(6,zi now)]=some M3 from hM3▸OE E now)
      have hT:fe w8 CL { aO.zero with kind:=3,id:=E,asked:=now } M3:=⟨_,_,_,_,_,hM3.symm,qN.nil _ _,qN.nil _ _,qN.nil _ _,FR.nil _ _,uj.nil _ _⟩
      have hg3:=V8.o HGE.o
      have aaO:=aa (K8 (by rw [<- P];exact Ub.o) (by rw [<- P];exact hg3.1) (by rw [<- P];exact hg3.2.1) (by rw [<- P];exact hg3.2.2) N9.o (OK8.o.mono af:aF s8 i (k + 8 + 6)) E now ⟨af,by have:=Zw.o;omega⟩ MP.o M3 hT)
      have HA:=aa (show s.asks=(s8.others { aO.zero with kind:=3,id:=E,asked:=now }).bJ.kG i { aO.zero with kind:=3,id:=E,asked:=now } by
       rw [NS.Lc HGE.o (by rw [R.o,HKE.o];exact HE.o) hE,<- P,R.o,HSI.o])
      have OKA:=aa (show aF s.asks i (k + 12) from (OK.o.mono af:aF s i (k + 15)).asks)
      have XB8:=aa (E8.o.keep Z.o (.inr TB.o))
      clear WG Ue hr7 ha7 hf7 Uf ha8 WH n7 n8 d7 d8 H36 H37 v0 v1 v2 v3 v4 v5 v6 v8 v9 v11 v12 v13 aaN f P hmg hM3 hT
      go_upto_region 12 with (first | refine yG rfl (.tmp 45) (.tmp 46) (.tmp 47) 102 rfl (.map (some p6.ak)) (zi E) (zi now) rfl rfl rfl HR7.o ?_ | refine Ew rfl (.tmp 51) (.tmp 53) 102 3 rfl (.map (some p7.ak)) (zi (E - 4)) rfl rfl YX.o ?_)
      clear dF ug x0 xl y0 yl v10 vg
      have x0:=XB8.o.cell 0
      have xl:=XB8.o.lt
      simp only [iZ,je] at x0
      apply wp_region_lit
      refine Go.Great.wpList_readTo rfl _ rfl (av g 0) dP ?_
      refine Go.Great.wpList_readTo rfl _ rfl (zi E) ay ?_
      refine Go.Great.wpList_readTo rfl _ rfl (zi now) ay ?_
      refine Go.wpList_buildTo rfl 110 _ rfl _ rfl M3 ((congrArg (prog.built 110) (show _=[(0,zi 3),(5,zi E),(6,zi now)] by kernel_rfl)).trans WI.o) ?_
      simp only [aC,ax,fM,fJ]
      go_wp2_with fail
      refine aaO.o.mono ?_
      rintro e qF ⟨rfl,WJ,n10,d10⟩
      obtain ⟨s10,OJ⟩:=aR (s.asks)
      rw [<- HA.o,OJ] at n10
      have N10:=aa n10
      have D10:=aa (D8.o.trans d10)
      have E10:=aa (E8.o.trans d10)
      have WK:=aa (show aF s10 i (k + 12) from OJ▸OKA.o)
      have SL:=aa OJ
      clear n10 d10 OJ x0 xl
      have K:=aa (show Lone (s10) i from SL.o▸Ud.o)
      have HP:=aa (show iL (s10).n.kept.log from SL.o▸Zu.o)
      obtain ⟨M,D⟩:=K.o.known
      have T:=aa (Be N10.o WK.o D K.o.there K.o.op K.o.jo K.o.well K.o.otd K.o.leads)
      have f:=E10.o.keep Z.o (.inr TB.o)
      have x0:=f.cell 0
      have xl:=f.lt
      simp only [iZ,je] at x0
      clear f D
      go_wp2_with fail
      refine T.o.mono ?_
      rintro e MO ⟨rfl,U,G,d20⟩
      have V:=aa (D10.o.trans d20)
      have l:=aa (E10.o.trans d20)
      have X:=aa (nO G (WK.o.jO:aF _ i (k + 10 + 2)) (by have h:=HP.o;rw [<- NS.qp] at h;exact h))
      have f:=l.o.keep Z.o (.inr TB.o)
      clear x0 xl G d20
      have x0:=f.cell 0
      have xl:=f.lt
      simp only [iZ,je] at x0
      clear f
      go_wp2_with fail
      refine X.o.mono ?_
      rintro e H ⟨rfl,z,I,d21⟩
      have TZ:=(((l.o.trans d21).ext _ (Array.getElem?_eq_some_iff.1 HD.o).1)).trans TD.o
      have HZ:=aa (show ∃ d,aN (H.putObj C.heap.size (.deferred none)) d c i W g u s.asks.jO.advance/\fT w own c i (H.putObj C.heap.size (.deferred none)) d from ⟨z,by rw [SL.o];exact I.qE TZ _,(V.o.trans d21).qE S0.o _⟩)
      have hD:=(l.o.trans d21).um HD.o TD.o
      clear x0 xl I d21
      go_wp2_with fail
      refine ⟨bE,.inl ⟨_,_,rfl,run_takeDeferred hD,?_⟩⟩
      exact ⟨_,results_none rfl _ _ _,rfl,HZ.o⟩
     ·have HA:=aa (show s.asks=s.fu from NS.Lb HGE.o (by rw [R.o,HKE.o,HE.o];exact hE))
      have Y:=aa (show Lone (s.fu) i from HA.o▸Ud.o)
      have HP:=aa (show iL (s.fu).n.kept.log from HA.o▸Zu.o)
      obtain ⟨M,D⟩:=Y.o.known
      have T:=aa (Be N6.o (OK6.o.mono af:aF s.fu i (k + 12)) D Y.o.there Y.o.op Y.o.jo Y.o.well Y.o.otd Y.o.leads)
      have f:=E6.o.keep Z.o (.inr TB.o)
      have x0:=f.cell 0
      have xl:=f.lt
      simp only [iZ,je] at x0
      clear f D
      go_wp2_with fail
      refine T.o.mono ?_
      rintro e MO ⟨rfl,U,G,d20⟩
      have V:=aa (D6.o.trans d20)
      have l:=aa (E6.o.trans d20)
      have X:=aa (nO G ((OK6.o.mono af:aF s.fu i (k + 12)).jO:aF _ i (k + 10 + 2)) (by have h:=HP.o;rw [<- NS.qp] at h;exact h))
      have f:=l.o.keep Z.o (.inr TB.o)
      clear x0 xl G d20
      have x0:=f.cell 0
      have xl:=f.lt
      simp only [iZ,je] at x0
      clear f
      go_wp2_with fail
      refine X.o.mono ?_
      rintro e H ⟨rfl,z,I,d21⟩
      have TZ:=(((l.o.trans d21).ext _ (Array.getElem?_eq_some_iff.1 HD.o).1)).trans TD.o
      have HZ:=aa (show ∃ d,aN (H.putObj C.heap.size (.deferred none)) d c i W g u s.asks.jO.advance/\fT w own c i (H.putObj C.heap.size (.deferred none)) d from ⟨z,by rw [HA.o];exact I.qE TZ _,(V.o.trans d21).qE S0.o _⟩)
      have hD:=(l.o.trans d21).um HD.o TD.o
      clear x0 xl I d21
      go_wp2_with fail
      refine ⟨bE,.inl ⟨_,_,rfl,run_takeDeferred hD,?_⟩⟩
      exact ⟨_,results_none rfl _ _ _,rfl,HZ.o⟩
   ·have HA:=aa (show s.asks=s from NS.OH (by rw [R.o,WE.o];exact fun h=>hge h.2))
    have j:=aa (show Lone (s) i from HA.o▸Ud.o)
    have HP:=aa (show iL (s).n.kept.log from HA.o▸Zu.o)
    obtain ⟨M,D⟩:=j.o.known
    have T:=aa (Be N4.o Zv.o D j.o.there j.o.op j.o.jo j.o.well j.o.otd j.o.leads)
    have f:=E4.o.keep Z.o (.inr TB.o)
    have x0:=f.cell 0
    have xl:=f.lt
    simp only [iZ,je] at x0
    clear f D
    go_wp2_with fail
    refine T.o.mono ?_
    rintro e MO ⟨rfl,U,G,d20⟩
    have V:=aa (D4.o.trans d20)
    have l:=aa (E4.o.trans d20)
    have X:=aa (nO G (Zv.o.jO:aF _ i (k + 10 + 2)) (by have h:=HP.o;rw [<- NS.qp] at h;exact h))
    have f:=l.o.keep Z.o (.inr TB.o)
    clear x0 xl G d20
    have x0:=f.cell 0
    have xl:=f.lt
    simp only [iZ,je] at x0
    clear f
    go_wp2_with fail
    refine X.o.mono ?_
    rintro e H ⟨rfl,z,I,d21⟩
    have TZ:=(((l.o.trans d21).ext _ (Array.getElem?_eq_some_iff.1 HD.o).1)).trans TD.o
    have HZ:=aa (show ∃ d,aN (H.putObj C.heap.size (.deferred none)) d c i W g u s.asks.jO.advance/\fT w own c i (H.putObj C.heap.size (.deferred none)) d from ⟨z,by rw [HA.o];exact I.qE TZ _,(V.o.trans d21).qE S0.o _⟩)
    have hD:=(l.o.trans d21).um HD.o TD.o
    clear x0 xl I d21
    go_wp2_with fail
    refine ⟨bE,.inl ⟨_,_,rfl,run_takeDeferred hD,?_⟩⟩
    exact ⟨_,results_none rfl _ _ _,rfl,HZ.o⟩
end
theorem WL (d v:Int) (j:0<=d) (f:wX d=v) (w:World):aS 206 #[zi d] w fun e w'=>e=.returned (zi v)/\w=w':=by
 have g:¬ d < 0:=af
 have k:(if d < 0 then (0:Int) else d)=d:=if_neg g
 have l:max d 0=d:=af
 by_cases h4:d<=4
 ·have e:v=8 * d:=by rw [<- f];unfold wX;omega
  have m:IntKind.i64.wrap (8 * d)=8 * d:=kP _ af
  subst e
  clear f
  have h:¬ 4 < d:=af
  have i:min d 4=d:=af
  go_enter func206,ntmps206
  go_wp2
  go_ret
  exact ⟨rfl,rfl⟩
 ·have e:v=32:=by rw [<- f];unfold wX;omega
  subst e
  clear f
  have h:4 < d:=af
  have i:min d 4=4:=af
  go_enter func206,ntmps206
  go_wp2
  go_ret
  exact ⟨rfl,rfl⟩
theorem aaP (now asked d:Int) (b:Bool) (h0:0<=now/\now<=2199023255552) (h:0<=asked/\asked<=2199023255552) (i:0<=d) (g:decide (wX d<=now - asked)=b) (w:World) :
 aS 139 #[zi now,zi asked,zi d] w fun e w'=>e=.returned (.bool b)/\w=w':=by
 obtain ⟨v,f⟩:=aR (wX d)
 have j:=aa (fun W=>WL d v i f W)
 rw [f] at g
 obtain ⟨k,l⟩:=h0
 obtain ⟨m,n⟩:=h
 have p:IntKind.i64.wrap (now - asked)=now - asked:=kP _ af
 clear f
 subst g
 go_enter func139,ntmps139
 go_wp2_with (go_at_call 206;refine (j.o _).mono ?_;rintro e w1 ⟨rfl,rfl⟩)
 go_ret
 exact ⟨by first | rfl | simp,rfl⟩
end Go.Proofs.YthihpfpbiajddaaGreat
