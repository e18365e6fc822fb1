/- Parts of the proof. -/
import Derived.Test.YthihpfpbiajddaaGreatHQWorldNobody16
set_option maxRecDepth 100000
set_option maxHeartbeats 8000000
open Go.Proofs.Tryz
namespace Go.Proofs.YthihpfpbiajddaaGreat
open Go.RowKit
structure jc where
 id:Int
 n:Nat
 seq:Int
 known:bC
 p:Option (aG×Int×Int)
def jc.new (id:Int) (n:Nat):jc:=⟨id,n,0,.zero,none⟩
def wX (tries:Int):Int:=8 * min (max tries 0) 4
def target (known:bC) (n:Nat) (tries:Int) (writes:Bool):Int:=
 if tries < 1∨2 < tries∨known.nodes=[]∨known.fits n=false then tries % n else if writes then known.head else known.nodes[(tries % known.nodes.length).toNat]?.getD 0
def jc.req (c:jc) (q:aG):aG:={ q with client:=c.id,seq:=c.seq + 1 }
def jc.mV (c:jc) (now:Int) (q:aG):Int:=if !(c.req q).q.may || decide (now < 0) || decide (1099511627776 < now) then 1 else if c.p.isSome then 4 else 0
def jc.Cr (c:jc) (now:Int) (q:aG) (tries:Int):jc×Int:=({ c with p:=some (q,now,tries + 1) },target c.known c.n (tries + 1) (dU q.kind))
def jc.ask (c:jc) (now:Int) (q:aG):jc×Int:=({ c with seq:=c.seq + 1 }).Cr now (c.req q) 0
def jc.tick (c:jc) (now:Int):Option (jc×Int×aG):=match c.p with
 | none=>none
 | some (q,asked,tries)=>if 0<=now/\0<=asked/\now - asked≥wX tries then some ((c.Cr now q tries).1,(c.Cr now q tries).2,q) else none
def jc.is (c:jc) (seq:Int):Bool:=match c.p with
 | none=>false
 | some (q,_,_)=>decide (q.seq=seq)
def jc.told (c:jc) (seq:Int) (known:bC):jc:=if c.is seq=true/\known.may=true/\known.az≥c.known.az then { c with known:=known } else c
structure aO where
 kind:Int
 known:bC
 n:Int
 bD:Int
 bL:Int
 id:Int
 asked:Int
 b:bU
 bN:oM
 chain:bC
 q:aG
 hop:Bool
 open_:Bool
 ans:Bool
 rep:om
 at_:Int
 l:List aG
def aO.zero:aO:=⟨0,.zero,0,0,0,0,0,.zero,.zero,.zero,.zero,false,false,false,om.zero,0,[]⟩
def TX (c:bC):List Int:=yu c.bytes
def Oc (q:aG):List Int:=yu (qC q)
def Cs (v:Int):List Int:=oU (decide (v < 0)) ++ gB v.natAbs
def aO.body (m:aO):List Int:=
 if m.kind=1 then bX [m.n,m.bD,m.bL] ++ oU m.hop ++ oU m.open_
 else if m.kind=2 then bX [m.n,m.l.length] ++ m.l.flatMap Oc
 else if m.kind=3∨m.kind=4 then bX [m.id,m.asked]
 else if m.kind=5 then m.b.bytes
 else if m.kind=6 then m.b.bytes ++ m.bN.promised.bytes ++ oU m.bN.has ++ (if m.bN.has then m.bN.accepted.bytes ++ TX m.bN.chain else [])
 else if m.kind=7∨m.kind=8 then m.b.bytes ++ TX m.chain
 else if m.kind=9 then Oc m.q ++ oU m.hop
 else if m.kind=10 then Oc m.q ++ oU m.ans ++ (if m.ans then bX [m.at_,m.rep.code,m.rep.fQ,m.rep.vs.length] ++ jD m.rep.data ++ m.rep.vs.flatMap Cs else [])
 else []
def aO.bytes (m:aO):List Int:=gB m.kind.toNat ++ TX m.known ++ m.body
def sJ:Nat:=1099511627776
def Rd.gu (r:Rd):Int×Rd:=((r.num sJ).1,(r.num sJ).2)
def Rd.chain (r:Rd):bC×Rd:=let (t,r):=r.text 64;((fF t).getD .zero,r)
def Rd.req (r:Rd):aG×Rd:=let (t,r):=r.text 128;((qY t).getD .zero,r)
def Rd.reqs:Nat->Rd->List aG×Rd
 | 0,r=>([],r)
 | k + 1,r=>let (q,r):=r.req;let (l,r):=Rd.reqs k r;(q :: l,r)
def Rd.Sc:Nat->Rd->List Int×Rd
 | 0,r=>([],r)
 | k + 1,r=>let (g,r):=r.yes;let (v,r):=r.gu;let (l,r):=Rd.Sc k r;((if g then -v else v) :: l,r)
def wY (b:List Int):aO:=
 let r:Rd:=⟨b,false⟩
 let (kind,r):=r.gu
 let (known,r):=r.chain
 let m:aO:={ aO.zero with kind:=kind,known:=known }
 if kind=1 then
  let (n,r):=r.gu;let (c,r):=r.gu;let (j,r):=r.gu;let (h,r):=r.yes;let (o,_):=r.yes
  { m with n:=n,bD:=c,bL:=j,hop:=h,open_:=o }
 else if kind=2 then
  let (n,r):=r.gu;let (k,r):=r.gu;let (l,_):=Rd.reqs (min k 16).toNat r
  { m with n:=n,l:=l }
 else if kind=3∨kind=4 then
  let (i,r):=r.gu;let (a,_):=r.gu
  { m with id:=i,asked:=a }
 else if kind=5 then { m with b:=r.Nc.1 }
 else if kind=6 then
  let (b,r):=r.Nc;let (p,r):=r.Nc;let (h,r):=r.yes
  if h then let (a,r):=r.Nc;let (c,_):=r.chain;{ m with b:=b,bN:=⟨p,a,true,c⟩ } else { m with b:=b,bN:=⟨p,.zero,false,.zero⟩ }
 else if kind=7∨kind=8 then let (b,r):=r.Nc;let (c,_):=r.chain;{ m with b:=b,chain:=c }
 else if kind=9 then let (q,r):=r.req;let (h,_):=r.yes;{ m with q:=q,hop:=h }
 else if kind=10 then
  let (q,r):=r.req;let (a,r):=r.yes
  if a then
   let (at_,r):=r.gu;let (c,r):=r.gu;let (v,r):=r.gu;let (n,r):=r.gu;let (d,r):=r.text 64;let (vs,_):=Rd.Sc (min n 100).toNat r
   { m with q:=q,ans:=true,at_:=at_,rep:=⟨c,v,iA d,vs⟩ }
  else { m with q:=q }
 else m
structure uK where
 b:bU
 jS:jF
 since:Int
 chain:bC
structure oN where
 acc:dY
 log:dW
 join:bC
structure dM where
 self:Int
 up:Bool
 disk:bB
 kept:oN
 junk:Int
 hold:kV
 asked:Int->Option Int
 last:Int
 grants:Ag
 watch:Dl
 heard:List aO
 refuse:List Int
 seen:bU
 p:Option uK
 well:Int
structure dZ where
 nodes:Nat
 au:Nat
 aI:Int
structure jy where
 gJ:Int
 BX:Int
 bs:List Int
structure WV where
 conf:dZ
 nodes:List dM
 au:List jc
 clocks:List Int
 bO:List jy
 past:PV
 acts:List bR
 bY:Int->bU->List Int
 aA:List bC
def mO (c:dZ) (l:List (List Int)):oN:=l.foldl (fun k b=>match b with
 | 97 :: b=>match Fg c.nodes b with
  | some a=>{ k with acc:=a }
  | none=>k
 | 101 :: b=>match qY b with
  | some q=>{ k with log:=k.log.put q }
  | none=>k
 | 106 :: b=>{ k with join:=(fF b).getD .zero }
 | _=>k) ⟨.new c.nodes,dW.new c.aI,.zero⟩
def wZ (d:bB) (k:oN):bB:=
 let d:=(d.cut 0).put 97 k.acc.bytes
 let d:=match k.join.put with
  | some b=>d.put 106 b
  | none=>d
 k.log.qs.foldl (fun d q=>d.put 101 (qC q)) d
structure NS where
 n:dM
 bO:List jy
 bY:Int->bU->List Int
 aA:List bC
 now:Int
 conf:dZ
namespace NS
def known (s:NS):bC:=s.n.kept.acc.known
def member (s:NS):Bool:=s.known.has s.n.self
def gD (s:NS):Bool:=s.n.up && s.member && s.n.hold.valid s.now s.known.az
def aZ (s:NS) (f:dM->dM):NS:={ s with n:=f s.n }
def start (s:NS):NS:=
 let (l,d):=jE s.n.disk
 let N:=s.conf.nodes
 s.aZ fun n=>⟨n.self,true,d,mO s.conf l,0,⟨N,[]⟩,fun _=>none,s.now - 4,.new N s.now,.new N n.self s.now,List.replicate 5 .zero,List.replicate 5 0,.zero,none,s.now⟩
def way (s:NS) (dst:Int) (m:aO):NS:={ s with bO:=s.bO ++ [⟨s.n.self,dst,({ m with known:=s.known }).bytes⟩] }
def bL (s:NS):Int:=if s.n.kept.join.az≠s.known.az + 1∨s.known.tail≠s.n.self then -1 else s.n.kept.join.tail
def VN (s:NS) (kind:Int) (b:List Int):NS:=s.aZ fun n=>{ n with disk:=n.disk.put kind b }
def oD (s:NS) (kind:Int) (b:List Int):NS:=let k:=s.n.disk.b.length;let s:=s.VN kind b;s.aZ fun n=>{ n with junk:=n.junk + ((n.disk.b.length:Int) - k) }
def rewrite (s:NS):NS:=s.aZ fun n=>{ n with disk:=wZ n.disk n.kept,junk:=0 }
def bN (s:NS):NS:=let s:=s.oD 97 s.n.kept.acc.bytes;if 1500 < s.n.junk then s.rewrite else s
def bJ (s:NS):NS:=s.aZ fun n=>{ n with watch:=n.watch.hear s.now n.self }
def pU (s:NS) (q:aG) (at_:Int):NS:=s.way (s.conf.nodes + q.client) { aO.zero with kind:=10,q:=q,ans:=true,rep:=(if 1<=at_/\at_<=s.n.kept.log.k then s.n.kept.log.rep (at_ - 1).toNat else om.zero),at_:=at_ }
def bD (s:NS) (dst:Int):NS:=
 let l:=s.n.kept.log
 if dst<=l.k∨(l.qs.length:Int) < dst then s else
  let gJ:=l.k
  let s:=s.aZ fun n=>{ n with kept:={ n.kept with log:=l.bD dst.toNat } }
  if s.known.head=s.n.self then (((l.qs.drop gJ).take (dst.toNat - gJ)).zipIdx.foldl (fun s x=>s.pU x.1 (gJ + 1 + x.2)) s) else s
def iQ (s:NS) (i:Int):aO:=s.n.heard[i.toNat]?.getD .zero
def same (s:NS) (i:Int):Bool:=decide (0<=i) && decide ((s.iQ i).known.az=s.known.az)
def advance (s:NS):NS:=
 let c:=s.known
 if s.n.up=false∨c.tail≠s.n.self then s else
  let a:=c.above s.n.self
  if 0<=a/\s.same a=false then s else
   let dst:Int:=s.n.kept.log.qs.length
   let j:=s.bL
   s.bD (if 0<=j then min dst (if s.same j then (s.iQ j).n else 0) else dst)
def lY (s:NS) (c:bC):NS:=
 let was:=s.member
 if s.n.kept.acc.Dx c≠0 then s else
  let s:=s.aZ fun n=>{ n with kept:={ n.kept with acc:=n.kept.acc.lY c },p:=none,well:=s.now }
  if was && !s.member then (s.aZ fun n=>{ n with kept:={ n.kept with log:=dW.new s.conf.aI,join:=.zero } }).rewrite
  else s.bN.advance
def there (s:NS) (i:Int):Bool:=s.n.watch.there s.now i
def range (s:NS):List Int:=(List.range s.conf.nodes).map Int.ofNat
def kK (s:NS):Int:=if 0<=s.bL then s.bL else ((s.range.find? fun i=>!(s.known.has i) && s.same i && s.there i)).getD (-1)
def feed (s:NS) (dst Qq:Int):NS:=let l:=jh s.n.kept.log.qs Qq 16;if l=[] then s else s.way dst { aO.zero with kind:=2,n:=Qq,l:=l }
def accepted (s:NS) (b:bU) (c:bC):NS:=
 let l:=s.bY c.az b
 let l:=if l.contains s.n.self then l else l ++ [s.n.self]
 let s:={ s with bY:=fun e x=>if e=c.az/\x=b then l else s.bY e x }
 if uD s.conf.nodes<=l.length/\c.az=(s.aA.getLast?.getD .zero).az + 1 then { s with aA:=s.aA ++ [c] } else s
def lI (s:NS) (gJ:Int) (m:aO):NS:=match s.n.asked m.id with
 | some a=>if a=m.asked then s.aZ fun n=>{ n with hold:=n.hold.told m.id gJ } else s
 | none=>s
def xe (s:NS) (gJ:Int) (b:bU):NS:=match s.n.p with
 | none=>s
 | some p=>if b=p.b/\p.jS.Ru gJ=true then
  let p':={ p with jS:=p.jS.yes gJ }
  let s:=s.aZ fun n=>{ n with p:=some p' }
  if p'.jS.done then s.lY p'.chain else s
  else s
def left (s:NS) (i:Int):Bool:=decide (s.n.refuse[i.toNat]?.getD 0=s.known.az) || (s.n.kept.acc.bN.has && !(s.n.kept.acc.bN.chain.has i))
def kG (s:NS) (gJ:Int) (m:aO):NS:=
 if s.known.has gJ && !(s.left gJ) && s.n.grants.uE s.now gJ then
  let s:=s.aZ fun n=>{ n with grants:=n.grants.give s.now gJ }
  let g:aO:={ aO.zero with kind:=4,id:=m.id,asked:=m.asked }
  if gJ=s.n.self then s.bJ.lI gJ g else s.way gJ g
 else s
def mP (s:NS) (gJ:Int) (b:bU) (v:oM):NS×Bool:=match s.n.p with
 | none=>(s,false)
 | some p=>if b≠p.b then (s,false) else
  if p.b.lt v.promised then (s.aZ fun n=>{ n with p:=none,seen:=if n.seen.lt v.promised then v.promised else n.seen },false) else
  if p.jS.ready∨p.jS.Jo gJ v=false then (s,false) else
   let p':={ p with jS:=p.jS.prom gJ v }
   if p'.jS.ready then (s.aZ fun n=>{ n with p:=some { p' with chain:=p'.jS.chain } },true) else (s.aZ fun n=>{ n with p:=some p' },false)
def nK (s:NS) (gJ:Int) (b:bU) (ch:bC):NS:=
 let c:=s.known
 if c.next ch s.conf.nodes=false then s else
  let s:=s.aZ fun n=>{ n with refuse:=c.nodes.foldl (fun r i=>if ch.has i then r else r.set i.toNat c.az) n.refuse }
  let was:=s.n.kept.acc.bN
  let tL:=s.n.grants.tL s.now c ch
  let e:=s.n.kept.acc.Nf ch b tL
  if e=0 then
   let s:=s.aZ fun n=>{ n with kept:={ n.kept with acc:=n.kept.acc.acc ch b tL } }
   let s:=if b≠was.promised∨was.has=false∨b≠was.accepted then s.bN.accepted b ch else s
   if gJ=s.n.self then s.bJ.xe gJ b else s.way gJ { aO.zero with kind:=8,b:=b,chain:=ch }
  else if e=7 then
   if gJ=s.n.self then (s.bJ.mP gJ b was).1 else s.way gJ { aO.zero with kind:=6,b:=b,bN:=was }
  else s
def others (s:NS) (m:aO):NS:=(s.range.filter fun i=>decide (i≠s.n.self)).foldl (fun s i=>s.way i m) s
def kz (s:NS) (b:bU) (c:bC):NS:=let s:=s.others { aO.zero with kind:=7,b:=b,chain:=c };s.bJ.nK s.n.self b c
def ry (s:NS) (gJ:Int) (b:bU) (v:oM):NS:=
 let (s,r):=s.mP gJ b v
 if r then match s.n.p with
  | some p=>s.kz p.b p.chain
  | none=>s
 else s
def kC (s:NS) (gJ:Int) (b:bU):NS:=
 let was:=s.n.kept.acc.bN.promised
 let e:=s.n.kept.acc.Jn (s.known.az + 1) b
 let s:=s.aZ fun n=>{ n with kept:={ n.kept with acc:=n.kept.acc.Gx (s.known.az + 1) b } }
 let v:=s.n.kept.acc.bN
 let s:=if e=0/\v.promised≠was then s.bN else s
 if gJ=s.n.self then s.bJ.ry gJ b v else s.way gJ { aO.zero with kind:=6,b:=b,bN:=v }
def Sd (s:NS) (gJ:Int) (m:aO):NS:=
 let h:=s.iQ gJ
 if m.known.az < h.known.az then s else
  let m:=if m.known.az=h.known.az then { m with n:=max m.n h.n,bD:=max m.bD h.bD,bL:=max m.bL h.bL,open_:=m.open_ || h.open_ } else m
  let s:=s.aZ fun n=>{ n with heard:=n.heard.set gJ.toNat m }
  let c:=s.known
  if m.known.az≠c.az then s else
   let s:=if gJ=c.below s.n.self then (s.bD (min m.bD s.n.kept.log.qs.length)).feed gJ m.n
    else if gJ=s.kK/\c.tail=s.n.self then s.feed gJ m.n else s
   s.advance
def entry (s:NS) (q:aG):NS:=s.VN 101 (qC q)
def Hl (s:NS) (gJ:Int) (m:aO):NS:=
 let c:=s.known
 if gJ≠c.above s.n.self/\(s.member=true∨gJ≠c.tail) then s else
  (m.l.zipIdx.foldl (fun s x=>
   let l:=s.n.kept.log
   let a:=m.n + 1 + x.2
   if l.aam a x.1=0 then (s.aZ fun n=>{ n with kept:={ n.kept with log:=l.take a x.1 } }).entry x.1 else s) s).advance
def write (s:NS) (q:aG):NS:=
 if s.known.head≠s.n.self then s else
  let l:=s.n.kept.log
  let at_:=kY l.qs q.client q.seq
  if 0 < at_ then (if at_<=l.k then s.pU q at_ else s)
  else if l.err q=0 then ((s.aZ fun n=>{ n with kept:={ n.kept with log:=l.put q } }).entry q).advance else s
def onRequest (s:NS) (m:aO):NS:=
 let q:=m.q
 if q.q.may=false then s else
  let c:=s.known
  let pass (s:NS) (dst:Int):NS:=if dst≠s.n.self/\m.hop=false then ((s.way dst { aO.zero with kind:=9,q:=q,hop:=true }).way (s.conf.nodes + q.client) { aO.zero with kind:=10,q:=q }) else s
  if dU q.kind then pass (s.write q) c.head
  else if s.gD/\s.n.kept.log.dE q=0 then
   s.way (s.conf.nodes + q.client) { aO.zero with kind:=10,q:=q,ans:=true,rep:=s.n.kept.log.dR q,at_:=s.n.kept.log.dA q }
  else pass s c.tail
def on (s:NS) (gJ:Int) (m:aO):NS:=
 let s:=if gJ < s.conf.nodes then
  let s:=s.aZ fun n=>{ n with watch:=n.watch.hear s.now gJ }
  if s.known.az < m.known.az then s.lY m.known else s
  else s
 let cur:Bool:=decide (m.known.az=s.known.az)
 if m.kind=1 then s.Sd gJ m
 else if m.kind=2 then (if cur then s.Hl gJ m else s)
 else if m.kind=3 then (if cur then s.kG gJ m else s)
 else if m.kind=4 then s.lI gJ m
 else if m.kind=5 then (if cur then s.kC gJ m.b else s)
 else if m.kind=6 then (if cur then s.ry gJ m.b m.bN else s)
 else if m.kind=7 then (if cur then s.nK gJ m.b m.chain else s)
 else if m.kind=8 then (if cur then s.xe gJ m.b else s)
 else if m.kind=9 then s.onRequest m
 else s
def isOpen (s:NS):Bool:=s.n.kept.acc.bN.has || s.range.any fun i=>decide (i≠s.n.self) && s.same i && (s.iQ i).open_ && s.there i
def leads (s:NS):Bool:=match s.known.nodes.find? s.there with
 | some i=>decide (i=s.n.self)
 | none=>if ((List.range s.n.self.toNat).map Int.ofNat).any s.there then false else s.isOpen
def wanted (s:NS):NS×Option bC:=
 let c:=s.known
 if s.member=false then (s,c.without []) else
  let gone:=c.nodes.filter fun i=>!(s.there i)
  let well:=s.gD && c.nodes.all fun i=>decide (i=s.n.self) || (s.same i && (s.iQ i).hop)
  let t:=c.tail
  let j:=if t≠s.n.self/\s.same t=true then (s.iQ t).bL - 1 else s.bL
  let s:=if well then s.aZ fun n=>{ n with well:=s.now } else s
  if gone≠[]∨s.isOpen then (s,c.without gone)
  else if 0<=j/\s.there j=true then (s,c.with_ j)
  else if j < 0/\s.now - s.n.well < 60 then (s,none)
  else (s,c.without gone)
def lK (s:NS) (c:bC):NS:=
 let v:=s.n.kept.acc.bN
 let s:=s.aZ fun n=>{ n with p:=none,seen:=if n.seen.lt v.promised then v.promised else n.seen }
 match s.n.seen.next s.n.self with
 | none=>s
 | some b=>s.aZ fun n=>{ n with seen:=b,p:=some ⟨b,⟨s.conf.nodes,b,c,[],[],none⟩,s.now,.zero⟩ }
def take (s:NS):NS:=
 let c:=s.known
 if c.tail≠s.n.self∨0<=s.bL then s else
  let i:=s.kK
  if i < 0∨(s.iQ i).n < s.n.kept.log.qs.length then s else match c.with_ i with
   | none=>s
   | some j=>(s.aZ fun n=>{ n with kept:={ n.kept with join:=j } }).oD 106 j.bytes
def lead (s:NS):NS:=
 let s:=s.take
 let (s,next):NS×Option bC:=if s.leads then s.wanted else (s.aZ fun n=>{ n with well:=s.now },none)
 match next with
 | none=>s.aZ fun n=>{ n with p:=none }
 | some c=>
  let s:=match s.n.p with
   | none=>s.lK c
   | some p=>if p.jS.ready=false/\s.now - p.since≥12 then s.lK c else s
  match s.n.p with
  | none=>s
  | some p=>if p.jS.ready then s.kz p.b p.chain else (s.others { aO.zero with kind:=5,b:=p.b }).bJ.kC s.n.self p.b
def tick (s:NS):NS:=
 let aas:aO:={ aO.zero with kind:=1,n:=s.n.kept.log.qs.length,bD:=s.n.kept.log.k,bL:=s.bL + 1,hop:=s.gD,open_:=s.n.kept.acc.bN.has }
 let s:=s.others aas
 let s:=if s.member/\s.now - s.n.last≥4 then
  let s:=s.aZ fun n=>{ n with last:=s.now }
  let id:=s.n.hold.mV s.now s.known.az
  let s:=s.aZ fun n=>{ n with hold:=n.hold.ask s.now s.known.az }
  if 0 < id then
   let s:=s.aZ fun n=>{ n with asked:=fun x=>if x=id - 4 then none else if x=id then some s.now else n.asked x }
   let m:aO:={ aO.zero with kind:=3,id:=id,asked:=s.now }
   let s:=s.others m
   s.bJ.kG s.n.self m
  else s
  else s
 s.lead.advance
end NS
structure VO where
 kind:Int
 n:Int
 m:Int
 q:aG
def dZ.may (n c q:Int):Bool:=decide (1<=n/\n<=5) && decide (1<=c/\c<=4) && decide (1<=q/\q<=100)
def gH (i:Nat) (c:dZ):dM:=⟨i,false,.new,⟨.new c.nodes,dW.new c.aI,.zero⟩,0,⟨c.nodes,[]⟩,fun _=>none,0,.new c.nodes 0,.new c.nodes i 0,[],[],.zero,none,0⟩
namespace WV
def act (w:WV) (i:Nat) (f:NS->NS):WV:=match w.nodes[i]? with
 | none=>w
 | some n=>
  let s:=f ⟨n,w.bO,w.bY,w.aA,w.clocks[i]?.getD 0,w.conf⟩
  { w with nodes:=w.nodes.set i s.n,bO:=s.bO,bY:=s.bY,aA:=s.aA }
def new (c:dZ):WV:=
 let w:WV:=⟨c,(List.range c.nodes).map fun i=>gH i c,(List.range c.au).map fun i:Nat=>jc.new (i:Int) c.nodes,List.replicate (c.nodes + c.au) 0,[],PV.new,[],fun _ _=>[],[dO c.nodes]⟩
 (List.range c.nodes).foldl (fun w i=>w.act i NS.start) w
def qL (w:WV) (k:Nat) (dst:Int) (q:aG):WV:={ w with bO:=w.bO ++ [⟨w.conf.nodes + k,dst,({ aO.zero with kind:=9,q:=q }).bytes⟩] }
def asked (w:WV) (q:aG):WV:=if w.past.mV q=0 then { w with past:=w.past.asked q,acts:=w.acts ++ [⟨q.client,q.seq,false,q,om.zero,none,0,0⟩] } else w
def answer (w:WV) (c q:Int) (r:om) (at_:Int):WV:=if w.past.Eg c q at_=0 then { w with past:=w.past.answered c,acts:=w.acts ++ [⟨c,q,true,(w.past.wait c).getD .zero,r,none,0,at_⟩] } else w
def AP (w:WV) (k:Int):WV×Bool:=if k < 0 then (w,false) else match w.bO[k.toNat]? with
 | none=>(w,false)
 | some x=>
  let w:={ w with bO:=w.bO.eraseIdx k.toNat }
  let m:=wY x.bs
  let dst:=x.BX
  (match (if 0<=dst then w.nodes[dst.toNat]? else none) with
   | some n=>if n.up then w.act dst.toNat (fun s=>s.on x.gJ m) else w
   | none=>
    let c:=dst - w.conf.nodes
    match (if 0<=c then w.au[c.toNat]? else none) with
    | none=>w
    | some cl=>if m.kind≠10 then w else
     let cl:=cl.told m.q.seq m.known
     if m.ans/\cl.is m.q.seq=true then ({ w with au:=w.au.set c.toNat { cl with p:=none } }).answer m.q.client m.q.seq m.rep m.at_
     else { w with au:=w.au.set c.toNat cl },true)
def tick (w:WV) (k:Int):WV×Bool:=if k < 0∨(w.clocks.length:Int)<=k then (w,false) else
 let w:={ w with clocks:=w.clocks.set k.toNat (w.clocks[k.toNat]?.getD 0 + 1) }
 (match w.nodes[k.toNat]? with
  | some n=>if n.up then w.act k.toNat NS.tick else w
  | none=>
   let c:=k.toNat - w.conf.nodes
   match w.au[c]? with
   | none=>w
   | some cl=>match cl.tick (w.clocks[k.toNat]?.getD 0) with
    | none=>w
    | some (cl,dst,q)=>({ w with au:=w.au.set c cl }).qL c dst q,true)
def step (w:WV) (s:VO):WV×Bool:=
 if s.kind=1 then w.AP s.n
 else if s.kind=2 then (if 0<=s.n/\s.n < w.bO.length then ({ w with bO:=w.bO.eraseIdx s.n.toNat },true) else (w,false))
 else if s.kind=3 then (if 0<=s.n/\s.n < w.bO.length then ({ w with bO:=w.bO ++ [w.bO[s.n.toNat]?.getD ⟨0,0,[]⟩] },true) else (w,false))
 else if s.kind=4 then w.tick s.n
 else if s.kind=7 then match (if 0<=s.n then w.au[s.n.toNat]? else none) with
  | none=>(w,false)
  | some cl=>
   let now:=w.clocks[w.conf.nodes + s.n.toNat]?.getD 0
   if cl.mV now s.q≠0 then (w,false) else
    let (c2,dst):=cl.ask now s.q
    let q:=cl.req s.q
    ((({ w with au:=w.au.set s.n.toNat c2 }).asked q).qL s.n.toNat dst q,true)
 else match (if 0<=s.n then w.nodes[s.n.toNat]? else none) with
  | none=>(w,false)
  | some n=>
   if s.kind=5/\n.up=true then (w.act s.n.toNat fun x=>
    let (l,d):=jE (x.n.disk.Vj s.m)
    x.aZ fun n=>{ n with up:=false,disk:=d,kept:=mO w.conf l },true)
   else if s.kind=6/\n.up=false then (w.act s.n.toNat NS.start,true)
   else (w,false)
def round (w:WV):WV:=
 let w:=w.bO.length.fold (fun _ _ w=>(w.step ⟨1,0,0,.zero⟩).1) w
 w.clocks.length.fold (fun k _ w=>(w.step ⟨4,k,0,.zero⟩).1) w
end WV
theorem VP (g:Nat) (V:Value) (bs:List Int) (A:Option Addr) (n f:Nat) (ns:List Int) (i:n=ns.length) (m:n<=100000) (l:bs.length<=1000000) (h0:∀ x∈ns,0<=x/\x < 9223372036854775808)
 (w:World) (h:jw w g V bs) (hA:aP w A ns) (d:ns≠[]->∀ a,A=some a->¬ fo g V a.block) :
 aS 143 #[av g 0,.slice A n f] w fun e w'=>e=.returned (.tuple #[])/\Wrote w g V (bs ++ bX ns) w':=by
 have HL:=aa i
 have H0:=aa h0
 have HO:=aa d
 clear i h0 d
 go_enter func143,ntmps143
 go_wp2
 go_loopw [8] (fun iv wr=>∃ (k:Nat) (V1:Value),k<=n/\iv=zi k/\jw wr g V1 (bs ++ bX (ns.take k))/\Fr (fo g V) w wr/\(∀ j,fo g V1 j->fo g V j∨w.heap.size<=j)) (fun iv _=>n - (intOf iv).toNat)
 case atStart=>exact ⟨0,V,af,rfl,by simpa [bX] using h,Fr.refl _ _,fun _ h=>.inl h⟩
 case round=>exact Ur
theorem VQ (g:Nat) (V:Value) (r:List Int) (f:Int) (A:Option Addr) (n d:Nat) (ns:List Int) (z:n=ns.length) (P:n<=1000) (i:n<=d) (K:r.length<=1000000) (w:World) (C:jw w g V r) (h:aP w A ns) :
 aS 144 #[av g 0,.agg #[zi f,.slice A n d]] w fun e w'=>e=.returned (.tuple #[])/\Wrote w g V (r ++ yu (bC.bytes ⟨f,ns⟩)) w':=by
 obtain ⟨m,s⟩:=aR ((bC.bytes ⟨f,ns⟩).length)
 have u:=(Old.refl' w).ag (.cells #[zi f,.slice A n d] 59)
 have L:=aa (Bk.new w 59 #[zi f,.slice A n d])
 obtain ⟨x0,x1,x2,R,S⟩:=bk2 L.o
 have j:=bC.eG ⟨f,ns⟩
 obtain ⟨b,D⟩:=aR (bC.may ⟨f,ns⟩)
 have x:=aa (JC f A n d ns _ b m z af i rfl D s _ (h.old u))
 obtain ⟨E,l⟩:∃ E:Int,(if b then 0 else 1)=E:=⟨_,rfl⟩
 rw [l] at x
 have F:=aa s
 have M:=aa C
 have G:=aa u
 have H:=aa (zb (bC.fB ⟨f,ns⟩))
 obtain ⟨B,I⟩:=aR (bC.bytes ⟨f,ns⟩)
 rw [I] at x F H j ⊢
 clear z i h s u C I D l
 go_enter func144,ntmps144
 go_wp2_with fail
 refine x.o.mono ?_
 rintro e w1 ⟨T,c1,rfl,p,J⟩
 have U:=Ad m c1 F.o (ah.bA p)
 have N:=aa (Ae g (strOfNums B) V r af (by rw [sG];omega) w1 (M.o.old (G.o.trans' J)))
 go_wp2_with fail
 refine N.o.mono ?_
 rintro e W ⟨rfl,y⟩
 go_wp2
 go_end0
 exact ⟨rfl,H.o▸y.from_ (Fr.aj (G.o.trans' J)) fun k O=>.inl O⟩
theorem Eh (d:ByteArray):iq (numsOf d):=fun c e=>by
 unfold numsOf at e
 obtain ⟨x,-,rfl⟩:=List.mem_map.1 e
 have:=x.toNat_lt
 omega
theorem zm (d:ByteArray):iq (jD d):=(kJ _).app (Eh _)
theorem zn (d:ByteArray) (h:d.size<=100000):(jD d).length<=d.size + 10:=by
 unfold jD
 rw [ja,numsOf_length]
 have:=sH (v:=d.size) (n:=100001) af aW
 omega
theorem vH (q:aG):(if q.q.may then bX [q.client,q.seq,q.kind,q.id,q.eD] ++ jD q.data else [])=qC q:=by
 unfold qC
 cases q.q.may <;> simp [bX]
theorem pV (q:aG):iq (qC q):=by
 rw [<- vH]
 split
 ·exact (za _).app (zm _)
 ·exact iq.nil
theorem Od {c s k i m:Int} {d:ByteArray} (h:mX c s k i m d=true):(∀ x∈[c,s,k,i,m],x<=1099511627776)/\d.size<=64:=by
 refine ⟨?_,(Au h).2⟩
 have f:=(Au h).1
 simp only [mX,zQ,kE,rJ] at h
 obtain ⟨g,h⟩:=h
 repeat' split at h
 all_goals simp only [kE,rJ,Bool.false_eq_true] at h
 all_goals
  intro x e
  simp only [tF,yh,or_false] at e
  rcases e with rfl | rfl | rfl | rfl | rfl <;> omega
theorem nM (q:aG):(qC q).length<=124:=by
 rw [<- vH]
 split
 ·rename_i h
  obtain ⟨e,d⟩:=Od h
  have d:q.data.size<=64:=d
  rw [ja]
  have f:=mK [q.client,q.seq,q.kind,q.id,q.eD] e
  have h4:=zn q.data af
  simp only [iR,jV] at f
  omega
 ·simp
theorem VR (g:Nat) (V:Value) (i:List Int) (q:aG) (F:i.length<=1000000) (w:World) (u:jw w g V i) :
 aS 146 #[av g 0,.agg #[zi q.client,zi q.seq,zi q.kind,zi q.id,zi q.eD,.string q.data]] w fun e w'=>e=.returned (.tuple #[])/\Wrote w g V (i ++ Oc q) w':=by
 unfold Oc
 obtain ⟨m,j⟩:=aR ((qC q).length)
 have x:=(Old.refl' w).ag (.cells #[zi q.client,zi q.seq,zi q.kind,zi q.id,zi q.eD,.string q.data] 36)
 have l:=Bk.new w 36 #[zi q.client,zi q.seq,zi q.kind,zi q.id,zi q.eD,.string q.data]
 have J:=l.cell
 have K:=l.lt
 have d:=nM q
 obtain ⟨b,n⟩:=aR (q.q.may)
 have p:=vH q
 rw [n] at p
 have r:=aa (Ch q.client q.seq q.kind q.id q.eD q.data (qC q) b m n p j (w.alloc (.cells #[zi q.client,zi q.seq,zi q.kind,zi q.id,zi q.eD,.string q.data] 36)))
 obtain ⟨y,f⟩:∃ y:Int,(if b then 0 else 1)=y:=⟨_,rfl⟩
 rw [f] at r
 have z:=aa j
 have G:=aa u
 have A:=aa x
 have C:=aa (zb (pV q))
 obtain ⟨B,D⟩:=aR (qC q)
 rw [D] at r z C d ⊢
 clear j x u D n f p l
 go_enter func146,ntmps146
 go_wp2_with fail
 refine r.o.mono ?_
 rintro e w1 ⟨L,c1,rfl,h,E⟩
 have M:=Ad m c1 z.o (ah.bA h)
 have H:=aa (Ae g (strOfNums B) V i af (by rw [sG];omega) w1 (G.o.old (A.o.trans' E)))
 go_wp2_with fail
 refine H.o.mono ?_
 rintro e N ⟨rfl,s⟩
 go_wp2
 go_end0
 exact ⟨rfl,C.o▸s.from_ (Fr.aj (A.o.trans' E)) fun k I=>.inl I⟩
theorem Ho (g:Nat) (r j:Rd) (v:Int) (h:r.gu=(v,j)) (s:r.b.length<=1000000) (w:World) (n:dI w g r) :
 aS 113 #[g] w fun e w'=>e=.returned (zi v)/\dI w' g j/\Fr (fun k=>k=g) w w':=by
 obtain ⟨x,f,i⟩:∃ x f,Rd.num sJ r=(x,f):=⟨_,_,rfl⟩
 have u:(x:Int)=v/\f=j:=by
  unfold Rd.gu at h
  rw [i] at h
  injection h with l m
  exact ⟨l,m⟩
 obtain ⟨rfl,rfl⟩:=u
 have d:=(r.fq sJ).1
 rw [i] at d
 simp only at d
 have y:IntKind.i64.wrap (x:Int)=x:=kP _ (by unfold sJ at d;omega)
 have p:=aa (wh g r sJ x f i (by unfold sJ;omega) s w n)
 unfold sJ at p
 clear i h n d
 go_enter func113,ntmps113
 go_wp2_with fail
 refine p.o.mono ?_
 rintro e w1 ⟨rfl,l,m⟩
 go_wp2
 go_ret
 exact ⟨rfl,l,m⟩
theorem dI.setAt {g b:Nat} {t:TypeId} {r:Rd} (d:t≠284) (e:t≠5):∀ (l:List Value) {w:World} {cs:Array Value} (o:Nat),Bk w b t cs->dI w g r->dI (setAt w b o l) g r
 | [],_,_,_,_,h=>h
 | v :: l,_,_,o,hb,h=>dI.setAt d e l (o + 1) (hb.bH o v) (h.far hb d e v)
def VS (w:World) (g:Nat) (r:Rd) (c:bC) (e:Ending) (w':World):Prop:=
 ∃ A q,e=.returned (.agg #[zi c.az,.slice A c.nodes.length q])/\w'.ownsRow w.heap.size 3 1 (.slice A c.nodes.length q) c.nodes.length (c.nodes.map (Value.int .i64))/\dI w' g r/\Fr (fun k=>k=g) w w'
theorem Oe {r e f:Rd} {c:bC} {t:List Int} {v:bC} {d:Int} (h:r.chain=(c,e)) (g:r.text 64=(t,f)) (q:G9 t=(v,d)):c=v/\e=f:=by
 unfold Rd.chain at h
 rw [g] at h
 dsimp only at h
 rw [(NV q).1] at h
 injection h with i j
 exact ⟨i.symm,j.symm⟩
theorem Og {t:List Int} {v:aG} {d:Int} (h:G8 t=(v,d)):(qY t).getD .zero=v:=by
 unfold G8 at h
 cases hg:qY t with
 | none=>rw [hg] at h;injection h
 | some c=>rw [hg] at h;injection h
theorem VT {r e f:Rd} {c:aG} {t:List Int} {v:aG} {d:Int} (h:r.req=(c,e)) (g:r.text 128=(t,f)) (q:G8 t=(v,d)):c=v/\e=f:=by
 unfold Rd.req at h
 rw [g] at h
 dsimp only at h
 rw [Og q] at h
 injection h with i j
 exact ⟨i.symm,j.symm⟩
theorem Qr (g:Nat) (r K:Rd) (c:bC) (h:r.chain=(c,K)) (L:r.b.length<=1000000) (h8:iq r.b) (w:World) (H:dI w g r) :
 aS 114 #[g] w (VS w g K c):=by
 obtain ⟨t,X,s⟩:∃ t X,Rd.text 64 r=(t,X):=⟨_,_,rfl⟩
 obtain ⟨v,d,q1⟩:∃ v d,G9 t=(v,d):=⟨_,_,rfl⟩
 obtain ⟨rfl,rfl⟩:=Oe h s q1
 have t8:iq t:=by have:=Rd.Cn r 64 h8;rw [s] at this;exact this
 have u:t.length<=1000000:=by have:=Rd.Co r 64;rw [s] at this;exact ic this L
 unfold VS
 have I:=(Old.refl' w).ag (.cells #[zi 0,aQ] 59)
 have Y:=aa (Bk.new w 59 #[zi 0,aQ])
 have Z:=aa (Ai g r 64 t K s af L _ (H.old I))
 have M:=aa (fun A W k (hW:ah W A (eB t))=>J4 A t.length k t rfl u t8 W hW c d q1)
 have N:=aa (fun W=>wQ (w:=W) t8)
 obtain ⟨x1,x⟩:=aR (t.length)
 obtain ⟨f,y⟩:=aR (c.nodes.length)
 obtain ⟨S1,z⟩:=aR (iA t)
 rw [x] at M N
 rw [y] at M ⊢
 rw [z] at Z N
 have HR:=aa (H.old I)
 have HO:=aa I
 have Hlt:=aa H.lt
 clear x y z h s q1 H L h8 t8 u I
 go_enter func114,ntmps114
 go_wp2_with fail
 refine Z.o.mono ?_
 rintro e w3 ⟨rfl,B,f3⟩
 obtain ⟨A4,c4,w4,O,C,P⟩:=N.o w3
 go_wp2_with fail
 refine (M.o A4 w4 c4 C).mono ?_
 rintro e J ⟨j,c5,rfl,l,o5⟩
 have m:=P.trans' o5
 have D:=B.old m
 have X3:=(Y.o.fr f3 (HR.o.ne Y.o aW)).old m
 have F5:=(Fr.aj (S:=fun k=>k=g) HO.o).trans (f3.trans (Fr.aj m))
 have Y5:=Bk.new J 59 #[zi c.az,.slice j f c5]
 have E:=X3.alloc (.cells #[zi c.az,.slice j f c5] 59)
 have R:w.heap.size<=w4.heap.size:=ic HO.o.size (ic f3.size P.size)
 have T:=bF (dX l R) ((Old.refl' J).ag (.cells #[zi c.az,.slice j f c5] 59))
 have n:=aK T E aW
 have F:=aa (show World.ownsRow (((J.alloc (.cells #[zi c.az,.slice j f c5] 59)).setCell ⟨w.heap.size,0,none⟩ (zi c.az)).setCell ⟨w.heap.size,1,none⟩ (.slice j f c5)) w.heap.size 3 1 (.slice j f c5) f (c.nodes.map (Value.int .i64)) from bz (p:=⟨w.heap.size,1,none⟩) (bz (p:=⟨w.heap.size,0,none⟩) T n _) n _)
 have G:=D.old ((Old.refl' J).ag (.cells #[zi c.az,.slice j f c5] 59))
 have U:=aa ((G.far (i:=0) E aW aW (zi c.az)).far (i:=1) (E.bH 0 _) aW aW (.slice j f c5))
 have F7:=aa (((F5.alloc (.cells #[zi c.az,.slice j f c5] 59)).setCell (p:=⟨w.heap.size,0,none⟩) (.inl (dN _)) (zi c.az)).setCell (p:=⟨w.heap.size,1,none⟩) (.inl (dN _)) (.slice j f c5))
 obtain ⟨y0,y1,y2,y3,y4⟩:=bk2 Y5
 obtain ⟨x0,V,x2,x3,x4⟩:=bk2 E
 clear X3 F5 Y5 E T n D G m l o5 P O C B f3
 go_wp2_with fail
 exact bodyPost_ret (v:=.agg #[zi c.az,.slice j f c5]) (by simp [results,results114,go_sem,x0,V,x4]) rfl ⟨j,c5,rfl,F.o,U.o,F7.o⟩
def qV (q:aG):Value:=.agg #[zi q.client,zi q.seq,zi q.kind,zi q.id,zi q.eD,.string q.data]
theorem Qs (g:Nat) (r H:Rd) (q:aG) (h:r.req=(q,H)) (I:r.b.length<=1000000) (h8:iq r.b) (w:World) (J:dI w g r) :
 aS 116 #[g] w fun e w'=>e=.returned (qV q)/\dI w' g H/\Fr (fun k=>k=g) w w':=by
 obtain ⟨t,R,u⟩:∃ t R,Rd.text 128 r=(t,R):=⟨_,_,rfl⟩
 obtain ⟨v,d,q1⟩:∃ v d,G8 t=(v,d):=⟨_,_,rfl⟩
 obtain ⟨rfl,rfl⟩:=VT h u q1
 have t8:iq t:=by have:=Rd.Cn r 128 h8;rw [u] at this;exact this
 have x:t.length<=1000000:=by have:=Rd.Co r 128;rw [u] at this;exact ic this I
 unfold qV
 have F:=(Old.refl' w).ag (.cells #[zi 0,zi 0,zi 0,zi 0,zi 0,.string { data:=#[] }] 36)
 have T:=aa (Bk.new w 36 #[zi 0,zi 0,zi 0,zi 0,zi 0,.string { data:=#[] }])
 have U:=aa (Ai g r 128 t H u af I _ (J.old F))
 have K:=aa (fun A W k (hW:ah W A (eB t))=>J3 A t.length k t rfl x t8 q d q1 W hW)
 have L:=aa (fun W=>wQ (w:=W) t8)
 obtain ⟨x1,y⟩:=aR (t.length)
 obtain ⟨S1,z⟩:=aR (iA t)
 obtain ⟨i,j,l,m,n,p⟩:=q
 rw [y] at K L
 rw [z] at U L
 simp only at K ⊢
 have HR:=aa (J.old F)
 have HO:=aa F
 clear y z h u q1 J I h8 t8 x F
 go_enter func116,ntmps116
 go_wp2_with fail
 refine U.o.mono ?_
 rintro e w3 ⟨rfl,B,f3⟩
 obtain ⟨A4,c4,w4,M,C,V⟩:=L.o w3
 go_wp2_with fail
 refine (K.o A4 w4 c4 C).mono ?_
 rintro e X ⟨rfl,Y⟩
 have f:=V.trans' Y
 have D:=B.old f
 have Z:=(T.o.fr f3 (HR.o.ne T.o aW)).old f
 have F5:=(Fr.aj (S:=fun k=>k=g) HO.o).trans (f3.trans (Fr.aj f))
 obtain ⟨N,O⟩:∃ o,o=Obj.cells #[zi i,zi j,zi l,zi m,zi n,.string p] 36:=⟨_,rfl⟩
 have G:=Bk.new X 36 #[zi i,zi j,zi l,zi m,zi n,.string p]
 have s:=Z.alloc N
 have E:=D.old ((Old.refl' X).ag N)
 have Z5:=s.setAt [zi i,zi j,zi l,zi m,zi n,.string p] 0
 have P:=aa (dI.setAt aW aW [zi i,zi j,zi l,zi m,zi n,.string p] 0 s E)
 have F7:=aa (Fr.setAt (.inl (dN _)) [zi i,zi j,zi l,zi m,zi n,.string p] _ 0 (F5.alloc N))
 subst O
 have yc:=G.cell
 have yf:=G.frozen
 have yl:=G.lt
 have xc:=s.cell
 have xf:=s.frozen
 have xl:=s.lt
 clear Z F5 G s D E f Y V M C B f3 Z5
 go_wp2_with fail
 exact bodyPost_ret (v:=.agg #[zi i,zi j,zi l,zi m,zi n,.string p]) (by simp [results,results116,go_sem,xc,xf,xl]) rfl ⟨rfl,P.o,F7.o⟩
def oF (w W:World) (g:Nat) (bs:List Int) (n:Nat):Prop:=bs.length<=n/\∃ V,NU w W g V bs
theorem oF.new (w:World):oF w (w.alloc (.cells #[aQ] 231)) w.heap.size [] 0:=⟨dN _,_,NU.new w⟩
section
variable {w W:World} {g n:Nat} {bs:List Int}
theorem oF.le {k:Nat} (h:oF w W g bs n) (d:n<=k):oF w W g bs k:=⟨ic h.1 d,h.2⟩
theorem oF.o (h:oF w W g bs n):Old w W:=by obtain ⟨_,V,h⟩:=h;exact h.2.2
theorem oF.old {W':World} (h:oF w W g bs n) (d:Old W W'):oF w W' g bs n:=by
 obtain ⟨e,V,f,i,j⟩:=h
 exact ⟨e,V,f.old d,i,j.trans' d⟩
theorem oF.go {W':World} {V:Value} {cs:List Int} {k:Nat} (h:NU w W g V bs) (d:Wrote W g V cs W') (e:cs.length<=k):oF w W' g cs k:=⟨e,h.go d⟩
theorem oF.nums (h:oF w W g bs n) (p:n<=900000) (ns:List Int) (h0:∀ x∈ns,0<=x/\x < 9223372036854775808) (r:ns.length<=100) :
 aS 143 #[av g 0,.slice (some ⟨W.heap.size,0,none⟩) ns.length ns.length] (W.alloc (.cells (ns.map (Value.int .i64)).toArray 3)) fun e w'=>e=.returned (.tuple #[])/\oF w w' g (bs ++ bX ns) (n + 10 * ns.length):=by
 have s:=h.old ((Old.refl' W).ag (.cells (ns.map (Value.int .i64)).toArray 3))
 obtain ⟨i,V,f⟩:=h
 have d:NU w (W.alloc (.cells (ns.map (Value.int .i64)).toArray 3)) g V bs:=⟨f.1.old ((Old.refl' W).ag _),f.2.1,f.2.2.ag _⟩
 have j:aP (W.alloc (.cells (ns.map (Value.int .i64)).toArray 3)) (some ⟨W.heap.size,0,none⟩) ns:=wB (Bk.new W 3 _)
 refine (VP g V bs (some ⟨W.heap.size,0,none⟩) ns.length ns.length ns rfl af af h0 _ d.1 j (fun _ a e=>?_)).mono ?_
 ·injection e with e
  subst e
  exact fun k=>Nat.lt_irrefl _ (f.1.ZT k)
 ·rintro e w' ⟨rfl,l⟩
  refine ⟨rfl,.go d l ?_⟩
  have h9:(bX ns).length<=10 * ns.length:=mZ ns (fun x m=>by have:=h0 x m;omega)
  have h8:(bs ++ bX ns).length=bs.length + (bX ns).length:=ja
  exact h8▸Nat.add_le_add i h9
theorem oF.chain (h:oF w W g bs n) (s:n<=900000) (c:bC) (A:Option Addr) (m d:Nat) (i:m=c.nodes.length) (j:m<=1000) (k:m<=d) (l:aP W A c.nodes) :
 aS 144 #[av g 0,.agg #[zi c.az,.slice A m d]] W fun e w'=>e=.returned (.tuple #[])/\oF w w' g (bs ++ TX c) (n + 80):=by
 obtain ⟨p,V,f⟩:=h
 refine (VQ g V bs c.az A m d c.nodes i j k af W f.1 l).mono ?_
 rintro e w' ⟨rfl,r⟩
 refine ⟨rfl,.go f r ?_⟩
 have:=nI (bC.eG c) af
 rw [ja]
 exact Nat.add_le_add p this
theorem oF.req (h:oF w W g bs n) (i:n<=900000) (q:aG) :
 aS 146 #[av g 0,.agg #[zi q.client,zi q.seq,zi q.kind,zi q.id,zi q.eD,.string q.data]] W fun e w'=>e=.returned (.tuple #[])/\oF w w' g (bs ++ Oc q) (n + 134):=by
 obtain ⟨j,V,d⟩:=h
 refine (VR g V bs q af W d.1).mono ?_
 rintro e w' ⟨rfl,f⟩
 refine ⟨rfl,.go d f ?_⟩
 have:=nI (nM q) af
 unfold Oc
 rw [ja]
 omega
theorem oF.yes (h:oF w W g bs n) (j:n<=900000) (b:Bool) :
 aS 145 #[av g 0,.bool b] W fun e w'=>e=.returned (.tuple #[])/\oF w w' g (bs ++ oU b) (n + 1):=by
 obtain ⟨f,V,d⟩:=h
 refine (Vi g b V bs af W d.1).mono ?_
 rintro e w' ⟨rfl,i⟩
 exact ⟨rfl,.go d i (by rw [ja];exact Nat.add_le_add f (dN 1))⟩
theorem oF.text (h:oF w W g bs n) (j:n<=900000) (d:ByteArray) (hd:d.size<=64) :
 aS 148 #[av g 0,.string d] W fun e w'=>e=.returned (.tuple #[])/\oF w w' g (bs ++ jD d) (n + 74):=by
 obtain ⟨k,V,f⟩:=h
 refine (Ae g d V bs af af W f.1).mono ?_
 rintro e w' ⟨rfl,i⟩
 refine ⟨rfl,.go f i ?_⟩
 have:=zn d af
 rw [ja];omega
theorem oF.bytes (h:oF w W g bs n) (l:n<=900000) (B:List Int) (m:Nat) (f:bs=B) (i:B.length=m) :
 aS 149 #[g] W fun e w'=>∃ A c,e=.returned (.slice A m c)/\w'.ownsRow w.heap.size 5 1 (.slice A m c) m (eB B)/\Old w w':=by
 subst f
 obtain ⟨p,V,d⟩:=h
 refine (Af g m V bs i af W d.1).mono ?_
 rintro e w' ⟨A,c,rfl,j,k⟩
 exact ⟨A,c,rfl,dX j d.2.2.size,d.2.2.trans' k⟩
theorem oF.FH (h:oF w W g bs n) (i:n<=900000) (ns:List Int) (h0:∀ x∈ns,0<=x/\x < 9223372036854775808) (l s:Nat) (cs:Array Value) (d:(ns.map (Value.int .i64)).toArray=cs) (j:ns.length=l) (f:l<=100) (k:W.heap.size=s) :
 aS 143 #[av g 0,.slice (some ⟨s,0,none⟩) l l] (W.alloc (.cells cs 3)) fun e w'=>e=.returned (.tuple #[])/\oF w w' g (bs ++ bX ns) (n + 10 * l):=by
 subst d j k
 exact h.nums i ns h0 f
theorem oF.new' (w:World) (o:Obj):oF (w.alloc o) ((w.alloc o).alloc (.cells #[aQ] 231)) (w.heap.size + 1) [] 0:=by
 have:=oF.new (w.alloc o)
 rwa [jW] at this
end
def iX (kind:Int) (m:aO) (K V C:Value) (R L:Value):Array Value:=
 #[zi kind,zi m.known.az,K,zi m.n,zi m.bD,zi m.bL,zi m.id,zi m.asked,zi m.b.round,zi m.b.node,
  zi m.bN.promised.round,zi m.bN.promised.node,zi m.bN.accepted.round,zi m.bN.accepted.node,.bool m.bN.has,zi m.bN.chain.az,V,zi m.chain.az,C,
  zi m.q.client,zi m.q.seq,zi m.q.kind,zi m.q.id,zi m.q.eD,.string m.q.data,.bool m.hop,.bool m.open_,.bool m.ans,zi m.rep.code,zi m.rep.fQ,.string m.rep.data,R,zi m.at_,L]
theorem MB9 (m:aO) (M:m.kind=9) (V C R L:Value) (h:Option Addr) (kn i:Nat) (j:kn=m.known.nodes.length) (y:kn<=1000) (z:kn<=i)  (B:List Int) (k:Nat) (N:m.bytes=B) (l:B.length=k) (w:World) (n:aP w h m.known.nodes) :
 aS 84 #[.agg (iX 9 m (.slice h kn i) V C R L)] w fun e w'=>∃ A c,e=.returned (.slice A k c)/\w'.ownsRow w.heap.size 5 1 (.slice A k c) k (eB B)/\Old w w':=by
 have D:=(Old.refl' w).ag (.cells (iX 9 m (.slice h kn i) V C R L) 110)
 have d:=aa (Bk.new w 110 (iX 9 m (.slice h kn i) V C R L))
 have p:=aa (oF.new' w (.cells (iX 9 m (.slice h kn i) V C R L) 110))
 have f:=(d.o.old p.o.o).cell
 have g:=(d.o.old p.o.o).lt
 have r:=aa (n.old D)
 have E:=aa l
 have F:=aa N
 have S:=aa M
 have G:=aa j
 have H:=aa D
 simp only [iX] at f p d r H ⊢
 clear n l N j D M
 go_enter func84,ntmps84
 go_wp2_with fail
 refine (p.o.FH af [9] bE 1 _ _ rfl rfl af bE).mono ?_
 rintro e w1 ⟨rfl,s⟩
 have I:=aa s
 clear f g p
 have f:=(d.o.old s.o).cell
 have g:=(d.o.old s.o).lt
 clear s
 go_wp2_with fail
 refine (I.o.chain af m.known h kn i G.o y z (r.o.old I.o.o)).mono ?_
 rintro e U ⟨rfl,u⟩
 have O:=aa u
 clear f g I
 have f:=(d.o.old u.o).cell
 have g:=(d.o.old u.o).lt
 clear u
 go_wp2_with fail
 refine (O.o.req af m.q).mono ?_
 rintro e W ⟨rfl,x⟩
 have P:=aa x
 clear f g O
 have f:=(d.o.old x.o).cell
 have g:=(d.o.old x.o).lt
 clear x
 go_wp2_with fail
 refine (P.o.yes af m.hop).mono ?_
 rintro e X ⟨rfl,h4⟩
 have T:=aa h4
 clear f g P
 have f:=(d.o.old h4.o).cell
 have g:=(d.o.old h4.o).lt
 clear h4
 go_wp2_with fail
 refine (T.o.bytes af B k (by rw [<- F.o];simp [aO.bytes,aO.body,S.o,bX,oU]) E.o).mono ?_
 rintro e Y ⟨A,c,rfl,J,K⟩
 go_wp2
 go_ret
 exact ⟨A,c,rfl,dX J H.o.size,H.o.trans' K⟩
end Go.Proofs.YthihpfpbiajddaaGreat
