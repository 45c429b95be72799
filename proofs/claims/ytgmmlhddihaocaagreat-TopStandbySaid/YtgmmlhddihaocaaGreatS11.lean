/- Texts of ours. No condition. -/
import Derived.Test.YtgmmlhddihaocaaGreatS10
set_option linter.all false
open Sx.fi renaming jc->aa,cells->ab,jz->ac,map->ae,own->af
open Go.IntKind renaming i64->ag
open List renaming map->aj
open Go.Value renaming int->ak,string->am
open Bool renaming true->ao,false->ap
namespace Sx
set_option maxRecDepth 100000
open Go Cv Go.Proofs
def Y4 (a:iq) (b:qn) (c:Lj):Prop:=zX a.used=u9 (ak ag b.c.id) [D.v (.bool ao)] (zX b.m.used)/\aa 1 (iE a.p.dm)=yY b.m 3/\aa 1 (iE a.p.settle)=yY b.m 4/\aj xP b.X.R=aj xP c.out/\a.fq b.p b.X.B b.X.U
def uP (a:qn):=(D.v (am (sb a.c.label)))
def yHh (i:qn):Prop:=
 (∀(a:Value×List D),a∈zX i.m.used->ma (ak ag i.c.id) a.fst=ao)/\∃(a:nq),a.inst=i.c.inst/\zC a.sd=i.c.side/\a.dk=i.c.dk/\a.q=i.c.dr/\zE a.s=yY i.m 1/\(qU a)/\∀(b:gq),b.fq a.p a.r.B->∃(c:Lj),c.left=i.c.dr/\(↑c.k:Int)=0/\aj xP c.out=[[dI 1,dI i.c.id,dI i.c.inst,dI i.c.side,dI i.c.dk,dI i.c.dr,dI i.c.dr,dI 0]]/\∃(d:Lj->Prop),∃(e:Lj->Nat),d c/\∀(f:Lj),d f->dq (decide ((↑f.k:Int)<(↑(aj wJ a.r.steps).length:Int))) ((0<=(↑f.k:Int)/\(↑f.k:Int)<(↑(aj wJ a.r.steps).length:Int))/\∃(g:Int),∃(h:Int),∃(j:Bool),∃(k:List (List D)),zD (aj wJ a.r.steps) (↑f.k:Int).toNat 0 4=some [dI g,dI h,D.v (.bool j),D.ro 6 k]/\∃(l:rq),l.c.kind=i.c.kind/\l.c.id=i.c.id/\l.c.inst=i.c.inst/\l.c.side=i.c.side/\l.c.dk=i.c.dk/\l.c.dr=i.c.dr/\l.c.least=i.c.least/\l.c.time=i.c.time/\sb l.c.label=sb i.c.label/\l.x.dk=g/\l.x.dr=h/\l.x.iN=j/\aj yX l.x.ig=k/\l.left=ag.wrap (f.left-h)/\sb l.m.p.code=sb i.m.p.code/\l.m.p.tick=i.m.p.tick/\l.m.p.low=i.m.p.low/\l.m.p.high=i.m.p.high/\l.m.p.wide=i.m.p.wide/\l.m.p.dt=i.m.p.dt/\l.m.p.top=i.m.p.top/\l.m.p.least=i.m.p.least/\l.m.p.part=i.m.p.part/\zE l.m.s=zE b/\zX l.m.used=u9 (ak ag i.c.id) [D.v (.bool ao)] (zX i.m.used)/\aa 1 (iE l.m.p.dm)=yY i.m 3/\aa 1 (iE l.m.p.settle)=yY i.m 4/\((l.m.p.check=0/\l.m.p.code.length<=1099511627776/\l.m.p.dm.length<=1099511627776/\l.m.p.settle.length<=1099511627776)/\((-9223372036854775808)<=l.x.dk/\l.x.dk<=9223372036854775807)/\l.x.ig.length<=1000000/\(l.c.side=1\/l.c.side=2)/\∀(m:bQ),m∈l.x.ig->m.side=1\/m.side=2)/\∀(m:Unit),True->((aj xP f.out).length+(aj xP (nN l.m.p l.c l.x l.left)).length)*(64:Nat)<=(140737488355328:Nat)/\∃(n:Lj),n.left=ag.wrap (f.left-h)/\(↑n.k:Int)=ag.wrap ((↑f.k:Int)+1)/\aj xP n.out=aj xP f.out++aj xP (nN l.m.p l.c l.x l.left)/\d n/\e n<e f/\zE l.m.s=zE b/\dj (af 331 4 (aj wJ a.r.steps))/\dj (ab [V.d (dI i.c.kind),V.d (dI i.c.id),V.d (dI i.c.inst),V.d (dI i.c.side),V.d (dI i.c.dk),V.d (dI i.c.dr),V.d (dI i.c.least),V.d (dI i.c.time),V.d (uP i)] 46)/\ab [V.d (D.v (am (sb l.m.p.code))),V.own 3,V.d (dI l.m.p.tick),V.d (dI l.m.p.low),V.d (dI l.m.p.high),V.d (dI l.m.p.wide),V.d (dI l.m.p.dt),V.d (dI l.m.p.top),V.d (dI l.m.p.least),V.d (dI l.m.p.part),V.own 4,V.nm 1 0,V.mp 2] (137:TypeId)=yY i.m 0/\ae (zX l.m.used)=ae (u9 (ak ag i.c.id) [D.v (.bool ao)] (zX i.m.used))/\aa 1 (iE l.m.p.dm)=yY i.m 3/\aa 1 (iE l.m.p.settle)=yY i.m 4) (dq (a.r.left==0) (∃(g:iq),sb g.p.code=sb i.m.p.code/\g.p.tick=i.m.p.tick/\g.p.low=i.m.p.low/\g.p.high=i.m.p.high/\g.p.wide=i.m.p.wide/\g.p.dt=i.m.p.dt/\g.p.top=i.m.p.top/\g.p.least=i.m.p.least/\g.p.part=i.m.p.part/\zE g.s=zE b/\Y4 g i f) (dq (i.c.time==1) (∃(g:HU),g.inst=i.c.inst/\g.id=i.c.id/\zC g.sd=i.c.side/\g.dk=i.c.dk/\g.dr=a.r.left/\zE g.s=zE b/\((g.s.p.code.length<=1099511627776/\g.s.p.dm.length<=1099511627776/\g.s.p.settle.length<=1099511627776)/\g.s.ej.length<=1000000/\∀(h:dp),h∈g.s.ej->(h.a.dv.length<=1000000/\(h.a.free≠0->∃(j:Slot),j∈h.a.dv/\j.used=ap)/\∀(j:bL),j∈h.a.dz->j.last=(-1)\/0<=j.last/\j.last<(↑h.a.dv.length:Int))/\h.a.dz.length<=100000/\h.fc.length<=100000/\h.dw.length<=100000/\h.spare.length<=100000)/\∀(h:Unit),True->∃(j:iq),sb j.p.code=sb i.m.p.code/\j.p.tick=i.m.p.tick/\j.p.low=i.m.p.low/\j.p.high=i.m.p.high/\j.p.wide=i.m.p.wide/\j.p.dt=i.m.p.dt/\j.p.top=i.m.p.top/\j.p.least=i.m.p.least/\j.p.part=i.m.p.part/\zE j.s=zE (gq.ic g).fst/\Y4 j i f) (((aj xP f.out).length+1)*(64:Nat)<=(140737488355328:Nat)/\∃(g:iq),sb g.p.code=sb i.m.p.code/\g.p.tick=i.m.p.tick/\g.p.low=i.m.p.low/\g.p.high=i.m.p.high/\g.p.wide=i.m.p.wide/\g.p.dt=i.m.p.dt/\g.p.top=i.m.p.top/\g.p.least=i.m.p.least/\g.p.part=i.m.p.part/\zE g.s=zE b/\zX g.used=u9 (ak ag i.c.id) [D.v (.bool ao)] (zX i.m.used)/\aa 1 (iE g.p.dm)=yY i.m 3/\aa 1 (iE g.p.settle)=yY i.m 4/\aj xP i.X.R=aj xP f.out++[[dI 4,dI i.c.id,dI i.c.inst,dI i.c.side,dI i.c.dk,dI a.r.left,dI 0,dI 0]]/\g.fq i.p i.X.B i.X.U)))
def Zm (a:qn):Prop:=ab [V.d (dI a.c.kind),V.d (dI a.c.id),V.d (dI a.c.inst),V.d (dI a.c.side),V.d (dI a.c.dk),V.d (dI a.c.dr),V.d (dI a.c.least),V.d (dI a.c.time),V.d (uP a)] 46=ab [V.d (dI a.c.kind),V.d (dI a.c.id),V.d (dI a.c.inst),V.d (dI a.c.side),V.d (dI a.c.dk),V.d (dI a.c.dr),V.d (dI a.c.least),V.d (dI a.c.time),V.d (uP a)] 46/\dj (yY a.m 0)/\dj (yY a.m 2)/\dj (yY a.m 3)/\dj (yY a.m 4)
def YC (a:Bool->Prop) (b:BU) (c:qn):Prop:=∃(d:Bool),d=ap/\a d/\dj (zE b.s)/\Zm c
def Ze (a:Int->Prop) (b:Int) (c:qn):Prop:=a b/\dj (ab [V.d (dI c.c.kind),V.d (dI c.c.id),V.d (dI c.c.inst),V.d (dI c.c.side),V.d (dI c.c.dk),V.d (dI c.c.dr),V.d (dI c.c.least),V.d (dI c.c.time),V.d (uP c)] 46)/\dj (yY c.m 0)/\dj (yY c.m 1)/\dj (yY c.m 2)/\dj (yY c.m 3)/\dj (yY c.m 4)
def Zk (a:Bool->Prop) (b:Bool) (c:nq) (d:BU) (e:qn):Prop:=a b/\zE c.s=zE d.s/\Zm e
def YT (a:iq) (b:qn) (c:A6):Prop:=zX a.used=zX b.m.used/\aa 1 (iE a.p.dm)=yY b.m 3/\aa 1 (iE a.p.settle)=yY b.m 4/\aj xP b.X.R=[xP (fq.mk 2 c.c.id 0 0 0 0 0 c.oY)]/\a.fq b.p b.X.B b.X.U
def Zd (a:qn) (b:A6):Prop:=True/\∀(c:Unit),True->∃(d:iq),sb d.p.code=sb a.m.p.code/\d.p.tick=a.m.p.tick/\d.p.low=a.m.p.low/\d.p.high=a.m.p.high/\d.p.wide=a.m.p.wide/\d.p.dt=a.m.p.dt/\d.p.top=a.m.p.top/\d.p.least=a.m.p.least/\d.p.part=a.m.p.part/\zE d.s=yY a.m 1/\YT d a b
def tT (a:qn) (b:BU) (c:A6):Prop:=True/\∀(d:Unit),True->∃(e:iq),sb e.p.code=sb a.m.p.code/\e.p.tick=a.m.p.tick/\e.p.low=a.m.p.low/\e.p.high=a.m.p.high/\e.p.wide=a.m.p.wide/\e.p.dt=a.m.p.dt/\e.p.top=a.m.p.top/\e.p.least=a.m.p.least/\e.p.part=a.m.p.part/\zE e.s=zE b.s/\YT e a c
def eF (a:qn) (b:qn):Prop:=∀(c:iq),c.fq a.p a.X.B a.X.U->∃(d:iq),sb d.p.code=sb c.p.code/\d.p.tick=c.p.tick/\d.p.low=c.p.low/\d.p.high=c.p.high/\d.p.wide=c.p.wide/\d.p.dt=c.p.dt/\d.p.top=c.p.top/\d.p.least=c.p.least/\d.p.part=c.p.part/\zE d.s=zE c.s/\zX d.used=zX c.used/\aa 1 (iE d.p.dm)=aa 1 (iE c.p.dm)/\aa 1 (iE d.p.settle)=aa 1 (iE c.p.settle)/\aj xP b.X.R=aj xP a.X.R/\d.fq b.p b.X.B b.X.U
def tV (a:qn):Prop:=(a.m.fq a.p a.B a.U/\iS a.p a.B)/\((0<=a.c.inst/\a.c.inst<(↑a.B.length:Int))/\(1<=a.c.dr/\a.c.dr<=1000000)/\(a.c.side=1\/a.c.side=2))/\a.p.dk a.c.inst a.c.dk=0/\a.X=bS a.p a.B a.U a.c
def yHg (i:qn):Prop:=
 ∃(a:lB),sb a.p.code=sb i.m.p.code/\iE a.p.dm=iE i.m.p.dm/\a.p.tick=i.m.p.tick/\a.p.low=i.m.p.low/\a.p.high=i.m.p.high/\a.p.wide=i.m.p.wide/\a.p.dt=i.m.p.dt/\a.p.top=i.m.p.top/\a.p.least=i.m.p.least/\a.p.part=i.m.p.part/\iE a.p.settle=iE i.m.p.settle/\a.a=i.c.inst/\a.b=i.c.dk/\(qF a)/\∀(b:Unit),True->dq (a.p.dk a.a a.b !=0) (∃(c:A6),c.c.kind=i.c.kind/\c.c.id=i.c.id/\c.c.inst=i.c.inst/\c.c.side=i.c.side/\c.c.dk=i.c.dk/\c.c.dr=i.c.dr/\c.c.least=i.c.least/\c.c.time=i.c.time/\sb c.c.label=sb i.c.label/\c.oY=a.p.dk a.a a.b/\Zd i c) (∃(c:Int),∃(d:Int->Prop),dq (i.c.time==3) (∃(e:Int),e=i.c.dr/\Ze d e i) (∃(e:Int),e=i.c.least/\Ze d e i)/\∀(e:Int),d e->(∀(f:Value×List D),f∈zX i.m.used->ma (ak ag i.c.id) f.fst=ao)/\∃(f:Bool),∃(g:Bool),(kR (ak ag i.c.id) (zX i.m.used)=some [D.v (.bool g)]/\f=ao\/kR (ak ag i.c.id) (zX i.m.used)=none/\[D.v (.bool g)]=[D.v (.bool ap)]/\f=ap)/\dq g (∃(h:A6),h.c.kind=i.c.kind/\h.c.id=i.c.id/\h.c.inst=i.c.inst/\h.c.side=i.c.side/\h.c.dk=i.c.dk/\h.c.dr=i.c.dr/\h.c.least=i.c.least/\h.c.time=i.c.time/\sb h.c.label=sb i.c.label/\h.oY=25/\Zd i h) (∃(h:BU),zE h.s=yY i.m 1/\(h.s.fq h.p h.B/\h.B.length<=1000)/\∀(j:Unit),True->dq (decide ((↑(Hc h.B):Int)>=250)) (∃(k:A6),k.c.kind=i.c.kind/\k.c.id=i.c.id/\k.c.inst=i.c.inst/\k.c.side=i.c.side/\k.c.dk=i.c.dk/\k.c.dr=i.c.dr/\k.c.least=i.c.least/\k.c.time=i.c.time/\sb k.c.label=sb i.c.label/\k.oY=13/\tT i h k) (∃(k:Bool),∃(l:Bool->Prop),dq (decide (e>0)) (∃(m:nq),m.inst=i.c.inst/\zC m.sd=i.c.side/\m.dk=i.c.dk/\m.q=i.c.dr/\zE m.s=zE h.s/\(qU m)/\∀(n:Unit),True->∃(p:Bool),p=decide (m.q-m.r.left<e)/\Zk l p m h i) (YC l h i)/\∀(m:Bool),l m->dq m (∃(n:A6),n.c.kind=i.c.kind/\n.c.id=i.c.id/\n.c.inst=i.c.inst/\n.c.side=i.c.side/\n.c.dk=i.c.dk/\n.c.dr=i.c.dr/\n.c.least=i.c.least/\n.c.time=i.c.time/\sb n.c.label=sb i.c.label/\n.oY=28/\tT i h n) (∃(n:Bool),∃(p:Bool->Prop),dq (i.c.time==1) (∃(q:nq),q.inst=i.c.inst/\zC q.sd=i.c.side/\q.dk=i.c.dk/\q.q=i.c.dr/\zE q.s=zE h.s/\(qU q)/\∀(r:Unit),True->∃(s:Bool),s=nB q.p q.B q.inst q.sd q.dk q.q/\Zk p s q h i) (YC p h i)/\∀(q:Bool),p q->dq q (∃(r:A6),r.c.kind=i.c.kind/\r.c.id=i.c.id/\r.c.inst=i.c.inst/\r.c.side=i.c.side/\r.c.dk=i.c.dk/\r.c.dr=i.c.dr/\r.c.least=i.c.least/\r.c.time=i.c.time/\sb r.c.label=sb i.c.label/\r.oY=23/\tT i h r) (∃(r:qn),r.c.kind=i.c.kind/\r.c.id=i.c.id/\r.c.inst=i.c.inst/\r.c.side=i.c.side/\r.c.dk=i.c.dk/\r.c.dr=i.c.dr/\r.c.least=i.c.least/\r.c.time=i.c.time/\sb r.c.label=sb i.c.label/\sb r.m.p.code=sb i.m.p.code/\r.m.p.tick=i.m.p.tick/\r.m.p.low=i.m.p.low/\r.m.p.high=i.m.p.high/\r.m.p.wide=i.m.p.wide/\r.m.p.dt=i.m.p.dt/\r.m.p.top=i.m.p.top/\r.m.p.least=i.m.p.least/\r.m.p.part=i.m.p.part/\zE r.m.s=zE h.s/\zX r.m.used=zX i.m.used/\aa 1 (iE r.m.p.dm)=yY i.m 3/\aa 1 (iE r.m.p.settle)=yY i.m 4/\(tV r)/\eF r i)))))
def ySy (i:C5):Prop:=
 ∃(iw:A5),iw.id=i.id/\iw.q=i.o.dr/\zE iw.s=yY i.m 1/\(iw.s.fq iw.p iw.B/\iw.B.length<=1000)/\∀(o:gq),o.fq iw.p (kM iw.B iw.id iw.q).fst->∃(yk:iq),sb yk.p.code=sb i.m.p.code/\yk.p.tick=i.m.p.tick/\yk.p.low=i.m.p.low/\yk.p.high=i.m.p.high/\yk.p.wide=i.m.p.wide/\yk.p.dt=i.m.p.dt/\yk.p.top=i.m.p.top/\yk.p.least=i.m.p.least/\yk.p.part=i.m.p.part/\zE yk.s=zE o/\zX yk.used=zX i.m.used/\aa 1 (iE yk.p.dm)=yY i.m 3/\aa 1 (iE yk.p.settle)=yY i.m 4/\aj xP i.X.R=[[D.v (.int .i64 4),D.v (.int .i64 i.id),D.v (.int .i64 i.inst),D.v (.int .i64 i.o.side),D.v (.int .i64 i.o.dk),D.v (.int .i64 i.o.dr),D.v (.int .i64 0),D.v (.int .i64 0)]]/\yk.fq i.p i.X.B i.X.U
def z9k (i:C5):Prop:=
 ∃(a:A5),a.id=i.id/\a.q=i.q/\zE a.s=yY i.m 1/\(a.s.fq a.p a.B/\a.B.length<=1000)/\∀(b:gq),b.fq a.p (kM a.B a.id a.q).fst->∃(c:iq),sb c.p.code=sb i.m.p.code/\c.p.tick=i.m.p.tick/\c.p.low=i.m.p.low/\c.p.high=i.m.p.high/\c.p.wide=i.m.p.wide/\c.p.dt=i.m.p.dt/\c.p.top=i.m.p.top/\c.p.least=i.m.p.least/\c.p.part=i.m.p.part/\zE c.s=zE b/\zX c.used=zX i.m.used/\aa 1 (iE c.p.dm)=yY i.m 3/\aa 1 (iE c.p.settle)=yY i.m 4/\aj xP i.X.R=[[dI 5,dI i.id,dI i.inst,dI i.o.side,dI i.o.dk,dI i.q,dI (ag.wrap (i.o.dr-i.q)),dI 0]]/\c.fq i.p i.X.B i.X.U
def tQ (a:iq) (b:MO) (c:A6):Prop:=zX a.used=zX b.m.used/\aa 1 (iE a.p.dm)=yY b.m 3/\aa 1 (iE a.p.settle)=yY b.m 4/\aj xP b.X.R=[xP (fq.mk 2 c.c.id 0 0 0 0 0 c.oY)]/\a.fq b.p b.X.B b.X.U
def lJ (a:MO):Prop:=∃(b:gq),zE b=yY a.m 1/\(fD b)/\∀(c:Unit),True->∃(d:A5),d.id=a.c.id/\d.q=a.o.dr/\zE d.s=zE b/\(d.s.fq d.p d.B/\d.B.length<=1000)/\∀(e:gq),e.fq d.p (kM d.B d.id d.q).fst->∃(f:nq),f.inst=a.inst/\zC f.sd=a.o.side/\f.dk=a.c.dk/\f.q=a.c.dr/\zE f.s=zE e/\(qU f)/\∀(g:Unit),True->dq (nB f.p f.B f.inst f.sd f.dk f.q) (∃(h:A6),h.c.kind=a.c.kind/\h.c.id=a.c.id/\h.c.inst=a.c.inst/\h.c.side=a.c.side/\h.c.dk=a.c.dk/\h.c.dr=a.c.dr/\h.c.least=a.c.least/\h.c.time=a.c.time/\sb h.c.label=sb a.c.label/\h.oY=23/\True/\∀(j:Unit),True->∃(k:iq),sb k.p.code=sb a.m.p.code/\k.p.tick=a.m.p.tick/\k.p.low=a.m.p.low/\k.p.high=a.m.p.high/\k.p.wide=a.m.p.wide/\k.p.dt=a.m.p.dt/\k.p.top=a.m.p.top/\k.p.least=a.m.p.least/\k.p.part=a.m.p.part/\zE k.s=zE b/\tQ k a h) (∃(h:C5),h.id=a.c.id/\h.inst=a.inst/\h.o.id=a.o.id/\h.o.side=a.o.side/\h.o.dk=a.o.dk/\h.o.dr=a.o.dr/\h.o.top=a.o.top/\sb h.m.p.code=sb a.m.p.code/\h.m.p.tick=a.m.p.tick/\h.m.p.low=a.m.p.low/\h.m.p.high=a.m.p.high/\h.m.p.wide=a.m.p.wide/\h.m.p.dt=a.m.p.dt/\h.m.p.top=a.m.p.top/\h.m.p.least=a.m.p.least/\h.m.p.part=a.m.p.part/\zE h.m.s=zE b/\zX h.m.used=zX a.m.used/\aa 1 (iE h.m.p.dm)=yY a.m 3/\aa 1 (iE h.m.p.settle)=yY a.m 4/\((h.m.fq h.p h.B h.U/\iS h.p h.B)/\h.X=u7 h.B h.U h.id h.inst h.o)/\∀(j:iq),j.fq h.p h.X.B h.X.U->∃(k:qn),k.c.kind=1/\k.c.id=a.c.id/\k.c.inst=a.inst/\k.c.side=a.o.side/\k.c.dk=a.c.dk/\k.c.dr=a.c.dr/\k.c.least=0/\k.c.time=1/\sb k.c.label=ByteArray.mk #[]/\sb k.m.p.code=sb j.p.code/\k.m.p.tick=j.p.tick/\k.m.p.low=j.p.low/\k.m.p.high=j.p.high/\k.m.p.wide=j.p.wide/\k.m.p.dt=j.p.dt/\k.m.p.top=j.p.top/\k.m.p.least=j.p.least/\k.m.p.part=j.p.part/\zE k.m.s=zE j.s/\zX k.m.used=zX j.used/\aa 1 (iE k.m.p.dm)=aa 1 (iE j.p.dm)/\aa 1 (iE k.m.p.settle)=aa 1 (iE j.p.settle)/\(tV k)/\∀(l:iq),l.fq k.p k.X.B k.X.U->((aj xP h.X.R).length+(aj xP k.X.R).length)*(64:Nat)<=(140737488355328:Nat)/\∃(m:iq),sb m.p.code=sb l.p.code/\m.p.tick=l.p.tick/\m.p.low=l.p.low/\m.p.high=l.p.high/\m.p.wide=l.p.wide/\m.p.dt=l.p.dt/\m.p.top=l.p.top/\m.p.least=l.p.least/\m.p.part=l.p.part/\zE m.s=zE l.s/\zX m.used=zX l.used/\aa 1 (iE m.p.dm)=aa 1 (iE l.p.dm)/\aa 1 (iE m.p.settle)=aa 1 (iE l.p.settle)/\aj xP a.X.R=aj xP h.X.R++aj xP k.X.R/\m.fq a.p a.X.B a.X.U)
def bY (a:C5):Prop:=(a.m.fq a.p a.B a.U/\iS a.p a.B)/\((-9223372036854775808)<=a.o.dr-a.q/\a.o.dr-a.q<=9223372036854775807)/\a.X=b8 a.B a.U a.id a.q a.inst a.o
def z0w (i:MO):Prop:=
 ∃(a:lB),sb a.p.code=sb i.m.p.code/\iE a.p.dm=iE i.m.p.dm/\a.p.tick=i.m.p.tick/\a.p.low=i.m.p.low/\a.p.high=i.m.p.high/\a.p.wide=i.m.p.wide/\a.p.dt=i.m.p.dt/\a.p.top=i.m.p.top/\a.p.least=i.m.p.least/\a.p.part=i.m.p.part/\iE a.p.settle=iE i.m.p.settle/\a.a=i.inst/\a.b=i.c.dk/\(qF a)/\∀(b:Unit),True->dq (a.p.dk a.a a.b !=0) (∃(c:A6),c.c.kind=i.c.kind/\c.c.id=i.c.id/\c.c.inst=i.c.inst/\c.c.side=i.c.side/\c.c.dk=i.c.dk/\c.c.dr=i.c.dr/\c.c.least=i.c.least/\c.c.time=i.c.time/\sb c.c.label=sb i.c.label/\c.oY=a.p.dk a.a a.b/\True/\∀(d:Unit),True->∃(e:iq),sb e.p.code=sb i.m.p.code/\e.p.tick=i.m.p.tick/\e.p.low=i.m.p.low/\e.p.high=i.m.p.high/\e.p.wide=i.m.p.wide/\e.p.dt=i.m.p.dt/\e.p.top=i.m.p.top/\e.p.least=i.m.p.least/\e.p.part=i.m.p.part/\zE e.s=yY i.m 1/\tQ e i c) (dq (i.c.dk==i.o.dk) (dq (decide (i.c.dr<=i.o.dr)) (∃(c:C5),c.id=i.c.id/\c.q=ag.wrap (i.o.dr-i.c.dr)/\c.inst=i.inst/\c.o.id=i.o.id/\c.o.side=i.o.side/\c.o.dk=i.o.dk/\c.o.dr=i.o.dr/\c.o.top=i.o.top/\sb c.m.p.code=sb i.m.p.code/\c.m.p.tick=i.m.p.tick/\c.m.p.low=i.m.p.low/\c.m.p.high=i.m.p.high/\c.m.p.wide=i.m.p.wide/\c.m.p.dt=i.m.p.dt/\c.m.p.top=i.m.p.top/\c.m.p.least=i.m.p.least/\c.m.p.part=i.m.p.part/\zE c.m.s=yY i.m 1/\zX c.m.used=zX i.m.used/\aa 1 (iE c.m.p.dm)=yY i.m 3/\aa 1 (iE c.m.p.settle)=yY i.m 4/\(bY c)/\∀(d:iq),d.fq c.p c.X.B c.X.U->∃(e:iq),sb e.p.code=sb d.p.code/\e.p.tick=d.p.tick/\e.p.low=d.p.low/\e.p.high=d.p.high/\e.p.wide=d.p.wide/\e.p.dt=d.p.dt/\e.p.top=d.p.top/\e.p.least=d.p.least/\e.p.part=d.p.part/\zE e.s=zE d.s/\zX e.used=zX d.used/\aa 1 (iE e.p.dm)=aa 1 (iE d.p.dm)/\aa 1 (iE e.p.settle)=aa 1 (iE d.p.settle)/\aj xP i.X.R=aj xP c.X.R/\e.fq i.p i.X.B i.X.U) (lJ i)) (lJ i))
def VS (a:C5) (b:qn):Prop:=∀(c:iq),c.fq a.p a.X.B a.X.U->∃(d:iq),sb d.p.code=sb c.p.code/\d.p.tick=c.p.tick/\d.p.low=c.p.low/\d.p.high=c.p.high/\d.p.wide=c.p.wide/\d.p.dt=c.p.dt/\d.p.top=c.p.top/\d.p.least=c.p.least/\d.p.part=c.p.part/\zE d.s=zE c.s/\zX d.used=zX c.used/\aa 1 (iE d.p.dm)=aa 1 (iE c.p.dm)/\aa 1 (iE d.p.settle)=aa 1 (iE c.p.settle)/\aj xP b.X.R=aj xP a.X.R/\d.fq b.p b.X.B b.X.U
def V2 (a:iq) (b:qn) (c:A6):Prop:=zX a.used=zX b.m.used/\aa 1 (iE a.p.dm)=aa 1 (iE b.m.p.dm)/\aa 1 (iE a.p.settle)=aa 1 (iE b.m.p.settle)/\aj xP b.X.R=[xP (fq.mk 2 c.c.id 0 0 0 0 0 c.oY)]/\a.fq b.p b.X.B b.X.U
def z4p (a:qn) (b:A5):Prop:=∃(c:C5),c.id=a.c.id/\c.inst=(z5 b.B b.id).fst/\c.o.id=(z5 b.B b.id).snd.fst.id/\c.o.side=(z5 b.B b.id).snd.fst.side/\c.o.dk=(z5 b.B b.id).snd.fst.dk/\c.o.dr=(z5 b.B b.id).snd.fst.dr/\c.o.top=(z5 b.B b.id).snd.fst.top/\sb c.m.p.code=sb a.m.p.code/\c.m.p.tick=a.m.p.tick/\c.m.p.low=a.m.p.low/\c.m.p.high=a.m.p.high/\c.m.p.wide=a.m.p.wide/\c.m.p.dt=a.m.p.dt/\c.m.p.top=a.m.p.top/\c.m.p.least=a.m.p.least/\c.m.p.part=a.m.p.part/\zE c.m.s=zE b.s/\zX c.m.used=zX a.m.used/\aa 1 (iE c.m.p.dm)=aa 1 (iE a.m.p.dm)/\aa 1 (iE c.m.p.settle)=aa 1 (iE a.m.p.settle)/\((c.m.fq c.p c.B c.U/\iS c.p c.B)/\c.X=u7 c.B c.U c.id c.inst c.o)/\VS c a
def yOg (a:qn):Prop:=∃(b:A5),b.id=a.c.id/\zE b.s=zE a.m.s/\(b.s.fq b.p b.B/\b.B.length<=1000)/\∀(c:Unit),True->dq (!(z5 b.B b.id).snd.snd) (∃(d:A6),d.c.kind=a.c.kind/\d.c.id=a.c.id/\d.c.inst=a.c.inst/\d.c.side=a.c.side/\d.c.dk=a.c.dk/\d.c.dr=a.c.dr/\d.c.least=a.c.least/\d.c.time=a.c.time/\sb d.c.label=sb a.c.label/\d.oY=26/\True/\∀(e:Unit),True->∃(f:iq),sb f.p.code=sb a.m.p.code/\f.p.tick=a.m.p.tick/\f.p.low=a.m.p.low/\f.p.high=a.m.p.high/\f.p.wide=a.m.p.wide/\f.p.dt=a.m.p.dt/\f.p.top=a.m.p.top/\f.p.least=a.m.p.least/\f.p.part=a.m.p.part/\zE f.s=zE b.s/\V2 f a d) (dq (a.c.kind==4) (∃(d:MO),d.c.kind=a.c.kind/\d.c.id=a.c.id/\d.c.inst=a.c.inst/\d.c.side=a.c.side/\d.c.dk=a.c.dk/\d.c.dr=a.c.dr/\d.c.least=a.c.least/\d.c.time=a.c.time/\sb d.c.label=sb a.c.label/\d.inst=(z5 b.B b.id).fst/\d.o.id=(z5 b.B b.id).snd.fst.id/\d.o.side=(z5 b.B b.id).snd.fst.side/\d.o.dk=(z5 b.B b.id).snd.fst.dk/\d.o.dr=(z5 b.B b.id).snd.fst.dr/\d.o.top=(z5 b.B b.id).snd.fst.top/\sb d.m.p.code=sb a.m.p.code/\d.m.p.tick=a.m.p.tick/\d.m.p.low=a.m.p.low/\d.m.p.high=a.m.p.high/\d.m.p.wide=a.m.p.wide/\d.m.p.dt=a.m.p.dt/\d.m.p.top=a.m.p.top/\d.m.p.least=a.m.p.least/\d.m.p.part=a.m.p.part/\zE d.m.s=zE b.s/\zX d.m.used=zX a.m.used/\aa 1 (iE d.m.p.dm)=aa 1 (iE a.m.p.dm)/\aa 1 (iE d.m.p.settle)=aa 1 (iE a.m.p.settle)/\(d.m.fq d.p d.B d.U/\iS d.p d.B/\z5 d.B d.c.id=(d.inst,d.o,ao)/\(1<=d.c.dr/\d.c.dr<=1000000)/\d.X=dB d.p d.B d.U d.c d.inst d.o)/\∀(e:iq),e.fq d.p d.X.B d.X.U->∃(f:iq),sb f.p.code=sb e.p.code/\f.p.tick=e.p.tick/\f.p.low=e.p.low/\f.p.high=e.p.high/\f.p.wide=e.p.wide/\f.p.dt=e.p.dt/\f.p.top=e.p.top/\f.p.least=e.p.least/\f.p.part=e.p.part/\zE f.s=zE e.s/\zX f.used=zX e.used/\aa 1 (iE f.p.dm)=aa 1 (iE e.p.dm)/\aa 1 (iE f.p.settle)=aa 1 (iE e.p.settle)/\aj xP a.X.R=aj xP d.X.R/\f.fq a.p a.X.B a.X.U) (dq (a.c.kind==2) (z4p a b) (dq (decide (a.c.dr>=(z5 b.B b.id).snd.fst.dr)) (z4p a b) (∃(d:C5),d.id=a.c.id/\d.q=a.c.dr/\d.inst=(z5 b.B b.id).fst/\d.o.id=(z5 b.B b.id).snd.fst.id/\d.o.side=(z5 b.B b.id).snd.fst.side/\d.o.dk=(z5 b.B b.id).snd.fst.dk/\d.o.dr=(z5 b.B b.id).snd.fst.dr/\d.o.top=(z5 b.B b.id).snd.fst.top/\sb d.m.p.code=sb a.m.p.code/\d.m.p.tick=a.m.p.tick/\d.m.p.low=a.m.p.low/\d.m.p.high=a.m.p.high/\d.m.p.wide=a.m.p.wide/\d.m.p.dt=a.m.p.dt/\d.m.p.top=a.m.p.top/\d.m.p.least=a.m.p.least/\d.m.p.part=a.m.p.part/\zE d.m.s=zE b.s/\zX d.m.used=zX a.m.used/\aa 1 (iE d.m.p.dm)=aa 1 (iE a.m.p.dm)/\aa 1 (iE d.m.p.settle)=aa 1 (iE a.m.p.settle)/\(bY d)/\VS d a))))
def Vdo (i:qn):Prop:=
 ∃(a:ir),a.kind=i.c.kind/\a.id=i.c.id/\a.inst=i.c.inst/\a.side=i.c.side/\a.dk=i.c.dk/\a.dr=i.c.dr/\a.least=i.c.least/\a.time=i.c.time/\sb a.label=sb i.c.label/\a.label.length<=140737488355328/\∀(b:Unit),True->dq (a.right !=0) (∃(c:A6),c.c.kind=i.c.kind/\c.c.id=i.c.id/\c.c.inst=i.c.inst/\c.c.side=i.c.side/\c.c.dk=i.c.dk/\c.c.dr=i.c.dr/\c.c.least=i.c.least/\c.c.time=i.c.time/\sb c.c.label=sb i.c.label/\c.oY=a.right/\True/\∀(d:Unit),True->∃(e:iq),sb e.p.code=sb i.m.p.code/\e.p.tick=i.m.p.tick/\e.p.low=i.m.p.low/\e.p.high=i.m.p.high/\e.p.wide=i.m.p.wide/\e.p.dt=i.m.p.dt/\e.p.top=i.m.p.top/\e.p.least=i.m.p.least/\e.p.part=i.m.p.part/\zE e.s=zE i.m.s/\V2 e i c) (dq (i.c.kind==1) (∃(c:qn),c.c.kind=i.c.kind/\c.c.id=i.c.id/\c.c.inst=i.c.inst/\c.c.side=i.c.side/\c.c.dk=i.c.dk/\c.c.dr=i.c.dr/\c.c.least=i.c.least/\c.c.time=i.c.time/\sb c.c.label=sb i.c.label/\sb c.m.p.code=sb i.m.p.code/\c.m.p.tick=i.m.p.tick/\c.m.p.low=i.m.p.low/\c.m.p.high=i.m.p.high/\c.m.p.wide=i.m.p.wide/\c.m.p.dt=i.m.p.dt/\c.m.p.top=i.m.p.top/\c.m.p.least=i.m.p.least/\c.m.p.part=i.m.p.part/\zE c.m.s=zE i.m.s/\zX c.m.used=zX i.m.used/\aa 1 (iE c.m.p.dm)=aa 1 (iE i.m.p.dm)/\aa 1 (iE c.m.p.settle)=aa 1 (iE i.m.p.settle)/\((c.m.fq c.p c.B c.U/\iS c.p c.B)/\c.c.right=0/\c.c.kind=1/\c.X=pK c.p c.B c.U c.c)/\eF c i) ((yOg i)/\dj i.c.id/\True/\yOg i))
def T6 (p:ff) (B:List (List zI)) (U:List Int) (c:ir):bS p B U c=⟨if(wU p B c.inst (decide (c.side=2)) c.dk c.dr).left≠0/\c.time=1 then(Kx p (wU p B c.inst (decide (c.side=2)) c.dk c.dr).B c.inst c.id c.side c.dk (wU p B c.inst (decide (c.side=2)) c.dk c.dr).left).1 else(wU p B c.inst (decide (c.side=2)) c.dk c.dr).B,Gx U c.id,
 (⟨1,c.id,c.inst,c.side,c.dk,c.dr,c.dr,0⟩::m7 p c (wU p B c.inst (decide (c.side=2)) c.dk c.dr).steps c.dr)++if(wU p B c.inst (decide (c.side=2)) c.dk c.dr).left≠0/\c.time≠1 then[⟨4,c.id,c.inst,c.side,c.dk,(wU p B c.inst (decide (c.side=2)) c.dk c.dr).left,0,0⟩]else[]⟩:=by
 rw[bS]
def zUm {p:ff} {B:List (List zI)} (h:tg p B) (U:List Int) (c:ir):iS p (bS p B U c).B:=by
 have:=(rC (inst:=c.inst) (sd:=decide (c.side=2)) (dk:=c.dk) _ c.dr B (lk _) h).1.ok;rw[T6];dsimp only;split
 ·exact this.add _ _ _ _ _
 ·exact this
def yEd {p:ff} {B:List (List zI)} (h:tg p B) (U:List Int) (c:ir):iS p (pK p B U c).B:=by
 rw[pK];split
 ·exact h.ok
 split
 ·exact h.ok
 split
 ·exact h.ok
 split
 ·exact h.ok
 split
 ·exact h.ok
 exact zUm h U c
def y1j {p:ff} {B:List (List zI)} (h:tg p B) (U:List Int) (c:ir):iS p (AS p B U c).B:=by
 rw[AS];split
 ·exact h.ok
 split
 ·exact yEd h U c
 split
 ·exact h.ok
 split
 ·rw[dB];split
  ·exact h.ok
  split
  ·exact h.ok.take _ _
  split
  ·exact h.ok
  exact zUm (h.take _ _) U _
 split
 ·exact h.ok.take _ _
 ·exact h.ok.take _ _
def Two (L:List zI):Prop:=L=lM L 1++lM L 2
def lK {inst s:Int} {f:bQ}:∀{os:List zI} {sh:List Int},f∈x6 inst s os sh->f.side=s/\f.inst=inst/\∃o∈os,f.dk=o.dk
 |[],sh,h=>by cases h
 |o::os,[],h=>by cases h
 |o::os,k::sh,h=>by
  rw[x6]at h;split at h
  ·rcases mn.1 h with rfl|h
   ·exact⟨rfl,rfl,o,jm,rfl⟩
   ·obtain⟨a,b,o',c,d⟩:=lK h;exact⟨a,b,o',kg _ c,d⟩
  ·obtain⟨a,b,o',c,d⟩:=lK h;exact⟨a,b,o',kg _ c,d⟩
def FOk (f:bQ):Prop:=(f.side=1\/f.side=2)/\-2000000<=f.dk/\f.dk<=2000000
def Xy {p:ff} {B:List (List zI)} (h:iS p B) (inst:Int) {s:Int} (hs:s=1\/s=2) (q:Int):∀f∈qY p B inst s q,FOk f:=by
 intro f hf;obtain⟨a,_,o,ho,e⟩:=lK hf;refine⟨by rw[a];exact hs,?_⟩;rw[e];have ho:=(uu.1 ho).1;by_cases hk:inst.toNat<B.length
 ·obtain⟨L,hL⟩:=z6 hk;rw[zT hL]at ho;exact h.xz hL o ho
 ·rw[nk,ue (by omega)]at ho;cases ho
def Vt (t:wC):Prop:=(-2000000<=t.dk/\t.dk<=2000000)/\(∀f∈t.ig,FOk f)/\t.ig.length<=500
def yRp {p:ff} {B:List (List zI)} (h:tg p B) {inst:Int} (hi:0<=inst/\inst<B.length) {s:Int} (hs:s=1\/s=2) (hn:(yV p B inst s).2.2=ao): -2000000<=(yV p B inst s).1.dk/\(yV p B inst s).1.dk<=2000000:=by
 rw[yV]at hn ⊢;obtain⟨L,hL⟩:=z6 (l:=B) (i:=inst.toNat) oM;rw[zT hL]at hn ⊢;split
 ·exact V4 (h.ok.xz hL)
 ·rename_i c;rw[fb c]at hn;have hm:=Ym hn;have:=(uu.1 hm).2;exact lU h.ok.pc (oV this)
def yPd {p:ff} {B:List (List zI)} (h:tg p B) {inst:Int} (hi:0<=inst/\inst<B.length) {sd:Bool} {dk q:Int} {t:wC} {B':List (List zI)} (e:mU p B inst sd dk q=some (t,B')):Vt t:=by
 have hs:zC (!sd)=1\/zC (!sd)=2:=Ol _;have hb:=yRp h hi hs;have vt:=yAt h.ok h.od hi hs;rw[mU]at e;dsimp only at e;split at e
 ·rename_i c;have c1:(yV p B inst (zC (!sd))).2.2=ao:=by
   cases hx:(yV p B inst (zC (!sd))).2.2 with
   |false=>rw[hx]at c;cases c
   |true=>rfl
  have hb:=hb c1;obtain⟨_,vt,_⟩:=vt c1;split at e
  ·rename_i c2;obtain⟨_,ok⟩:=vt c2;cases e;refine⟨hb,λf hf=> ?_,?_⟩
   ·rcases pz.1 hf with hf|hf
    ·exact Xy h.ok _ ok.sa _ f hf
    ·exact Xy h.ok.takes _ ok.sb _ f hf
   ·dsimp only;rw[iv];have:=rQ (p:=p) h.od (yV p B inst (zC (!sd))).1.a.inst (yV p B inst (zC (!sd))).1.a.side (min q (yV p B inst (zC (!sd))).1.dr);have:=rQ (p:=p) (h.takes (fs:=qY p B (yV p B inst (zC (!sd))).1.a.inst (yV p B inst (zC (!sd))).1.a.side (min q (yV p B inst (zC (!sd))).1.dr))).od (yV p B inst (zC (!sd))).1.b.inst (yV p B inst (zC (!sd))).1.b.side (min q (yV p B inst (zC (!sd))).1.dr);omega
  ·cases e;refine⟨hb,λf hf=>Xy h.ok _ hs _ f hf,?_⟩;have:=rQ (p:=p) h.od inst (zC (!sd)) (min q (yV p B inst (zC (!sd))).1.dr);dsimp only;omega
 ·cases e
def Zl (a:A5):Prop:=yS a.s.wh=yS a.s.wh/\dj (aa 1 (iE a.s.p.dm))/\dj (aa 1 (iE a.s.p.settle))/\True
def yGk (i:A5):Prop:=
 (mO i)/\∃(a:Bool),∃(b:Int),(sW i b a)/\dq (!a) (∃(c:Unit),(z5 i.B i.id).fst=0/\(z5 i.B i.id).snd.fst.id=0/\(z5 i.B i.id).snd.fst.side=0/\(z5 i.B i.id).snd.fst.dk=0/\(z5 i.B i.id).snd.fst.dr=0/\(z5 i.B i.id).snd.fst.top=ap/\(z5 i.B i.id).snd.snd=ap/\dj (sb i.s.p.code)/\dj i.s.p.tick/\dj i.s.p.low/\dj i.s.p.high/\dj i.s.p.wide/\dj i.s.p.dt/\dj i.s.p.top/\dj i.s.p.least/\dj i.s.p.part/\dj (ac 211 dp 6 zQ i.s.ej none)/\Zl i) ((0<=b/\b<(↑i.s.ej.length:Int))/\b.toNat<i.s.ej.length/\∃(c:dp),i.s.ej[b.toNat]?=some c/\∃(d:Cj),d.id=i.id/\yB d.b=yB c/\d.b.fq d.L/\∀(e:Unit),True->∃(f:dp),yB d.b=yB f/\dj b.toNat/\b.toNat<i.s.ej.length/\∃(g:Unit),(z5 i.B i.id).fst=b/\(z5 i.B i.id).snd.fst.id=(cM d.L d.id).id/\(z5 i.B i.id).snd.fst.side=(cM d.L d.id).side/\(z5 i.B i.id).snd.fst.dk=(cM d.L d.id).dk/\(z5 i.B i.id).snd.fst.dr=(cM d.L d.id).dr/\(z5 i.B i.id).snd.fst.top=(cM d.L d.id).top/\(z5 i.B i.id).snd.snd=ao/\dj (sb i.s.p.code)/\dj i.s.p.tick/\dj i.s.p.low/\dj i.s.p.high/\dj i.s.p.wide/\dj i.s.p.dt/\dj i.s.p.top/\dj i.s.p.least/\dj i.s.p.part/\ac 211 dp 6 zQ i.s.ej none=ac 211 dp 6 zQ (i.s.ej.set b.toNat f) none/\Zl i)
def yWp (i:A5) (h:FC.dq i):yGk i:=by
 obtain⟨hR,hB⟩:i.s.fq i.p i.B/\i.B.length<=1000:=h;have tr:=hR.at_ i.id;unfold yGk mO sW Zl dI;rw[z5];cases hi:mZ i.B i.id with
 |none=>
  rw[hi]at tr;exact⟨cN _ _,ap,0,.inr ⟨by rw[rD,tr];rfl,rfl,rfl⟩,Cv.dq.mk (λ_=>⟨(),gu⟩) (λe=>absurd e Z8)⟩
 |some k=>
  rw[hi]at tr;obtain⟨L,hL,hh⟩:=gZ hi;have hk:=(jv.1 hL).1;obtain⟨b,hb⟩:=z6 (l:=i.s.ej) (i:=k) (by rw[hR.bl];exact hk);have DK:=hR.bk k b L hb hL;have Am:=hR.bl;refine⟨cN _ _,ao,k,.inl ⟨by rw[rD,tr];rfl,rfl⟩,Cv.dq.mk (λe=>absurd e Z8) (λ_=> ?_)⟩;dsimp only;rw[oF,zT hL];have hs:=uV hb;refine⟨⟨oM,oM⟩,oM,b,hb,⟨b,L,i.id,0⟩,rfl,rfl,DK,λ_ _=>⟨b,rfl,rfl,oM,(),?_⟩⟩;rw[hs]
  (repeat'(first|exact trivial|exact rfl|apply And.intro))
def yKf:FC.ok Tryz.prog 160:=ib mixed (dx z1n fj) 0 (λ_=>[]) (λ_=>[]) [0] Tryz.func160 yWp
def zVe (id:Int) (U:List Int):∀p∈zX U,ma (ak ag id) p.1=ao:=by
 intro p hp;obtain⟨k,_,rfl⟩:=pj.1 hp;rfl
def zUu (id:Int):∀U:List Int,u9 (ak ag id) [D.v (.bool ao)] (zX U)=zX (Gx U id)
 |[]=>rfl
 |k::U=>by
  have ih:=zUu id U;have e:aA (ak ag id) (ak ag k)=decide (id=k):=by simp[aA,wj]
  show(bif aA (ak ag id) (ak ag k)then(ak ag k,[D.v (.bool ao)])::zX U else(ak ag k,[D.v (.bool ao)])::u9 (ak ag id) [D.v (.bool ao)] (zX U))=_;rw[e,ih];by_cases c:id=k
  ·rw[lg c,cond_true,Gx,fh (by rw[c];exact jm)];rfl
  ·rw[ku c,cond_false,Gx,Gx];have hm:id∈k::U↔id∈U:=by simp[c]
   by_cases d:id∈U
   ·rw[fh d,fh (hm.2 d)];rfl
   ·rw[fb d,fb (λx=>d (hm.1 x))];rfl
def zVf (id:Int):∀U:List Int,kR (ak ag id) (zX U)=if id∈U then some [D.v (.bool ao)]else none
 |[]=>rfl
 |k::U=>by
  have ih:=zVf id U;have e:aA (ak ag id) (ak ag k)=decide (id=k):=by simp[aA,wj]
  show(bif aA (ak ag id) (ak ag k)then some [D.v (.bool ao)]else kR (ak ag id) (zX U))=_;rw[e,ih];by_cases c:id=k
  ·rw[lg c,cond_true,fh (by rw[c];exact jm)]
  ·rw[ku c,cond_false];have hm:id∈k::U↔id∈U:=by simp[c]
   by_cases d:id∈U
   ·rw[fh d,fh (hm.2 d)]
   ·rw[fb d,fb (λx=>d (hm.1 x))]
def yGt (id:Int) (U:List Int):kR (ak ag id) (zX U)=some [D.v (.bool (decide (id∈U)))]/\decide (id∈U)=ao\/kR (ak ag id) (zX U)=none/\[D.v (.bool (decide (id∈U)))]=[D.v (.bool ap)]/\decide (id∈U)=ap:=by
 rw[zVf];by_cases c:id∈U
 ·rw[fh c,lg c];exact .inl ⟨rfl,rfl⟩
 ·rw[fb c,ku c];exact .inr ⟨rfl,rfl,rfl⟩
def VX {p:ff} {inst:Int} {sd:Bool} {dk:Int}:∀(m:Nat) (q:Int) (B:List (List zI)),q.toNat<=m->tg p B->0<=inst/\inst<B.length->
 (∀t∈(wU p B inst sd dk q).steps,Vt t/\1<=t.dr)/\((wU p B inst sd dk q).steps.map (·.dr)).sum=q-(wU p B inst sd dk q).left
 |m,q,B,hm,h,hi=>by
  by_cases hq:q<=0
  ·rw[lH (.inl hq)];exact⟨λt ht=>(by cases ht),by simp⟩
  cases hs:mU p B inst sd dk q with
  |none=>rw[lH (.inr hs)];exact⟨λt ht=>(by cases ht),by simp⟩
  |some x=>
   obtain⟨t,C⟩:=x;obtain⟨k1,k2⟩:=zVb h hs;have rl:=NP oM hs;cases m with
   |zero=>omega
   |succ m=>
   obtain⟨i1,i2⟩:=VX (p:=p) (inst:=inst) (sd:=sd) (dk:=dk) m (q-t.dr) C oM k1 (by rw[k2];exact hi);rw[W7 (by omega) hs];refine⟨λu hu=> ?_,?_⟩
   ·rcases mn.1 hu with rfl|hu
    ·exact⟨yPd h hi hs,rl.1⟩
    ·exact i1 u hu
   ·dsimp only;rw[jx,ra,i2];omega
def yUt {α:Type} {f:α->List fq} (hf:∀x,(f x).length<=3):∀l:List α,(l.flatMap f).length<=3*l.length
 |[]=>lk _
 |x::l=>by
  have:=yUt hf l;have:=hf x;rw[wg,iv,iJ];omega
def zTn (p:ff) (c:ir) (x:wC) (left:Int):(nN p c x left).length<=3*x.ig.length+3:=by
 rw[nN,iv];have:=yUt (λf=>Xc p x (Hm f)) x.ig;have:=Xc p x ⟨3,c.id,c.inst,c.side,x.dk,x.dr,left,0⟩;omega
def Sy {l:List wC} (h:∀t∈l,Vt t/\1<=t.dr):(l.length:Int)<=(l.map (·.dr)).sum:=by
 induction l with
 |nil=>exact yp _
 |cons t l ih=>
  have:=ih λu hu=>h u (kg _ hu)
  have:=(h t jm).2;rw[jx,ra,iJ];omega
def y1c (i:qn) (h:FW.dq i):yHh i:=by
 obtain⟨m,p,B,U,c,X⟩:=i;have h':(m.fq p B U/\iS p B)/\((0<=c.inst/\c.inst<B.length)/\(1<=c.dr/\c.dr<=1000000)/\(c.side=1\/c.side=2))/\p.dk c.inst c.dk=0/\X=bS p B U c:=h;clear h;obtain⟨⟨⟨ep,hR,eu⟩,hB⟩,⟨⟨h0,h1⟩,hq,hs⟩,Jk,hX⟩:=h';subst ep eu hX;have Ai:=hR.wf hB;obtain⟨k1,k2,k3⟩:=rC (inst:=c.inst) (sd:=decide (c.side=2)) (dk:=c.dk) _ c.dr B (lk _) Ai;have k3:=k3 oM;obtain⟨s1,s2⟩:=VX (inst:=c.inst) (sd:=decide (c.side=2)) (dk:=c.dk) _ c.dr B (lk _) Ai ⟨h0,h1⟩;have hX:=T6 m.p B m.used c;have BQ:=lU hB.pc Jk;unfold yHh qU uP Y4 dI;dsimp only;rw[zUu,hX];refine⟨zVe _ _,⟨m.s,m.p,B,c.inst,decide (c.side=2),c.dk,c.dr⟩,rfl,fN hs,rfl,rfl,rfl,⟨hR,hB,⟨h0,h1⟩,hq.1,hq.2⟩,λo ho=> ?_⟩;have er:nq.r ⟨m.s,m.p,B,c.inst,decide (c.side=2),c.dk,c.dr⟩=wU m.p B c.inst (decide (c.side=2)) c.dk c.dr:=rfl;rw[er]at ho ⊢;clear hX er;generalize wU m.p B c.inst (decide (c.side=2)) c.dk c.dr=R at*;obtain⟨ts,lf,RB⟩:=R;dsimp only at*;have hlen:=Sy s1;have e4:(ts.map wJ).length=ts.length:=im ..;refine⟨⟨c.dr,0,[⟨1,c.id,c.inst,c.side,c.dk,c.dr,c.dr,0⟩]⟩,rfl,rfl,rfl,λj=>j.k<=ts.length/\j.left=lf+((ts.drop j.k).map (·.dr)).sum/\(⟨1,c.id,c.inst,c.side,c.dk,c.dr,c.dr,0⟩::m7 m.p c ts c.dr)=j.out++m7 m.p c (ts.drop j.k) j.left/\j.out.length<=1+1503*j.k,λj=>ts.length-j.k,⟨mz _,by dsimp only;rw[DA,s2];omega,rfl,lk _⟩,?_⟩
 rintro⟨left,k,out⟩ ⟨j1,j2,j3,j4⟩;dsimp only at j1 j2 j3 j4 ⊢;have e5:(out.map xP).length=out.length:=im ..;refine zH (λc1=> ?_) (λc1=> ?_)
 ·obtain⟨t,ht⟩:=z6 (l:=ts) (i:=k) oM;have hd:ts.drop k=t::ts.drop (k+1):=by rw[DC (by omega),(jv.1 ht).2]
  obtain⟨⟨t1,t2,t3⟩,t4⟩:=s1 t (lq ht);have Ei:=Sy (l:=ts.drop (k+1)) λu hu=>s1 u (Jb hu)
  have hsk:((ts.drop k).map (·.dr)).sum<=(ts.map (·.dr)).sum:=by
   have:=Sy (l:=ts.take k) λu hu=>s1 u (M6 hu)
   have e:(ts.map (·.dr)).sum=((ts.take k).map (·.dr)).sum+((ts.drop k).map (·.dr)).sum:=by
    rw[<- MW,<- jr,BK]
   omega
  rw[hd,jx,ra]at j2 hsk;rw[hd,m7]at j3;have DH:=zTn m.p c t (left-t.dr);have e6:((nN m.p c t (left-t.dr)).map xP).length=(nN m.p c t (left-t.dr)).length:=im ..;have hw:ag.wrap (left-t.dr)=left-t.dr:=iA oM;refine⟨⟨oM,oM⟩,t.dk,t.dr,t.iN,t.ig.map yX,ju ht (by simp[wJ]) rfl,?_⟩;rw[hw];refine⟨⟨⟨m.p,o,Gx m.used c.id⟩,c,t,left-t.dr⟩,gr (gr (oJ (iT ⟨rfl,⟨⟨hB.pc,hB.ps⟩,⟨Z9,Z9⟩,Z9,hs,λf hf=>(t2 f hf).1⟩,λ_ _=>⟨by dsimp only;rw[e5,e6];omega,⟨left-t.dr,k+1,out++nN m.p c t (left-t.dr)⟩,rfl,rf oM,by dsimp only;rw[jr],⟨Z9,Z9,by dsimp only;rw[j3,jh],by dsimp only;rw[iv];omega⟩,Z9,gu⟩⟩)))⟩
 have hk:k=ts.length:=by omega
 subst hk;rw[List.drop_of_length_le (lk _)]at j2 j3;rw[m7,oU]at j3;rw[<- j3];rw[<- j3]at e5 j4;have hRB:=k1.ok;refine Cv.dq.mk (λe=> ?_) (λe=>Cv.dq.mk (λe2=> ?_) (λe2=> ?_))
 ·have e:lf=0:=by simpa using e
  rw[fb (by omega),fb (by omega),oU];exact⟨⟨m.p,o,Gx m.used c.id⟩,gr (mh ⟨rfl,ho,rfl⟩)⟩
 ·have e:¬lf=0:=by simpa using e
  have e2:c.time=1:=by simpa using e2
  rw[fb (show ¬(lf≠0/\c.time≠1)by omega),fh (show lf≠0/\c.time=1 from⟨e,e2⟩),oU];have ha:=(ho.add c.inst c.id (decide (c.side=2)) c.dk lf).1;rw[fN hs]at ha;exact⟨⟨o,c.inst,c.id,decide (c.side=2),c.dk,lf⟩,rfl,rfl,fN hs,rfl,rfl,rfl,ho.fit hRB,λ_ _=>⟨⟨m.p,(gq.ic ⟨o,c.inst,c.id,decide (c.side=2),c.dk,lf⟩).1,Gx m.used c.id⟩,gr (mh ⟨rfl,ha,rfl⟩)⟩⟩
 ·have e:¬lf=0:=by simpa using e
  have e2:¬c.time=1:=by simpa using e2
  rw[fh (show lf≠0/\c.time≠1 from⟨e,e2⟩),fb (show ¬(lf≠0/\c.time=1)by omega)];exact⟨by rw[e5];omega,⟨m.p,o,Gx m.used c.id⟩,gr (nn ⟨rfl,by rw[jr];rfl,rfl,ho,rfl⟩)⟩
def zZr:FW.ok Tryz.prog 197:=ib mixed (dx Z5 (dx yOi (dx ySw fj))) 0 (λ_=>[]) (λi=>y1m i) [] Tryz.func197 y1c
def zVl:IB.ok Tryz.prog 162:=ib (V:=ySy) mixed (dx Tc fj) 0 (λ_=>[]) (λ_=>[]) [] Tryz.func162 λ(i:C5) h=>by
 obtain⟨m,p,B,U,id,q,inst,o,X⟩:=i;have h':(m.fq p B U/\iS p B)/\X=u7 B U id inst o:=h;clear h;obtain⟨⟨⟨ep,hR,eu⟩,hB⟩,hX⟩:=h';subst ep eu hX;have:=xS m.p;have:=hB.bl;exact⟨⟨m.s,m.p,B,id,o.dr⟩,rfl,rfl,rfl,⟨hR,Z9⟩,λo' ho=>⟨⟨m.p,o',m.used⟩,gr (mh ⟨rfl,ho,rfl⟩)⟩⟩
def zTo:Ir.ok Tryz.prog 163:=ib (V:=z9k) mixed (dx Tc fj) 0 (λ_=>[]) (λ_=>[]) [] Tryz.func163 λ(i:C5) h=>by
 obtain⟨m,p,B,U,id,q,inst,o,X⟩:=i;have h':(m.fq p B U/\iS p B)/\gx (o.dr-q)/\X=b8 B U id q inst o:=h;clear h;obtain⟨⟨⟨ep,hR,eu⟩,hB⟩,hw,hX⟩:=h';subst ep eu hX;have:=xS m.p;have:=hB.bl;have hw:=iA hw;unfold z9k dI;dsimp only;rw[hw];exact⟨⟨m.s,m.p,B,id,q⟩,rfl,rfl,rfl,⟨hR,Z9⟩,λo' ho=>⟨⟨m.p,o',m.used⟩,gr (mh ⟨rfl,ho,rfl⟩)⟩⟩
def zTb {c:ir} (h:c.right=0):(if c.kind=1 then c.gg else if c.kind≠2/\kL c.dr=ap then 24 else if c.kind=4/\vU c.dk=ap then 23 else 0)=0:=by
 rw[ir.right]at h;by_cases c1:c.kind<1\/4<c.kind
 ·rw[fh c1]at h;cases h
 rw[fb c1]at h;by_cases c2:c.id<1\/1099511627776<c.id
 ·rw[fh c2]at h;cases h
 rw[fb c2]at h;exact h
def zTp {c:ir} (h:c.right=0) (hk:c.kind=1):(c.side=1\/c.side=2)/\(1<=c.dr/\c.dr<=1000000)/\(0<=c.least/\c.least<=c.dr):=by
 have h:=zTb h;rw[fh hk,ir.gg]at h;by_cases c1:c.side≠1/\c.side≠2
 ·rw[fh c1]at h;cases h
 rw[fb c1]at h;by_cases c2:c.time<1\/3<c.time
 ·rw[fh c2]at h;cases h
 rw[fb c2]at h;cases c3:kL c.dr with
 |false=>rw[fh c3]at h;cases h
 |true=>
  rw[fb (by rw[c3];decide)]at h;by_cases c4:c.least<0\/c.dr<c.least
  ·rw[fh c4]at h;cases h
  simp only[kL,lr,ud]at c3;exact⟨oM,c3,oM⟩
def XH {c:ir} (h:c.right=0) (hk:¬c.kind=1) (rn:¬c.kind=2):1<=c.dr/\c.dr<=1000000:=by
 have h:=zTb h;rw[fb hk]at h;cases c3:kL c.dr with
 |false=>rw[fh ⟨rn,c3⟩]at h;cases h
 |true=>
  simp only[kL,lr,ud]at c3;exact c3
def yXh (i:qn) (h:FK.dq i):yHg i:=by
 obtain⟨m,p,B,U,c,X⟩:=i;have h':(m.fq p B U/\iS p B)/\c.right=0/\c.kind=1/\X=pK p B U c:=h;clear h;obtain⟨⟨hM,hB⟩,hr,hkd,hX⟩:=h';obtain⟨ep,hR,eu⟩:=hM;subst ep eu;have hM:m.fq m.p B m.used:=⟨rfl,hR,rfl⟩
 obtain⟨hs,hq,hl⟩:=zTp hr hkd;have Am:=hB.bl;have wm:=xS m.p;unfold yHg qU tV eF tT Zd YT Zk Ze YC Zm uP qF dI;dsimp only;refine⟨⟨m.p,c.inst,c.dk⟩,gr (nn ⟨rfl,hB.ps,λ_ _=>Cv.dq.mk (λe=> ?_) (λe=> ?_)⟩)⟩
 ·have e:m.p.dk c.inst c.dk≠0:=by simpa using e
  have hx:X=⟨B,m.used,pI c (m.p.dk c.inst c.dk)⟩:=by rw[hX,pK,fh e]
  exact⟨⟨c,m.p.dk c.inst c.dk⟩,mh (iT ⟨rfl,trivial,λ_ _=>⟨m,gr (nn ⟨rfl,by rw[hx];rfl,by rw[hx];exact hM⟩)⟩⟩)⟩
 have Jk:m.p.dk c.inst c.dk=0:=by simpa using e
 have vt:=Xk Jk;have hib:0<=c.inst/\c.inst<B.length:=by omega
 rw[pK,fb (by rw[Jk];decide)]at hX;refine⟨0,λl=>l=c.KX,Cv.dq.mk (λe=>⟨c.dr,rfl,by rw[ir.KX,fh (by simpa using e)],gu⟩) (λe=>⟨c.least,rfl,by rw[ir.KX,fb (by simpa using e)],gu⟩),?_⟩;rintro _ rfl;refine⟨zVe _ _,_,_,yGt _ _,zH (λe=> ?_) (λe=> ?_)⟩
 ·have hx:X=⟨B,m.used,pI c 25⟩:=by rw[hX,fh e]
  exact⟨⟨c,25⟩,mh (iT ⟨rfl,trivial,λ_ _=>⟨m,gr (nn ⟨rfl,by rw[hx];rfl,by rw[hx];exact hM⟩)⟩⟩)⟩
 rw[fb e]at hX;refine⟨⟨m.s,m.p,B,0,ap⟩,rfl,⟨hR,Z9⟩,λ_ _=>zH (λe=> ?_) (λe=> ?_)⟩
 ·have hx:X=⟨B,m.used,pI c 13⟩:=by rw[hX,fh (by dsimp only at e;omega)]
  exact⟨⟨c,13⟩,mh (iT ⟨rfl,trivial,λ_ _=>⟨m,gr (nn ⟨rfl,by rw[hx];rfl,by rw[hx];exact hM⟩)⟩⟩)⟩
 rw[fb (by dsimp only at e;omega)]at hX;have oS:nq.ok ⟨m.s,m.p,B,c.inst,decide (c.side=2),c.dk,c.dr⟩:=⟨hR,hB,hib,hq.1,hq.2⟩
 refine⟨ao,λb=>b=decide (0<c.KX/\c.dr-(wU m.p B c.inst (decide (c.side=2)) c.dk c.dr).left<c.KX),zH (λe=>⟨⟨m.s,m.p,B,c.inst,decide (c.side=2),c.dk,c.dr⟩,rfl,fN hs,rfl,rfl,rfl,oS,λ_ _=>⟨_,rfl,decide_eq_decide.2 ⟨λx=>⟨e,x⟩,λx=>x.2⟩,gu⟩⟩) (λe=>⟨ap,rfl,(ku λx=>e x.1).symm,gu⟩),?_⟩;rintro _ rfl;refine zH (λe=> ?_) (λe=> ?_)
 ·have hx:X=⟨B,m.used,pI c 28⟩:=by rw[hX,fh e]
  exact⟨⟨c,28⟩,mh (iT ⟨rfl,trivial,λ_ _=>⟨m,gr (nn ⟨rfl,by rw[hx];rfl,by rw[hx];exact hM⟩)⟩⟩)⟩
 rw[fb e]at hX;refine⟨ao,λb=>b=decide (c.time=1/\nB m.p B c.inst (decide (c.side=2)) c.dk c.dr=ao),Cv.dq.mk (λe=>⟨⟨m.s,m.p,B,c.inst,decide (c.side=2),c.dk,c.dr⟩,rfl,fN hs,rfl,rfl,rfl,oS,λ_ _=>⟨_,rfl,?_,gu⟩⟩) (λe=>⟨ap,rfl,(ku λx=> ?_).symm,gu⟩),?_⟩
 ·have e:c.time=1:=by simpa using e
  dsimp only;cases hb:nB m.p B c.inst (decide (c.side=2)) c.dk c.dr with
  |true=>exact(lg ⟨e,rfl⟩).symm
  |false=>exact(ku λx=>by cases x.2).symm
 ·rw[x.1]at e;cases e
 rintro _ rfl;refine zH (λe=> ?_) (λe=> ?_)
 ·have hx:X=⟨B,m.used,pI c 23⟩:=by rw[hX,fh e]
  exact⟨⟨c,23⟩,mh (iT ⟨rfl,trivial,λ_ _=>⟨m,gr (nn ⟨rfl,by rw[hx];rfl,by rw[hx];exact hM⟩)⟩⟩)⟩
 rw[fb e]at hX;exact⟨⟨m,m.p,B,m.used,c,X⟩,gr (gr (yj ⟨rfl,⟨⟨hM,hB⟩,⟨hib,hq,hs⟩,Jk,hX⟩,λo ho=>⟨o,gr (mh ho)⟩⟩))⟩
def yMd:FK.ok Tryz.prog 159:=ib mixed (dx lN (dx z4y (dx z4c (dx yEh (dx zZv (dx zZr fj)))))) 0 (λ_=>yXl) (λ_=>[]) [] Tryz.func159 yXh
def V' {p:ff} {B:List (List zI)} (h:tg p B) {id inst:Int} {o:zI} (hf:z5 B id=(inst,o,ao)):(0<=inst/\inst<B.length)/\Kn o:=by
 rw[z5]at hf;split at hf
 ·cases hf
 ·rename_i k hk;obtain⟨L,hL,hh⟩:=gZ hk;rw[zT hL]at hf;cases hf;have gv:=(jv.1 hL).1;obtain⟨o,ho,e⟩:=pj.1 (kh.1 hh);have hg:=sY (h.od k L hL).2.1 ho;rw[e]at hg;rw[hg];exact⟨oM,(h.od k L hL).1 o ho⟩
def zQc (p:ff) (c:ir):∀(l:List wC) (left:Int),(∀t∈l,Vt t/\1<=t.dr)->(m7 p c l left).length<=1503*l.length
 |[],_,_=>lk _
 |t::l,left,h=>by
  have a:=zQc p c l (left-t.dr) λu hu=>h u (kg _ hu)
  have b:=zTn p c t (left-t.dr);have d:=(h t jm).1.2.2;rw[m7,iv,iJ];omega
def Zj {p:ff} {B:List (List zI)} (h:tg p B) (U:List Int) {c:ir} (hi:0<=c.inst/\c.inst<B.length) (hq:1<=c.dr/\c.dr<=1000000):(bS p B U c).R.length<=1503000002:=by
 obtain⟨s1,s2⟩:=VX (inst:=c.inst) (sd:=decide (c.side=2)) (dk:=c.dk) _ c.dr B (lk _) h hi;have k3:=(rC (inst:=c.inst) (sd:=decide (c.side=2)) (dk:=c.dk) _ c.dr B (lk _) h).2.2 oM;have:=Sy s1;have:=zQc p c _ c.dr s1;rw[T6];dsimp only;rw[iv,iJ];split
 ·rw[iJ,ua];omega
 ·rw[ua];omega
def yMx (i:MO) (h:Bv.dq i):z0w i:=by
 obtain⟨m,p,B,U,c,inst,o,X⟩:=i;have h':m.fq p B U/\iS p B/\z5 B c.id=(inst,o,ao)/\(1<=c.dr/\c.dr<=1000000)/\X=dB p B U c inst o:=h;clear h;obtain⟨hM,hB,hf,hq,hX⟩:=h';obtain⟨ep,hR,eu⟩:=hM;subst ep eu;have hM:m.fq m.p B m.used:=⟨rfl,hR,rfl⟩
 have Ai:=hR.wf hB;obtain⟨vt,GP⟩:=V' Ai hf;have Ca:=GP.s;have hoq:=GP.q;have Am:=hB.bl;have wm:=xS m.p;unfold z0w bY lJ qU fD tQ tV qF;dsimp only;refine⟨⟨m.p,inst,c.dk⟩,gr (nn ⟨rfl,hB.ps,λ_ _=>Cv.dq.mk (λe=> ?_) (λe=> ?_)⟩)⟩
 ·have e:m.p.dk inst c.dk≠0:=by simpa using e
  have hx:X=⟨B,m.used,pI c (m.p.dk inst c.dk)⟩:=by rw[hX,dB,fh e]
  exact⟨⟨c,m.p.dk inst c.dk⟩,mh (iT ⟨rfl,trivial,λ_ _=>⟨m,gr (nn ⟨rfl,by rw[hx];rfl,by rw[hx];exact hM⟩)⟩⟩)⟩
 have Jk:m.p.dk inst c.dk=0:=by simpa using e
 rw[dB,fb (by rw[Jk];decide)]at hX;have hw:ag.wrap (o.dr-c.dr)=o.dr-c.dr:=iA oM;rw[hw];refine(λhT=>Cv.dq.mk (λe1=>zH (λe2=> ?_) (λe2=>hT λx=>e2 x.2)) (λe1=>hT λx=>by rw[x.1]at e1;simp at e1)) (λ(hn:¬(c.dk=o.dk/\c.dr<=o.dr))=> ?_)
 ·have e1:c.dk=o.dk:=by simpa using e1
  rw[fh ⟨e1,e2⟩]at hX;exact⟨⟨m,m.p,B,m.used,c.id,o.dr-c.dr,inst,o,X⟩,gr (gr (nn ⟨rfl,⟨⟨hM,hB⟩,⟨Z9,Z9⟩,hX⟩,λo' ho=>⟨o',gr (mh ho)⟩⟩))⟩
 rw[fb hn]at hX;have hBt:=hB.take c.id o.dr;refine⟨m.s,rfl,hR.small hB,λ_ _=>⟨⟨m.s,m.p,B,c.id,o.dr⟩,rfl,rfl,rfl,⟨hR,Z9⟩,λo' oG=>⟨⟨o',m.p,(kM B c.id o.dr).1,inst,decide (o.side=2),c.dk,c.dr⟩,rfl,fN Ca,rfl,rfl,rfl,⟨oG,hBt,by dsimp only;rw[pN];exact vt,hq.1,hq.2⟩,λ_ _=>Cv.dq.mk (λe=> ?_) (λe=> ?_)⟩⟩⟩
 ·have hx:X=⟨B,m.used,pI c 23⟩:=by rw[hX,fh e]
  exact⟨⟨c,23⟩,mh (iT ⟨rfl,trivial,λ_ _=>⟨m,gr (nn ⟨rfl,by rw[hx];rfl,by rw[hx];exact hM⟩)⟩⟩)⟩
 rw[fb (by rw[e];decide)]at hX;refine⟨⟨m,m.p,B,m.used,c.id,0,inst,o,u7 B m.used c.id inst o⟩,gr (gr (iT ⟨rfl,⟨⟨hM,hB⟩,rfl⟩,λo1 ho1=>⟨⟨o1,m.p,(kM B c.id o.dr).1,m.used,⟨1,c.id,inst,o.side,c.dk,c.dr,0,1,[]⟩,bS m.p (kM B c.id o.dr).1 m.used ⟨1,c.id,inst,o.side,c.dk,c.dr,0,1,[]⟩⟩,gr (gr (yj ⟨rfl,⟨⟨ho1,hBt⟩,⟨by dsimp only;rw[pN];exact vt,hq,Ca⟩,Jk,rfl⟩,λo2 Jn=>⟨?_,o2,rfl,rfl,rfl,rfl,rfl,rfl,rfl,rfl,rfl,rfl,rfl,rfl,rfl,?_,?_⟩⟩))⟩⟩))⟩
 ·have:=Zj (Ai.take c.id o.dr) m.used (c:=⟨1,c.id,inst,o.side,c.dk,c.dr,0,1,[]⟩) (by dsimp only;rw[pN];exact vt) hq;dsimp only;rw[im,im];have e1:(u7 B m.used c.id inst o).R.length=1:=rfl;omega
 ·rw[hX,<- jr];rfl
 ·rw[hX];exact Jn
def z5h:Bv.ok Tryz.prog 161:=ib mixed (dx lN (dx z4y (dx Wp (dx Tc (dx zZv (dx zVl (dx zTo (dx zZr fj)))))))) 0 (λ_=>[]) (λ_=>[]) [] Tryz.func161 yMx
def vdo (i:qn) (h:doC.dq i):Vdo i:=by
 obtain⟨m,p,B,U,c,X⟩:=i;have h':(m.fq p B U/\iS p B)/\c.label.length<=140737488355328/\gx c.dr/\X=AS p B U c:=h;clear h;obtain⟨⟨hM,hB⟩,hlb,hqr,hX⟩:=h';obtain⟨ep,hR,eu⟩:=hM;subst ep eu;have hM:m.fq m.p B m.used:=⟨rfl,hR,rfl⟩
 have Ai:=hR.wf hB;have Am:=hB.bl;have wm:=xS m.p;unfold Vdo eF yOg bY z4p V2 VS;dsimp only;refine⟨c,gr ⟨rfl,hlb,λ_ _=>Cv.dq.mk (λe=> ?_) (λe=> ?_)⟩⟩
 ·have e:c.right≠0:=by simpa using e
  have hx:X=⟨B,m.used,pI c c.right⟩:=by rw[hX,AS,fh e]
  exact⟨⟨c,c.right⟩,mh (iT ⟨rfl,trivial,λ_ _=>⟨m,gr (nn ⟨rfl,by rw[hx];rfl,by rw[hx];exact hM⟩)⟩⟩)⟩
 have hr:c.right=0:=by simpa using e
 rw[AS,fb (by rw[hr];decide)]at hX;refine Cv.dq.mk (λe=> ?_) (λe=> ?_)
 ·have e:c.kind=1:=by simpa using e
  rw[fh e]at hX;exact⟨⟨m,m.p,B,m.used,c,X⟩,gr (gr (yj ⟨rfl,⟨⟨hM,hB⟩,hr,e,hX⟩,λo ho=>⟨o,gr (mh ho)⟩⟩))⟩
 have hk:¬c.kind=1:=by simpa using e
 rw[fb hk]at hX;refine(λhT=>⟨hT,rfl,trivial,hT⟩) ?_;refine⟨⟨m.s,m.p,B,c.id,0⟩,rfl,rfl,⟨hR,Z9⟩,λ_ _=>Cv.dq.mk (λe=> ?_) (λe=> ?_)⟩
 ·have e:(z5 B c.id).2.2=ap:=by simpa using e
  have hx:X=⟨B,m.used,pI c 26⟩:=by rw[hX,fh e]
  exact⟨⟨c,26⟩,mh (iT ⟨rfl,trivial,λ_ _=>⟨m,gr (nn ⟨rfl,by rw[hx];rfl,by rw[hx];exact hM⟩)⟩⟩)⟩
 have e:(z5 B c.id).2.2=ao:=by simpa using e
 rw[fb (by rw[e];decide)]at hX;dsimp only;have hf:z5 B c.id=((z5 B c.id).1,(z5 B c.id).2.1,ao):=by rw[<- e]
 generalize (z5 B c.id).1=inst at*;generalize (z5 B c.id).2.1=o at*;obtain⟨vt,GP⟩:=V' Ai hf;have hoq:=GP.q;refine Cv.dq.mk (λe4=> ?_) (λe4=>Cv.dq.mk (λe2=> ?_) (λe2=>zH (λe3=> ?_) (λe3=> ?_)))
 ·have e4:c.kind=4:=by simpa using e4
  rw[fh e4]at hX;exact⟨⟨m,m.p,B,m.used,c,inst,o,X⟩,gr (gr (gr (iT ⟨rfl,⟨hM,hB,hf,XH hr hk (by rw[e4];decide),hX⟩,λo' ho=>⟨o',gr (mh ho)⟩⟩)))⟩
 all_goals
  have e4:¬c.kind=4:=by simpa using e4
  rw[fb e4]at hX
 ·have e2:c.kind=2:=by simpa using e2
  rw[fh (.inl e2)]at hX;exact⟨⟨m,m.p,B,m.used,c.id,0,inst,o,X⟩,gr (gr (iT ⟨rfl,⟨⟨hM,hB⟩,hX⟩,λo' ho=>⟨o',gr (mh ho)⟩⟩))⟩
 ·rw[fh (.inr (by omega))]at hX;exact⟨⟨m,m.p,B,m.used,c.id,0,inst,o,X⟩,gr (gr (iT ⟨rfl,⟨⟨hM,hB⟩,hX⟩,λo' ho=>⟨o',gr (mh ho)⟩⟩))⟩
 ·have e2:¬c.kind=2:=by simpa using e2
  have hq:=XH hr hk e2;rw[fb (by omega)]at hX;exact⟨⟨m,m.p,B,m.used,c.id,c.dr,inst,o,X⟩,gr (gr (nn ⟨rfl,⟨⟨hM,hB⟩,⟨Z9,Z9⟩,hX⟩,λo' ho=>⟨o',gr (mh ho)⟩⟩))⟩
def y3a:doC.ok Tryz.prog 111:=ib mixed (dx WZ (dx z4y (dx yKf (dx yMd (dx z5h (dx zVl (dx zTo fj))))))) 0 (λ_=>[]) (λ_=>[]) [0] Tryz.func111 vdo
end Sx
