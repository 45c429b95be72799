/- Texts of ours. No condition. -/
import Derived.Test.YtgmmlhddihaocaaGreatC10
set_option linter.all false
open Sx.ff renaming ja->aa,cells->ab,jt->ac,map->ae,own->af
open Go.IntKind renaming i64->ag
open List renaming map->aj
open Go.Value renaming int->ak,string->am
open Bool renaming true->ao,false->ap
namespace Sx
set_option maxRecDepth 100000
open Go Cv Go.Proofs
def Yt (a:ic) (b:qg) (c:K3):Prop:=zX a.used=u6 (ak ag b.c.id) [D.v (.bool ao)] (zX b.m.used)/\aa 1 (iE a.p.dk)=yW b.m 3/\aa 1 (iE a.p.settle)=yW b.m 4/\aj xP b.X.R=aj xP c.out/\a.fk b.p b.X.B b.X.U
def uN (a:qg):=(D.v (am (sb a.c.label)))
def yLk (i:qg):Prop:=
 (∀(a:Value×List D),a∈zX i.m.used->lj (ak ag i.c.id) a.fst=ao)/\∃(a:nf),a.inst=i.c.inst/\zC a.sd=i.c.side/\a.dj=i.c.dj/\a.q=i.c.dq/\zE a.s=yW i.m 1/\(qS a)/\∀(b:gl),b.fk a.p a.r.B->∃(c:K3),c.left=i.c.dq/\(↑c.k:Int)=0/\aj xP c.out=[[dI 1,dI i.c.id,dI i.c.inst,dI i.c.side,dI i.c.dj,dI i.c.dq,dI i.c.dq,dI 0]]/\∃(d:K3->Prop),∃(e:K3->Nat),d c/\∀(f:K3),d f->dp (decide ((↑f.k:Int)<(↑(aj wN a.r.steps).length:Int))) ((0<=(↑f.k:Int)/\(↑f.k:Int)<(↑(aj wN a.r.steps).length:Int))/\∃(g:Int),∃(h:Int),∃(j:Bool),∃(k:List (List D)),zD (aj wN a.r.steps) (↑f.k:Int).toNat 0 4=some [dI g,dI h,D.v (.bool j),D.ro 6 k]/\∃(l:rh),l.c.kind=i.c.kind/\l.c.id=i.c.id/\l.c.inst=i.c.inst/\l.c.side=i.c.side/\l.c.dj=i.c.dj/\l.c.dq=i.c.dq/\l.c.least=i.c.least/\l.c.time=i.c.time/\sb l.c.label=sb i.c.label/\l.x.dj=g/\l.x.dq=h/\l.x.iJ=j/\aj yY l.x.gz=k/\l.left=ag.wrap (f.left-h)/\sb l.m.p.code=sb i.m.p.code/\l.m.p.tick=i.m.p.tick/\l.m.p.low=i.m.p.low/\l.m.p.high=i.m.p.high/\l.m.p.wide=i.m.p.wide/\l.m.p.dr=i.m.p.dr/\l.m.p.top=i.m.p.top/\l.m.p.least=i.m.p.least/\l.m.p.part=i.m.p.part/\zE l.m.s=zE b/\zX l.m.used=u6 (ak ag i.c.id) [D.v (.bool ao)] (zX i.m.used)/\aa 1 (iE l.m.p.dk)=yW i.m 3/\aa 1 (iE l.m.p.settle)=yW i.m 4/\((l.m.p.check=0/\l.m.p.code.length<=1099511627776/\l.m.p.dk.length<=1099511627776/\l.m.p.settle.length<=1099511627776)/\((-9223372036854775808)<=l.x.dj/\l.x.dj<=9223372036854775807)/\l.x.gz.length<=1000000/\(l.c.side=1\/l.c.side=2)/\∀(m:bG),m∈l.x.gz->m.side=1\/m.side=2)/\∀(m:Unit),True->((aj xP f.out).length+(aj xP (nH l.m.p l.c l.x l.left)).length)*(64:Nat)<=(140737488355328:Nat)/\∃(n:K3),n.left=ag.wrap (f.left-h)/\(↑n.k:Int)=ag.wrap ((↑f.k:Int)+1)/\aj xP n.out=aj xP f.out++aj xP (nH l.m.p l.c l.x l.left)/\d n/\e n<e f/\zE l.m.s=zE b/\di (af 331 4 (aj wN a.r.steps))/\di (ab [V.d (dI i.c.kind),V.d (dI i.c.id),V.d (dI i.c.inst),V.d (dI i.c.side),V.d (dI i.c.dj),V.d (dI i.c.dq),V.d (dI i.c.least),V.d (dI i.c.time),V.d (uN i)] 46)/\ab [V.d (D.v (am (sb l.m.p.code))),V.own 3,V.d (dI l.m.p.tick),V.d (dI l.m.p.low),V.d (dI l.m.p.high),V.d (dI l.m.p.wide),V.d (dI l.m.p.dr),V.d (dI l.m.p.top),V.d (dI l.m.p.least),V.d (dI l.m.p.part),V.own 4,V.nm 1 0,V.mp 2] (137:TypeId)=yW i.m 0/\ae (zX l.m.used)=ae (u6 (ak ag i.c.id) [D.v (.bool ao)] (zX i.m.used))/\aa 1 (iE l.m.p.dk)=yW i.m 3/\aa 1 (iE l.m.p.settle)=yW i.m 4) (dp (a.r.left==0) (∃(g:ic),sb g.p.code=sb i.m.p.code/\g.p.tick=i.m.p.tick/\g.p.low=i.m.p.low/\g.p.high=i.m.p.high/\g.p.wide=i.m.p.wide/\g.p.dr=i.m.p.dr/\g.p.top=i.m.p.top/\g.p.least=i.m.p.least/\g.p.part=i.m.p.part/\zE g.s=zE b/\Yt g i f) (dp (i.c.time==1) (∃(g:HC),g.inst=i.c.inst/\g.id=i.c.id/\zC g.sd=i.c.side/\g.dj=i.c.dj/\g.dq=a.r.left/\zE g.s=zE b/\((g.s.p.code.length<=1099511627776/\g.s.p.dk.length<=1099511627776/\g.s.p.settle.length<=1099511627776)/\g.s.dz.length<=1000000/\∀(h:dm),h∈g.s.dz->(h.a.du.length<=1000000/\(h.a.free≠0->∃(j:Slot),j∈h.a.du/\j.used=ap)/\∀(j:cV),j∈h.a.dx->j.last=(-1)\/0<=j.last/\j.last<(↑h.a.du.length:Int))/\h.a.dx.length<=100000/\h.ez.length<=100000/\h.dv.length<=100000/\h.spare.length<=100000)/\∀(h:Unit),True->∃(j:ic),sb j.p.code=sb i.m.p.code/\j.p.tick=i.m.p.tick/\j.p.low=i.m.p.low/\j.p.high=i.m.p.high/\j.p.wide=i.m.p.wide/\j.p.dr=i.m.p.dr/\j.p.top=i.m.p.top/\j.p.least=i.m.p.least/\j.p.part=i.m.p.part/\zE j.s=zE (gl.gx g).fst/\Yt j i f) (((aj xP f.out).length+1)*(64:Nat)<=(140737488355328:Nat)/\∃(g:ic),sb g.p.code=sb i.m.p.code/\g.p.tick=i.m.p.tick/\g.p.low=i.m.p.low/\g.p.high=i.m.p.high/\g.p.wide=i.m.p.wide/\g.p.dr=i.m.p.dr/\g.p.top=i.m.p.top/\g.p.least=i.m.p.least/\g.p.part=i.m.p.part/\zE g.s=zE b/\zX g.used=u6 (ak ag i.c.id) [D.v (.bool ao)] (zX i.m.used)/\aa 1 (iE g.p.dk)=yW i.m 3/\aa 1 (iE g.p.settle)=yW i.m 4/\aj xP i.X.R=aj xP f.out++[[dI 4,dI i.c.id,dI i.c.inst,dI i.c.side,dI i.c.dj,dI a.r.left,dI 0,dI 0]]/\g.fk i.p i.X.B i.X.U)))
def Yf (a:qg):Prop:=ab [V.d (dI a.c.kind),V.d (dI a.c.id),V.d (dI a.c.inst),V.d (dI a.c.side),V.d (dI a.c.dj),V.d (dI a.c.dq),V.d (dI a.c.least),V.d (dI a.c.time),V.d (uN a)] 46=ab [V.d (dI a.c.kind),V.d (dI a.c.id),V.d (dI a.c.inst),V.d (dI a.c.side),V.d (dI a.c.dj),V.d (dI a.c.dq),V.d (dI a.c.least),V.d (dI a.c.time),V.d (uN a)] 46/\di (yW a.m 0)/\di (yW a.m 2)/\di (yW a.m 3)/\di (yW a.m 4)
def X3 (a:Bool->Prop) (b:BJ) (c:qg):Prop:=∃(d:Bool),d=ap/\a d/\di (zE b.s)/\Yf c
def Ya (a:Int->Prop) (b:Int) (c:qg):Prop:=a b/\di (ab [V.d (dI c.c.kind),V.d (dI c.c.id),V.d (dI c.c.inst),V.d (dI c.c.side),V.d (dI c.c.dj),V.d (dI c.c.dq),V.d (dI c.c.least),V.d (dI c.c.time),V.d (uN c)] 46)/\di (yW c.m 0)/\di (yW c.m 1)/\di (yW c.m 2)/\di (yW c.m 3)/\di (yW c.m 4)
def X5 (a:Bool->Prop) (b:Bool) (c:nf) (d:BJ) (e:qg):Prop:=a b/\zE c.s=zE d.s/\Yf e
def XX (a:ic) (b:qg) (c:AX):Prop:=zX a.used=zX b.m.used/\aa 1 (iE a.p.dk)=yW b.m 3/\aa 1 (iE a.p.settle)=yW b.m 4/\aj xP b.X.R=[xP (fk.mk 2 c.c.id 0 0 0 0 0 c.oS)]/\a.fk b.p b.X.B b.X.U
def X6 (a:qg) (b:AX):Prop:=True/\∀(c:Unit),True->∃(d:ic),sb d.p.code=sb a.m.p.code/\d.p.tick=a.m.p.tick/\d.p.low=a.m.p.low/\d.p.high=a.m.p.high/\d.p.wide=a.m.p.wide/\d.p.dr=a.m.p.dr/\d.p.top=a.m.p.top/\d.p.least=a.m.p.least/\d.p.part=a.m.p.part/\zE d.s=yW a.m 1/\XX d a b
def sL (a:qg) (b:BJ) (c:AX):Prop:=True/\∀(d:Unit),True->∃(e:ic),sb e.p.code=sb a.m.p.code/\e.p.tick=a.m.p.tick/\e.p.low=a.m.p.low/\e.p.high=a.m.p.high/\e.p.wide=a.m.p.wide/\e.p.dr=a.m.p.dr/\e.p.top=a.m.p.top/\e.p.least=a.m.p.least/\e.p.part=a.m.p.part/\zE e.s=zE b.s/\XX e a c
def eA (a:qg) (b:qg):Prop:=∀(c:ic),c.fk a.p a.X.B a.X.U->∃(d:ic),sb d.p.code=sb c.p.code/\d.p.tick=c.p.tick/\d.p.low=c.p.low/\d.p.high=c.p.high/\d.p.wide=c.p.wide/\d.p.dr=c.p.dr/\d.p.top=c.p.top/\d.p.least=c.p.least/\d.p.part=c.p.part/\zE d.s=zE c.s/\zX d.used=zX c.used/\aa 1 (iE d.p.dk)=aa 1 (iE c.p.dk)/\aa 1 (iE d.p.settle)=aa 1 (iE c.p.settle)/\aj xP b.X.R=aj xP a.X.R/\d.fk b.p b.X.B b.X.U
def tF (a:qg):Prop:=(a.m.fk a.p a.B a.U/\iQ a.p a.B)/\((0<=a.c.inst/\a.c.inst<(↑a.B.length:Int))/\(1<=a.c.dq/\a.c.dq<=1000000)/\(a.c.side=1\/a.c.side=2))/\a.p.dj a.c.inst a.c.dj=0/\a.X=bJ a.p a.B a.U a.c
def yKe (i:qg):Prop:=
 ∃(a:eM),sb a.p.code=sb i.m.p.code/\iE a.p.dk=iE i.m.p.dk/\a.p.tick=i.m.p.tick/\a.p.low=i.m.p.low/\a.p.high=i.m.p.high/\a.p.wide=i.m.p.wide/\a.p.dr=i.m.p.dr/\a.p.top=i.m.p.top/\a.p.least=i.m.p.least/\a.p.part=i.m.p.part/\iE a.p.settle=iE i.m.p.settle/\a.a=i.c.inst/\a.b=i.c.dj/\(qC a)/\∀(b:Unit),True->dp (a.p.dj a.a a.b !=0) (∃(c:AX),c.c.kind=i.c.kind/\c.c.id=i.c.id/\c.c.inst=i.c.inst/\c.c.side=i.c.side/\c.c.dj=i.c.dj/\c.c.dq=i.c.dq/\c.c.least=i.c.least/\c.c.time=i.c.time/\sb c.c.label=sb i.c.label/\c.oS=a.p.dj a.a a.b/\X6 i c) (∃(c:Int),∃(d:Int->Prop),dp (i.c.time==3) (∃(e:Int),e=i.c.dq/\Ya d e i) (∃(e:Int),e=i.c.least/\Ya d e i)/\∀(e:Int),d e->(∀(f:Value×List D),f∈zX i.m.used->lj (ak ag i.c.id) f.fst=ao)/\∃(f:Bool),∃(g:Bool),(kO (ak ag i.c.id) (zX i.m.used)=some [D.v (.bool g)]/\f=ao\/kO (ak ag i.c.id) (zX i.m.used)=none/\[D.v (.bool g)]=[D.v (.bool ap)]/\f=ap)/\dp g (∃(h:AX),h.c.kind=i.c.kind/\h.c.id=i.c.id/\h.c.inst=i.c.inst/\h.c.side=i.c.side/\h.c.dj=i.c.dj/\h.c.dq=i.c.dq/\h.c.least=i.c.least/\h.c.time=i.c.time/\sb h.c.label=sb i.c.label/\h.oS=25/\X6 i h) (∃(h:BJ),zE h.s=yW i.m 1/\(h.s.fk h.p h.B/\h.B.length<=1000)/\∀(j:Unit),True->dp (decide ((↑(G1 h.B):Int)>=250)) (∃(k:AX),k.c.kind=i.c.kind/\k.c.id=i.c.id/\k.c.inst=i.c.inst/\k.c.side=i.c.side/\k.c.dj=i.c.dj/\k.c.dq=i.c.dq/\k.c.least=i.c.least/\k.c.time=i.c.time/\sb k.c.label=sb i.c.label/\k.oS=13/\sL i h k) (∃(k:Bool),∃(l:Bool->Prop),dp (decide (e>0)) (∃(m:nf),m.inst=i.c.inst/\zC m.sd=i.c.side/\m.dj=i.c.dj/\m.q=i.c.dq/\zE m.s=zE h.s/\(qS m)/\∀(n:Unit),True->∃(p:Bool),p=decide (m.q-m.r.left<e)/\X5 l p m h i) (X3 l h i)/\∀(m:Bool),l m->dp m (∃(n:AX),n.c.kind=i.c.kind/\n.c.id=i.c.id/\n.c.inst=i.c.inst/\n.c.side=i.c.side/\n.c.dj=i.c.dj/\n.c.dq=i.c.dq/\n.c.least=i.c.least/\n.c.time=i.c.time/\sb n.c.label=sb i.c.label/\n.oS=28/\sL i h n) (∃(n:Bool),∃(p:Bool->Prop),dp (i.c.time==1) (∃(q:nf),q.inst=i.c.inst/\zC q.sd=i.c.side/\q.dj=i.c.dj/\q.q=i.c.dq/\zE q.s=zE h.s/\(qS q)/\∀(r:Unit),True->∃(s:Bool),s=mB q.p q.B q.inst q.sd q.dj q.q/\X5 p s q h i) (X3 p h i)/\∀(q:Bool),p q->dp q (∃(r:AX),r.c.kind=i.c.kind/\r.c.id=i.c.id/\r.c.inst=i.c.inst/\r.c.side=i.c.side/\r.c.dj=i.c.dj/\r.c.dq=i.c.dq/\r.c.least=i.c.least/\r.c.time=i.c.time/\sb r.c.label=sb i.c.label/\r.oS=23/\sL i h r) (∃(r:qg),r.c.kind=i.c.kind/\r.c.id=i.c.id/\r.c.inst=i.c.inst/\r.c.side=i.c.side/\r.c.dj=i.c.dj/\r.c.dq=i.c.dq/\r.c.least=i.c.least/\r.c.time=i.c.time/\sb r.c.label=sb i.c.label/\sb r.m.p.code=sb i.m.p.code/\r.m.p.tick=i.m.p.tick/\r.m.p.low=i.m.p.low/\r.m.p.high=i.m.p.high/\r.m.p.wide=i.m.p.wide/\r.m.p.dr=i.m.p.dr/\r.m.p.top=i.m.p.top/\r.m.p.least=i.m.p.least/\r.m.p.part=i.m.p.part/\zE r.m.s=zE h.s/\zX r.m.used=zX i.m.used/\aa 1 (iE r.m.p.dk)=yW i.m 3/\aa 1 (iE r.m.p.settle)=yW i.m 4/\(tF r)/\eA r i)))))
def yOz (i:CS):Prop:=
 ∃(ig:AW),ig.id=i.id/\ig.q=i.o.dq/\zE ig.s=yW i.m 1/\(ig.s.fk ig.p ig.B/\ig.B.length<=1000)/\∀(o:gl),o.fk ig.p (kK ig.B ig.id ig.q).fst->∃(xz:ic),sb xz.p.code=sb i.m.p.code/\xz.p.tick=i.m.p.tick/\xz.p.low=i.m.p.low/\xz.p.high=i.m.p.high/\xz.p.wide=i.m.p.wide/\xz.p.dr=i.m.p.dr/\xz.p.top=i.m.p.top/\xz.p.least=i.m.p.least/\xz.p.part=i.m.p.part/\zE xz.s=zE o/\zX xz.used=zX i.m.used/\aa 1 (iE xz.p.dk)=yW i.m 3/\aa 1 (iE xz.p.settle)=yW i.m 4/\aj xP i.X.R=[[D.v (.int .i64 4),D.v (.int .i64 i.id),D.v (.int .i64 i.inst),D.v (.int .i64 i.o.side),D.v (.int .i64 i.o.dj),D.v (.int .i64 i.o.dq),D.v (.int .i64 0),D.v (.int .i64 0)]]/\xz.fk i.p i.X.B i.X.U
def z9m (i:CS):Prop:=
 ∃(a:AW),a.id=i.id/\a.q=i.q/\zE a.s=yW i.m 1/\(a.s.fk a.p a.B/\a.B.length<=1000)/\∀(b:gl),b.fk a.p (kK a.B a.id a.q).fst->∃(c:ic),sb c.p.code=sb i.m.p.code/\c.p.tick=i.m.p.tick/\c.p.low=i.m.p.low/\c.p.high=i.m.p.high/\c.p.wide=i.m.p.wide/\c.p.dr=i.m.p.dr/\c.p.top=i.m.p.top/\c.p.least=i.m.p.least/\c.p.part=i.m.p.part/\zE c.s=zE b/\zX c.used=zX i.m.used/\aa 1 (iE c.p.dk)=yW i.m 3/\aa 1 (iE c.p.settle)=yW i.m 4/\aj xP i.X.R=[[dI 5,dI i.id,dI i.inst,dI i.o.side,dI i.o.dj,dI i.q,dI (ag.wrap (i.o.dq-i.q)),dI 0]]/\c.fk i.p i.X.B i.X.U
def sH (a:ic) (b:ME) (c:AX):Prop:=zX a.used=zX b.m.used/\aa 1 (iE a.p.dk)=yW b.m 3/\aa 1 (iE a.p.settle)=yW b.m 4/\aj xP b.X.R=[xP (fk.mk 2 c.c.id 0 0 0 0 0 c.oS)]/\a.fk b.p b.X.B b.X.U
def l7 (a:ME):Prop:=∃(b:gl),zE b=yW a.m 1/\(fS b)/\∀(c:Unit),True->∃(d:AW),d.id=a.c.id/\d.q=a.o.dq/\zE d.s=zE b/\(d.s.fk d.p d.B/\d.B.length<=1000)/\∀(e:gl),e.fk d.p (kK d.B d.id d.q).fst->∃(f:nf),f.inst=a.inst/\zC f.sd=a.o.side/\f.dj=a.c.dj/\f.q=a.c.dq/\zE f.s=zE e/\(qS f)/\∀(g:Unit),True->dp (mB f.p f.B f.inst f.sd f.dj f.q) (∃(h:AX),h.c.kind=a.c.kind/\h.c.id=a.c.id/\h.c.inst=a.c.inst/\h.c.side=a.c.side/\h.c.dj=a.c.dj/\h.c.dq=a.c.dq/\h.c.least=a.c.least/\h.c.time=a.c.time/\sb h.c.label=sb a.c.label/\h.oS=23/\True/\∀(j:Unit),True->∃(k:ic),sb k.p.code=sb a.m.p.code/\k.p.tick=a.m.p.tick/\k.p.low=a.m.p.low/\k.p.high=a.m.p.high/\k.p.wide=a.m.p.wide/\k.p.dr=a.m.p.dr/\k.p.top=a.m.p.top/\k.p.least=a.m.p.least/\k.p.part=a.m.p.part/\zE k.s=zE b/\sH k a h) (∃(h:CS),h.id=a.c.id/\h.inst=a.inst/\h.o.id=a.o.id/\h.o.side=a.o.side/\h.o.dj=a.o.dj/\h.o.dq=a.o.dq/\h.o.top=a.o.top/\sb h.m.p.code=sb a.m.p.code/\h.m.p.tick=a.m.p.tick/\h.m.p.low=a.m.p.low/\h.m.p.high=a.m.p.high/\h.m.p.wide=a.m.p.wide/\h.m.p.dr=a.m.p.dr/\h.m.p.top=a.m.p.top/\h.m.p.least=a.m.p.least/\h.m.p.part=a.m.p.part/\zE h.m.s=zE b/\zX h.m.used=zX a.m.used/\aa 1 (iE h.m.p.dk)=yW a.m 3/\aa 1 (iE h.m.p.settle)=yW a.m 4/\((h.m.fk h.p h.B h.U/\iQ h.p h.B)/\h.X=uT h.B h.U h.id h.inst h.o)/\∀(j:ic),j.fk h.p h.X.B h.X.U->∃(k:qg),k.c.kind=1/\k.c.id=a.c.id/\k.c.inst=a.inst/\k.c.side=a.o.side/\k.c.dj=a.c.dj/\k.c.dq=a.c.dq/\k.c.least=0/\k.c.time=1/\sb k.c.label=ByteArray.mk #[]/\sb k.m.p.code=sb j.p.code/\k.m.p.tick=j.p.tick/\k.m.p.low=j.p.low/\k.m.p.high=j.p.high/\k.m.p.wide=j.p.wide/\k.m.p.dr=j.p.dr/\k.m.p.top=j.p.top/\k.m.p.least=j.p.least/\k.m.p.part=j.p.part/\zE k.m.s=zE j.s/\zX k.m.used=zX j.used/\aa 1 (iE k.m.p.dk)=aa 1 (iE j.p.dk)/\aa 1 (iE k.m.p.settle)=aa 1 (iE j.p.settle)/\(tF k)/\∀(l:ic),l.fk k.p k.X.B k.X.U->((aj xP h.X.R).length+(aj xP k.X.R).length)*(64:Nat)<=(140737488355328:Nat)/\∃(m:ic),sb m.p.code=sb l.p.code/\m.p.tick=l.p.tick/\m.p.low=l.p.low/\m.p.high=l.p.high/\m.p.wide=l.p.wide/\m.p.dr=l.p.dr/\m.p.top=l.p.top/\m.p.least=l.p.least/\m.p.part=l.p.part/\zE m.s=zE l.s/\zX m.used=zX l.used/\aa 1 (iE m.p.dk)=aa 1 (iE l.p.dk)/\aa 1 (iE m.p.settle)=aa 1 (iE l.p.settle)/\aj xP a.X.R=aj xP h.X.R++aj xP k.X.R/\m.fk a.p a.X.B a.X.U)
def b9 (a:CS):Prop:=(a.m.fk a.p a.B a.U/\iQ a.p a.B)/\((-9223372036854775808)<=a.o.dq-a.q/\a.o.dq-a.q<=9223372036854775807)/\a.X=bW a.B a.U a.id a.q a.inst a.o
def z0i (i:ME):Prop:=
 ∃(a:eM),sb a.p.code=sb i.m.p.code/\iE a.p.dk=iE i.m.p.dk/\a.p.tick=i.m.p.tick/\a.p.low=i.m.p.low/\a.p.high=i.m.p.high/\a.p.wide=i.m.p.wide/\a.p.dr=i.m.p.dr/\a.p.top=i.m.p.top/\a.p.least=i.m.p.least/\a.p.part=i.m.p.part/\iE a.p.settle=iE i.m.p.settle/\a.a=i.inst/\a.b=i.c.dj/\(qC a)/\∀(b:Unit),True->dp (a.p.dj a.a a.b !=0) (∃(c:AX),c.c.kind=i.c.kind/\c.c.id=i.c.id/\c.c.inst=i.c.inst/\c.c.side=i.c.side/\c.c.dj=i.c.dj/\c.c.dq=i.c.dq/\c.c.least=i.c.least/\c.c.time=i.c.time/\sb c.c.label=sb i.c.label/\c.oS=a.p.dj a.a a.b/\True/\∀(d:Unit),True->∃(e:ic),sb e.p.code=sb i.m.p.code/\e.p.tick=i.m.p.tick/\e.p.low=i.m.p.low/\e.p.high=i.m.p.high/\e.p.wide=i.m.p.wide/\e.p.dr=i.m.p.dr/\e.p.top=i.m.p.top/\e.p.least=i.m.p.least/\e.p.part=i.m.p.part/\zE e.s=yW i.m 1/\sH e i c) (dp (i.c.dj==i.o.dj) (dp (decide (i.c.dq<=i.o.dq)) (∃(c:CS),c.id=i.c.id/\c.q=ag.wrap (i.o.dq-i.c.dq)/\c.inst=i.inst/\c.o.id=i.o.id/\c.o.side=i.o.side/\c.o.dj=i.o.dj/\c.o.dq=i.o.dq/\c.o.top=i.o.top/\sb c.m.p.code=sb i.m.p.code/\c.m.p.tick=i.m.p.tick/\c.m.p.low=i.m.p.low/\c.m.p.high=i.m.p.high/\c.m.p.wide=i.m.p.wide/\c.m.p.dr=i.m.p.dr/\c.m.p.top=i.m.p.top/\c.m.p.least=i.m.p.least/\c.m.p.part=i.m.p.part/\zE c.m.s=yW i.m 1/\zX c.m.used=zX i.m.used/\aa 1 (iE c.m.p.dk)=yW i.m 3/\aa 1 (iE c.m.p.settle)=yW i.m 4/\(b9 c)/\∀(d:ic),d.fk c.p c.X.B c.X.U->∃(e:ic),sb e.p.code=sb d.p.code/\e.p.tick=d.p.tick/\e.p.low=d.p.low/\e.p.high=d.p.high/\e.p.wide=d.p.wide/\e.p.dr=d.p.dr/\e.p.top=d.p.top/\e.p.least=d.p.least/\e.p.part=d.p.part/\zE e.s=zE d.s/\zX e.used=zX d.used/\aa 1 (iE e.p.dk)=aa 1 (iE d.p.dk)/\aa 1 (iE e.p.settle)=aa 1 (iE d.p.settle)/\aj xP i.X.R=aj xP c.X.R/\e.fk i.p i.X.B i.X.U) (l7 i)) (l7 i))
def U' (a:CS) (b:qg):Prop:=∀(c:ic),c.fk a.p a.X.B a.X.U->∃(d:ic),sb d.p.code=sb c.p.code/\d.p.tick=c.p.tick/\d.p.low=c.p.low/\d.p.high=c.p.high/\d.p.wide=c.p.wide/\d.p.dr=c.p.dr/\d.p.top=c.p.top/\d.p.least=c.p.least/\d.p.part=c.p.part/\zE d.s=zE c.s/\zX d.used=zX c.used/\aa 1 (iE d.p.dk)=aa 1 (iE c.p.dk)/\aa 1 (iE d.p.settle)=aa 1 (iE c.p.settle)/\aj xP b.X.R=aj xP a.X.R/\d.fk b.p b.X.B b.X.U
def UW (a:ic) (b:qg) (c:AX):Prop:=zX a.used=zX b.m.used/\aa 1 (iE a.p.dk)=aa 1 (iE b.m.p.dk)/\aa 1 (iE a.p.settle)=aa 1 (iE b.m.p.settle)/\aj xP b.X.R=[xP (fk.mk 2 c.c.id 0 0 0 0 0 c.oS)]/\a.fk b.p b.X.B b.X.U
def YX (a:qg) (b:AW):Prop:=∃(c:CS),c.id=a.c.id/\c.inst=(z5 b.B b.id).fst/\c.o.id=(z5 b.B b.id).snd.fst.id/\c.o.side=(z5 b.B b.id).snd.fst.side/\c.o.dj=(z5 b.B b.id).snd.fst.dj/\c.o.dq=(z5 b.B b.id).snd.fst.dq/\c.o.top=(z5 b.B b.id).snd.fst.top/\sb c.m.p.code=sb a.m.p.code/\c.m.p.tick=a.m.p.tick/\c.m.p.low=a.m.p.low/\c.m.p.high=a.m.p.high/\c.m.p.wide=a.m.p.wide/\c.m.p.dr=a.m.p.dr/\c.m.p.top=a.m.p.top/\c.m.p.least=a.m.p.least/\c.m.p.part=a.m.p.part/\zE c.m.s=zE b.s/\zX c.m.used=zX a.m.used/\aa 1 (iE c.m.p.dk)=aa 1 (iE a.m.p.dk)/\aa 1 (iE c.m.p.settle)=aa 1 (iE a.m.p.settle)/\((c.m.fk c.p c.B c.U/\iQ c.p c.B)/\c.X=uT c.B c.U c.id c.inst c.o)/\U' c a
def yHb (a:qg):Prop:=∃(b:AW),b.id=a.c.id/\zE b.s=zE a.m.s/\(b.s.fk b.p b.B/\b.B.length<=1000)/\∀(c:Unit),True->dp (!(z5 b.B b.id).snd.snd) (∃(d:AX),d.c.kind=a.c.kind/\d.c.id=a.c.id/\d.c.inst=a.c.inst/\d.c.side=a.c.side/\d.c.dj=a.c.dj/\d.c.dq=a.c.dq/\d.c.least=a.c.least/\d.c.time=a.c.time/\sb d.c.label=sb a.c.label/\d.oS=26/\True/\∀(e:Unit),True->∃(f:ic),sb f.p.code=sb a.m.p.code/\f.p.tick=a.m.p.tick/\f.p.low=a.m.p.low/\f.p.high=a.m.p.high/\f.p.wide=a.m.p.wide/\f.p.dr=a.m.p.dr/\f.p.top=a.m.p.top/\f.p.least=a.m.p.least/\f.p.part=a.m.p.part/\zE f.s=zE b.s/\UW f a d) (dp (a.c.kind==4) (∃(d:ME),d.c.kind=a.c.kind/\d.c.id=a.c.id/\d.c.inst=a.c.inst/\d.c.side=a.c.side/\d.c.dj=a.c.dj/\d.c.dq=a.c.dq/\d.c.least=a.c.least/\d.c.time=a.c.time/\sb d.c.label=sb a.c.label/\d.inst=(z5 b.B b.id).fst/\d.o.id=(z5 b.B b.id).snd.fst.id/\d.o.side=(z5 b.B b.id).snd.fst.side/\d.o.dj=(z5 b.B b.id).snd.fst.dj/\d.o.dq=(z5 b.B b.id).snd.fst.dq/\d.o.top=(z5 b.B b.id).snd.fst.top/\sb d.m.p.code=sb a.m.p.code/\d.m.p.tick=a.m.p.tick/\d.m.p.low=a.m.p.low/\d.m.p.high=a.m.p.high/\d.m.p.wide=a.m.p.wide/\d.m.p.dr=a.m.p.dr/\d.m.p.top=a.m.p.top/\d.m.p.least=a.m.p.least/\d.m.p.part=a.m.p.part/\zE d.m.s=zE b.s/\zX d.m.used=zX a.m.used/\aa 1 (iE d.m.p.dk)=aa 1 (iE a.m.p.dk)/\aa 1 (iE d.m.p.settle)=aa 1 (iE a.m.p.settle)/\(d.m.fk d.p d.B d.U/\iQ d.p d.B/\z5 d.B d.c.id=(d.inst,d.o,ao)/\(1<=d.c.dq/\d.c.dq<=1000000)/\d.X=f9 d.p d.B d.U d.c d.inst d.o)/\∀(e:ic),e.fk d.p d.X.B d.X.U->∃(f:ic),sb f.p.code=sb e.p.code/\f.p.tick=e.p.tick/\f.p.low=e.p.low/\f.p.high=e.p.high/\f.p.wide=e.p.wide/\f.p.dr=e.p.dr/\f.p.top=e.p.top/\f.p.least=e.p.least/\f.p.part=e.p.part/\zE f.s=zE e.s/\zX f.used=zX e.used/\aa 1 (iE f.p.dk)=aa 1 (iE e.p.dk)/\aa 1 (iE f.p.settle)=aa 1 (iE e.p.settle)/\aj xP a.X.R=aj xP d.X.R/\f.fk a.p a.X.B a.X.U) (dp (a.c.kind==2) (YX a b) (dp (decide (a.c.dq>=(z5 b.B b.id).snd.fst.dq)) (YX a b) (∃(d:CS),d.id=a.c.id/\d.q=a.c.dq/\d.inst=(z5 b.B b.id).fst/\d.o.id=(z5 b.B b.id).snd.fst.id/\d.o.side=(z5 b.B b.id).snd.fst.side/\d.o.dj=(z5 b.B b.id).snd.fst.dj/\d.o.dq=(z5 b.B b.id).snd.fst.dq/\d.o.top=(z5 b.B b.id).snd.fst.top/\sb d.m.p.code=sb a.m.p.code/\d.m.p.tick=a.m.p.tick/\d.m.p.low=a.m.p.low/\d.m.p.high=a.m.p.high/\d.m.p.wide=a.m.p.wide/\d.m.p.dr=a.m.p.dr/\d.m.p.top=a.m.p.top/\d.m.p.least=a.m.p.least/\d.m.p.part=a.m.p.part/\zE d.m.s=zE b.s/\zX d.m.used=zX a.m.used/\aa 1 (iE d.m.p.dk)=aa 1 (iE a.m.p.dk)/\aa 1 (iE d.m.p.settle)=aa 1 (iE a.m.p.settle)/\(b9 d)/\U' d a))))
def Vdo (i:qg):Prop:=
 ∃(a:ib),a.kind=i.c.kind/\a.id=i.c.id/\a.inst=i.c.inst/\a.side=i.c.side/\a.dj=i.c.dj/\a.dq=i.c.dq/\a.least=i.c.least/\a.time=i.c.time/\sb a.label=sb i.c.label/\a.label.length<=140737488355328/\∀(b:Unit),True->dp (a.right !=0) (∃(c:AX),c.c.kind=i.c.kind/\c.c.id=i.c.id/\c.c.inst=i.c.inst/\c.c.side=i.c.side/\c.c.dj=i.c.dj/\c.c.dq=i.c.dq/\c.c.least=i.c.least/\c.c.time=i.c.time/\sb c.c.label=sb i.c.label/\c.oS=a.right/\True/\∀(d:Unit),True->∃(e:ic),sb e.p.code=sb i.m.p.code/\e.p.tick=i.m.p.tick/\e.p.low=i.m.p.low/\e.p.high=i.m.p.high/\e.p.wide=i.m.p.wide/\e.p.dr=i.m.p.dr/\e.p.top=i.m.p.top/\e.p.least=i.m.p.least/\e.p.part=i.m.p.part/\zE e.s=zE i.m.s/\UW e i c) (dp (i.c.kind==1) (∃(c:qg),c.c.kind=i.c.kind/\c.c.id=i.c.id/\c.c.inst=i.c.inst/\c.c.side=i.c.side/\c.c.dj=i.c.dj/\c.c.dq=i.c.dq/\c.c.least=i.c.least/\c.c.time=i.c.time/\sb c.c.label=sb i.c.label/\sb c.m.p.code=sb i.m.p.code/\c.m.p.tick=i.m.p.tick/\c.m.p.low=i.m.p.low/\c.m.p.high=i.m.p.high/\c.m.p.wide=i.m.p.wide/\c.m.p.dr=i.m.p.dr/\c.m.p.top=i.m.p.top/\c.m.p.least=i.m.p.least/\c.m.p.part=i.m.p.part/\zE c.m.s=zE i.m.s/\zX c.m.used=zX i.m.used/\aa 1 (iE c.m.p.dk)=aa 1 (iE i.m.p.dk)/\aa 1 (iE c.m.p.settle)=aa 1 (iE i.m.p.settle)/\((c.m.fk c.p c.B c.U/\iQ c.p c.B)/\c.c.right=0/\c.c.kind=1/\c.X=nW c.p c.B c.U c.c)/\eA c i) ((yHb i)/\di i.c.id/\True/\yHb i))
def Tt (p:fb) (B:List (List zI)) (U:List Int) (c:ib):bJ p B U c=⟨if(wS p B c.inst (decide (c.side=2)) c.dj c.dq).left≠0/\c.time=1 then(Ki p (wS p B c.inst (decide (c.side=2)) c.dj c.dq).B c.inst c.id c.side c.dj (wS p B c.inst (decide (c.side=2)) c.dj c.dq).left).1 else(wS p B c.inst (decide (c.side=2)) c.dj c.dq).B,Gh U c.id,
 (⟨1,c.id,c.inst,c.side,c.dj,c.dq,c.dq,0⟩::mA p c (wS p B c.inst (decide (c.side=2)) c.dj c.dq).steps c.dq)++if(wS p B c.inst (decide (c.side=2)) c.dj c.dq).left≠0/\c.time≠1 then[⟨4,c.id,c.inst,c.side,c.dj,(wS p B c.inst (decide (c.side=2)) c.dj c.dq).left,0,0⟩]else[]⟩:=by
 rw[bJ]
def zTy {p:fb} {B:List (List zI)} (h:tr p B) (U:List Int) (c:ib):iQ p (bJ p B U c).B:=by
 have:=(pN (inst:=c.inst) (sd:=decide (c.side=2)) (dj:=c.dj) _ c.dq B (km _) h).1.ok;rw[Tt];dsimp only;split
 ·exact this.add _ _ _ _ _
 ·exact this
def yDr {p:fb} {B:List (List zI)} (h:tr p B) (U:List Int) (c:ib):iQ p (nW p B U c).B:=by
 rw[nW];split
 ·exact h.ok
 split
 ·exact h.ok
 split
 ·exact h.ok
 split
 ·exact h.ok
 split
 ·exact h.ok
 exact zTy h U c
def yVl {p:fb} {B:List (List zI)} (h:tr p B) (U:List Int) (c:ib):iQ p (AJ p B U c).B:=by
 rw[AJ];split
 ·exact h.ok
 split
 ·exact yDr h U c
 split
 ·exact h.ok
 split
 ·rw[f9];split
  ·exact h.ok
  split
  ·exact h.ok.take _ _
  split
  ·exact h.ok
  exact zTy (h.take _ _) U _
 split
 ·exact h.ok.take _ _
 ·exact h.ok.take _ _
def Two (L:List zI):Prop:=L=Ew L 1++Ew L 2
def eV {inst s:Int} {f:bG}:∀{os:List zI} {sh:List Int},f∈xX inst s os sh->f.side=s/\f.inst=inst/\∃o∈os,f.dj=o.dj
 |[],sh,h=>by cases h
 |o::os,[],h=>by cases h
 |o::os,k::sh,h=>by
  rw[xX]at h;split at h
  ·rcases mf.1 h with rfl|h
   ·exact⟨rfl,rfl,o,ji,rfl⟩
   ·obtain⟨a,b,o',c,d⟩:=eV h;exact⟨a,b,o',jw _ c,d⟩
  ·obtain⟨a,b,o',c,d⟩:=eV h;exact⟨a,b,o',jw _ c,d⟩
def FOk (f:bG):Prop:=(f.side=1\/f.side=2)/\-2000000<=f.dj/\f.dj<=2000000
def WQ {p:fb} {B:List (List zI)} (h:iQ p B) (inst:Int) {s:Int} (hs:s=1\/s=2) (q:Int):∀f∈qV p B inst s q,FOk f:=by
 intro f hf;obtain⟨a,_,o,ho,e⟩:=eV hf;refine⟨by rw[a];exact hs,?_⟩;rw[e];have ho:=(ve.1 ho).1;by_cases hk:inst.toNat<B.length
 ·obtain⟨L,hL⟩:=z7 hk;rw[zT hL]at ho;exact h.xk hL o ho
 ·rw[np,tx (by omega)]at ho;cases ho
def UR (t:j9):Prop:=(-2000000<=t.dj/\t.dj<=2000000)/\(∀f∈t.gz,FOk f)/\t.gz.length<=500
def yOh {p:fb} {B:List (List zI)} (h:tr p B) {inst:Int} (hi:0<=inst/\inst<B.length) {s:Int} (hs:s=1\/s=2) (hn:(yT p B inst s).2.2=ao): -2000000<=(yT p B inst s).1.dj/\(yT p B inst s).1.dj<=2000000:=by
 rw[yT]at hn ⊢;obtain⟨L,hL⟩:=z7 (l:=B) (i:=inst.toNat) oM;rw[zT hL]at hn ⊢;split
 ·exact Va (h.ok.xk hL)
 ·rename_i c;rw[ej c]at hn;have hm:=WY hn;have:=(ve.1 hm).2;exact eX h.ok.pc (pj this)
def ySg {p:fb} {B:List (List zI)} (h:tr p B) {inst:Int} (hi:0<=inst/\inst<B.length) {sd:Bool} {dj q:Int} {t:j9} {B':List (List zI)} (e:mC p B inst sd dj q=some (t,B')):UR t:=by
 have hs:zC (!sd)=1\/zC (!sd)=2:=N4 _;have hb:=yOh h hi hs;have vj:=yBc h.ok h.od hi hs;rw[mC]at e;dsimp only at e;split at e
 ·rename_i c;have c1:(yT p B inst (zC (!sd))).2.2=ao:=by
   cases hx:(yT p B inst (zC (!sd))).2.2 with
   |false=>rw[hx]at c;cases c
   |true=>rfl
  have hb:=hb c1;obtain⟨_,vj,_⟩:=vj c1;split at e
  ·rename_i c2;obtain⟨_,ok⟩:=vj c2;cases e;refine⟨hb,λf hf=> ?_,?_⟩
   ·rcases pn.1 hf with hf|hf
    ·exact WQ h.ok _ ok.sa _ f hf
    ·exact WQ h.ok.takes _ ok.sb _ f hf
   ·dsimp only;rw[im];have:=rF (p:=p) h.od (yT p B inst (zC (!sd))).1.a.inst (yT p B inst (zC (!sd))).1.a.side (min q (yT p B inst (zC (!sd))).1.dq);have:=rF (p:=p) (h.takes (fs:=qV p B (yT p B inst (zC (!sd))).1.a.inst (yT p B inst (zC (!sd))).1.a.side (min q (yT p B inst (zC (!sd))).1.dq))).od (yT p B inst (zC (!sd))).1.b.inst (yT p B inst (zC (!sd))).1.b.side (min q (yT p B inst (zC (!sd))).1.dq);omega
  ·cases e;refine⟨hb,λf hf=>WQ h.ok _ hs _ f hf,?_⟩;have:=rF (p:=p) h.od inst (zC (!sd)) (min q (yT p B inst (zC (!sd))).1.dq);dsimp only;omega
 ·cases e
def X0 (a:AW):Prop:=yR a.s.wh=yR a.s.wh/\di (aa 1 (iE a.s.p.dk))/\di (aa 1 (iE a.s.p.settle))/\True
def yNs (i:AW):Prop:=
 (mH i)/\∃(a:Bool),∃(b:Int),(sB i b a)/\dp (!a) (∃(c:Unit),(z5 i.B i.id).fst=0/\(z5 i.B i.id).snd.fst.id=0/\(z5 i.B i.id).snd.fst.side=0/\(z5 i.B i.id).snd.fst.dj=0/\(z5 i.B i.id).snd.fst.dq=0/\(z5 i.B i.id).snd.fst.top=ap/\(z5 i.B i.id).snd.snd=ap/\di (sb i.s.p.code)/\di i.s.p.tick/\di i.s.p.low/\di i.s.p.high/\di i.s.p.wide/\di i.s.p.dr/\di i.s.p.top/\di i.s.p.least/\di i.s.p.part/\di (ac 211 dm 6 zQ i.s.dz none)/\X0 i) ((0<=b/\b<(↑i.s.dz.length:Int))/\b.toNat<i.s.dz.length/\∃(c:dm),i.s.dz[b.toNat]?=some c/\∃(d:B6),d.id=i.id/\yA d.b=yA c/\d.b.fk d.L/\∀(e:Unit),True->∃(f:dm),yA d.b=yA f/\di b.toNat/\b.toNat<i.s.dz.length/\∃(g:Unit),(z5 i.B i.id).fst=b/\(z5 i.B i.id).snd.fst.id=(cL d.L d.id).id/\(z5 i.B i.id).snd.fst.side=(cL d.L d.id).side/\(z5 i.B i.id).snd.fst.dj=(cL d.L d.id).dj/\(z5 i.B i.id).snd.fst.dq=(cL d.L d.id).dq/\(z5 i.B i.id).snd.fst.top=(cL d.L d.id).top/\(z5 i.B i.id).snd.snd=ao/\di (sb i.s.p.code)/\di i.s.p.tick/\di i.s.p.low/\di i.s.p.high/\di i.s.p.wide/\di i.s.p.dr/\di i.s.p.top/\di i.s.p.least/\di i.s.p.part/\ac 211 dm 6 zQ i.s.dz none=ac 211 dm 6 zQ (i.s.dz.set b.toNat f) none/\X0 i)
def yWv (i:AW) (h:Fs.dp i):yNs i:=by
 obtain⟨hR,hB⟩:i.s.fk i.p i.B/\i.B.length<=1000:=h;have td:=hR.at_ i.id;unfold yNs mH sB X0 dI;rw[z5];cases hi:aW i.B i.id with
 |none=>
  rw[hi]at td;exact⟨dO _ _,ap,0,.inr ⟨by rw[pA,td];rfl,rfl,rfl⟩,Cv.dp.mk (λ_=>⟨(),gn⟩) (λe=>absurd e Z8)⟩
 |some k=>
  rw[hi]at td;obtain⟨L,hL,hh⟩:=g7 hi;have hk:=(jl.1 hL).1;obtain⟨b,hb⟩:=z7 (l:=i.s.dz) (i:=k) (by rw[hR.bl];exact hk);have Dx:=hR.bk k b L hb hL;have zj:=hR.bl;refine⟨dO _ _,ao,k,.inl ⟨by rw[pA,td];rfl,rfl⟩,Cv.dp.mk (λe=>absurd e Z8) (λ_=> ?_)⟩;dsimp only;rw[ow,zT hL];have hs:=uR hb;refine⟨⟨oM,oM⟩,oM,b,hb,⟨b,L,i.id,0⟩,rfl,rfl,Dx,λ_ _=>⟨b,rfl,rfl,oM,(),?_⟩⟩;rw[hs]
  (repeat'(first|exact trivial|exact rfl|apply And.intro))
def yNg:Fs.ok Tryz.prog 160:=gw mixed (dw z3l fg) 0 (λ_=>[]) (λ_=>[]) [0] Tryz.func160 yWv
def zUt (id:Int) (U:List Int):∀p∈zX U,lj (ak ag id) p.1=ao:=by
 intro p hp;obtain⟨k,_,rfl⟩:=pk.1 hp;rfl
def zUi (id:Int):∀U:List Int,u6 (ak ag id) [D.v (.bool ao)] (zX U)=zX (Gh U id)
 |[]=>rfl
 |k::U=>by
  have ih:=zUi id U;have e:bR (ak ag id) (ak ag k)=decide (id=k):=by simp[bR,vy]
  show(bif bR (ak ag id) (ak ag k)then(ak ag k,[D.v (.bool ao)])::zX U else(ak ag k,[D.v (.bool ao)])::u6 (ak ag id) [D.v (.bool ao)] (zX U))=_;rw[e,ih];by_cases c:id=k
  ·rw[lg c,cond_true,Gh,fc (by rw[c];exact ji)];rfl
  ·rw[kr c,cond_false,Gh,Gh];have hm:id∈k::U↔id∈U:=by simp[c]
   by_cases d:id∈U
   ·rw[fc d,fc (hm.2 d)];rfl
   ·rw[ej d,ej (λx=>d (hm.1 x))];rfl
def zSy (id:Int):∀U:List Int,kO (ak ag id) (zX U)=if id∈U then some [D.v (.bool ao)]else none
 |[]=>rfl
 |k::U=>by
  have ih:=zSy id U;have e:bR (ak ag id) (ak ag k)=decide (id=k):=by simp[bR,vy]
  show(bif bR (ak ag id) (ak ag k)then some [D.v (.bool ao)]else kO (ak ag id) (zX U))=_;rw[e,ih];by_cases c:id=k
  ·rw[lg c,cond_true,fc (by rw[c];exact ji)]
  ·rw[kr c,cond_false];have hm:id∈k::U↔id∈U:=by simp[c]
   by_cases d:id∈U
   ·rw[fc d,fc (hm.2 d)]
   ·rw[ej d,ej (λx=>d (hm.1 x))]
def yMp (id:Int) (U:List Int):kO (ak ag id) (zX U)=some [D.v (.bool (decide (id∈U)))]/\decide (id∈U)=ao\/kO (ak ag id) (zX U)=none/\[D.v (.bool (decide (id∈U)))]=[D.v (.bool ap)]/\decide (id∈U)=ap:=by
 rw[zSy];by_cases c:id∈U
 ·rw[fc c,lg c];exact .inl ⟨rfl,rfl⟩
 ·rw[ej c,kr c];exact .inr ⟨rfl,rfl,rfl⟩
def VA {p:fb} {inst:Int} {sd:Bool} {dj:Int}:∀(m:Nat) (q:Int) (B:List (List zI)),q.toNat<=m->tr p B->0<=inst/\inst<B.length->
 (∀t∈(wS p B inst sd dj q).steps,UR t/\1<=t.dq)/\((wS p B inst sd dj q).steps.map (·.dq)).sum=q-(wS p B inst sd dj q).left
 |m,q,B,hm,h,hi=>by
  by_cases hq:q<=0
  ·rw[Ob (.inl hq)];exact⟨λt ht=>(by cases ht),by simp⟩
  cases hs:mC p B inst sd dj q with
  |none=>rw[Ob (.inr hs)];exact⟨λt ht=>(by cases ht),by simp⟩
  |some x=>
   obtain⟨t,C⟩:=x;obtain⟨k1,k2⟩:=zTd h hs;have qk:=NA oM hs;cases m with
   |zero=>omega
   |succ m=>
   obtain⟨i1,i2⟩:=VA (p:=p) (inst:=inst) (sd:=sd) (dj:=dj) m (q-t.dq) C oM k1 (by rw[k2];exact hi);rw[V0 (by omega) hs];refine⟨λu hu=> ?_,?_⟩
   ·rcases mf.1 hu with rfl|hu
    ·exact⟨ySg h hi hs,qk.1⟩
    ·exact i1 u hu
   ·dsimp only;rw[jo,qv,i2];omega
def yUz {α:Type} {f:α->List fk} (hf:∀x,(f x).length<=3):∀l:List α,(l.flatMap f).length<=3*l.length
 |[]=>km _
 |x::l=>by
  have:=yUz hf l;have:=hf x;rw[vx,im,iD];omega
def zUc (p:fb) (c:ib) (x:j9) (left:Int):(nH p c x left).length<=3*x.gz.length+3:=by
 rw[nH,im];have:=yUz (λf=>VO p x (G5 f)) x.gz;have:=VO p x ⟨3,c.id,c.inst,c.side,x.dj,x.dq,left,0⟩;omega
def RM {l:List j9} (h:∀t∈l,UR t/\1<=t.dq):(l.length:Int)<=(l.map (·.dq)).sum:=by
 induction l with
 |nil=>exact yg _
 |cons t l ih=>
  have:=ih λu hu=>h u (jw _ hu)
  have:=(h t ji).2;rw[jo,qv,iD];omega
def y0v (i:qg) (h:FL.dp i):yLk i:=by
 obtain⟨m,p,B,U,c,X⟩:=i;have h':(m.fk p B U/\iQ p B)/\((0<=c.inst/\c.inst<B.length)/\(1<=c.dq/\c.dq<=1000000)/\(c.side=1\/c.side=2))/\p.dj c.inst c.dj=0/\X=bJ p B U c:=h;clear h;obtain⟨⟨⟨ep,hR,eu⟩,hB⟩,⟨⟨h0,h1⟩,hq,hs⟩,I7,hX⟩:=h';subst ep eu hX;have AU:=hR.wf hB;obtain⟨k1,k2,k3⟩:=pN (inst:=c.inst) (sd:=decide (c.side=2)) (dj:=c.dj) _ c.dq B (km _) AU;have k3:=k3 oM;obtain⟨s1,s2⟩:=VA (inst:=c.inst) (sd:=decide (c.side=2)) (dj:=c.dj) _ c.dq B (km _) AU ⟨h0,h1⟩;have hX:=Tt m.p B m.used c;have BF:=eX hB.pc I7;unfold yLk qS uN Yt dI;dsimp only;rw[zUi,hX];refine⟨zUt _ _,⟨m.s,m.p,B,c.inst,decide (c.side=2),c.dj,c.dq⟩,rfl,fG hs,rfl,rfl,rfl,⟨hR,hB,⟨h0,h1⟩,hq.1,hq.2⟩,λo ho=> ?_⟩;have er:nf.r ⟨m.s,m.p,B,c.inst,decide (c.side=2),c.dj,c.dq⟩=wS m.p B c.inst (decide (c.side=2)) c.dj c.dq:=rfl;rw[er]at ho ⊢;clear hX er;generalize wS m.p B c.inst (decide (c.side=2)) c.dj c.dq=R at*;obtain⟨ts,lf,RB⟩:=R;dsimp only at*;have hlen:=RM s1;have e4:(ts.map wN).length=ts.length:=ia ..;refine⟨⟨c.dq,0,[⟨1,c.id,c.inst,c.side,c.dj,c.dq,c.dq,0⟩]⟩,rfl,rfl,rfl,λj=>j.k<=ts.length/\j.left=lf+((ts.drop j.k).map (·.dq)).sum/\(⟨1,c.id,c.inst,c.side,c.dj,c.dq,c.dq,0⟩::mA m.p c ts c.dq)=j.out++mA m.p c (ts.drop j.k) j.left/\j.out.length<=1+1503*j.k,λj=>ts.length-j.k,⟨my _,by dsimp only;rw[Dn,s2];omega,rfl,km _⟩,?_⟩
 rintro⟨left,k,out⟩ ⟨j1,j2,j3,j4⟩;dsimp only at j1 j2 j3 j4 ⊢;have e5:(out.map xP).length=out.length:=ia ..;refine zH (λc1=> ?_) (λc1=> ?_)
 ·obtain⟨t,ht⟩:=z7 (l:=ts) (i:=k) oM;have hd:ts.drop k=t::ts.drop (k+1):=by rw[Dq (by omega),(jl.1 ht).2]
  obtain⟨⟨t1,t2,t3⟩,t4⟩:=s1 t (lr ht);have D7:=RM (l:=ts.drop (k+1)) λu hu=>s1 u (IW hu)
  have hsk:((ts.drop k).map (·.dq)).sum<=(ts.map (·.dq)).sum:=by
   have:=RM (l:=ts.take k) λu hu=>s1 u (MS hu)
   have e:(ts.map (·.dq)).sum=((ts.take k).map (·.dq)).sum+((ts.drop k).map (·.dq)).sum:=by
    rw[<- MI,<- jk,Bz]
   omega
  rw[hd,jo,qv]at j2 hsk;rw[hd,mA]at j3;have Du:=zUc m.p c t (left-t.dq);have e6:((nH m.p c t (left-t.dq)).map xP).length=(nH m.p c t (left-t.dq)).length:=ia ..;have hw:ag.wrap (left-t.dq)=left-t.dq:=ir oM;refine⟨⟨oM,oM⟩,t.dj,t.dq,t.iJ,t.gz.map yY,jq ht (by simp[wN]) rfl,?_⟩;rw[hw];refine⟨⟨⟨m.p,o,Gh m.used c.id⟩,c,t,left-t.dq⟩,gm (gm (oA (iM ⟨rfl,⟨⟨hB.pc,hB.ps⟩,⟨Z9,Z9⟩,Z9,hs,λf hf=>(t2 f hf).1⟩,λ_ _=>⟨by dsimp only;rw[e5,e6];omega,⟨left-t.dq,k+1,out++nH m.p c t (left-t.dq)⟩,rfl,qw oM,by dsimp only;rw[jk],⟨Z9,Z9,by dsimp only;rw[j3,jd],by dsimp only;rw[im];omega⟩,Z9,gn⟩⟩)))⟩
 have hk:k=ts.length:=by omega
 subst hk;rw[List.drop_of_length_le (km _)]at j2 j3;rw[mA,oL]at j3;rw[<- j3];rw[<- j3]at e5 j4;have hRB:=k1.ok;refine Cv.dp.mk (λe=> ?_) (λe=>Cv.dp.mk (λe2=> ?_) (λe2=> ?_))
 ·have e:lf=0:=by simpa using e
  rw[ej (by omega),ej (by omega),oL];exact⟨⟨m.p,o,Gh m.used c.id⟩,gm (ma ⟨rfl,ho,rfl⟩)⟩
 ·have e:¬lf=0:=by simpa using e
  have e2:c.time=1:=by simpa using e2
  rw[ej (show ¬(lf≠0/\c.time≠1)by omega),fc (show lf≠0/\c.time=1 from⟨e,e2⟩),oL];have ha:=(ho.add c.inst c.id (decide (c.side=2)) c.dj lf).1;rw[fG hs]at ha;exact⟨⟨o,c.inst,c.id,decide (c.side=2),c.dj,lf⟩,rfl,rfl,fG hs,rfl,rfl,rfl,ho.fit hRB,λ_ _=>⟨⟨m.p,(gl.gx ⟨o,c.inst,c.id,decide (c.side=2),c.dj,lf⟩).1,Gh m.used c.id⟩,gm (ma ⟨rfl,ha,rfl⟩)⟩⟩
 ·have e:¬lf=0:=by simpa using e
  have e2:¬c.time=1:=by simpa using e2
  rw[fc (show lf≠0/\c.time≠1 from⟨e,e2⟩),ej (show ¬(lf≠0/\c.time=1)by omega)];exact⟨by rw[e5];omega,⟨m.p,o,Gh m.used c.id⟩,gm (nr ⟨rfl,by rw[jk];rfl,rfl,ho,rfl⟩)⟩
def z0p:FL.ok Tryz.prog 197:=gw mixed (dw Zx (dw yMk (dw yRe fg))) 0 (λ_=>[]) (λi=>yXr i) [] Tryz.func197 y0v
def zTa:Ik.ok Tryz.prog 162:=gw (V:=yOz) mixed (dw SL fg) 0 (λ_=>[]) (λ_=>[]) [] Tryz.func162 λ(i:CS) h=>by
 obtain⟨m,p,B,U,id,q,inst,o,X⟩:=i;have h':(m.fk p B U/\iQ p B)/\X=uT B U id inst o:=h;clear h;obtain⟨⟨⟨ep,hR,eu⟩,hB⟩,hX⟩:=h';subst ep eu hX;have:=xR m.p;have:=hB.bl;exact⟨⟨m.s,m.p,B,id,o.dq⟩,rfl,rfl,rfl,⟨hR,Z9⟩,λo' ho=>⟨⟨m.p,o',m.used⟩,gm (ma ⟨rfl,ho,rfl⟩)⟩⟩
def zVd:HZ.ok Tryz.prog 163:=gw (V:=z9m) mixed (dw SL fg) 0 (λ_=>[]) (λ_=>[]) [] Tryz.func163 λ(i:CS) h=>by
 obtain⟨m,p,B,U,id,q,inst,o,X⟩:=i;have h':(m.fk p B U/\iQ p B)/\gq (o.dq-q)/\X=bW B U id q inst o:=h;clear h;obtain⟨⟨⟨ep,hR,eu⟩,hB⟩,hw,hX⟩:=h';subst ep eu hX;have:=xR m.p;have:=hB.bl;have hw:=ir hw;unfold z9m dI;dsimp only;rw[hw];exact⟨⟨m.s,m.p,B,id,q⟩,rfl,rfl,rfl,⟨hR,Z9⟩,λo' ho=>⟨⟨m.p,o',m.used⟩,gm (ma ⟨rfl,ho,rfl⟩)⟩⟩
def zTp {c:ib} (h:c.right=0):(if c.kind=1 then c.fw else if c.kind≠2/\kE c.dq=ap then 24 else if c.kind=4/\vR c.dj=ap then 23 else 0)=0:=by
 rw[ib.right]at h;by_cases c1:c.kind<1\/4<c.kind
 ·rw[fc c1]at h;cases h
 rw[ej c1]at h;by_cases c2:c.id<1\/1099511627776<c.id
 ·rw[fc c2]at h;cases h
 rw[ej c2]at h;exact h
def zUl {c:ib} (h:c.right=0) (hk:c.kind=1):(c.side=1\/c.side=2)/\(1<=c.dq/\c.dq<=1000000)/\(0<=c.least/\c.least<=c.dq):=by
 have h:=zTp h;rw[fc hk,ib.fw]at h;by_cases c1:c.side≠1/\c.side≠2
 ·rw[fc c1]at h;cases h
 rw[ej c1]at h;by_cases c2:c.time<1\/3<c.time
 ·rw[fc c2]at h;cases h
 rw[ej c2]at h;cases c3:kE c.dq with
 |false=>rw[fc c3]at h;cases h
 |true=>
  rw[ej (by rw[c3];decide)]at h;by_cases c4:c.least<0\/c.dq<c.least
  ·rw[fc c4]at h;cases h
  simp only[kE,kx,tw]at c3;exact⟨oM,c3,oM⟩
def XN {c:ib} (h:c.right=0) (hk:¬c.kind=1) (ra:¬c.kind=2):1<=c.dq/\c.dq<=1000000:=by
 have h:=zTp h;rw[ej hk]at h;cases c3:kE c.dq with
 |false=>rw[fc ⟨ra,c3⟩]at h;cases h
 |true=>
  simp only[kE,kx,tw]at c3;exact c3
def y0h (i:qg) (h:FA.dp i):yKe i:=by
 obtain⟨m,p,B,U,c,X⟩:=i;have h':(m.fk p B U/\iQ p B)/\c.right=0/\c.kind=1/\X=nW p B U c:=h;clear h;obtain⟨⟨hM,hB⟩,hr,hkd,hX⟩:=h';obtain⟨ep,hR,eu⟩:=hM;subst ep eu;have hM:m.fk m.p B m.used:=⟨rfl,hR,rfl⟩
 obtain⟨hs,hq,hl⟩:=zUl hr hkd;have zj:=hB.bl;have vz:=xR m.p;unfold yKe qS tF eA sL X6 XX X5 Ya X3 Yf uN qC dI;dsimp only;refine⟨⟨m.p,c.inst,c.dj⟩,gm (nr ⟨rfl,hB.ps,λ_ _=>Cv.dp.mk (λe=> ?_) (λe=> ?_)⟩)⟩
 ·have e:m.p.dj c.inst c.dj≠0:=by simpa using e
  have hx:X=⟨B,m.used,nY c (m.p.dj c.inst c.dj)⟩:=by rw[hX,nW,fc e]
  exact⟨⟨c,m.p.dj c.inst c.dj⟩,ma (iM ⟨rfl,trivial,λ_ _=>⟨m,gm (nr ⟨rfl,by rw[hx];rfl,by rw[hx];exact hM⟩)⟩⟩)⟩
 have I7:m.p.dj c.inst c.dj=0:=by simpa using e
 have vj:=V5 I7;have hib:0<=c.inst/\c.inst<B.length:=by omega
 rw[nW,ej (by rw[I7];decide)]at hX;refine⟨0,λl=>l=c.KG,Cv.dp.mk (λe=>⟨c.dq,rfl,by rw[ib.KG,fc (by simpa using e)],gn⟩) (λe=>⟨c.least,rfl,by rw[ib.KG,ej (by simpa using e)],gn⟩),?_⟩;rintro _ rfl;refine⟨zUt _ _,_,_,yMp _ _,zH (λe=> ?_) (λe=> ?_)⟩
 ·have hx:X=⟨B,m.used,nY c 25⟩:=by rw[hX,fc e]
  exact⟨⟨c,25⟩,ma (iM ⟨rfl,trivial,λ_ _=>⟨m,gm (nr ⟨rfl,by rw[hx];rfl,by rw[hx];exact hM⟩)⟩⟩)⟩
 rw[ej e]at hX;refine⟨⟨m.s,m.p,B,0,ap⟩,rfl,⟨hR,Z9⟩,λ_ _=>zH (λe=> ?_) (λe=> ?_)⟩
 ·have hx:X=⟨B,m.used,nY c 13⟩:=by rw[hX,fc (by dsimp only at e;omega)]
  exact⟨⟨c,13⟩,ma (iM ⟨rfl,trivial,λ_ _=>⟨m,gm (nr ⟨rfl,by rw[hx];rfl,by rw[hx];exact hM⟩)⟩⟩)⟩
 rw[ej (by dsimp only at e;omega)]at hX;have oK:nf.ok ⟨m.s,m.p,B,c.inst,decide (c.side=2),c.dj,c.dq⟩:=⟨hR,hB,hib,hq.1,hq.2⟩
 refine⟨ao,λb=>b=decide (0<c.KG/\c.dq-(wS m.p B c.inst (decide (c.side=2)) c.dj c.dq).left<c.KG),zH (λe=>⟨⟨m.s,m.p,B,c.inst,decide (c.side=2),c.dj,c.dq⟩,rfl,fG hs,rfl,rfl,rfl,oK,λ_ _=>⟨_,rfl,decide_eq_decide.2 ⟨λx=>⟨e,x⟩,λx=>x.2⟩,gn⟩⟩) (λe=>⟨ap,rfl,(kr λx=>e x.1).symm,gn⟩),?_⟩;rintro _ rfl;refine zH (λe=> ?_) (λe=> ?_)
 ·have hx:X=⟨B,m.used,nY c 28⟩:=by rw[hX,fc e]
  exact⟨⟨c,28⟩,ma (iM ⟨rfl,trivial,λ_ _=>⟨m,gm (nr ⟨rfl,by rw[hx];rfl,by rw[hx];exact hM⟩)⟩⟩)⟩
 rw[ej e]at hX;refine⟨ao,λb=>b=decide (c.time=1/\mB m.p B c.inst (decide (c.side=2)) c.dj c.dq=ao),Cv.dp.mk (λe=>⟨⟨m.s,m.p,B,c.inst,decide (c.side=2),c.dj,c.dq⟩,rfl,fG hs,rfl,rfl,rfl,oK,λ_ _=>⟨_,rfl,?_,gn⟩⟩) (λe=>⟨ap,rfl,(kr λx=> ?_).symm,gn⟩),?_⟩
 ·have e:c.time=1:=by simpa using e
  dsimp only;cases hb:mB m.p B c.inst (decide (c.side=2)) c.dj c.dq with
  |true=>exact(lg ⟨e,rfl⟩).symm
  |false=>exact(kr λx=>by cases x.2).symm
 ·rw[x.1]at e;cases e
 rintro _ rfl;refine zH (λe=> ?_) (λe=> ?_)
 ·have hx:X=⟨B,m.used,nY c 23⟩:=by rw[hX,fc e]
  exact⟨⟨c,23⟩,ma (iM ⟨rfl,trivial,λ_ _=>⟨m,gm (nr ⟨rfl,by rw[hx];rfl,by rw[hx];exact hM⟩)⟩⟩)⟩
 rw[ej e]at hX;exact⟨⟨m,m.p,B,m.used,c,X⟩,gm (gm (Aa ⟨rfl,⟨⟨hM,hB⟩,⟨hib,hq,hs⟩,I7,hX⟩,λo ho=>⟨o,gm (ma ho)⟩⟩))⟩
def yNr:FA.ok Tryz.prog 159:=gw mixed (dw lL (dw Zq (dw z3m (dw yEe (dw z1n (dw z0p fg)))))) 0 (λ_=>yWc) (λ_=>[]) [] Tryz.func159 y0h
def VB {p:fb} {B:List (List zI)} (h:tr p B) {id inst:Int} {o:zI} (hf:z5 B id=(inst,o,ao)):(0<=inst/\inst<B.length)/\J7 o:=by
 rw[z5]at hf;split at hf
 ·cases hf
 ·rename_i k hk;obtain⟨L,hL,hh⟩:=g7 hk;rw[zT hL]at hf;cases hf;have gr:=(jl.1 hL).1;obtain⟨o,ho,e⟩:=pk.1 (jx.1 hh);have hg:=sI (h.od k L hL).2.1 ho;rw[e]at hg;rw[hg];exact⟨oM,(h.od k L hL).1 o ho⟩
def zPu (p:fb) (c:ib):∀(l:List j9) (left:Int),(∀t∈l,UR t/\1<=t.dq)->(mA p c l left).length<=1503*l.length
 |[],_,_=>km _
 |t::l,left,h=>by
  have a:=zPu p c l (left-t.dq) λu hu=>h u (jw _ hu)
  have b:=zUc p c t (left-t.dq);have d:=(h t ji).1.2.2;rw[mA,im,iD];omega
def Ym {p:fb} {B:List (List zI)} (h:tr p B) (U:List Int) {c:ib} (hi:0<=c.inst/\c.inst<B.length) (hq:1<=c.dq/\c.dq<=1000000):(bJ p B U c).R.length<=1503000002:=by
 obtain⟨s1,s2⟩:=VA (inst:=c.inst) (sd:=decide (c.side=2)) (dj:=c.dj) _ c.dq B (km _) h hi;have k3:=(pN (inst:=c.inst) (sd:=decide (c.side=2)) (dj:=c.dj) _ c.dq B (km _) h).2.2 oM;have:=RM s1;have:=zPu p c _ c.dq s1;rw[Tt];dsimp only;rw[im,iD];split
 ·rw[iD,tp];omega
 ·rw[tp];omega
def yNp (i:ME) (h:Bk.dp i):z0i i:=by
 obtain⟨m,p,B,U,c,inst,o,X⟩:=i;have h':m.fk p B U/\iQ p B/\z5 B c.id=(inst,o,ao)/\(1<=c.dq/\c.dq<=1000000)/\X=f9 p B U c inst o:=h;clear h;obtain⟨hM,hB,hf,hq,hX⟩:=h';obtain⟨ep,hR,eu⟩:=hM;subst ep eu;have hM:m.fk m.p B m.used:=⟨rfl,hR,rfl⟩
 have AU:=hR.wf hB;obtain⟨vj,GF⟩:=VB AU hf;have BX:=GF.s;have hoq:=GF.q;have zj:=hB.bl;have vz:=xR m.p;unfold z0i b9 l7 qS fS sH tF qC;dsimp only;refine⟨⟨m.p,inst,c.dj⟩,gm (nr ⟨rfl,hB.ps,λ_ _=>Cv.dp.mk (λe=> ?_) (λe=> ?_)⟩)⟩
 ·have e:m.p.dj inst c.dj≠0:=by simpa using e
  have hx:X=⟨B,m.used,nY c (m.p.dj inst c.dj)⟩:=by rw[hX,f9,fc e]
  exact⟨⟨c,m.p.dj inst c.dj⟩,ma (iM ⟨rfl,trivial,λ_ _=>⟨m,gm (nr ⟨rfl,by rw[hx];rfl,by rw[hx];exact hM⟩)⟩⟩)⟩
 have I7:m.p.dj inst c.dj=0:=by simpa using e
 rw[f9,ej (by rw[I7];decide)]at hX;have hw:ag.wrap (o.dq-c.dq)=o.dq-c.dq:=ir oM;rw[hw];refine(λhT=>Cv.dp.mk (λe1=>zH (λe2=> ?_) (λe2=>hT λx=>e2 x.2)) (λe1=>hT λx=>by rw[x.1]at e1;simp at e1)) (λ(hn:¬(c.dj=o.dj/\c.dq<=o.dq))=> ?_)
 ·have e1:c.dj=o.dj:=by simpa using e1
  rw[fc ⟨e1,e2⟩]at hX;exact⟨⟨m,m.p,B,m.used,c.id,o.dq-c.dq,inst,o,X⟩,gm (gm (nr ⟨rfl,⟨⟨hM,hB⟩,⟨Z9,Z9⟩,hX⟩,λo' ho=>⟨o',gm (ma ho)⟩⟩))⟩
 rw[ej hn]at hX;have hBt:=hB.take c.id o.dq;refine⟨m.s,rfl,hR.small hB,λ_ _=>⟨⟨m.s,m.p,B,c.id,o.dq⟩,rfl,rfl,rfl,⟨hR,Z9⟩,λo' oz=>⟨⟨o',m.p,(kK B c.id o.dq).1,inst,decide (o.side=2),c.dj,c.dq⟩,rfl,fG BX,rfl,rfl,rfl,⟨oz,hBt,by dsimp only;rw[rJ];exact vj,hq.1,hq.2⟩,λ_ _=>Cv.dp.mk (λe=> ?_) (λe=> ?_)⟩⟩⟩
 ·have hx:X=⟨B,m.used,nY c 23⟩:=by rw[hX,fc e]
  exact⟨⟨c,23⟩,ma (iM ⟨rfl,trivial,λ_ _=>⟨m,gm (nr ⟨rfl,by rw[hx];rfl,by rw[hx];exact hM⟩)⟩⟩)⟩
 rw[ej (by rw[e];decide)]at hX;refine⟨⟨m,m.p,B,m.used,c.id,0,inst,o,uT B m.used c.id inst o⟩,gm (gm (iM ⟨rfl,⟨⟨hM,hB⟩,rfl⟩,λo1 ho1=>⟨⟨o1,m.p,(kK B c.id o.dq).1,m.used,⟨1,c.id,inst,o.side,c.dj,c.dq,0,1,[]⟩,bJ m.p (kK B c.id o.dq).1 m.used ⟨1,c.id,inst,o.side,c.dj,c.dq,0,1,[]⟩⟩,gm (gm (Aa ⟨rfl,⟨⟨ho1,hBt⟩,⟨by dsimp only;rw[rJ];exact vj,hq,BX⟩,I7,rfl⟩,λo2 I'=>⟨?_,o2,rfl,rfl,rfl,rfl,rfl,rfl,rfl,rfl,rfl,rfl,rfl,rfl,rfl,?_,?_⟩⟩))⟩⟩))⟩
 ·have:=Ym (AU.take c.id o.dq) m.used (c:=⟨1,c.id,inst,o.side,c.dj,c.dq,0,1,[]⟩) (by dsimp only;rw[rJ];exact vj) hq;dsimp only;rw[ia,ia];have e1:(uT B m.used c.id inst o).R.length=1:=rfl;omega
 ·rw[hX,<- jk];rfl
 ·rw[hX];exact I'
def z5j:Bk.ok Tryz.prog 161:=gw mixed (dw lL (dw Zq (dw Wp (dw SL (dw z1n (dw zTa (dw zVd (dw z0p fg)))))))) 0 (λ_=>[]) (λ_=>[]) [] Tryz.func161 yNp
def vdo (i:qg) (h:doC.dp i):Vdo i:=by
 obtain⟨m,p,B,U,c,X⟩:=i;have h':(m.fk p B U/\iQ p B)/\c.label.length<=140737488355328/\gq c.dq/\X=AJ p B U c:=h;clear h;obtain⟨⟨hM,hB⟩,hlb,hqr,hX⟩:=h';obtain⟨ep,hR,eu⟩:=hM;subst ep eu;have hM:m.fk m.p B m.used:=⟨rfl,hR,rfl⟩
 have AU:=hR.wf hB;have zj:=hB.bl;have vz:=xR m.p;unfold Vdo eA yHb b9 YX UW U';dsimp only;refine⟨c,gm ⟨rfl,hlb,λ_ _=>Cv.dp.mk (λe=> ?_) (λe=> ?_)⟩⟩
 ·have e:c.right≠0:=by simpa using e
  have hx:X=⟨B,m.used,nY c c.right⟩:=by rw[hX,AJ,fc e]
  exact⟨⟨c,c.right⟩,ma (iM ⟨rfl,trivial,λ_ _=>⟨m,gm (nr ⟨rfl,by rw[hx];rfl,by rw[hx];exact hM⟩)⟩⟩)⟩
 have hr:c.right=0:=by simpa using e
 rw[AJ,ej (by rw[hr];decide)]at hX;refine Cv.dp.mk (λe=> ?_) (λe=> ?_)
 ·have e:c.kind=1:=by simpa using e
  rw[fc e]at hX;exact⟨⟨m,m.p,B,m.used,c,X⟩,gm (gm (Aa ⟨rfl,⟨⟨hM,hB⟩,hr,e,hX⟩,λo ho=>⟨o,gm (ma ho)⟩⟩))⟩
 have hk:¬c.kind=1:=by simpa using e
 rw[ej hk]at hX;refine(λhT=>⟨hT,rfl,trivial,hT⟩) ?_;refine⟨⟨m.s,m.p,B,c.id,0⟩,rfl,rfl,⟨hR,Z9⟩,λ_ _=>Cv.dp.mk (λe=> ?_) (λe=> ?_)⟩
 ·have e:(z5 B c.id).2.2=ap:=by simpa using e
  have hx:X=⟨B,m.used,nY c 26⟩:=by rw[hX,fc e]
  exact⟨⟨c,26⟩,ma (iM ⟨rfl,trivial,λ_ _=>⟨m,gm (nr ⟨rfl,by rw[hx];rfl,by rw[hx];exact hM⟩)⟩⟩)⟩
 have e:(z5 B c.id).2.2=ao:=by simpa using e
 rw[ej (by rw[e];decide)]at hX;dsimp only;have hf:z5 B c.id=((z5 B c.id).1,(z5 B c.id).2.1,ao):=by rw[<- e]
 generalize (z5 B c.id).1=inst at*;generalize (z5 B c.id).2.1=o at*;obtain⟨vj,GF⟩:=VB AU hf;have hoq:=GF.q;refine Cv.dp.mk (λe4=> ?_) (λe4=>Cv.dp.mk (λe2=> ?_) (λe2=>zH (λe3=> ?_) (λe3=> ?_)))
 ·have e4:c.kind=4:=by simpa using e4
  rw[fc e4]at hX;exact⟨⟨m,m.p,B,m.used,c,inst,o,X⟩,gm (gm (gm (iM ⟨rfl,⟨hM,hB,hf,XN hr hk (by rw[e4];decide),hX⟩,λo' ho=>⟨o',gm (ma ho)⟩⟩)))⟩
 all_goals
  have e4:¬c.kind=4:=by simpa using e4
  rw[ej e4]at hX
 ·have e2:c.kind=2:=by simpa using e2
  rw[fc (.inl e2)]at hX;exact⟨⟨m,m.p,B,m.used,c.id,0,inst,o,X⟩,gm (gm (iM ⟨rfl,⟨⟨hM,hB⟩,hX⟩,λo' ho=>⟨o',gm (ma ho)⟩⟩))⟩
 ·rw[fc (.inr (by omega))]at hX;exact⟨⟨m,m.p,B,m.used,c.id,0,inst,o,X⟩,gm (gm (iM ⟨rfl,⟨⟨hM,hB⟩,hX⟩,λo' ho=>⟨o',gm (ma ho)⟩⟩))⟩
 ·have e2:¬c.kind=2:=by simpa using e2
  have hq:=XN hr hk e2;rw[ej (by omega)]at hX;exact⟨⟨m,m.p,B,m.used,c.id,c.dq,inst,o,X⟩,gm (gm (nr ⟨rfl,⟨⟨hM,hB⟩,⟨Z9,Z9⟩,hX⟩,λo' ho=>⟨o',gm (ma ho)⟩⟩))⟩
def y4e:doC.ok Tryz.prog 111:=gw mixed (dw Wu (dw Zq (dw yNg (dw yNr (dw z5j (dw zTa (dw zVd fg))))))) 0 (λ_=>[]) (λ_=>[]) [0] Tryz.func111 vdo
end Sx
