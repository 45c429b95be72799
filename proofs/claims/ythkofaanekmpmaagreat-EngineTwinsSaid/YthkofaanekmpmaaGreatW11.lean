/- Texts of ours. No condition. -/
import Derived.Test.YthkofaanekmpmaaGreatW10
set_option linter.all false
open Sx.AObj renaming fro->aa,cells->ab,objs->ac,map->ae,own->af
open Go.IntKind renaming i64->ag
open List renaming map->aj
open Go.Value renaming int->ak,string->am
open Bool renaming true->ao,false->ap
namespace Sx
set_option maxRecDepth 100000
open Go Cv Go.Proofs
def zCp (a:Mkt) (b:EnI) (c:EnJ):Prop:=zU a.used=uZ (ak ag b.c.id) [D.v (.bool ao)] (zU b.m.used)/\aa 1 (iE a.p.months)=yM b.m 3/\aa 1 (iE a.p.settle)=yM b.m 4/\aj xV b.X.R=aj xV c.out/\a.Rep b.p b.X.B b.X.U
def v7 (a:EnI):=(D.v (am (sb a.c.label)))
def yHr (i:EnI):Prop:=
 (∀(a:Value×List D),a∈zU i.m.used->like (ak ag i.c.id) a.fst=ao)/\∃(a:RunI),a.inst=i.c.inst/\zC a.sd=i.c.side/\a.price=i.c.price/\a.q=i.c.qty/\zD a.s=yM i.m 1/\(qT a)/\∀(b:MSt),b.Rep a.p a.r.B->∃(c:EnJ),c.left=i.c.qty/\(↑c.k:Int)=0/\aj xV c.out=[[dI 1,dI i.c.id,dI i.c.inst,dI i.c.side,dI i.c.price,dI i.c.qty,dI i.c.qty,dI 0]]/\∃(d:EnJ->Prop),∃(e:EnJ->Nat),d c/\∀(f:EnJ),d f->cnd (decide ((↑f.k:Int)<(↑(aj wI a.r.steps).length:Int))) ((0<=(↑f.k:Int)/\(↑f.k:Int)<(↑(aj wI a.r.steps).length:Int))/\∃(g:Int),∃(h:Int),∃(j:Bool),∃(k:List (List D)),zE (aj wI a.r.steps) (↑f.k:Int).toNat 0 4=some [dI g,dI h,D.v (.bool j),D.ro 6 k]/\∃(l:StI'),l.c.kind=i.c.kind/\l.c.id=i.c.id/\l.c.inst=i.c.inst/\l.c.side=i.c.side/\l.c.price=i.c.price/\l.c.qty=i.c.qty/\l.c.least=i.c.least/\l.c.time=i.c.time/\sb l.c.label=sb i.c.label/\l.x.price=g/\l.x.qty=h/\l.x.implied=j/\aj yX l.x.fills=k/\l.left=ag.wrap (f.left-h)/\sb l.m.p.code=sb i.m.p.code/\l.m.p.tick=i.m.p.tick/\l.m.p.low=i.m.p.low/\l.m.p.high=i.m.p.high/\l.m.p.wide=i.m.p.wide/\l.m.p.rule=i.m.p.rule/\l.m.p.top=i.m.p.top/\l.m.p.least=i.m.p.least/\l.m.p.part=i.m.p.part/\zD l.m.s=zD b/\zU l.m.used=uZ (ak ag i.c.id) [D.v (.bool ao)] (zU i.m.used)/\aa 1 (iE l.m.p.months)=yM i.m 3/\aa 1 (iE l.m.p.settle)=yM i.m 4/\((l.m.p.check=0/\l.m.p.code.length<=1099511627776/\l.m.p.months.length<=1099511627776/\l.m.p.settle.length<=1099511627776)/\((-9223372036854775808)<=l.x.price/\l.x.price<=9223372036854775807)/\l.x.fills.length<=1000000/\(l.c.side=1\/l.c.side=2)/\∀(m:c9),m∈l.x.fills->m.side=1\/m.side=2)/\∀(m:Unit),True->((aj xV f.out).length+(aj xV (nC l.m.p l.c l.x l.left)).length)*(64:Nat)<=(140737488355328:Nat)/\∃(n:EnJ),n.left=ag.wrap (f.left-h)/\(↑n.k:Int)=ag.wrap ((↑f.k:Int)+1)/\aj xV n.out=aj xV f.out++aj xV (nC l.m.p l.c l.x l.left)/\d n/\e n<e f/\zD l.m.s=zD b/\dh (af 321 4 (aj wI a.r.steps))/\dh (ab [V.d (dI i.c.kind),V.d (dI i.c.id),V.d (dI i.c.inst),V.d (dI i.c.side),V.d (dI i.c.price),V.d (dI i.c.qty),V.d (dI i.c.least),V.d (dI i.c.time),V.d (v7 i)] 80)/\ab [V.d (D.v (am (sb l.m.p.code))),V.own 3,V.d (dI l.m.p.tick),V.d (dI l.m.p.low),V.d (dI l.m.p.high),V.d (dI l.m.p.wide),V.d (dI l.m.p.rule),V.d (dI l.m.p.top),V.d (dI l.m.p.least),V.d (dI l.m.p.part),V.own 4,V.nm 1 0,V.mp 2] (179:TypeId)=yM i.m 0/\ae (zU l.m.used)=ae (uZ (ak ag i.c.id) [D.v (.bool ao)] (zU i.m.used))/\aa 1 (iE l.m.p.months)=yM i.m 3/\aa 1 (iE l.m.p.settle)=yM i.m 4) (cnd (a.r.left==0) (∃(g:Mkt),sb g.p.code=sb i.m.p.code/\g.p.tick=i.m.p.tick/\g.p.low=i.m.p.low/\g.p.high=i.m.p.high/\g.p.wide=i.m.p.wide/\g.p.rule=i.m.p.rule/\g.p.top=i.m.p.top/\g.p.least=i.m.p.least/\g.p.part=i.m.p.part/\zD g.s=zD b/\zCp g i f) (cnd (i.c.time==1) (∃(g:SaI),g.inst=i.c.inst/\g.id=i.c.id/\zC g.sd=i.c.side/\g.price=i.c.price/\g.qty=a.r.left/\zD g.s=zD b/\((g.s.p.code.length<=1099511627776/\g.s.p.months.length<=1099511627776/\g.s.p.settle.length<=1099511627776)/\g.s.books.length<=1000000/\∀(h:Book),h∈g.s.books->(h.a.slots.length<=1000000/\(h.a.free≠0->∃(j:Slot),j∈h.a.slots/\j.used=ap)/\∀(j:cV),j∈h.a.queues->j.last=(-1)\/0<=j.last/\j.last<(↑h.a.slots.length:Int))/\h.a.queues.length<=100000/\h.buys.length<=100000/\h.sells.length<=100000/\h.spare.length<=100000)/\∀(h:Unit),True->∃(j:Mkt),sb j.p.code=sb i.m.p.code/\j.p.tick=i.m.p.tick/\j.p.low=i.m.p.low/\j.p.high=i.m.p.high/\j.p.wide=i.m.p.wide/\j.p.rule=i.m.p.rule/\j.p.top=i.m.p.top/\j.p.least=i.m.p.least/\j.p.part=i.m.p.part/\zD j.s=zD (MSt.addF g).fst/\zCp j i f) (((aj xV f.out).length+1)*(64:Nat)<=(140737488355328:Nat)/\∃(g:Mkt),sb g.p.code=sb i.m.p.code/\g.p.tick=i.m.p.tick/\g.p.low=i.m.p.low/\g.p.high=i.m.p.high/\g.p.wide=i.m.p.wide/\g.p.rule=i.m.p.rule/\g.p.top=i.m.p.top/\g.p.least=i.m.p.least/\g.p.part=i.m.p.part/\zD g.s=zD b/\zU g.used=uZ (ak ag i.c.id) [D.v (.bool ao)] (zU i.m.used)/\aa 1 (iE g.p.months)=yM i.m 3/\aa 1 (iE g.p.settle)=yM i.m 4/\aj xV i.X.R=aj xV f.out++[[dI 4,dI i.c.id,dI i.c.inst,dI i.c.side,dI i.c.price,dI a.r.left,dI 0,dI 0]]/\g.Rep i.p i.X.B i.X.U)))
def zDu (a:EnI):Prop:=ab [V.d (dI a.c.kind),V.d (dI a.c.id),V.d (dI a.c.inst),V.d (dI a.c.side),V.d (dI a.c.price),V.d (dI a.c.qty),V.d (dI a.c.least),V.d (dI a.c.time),V.d (v7 a)] 80=ab [V.d (dI a.c.kind),V.d (dI a.c.id),V.d (dI a.c.inst),V.d (dI a.c.side),V.d (dI a.c.price),V.d (dI a.c.qty),V.d (dI a.c.least),V.d (dI a.c.time),V.d (v7 a)] 80/\dh (yM a.m 0)/\dh (yM a.m 2)/\dh (yM a.m 3)/\dh (yM a.m 4)
def zJf (a:Bool->Prop) (b:SoI) (c:EnI):Prop:=∃(d:Bool),d=ap/\a d/\dh (zD b.s)/\zDu c
def zIk (a:Int->Prop) (b:Int) (c:EnI):Prop:=a b/\dh (ab [V.d (dI c.c.kind),V.d (dI c.c.id),V.d (dI c.c.inst),V.d (dI c.c.side),V.d (dI c.c.price),V.d (dI c.c.qty),V.d (dI c.c.least),V.d (dI c.c.time),V.d (v7 c)] 80)/\dh (yM c.m 0)/\dh (yM c.m 1)/\dh (yM c.m 2)/\dh (yM c.m 3)/\dh (yM c.m 4)
def zDi (a:Bool->Prop) (b:Bool) (c:RunI) (d:SoI) (e:EnI):Prop:=a b/\zD c.s=zD d.s/\zDu e
def zDp (a:Mkt) (b:EnI) (c:RjI):Prop:=zU a.used=zU b.m.used/\aa 1 (iE a.p.months)=yM b.m 3/\aa 1 (iE a.p.settle)=yM b.m 4/\aj xV b.X.R=[xV (Rep.mk 2 c.c.id 0 0 0 0 0 c.why)]/\a.Rep b.p b.X.B b.X.U
def zDl (a:EnI) (b:RjI):Prop:=True/\∀(c:Unit),True->∃(d:Mkt),sb d.p.code=sb a.m.p.code/\d.p.tick=a.m.p.tick/\d.p.low=a.m.p.low/\d.p.high=a.m.p.high/\d.p.wide=a.m.p.wide/\d.p.rule=a.m.p.rule/\d.p.top=a.m.p.top/\d.p.least=a.m.p.least/\d.p.part=a.m.p.part/\zD d.s=yM a.m 1/\zDp d a b
def sZ (a:EnI) (b:SoI) (c:RjI):Prop:=True/\∀(d:Unit),True->∃(e:Mkt),sb e.p.code=sb a.m.p.code/\e.p.tick=a.m.p.tick/\e.p.low=a.m.p.low/\e.p.high=a.m.p.high/\e.p.wide=a.m.p.wide/\e.p.rule=a.m.p.rule/\e.p.top=a.m.p.top/\e.p.least=a.m.p.least/\e.p.part=a.m.p.part/\zD e.s=zD b.s/\zDp e a c
def sH (a:EnI) (b:EnI):Prop:=∀(c:Mkt),c.Rep a.p a.X.B a.X.U->∃(d:Mkt),sb d.p.code=sb c.p.code/\d.p.tick=c.p.tick/\d.p.low=c.p.low/\d.p.high=c.p.high/\d.p.wide=c.p.wide/\d.p.rule=c.p.rule/\d.p.top=c.p.top/\d.p.least=c.p.least/\d.p.part=c.p.part/\zD d.s=zD c.s/\zU d.used=zU c.used/\aa 1 (iE d.p.months)=aa 1 (iE c.p.months)/\aa 1 (iE d.p.settle)=aa 1 (iE c.p.settle)/\aj xV b.X.R=aj xV a.X.R/\d.Rep b.p b.X.B b.X.U
def sP (a:EnI):Prop:=(a.m.Rep a.p a.B a.U/\BOk a.p a.B)/\((0<=a.c.inst/\a.c.inst<(↑a.B.length:Int))/\(1<=a.c.qty/\a.c.qty<=1000000)/\(a.c.side=1\/a.c.side=2))/\a.p.price a.c.inst a.c.price=0/\a.X=bI a.p a.B a.U a.c
def yHa (i:EnI):Prop:=
 ∃(a:eD),sb a.p.code=sb i.m.p.code/\iE a.p.months=iE i.m.p.months/\a.p.tick=i.m.p.tick/\a.p.low=i.m.p.low/\a.p.high=i.m.p.high/\a.p.wide=i.m.p.wide/\a.p.rule=i.m.p.rule/\a.p.top=i.m.p.top/\a.p.least=i.m.p.least/\a.p.part=i.m.p.part/\iE a.p.settle=iE i.m.p.settle/\a.a=i.c.inst/\a.b=i.c.price/\(qD a)/\∀(b:Unit),True->cnd (a.p.price a.a a.b !=0) (∃(c:RjI),c.c.kind=i.c.kind/\c.c.id=i.c.id/\c.c.inst=i.c.inst/\c.c.side=i.c.side/\c.c.price=i.c.price/\c.c.qty=i.c.qty/\c.c.least=i.c.least/\c.c.time=i.c.time/\sb c.c.label=sb i.c.label/\c.why=a.p.price a.a a.b/\zDl i c) (∃(c:Int),∃(d:Int->Prop),cnd (i.c.time==3) (∃(e:Int),e=i.c.qty/\zIk d e i) (∃(e:Int),e=i.c.least/\zIk d e i)/\∀(e:Int),d e->(∀(f:Value×List D),f∈zU i.m.used->like (ak ag i.c.id) f.fst=ao)/\∃(f:Bool),∃(g:Bool),(kQ (ak ag i.c.id) (zU i.m.used)=some [D.v (.bool g)]/\f=ao\/kQ (ak ag i.c.id) (zU i.m.used)=none/\[D.v (.bool g)]=[D.v (.bool ap)]/\f=ap)/\cnd g (∃(h:RjI),h.c.kind=i.c.kind/\h.c.id=i.c.id/\h.c.inst=i.c.inst/\h.c.side=i.c.side/\h.c.price=i.c.price/\h.c.qty=i.c.qty/\h.c.least=i.c.least/\h.c.time=i.c.time/\sb h.c.label=sb i.c.label/\h.why=25/\zDl i h) (∃(h:SoI),zD h.s=yM i.m 1/\(h.s.Rep h.p h.B/\h.B.length<=1000)/\∀(j:Unit),True->cnd (decide ((↑(zUs h.B):Int)>=250)) (∃(k:RjI),k.c.kind=i.c.kind/\k.c.id=i.c.id/\k.c.inst=i.c.inst/\k.c.side=i.c.side/\k.c.price=i.c.price/\k.c.qty=i.c.qty/\k.c.least=i.c.least/\k.c.time=i.c.time/\sb k.c.label=sb i.c.label/\k.why=13/\sZ i h k) (∃(k:Bool),∃(l:Bool->Prop),cnd (decide (e>0)) (∃(m:RunI),m.inst=i.c.inst/\zC m.sd=i.c.side/\m.price=i.c.price/\m.q=i.c.qty/\zD m.s=zD h.s/\(qT m)/\∀(n:Unit),True->∃(p:Bool),p=decide (m.q-m.r.left<e)/\zDi l p m h i) (zJf l h i)/\∀(m:Bool),l m->cnd m (∃(n:RjI),n.c.kind=i.c.kind/\n.c.id=i.c.id/\n.c.inst=i.c.inst/\n.c.side=i.c.side/\n.c.price=i.c.price/\n.c.qty=i.c.qty/\n.c.least=i.c.least/\n.c.time=i.c.time/\sb n.c.label=sb i.c.label/\n.why=28/\sZ i h n) (∃(n:Bool),∃(p:Bool->Prop),cnd (i.c.time==1) (∃(q:RunI),q.inst=i.c.inst/\zC q.sd=i.c.side/\q.price=i.c.price/\q.q=i.c.qty/\zD q.s=zD h.s/\(qT q)/\∀(r:Unit),True->∃(s:Bool),s=mR q.p q.B q.inst q.sd q.price q.q/\zDi p s q h i) (zJf p h i)/\∀(q:Bool),p q->cnd q (∃(r:RjI),r.c.kind=i.c.kind/\r.c.id=i.c.id/\r.c.inst=i.c.inst/\r.c.side=i.c.side/\r.c.price=i.c.price/\r.c.qty=i.c.qty/\r.c.least=i.c.least/\r.c.time=i.c.time/\sb r.c.label=sb i.c.label/\r.why=23/\sZ i h r) (∃(r:EnI),r.c.kind=i.c.kind/\r.c.id=i.c.id/\r.c.inst=i.c.inst/\r.c.side=i.c.side/\r.c.price=i.c.price/\r.c.qty=i.c.qty/\r.c.least=i.c.least/\r.c.time=i.c.time/\sb r.c.label=sb i.c.label/\sb r.m.p.code=sb i.m.p.code/\r.m.p.tick=i.m.p.tick/\r.m.p.low=i.m.p.low/\r.m.p.high=i.m.p.high/\r.m.p.wide=i.m.p.wide/\r.m.p.rule=i.m.p.rule/\r.m.p.top=i.m.p.top/\r.m.p.least=i.m.p.least/\r.m.p.part=i.m.p.part/\zD r.m.s=zD h.s/\zU r.m.used=zU i.m.used/\aa 1 (iE r.m.p.months)=yM i.m 3/\aa 1 (iE r.m.p.settle)=yM i.m 4/\(sP r)/\sH r i)))))
def yNy (i:CaI):Prop:=
 ∃(i_1:StI),i_1.id=i.id/\i_1.q=i.o.qty/\zD i_1.s=yM i.m 1/\(i_1.s.Rep i_1.p i_1.B/\i_1.B.length<=1000)/\∀(o:MSt),o.Rep i_1.p (kO i_1.B i_1.id i_1.q).fst->∃(o_1:Mkt),sb o_1.p.code=sb i.m.p.code/\o_1.p.tick=i.m.p.tick/\o_1.p.low=i.m.p.low/\o_1.p.high=i.m.p.high/\o_1.p.wide=i.m.p.wide/\o_1.p.rule=i.m.p.rule/\o_1.p.top=i.m.p.top/\o_1.p.least=i.m.p.least/\o_1.p.part=i.m.p.part/\zD o_1.s=zD o/\zU o_1.used=zU i.m.used/\aa 1 (iE o_1.p.months)=yM i.m 3/\aa 1 (iE o_1.p.settle)=yM i.m 4/\aj xV i.X.R=[[D.v (.int .i64 4),D.v (.int .i64 i.id),D.v (.int .i64 i.inst),D.v (.int .i64 i.o.side),D.v (.int .i64 i.o.price),D.v (.int .i64 i.o.qty),D.v (.int .i64 0),D.v (.int .i64 0)]]/\o_1.Rep i.p i.X.B i.X.U
def z7k (i:CaI):Prop:=
 ∃(a:StI),a.id=i.id/\a.q=i.q/\zD a.s=yM i.m 1/\(a.s.Rep a.p a.B/\a.B.length<=1000)/\∀(b:MSt),b.Rep a.p (kO a.B a.id a.q).fst->∃(c:Mkt),sb c.p.code=sb i.m.p.code/\c.p.tick=i.m.p.tick/\c.p.low=i.m.p.low/\c.p.high=i.m.p.high/\c.p.wide=i.m.p.wide/\c.p.rule=i.m.p.rule/\c.p.top=i.m.p.top/\c.p.least=i.m.p.least/\c.p.part=i.m.p.part/\zD c.s=zD b/\zU c.used=zU i.m.used/\aa 1 (iE c.p.months)=yM i.m 3/\aa 1 (iE c.p.settle)=yM i.m 4/\aj xV i.X.R=[[dI 5,dI i.id,dI i.inst,dI i.o.side,dI i.o.price,dI i.q,dI (ag.wrap (i.o.qty-i.q)),dI 0]]/\c.Rep i.p i.X.B i.X.U
def tP (a:Mkt) (b:yAx) (c:RjI):Prop:=zU a.used=zU b.m.used/\aa 1 (iE a.p.months)=yM b.m 3/\aa 1 (iE a.p.settle)=yM b.m 4/\aj xV b.X.R=[xV (Rep.mk 2 c.c.id 0 0 0 0 0 c.why)]/\a.Rep b.p b.X.B b.X.U
def zCk (a:yAx):Prop:=∃(b:MSt),zD b=yM a.m 1/\(fC b)/\∀(c:Unit),True->∃(d:StI),d.id=a.c.id/\d.q=a.o.qty/\zD d.s=zD b/\(d.s.Rep d.p d.B/\d.B.length<=1000)/\∀(e:MSt),e.Rep d.p (kO d.B d.id d.q).fst->∃(f:RunI),f.inst=a.inst/\zC f.sd=a.o.side/\f.price=a.c.price/\f.q=a.c.qty/\zD f.s=zD e/\(qT f)/\∀(g:Unit),True->cnd (mR f.p f.B f.inst f.sd f.price f.q) (∃(h:RjI),h.c.kind=a.c.kind/\h.c.id=a.c.id/\h.c.inst=a.c.inst/\h.c.side=a.c.side/\h.c.price=a.c.price/\h.c.qty=a.c.qty/\h.c.least=a.c.least/\h.c.time=a.c.time/\sb h.c.label=sb a.c.label/\h.why=23/\True/\∀(j:Unit),True->∃(k:Mkt),sb k.p.code=sb a.m.p.code/\k.p.tick=a.m.p.tick/\k.p.low=a.m.p.low/\k.p.high=a.m.p.high/\k.p.wide=a.m.p.wide/\k.p.rule=a.m.p.rule/\k.p.top=a.m.p.top/\k.p.least=a.m.p.least/\k.p.part=a.m.p.part/\zD k.s=zD b/\tP k a h) (∃(h:CaI),h.id=a.c.id/\h.inst=a.inst/\h.o.id=a.o.id/\h.o.side=a.o.side/\h.o.price=a.o.price/\h.o.qty=a.o.qty/\h.o.top=a.o.top/\sb h.m.p.code=sb a.m.p.code/\h.m.p.tick=a.m.p.tick/\h.m.p.low=a.m.p.low/\h.m.p.high=a.m.p.high/\h.m.p.wide=a.m.p.wide/\h.m.p.rule=a.m.p.rule/\h.m.p.top=a.m.p.top/\h.m.p.least=a.m.p.least/\h.m.p.part=a.m.p.part/\zD h.m.s=zD b/\zU h.m.used=zU a.m.used/\aa 1 (iE h.m.p.months)=yM a.m 3/\aa 1 (iE h.m.p.settle)=yM a.m 4/\((h.m.Rep h.p h.B h.U/\BOk h.p h.B)/\h.X=uU h.B h.U h.id h.inst h.o)/\∀(j:Mkt),j.Rep h.p h.X.B h.X.U->∃(k:EnI),k.c.kind=1/\k.c.id=a.c.id/\k.c.inst=a.inst/\k.c.side=a.o.side/\k.c.price=a.c.price/\k.c.qty=a.c.qty/\k.c.least=0/\k.c.time=1/\sb k.c.label=ByteArray.mk #[]/\sb k.m.p.code=sb j.p.code/\k.m.p.tick=j.p.tick/\k.m.p.low=j.p.low/\k.m.p.high=j.p.high/\k.m.p.wide=j.p.wide/\k.m.p.rule=j.p.rule/\k.m.p.top=j.p.top/\k.m.p.least=j.p.least/\k.m.p.part=j.p.part/\zD k.m.s=zD j.s/\zU k.m.used=zU j.used/\aa 1 (iE k.m.p.months)=aa 1 (iE j.p.months)/\aa 1 (iE k.m.p.settle)=aa 1 (iE j.p.settle)/\(sP k)/\∀(l:Mkt),l.Rep k.p k.X.B k.X.U->((aj xV h.X.R).length+(aj xV k.X.R).length)*(64:Nat)<=(140737488355328:Nat)/\∃(m:Mkt),sb m.p.code=sb l.p.code/\m.p.tick=l.p.tick/\m.p.low=l.p.low/\m.p.high=l.p.high/\m.p.wide=l.p.wide/\m.p.rule=l.p.rule/\m.p.top=l.p.top/\m.p.least=l.p.least/\m.p.part=l.p.part/\zD m.s=zD l.s/\zU m.used=zU l.used/\aa 1 (iE m.p.months)=aa 1 (iE l.p.months)/\aa 1 (iE m.p.settle)=aa 1 (iE l.p.settle)/\aj xV a.X.R=aj xV h.X.R++aj xV k.X.R/\m.Rep a.p a.X.B a.X.U)
def bM (a:CaI):Prop:=(a.m.Rep a.p a.B a.U/\BOk a.p a.B)/\((-9223372036854775808)<=a.o.qty-a.q/\a.o.qty-a.q<=9223372036854775807)/\a.X=bP a.B a.U a.id a.q a.inst a.o
def zZf (i:yAx):Prop:=
 ∃(a:eD),sb a.p.code=sb i.m.p.code/\iE a.p.months=iE i.m.p.months/\a.p.tick=i.m.p.tick/\a.p.low=i.m.p.low/\a.p.high=i.m.p.high/\a.p.wide=i.m.p.wide/\a.p.rule=i.m.p.rule/\a.p.top=i.m.p.top/\a.p.least=i.m.p.least/\a.p.part=i.m.p.part/\iE a.p.settle=iE i.m.p.settle/\a.a=i.inst/\a.b=i.c.price/\(qD a)/\∀(b:Unit),True->cnd (a.p.price a.a a.b !=0) (∃(c:RjI),c.c.kind=i.c.kind/\c.c.id=i.c.id/\c.c.inst=i.c.inst/\c.c.side=i.c.side/\c.c.price=i.c.price/\c.c.qty=i.c.qty/\c.c.least=i.c.least/\c.c.time=i.c.time/\sb c.c.label=sb i.c.label/\c.why=a.p.price a.a a.b/\True/\∀(d:Unit),True->∃(e:Mkt),sb e.p.code=sb i.m.p.code/\e.p.tick=i.m.p.tick/\e.p.low=i.m.p.low/\e.p.high=i.m.p.high/\e.p.wide=i.m.p.wide/\e.p.rule=i.m.p.rule/\e.p.top=i.m.p.top/\e.p.least=i.m.p.least/\e.p.part=i.m.p.part/\zD e.s=yM i.m 1/\tP e i c) (cnd (i.c.price==i.o.price) (cnd (decide (i.c.qty<=i.o.qty)) (∃(c:CaI),c.id=i.c.id/\c.q=ag.wrap (i.o.qty-i.c.qty)/\c.inst=i.inst/\c.o.id=i.o.id/\c.o.side=i.o.side/\c.o.price=i.o.price/\c.o.qty=i.o.qty/\c.o.top=i.o.top/\sb c.m.p.code=sb i.m.p.code/\c.m.p.tick=i.m.p.tick/\c.m.p.low=i.m.p.low/\c.m.p.high=i.m.p.high/\c.m.p.wide=i.m.p.wide/\c.m.p.rule=i.m.p.rule/\c.m.p.top=i.m.p.top/\c.m.p.least=i.m.p.least/\c.m.p.part=i.m.p.part/\zD c.m.s=yM i.m 1/\zU c.m.used=zU i.m.used/\aa 1 (iE c.m.p.months)=yM i.m 3/\aa 1 (iE c.m.p.settle)=yM i.m 4/\(bM c)/\∀(d:Mkt),d.Rep c.p c.X.B c.X.U->∃(e:Mkt),sb e.p.code=sb d.p.code/\e.p.tick=d.p.tick/\e.p.low=d.p.low/\e.p.high=d.p.high/\e.p.wide=d.p.wide/\e.p.rule=d.p.rule/\e.p.top=d.p.top/\e.p.least=d.p.least/\e.p.part=d.p.part/\zD e.s=zD d.s/\zU e.used=zU d.used/\aa 1 (iE e.p.months)=aa 1 (iE d.p.months)/\aa 1 (iE e.p.settle)=aa 1 (iE d.p.settle)/\aj xV i.X.R=aj xV c.X.R/\e.Rep i.p i.X.B i.X.U) (zCk i)) (zCk i))
def zUw (a:CaI) (b:EnI):Prop:=∀(c:Mkt),c.Rep a.p a.X.B a.X.U->∃(d:Mkt),sb d.p.code=sb c.p.code/\d.p.tick=c.p.tick/\d.p.low=c.p.low/\d.p.high=c.p.high/\d.p.wide=c.p.wide/\d.p.rule=c.p.rule/\d.p.top=c.p.top/\d.p.least=c.p.least/\d.p.part=c.p.part/\zD d.s=zD c.s/\zU d.used=zU c.used/\aa 1 (iE d.p.months)=aa 1 (iE c.p.months)/\aa 1 (iE d.p.settle)=aa 1 (iE c.p.settle)/\aj xV b.X.R=aj xV a.X.R/\d.Rep b.p b.X.B b.X.U
def zUp (a:Mkt) (b:EnI) (c:RjI):Prop:=zU a.used=zU b.m.used/\aa 1 (iE a.p.months)=aa 1 (iE b.m.p.months)/\aa 1 (iE a.p.settle)=aa 1 (iE b.m.p.settle)/\aj xV b.X.R=[xV (Rep.mk 2 c.c.id 0 0 0 0 0 c.why)]/\a.Rep b.p b.X.B b.X.U
def z4d (a:EnI) (b:StI):Prop:=∃(c:CaI),c.id=a.c.id/\c.inst=(zZ b.B b.id).fst/\c.o.id=(zZ b.B b.id).snd.fst.id/\c.o.side=(zZ b.B b.id).snd.fst.side/\c.o.price=(zZ b.B b.id).snd.fst.price/\c.o.qty=(zZ b.B b.id).snd.fst.qty/\c.o.top=(zZ b.B b.id).snd.fst.top/\sb c.m.p.code=sb a.m.p.code/\c.m.p.tick=a.m.p.tick/\c.m.p.low=a.m.p.low/\c.m.p.high=a.m.p.high/\c.m.p.wide=a.m.p.wide/\c.m.p.rule=a.m.p.rule/\c.m.p.top=a.m.p.top/\c.m.p.least=a.m.p.least/\c.m.p.part=a.m.p.part/\zD c.m.s=zD b.s/\zU c.m.used=zU a.m.used/\aa 1 (iE c.m.p.months)=aa 1 (iE a.m.p.months)/\aa 1 (iE c.m.p.settle)=aa 1 (iE a.m.p.settle)/\((c.m.Rep c.p c.B c.U/\BOk c.p c.B)/\c.X=uU c.B c.U c.id c.inst c.o)/\zUw c a
def yJv (a:EnI):Prop:=∃(b:StI),b.id=a.c.id/\zD b.s=zD a.m.s/\(b.s.Rep b.p b.B/\b.B.length<=1000)/\∀(c:Unit),True->cnd (!(zZ b.B b.id).snd.snd) (∃(d:RjI),d.c.kind=a.c.kind/\d.c.id=a.c.id/\d.c.inst=a.c.inst/\d.c.side=a.c.side/\d.c.price=a.c.price/\d.c.qty=a.c.qty/\d.c.least=a.c.least/\d.c.time=a.c.time/\sb d.c.label=sb a.c.label/\d.why=26/\True/\∀(e:Unit),True->∃(f:Mkt),sb f.p.code=sb a.m.p.code/\f.p.tick=a.m.p.tick/\f.p.low=a.m.p.low/\f.p.high=a.m.p.high/\f.p.wide=a.m.p.wide/\f.p.rule=a.m.p.rule/\f.p.top=a.m.p.top/\f.p.least=a.m.p.least/\f.p.part=a.m.p.part/\zD f.s=zD b.s/\zUp f a d) (cnd (a.c.kind==4) (∃(d:yAx),d.c.kind=a.c.kind/\d.c.id=a.c.id/\d.c.inst=a.c.inst/\d.c.side=a.c.side/\d.c.price=a.c.price/\d.c.qty=a.c.qty/\d.c.least=a.c.least/\d.c.time=a.c.time/\sb d.c.label=sb a.c.label/\d.inst=(zZ b.B b.id).fst/\d.o.id=(zZ b.B b.id).snd.fst.id/\d.o.side=(zZ b.B b.id).snd.fst.side/\d.o.price=(zZ b.B b.id).snd.fst.price/\d.o.qty=(zZ b.B b.id).snd.fst.qty/\d.o.top=(zZ b.B b.id).snd.fst.top/\sb d.m.p.code=sb a.m.p.code/\d.m.p.tick=a.m.p.tick/\d.m.p.low=a.m.p.low/\d.m.p.high=a.m.p.high/\d.m.p.wide=a.m.p.wide/\d.m.p.rule=a.m.p.rule/\d.m.p.top=a.m.p.top/\d.m.p.least=a.m.p.least/\d.m.p.part=a.m.p.part/\zD d.m.s=zD b.s/\zU d.m.used=zU a.m.used/\aa 1 (iE d.m.p.months)=aa 1 (iE a.m.p.months)/\aa 1 (iE d.m.p.settle)=aa 1 (iE a.m.p.settle)/\(d.m.Rep d.p d.B d.U/\BOk d.p d.B/\zZ d.B d.c.id=(d.inst,d.o,ao)/\(1<=d.c.qty/\d.c.qty<=1000000)/\d.X=f8 d.p d.B d.U d.c d.inst d.o)/\∀(e:Mkt),e.Rep d.p d.X.B d.X.U->∃(f:Mkt),sb f.p.code=sb e.p.code/\f.p.tick=e.p.tick/\f.p.low=e.p.low/\f.p.high=e.p.high/\f.p.wide=e.p.wide/\f.p.rule=e.p.rule/\f.p.top=e.p.top/\f.p.least=e.p.least/\f.p.part=e.p.part/\zD f.s=zD e.s/\zU f.used=zU e.used/\aa 1 (iE f.p.months)=aa 1 (iE e.p.months)/\aa 1 (iE f.p.settle)=aa 1 (iE e.p.settle)/\aj xV a.X.R=aj xV d.X.R/\f.Rep a.p a.X.B a.X.U) (cnd (a.c.kind==2) (z4d a b) (cnd (decide (a.c.qty>=(zZ b.B b.id).snd.fst.qty)) (z4d a b) (∃(d:CaI),d.id=a.c.id/\d.q=a.c.qty/\d.inst=(zZ b.B b.id).fst/\d.o.id=(zZ b.B b.id).snd.fst.id/\d.o.side=(zZ b.B b.id).snd.fst.side/\d.o.price=(zZ b.B b.id).snd.fst.price/\d.o.qty=(zZ b.B b.id).snd.fst.qty/\d.o.top=(zZ b.B b.id).snd.fst.top/\sb d.m.p.code=sb a.m.p.code/\d.m.p.tick=a.m.p.tick/\d.m.p.low=a.m.p.low/\d.m.p.high=a.m.p.high/\d.m.p.wide=a.m.p.wide/\d.m.p.rule=a.m.p.rule/\d.m.p.top=a.m.p.top/\d.m.p.least=a.m.p.least/\d.m.p.part=a.m.p.part/\zD d.m.s=zD b.s/\zU d.m.used=zU a.m.used/\aa 1 (iE d.m.p.months)=aa 1 (iE a.m.p.months)/\aa 1 (iE d.m.p.settle)=aa 1 (iE a.m.p.settle)/\(bM d)/\zUw d a))))
def Vdo (i:EnI):Prop:=
 ∃(a:Cmd),a.kind=i.c.kind/\a.id=i.c.id/\a.inst=i.c.inst/\a.side=i.c.side/\a.price=i.c.price/\a.qty=i.c.qty/\a.least=i.c.least/\a.time=i.c.time/\sb a.label=sb i.c.label/\a.label.length<=140737488355328/\∀(b:Unit),True->cnd (a.right !=0) (∃(c:RjI),c.c.kind=i.c.kind/\c.c.id=i.c.id/\c.c.inst=i.c.inst/\c.c.side=i.c.side/\c.c.price=i.c.price/\c.c.qty=i.c.qty/\c.c.least=i.c.least/\c.c.time=i.c.time/\sb c.c.label=sb i.c.label/\c.why=a.right/\True/\∀(d:Unit),True->∃(e:Mkt),sb e.p.code=sb i.m.p.code/\e.p.tick=i.m.p.tick/\e.p.low=i.m.p.low/\e.p.high=i.m.p.high/\e.p.wide=i.m.p.wide/\e.p.rule=i.m.p.rule/\e.p.top=i.m.p.top/\e.p.least=i.m.p.least/\e.p.part=i.m.p.part/\zD e.s=zD i.m.s/\zUp e i c) (cnd (i.c.kind==1) (∃(c:EnI),c.c.kind=i.c.kind/\c.c.id=i.c.id/\c.c.inst=i.c.inst/\c.c.side=i.c.side/\c.c.price=i.c.price/\c.c.qty=i.c.qty/\c.c.least=i.c.least/\c.c.time=i.c.time/\sb c.c.label=sb i.c.label/\sb c.m.p.code=sb i.m.p.code/\c.m.p.tick=i.m.p.tick/\c.m.p.low=i.m.p.low/\c.m.p.high=i.m.p.high/\c.m.p.wide=i.m.p.wide/\c.m.p.rule=i.m.p.rule/\c.m.p.top=i.m.p.top/\c.m.p.least=i.m.p.least/\c.m.p.part=i.m.p.part/\zD c.m.s=zD i.m.s/\zU c.m.used=zU i.m.used/\aa 1 (iE c.m.p.months)=aa 1 (iE i.m.p.months)/\aa 1 (iE c.m.p.settle)=aa 1 (iE i.m.p.settle)/\((c.m.Rep c.p c.B c.U/\BOk c.p c.B)/\c.c.right=0/\c.c.kind=1/\c.X=nN c.p c.B c.U c.c)/\sH c i) ((yJv i)/\dh i.c.id/\True/\yJv i))
def zBe (p:Prd) (B:List (List zI)) (U:List Int) (c:Cmd):bI p B U c=⟨if(wN p B c.inst (decide (c.side=2)) c.price c.qty).left≠0/\c.time=1 then(z2z p (wN p B c.inst (decide (c.side=2)) c.price c.qty).B c.inst c.id c.side c.price (wN p B c.inst (decide (c.side=2)) c.price c.qty).left).1 else(wN p B c.inst (decide (c.side=2)) c.price c.qty).B,zQr U c.id,
 (⟨1,c.id,c.inst,c.side,c.price,c.qty,c.qty,0⟩::aR p c (wN p B c.inst (decide (c.side=2)) c.price c.qty).steps c.qty)++if(wN p B c.inst (decide (c.side=2)) c.price c.qty).left≠0/\c.time≠1 then[⟨4,c.id,c.inst,c.side,c.price,(wN p B c.inst (decide (c.side=2)) c.price c.qty).left,0,0⟩]else[]⟩:=by
 rw[bI]
def zRg {p:Prd} {B:List (List zI)} (h:BWf p B) (U:List Int) (c:Cmd):BOk p (bI p B U c).B:=by
 have:=(rG (inst:=c.inst) (sd:=decide (c.side=2)) (price:=c.price) _ c.qty B (y6p _) h).1.ok;rw[zBe];dsimp only;split
 ·exact this.add _ _ _ _ _
 ·exact this
def yBt {p:Prd} {B:List (List zI)} (h:BWf p B) (U:List Int) (c:Cmd):BOk p (nN p B U c).B:=by
 rw[nN];split
 ·exact h.ok
 split
 ·exact h.ok
 split
 ·exact h.ok
 split
 ·exact h.ok
 split
 ·exact h.ok
 exact zRg h U c
def yWq {p:Prd} {B:List (List zI)} (h:BWf p B) (U:List Int) (c:Cmd):BOk p (doF p B U c).B:=by
 rw[doF];split
 ·exact h.ok
 split
 ·exact yBt h U c
 split
 ·exact h.ok
 split
 ·rw[f8];split
  ·exact h.ok
  split
  ·exact h.ok.take _ _
  split
  ·exact h.ok
  exact zRg (h.take _ _) U _
 split
 ·exact h.ok.take _ _
 ·exact h.ok.take _ _
def Two (L:List zI):Prop:=L=eO L 1++eO L 2
def lO {inst s:Int} {f:c9}:∀{os:List zI} {sh:List Int},f∈x6 inst s os sh->f.side=s/\f.inst=inst/\∃o∈os,f.price=o.price
 |[],sh,h=>by cases h
 |o::os,[],h=>by cases h
 |o::os,k::sh,h=>by
  rw[x6]at h;split at h
  ·rcases y6o.1 h with rfl|h
   ·exact⟨rfl,rfl,o,y5z,rfl⟩
   ·obtain⟨a,b,o',c,d⟩:=lO h;exact⟨a,b,o',y6b _ c,d⟩
  ·obtain⟨a,b,o',c,d⟩:=lO h;exact⟨a,b,o',y6b _ c,d⟩
def FOk (f:c9):Prop:=(f.side=1\/f.side=2)/\-2000000<=f.price/\f.price<=2000000
def zIn {p:Prd} {B:List (List zI)} (h:BOk p B) (inst:Int) {s:Int} (hs:s=1\/s=2) (q:Int):∀f∈qV p B inst s q,FOk f:=by
 intro f hf;obtain⟨a,_,o,ho,e⟩:=lO hf;refine⟨by rw[a];exact hs,?_⟩;rw[e];have ho:=(y7t.1 ho).1;by_cases hk:inst.toNat<B.length
 ·obtain⟨L,hL⟩:=yA hk;rw[zT hL]at ho;exact h.prices hL o ho
 ·rw[y6c,y7a (by omega)]at ho;cases ho
def SOk (t:j7):Prop:=(-2000000<=t.price/\t.price<=2000000)/\(∀f∈t.fills,FOk f)/\t.fills.length<=500
def yNf {p:Prd} {B:List (List zI)} (h:BWf p B) {inst:Int} (hi:0<=inst/\inst<B.length) {s:Int} (hs:s=1\/s=2) (hn:(yW p B inst s).2.2=ao): -2000000<=(yW p B inst s).1.price/\(yW p B inst s).1.price<=2000000:=by
 rw[yW]at hn ⊢;obtain⟨L,hL⟩:=yA (l:=B) (i:=inst.toNat) oM;rw[zT hL]at hn ⊢;split
 ·exact zUv (h.ok.prices hL)
 ·rename_i c;rw[y5t c]at hn;have hm:=zHf hn;have:=(y7t.1 hm).2;exact lD h.ok.pc (y6q this)
def yPi {p:Prd} {B:List (List zI)} (h:BWf p B) {inst:Int} (hi:0<=inst/\inst<B.length) {sd:Bool} {price q:Int} {t:j7} {B':List (List zI)} (e:aP p B inst sd price q=some (t,B')):SOk t:=by
 have hs:zC (!sd)=1\/zC (!sd)=2:=zEo _;have hb:=yNf h hi hs;have hin:=z9d h.ok h.od hi hs;rw[aP]at e;dsimp only at e;split at e
 ·rename_i c;have c1:(yW p B inst (zC (!sd))).2.2=ao:=by
   cases hx:(yW p B inst (zC (!sd))).2.2 with
   |false=>rw[hx]at c;cases c
   |true=>rfl
  have hb:=hb c1;obtain⟨_,hin,_⟩:=hin c1;split at e
  ·rename_i c2;obtain⟨_,ok⟩:=hin c2;cases e;refine⟨hb,λf hf=> ?_,?_⟩
   ·rcases y6y.1 hf with hf|hf
    ·exact zIn h.ok _ ok.sa _ f hf
    ·exact zIn h.ok.takes _ ok.sb _ f hf
   ·dsimp only;rw[y5s];have:=pC (p:=p) h.od (yW p B inst (zC (!sd))).1.a.inst (yW p B inst (zC (!sd))).1.a.side (min q (yW p B inst (zC (!sd))).1.qty);have:=pC (p:=p) (h.takes (fs:=qV p B (yW p B inst (zC (!sd))).1.a.inst (yW p B inst (zC (!sd))).1.a.side (min q (yW p B inst (zC (!sd))).1.qty))).od (yW p B inst (zC (!sd))).1.b.inst (yW p B inst (zC (!sd))).1.b.side (min q (yW p B inst (zC (!sd))).1.qty);omega
  ·cases e;refine⟨hb,λf hf=>zIn h.ok _ hs _ f hf,?_⟩;have:=pC (p:=p) h.od inst (zC (!sd)) (min q (yW p B inst (zC (!sd))).1.qty);dsimp only;omega
 ·cases e
def zCf (a:StI):Prop:=yS a.s.wh=yS a.s.wh/\dh (aa 1 (iE a.s.p.months))/\dh (aa 1 (iE a.s.p.settle))/\True
def yKr (i:StI):Prop:=
 (aQ i)/\∃(a:Bool),∃(b:Int),(tR i b a)/\cnd (!a) (∃(c:Unit),(zZ i.B i.id).fst=0/\(zZ i.B i.id).snd.fst.id=0/\(zZ i.B i.id).snd.fst.side=0/\(zZ i.B i.id).snd.fst.price=0/\(zZ i.B i.id).snd.fst.qty=0/\(zZ i.B i.id).snd.fst.top=ap/\(zZ i.B i.id).snd.snd=ap/\dh (sb i.s.p.code)/\dh i.s.p.tick/\dh i.s.p.low/\dh i.s.p.high/\dh i.s.p.wide/\dh i.s.p.rule/\dh i.s.p.top/\dh i.s.p.least/\dh i.s.p.part/\dh (ac 241 Book 6 zP i.s.books none)/\zCf i) ((0<=b/\b<(↑i.s.books.length:Int))/\b.toNat<i.s.books.length/\∃(c:Book),i.s.books[b.toNat]?=some c/\∃(d:FlI),d.id=i.id/\z7 d.b=z7 c/\d.b.Rep d.L/\∀(e:Unit),True->∃(f:Book),z7 d.b=z7 f/\dh b.toNat/\b.toNat<i.s.books.length/\∃(g:Unit),(zZ i.B i.id).fst=b/\(zZ i.B i.id).snd.fst.id=(dQ d.L d.id).id/\(zZ i.B i.id).snd.fst.side=(dQ d.L d.id).side/\(zZ i.B i.id).snd.fst.price=(dQ d.L d.id).price/\(zZ i.B i.id).snd.fst.qty=(dQ d.L d.id).qty/\(zZ i.B i.id).snd.fst.top=(dQ d.L d.id).top/\(zZ i.B i.id).snd.snd=ao/\dh (sb i.s.p.code)/\dh i.s.p.tick/\dh i.s.p.low/\dh i.s.p.high/\dh i.s.p.wide/\dh i.s.p.rule/\dh i.s.p.top/\dh i.s.p.least/\dh i.s.p.part/\ac 241 Book 6 zP i.s.books none=ac 241 Book 6 zP (i.s.books.set b.toNat f) none/\zCf i)
def yUk (i:StI) (h:sfindC.cnd i):yKr i:=by
 obtain⟨hR,hB⟩:i.s.Rep i.p i.B/\i.B.length<=1000:=h;have hat:=hR.at_ i.id;unfold yKr aQ tR zCf dI;rw[zZ];cases hi:mJ i.B i.id with
 |none=>
  rw[hi]at hat;exact⟨dR _ _,ap,0,.inr ⟨by rw[pQ,hat];rfl,rfl,rfl⟩,Cv.cnd.mk (λ_=>⟨(),k0q⟩) (λe=>absurd e Z8)⟩
 |some k=>
  rw[hi]at hat;obtain⟨L,hL,hh⟩:=gZ hi;have hk:=(y5x.1 hL).1;obtain⟨b,hb⟩:=yA (l:=i.s.books) (i:=k) (by rw[hR.bl];exact hk);have hbR:=hR.bk k b L hb hL;have hbl:=hR.bl;refine⟨dR _ _,ao,k,.inl ⟨by rw[pQ,hat];rfl,rfl⟩,Cv.cnd.mk (λe=>absurd e Z8) (λ_=> ?_)⟩;dsimp only;rw[y6m,zT hL];have hs:=hP hb;refine⟨⟨oM,oM⟩,oM,b,hb,⟨b,L,i.id,0⟩,rfl,rfl,hbR,λ_ _=>⟨b,rfl,rfl,oM,(),?_⟩⟩;rw[hs]
  (repeat'(first|exact trivial|exact rfl|apply And.intro))
def yJx:sfindC.ok Tryz.prog 114:=okw mixed (gokc zXr gok0) 0 (λ_=>[]) (λ_=>[]) [0] Tryz.func114 yUk
def zTa (id:Int) (U:List Int):∀p∈zU U,like (ak ag id) p.1=ao:=by
 intro p hp;obtain⟨k,_,rfl⟩:=y7f.1 hp;rfl
def zRk (id:Int):∀U:List Int,uZ (ak ag id) [D.v (.bool ao)] (zU U)=zU (zQr U id)
 |[]=>rfl
 |k::U=>by
  have ih:=zRk id U;have e:bY (ak ag id) (ak ag k)=decide (id=k):=by simp[bY,keq]
  show(bif bY (ak ag id) (ak ag k)then(ak ag k,[D.v (.bool ao)])::zU U else(ak ag k,[D.v (.bool ao)])::uZ (ak ag id) [D.v (.bool ao)] (zU U))=_;rw[e,ih];by_cases c:id=k
  ·rw[y6k c,cond_true,zQr,y5v (by rw[c];exact y5z)];rfl
  ·rw[y6g c,cond_false,zQr,zQr];have hm:id∈k::U↔id∈U:=by simp[c]
   by_cases d:id∈U
   ·rw[y5v d,y5v (hm.2 d)];rfl
   ·rw[y5t d,y5t (λx=>d (hm.1 x))];rfl
def zRc (id:Int):∀U:List Int,kQ (ak ag id) (zU U)=if id∈U then some [D.v (.bool ao)]else none
 |[]=>rfl
 |k::U=>by
  have ih:=zRc id U;have e:bY (ak ag id) (ak ag k)=decide (id=k):=by simp[bY,keq]
  show(bif bY (ak ag id) (ak ag k)then some [D.v (.bool ao)]else kQ (ak ag id) (zU U))=_;rw[e,ih];by_cases c:id=k
  ·rw[y6k c,cond_true,y5v (by rw[c];exact y5z)]
  ·rw[y6g c,cond_false];have hm:id∈k::U↔id∈U:=by simp[c]
   by_cases d:id∈U
   ·rw[y5v d,y5v (hm.2 d)]
   ·rw[y5t d,y5t (λx=>d (hm.1 x))]
def yHk (id:Int) (U:List Int):kQ (ak ag id) (zU U)=some [D.v (.bool (decide (id∈U)))]/\decide (id∈U)=ao\/kQ (ak ag id) (zU U)=none/\[D.v (.bool (decide (id∈U)))]=[D.v (.bool ap)]/\decide (id∈U)=ap:=by
 rw[zRc];by_cases c:id∈U
 ·rw[y5v c,y6k c];exact .inl ⟨rfl,rfl⟩
 ·rw[y5t c,y6g c];exact .inr ⟨rfl,rfl,rfl⟩
def zUz {p:Prd} {inst:Int} {sd:Bool} {price:Int}:∀(m:Nat) (q:Int) (B:List (List zI)),q.toNat<=m->BWf p B->0<=inst/\inst<B.length->
 (∀t∈(wN p B inst sd price q).steps,SOk t/\1<=t.qty)/\((wN p B inst sd price q).steps.map (·.qty)).sum=q-(wN p B inst sd price q).left
 |m,q,B,hm,h,hi=>by
  by_cases hq:q<=0
  ·rw[lV (.inl hq)];exact⟨λt ht=>(by cases ht),by simp⟩
  cases hs:aP p B inst sd price q with
  |none=>rw[lV (.inr hs)];exact⟨λt ht=>(by cases ht),by simp⟩
  |some x=>
   obtain⟨t,C⟩:=x;obtain⟨k1,k2⟩:=zRp h hs;have hq2:=zOp oM hs;cases m with
   |zero=>omega
   |succ m=>
   obtain⟨i1,i2⟩:=zUz (p:=p) (inst:=inst) (sd:=sd) (price:=price) m (q-t.qty) C oM k1 (by rw[k2];exact hi);rw[zNo (by omega) hs];refine⟨λu hu=> ?_,?_⟩
   ·rcases y6o.1 hu with rfl|hu
    ·exact⟨yPi h hi hs,hq2.1⟩
    ·exact i1 u hu
   ·dsimp only;rw[y6i,y7j,i2];omega
def yQp {α:Type} {f:α->List Rep} (hf:∀x,(f x).length<=3):∀l:List α,(l.flatMap f).length<=3*l.length
 |[]=>y6p _
 |x::l=>by
  have:=yQp hf l;have:=hf x;rw[y7o,y5s,y5y];omega
def zTc (p:Prd) (c:Cmd) (x:j7) (left:Int):(nC p c x left).length<=3*x.fills.length+3:=by
 rw[nC,y5s];have:=yQp (λf=>zOt p x (zEq f)) x.fills;have:=zOt p x ⟨3,c.id,c.inst,c.side,x.price,x.qty,left,0⟩;omega
def zUt {l:List j7} (h:∀t∈l,SOk t/\1<=t.qty):(l.length:Int)<=(l.map (·.qty)).sum:=by
 induction l with
 |nil=>exact y9h _
 |cons t l ih=>
  have:=ih λu hu=>h u (y6b _ hu)
  have:=(h t y5z).2;rw[y6i,y7j,y5y];omega
def yUy (i:EnI) (h:enterC.cnd i):yHr i:=by
 obtain⟨m,p,B,U,c,X⟩:=i;have h':(m.Rep p B U/\BOk p B)/\((0<=c.inst/\c.inst<B.length)/\(1<=c.qty/\c.qty<=1000000)/\(c.side=1\/c.side=2))/\p.price c.inst c.price=0/\X=bI p B U c:=h;clear h;obtain⟨⟨⟨ep,hR,eu⟩,hB⟩,⟨⟨h0,h1⟩,hq,hs⟩,hpz,hX⟩:=h';subst ep eu hX;have hwf:=hR.wf hB;obtain⟨k1,k2,k3⟩:=rG (inst:=c.inst) (sd:=decide (c.side=2)) (price:=c.price) _ c.qty B (y6p _) hwf;have k3:=k3 oM;obtain⟨s1,s2⟩:=zUz (inst:=c.inst) (sd:=decide (c.side=2)) (price:=c.price) _ c.qty B (y6p _) hwf ⟨h0,h1⟩;have hX:=zBe m.p B m.used c;have hbd:=lD hB.pc hpz;unfold yHr qT v7 zCp dI;dsimp only;rw[zRk,hX];refine⟨zTa _ _,⟨m.s,m.p,B,c.inst,decide (c.side=2),c.price,c.qty⟩,rfl,fK hs,rfl,rfl,rfl,⟨hR,hB,⟨h0,h1⟩,hq.1,hq.2⟩,λo ho=> ?_⟩;have er:RunI.r ⟨m.s,m.p,B,c.inst,decide (c.side=2),c.price,c.qty⟩=wN m.p B c.inst (decide (c.side=2)) c.price c.qty:=rfl;rw[er]at ho ⊢;clear hX er;generalize wN m.p B c.inst (decide (c.side=2)) c.price c.qty=R at*;obtain⟨ts,lf,RB⟩:=R;dsimp only at*;have hlen:=zUt s1;have e4:(ts.map wI).length=ts.length:=y5u ..;refine⟨⟨c.qty,0,[⟨1,c.id,c.inst,c.side,c.price,c.qty,c.qty,0⟩]⟩,rfl,rfl,rfl,λj=>j.k<=ts.length/\j.left=lf+((ts.drop j.k).map (·.qty)).sum/\(⟨1,c.id,c.inst,c.side,c.price,c.qty,c.qty,0⟩::aR m.p c ts c.qty)=j.out++aR m.p c (ts.drop j.k) j.left/\j.out.length<=1+1503*j.k,λj=>ts.length-j.k,⟨y6z _,by dsimp only;rw[y9i,s2];omega,rfl,y6p _⟩,?_⟩
 rintro⟨left,k,out⟩ ⟨j1,j2,j3,j4⟩;dsimp only at j1 j2 j3 j4 ⊢;have e5:(out.map xV).length=out.length:=y5u ..;refine zH (λc1=> ?_) (λc1=> ?_)
 ·obtain⟨t,ht⟩:=yA (l:=ts) (i:=k) oM;have hd:ts.drop k=t::ts.drop (k+1):=by rw[y8b (by omega),(y5x.1 ht).2]
  obtain⟨⟨t1,t2,t3⟩,t4⟩:=s1 t (y6e ht);have hsd:=zUt (l:=ts.drop (k+1)) λu hu=>s1 u (y9o hu)
  have hsk:((ts.drop k).map (·.qty)).sum<=(ts.map (·.qty)).sum:=by
   have:=zUt (l:=ts.take k) λu hu=>s1 u (xAn hu)
   have e:(ts.map (·.qty)).sum=((ts.take k).map (·.qty)).sum+((ts.drop k).map (·.qty)).sum:=by
    rw[<- xBx,<- y6d,y8a]
   omega
  rw[hd,y6i,y7j]at j2 hsk;rw[hd,aR]at j3;have hrl:=zTc m.p c t (left-t.qty);have e6:((nC m.p c t (left-t.qty)).map xV).length=(nC m.p c t (left-t.qty)).length:=y5u ..;have hw:ag.wrap (left-t.qty)=left-t.qty:=w64 oM;refine⟨⟨oM,oM⟩,t.price,t.qty,t.implied,t.fills.map yX,elA ht (by simp[wI]) rfl,?_⟩;rw[hw];refine⟨⟨⟨m.p,o,zQr m.used c.id⟩,c,t,left-t.qty⟩,rF8 (rF8 (rF7 (rF3 ⟨rfl,⟨⟨hB.pc,hB.ps⟩,⟨Z9,Z9⟩,Z9,hs,λf hf=>(t2 f hf).1⟩,λ_ _=>⟨by dsimp only;rw[e5,e6];omega,⟨left-t.qty,k+1,out++nC m.p c t (left-t.qty)⟩,rfl,wjn oM,by dsimp only;rw[y6d],⟨Z9,Z9,by dsimp only;rw[j3,y6a],by dsimp only;rw[y5s];omega⟩,Z9,k0q⟩⟩)))⟩
 have hk:k=ts.length:=by omega
 subst hk;rw[List.drop_of_length_le (y6p _)]at j2 j3;rw[aR,y6r]at j3;rw[<- j3];rw[<- j3]at e5 j4;have hRB:=k1.ok;refine Cv.cnd.mk (λe=> ?_) (λe=>Cv.cnd.mk (λe2=> ?_) (λe2=> ?_))
 ·have e:lf=0:=by simpa using e
  rw[y5t (by omega),y5t (by omega),y6r];exact⟨⟨m.p,o,zQr m.used c.id⟩,rF8 (rF6 ⟨rfl,ho,rfl⟩)⟩
 ·have e:¬lf=0:=by simpa using e
  have e2:c.time=1:=by simpa using e2
  rw[y5t (show ¬(lf≠0/\c.time≠1)by omega),y5v (show lf≠0/\c.time=1 from⟨e,e2⟩),y6r];have ha:=(ho.add c.inst c.id (decide (c.side=2)) c.price lf).1;rw[fK hs]at ha;exact⟨⟨o,c.inst,c.id,decide (c.side=2),c.price,lf⟩,rfl,rfl,fK hs,rfl,rfl,rfl,ho.fit hRB,λ_ _=>⟨⟨m.p,(MSt.addF ⟨o,c.inst,c.id,decide (c.side=2),c.price,lf⟩).1,zQr m.used c.id⟩,rF8 (rF6 ⟨rfl,ha,rfl⟩)⟩⟩
 ·have e:¬lf=0:=by simpa using e
  have e2:¬c.time=1:=by simpa using e2
  rw[y5v (show lf≠0/\c.time≠1 from⟨e,e2⟩),y5t (show ¬(lf≠0/\c.time=1)by omega)];exact⟨by rw[e5];omega,⟨m.p,o,zQr m.used c.id⟩,rF8 (rF4 ⟨rfl,by rw[y6d];rfl,rfl,ho,rfl⟩)⟩
def zYn:enterC.ok Tryz.prog 169:=okw mixed (gokc z4k (gokc yIh (gokc yNv gok0))) 0 (λ_=>[]) (λi=>yWh i) [] Tryz.func169 yUy
def zTb:cancelC.ok Tryz.prog 116:=okw (V:=yNy) mixed (gokc zFw gok0) 0 (λ_=>[]) (λ_=>[]) [] Tryz.func116 λ(i:CaI) h=>by
 obtain⟨m,p,B,U,id,q,inst,o,X⟩:=i;have h':(m.Rep p B U/\BOk p B)/\X=uU B U id inst o:=h;clear h;obtain⟨⟨⟨ep,hR,eu⟩,hB⟩,hX⟩:=h';subst ep eu hX;have:=xU m.p;have:=hB.bl;exact⟨⟨m.s,m.p,B,id,o.qty⟩,rfl,rfl,rfl,⟨hR,Z9⟩,λo' ho=>⟨⟨m.p,o',m.used⟩,rF8 (rF6 ⟨rfl,ho,rfl⟩)⟩⟩
def zSf:reduceC.ok Tryz.prog 117:=okw (V:=z7k) mixed (gokc zFw gok0) 0 (λ_=>[]) (λ_=>[]) [] Tryz.func117 λ(i:CaI) h=>by
 obtain⟨m,p,B,U,id,q,inst,o,X⟩:=i;have h':(m.Rep p B U/\BOk p B)/\yY (o.qty-q)/\X=bP B U id q inst o:=h;clear h;obtain⟨⟨⟨ep,hR,eu⟩,hB⟩,hw,hX⟩:=h';subst ep eu hX;have:=xU m.p;have:=hB.bl;have hw:=w64 hw;unfold z7k dI;dsimp only;rw[hw];exact⟨⟨m.s,m.p,B,id,q⟩,rfl,rfl,rfl,⟨hR,Z9⟩,λo' ho=>⟨⟨m.p,o',m.used⟩,rF8 (rF6 ⟨rfl,ho,rfl⟩)⟩⟩
def zTm {c:Cmd} (h:c.right=0):(if c.kind=1 then c.orderE else if c.kind≠2/\jF c.qty=ap then 24 else if c.kind=4/\uJ c.price=ap then 23 else 0)=0:=by
 rw[Cmd.right]at h;by_cases c1:c.kind<1\/4<c.kind
 ·rw[y5v c1]at h;cases h
 rw[y5t c1]at h;by_cases c2:c.id<1\/1099511627776<c.id
 ·rw[y5v c2]at h;cases h
 rw[y5t c2]at h;exact h
def zRt {c:Cmd} (h:c.right=0) (hk:c.kind=1):(c.side=1\/c.side=2)/\(1<=c.qty/\c.qty<=1000000)/\(0<=c.least/\c.least<=c.qty):=by
 have h:=zTm h;rw[y5v hk,Cmd.orderE]at h;by_cases c1:c.side≠1/\c.side≠2
 ·rw[y5v c1]at h;cases h
 rw[y5t c1]at h;by_cases c2:c.time<1\/3<c.time
 ·rw[y5v c2]at h;cases h
 rw[y5t c2]at h;cases c3:jF c.qty with
 |false=>rw[y5v c3]at h;cases h
 |true=>
  rw[y5t (by rw[c3];decide)]at h;by_cases c4:c.least<0\/c.qty<c.least
  ·rw[y5v c4]at h;cases h
  simp only[jF,y6h,y7i]at c3;exact⟨oM,c3,oM⟩
def zHl {c:Cmd} (h:c.right=0) (hk:¬c.kind=1) (hk2:¬c.kind=2):1<=c.qty/\c.qty<=1000000:=by
 have h:=zTm h;rw[y5t hk]at h;cases c3:jF c.qty with
 |false=>rw[y5v ⟨hk2,c3⟩]at h;cases h
 |true=>
  simp only[jF,y6h,y7i]at c3;exact c3
def yUt (i:EnI) (h:orderC.cnd i):yHa i:=by
 obtain⟨m,p,B,U,c,X⟩:=i;have h':(m.Rep p B U/\BOk p B)/\c.right=0/\c.kind=1/\X=nN p B U c:=h;clear h;obtain⟨⟨hM,hB⟩,hr,hkd,hX⟩:=h';obtain⟨ep,hR,eu⟩:=hM;subst ep eu;have hM:m.Rep m.p B m.used:=⟨rfl,hR,rfl⟩
 obtain⟨hs,hq,hl⟩:=zRt hr hkd;have hbl:=hB.bl;have hcl:=xU m.p;unfold yHa qT zIk zJf sP sH sZ zDl zDp zDi zDu v7 qD dI;dsimp only;refine⟨⟨m.p,c.inst,c.price⟩,rF8 (rF4 ⟨rfl,hB.ps,λ_ _=>Cv.cnd.mk (λe=> ?_) (λe=> ?_)⟩)⟩
 ·have e:m.p.price c.inst c.price≠0:=by simpa using e
  have hx:X=⟨B,m.used,nQ c (m.p.price c.inst c.price)⟩:=by rw[hX,nN,y5v e]
  exact⟨⟨c,m.p.price c.inst c.price⟩,rF6 (rF3 ⟨rfl,trivial,λ_ _=>⟨m,rF8 (rF4 ⟨rfl,by rw[hx];rfl,by rw[hx];exact hM⟩)⟩⟩)⟩
 have hpz:m.p.price c.inst c.price=0:=by simpa using e
 have hin:=zMp hpz;have hib:0<=c.inst/\c.inst<B.length:=by omega
 rw[nN,y5t (by rw[hpz];decide)]at hX;refine⟨0,λl=>l=c.lst,Cv.cnd.mk (λe=>⟨c.qty,rfl,by rw[Cmd.lst,y5v (by simpa using e)],k0q⟩) (λe=>⟨c.least,rfl,by rw[Cmd.lst,y5t (by simpa using e)],k0q⟩),?_⟩;rintro _ rfl;refine⟨zTa _ _,_,_,yHk _ _,zH (λe=> ?_) (λe=> ?_)⟩
 ·have hx:X=⟨B,m.used,nQ c 25⟩:=by rw[hX,y5v e]
  exact⟨⟨c,25⟩,rF6 (rF3 ⟨rfl,trivial,λ_ _=>⟨m,rF8 (rF4 ⟨rfl,by rw[hx];rfl,by rw[hx];exact hM⟩)⟩⟩)⟩
 rw[y5t e]at hX;refine⟨⟨m.s,m.p,B,0,ap⟩,rfl,⟨hR,Z9⟩,λ_ _=>zH (λe=> ?_) (λe=> ?_)⟩
 ·have hx:X=⟨B,m.used,nQ c 13⟩:=by rw[hX,y5v (by dsimp only at e;omega)]
  exact⟨⟨c,13⟩,rF6 (rF3 ⟨rfl,trivial,λ_ _=>⟨m,rF8 (rF4 ⟨rfl,by rw[hx];rfl,by rw[hx];exact hM⟩)⟩⟩)⟩
 rw[y5t (by dsimp only at e;omega)]at hX;have hok:RunI.ok ⟨m.s,m.p,B,c.inst,decide (c.side=2),c.price,c.qty⟩:=⟨hR,hB,hib,hq.1,hq.2⟩
 refine⟨ao,λb=>b=decide (0<c.lst/\c.qty-(wN m.p B c.inst (decide (c.side=2)) c.price c.qty).left<c.lst),zH (λe=>⟨⟨m.s,m.p,B,c.inst,decide (c.side=2),c.price,c.qty⟩,rfl,fK hs,rfl,rfl,rfl,hok,λ_ _=>⟨_,rfl,decide_eq_decide.2 ⟨λx=>⟨e,x⟩,λx=>x.2⟩,k0q⟩⟩) (λe=>⟨ap,rfl,(y6g λx=>e x.1).symm,k0q⟩),?_⟩;rintro _ rfl;refine zH (λe=> ?_) (λe=> ?_)
 ·have hx:X=⟨B,m.used,nQ c 28⟩:=by rw[hX,y5v e]
  exact⟨⟨c,28⟩,rF6 (rF3 ⟨rfl,trivial,λ_ _=>⟨m,rF8 (rF4 ⟨rfl,by rw[hx];rfl,by rw[hx];exact hM⟩)⟩⟩)⟩
 rw[y5t e]at hX;refine⟨ao,λb=>b=decide (c.time=1/\mR m.p B c.inst (decide (c.side=2)) c.price c.qty=ao),Cv.cnd.mk (λe=>⟨⟨m.s,m.p,B,c.inst,decide (c.side=2),c.price,c.qty⟩,rfl,fK hs,rfl,rfl,rfl,hok,λ_ _=>⟨_,rfl,?_,k0q⟩⟩) (λe=>⟨ap,rfl,(y6g λx=> ?_).symm,k0q⟩),?_⟩
 ·have e:c.time=1:=by simpa using e
  dsimp only;cases hb:mR m.p B c.inst (decide (c.side=2)) c.price c.qty with
  |true=>exact(y6k ⟨e,rfl⟩).symm
  |false=>exact(y6g λx=>by cases x.2).symm
 ·rw[x.1]at e;cases e
 rintro _ rfl;refine zH (λe=> ?_) (λe=> ?_)
 ·have hx:X=⟨B,m.used,nQ c 23⟩:=by rw[hX,y5v e]
  exact⟨⟨c,23⟩,rF6 (rF3 ⟨rfl,trivial,λ_ _=>⟨m,rF8 (rF4 ⟨rfl,by rw[hx];rfl,by rw[hx];exact hM⟩)⟩⟩)⟩
 rw[y5t e]at hX;exact⟨⟨m,m.p,B,m.used,c,X⟩,rF8 (rF8 (rF5 ⟨rfl,⟨⟨hM,hB⟩,⟨hib,hq,hs⟩,hpz,hX⟩,λo ho=>⟨o,rF8 (rF6 ho)⟩⟩))⟩
def yHu:orderC.ok Tryz.prog 113:=okw mixed (gokc eN (gokc z3i (gokc z4s (gokc yBq (gokc zYt (gokc zYn gok0)))))) 0 (λ_=>yYa) (λ_=>[]) [] Tryz.func113 yUt
def zWh {p:Prd} {B:List (List zI)} (h:BWf p B) {id inst:Int} {o:zI} (hf:zZ B id=(inst,o,ao)):(0<=inst/\inst<B.length)/\zQb o:=by
 rw[zZ]at hf;split at hf
 ·cases hf
 ·rename_i k hk;obtain⟨L,hL,hh⟩:=gZ hk;rw[zT hL]at hf;cases hf;have hlt:=(y5x.1 hL).1;obtain⟨o,ho,e⟩:=y7f.1 (hasId_iff.1 hh);have hg:=sN (h.od k L hL).2.1 ho;rw[e]at hg;rw[hg];exact⟨oM,(h.od k L hL).1 o ho⟩
def zNy (p:Prd) (c:Cmd):∀(l:List j7) (left:Int),(∀t∈l,SOk t/\1<=t.qty)->(aR p c l left).length<=1503*l.length
 |[],_,_=>y6p _
 |t::l,left,h=>by
  have a:=zNy p c l (left-t.qty) λu hu=>h u (y6b _ hu)
  have b:=zTc p c t (left-t.qty);have d:=(h t y5z).1.2.2;rw[aR,y5s,y5y];omega
def zCr {p:Prd} {B:List (List zI)} (h:BWf p B) (U:List Int) {c:Cmd} (hi:0<=c.inst/\c.inst<B.length) (hq:1<=c.qty/\c.qty<=1000000):(bI p B U c).R.length<=1503000002:=by
 obtain⟨s1,s2⟩:=zUz (inst:=c.inst) (sd:=decide (c.side=2)) (price:=c.price) _ c.qty B (y6p _) h hi;have k3:=(rG (inst:=c.inst) (sd:=decide (c.side=2)) (price:=c.price) _ c.qty B (y6p _) h).2.2 oM;have:=zUt s1;have:=zNy p c _ c.qty s1;rw[zBe];dsimp only;rw[y5s,y5y];split
 ·rw[y5y,y7n];omega
 ·rw[y7n];omega
def yDu (i:yAx) (h:replaceC.cnd i):zZf i:=by
 obtain⟨m,p,B,U,c,inst,o,X⟩:=i;have h':m.Rep p B U/\BOk p B/\zZ B c.id=(inst,o,ao)/\(1<=c.qty/\c.qty<=1000000)/\X=f8 p B U c inst o:=h;clear h;obtain⟨hM,hB,hf,hq,hX⟩:=h';obtain⟨ep,hR,eu⟩:=hM;subst ep eu;have hM:m.Rep m.p B m.used:=⟨rfl,hR,rfl⟩
 have hwf:=hR.wf hB;obtain⟨hin,hoo⟩:=zWh hwf hf;have hos:=hoo.s;have hoq:=hoo.q;have hbl:=hB.bl;have hcl:=xU m.p;unfold zZf zCk qT fC sP bM tP qD;dsimp only;refine⟨⟨m.p,inst,c.price⟩,rF8 (rF4 ⟨rfl,hB.ps,λ_ _=>Cv.cnd.mk (λe=> ?_) (λe=> ?_)⟩)⟩
 ·have e:m.p.price inst c.price≠0:=by simpa using e
  have hx:X=⟨B,m.used,nQ c (m.p.price inst c.price)⟩:=by rw[hX,f8,y5v e]
  exact⟨⟨c,m.p.price inst c.price⟩,rF6 (rF3 ⟨rfl,trivial,λ_ _=>⟨m,rF8 (rF4 ⟨rfl,by rw[hx];rfl,by rw[hx];exact hM⟩)⟩⟩)⟩
 have hpz:m.p.price inst c.price=0:=by simpa using e
 rw[f8,y5t (by rw[hpz];decide)]at hX;have hw:ag.wrap (o.qty-c.qty)=o.qty-c.qty:=w64 oM;rw[hw];refine(λhT=>Cv.cnd.mk (λe1=>zH (λe2=> ?_) (λe2=>hT λx=>e2 x.2)) (λe1=>hT λx=>by rw[x.1]at e1;simp at e1)) (λ(hn:¬(c.price=o.price/\c.qty<=o.qty))=> ?_)
 ·have e1:c.price=o.price:=by simpa using e1
  rw[y5v ⟨e1,e2⟩]at hX;exact⟨⟨m,m.p,B,m.used,c.id,o.qty-c.qty,inst,o,X⟩,rF8 (rF8 (rF4 ⟨rfl,⟨⟨hM,hB⟩,⟨Z9,Z9⟩,hX⟩,λo' ho=>⟨o',rF8 (rF6 ho)⟩⟩))⟩
 rw[y5t hn]at hX;have hBt:=hB.take c.id o.qty;refine⟨m.s,rfl,hR.small hB,λ_ _=>⟨⟨m.s,m.p,B,c.id,o.qty⟩,rfl,rfl,rfl,⟨hR,Z9⟩,λo' ho'=>⟨⟨o',m.p,(kO B c.id o.qty).1,inst,decide (o.side=2),c.price,c.qty⟩,rfl,fK hos,rfl,rfl,rfl,⟨ho',hBt,by dsimp only;rw[rD];exact hin,hq.1,hq.2⟩,λ_ _=>Cv.cnd.mk (λe=> ?_) (λe=> ?_)⟩⟩⟩
 ·have hx:X=⟨B,m.used,nQ c 23⟩:=by rw[hX,y5v e]
  exact⟨⟨c,23⟩,rF6 (rF3 ⟨rfl,trivial,λ_ _=>⟨m,rF8 (rF4 ⟨rfl,by rw[hx];rfl,by rw[hx];exact hM⟩)⟩⟩)⟩
 rw[y5t (by rw[e];decide)]at hX;refine⟨⟨m,m.p,B,m.used,c.id,0,inst,o,uU B m.used c.id inst o⟩,rF8 (rF8 (rF3 ⟨rfl,⟨⟨hM,hB⟩,rfl⟩,λo1 ho1=>⟨⟨o1,m.p,(kO B c.id o.qty).1,m.used,⟨1,c.id,inst,o.side,c.price,c.qty,0,1,[]⟩,bI m.p (kO B c.id o.qty).1 m.used ⟨1,c.id,inst,o.side,c.price,c.qty,0,1,[]⟩⟩,rF8 (rF8 (rF5 ⟨rfl,⟨⟨ho1,hBt⟩,⟨by dsimp only;rw[rD];exact hin,hq,hos⟩,hpz,rfl⟩,λo2 ho2=>⟨?_,o2,rfl,rfl,rfl,rfl,rfl,rfl,rfl,rfl,rfl,rfl,rfl,rfl,rfl,?_,?_⟩⟩))⟩⟩))⟩
 ·have:=zCr (hwf.take c.id o.qty) m.used (c:=⟨1,c.id,inst,o.side,c.price,c.qty,0,1,[]⟩) (by dsimp only;rw[rD];exact hin) hq;dsimp only;rw[y5u,y5u];have e1:(uU B m.used c.id inst o).R.length=1:=rfl;omega
 ·rw[hX,<- y6d];rfl
 ·rw[hX];exact ho2
def z2r:replaceC.ok Tryz.prog 115:=okw mixed (gokc eN (gokc z3i (gokc zFd (gokc zFw (gokc zYt (gokc zTb (gokc zSf (gokc zYn gok0)))))))) 0 (λ_=>[]) (λ_=>[]) [] Tryz.func115 yDu
def vdo (i:EnI) (h:doC.cnd i):Vdo i:=by
 obtain⟨m,p,B,U,c,X⟩:=i;have h':(m.Rep p B U/\BOk p B)/\c.label.length<=140737488355328/\yY c.qty/\X=doF p B U c:=h;clear h;obtain⟨⟨hM,hB⟩,hlb,hqr,hX⟩:=h';obtain⟨ep,hR,eu⟩:=hM;subst ep eu;have hM:m.Rep m.p B m.used:=⟨rfl,hR,rfl⟩
 have hwf:=hR.wf hB;have hbl:=hB.bl;have hcl:=xU m.p;unfold Vdo sH yJv bM z4d zUp zUw;dsimp only;refine⟨c,rF8 ⟨rfl,hlb,λ_ _=>Cv.cnd.mk (λe=> ?_) (λe=> ?_)⟩⟩
 ·have e:c.right≠0:=by simpa using e
  have hx:X=⟨B,m.used,nQ c c.right⟩:=by rw[hX,doF,y5v e]
  exact⟨⟨c,c.right⟩,rF6 (rF3 ⟨rfl,trivial,λ_ _=>⟨m,rF8 (rF4 ⟨rfl,by rw[hx];rfl,by rw[hx];exact hM⟩)⟩⟩)⟩
 have hr:c.right=0:=by simpa using e
 rw[doF,y5t (by rw[hr];decide)]at hX;refine Cv.cnd.mk (λe=> ?_) (λe=> ?_)
 ·have e:c.kind=1:=by simpa using e
  rw[y5v e]at hX;exact⟨⟨m,m.p,B,m.used,c,X⟩,rF8 (rF8 (rF5 ⟨rfl,⟨⟨hM,hB⟩,hr,e,hX⟩,λo ho=>⟨o,rF8 (rF6 ho)⟩⟩))⟩
 have hk:¬c.kind=1:=by simpa using e
 rw[y5t hk]at hX;refine(λhT=>⟨hT,rfl,trivial,hT⟩) ?_;refine⟨⟨m.s,m.p,B,c.id,0⟩,rfl,rfl,⟨hR,Z9⟩,λ_ _=>Cv.cnd.mk (λe=> ?_) (λe=> ?_)⟩
 ·have e:(zZ B c.id).2.2=ap:=by simpa using e
  have hx:X=⟨B,m.used,nQ c 26⟩:=by rw[hX,y5v e]
  exact⟨⟨c,26⟩,rF6 (rF3 ⟨rfl,trivial,λ_ _=>⟨m,rF8 (rF4 ⟨rfl,by rw[hx];rfl,by rw[hx];exact hM⟩)⟩⟩)⟩
 have e:(zZ B c.id).2.2=ao:=by simpa using e
 rw[y5t (by rw[e];decide)]at hX;dsimp only;have hf:zZ B c.id=((zZ B c.id).1,(zZ B c.id).2.1,ao):=by rw[<- e]
 generalize (zZ B c.id).1=inst at*;generalize (zZ B c.id).2.1=o at*;obtain⟨hin,hoo⟩:=zWh hwf hf;have hoq:=hoo.q;refine Cv.cnd.mk (λe4=> ?_) (λe4=>Cv.cnd.mk (λe2=> ?_) (λe2=>zH (λe3=> ?_) (λe3=> ?_)))
 ·have e4:c.kind=4:=by simpa using e4
  rw[y5v e4]at hX;exact⟨⟨m,m.p,B,m.used,c,inst,o,X⟩,rF8 (rF8 (rF8 (rF3 ⟨rfl,⟨hM,hB,hf,zHl hr hk (by rw[e4];decide),hX⟩,λo' ho=>⟨o',rF8 (rF6 ho)⟩⟩)))⟩
 all_goals
  have e4:¬c.kind=4:=by simpa using e4
  rw[y5t e4]at hX
 ·have e2:c.kind=2:=by simpa using e2
  rw[y5v (.inl e2)]at hX;exact⟨⟨m,m.p,B,m.used,c.id,0,inst,o,X⟩,rF8 (rF8 (rF3 ⟨rfl,⟨⟨hM,hB⟩,hX⟩,λo' ho=>⟨o',rF8 (rF6 ho)⟩⟩))⟩
 ·rw[y5v (.inr (by omega))]at hX;exact⟨⟨m,m.p,B,m.used,c.id,0,inst,o,X⟩,rF8 (rF8 (rF3 ⟨rfl,⟨⟨hM,hB⟩,hX⟩,λo' ho=>⟨o',rF8 (rF6 ho)⟩⟩))⟩
 ·have e2:¬c.kind=2:=by simpa using e2
  have hq:=zHl hr hk e2;rw[y5t (by omega)]at hX;exact⟨⟨m,m.p,B,m.used,c.id,c.qty,inst,o,X⟩,rF8 (rF8 (rF4 ⟨rfl,⟨⟨hM,hB⟩,⟨Z9,Z9⟩,hX⟩,λo' ho=>⟨o',rF8 (rF6 ho)⟩⟩))⟩
def yZj:doC.ok Tryz.prog 50:=okw mixed (gokc zYy (gokc z3i (gokc yJx (gokc yHu (gokc z2r (gokc zTb (gokc zSf gok0))))))) 0 (λ_=>[]) (λ_=>[]) [0] Tryz.func50 vdo
end Sx
