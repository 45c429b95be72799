/- Texts of ours. No condition. -/
import Derived.Test.YtaafldgiafcgfaaGreatD10
set_option linter.all false
open Sx.AObj renaming fro->aa,cells->ab,objs->ac,map->ae,own->af
open Go.IntKind renaming i64->ag
open List renaming map->aj
open Go.Value renaming int->ak,string->am
open Bool renaming true->ao,false->ap
namespace Sx
set_option maxRecDepth 100000
open Go Cv Go.Proofs
def zAm (a:Mkt) (b:EnI) (c:EnJ):Prop:=zT a.used=vF (ak ag b.c.id) [D.v (.bool ao)] (zT b.m.used)/\aa 1 (iE a.p.months)=yS b.m 3/\aa 1 (iE a.p.settle)=yS b.m 4/\aj xJ b.X.R=aj xJ c.out/\a.Rep b.p b.X.B b.X.U
def wR (a:EnI):=(D.v (am (sb a.c.label)))
def yEq (i:EnI):Prop:=
 (∀(a:Value×List D),a∈zT i.m.used->like (ak ag i.c.id) a.fst=ao)/\∃(a:RunI),a.inst=i.c.inst/\zC a.sd=i.c.side/\a.price=i.c.price/\a.q=i.c.qty/\zD a.s=yS i.m 1/\(x7 a)/\∀(b:MSt),b.Rep a.p a.r.B->∃(c:EnJ),c.left=i.c.qty/\(↑c.k:Int)=0/\aj xJ c.out=[[dI 1,dI i.c.id,dI i.c.inst,dI i.c.side,dI i.c.price,dI i.c.qty,dI i.c.qty,dI 0]]/\∃(d:EnJ->Prop),∃(e:EnJ->Nat),d c/\∀(f:EnJ),d f->cnd (decide ((↑f.k:Int)<(↑(aj jN a.r.steps).length:Int))) ((0<=(↑f.k:Int)/\(↑f.k:Int)<(↑(aj jN a.r.steps).length:Int))/\∃(g:Int),∃(h:Int),∃(j:Bool),∃(k:List (List D)),zE (aj jN a.r.steps) (↑f.k:Int).toNat 0 4=some [dI g,dI h,D.v (.bool j),D.ro 6 k]/\∃(l:StI'),l.c.kind=i.c.kind/\l.c.id=i.c.id/\l.c.inst=i.c.inst/\l.c.side=i.c.side/\l.c.price=i.c.price/\l.c.qty=i.c.qty/\l.c.least=i.c.least/\l.c.time=i.c.time/\sb l.c.label=sb i.c.label/\l.x.price=g/\l.x.qty=h/\l.x.implied=j/\aj yR l.x.fills=k/\l.left=ag.wrap (f.left-h)/\sb l.m.p.code=sb i.m.p.code/\l.m.p.tick=i.m.p.tick/\l.m.p.low=i.m.p.low/\l.m.p.high=i.m.p.high/\l.m.p.wide=i.m.p.wide/\l.m.p.rule=i.m.p.rule/\l.m.p.top=i.m.p.top/\l.m.p.least=i.m.p.least/\l.m.p.part=i.m.p.part/\zD l.m.s=zD b/\zT l.m.used=vF (ak ag i.c.id) [D.v (.bool ao)] (zT i.m.used)/\aa 1 (iE l.m.p.months)=yS i.m 3/\aa 1 (iE l.m.p.settle)=yS i.m 4/\((l.m.p.check=0/\l.m.p.code.length<=1099511627776/\l.m.p.months.length<=1099511627776/\l.m.p.settle.length<=1099511627776)/\((-9223372036854775808)<=l.x.price/\l.x.price<=9223372036854775807)/\l.x.fills.length<=1000000/\(l.c.side=1\/l.c.side=2)/\∀(m:dF),m∈l.x.fills->m.side=1\/m.side=2)/\∀(m:Unit),True->((aj xJ f.out).length+(aj xJ (nN l.m.p l.c l.x l.left)).length)*(64:Nat)<=(140737488355328:Nat)/\∃(n:EnJ),n.left=ag.wrap (f.left-h)/\(↑n.k:Int)=ag.wrap ((↑f.k:Int)+1)/\aj xJ n.out=aj xJ f.out++aj xJ (nN l.m.p l.c l.x l.left)/\d n/\e n<e f/\zD l.m.s=zD b/\da (af 290 4 (aj jN a.r.steps))/\da (ab [V.d (dI i.c.kind),V.d (dI i.c.id),V.d (dI i.c.inst),V.d (dI i.c.side),V.d (dI i.c.price),V.d (dI i.c.qty),V.d (dI i.c.least),V.d (dI i.c.time),V.d (wR i)] 44)/\ab [V.d (D.v (am (sb l.m.p.code))),V.own 3,V.d (dI l.m.p.tick),V.d (dI l.m.p.low),V.d (dI l.m.p.high),V.d (dI l.m.p.wide),V.d (dI l.m.p.rule),V.d (dI l.m.p.top),V.d (dI l.m.p.least),V.d (dI l.m.p.part),V.own 4,V.nm 1 0,V.mp 2] (114:TypeId)=yS i.m 0/\ae (zT l.m.used)=ae (vF (ak ag i.c.id) [D.v (.bool ao)] (zT i.m.used))/\aa 1 (iE l.m.p.months)=yS i.m 3/\aa 1 (iE l.m.p.settle)=yS i.m 4) (cnd (a.r.left==0) (∃(g:Mkt),sb g.p.code=sb i.m.p.code/\g.p.tick=i.m.p.tick/\g.p.low=i.m.p.low/\g.p.high=i.m.p.high/\g.p.wide=i.m.p.wide/\g.p.rule=i.m.p.rule/\g.p.top=i.m.p.top/\g.p.least=i.m.p.least/\g.p.part=i.m.p.part/\zD g.s=zD b/\zAm g i f) (cnd (i.c.time==1) (∃(g:SaI),g.inst=i.c.inst/\g.id=i.c.id/\zC g.sd=i.c.side/\g.price=i.c.price/\g.qty=a.r.left/\zD g.s=zD b/\((g.s.p.code.length<=1099511627776/\g.s.p.months.length<=1099511627776/\g.s.p.settle.length<=1099511627776)/\g.s.books.length<=1000000/\∀(h:Book),h∈g.s.books->(h.a.slots.length<=1000000/\(h.a.free≠0->∃(j:Slot),j∈h.a.slots/\j.used=ap)/\∀(j:dO),j∈h.a.queues->j.last=(-1)\/0<=j.last/\j.last<(↑h.a.slots.length:Int))/\h.a.queues.length<=100000/\h.buys.length<=100000/\h.sells.length<=100000/\h.spare.length<=100000)/\∀(h:Unit),True->∃(j:Mkt),sb j.p.code=sb i.m.p.code/\j.p.tick=i.m.p.tick/\j.p.low=i.m.p.low/\j.p.high=i.m.p.high/\j.p.wide=i.m.p.wide/\j.p.rule=i.m.p.rule/\j.p.top=i.m.p.top/\j.p.least=i.m.p.least/\j.p.part=i.m.p.part/\zD j.s=zD (MSt.addF g).fst/\zAm j i f) (((aj xJ f.out).length+1)*(64:Nat)<=(140737488355328:Nat)/\∃(g:Mkt),sb g.p.code=sb i.m.p.code/\g.p.tick=i.m.p.tick/\g.p.low=i.m.p.low/\g.p.high=i.m.p.high/\g.p.wide=i.m.p.wide/\g.p.rule=i.m.p.rule/\g.p.top=i.m.p.top/\g.p.least=i.m.p.least/\g.p.part=i.m.p.part/\zD g.s=zD b/\zT g.used=vF (ak ag i.c.id) [D.v (.bool ao)] (zT i.m.used)/\aa 1 (iE g.p.months)=yS i.m 3/\aa 1 (iE g.p.settle)=yS i.m 4/\aj xJ i.X.R=aj xJ f.out++[[dI 4,dI i.c.id,dI i.c.inst,dI i.c.side,dI i.c.price,dI a.r.left,dI 0,dI 0]]/\g.Rep i.p i.X.B i.X.U)))
def zGh (a:EnI):Prop:=ab [V.d (dI a.c.kind),V.d (dI a.c.id),V.d (dI a.c.inst),V.d (dI a.c.side),V.d (dI a.c.price),V.d (dI a.c.qty),V.d (dI a.c.least),V.d (dI a.c.time),V.d (wR a)] 44=ab [V.d (dI a.c.kind),V.d (dI a.c.id),V.d (dI a.c.inst),V.d (dI a.c.side),V.d (dI a.c.price),V.d (dI a.c.qty),V.d (dI a.c.least),V.d (dI a.c.time),V.d (wR a)] 44/\da (yS a.m 0)/\da (yS a.m 2)/\da (yS a.m 3)/\da (yS a.m 4)
def zFt (a:Bool->Prop) (b:SoI) (c:EnI):Prop:=∃(d:Bool),d=ap/\a d/\da (zD b.s)/\zGh c
def zFv (a:Int->Prop) (b:Int) (c:EnI):Prop:=a b/\da (ab [V.d (dI c.c.kind),V.d (dI c.c.id),V.d (dI c.c.inst),V.d (dI c.c.side),V.d (dI c.c.price),V.d (dI c.c.qty),V.d (dI c.c.least),V.d (dI c.c.time),V.d (wR c)] 44)/\da (yS c.m 0)/\da (yS c.m 1)/\da (yS c.m 2)/\da (yS c.m 3)/\da (yS c.m 4)
def zEj (a:Bool->Prop) (b:Bool) (c:RunI) (d:SoI) (e:EnI):Prop:=a b/\zD c.s=zD d.s/\zGh e
def zBu (a:Mkt) (b:EnI) (c:RjI):Prop:=zT a.used=zT b.m.used/\aa 1 (iE a.p.months)=yS b.m 3/\aa 1 (iE a.p.settle)=yS b.m 4/\aj xJ b.X.R=[xJ (Rep.mk 2 c.c.id 0 0 0 0 0 c.why)]/\a.Rep b.p b.X.B b.X.U
def zEu (a:EnI) (b:RjI):Prop:=True/\∀(c:Unit),True->∃(d:Mkt),sb d.p.code=sb a.m.p.code/\d.p.tick=a.m.p.tick/\d.p.low=a.m.p.low/\d.p.high=a.m.p.high/\d.p.wide=a.m.p.wide/\d.p.rule=a.m.p.rule/\d.p.top=a.m.p.top/\d.p.least=a.m.p.least/\d.p.part=a.m.p.part/\zD d.s=yS a.m 1/\zBu d a b
def lD (a:EnI) (b:SoI) (c:RjI):Prop:=True/\∀(d:Unit),True->∃(e:Mkt),sb e.p.code=sb a.m.p.code/\e.p.tick=a.m.p.tick/\e.p.low=a.m.p.low/\e.p.high=a.m.p.high/\e.p.wide=a.m.p.wide/\e.p.rule=a.m.p.rule/\e.p.top=a.m.p.top/\e.p.least=a.m.p.least/\e.p.part=a.m.p.part/\zD e.s=zD b.s/\zBu e a c
def nY (a:EnI) (b:EnI):Prop:=∀(c:Mkt),c.Rep a.p a.X.B a.X.U->∃(d:Mkt),sb d.p.code=sb c.p.code/\d.p.tick=c.p.tick/\d.p.low=c.p.low/\d.p.high=c.p.high/\d.p.wide=c.p.wide/\d.p.rule=c.p.rule/\d.p.top=c.p.top/\d.p.least=c.p.least/\d.p.part=c.p.part/\zD d.s=zD c.s/\zT d.used=zT c.used/\aa 1 (iE d.p.months)=aa 1 (iE c.p.months)/\aa 1 (iE d.p.settle)=aa 1 (iE c.p.settle)/\aj xJ b.X.R=aj xJ a.X.R/\d.Rep b.p b.X.B b.X.U
def rK (a:EnI):Prop:=(a.m.Rep a.p a.B a.U/\BOk a.p a.B)/\((0<=a.c.inst/\a.c.inst<(↑a.B.length:Int))/\(1<=a.c.qty/\a.c.qty<=1000000)/\(a.c.side=1\/a.c.side=2))/\a.p.price a.c.inst a.c.price=0/\a.X=mC a.p a.B a.U a.c
def yEb (i:EnI):Prop:=
 ∃(a:rZ),sb a.p.code=sb i.m.p.code/\iE a.p.months=iE i.m.p.months/\a.p.tick=i.m.p.tick/\a.p.low=i.m.p.low/\a.p.high=i.m.p.high/\a.p.wide=i.m.p.wide/\a.p.rule=i.m.p.rule/\a.p.top=i.m.p.top/\a.p.least=i.m.p.least/\a.p.part=i.m.p.part/\iE a.p.settle=iE i.m.p.settle/\a.a=i.c.inst/\a.b=i.c.price/\(xS a)/\∀(b:Unit),True->cnd (a.p.price a.a a.b !=0) (∃(c:RjI),c.c.kind=i.c.kind/\c.c.id=i.c.id/\c.c.inst=i.c.inst/\c.c.side=i.c.side/\c.c.price=i.c.price/\c.c.qty=i.c.qty/\c.c.least=i.c.least/\c.c.time=i.c.time/\sb c.c.label=sb i.c.label/\c.why=a.p.price a.a a.b/\zEu i c) (∃(c:Int),∃(d:Int->Prop),cnd (i.c.time==3) (∃(e:Int),e=i.c.qty/\zFv d e i) (∃(e:Int),e=i.c.least/\zFv d e i)/\∀(e:Int),d e->(∀(f:Value×List D),f∈zT i.m.used->like (ak ag i.c.id) f.fst=ao)/\∃(f:Bool),∃(g:Bool),(qQ (ak ag i.c.id) (zT i.m.used)=some [D.v (.bool g)]/\f=ao\/qQ (ak ag i.c.id) (zT i.m.used)=none/\[D.v (.bool g)]=[D.v (.bool ap)]/\f=ap)/\cnd g (∃(h:RjI),h.c.kind=i.c.kind/\h.c.id=i.c.id/\h.c.inst=i.c.inst/\h.c.side=i.c.side/\h.c.price=i.c.price/\h.c.qty=i.c.qty/\h.c.least=i.c.least/\h.c.time=i.c.time/\sb h.c.label=sb i.c.label/\h.why=25/\zEu i h) (∃(h:SoI),zD h.s=yS i.m 1/\(h.s.Rep h.p h.B/\h.B.length<=1000)/\∀(j:Unit),True->cnd (decide ((↑(zTg h.B):Int)>=250)) (∃(k:RjI),k.c.kind=i.c.kind/\k.c.id=i.c.id/\k.c.inst=i.c.inst/\k.c.side=i.c.side/\k.c.price=i.c.price/\k.c.qty=i.c.qty/\k.c.least=i.c.least/\k.c.time=i.c.time/\sb k.c.label=sb i.c.label/\k.why=13/\lD i h k) (∃(k:Bool),∃(l:Bool->Prop),cnd (decide (e>0)) (∃(m:RunI),m.inst=i.c.inst/\zC m.sd=i.c.side/\m.price=i.c.price/\m.q=i.c.qty/\zD m.s=zD h.s/\(x7 m)/\∀(n:Unit),True->∃(p:Bool),p=decide (m.q-m.r.left<e)/\zEj l p m h i) (zFt l h i)/\∀(m:Bool),l m->cnd m (∃(n:RjI),n.c.kind=i.c.kind/\n.c.id=i.c.id/\n.c.inst=i.c.inst/\n.c.side=i.c.side/\n.c.price=i.c.price/\n.c.qty=i.c.qty/\n.c.least=i.c.least/\n.c.time=i.c.time/\sb n.c.label=sb i.c.label/\n.why=28/\lD i h n) (∃(n:Bool),∃(p:Bool->Prop),cnd (i.c.time==1) (∃(q:RunI),q.inst=i.c.inst/\zC q.sd=i.c.side/\q.price=i.c.price/\q.q=i.c.qty/\zD q.s=zD h.s/\(x7 q)/\∀(r:Unit),True->∃(s:Bool),s=bR q.p q.B q.inst q.sd q.price q.q/\zEj p s q h i) (zFt p h i)/\∀(q:Bool),p q->cnd q (∃(r:RjI),r.c.kind=i.c.kind/\r.c.id=i.c.id/\r.c.inst=i.c.inst/\r.c.side=i.c.side/\r.c.price=i.c.price/\r.c.qty=i.c.qty/\r.c.least=i.c.least/\r.c.time=i.c.time/\sb r.c.label=sb i.c.label/\r.why=23/\lD i h r) (∃(r:EnI),r.c.kind=i.c.kind/\r.c.id=i.c.id/\r.c.inst=i.c.inst/\r.c.side=i.c.side/\r.c.price=i.c.price/\r.c.qty=i.c.qty/\r.c.least=i.c.least/\r.c.time=i.c.time/\sb r.c.label=sb i.c.label/\sb r.m.p.code=sb i.m.p.code/\r.m.p.tick=i.m.p.tick/\r.m.p.low=i.m.p.low/\r.m.p.high=i.m.p.high/\r.m.p.wide=i.m.p.wide/\r.m.p.rule=i.m.p.rule/\r.m.p.top=i.m.p.top/\r.m.p.least=i.m.p.least/\r.m.p.part=i.m.p.part/\zD r.m.s=zD h.s/\zT r.m.used=zT i.m.used/\aa 1 (iE r.m.p.months)=yS i.m 3/\aa 1 (iE r.m.p.settle)=yS i.m 4/\(rK r)/\nY r i)))))
def yHi (i:CaI):Prop:=
 ∃(i_1:StI),i_1.id=i.id/\i_1.q=i.o.qty/\zD i_1.s=yS i.m 1/\(i_1.s.Rep i_1.p i_1.B/\i_1.B.length<=1000)/\∀(o:MSt),o.Rep i_1.p (qM i_1.B i_1.id i_1.q).fst->∃(o_1:Mkt),sb o_1.p.code=sb i.m.p.code/\o_1.p.tick=i.m.p.tick/\o_1.p.low=i.m.p.low/\o_1.p.high=i.m.p.high/\o_1.p.wide=i.m.p.wide/\o_1.p.rule=i.m.p.rule/\o_1.p.top=i.m.p.top/\o_1.p.least=i.m.p.least/\o_1.p.part=i.m.p.part/\zD o_1.s=zD o/\zT o_1.used=zT i.m.used/\aa 1 (iE o_1.p.months)=yS i.m 3/\aa 1 (iE o_1.p.settle)=yS i.m 4/\aj xJ i.X.R=[[D.v (.int .i64 4),D.v (.int .i64 i.id),D.v (.int .i64 i.inst),D.v (.int .i64 i.o.side),D.v (.int .i64 i.o.price),D.v (.int .i64 i.o.qty),D.v (.int .i64 0),D.v (.int .i64 0)]]/\o_1.Rep i.p i.X.B i.X.U
def z2r (i:CaI):Prop:=
 ∃(a:StI),a.id=i.id/\a.q=i.q/\zD a.s=yS i.m 1/\(a.s.Rep a.p a.B/\a.B.length<=1000)/\∀(b:MSt),b.Rep a.p (qM a.B a.id a.q).fst->∃(c:Mkt),sb c.p.code=sb i.m.p.code/\c.p.tick=i.m.p.tick/\c.p.low=i.m.p.low/\c.p.high=i.m.p.high/\c.p.wide=i.m.p.wide/\c.p.rule=i.m.p.rule/\c.p.top=i.m.p.top/\c.p.least=i.m.p.least/\c.p.part=i.m.p.part/\zD c.s=zD b/\zT c.used=zT i.m.used/\aa 1 (iE c.p.months)=yS i.m 3/\aa 1 (iE c.p.settle)=yS i.m 4/\aj xJ i.X.R=[[dI 5,dI i.id,dI i.inst,dI i.o.side,dI i.o.price,dI i.q,dI (ag.wrap (i.o.qty-i.q)),dI 0]]/\c.Rep i.p i.X.B i.X.U
def pR (a:Mkt) (b:z6x) (c:RjI):Prop:=zT a.used=zT b.m.used/\aa 1 (iE a.p.months)=yS b.m 3/\aa 1 (iE a.p.settle)=yS b.m 4/\aj xJ b.X.R=[xJ (Rep.mk 2 c.c.id 0 0 0 0 0 c.why)]/\a.Rep b.p b.X.B b.X.U
def zAg (a:z6x):Prop:=∃(b:MSt),zD b=yS a.m 1/\(hZ b)/\∀(c:Unit),True->∃(d:StI),d.id=a.c.id/\d.q=a.o.qty/\zD d.s=zD b/\(d.s.Rep d.p d.B/\d.B.length<=1000)/\∀(e:MSt),e.Rep d.p (qM d.B d.id d.q).fst->∃(f:RunI),f.inst=a.inst/\zC f.sd=a.o.side/\f.price=a.c.price/\f.q=a.c.qty/\zD f.s=zD e/\(x7 f)/\∀(g:Unit),True->cnd (bR f.p f.B f.inst f.sd f.price f.q) (∃(h:RjI),h.c.kind=a.c.kind/\h.c.id=a.c.id/\h.c.inst=a.c.inst/\h.c.side=a.c.side/\h.c.price=a.c.price/\h.c.qty=a.c.qty/\h.c.least=a.c.least/\h.c.time=a.c.time/\sb h.c.label=sb a.c.label/\h.why=23/\True/\∀(j:Unit),True->∃(k:Mkt),sb k.p.code=sb a.m.p.code/\k.p.tick=a.m.p.tick/\k.p.low=a.m.p.low/\k.p.high=a.m.p.high/\k.p.wide=a.m.p.wide/\k.p.rule=a.m.p.rule/\k.p.top=a.m.p.top/\k.p.least=a.m.p.least/\k.p.part=a.m.p.part/\zD k.s=zD b/\pR k a h) (∃(h:CaI),h.id=a.c.id/\h.inst=a.inst/\h.o.id=a.o.id/\h.o.side=a.o.side/\h.o.price=a.o.price/\h.o.qty=a.o.qty/\h.o.top=a.o.top/\sb h.m.p.code=sb a.m.p.code/\h.m.p.tick=a.m.p.tick/\h.m.p.low=a.m.p.low/\h.m.p.high=a.m.p.high/\h.m.p.wide=a.m.p.wide/\h.m.p.rule=a.m.p.rule/\h.m.p.top=a.m.p.top/\h.m.p.least=a.m.p.least/\h.m.p.part=a.m.p.part/\zD h.m.s=zD b/\zT h.m.used=zT a.m.used/\aa 1 (iE h.m.p.months)=yS a.m 3/\aa 1 (iE h.m.p.settle)=yS a.m 4/\((h.m.Rep h.p h.B h.U/\BOk h.p h.B)/\h.X=gI h.B h.U h.id h.inst h.o)/\∀(j:Mkt),j.Rep h.p h.X.B h.X.U->∃(k:EnI),k.c.kind=1/\k.c.id=a.c.id/\k.c.inst=a.inst/\k.c.side=a.o.side/\k.c.price=a.c.price/\k.c.qty=a.c.qty/\k.c.least=0/\k.c.time=1/\sb k.c.label=ByteArray.mk #[]/\sb k.m.p.code=sb j.p.code/\k.m.p.tick=j.p.tick/\k.m.p.low=j.p.low/\k.m.p.high=j.p.high/\k.m.p.wide=j.p.wide/\k.m.p.rule=j.p.rule/\k.m.p.top=j.p.top/\k.m.p.least=j.p.least/\k.m.p.part=j.p.part/\zD k.m.s=zD j.s/\zT k.m.used=zT j.used/\aa 1 (iE k.m.p.months)=aa 1 (iE j.p.months)/\aa 1 (iE k.m.p.settle)=aa 1 (iE j.p.settle)/\(rK k)/\∀(l:Mkt),l.Rep k.p k.X.B k.X.U->((aj xJ h.X.R).length+(aj xJ k.X.R).length)*(64:Nat)<=(140737488355328:Nat)/\∃(m:Mkt),sb m.p.code=sb l.p.code/\m.p.tick=l.p.tick/\m.p.low=l.p.low/\m.p.high=l.p.high/\m.p.wide=l.p.wide/\m.p.rule=l.p.rule/\m.p.top=l.p.top/\m.p.least=l.p.least/\m.p.part=l.p.part/\zD m.s=zD l.s/\zT m.used=zT l.used/\aa 1 (iE m.p.months)=aa 1 (iE l.p.months)/\aa 1 (iE m.p.settle)=aa 1 (iE l.p.settle)/\aj xJ a.X.R=aj xJ h.X.R++aj xJ k.X.R/\m.Rep a.p a.X.B a.X.U)
def cC (a:CaI):Prop:=(a.m.Rep a.p a.B a.U/\BOk a.p a.B)/\((-9223372036854775808)<=a.o.qty-a.q/\a.o.qty-a.q<=9223372036854775807)/\a.X=pV a.B a.U a.id a.q a.inst a.o
def zYn (i:z6x):Prop:=
 ∃(a:rZ),sb a.p.code=sb i.m.p.code/\iE a.p.months=iE i.m.p.months/\a.p.tick=i.m.p.tick/\a.p.low=i.m.p.low/\a.p.high=i.m.p.high/\a.p.wide=i.m.p.wide/\a.p.rule=i.m.p.rule/\a.p.top=i.m.p.top/\a.p.least=i.m.p.least/\a.p.part=i.m.p.part/\iE a.p.settle=iE i.m.p.settle/\a.a=i.inst/\a.b=i.c.price/\(xS a)/\∀(b:Unit),True->cnd (a.p.price a.a a.b !=0) (∃(c:RjI),c.c.kind=i.c.kind/\c.c.id=i.c.id/\c.c.inst=i.c.inst/\c.c.side=i.c.side/\c.c.price=i.c.price/\c.c.qty=i.c.qty/\c.c.least=i.c.least/\c.c.time=i.c.time/\sb c.c.label=sb i.c.label/\c.why=a.p.price a.a a.b/\True/\∀(d:Unit),True->∃(e:Mkt),sb e.p.code=sb i.m.p.code/\e.p.tick=i.m.p.tick/\e.p.low=i.m.p.low/\e.p.high=i.m.p.high/\e.p.wide=i.m.p.wide/\e.p.rule=i.m.p.rule/\e.p.top=i.m.p.top/\e.p.least=i.m.p.least/\e.p.part=i.m.p.part/\zD e.s=yS i.m 1/\pR e i c) (cnd (i.c.price==i.o.price) (cnd (decide (i.c.qty<=i.o.qty)) (∃(c:CaI),c.id=i.c.id/\c.q=ag.wrap (i.o.qty-i.c.qty)/\c.inst=i.inst/\c.o.id=i.o.id/\c.o.side=i.o.side/\c.o.price=i.o.price/\c.o.qty=i.o.qty/\c.o.top=i.o.top/\sb c.m.p.code=sb i.m.p.code/\c.m.p.tick=i.m.p.tick/\c.m.p.low=i.m.p.low/\c.m.p.high=i.m.p.high/\c.m.p.wide=i.m.p.wide/\c.m.p.rule=i.m.p.rule/\c.m.p.top=i.m.p.top/\c.m.p.least=i.m.p.least/\c.m.p.part=i.m.p.part/\zD c.m.s=yS i.m 1/\zT c.m.used=zT i.m.used/\aa 1 (iE c.m.p.months)=yS i.m 3/\aa 1 (iE c.m.p.settle)=yS i.m 4/\(cC c)/\∀(d:Mkt),d.Rep c.p c.X.B c.X.U->∃(e:Mkt),sb e.p.code=sb d.p.code/\e.p.tick=d.p.tick/\e.p.low=d.p.low/\e.p.high=d.p.high/\e.p.wide=d.p.wide/\e.p.rule=d.p.rule/\e.p.top=d.p.top/\e.p.least=d.p.least/\e.p.part=d.p.part/\zD e.s=zD d.s/\zT e.used=zT d.used/\aa 1 (iE e.p.months)=aa 1 (iE d.p.months)/\aa 1 (iE e.p.settle)=aa 1 (iE d.p.settle)/\aj xJ i.X.R=aj xJ c.X.R/\e.Rep i.p i.X.B i.X.U) (zAg i)) (zAg i))
def zSt (a:CaI) (b:EnI):Prop:=∀(c:Mkt),c.Rep a.p a.X.B a.X.U->∃(d:Mkt),sb d.p.code=sb c.p.code/\d.p.tick=c.p.tick/\d.p.low=c.p.low/\d.p.high=c.p.high/\d.p.wide=c.p.wide/\d.p.rule=c.p.rule/\d.p.top=c.p.top/\d.p.least=c.p.least/\d.p.part=c.p.part/\zD d.s=zD c.s/\zT d.used=zT c.used/\aa 1 (iE d.p.months)=aa 1 (iE c.p.months)/\aa 1 (iE d.p.settle)=aa 1 (iE c.p.settle)/\aj xJ b.X.R=aj xJ a.X.R/\d.Rep b.p b.X.B b.X.U
def zTt (a:Mkt) (b:EnI) (c:RjI):Prop:=zT a.used=zT b.m.used/\aa 1 (iE a.p.months)=aa 1 (iE b.m.p.months)/\aa 1 (iE a.p.settle)=aa 1 (iE b.m.p.settle)/\aj xJ b.X.R=[xJ (Rep.mk 2 c.c.id 0 0 0 0 0 c.why)]/\a.Rep b.p b.X.B b.X.U
def z1k (a:EnI) (b:StI):Prop:=∃(c:CaI),c.id=a.c.id/\c.inst=(zP b.B b.id).fst/\c.o.id=(zP b.B b.id).snd.fst.id/\c.o.side=(zP b.B b.id).snd.fst.side/\c.o.price=(zP b.B b.id).snd.fst.price/\c.o.qty=(zP b.B b.id).snd.fst.qty/\c.o.top=(zP b.B b.id).snd.fst.top/\sb c.m.p.code=sb a.m.p.code/\c.m.p.tick=a.m.p.tick/\c.m.p.low=a.m.p.low/\c.m.p.high=a.m.p.high/\c.m.p.wide=a.m.p.wide/\c.m.p.rule=a.m.p.rule/\c.m.p.top=a.m.p.top/\c.m.p.least=a.m.p.least/\c.m.p.part=a.m.p.part/\zD c.m.s=zD b.s/\zT c.m.used=zT a.m.used/\aa 1 (iE c.m.p.months)=aa 1 (iE a.m.p.months)/\aa 1 (iE c.m.p.settle)=aa 1 (iE a.m.p.settle)/\((c.m.Rep c.p c.B c.U/\BOk c.p c.B)/\c.X=gI c.B c.U c.id c.inst c.o)/\zSt c a
def yAb (a:EnI):Prop:=∃(b:StI),b.id=a.c.id/\zD b.s=zD a.m.s/\(b.s.Rep b.p b.B/\b.B.length<=1000)/\∀(c:Unit),True->cnd (!(zP b.B b.id).snd.snd) (∃(d:RjI),d.c.kind=a.c.kind/\d.c.id=a.c.id/\d.c.inst=a.c.inst/\d.c.side=a.c.side/\d.c.price=a.c.price/\d.c.qty=a.c.qty/\d.c.least=a.c.least/\d.c.time=a.c.time/\sb d.c.label=sb a.c.label/\d.why=26/\True/\∀(e:Unit),True->∃(f:Mkt),sb f.p.code=sb a.m.p.code/\f.p.tick=a.m.p.tick/\f.p.low=a.m.p.low/\f.p.high=a.m.p.high/\f.p.wide=a.m.p.wide/\f.p.rule=a.m.p.rule/\f.p.top=a.m.p.top/\f.p.least=a.m.p.least/\f.p.part=a.m.p.part/\zD f.s=zD b.s/\zTt f a d) (cnd (a.c.kind==4) (∃(d:z6x),d.c.kind=a.c.kind/\d.c.id=a.c.id/\d.c.inst=a.c.inst/\d.c.side=a.c.side/\d.c.price=a.c.price/\d.c.qty=a.c.qty/\d.c.least=a.c.least/\d.c.time=a.c.time/\sb d.c.label=sb a.c.label/\d.inst=(zP b.B b.id).fst/\d.o.id=(zP b.B b.id).snd.fst.id/\d.o.side=(zP b.B b.id).snd.fst.side/\d.o.price=(zP b.B b.id).snd.fst.price/\d.o.qty=(zP b.B b.id).snd.fst.qty/\d.o.top=(zP b.B b.id).snd.fst.top/\sb d.m.p.code=sb a.m.p.code/\d.m.p.tick=a.m.p.tick/\d.m.p.low=a.m.p.low/\d.m.p.high=a.m.p.high/\d.m.p.wide=a.m.p.wide/\d.m.p.rule=a.m.p.rule/\d.m.p.top=a.m.p.top/\d.m.p.least=a.m.p.least/\d.m.p.part=a.m.p.part/\zD d.m.s=zD b.s/\zT d.m.used=zT a.m.used/\aa 1 (iE d.m.p.months)=aa 1 (iE a.m.p.months)/\aa 1 (iE d.m.p.settle)=aa 1 (iE a.m.p.settle)/\(d.m.Rep d.p d.B d.U/\BOk d.p d.B/\zP d.B d.c.id=(d.inst,d.o,ao)/\(1<=d.c.qty/\d.c.qty<=1000000)/\d.X=dD d.p d.B d.U d.c d.inst d.o)/\∀(e:Mkt),e.Rep d.p d.X.B d.X.U->∃(f:Mkt),sb f.p.code=sb e.p.code/\f.p.tick=e.p.tick/\f.p.low=e.p.low/\f.p.high=e.p.high/\f.p.wide=e.p.wide/\f.p.rule=e.p.rule/\f.p.top=e.p.top/\f.p.least=e.p.least/\f.p.part=e.p.part/\zD f.s=zD e.s/\zT f.used=zT e.used/\aa 1 (iE f.p.months)=aa 1 (iE e.p.months)/\aa 1 (iE f.p.settle)=aa 1 (iE e.p.settle)/\aj xJ a.X.R=aj xJ d.X.R/\f.Rep a.p a.X.B a.X.U) (cnd (a.c.kind==2) (z1k a b) (cnd (decide (a.c.qty>=(zP b.B b.id).snd.fst.qty)) (z1k a b) (∃(d:CaI),d.id=a.c.id/\d.q=a.c.qty/\d.inst=(zP b.B b.id).fst/\d.o.id=(zP b.B b.id).snd.fst.id/\d.o.side=(zP b.B b.id).snd.fst.side/\d.o.price=(zP b.B b.id).snd.fst.price/\d.o.qty=(zP b.B b.id).snd.fst.qty/\d.o.top=(zP b.B b.id).snd.fst.top/\sb d.m.p.code=sb a.m.p.code/\d.m.p.tick=a.m.p.tick/\d.m.p.low=a.m.p.low/\d.m.p.high=a.m.p.high/\d.m.p.wide=a.m.p.wide/\d.m.p.rule=a.m.p.rule/\d.m.p.top=a.m.p.top/\d.m.p.least=a.m.p.least/\d.m.p.part=a.m.p.part/\zD d.m.s=zD b.s/\zT d.m.used=zT a.m.used/\aa 1 (iE d.m.p.months)=aa 1 (iE a.m.p.months)/\aa 1 (iE d.m.p.settle)=aa 1 (iE a.m.p.settle)/\(cC d)/\zSt d a))))
def Vdo (i:EnI):Prop:=
 ∃(a:Cmd),a.kind=i.c.kind/\a.id=i.c.id/\a.inst=i.c.inst/\a.side=i.c.side/\a.price=i.c.price/\a.qty=i.c.qty/\a.least=i.c.least/\a.time=i.c.time/\sb a.label=sb i.c.label/\a.label.length<=140737488355328/\∀(b:Unit),True->cnd (a.right !=0) (∃(c:RjI),c.c.kind=i.c.kind/\c.c.id=i.c.id/\c.c.inst=i.c.inst/\c.c.side=i.c.side/\c.c.price=i.c.price/\c.c.qty=i.c.qty/\c.c.least=i.c.least/\c.c.time=i.c.time/\sb c.c.label=sb i.c.label/\c.why=a.right/\True/\∀(d:Unit),True->∃(e:Mkt),sb e.p.code=sb i.m.p.code/\e.p.tick=i.m.p.tick/\e.p.low=i.m.p.low/\e.p.high=i.m.p.high/\e.p.wide=i.m.p.wide/\e.p.rule=i.m.p.rule/\e.p.top=i.m.p.top/\e.p.least=i.m.p.least/\e.p.part=i.m.p.part/\zD e.s=zD i.m.s/\zTt e i c) (cnd (i.c.kind==1) (∃(c:EnI),c.c.kind=i.c.kind/\c.c.id=i.c.id/\c.c.inst=i.c.inst/\c.c.side=i.c.side/\c.c.price=i.c.price/\c.c.qty=i.c.qty/\c.c.least=i.c.least/\c.c.time=i.c.time/\sb c.c.label=sb i.c.label/\sb c.m.p.code=sb i.m.p.code/\c.m.p.tick=i.m.p.tick/\c.m.p.low=i.m.p.low/\c.m.p.high=i.m.p.high/\c.m.p.wide=i.m.p.wide/\c.m.p.rule=i.m.p.rule/\c.m.p.top=i.m.p.top/\c.m.p.least=i.m.p.least/\c.m.p.part=i.m.p.part/\zD c.m.s=zD i.m.s/\zT c.m.used=zT i.m.used/\aa 1 (iE c.m.p.months)=aa 1 (iE i.m.p.months)/\aa 1 (iE c.m.p.settle)=aa 1 (iE i.m.p.settle)/\((c.m.Rep c.p c.B c.U/\BOk c.p c.B)/\c.c.right=0/\c.c.kind=1/\c.X=nX c.p c.B c.U c.c)/\nY c i) ((yAb i)/\da i.c.id/\True/\yAb i))
def yQp (i:MfI):Prop:=
 ∃(i_1:StI),i_1.id=i.id/\zD i_1.s=zD i.m.s/\(i_1.s.Rep i_1.p i_1.B/\i_1.B.length<=1000)/\∀(o:Unit),True->∃(o:Unit),(zP i.B i.id).fst=(zP i_1.B i_1.id).fst/\(zP i.B i.id).snd.fst.id=(zP i_1.B i_1.id).snd.fst.id/\(zP i.B i.id).snd.fst.side=(zP i_1.B i_1.id).snd.fst.side/\(zP i.B i.id).snd.fst.price=(zP i_1.B i_1.id).snd.fst.price/\(zP i.B i.id).snd.fst.qty=(zP i_1.B i_1.id).snd.fst.qty/\(zP i.B i.id).snd.fst.top=(zP i_1.B i_1.id).snd.fst.top/\(zP i.B i.id).snd.snd=(zP i_1.B i_1.id).snd.snd/\da (sb i.m.p.code)/\da i.m.p.tick/\da i.m.p.low/\da i.m.p.high/\da i.m.p.wide/\da i.m.p.rule/\da i.m.p.top/\da i.m.p.least/\da i.m.p.part/\zD i.m.s=zD i_1.s/\da (zT i.m.used)/\da (aa 1 (iE i.m.p.months))/\da (aa 1 (iE i.m.p.settle))/\True
def zGe (p:Prd) (B:List (List zG)) (U:List Int) (c:Cmd):mC p B U c=⟨if(jP p B c.inst (decide (c.side=2)) c.price c.qty).left≠0/\c.time=1 then(z2n p (jP p B c.inst (decide (c.side=2)) c.price c.qty).B c.inst c.id c.side c.price (jP p B c.inst (decide (c.side=2)) c.price c.qty).left).1 else(jP p B c.inst (decide (c.side=2)) c.price c.qty).B,zOg U c.id,
 (⟨1,c.id,c.inst,c.side,c.price,c.qty,c.qty,0⟩::pM p c (jP p B c.inst (decide (c.side=2)) c.price c.qty).steps c.qty)++if(jP p B c.inst (decide (c.side=2)) c.price c.qty).left≠0/\c.time≠1 then[⟨4,c.id,c.inst,c.side,c.price,(jP p B c.inst (decide (c.side=2)) c.price c.qty).left,0,0⟩]else[]⟩:=by
 rw[mC]
def zPf {p:Prd} {B:List (List zG)} (h:BWf p B) (U:List Int) (c:Cmd):BOk p (mC p B U c).B:=by
 have:=(m8 (inst:=c.inst) (sd:=decide (c.side=2)) (price:=c.price) _ c.qty B (y1u _) h).1.ok;rw[zGe];dsimp only;split
 ·exact this.add _ _ _ _ _
 ·exact this
def z7g {p:Prd} {B:List (List zG)} (h:BWf p B) (U:List Int) (c:Cmd):BOk p (nX p B U c).B:=by
 rw[nX];split
 ·exact h.ok
 split
 ·exact h.ok
 split
 ·exact h.ok
 split
 ·exact h.ok
 split
 ·exact h.ok
 exact zPf h U c
def yUb {p:Prd} {B:List (List zG)} (h:BWf p B) (U:List Int) (c:Cmd):BOk p (doF p B U c).B:=by
 rw[doF];split
 ·exact h.ok
 split
 ·exact z7g h U c
 split
 ·exact h.ok
 split
 ·rw[dD];split
  ·exact h.ok
  split
  ·exact h.ok.take _ _
  split
  ·exact h.ok
  exact zPf (h.take _ _) U _
 split
 ·exact h.ok.take _ _
 ·exact h.ok.take _ _
def Two (L:List zG):Prop:=L=sW L 1++sW L 2
def tR {inst s:Int} {f:dF}:∀{os:List zG} {sh:List Int},f∈xP inst s os sh->f.side=s/\f.inst=inst/\∃o∈os,f.price=o.price
 |[],sh,h=>by cases h
 |o::os,[],h=>by cases h
 |o::os,k::sh,h=>by
  rw[xP]at h;split at h
  ·rcases y1r.1 h with rfl|h
   ·exact⟨rfl,rfl,o,y1f,rfl⟩
   ·obtain⟨a,b,o',c,d⟩:=tR h;exact⟨a,b,o',y1g _ c,d⟩
  ·obtain⟨a,b,o',c,d⟩:=tR h;exact⟨a,b,o',y1g _ c,d⟩
def FOk (f:dF):Prop:=(f.side=1\/f.side=2)/\-2000000<=f.price/\f.price<=2000000
def zEk {p:Prd} {B:List (List zG)} (h:BOk p B) (inst:Int) {s:Int} (hs:s=1\/s=2) (q:Int):∀f∈qC p B inst s q,FOk f:=by
 intro f hf;obtain⟨a,_,o,ho,e⟩:=tR hf;refine⟨by rw[a];exact hs,?_⟩;rw[e];have ho:=(y2x.1 ho).1;by_cases hk:inst.toNat<B.length
 ·obtain⟨L,hL⟩:=yE hk;rw[zV hL]at ho;exact h.prices hL o ho
 ·rw[y1h,y2i (by omega)]at ho;cases ho
def SOk (t:jT):Prop:=(-2000000<=t.price/\t.price<=2000000)/\(∀f∈t.fills,FOk f)/\t.fills.length<=500
def yKz {p:Prd} {B:List (List zG)} (h:BWf p B) {inst:Int} (hi:0<=inst/\inst<B.length) {s:Int} (hs:s=1\/s=2) (hn:(yO p B inst s).2.2=ao): -2000000<=(yO p B inst s).1.price/\(yO p B inst s).1.price<=2000000:=by
 rw[yO]at hn ⊢;obtain⟨L,hL⟩:=yE (l:=B) (i:=inst.toNat) oM;rw[zV hL]at hn ⊢;split
 ·exact zUd (h.ok.prices hL)
 ·rename_i c;rw[y0y c]at hn;have hm:=zFq hn;have:=(y2x.1 hm).2;exact sG h.ok.pc (y1y this)
def yLt {p:Prd} {B:List (List zG)} (h:BWf p B) {inst:Int} (hi:0<=inst/\inst<B.length) {sd:Bool} {price q:Int} {t:jT} {B':List (List zG)} (e:aJ p B inst sd price q=some (t,B')):SOk t:=by
 have hs:zC (!sd)=1\/zC (!sd)=2:=zEb _;have hb:=yKz h hi hs;have hin:=z2t h.ok h.od hi hs;rw[aJ]at e;dsimp only at e;split at e
 ·rename_i c;have c1:(yO p B inst (zC (!sd))).2.2=ao:=by
   cases hx:(yO p B inst (zC (!sd))).2.2 with
   |false=>rw[hx]at c;cases c
   |true=>rfl
  have hb:=hb c1;obtain⟨_,hin,_⟩:=hin c1;split at e
  ·rename_i c2;obtain⟨_,ok⟩:=hin c2;cases e;refine⟨hb,λf hf=> ?_,?_⟩
   ·rcases y2f.1 hf with hf|hf
    ·exact zEk h.ok _ ok.sa _ f hf
    ·exact zEk h.ok.takes _ ok.sb _ f hf
   ·dsimp only;rw[y0x];have:=mG (p:=p) h.od (yO p B inst (zC (!sd))).1.a.inst (yO p B inst (zC (!sd))).1.a.side (min q (yO p B inst (zC (!sd))).1.qty);have:=mG (p:=p) (h.takes (fs:=qC p B (yO p B inst (zC (!sd))).1.a.inst (yO p B inst (zC (!sd))).1.a.side (min q (yO p B inst (zC (!sd))).1.qty))).od (yO p B inst (zC (!sd))).1.b.inst (yO p B inst (zC (!sd))).1.b.side (min q (yO p B inst (zC (!sd))).1.qty);omega
  ·cases e;refine⟨hb,λf hf=>zEk h.ok _ hs _ f hf,?_⟩;have:=mG (p:=p) h.od inst (zC (!sd)) (min q (yO p B inst (zC (!sd))).1.qty);dsimp only;omega
 ·cases e
def zBq (a:StI):Prop:=yM a.s.wh=yM a.s.wh/\da (aa 1 (iE a.s.p.months))/\da (aa 1 (iE a.s.p.settle))/\True
def yCg (i:StI):Prop:=
 (aC i)/\∃(a:Bool),∃(b:Int),(pC i b a)/\cnd (!a) (∃(c:Unit),(zP i.B i.id).fst=0/\(zP i.B i.id).snd.fst.id=0/\(zP i.B i.id).snd.fst.side=0/\(zP i.B i.id).snd.fst.price=0/\(zP i.B i.id).snd.fst.qty=0/\(zP i.B i.id).snd.fst.top=ap/\(zP i.B i.id).snd.snd=ap/\da (sb i.s.p.code)/\da i.s.p.tick/\da i.s.p.low/\da i.s.p.high/\da i.s.p.wide/\da i.s.p.rule/\da i.s.p.top/\da i.s.p.least/\da i.s.p.part/\da (ac 197 Book 6 zO i.s.books none)/\zBq i) ((0<=b/\b<(↑i.s.books.length:Int))/\b.toNat<i.s.books.length/\∃(c:Book),i.s.books[b.toNat]?=some c/\∃(d:FlI),d.id=i.id/\z6 d.b=z6 c/\d.b.Rep d.L/\∀(e:Unit),True->∃(f:Book),z6 d.b=z6 f/\da b.toNat/\b.toNat<i.s.books.length/\∃(g:Unit),(zP i.B i.id).fst=b/\(zP i.B i.id).snd.fst.id=(fV d.L d.id).id/\(zP i.B i.id).snd.fst.side=(fV d.L d.id).side/\(zP i.B i.id).snd.fst.price=(fV d.L d.id).price/\(zP i.B i.id).snd.fst.qty=(fV d.L d.id).qty/\(zP i.B i.id).snd.fst.top=(fV d.L d.id).top/\(zP i.B i.id).snd.snd=ao/\da (sb i.s.p.code)/\da i.s.p.tick/\da i.s.p.low/\da i.s.p.high/\da i.s.p.wide/\da i.s.p.rule/\da i.s.p.top/\da i.s.p.least/\da i.s.p.part/\ac 197 Book 6 zO i.s.books none=ac 197 Book 6 zO (i.s.books.set b.toNat f) none/\zBq i)
def yQi (i:StI) (h:sfindC.cnd i):yCg i:=by
 obtain⟨hR,hB⟩:i.s.Rep i.p i.B/\i.B.length<=1000:=h;have hat:=hR.at_ i.id;unfold yCg aC pC zBq dI;rw[zP];cases hi:bI i.B i.id with
 |none=>
  rw[hi]at hat;exact⟨fD _ _,ap,0,.inr ⟨by rw[mO,hat];rfl,rfl,rfl⟩,Cv.cnd.mk (λ_=>⟨(),k0q⟩) (λe=>absurd e Z8)⟩
 |some k=>
  rw[hi]at hat;obtain⟨L,hL,hh⟩:=uM hi;have hk:=(y1c.1 hL).1;obtain⟨b,hb⟩:=yE (l:=i.s.books) (i:=k) (by rw[hR.bl];exact hk);have hbR:=hR.bk k b L hb hL;have hbl:=hR.bl;refine⟨fD _ _,ao,k,.inl ⟨by rw[mO,hat];rfl,rfl⟩,Cv.cnd.mk (λe=>absurd e Z8) (λ_=> ?_)⟩;dsimp only;rw[y1o,zV hL];have hs:=vQ hb;refine⟨⟨oM,oM⟩,oM,b,hb,⟨b,L,i.id,0⟩,rfl,rfl,hbR,λ_ _=>⟨b,rfl,rfl,oM,(),?_⟩⟩;rw[hs]
  (repeat'(first|exact trivial|exact rfl|apply And.intro))
def zWf:sfindC.ok Tryz.prog 56:=okw mixed (gokc zXt gok0) 0 (λ_=>[]) (λ_=>[]) [0] Tryz.func56 yQi
def zQd (id:Int) (U:List Int):∀p∈zT U,like (ak ag id) p.1=ao:=by
 intro p hp;obtain⟨k,_,rfl⟩:=y2m.1 hp;rfl
def zQb (id:Int):∀U:List Int,vF (ak ag id) [D.v (.bool ao)] (zT U)=zT (zOg U id)
 |[]=>rfl
 |k::U=>by
  have ih:=zQb id U;have e:cD (ak ag id) (ak ag k)=decide (id=k):=by simp[cD,keq]
  show(bif cD (ak ag id) (ak ag k)then(ak ag k,[D.v (.bool ao)])::zT U else(ak ag k,[D.v (.bool ao)])::vF (ak ag id) [D.v (.bool ao)] (zT U))=_;rw[e,ih];by_cases c:id=k
  ·rw[y1v c,cond_true,zOg,y1a (by rw[c];exact y1f)];rfl
  ·rw[y1s c,cond_false,zOg,zOg];have hm:id∈k::U↔id∈U:=by simp[c]
   by_cases d:id∈U
   ·rw[y1a d,y1a (hm.2 d)];rfl
   ·rw[y0y d,y0y (λx=>d (hm.1 x))];rfl
def zOy (id:Int):∀U:List Int,qQ (ak ag id) (zT U)=if id∈U then some [D.v (.bool ao)]else none
 |[]=>rfl
 |k::U=>by
  have ih:=zOy id U;have e:cD (ak ag id) (ak ag k)=decide (id=k):=by simp[cD,keq]
  show(bif cD (ak ag id) (ak ag k)then some [D.v (.bool ao)]else qQ (ak ag id) (zT U))=_;rw[e,ih];by_cases c:id=k
  ·rw[y1v c,cond_true,y1a (by rw[c];exact y1f)]
  ·rw[y1s c,cond_false];have hm:id∈k::U↔id∈U:=by simp[c]
   by_cases d:id∈U
   ·rw[y1a d,y1a (hm.2 d)]
   ·rw[y0y d,y0y (λx=>d (hm.1 x))]
def yEi (id:Int) (U:List Int):qQ (ak ag id) (zT U)=some [D.v (.bool (decide (id∈U)))]/\decide (id∈U)=ao\/qQ (ak ag id) (zT U)=none/\[D.v (.bool (decide (id∈U)))]=[D.v (.bool ap)]/\decide (id∈U)=ap:=by
 rw[zOy];by_cases c:id∈U
 ·rw[y1a c,y1v c];exact .inl ⟨rfl,rfl⟩
 ·rw[y0y c,y1s c];exact .inr ⟨rfl,rfl,rfl⟩
def zSi {p:Prd} {inst:Int} {sd:Bool} {price:Int}:∀(m:Nat) (q:Int) (B:List (List zG)),q.toNat<=m->BWf p B->0<=inst/\inst<B.length->
 (∀t∈(jP p B inst sd price q).steps,SOk t/\1<=t.qty)/\((jP p B inst sd price q).steps.map (·.qty)).sum=q-(jP p B inst sd price q).left
 |m,q,B,hm,h,hi=>by
  by_cases hq:q<=0
  ·rw[tK (.inl hq)];exact⟨λt ht=>(by cases ht),by simp⟩
  cases hs:aJ p B inst sd price q with
  |none=>rw[tK (.inr hs)];exact⟨λt ht=>(by cases ht),by simp⟩
  |some x=>
   obtain⟨t,C⟩:=x;obtain⟨k1,k2⟩:=zRb h hs;have hq2:=zKk oM hs;cases m with
   |zero=>omega
   |succ m=>
   obtain⟨i1,i2⟩:=zSi (p:=p) (inst:=inst) (sd:=sd) (price:=price) m (q-t.qty) C oM k1 (by rw[k2];exact hi);rw[zLa (by omega) hs];refine⟨λu hu=> ?_,?_⟩
   ·rcases y1r.1 hu with rfl|hu
    ·exact⟨yLt h hi hs,hq2.1⟩
    ·exact i1 u hu
   ·dsimp only;rw[y1m,y2o,i2];omega
def yNh {α:Type} {f:α->List Rep} (hf:∀x,(f x).length<=3):∀l:List α,(l.flatMap f).length<=3*l.length
 |[]=>y1u _
 |x::l=>by
  have:=yNh hf l;have:=hf x;rw[y2q,y0x,y1d];omega
def zRa (p:Prd) (c:Cmd) (x:jT) (left:Int):(nN p c x left).length<=3*x.fills.length+3:=by
 rw[nN,y0x];have:=yNh (λf=>zLq p x (zCt f)) x.fills;have:=zLq p x ⟨3,c.id,c.inst,c.side,x.price,x.qty,left,0⟩;omega
def zTd {l:List jT} (h:∀t∈l,SOk t/\1<=t.qty):(l.length:Int)<=(l.map (·.qty)).sum:=by
 induction l with
 |nil=>exact y4s _
 |cons t l ih=>
  have:=ih λu hu=>h u (y1g _ hu)
  have:=(h t y1f).2;rw[y1m,y2o,y1d];omega
def yQk (i:EnI) (h:enterC.cnd i):yEq i:=by
 obtain⟨m,p,B,U,c,X⟩:=i;have h':(m.Rep p B U/\BOk p B)/\((0<=c.inst/\c.inst<B.length)/\(1<=c.qty/\c.qty<=1000000)/\(c.side=1\/c.side=2))/\p.price c.inst c.price=0/\X=mC p B U c:=h;clear h;obtain⟨⟨⟨ep,hR,eu⟩,hB⟩,⟨⟨h0,h1⟩,hq,hs⟩,hpz,hX⟩:=h';subst ep eu hX;have hwf:=hR.wf hB;obtain⟨k1,k2,k3⟩:=m8 (inst:=c.inst) (sd:=decide (c.side=2)) (price:=c.price) _ c.qty B (y1u _) hwf;have k3:=k3 oM;obtain⟨s1,s2⟩:=zSi (inst:=c.inst) (sd:=decide (c.side=2)) (price:=c.price) _ c.qty B (y1u _) hwf ⟨h0,h1⟩;have hX:=zGe m.p B m.used c;have hbd:=sG hB.pc hpz;unfold yEq x7 wR zAm dI;dsimp only;rw[zQb,hX];refine⟨zQd _ _,⟨m.s,m.p,B,c.inst,decide (c.side=2),c.price,c.qty⟩,rfl,gC hs,rfl,rfl,rfl,⟨hR,hB,⟨h0,h1⟩,hq.1,hq.2⟩,λo ho=> ?_⟩;have er:RunI.r ⟨m.s,m.p,B,c.inst,decide (c.side=2),c.price,c.qty⟩=jP m.p B c.inst (decide (c.side=2)) c.price c.qty:=rfl;rw[er]at ho ⊢;clear hX er;generalize jP m.p B c.inst (decide (c.side=2)) c.price c.qty=R at*;obtain⟨ts,lf,RB⟩:=R;dsimp only at*;have hlen:=zTd s1;have e4:(ts.map jN).length=ts.length:=y0z ..;refine⟨⟨c.qty,0,[⟨1,c.id,c.inst,c.side,c.price,c.qty,c.qty,0⟩]⟩,rfl,rfl,rfl,λj=>j.k<=ts.length/\j.left=lf+((ts.drop j.k).map (·.qty)).sum/\(⟨1,c.id,c.inst,c.side,c.price,c.qty,c.qty,0⟩::pM m.p c ts c.qty)=j.out++pM m.p c (ts.drop j.k) j.left/\j.out.length<=1+1503*j.k,λj=>ts.length-j.k,⟨y2a _,by dsimp only;rw[y4r,s2];omega,rfl,y1u _⟩,?_⟩
 rintro⟨left,k,out⟩ ⟨j1,j2,j3,j4⟩;dsimp only at j1 j2 j3 j4 ⊢;have e5:(out.map xJ).length=out.length:=y0z ..;refine zH (λc1=> ?_) (λc1=> ?_)
 ·obtain⟨t,ht⟩:=yE (l:=ts) (i:=k) oM;have hd:ts.drop k=t::ts.drop (k+1):=by rw[y3f (by omega),(y1c.1 ht).2]
  obtain⟨⟨t1,t2,t3⟩,t4⟩:=s1 t (y1j ht);have hsd:=zTd (l:=ts.drop (k+1)) λu hu=>s1 u (y4o hu)
  have hsk:((ts.drop k).map (·.qty)).sum<=(ts.map (·.qty)).sum:=by
   have:=zTd (l:=ts.take k) λu hu=>s1 u (y5p hu)
   have e:(ts.map (·.qty)).sum=((ts.take k).map (·.qty)).sum+((ts.drop k).map (·.qty)).sum:=by
    rw[<- y6t,<- y1i,y3s]
   omega
  rw[hd,y1m,y2o]at j2 hsk;rw[hd,pM]at j3;have hrl:=zRa m.p c t (left-t.qty);have e6:((nN m.p c t (left-t.qty)).map xJ).length=(nN m.p c t (left-t.qty)).length:=y0z ..;have hw:ag.wrap (left-t.qty)=left-t.qty:=w64 oM;refine⟨⟨oM,oM⟩,t.price,t.qty,t.implied,t.fills.map yR,elA ht (by simp[jN]) rfl,?_⟩;rw[hw];refine⟨⟨⟨m.p,o,zOg m.used c.id⟩,c,t,left-t.qty⟩,rF8 (rF8 (rF7 (rF3 ⟨rfl,⟨⟨hB.pc,hB.ps⟩,⟨Z9,Z9⟩,Z9,hs,λf hf=>(t2 f hf).1⟩,λ_ _=>⟨by dsimp only;rw[e5,e6];omega,⟨left-t.qty,k+1,out++nN m.p c t (left-t.qty)⟩,rfl,wjn oM,by dsimp only;rw[y1i],⟨Z9,Z9,by dsimp only;rw[j3,y1e],by dsimp only;rw[y0x];omega⟩,Z9,k0q⟩⟩)))⟩
 have hk:k=ts.length:=by omega
 subst hk;rw[List.drop_of_length_le (y1u _)]at j2 j3;rw[pM,y1t]at j3;rw[<- j3];rw[<- j3]at e5 j4;have hRB:=k1.ok;refine Cv.cnd.mk (λe=> ?_) (λe=>Cv.cnd.mk (λe2=> ?_) (λe2=> ?_))
 ·have e:lf=0:=by simpa using e
  rw[y0y (by omega),y0y (by omega),y1t];exact⟨⟨m.p,o,zOg m.used c.id⟩,rF8 (rF6 ⟨rfl,ho,rfl⟩)⟩
 ·have e:¬lf=0:=by simpa using e
  have e2:c.time=1:=by simpa using e2
  rw[y0y (show ¬(lf≠0/\c.time≠1)by omega),y1a (show lf≠0/\c.time=1 from⟨e,e2⟩),y1t];have ha:=(ho.add c.inst c.id (decide (c.side=2)) c.price lf).1;rw[gC hs]at ha;exact⟨⟨o,c.inst,c.id,decide (c.side=2),c.price,lf⟩,rfl,rfl,gC hs,rfl,rfl,rfl,ho.fit hRB,λ_ _=>⟨⟨m.p,(MSt.addF ⟨o,c.inst,c.id,decide (c.side=2),c.price,lf⟩).1,zOg m.used c.id⟩,rF8 (rF6 ⟨rfl,ha,rfl⟩)⟩⟩
 ·have e:¬lf=0:=by simpa using e
  have e2:¬c.time=1:=by simpa using e2
  rw[y1a (show lf≠0/\c.time≠1 from⟨e,e2⟩),y0y (show ¬(lf≠0/\c.time=1)by omega)];exact⟨by rw[e5];omega,⟨m.p,o,zOg m.used c.id⟩,rF8 (rF4 ⟨rfl,by rw[y1i];rfl,rfl,ho,rfl⟩)⟩
def zUm:enterC.ok Tryz.prog 168:=okw mixed (gokc z1d (gokc yCt (gokc yIf gok0))) 0 (λ_=>[]) (λi=>yQg i) [] Tryz.func168 yQk
def yXp:mfindC.ok Tryz.prog 23:=okw (V:=yQp) mixed (gokc zWf gok0) 0 (λ_=>[]) (λ_=>[]) [0] Tryz.func23 λ(i:MfI) h=>by
 obtain⟨m,p,B,U,id⟩:=i;have h':m.Rep p B U/\BOk p B:=h;clear h;obtain⟨⟨ep,hR,eu⟩,hB⟩:=h';subst ep eu;have:=xN m.p;have:=hB.bl;exact⟨⟨m.s,m.p,B,id,0⟩,rfl,rfl,⟨hR,Z9⟩,λ_ _=>⟨(),k0q⟩⟩
def zPt:cancelC.ok Tryz.prog 140:=okw (V:=yHi) mixed (gokc zDq gok0) 0 (λ_=>[]) (λ_=>[]) [] Tryz.func140 λ(i:CaI) h=>by
 obtain⟨m,p,B,U,id,q,inst,o,X⟩:=i;have h':(m.Rep p B U/\BOk p B)/\X=gI B U id inst o:=h;clear h;obtain⟨⟨⟨ep,hR,eu⟩,hB⟩,hX⟩:=h';subst ep eu hX;have:=xN m.p;have:=hB.bl;exact⟨⟨m.s,m.p,B,id,o.qty⟩,rfl,rfl,rfl,⟨hR,Z9⟩,λo' ho=>⟨⟨m.p,o',m.used⟩,rF8 (rF6 ⟨rfl,ho,rfl⟩)⟩⟩
def zRd:reduceC.ok Tryz.prog 141:=okw (V:=z2r) mixed (gokc zDq gok0) 0 (λ_=>[]) (λ_=>[]) [] Tryz.func141 λ(i:CaI) h=>by
 obtain⟨m,p,B,U,id,q,inst,o,X⟩:=i;have h':(m.Rep p B U/\BOk p B)/\y9 (o.qty-q)/\X=pV B U id q inst o:=h;clear h;obtain⟨⟨⟨ep,hR,eu⟩,hB⟩,hw,hX⟩:=h';subst ep eu hX;have:=xN m.p;have:=hB.bl;have hw:=w64 hw;unfold z2r dI;dsimp only;rw[hw];exact⟨⟨m.s,m.p,B,id,q⟩,rfl,rfl,rfl,⟨hR,Z9⟩,λo' ho=>⟨⟨m.p,o',m.used⟩,rF8 (rF6 ⟨rfl,ho,rfl⟩)⟩⟩
def zRg {c:Cmd} (h:c.right=0):(if c.kind=1 then c.orderE else if c.kind≠2/\jO c.qty=ap then 24 else if c.kind=4/\uO c.price=ap then 23 else 0)=0:=by
 rw[Cmd.right]at h;by_cases c1:c.kind<1\/4<c.kind
 ·rw[y1a c1]at h;cases h
 rw[y0y c1]at h;by_cases c2:c.id<1\/1099511627776<c.id
 ·rw[y1a c2]at h;cases h
 rw[y0y c2]at h;exact h
def zPm {c:Cmd} (h:c.right=0) (hk:c.kind=1):(c.side=1\/c.side=2)/\(1<=c.qty/\c.qty<=1000000)/\(0<=c.least/\c.least<=c.qty):=by
 have h:=zRg h;rw[y1a hk,Cmd.orderE]at h;by_cases c1:c.side≠1/\c.side≠2
 ·rw[y1a c1]at h;cases h
 rw[y0y c1]at h;by_cases c2:c.time<1\/3<c.time
 ·rw[y1a c2]at h;cases h
 rw[y0y c2]at h;cases c3:jO c.qty with
 |false=>rw[y1a c3]at h;cases h
 |true=>
  rw[y0y (by rw[c3];decide)]at h;by_cases c4:c.least<0\/c.qty<c.least
  ·rw[y1a c4]at h;cases h
  simp only[jO,y1l,y2v]at c3;exact⟨oM,c3,oM⟩
def zGk {c:Cmd} (h:c.right=0) (hk:¬c.kind=1) (hk2:¬c.kind=2):1<=c.qty/\c.qty<=1000000:=by
 have h:=zRg h;rw[y0y hk]at h;cases c3:jO c.qty with
 |false=>rw[y1a ⟨hk2,c3⟩]at h;cases h
 |true=>
  simp only[jO,y1l,y2v]at c3;exact c3
def yQv (i:EnI) (h:orderC.cnd i):yEb i:=by
 obtain⟨m,p,B,U,c,X⟩:=i;have h':(m.Rep p B U/\BOk p B)/\c.right=0/\c.kind=1/\X=nX p B U c:=h;clear h;obtain⟨⟨hM,hB⟩,hr,hkd,hX⟩:=h';obtain⟨ep,hR,eu⟩:=hM;subst ep eu;have hM:m.Rep m.p B m.used:=⟨rfl,hR,rfl⟩
 obtain⟨hs,hq,hl⟩:=zPm hr hkd;have hbl:=hB.bl;have hcl:=xN m.p;unfold yEb x7 lD zEu zBu zEj zFv zFt zGh wR rK nY xS dI;dsimp only;refine⟨⟨m.p,c.inst,c.price⟩,rF8 (rF4 ⟨rfl,hB.ps,λ_ _=>Cv.cnd.mk (λe=> ?_) (λe=> ?_)⟩)⟩
 ·have e:m.p.price c.inst c.price≠0:=by simpa using e
  have hx:X=⟨B,m.used,a8 c (m.p.price c.inst c.price)⟩:=by rw[hX,nX,y1a e]
  exact⟨⟨c,m.p.price c.inst c.price⟩,rF6 (rF3 ⟨rfl,trivial,λ_ _=>⟨m,rF8 (rF4 ⟨rfl,by rw[hx];rfl,by rw[hx];exact hM⟩)⟩⟩)⟩
 have hpz:m.p.price c.inst c.price=0:=by simpa using e
 have hin:=zJu hpz;have hib:0<=c.inst/\c.inst<B.length:=by omega
 rw[nX,y0y (by rw[hpz];decide)]at hX;refine⟨0,λl=>l=c.lst,Cv.cnd.mk (λe=>⟨c.qty,rfl,by rw[Cmd.lst,y1a (by simpa using e)],k0q⟩) (λe=>⟨c.least,rfl,by rw[Cmd.lst,y0y (by simpa using e)],k0q⟩),?_⟩;rintro _ rfl;refine⟨zQd _ _,_,_,yEi _ _,zH (λe=> ?_) (λe=> ?_)⟩
 ·have hx:X=⟨B,m.used,a8 c 25⟩:=by rw[hX,y1a e]
  exact⟨⟨c,25⟩,rF6 (rF3 ⟨rfl,trivial,λ_ _=>⟨m,rF8 (rF4 ⟨rfl,by rw[hx];rfl,by rw[hx];exact hM⟩)⟩⟩)⟩
 rw[y0y e]at hX;refine⟨⟨m.s,m.p,B,0,ap⟩,rfl,⟨hR,Z9⟩,λ_ _=>zH (λe=> ?_) (λe=> ?_)⟩
 ·have hx:X=⟨B,m.used,a8 c 13⟩:=by rw[hX,y1a (by dsimp only at e;omega)]
  exact⟨⟨c,13⟩,rF6 (rF3 ⟨rfl,trivial,λ_ _=>⟨m,rF8 (rF4 ⟨rfl,by rw[hx];rfl,by rw[hx];exact hM⟩)⟩⟩)⟩
 rw[y0y (by dsimp only at e;omega)]at hX;have hok:RunI.ok ⟨m.s,m.p,B,c.inst,decide (c.side=2),c.price,c.qty⟩:=⟨hR,hB,hib,hq.1,hq.2⟩
 refine⟨ao,λb=>b=decide (0<c.lst/\c.qty-(jP m.p B c.inst (decide (c.side=2)) c.price c.qty).left<c.lst),zH (λe=>⟨⟨m.s,m.p,B,c.inst,decide (c.side=2),c.price,c.qty⟩,rfl,gC hs,rfl,rfl,rfl,hok,λ_ _=>⟨_,rfl,decide_eq_decide.2 ⟨λx=>⟨e,x⟩,λx=>x.2⟩,k0q⟩⟩) (λe=>⟨ap,rfl,(y1s λx=>e x.1).symm,k0q⟩),?_⟩;rintro _ rfl;refine zH (λe=> ?_) (λe=> ?_)
 ·have hx:X=⟨B,m.used,a8 c 28⟩:=by rw[hX,y1a e]
  exact⟨⟨c,28⟩,rF6 (rF3 ⟨rfl,trivial,λ_ _=>⟨m,rF8 (rF4 ⟨rfl,by rw[hx];rfl,by rw[hx];exact hM⟩)⟩⟩)⟩
 rw[y0y e]at hX;refine⟨ao,λb=>b=decide (c.time=1/\bR m.p B c.inst (decide (c.side=2)) c.price c.qty=ao),Cv.cnd.mk (λe=>⟨⟨m.s,m.p,B,c.inst,decide (c.side=2),c.price,c.qty⟩,rfl,gC hs,rfl,rfl,rfl,hok,λ_ _=>⟨_,rfl,?_,k0q⟩⟩) (λe=>⟨ap,rfl,(y1s λx=> ?_).symm,k0q⟩),?_⟩
 ·have e:c.time=1:=by simpa using e
  dsimp only;cases hb:bR m.p B c.inst (decide (c.side=2)) c.price c.qty with
  |true=>exact(y1v ⟨e,rfl⟩).symm
  |false=>exact(y1s λx=>by cases x.2).symm
 ·rw[x.1]at e;cases e
 rintro _ rfl;refine zH (λe=> ?_) (λe=> ?_)
 ·have hx:X=⟨B,m.used,a8 c 23⟩:=by rw[hX,y1a e]
  exact⟨⟨c,23⟩,rF6 (rF3 ⟨rfl,trivial,λ_ _=>⟨m,rF8 (rF4 ⟨rfl,by rw[hx];rfl,by rw[hx];exact hM⟩)⟩⟩)⟩
 rw[y0y e]at hX;exact⟨⟨m,m.p,B,m.used,c,X⟩,rF8 (rF8 (rF5 ⟨rfl,⟨⟨hM,hB⟩,⟨hib,hq,hs⟩,hpz,hX⟩,λo ho=>⟨o,rF8 (rF6 ho)⟩⟩))⟩
def yGa:orderC.ok Tryz.prog 138:=okw mixed (gokc tA (gokc z1b (gokc z2f (gokc z9c (gokc zYd (gokc zUm gok0)))))) 0 (λ_=>ySi) (λ_=>[]) [] Tryz.func138 yQv
def zSb {p:Prd} {B:List (List zG)} (h:BWf p B) {id inst:Int} {o:zG} (hf:zP B id=(inst,o,ao)):(0<=inst/\inst<B.length)/\zMt o:=by
 rw[zP]at hf;split at hf
 ·cases hf
 ·rename_i k hk;obtain⟨L,hL,hh⟩:=uM hk;rw[zV hL]at hf;cases hf;have hlt:=(y1c.1 hL).1;obtain⟨o,ho,e⟩:=y2m.1 (hasId_iff.1 hh);have hg:=pT (h.od k L hL).2.1 ho;rw[e]at hg;rw[hg];exact⟨oM,(h.od k L hL).1 o ho⟩
def zLv (p:Prd) (c:Cmd):∀(l:List jT) (left:Int),(∀t∈l,SOk t/\1<=t.qty)->(pM p c l left).length<=1503*l.length
 |[],_,_=>y1u _
 |t::l,left,h=>by
  have a:=zLv p c l (left-t.qty) λu hu=>h u (y1g _ hu)
  have b:=zRa p c t (left-t.qty);have d:=(h t y1f).1.2.2;rw[pM,y0x,y1d];omega
def zAx {p:Prd} {B:List (List zG)} (h:BWf p B) (U:List Int) {c:Cmd} (hi:0<=c.inst/\c.inst<B.length) (hq:1<=c.qty/\c.qty<=1000000):(mC p B U c).R.length<=1503000002:=by
 obtain⟨s1,s2⟩:=zSi (inst:=c.inst) (sd:=decide (c.side=2)) (price:=c.price) _ c.qty B (y1u _) h hi;have k3:=(m8 (inst:=c.inst) (sd:=decide (c.side=2)) (price:=c.price) _ c.qty B (y1u _) h).2.2 oM;have:=zTd s1;have:=zLv p c _ c.qty s1;rw[zGe];dsimp only;rw[y0x,y1d];split
 ·rw[y1d,y2r];omega
 ·rw[y2r];omega
def yDo (i:z6x) (h:replaceC.cnd i):zYn i:=by
 obtain⟨m,p,B,U,c,inst,o,X⟩:=i;have h':m.Rep p B U/\BOk p B/\zP B c.id=(inst,o,ao)/\(1<=c.qty/\c.qty<=1000000)/\X=dD p B U c inst o:=h;clear h;obtain⟨hM,hB,hf,hq,hX⟩:=h';obtain⟨ep,hR,eu⟩:=hM;subst ep eu;have hM:m.Rep m.p B m.used:=⟨rfl,hR,rfl⟩
 have hwf:=hR.wf hB;obtain⟨hin,hoo⟩:=zSb hwf hf;have hos:=hoo.s;have hoq:=hoo.q;have hbl:=hB.bl;have hcl:=xN m.p;unfold zYn zAg x7 hZ rK cC pR xS;dsimp only;refine⟨⟨m.p,inst,c.price⟩,rF8 (rF4 ⟨rfl,hB.ps,λ_ _=>Cv.cnd.mk (λe=> ?_) (λe=> ?_)⟩)⟩
 ·have e:m.p.price inst c.price≠0:=by simpa using e
  have hx:X=⟨B,m.used,a8 c (m.p.price inst c.price)⟩:=by rw[hX,dD,y1a e]
  exact⟨⟨c,m.p.price inst c.price⟩,rF6 (rF3 ⟨rfl,trivial,λ_ _=>⟨m,rF8 (rF4 ⟨rfl,by rw[hx];rfl,by rw[hx];exact hM⟩)⟩⟩)⟩
 have hpz:m.p.price inst c.price=0:=by simpa using e
 rw[dD,y0y (by rw[hpz];decide)]at hX;have hw:ag.wrap (o.qty-c.qty)=o.qty-c.qty:=w64 oM;rw[hw];refine(λhT=>Cv.cnd.mk (λe1=>zH (λe2=> ?_) (λe2=>hT λx=>e2 x.2)) (λe1=>hT λx=>by rw[x.1]at e1;simp at e1)) (λ(hn:¬(c.price=o.price/\c.qty<=o.qty))=> ?_)
 ·have e1:c.price=o.price:=by simpa using e1
  rw[y1a ⟨e1,e2⟩]at hX;exact⟨⟨m,m.p,B,m.used,c.id,o.qty-c.qty,inst,o,X⟩,rF8 (rF8 (rF4 ⟨rfl,⟨⟨hM,hB⟩,⟨Z9,Z9⟩,hX⟩,λo' ho=>⟨o',rF8 (rF6 ho)⟩⟩))⟩
 rw[y0y hn]at hX;have hBt:=hB.take c.id o.qty;refine⟨m.s,rfl,hR.small hB,λ_ _=>⟨⟨m.s,m.p,B,c.id,o.qty⟩,rfl,rfl,rfl,⟨hR,Z9⟩,λo' ho'=>⟨⟨o',m.p,(qM B c.id o.qty).1,inst,decide (o.side=2),c.price,c.qty⟩,rfl,gC hos,rfl,rfl,rfl,⟨ho',hBt,by dsimp only;rw[mR];exact hin,hq.1,hq.2⟩,λ_ _=>Cv.cnd.mk (λe=> ?_) (λe=> ?_)⟩⟩⟩
 ·have hx:X=⟨B,m.used,a8 c 23⟩:=by rw[hX,y1a e]
  exact⟨⟨c,23⟩,rF6 (rF3 ⟨rfl,trivial,λ_ _=>⟨m,rF8 (rF4 ⟨rfl,by rw[hx];rfl,by rw[hx];exact hM⟩)⟩⟩)⟩
 rw[y0y (by rw[e];decide)]at hX;refine⟨⟨m,m.p,B,m.used,c.id,0,inst,o,gI B m.used c.id inst o⟩,rF8 (rF8 (rF3 ⟨rfl,⟨⟨hM,hB⟩,rfl⟩,λo1 ho1=>⟨⟨o1,m.p,(qM B c.id o.qty).1,m.used,⟨1,c.id,inst,o.side,c.price,c.qty,0,1,[]⟩,mC m.p (qM B c.id o.qty).1 m.used ⟨1,c.id,inst,o.side,c.price,c.qty,0,1,[]⟩⟩,rF8 (rF8 (rF5 ⟨rfl,⟨⟨ho1,hBt⟩,⟨by dsimp only;rw[mR];exact hin,hq,hos⟩,hpz,rfl⟩,λo2 ho2=>⟨?_,o2,rfl,rfl,rfl,rfl,rfl,rfl,rfl,rfl,rfl,rfl,rfl,rfl,rfl,?_,?_⟩⟩))⟩⟩))⟩
 ·have:=zAx (hwf.take c.id o.qty) m.used (c:=⟨1,c.id,inst,o.side,c.price,c.qty,0,1,[]⟩) (by dsimp only;rw[mR];exact hin) hq;dsimp only;rw[y0z,y0z];have e1:(gI B m.used c.id inst o).R.length=1:=rfl;omega
 ·rw[hX,<- y1i];rfl
 ·rw[hX];exact ho2
def zYu:replaceC.ok Tryz.prog 139:=okw mixed (gokc tA (gokc z1b (gokc zKb (gokc zDq (gokc zYd (gokc zPt (gokc zRd (gokc zUm gok0)))))))) 0 (λ_=>[]) (λ_=>[]) [] Tryz.func139 yDo
def vdo (i:EnI) (h:doC.cnd i):Vdo i:=by
 obtain⟨m,p,B,U,c,X⟩:=i;have h':(m.Rep p B U/\BOk p B)/\c.label.length<=140737488355328/\y9 c.qty/\X=doF p B U c:=h;clear h;obtain⟨⟨hM,hB⟩,hlb,hqr,hX⟩:=h';obtain⟨ep,hR,eu⟩:=hM;subst ep eu;have hM:m.Rep m.p B m.used:=⟨rfl,hR,rfl⟩
 have hwf:=hR.wf hB;have hbl:=hB.bl;have hcl:=xN m.p;unfold Vdo nY yAb cC z1k zTt zSt;dsimp only;refine⟨c,rF8 ⟨rfl,hlb,λ_ _=>Cv.cnd.mk (λe=> ?_) (λe=> ?_)⟩⟩
 ·have e:c.right≠0:=by simpa using e
  have hx:X=⟨B,m.used,a8 c c.right⟩:=by rw[hX,doF,y1a e]
  exact⟨⟨c,c.right⟩,rF6 (rF3 ⟨rfl,trivial,λ_ _=>⟨m,rF8 (rF4 ⟨rfl,by rw[hx];rfl,by rw[hx];exact hM⟩)⟩⟩)⟩
 have hr:c.right=0:=by simpa using e
 rw[doF,y0y (by rw[hr];decide)]at hX;refine Cv.cnd.mk (λe=> ?_) (λe=> ?_)
 ·have e:c.kind=1:=by simpa using e
  rw[y1a e]at hX;exact⟨⟨m,m.p,B,m.used,c,X⟩,rF8 (rF8 (rF5 ⟨rfl,⟨⟨hM,hB⟩,hr,e,hX⟩,λo ho=>⟨o,rF8 (rF6 ho)⟩⟩))⟩
 have hk:¬c.kind=1:=by simpa using e
 rw[y0y hk]at hX;refine(λhT=>⟨hT,rfl,trivial,hT⟩) ?_;refine⟨⟨m.s,m.p,B,c.id,0⟩,rfl,rfl,⟨hR,Z9⟩,λ_ _=>Cv.cnd.mk (λe=> ?_) (λe=> ?_)⟩
 ·have e:(zP B c.id).2.2=ap:=by simpa using e
  have hx:X=⟨B,m.used,a8 c 26⟩:=by rw[hX,y1a e]
  exact⟨⟨c,26⟩,rF6 (rF3 ⟨rfl,trivial,λ_ _=>⟨m,rF8 (rF4 ⟨rfl,by rw[hx];rfl,by rw[hx];exact hM⟩)⟩⟩)⟩
 have e:(zP B c.id).2.2=ao:=by simpa using e
 rw[y0y (by rw[e];decide)]at hX;dsimp only;have hf:zP B c.id=((zP B c.id).1,(zP B c.id).2.1,ao):=by rw[<- e]
 generalize (zP B c.id).1=inst at*;generalize (zP B c.id).2.1=o at*;obtain⟨hin,hoo⟩:=zSb hwf hf;have hoq:=hoo.q;refine Cv.cnd.mk (λe4=> ?_) (λe4=>Cv.cnd.mk (λe2=> ?_) (λe2=>zH (λe3=> ?_) (λe3=> ?_)))
 ·have e4:c.kind=4:=by simpa using e4
  rw[y1a e4]at hX;exact⟨⟨m,m.p,B,m.used,c,inst,o,X⟩,rF8 (rF8 (rF8 (rF3 ⟨rfl,⟨hM,hB,hf,zGk hr hk (by rw[e4];decide),hX⟩,λo' ho=>⟨o',rF8 (rF6 ho)⟩⟩)))⟩
 all_goals
  have e4:¬c.kind=4:=by simpa using e4
  rw[y0y e4]at hX
 ·have e2:c.kind=2:=by simpa using e2
  rw[y1a (.inl e2)]at hX;exact⟨⟨m,m.p,B,m.used,c.id,0,inst,o,X⟩,rF8 (rF8 (rF3 ⟨rfl,⟨⟨hM,hB⟩,hX⟩,λo' ho=>⟨o',rF8 (rF6 ho)⟩⟩))⟩
 ·rw[y1a (.inr (by omega))]at hX;exact⟨⟨m,m.p,B,m.used,c.id,0,inst,o,X⟩,rF8 (rF8 (rF3 ⟨rfl,⟨⟨hM,hB⟩,hX⟩,λo' ho=>⟨o',rF8 (rF6 ho)⟩⟩))⟩
 ·have e2:¬c.kind=2:=by simpa using e2
  have hq:=zGk hr hk e2;rw[y0y (by omega)]at hX;exact⟨⟨m,m.p,B,m.used,c.id,c.qty,inst,o,X⟩,rF8 (rF8 (rF4 ⟨rfl,⟨⟨hM,hB⟩,⟨Z9,Z9⟩,hX⟩,λo' ho=>⟨o',rF8 (rF6 ho)⟩⟩))⟩
def yXq:doC.ok Tryz.prog 98:=okw mixed (gokc zWc (gokc z1b (gokc zWf (gokc yGa (gokc zYu (gokc zPt (gokc zRd gok0))))))) 0 (λ_=>[]) (λ_=>[]) [0] Tryz.func98 vdo
end Sx
