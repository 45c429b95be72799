/- Texts of ours. No condition. -/
import Derived.Test.YthkofaanekmpmaaGreatS10
set_option linter.all false
open Sx.AObj renaming fro->aa,cells->ab,objs->ac,map->ae,own->af
open Go.IntKind renaming i64->ag
open List renaming map->aj
open Go.Value renaming int->ak,string->am
open Bool renaming true->ao,false->ap
namespace Sx
set_option maxRecDepth 100000
open Go Cv Go.Proofs
def zCq (a:Mkt) (b:EnI) (c:EnJ):Prop:=zX a.used=uN (ak ag b.c.id) [D.v (.bool ao)] (zX b.m.used)/\aa 1 (iE a.p.months)=yU b.m 3/\aa 1 (iE a.p.settle)=yU b.m 4/\aj xU b.X.R=aj xU c.out/\a.Rep b.p b.X.B b.X.U
def vX (a:EnI):=(D.v (am (sb a.c.label)))
def yGj (i:EnI):Prop:=
 (∀(a:Value×List D),a∈zX i.m.used->like (ak ag i.c.id) a.fst=ao)/\∃(a:RunI),a.inst=i.c.inst/\zC a.sd=i.c.side/\a.price=i.c.price/\a.q=i.c.qty/\zD a.s=yU i.m 1/\(qO a)/\∀(b:MSt),b.Rep a.p a.r.B->∃(c:EnJ),c.left=i.c.qty/\(↑c.k:Int)=0/\aj xU c.out=[[dI 1,dI i.c.id,dI i.c.inst,dI i.c.side,dI i.c.price,dI i.c.qty,dI i.c.qty,dI 0]]/\∃(d:EnJ->Prop),∃(e:EnJ->Nat),d c/\∀(f:EnJ),d f->cnd (decide ((↑f.k:Int)<(↑(aj wD a.r.steps).length:Int))) ((0<=(↑f.k:Int)/\(↑f.k:Int)<(↑(aj wD a.r.steps).length:Int))/\∃(g:Int),∃(h:Int),∃(j:Bool),∃(k:List (List D)),zE (aj wD a.r.steps) (↑f.k:Int).toNat 0 4=some [dI g,dI h,D.v (.bool j),D.ro 6 k]/\∃(l:StI'),l.c.kind=i.c.kind/\l.c.id=i.c.id/\l.c.inst=i.c.inst/\l.c.side=i.c.side/\l.c.price=i.c.price/\l.c.qty=i.c.qty/\l.c.least=i.c.least/\l.c.time=i.c.time/\sb l.c.label=sb i.c.label/\l.x.price=g/\l.x.qty=h/\l.x.implied=j/\aj yW l.x.fills=k/\l.left=ag.wrap (f.left-h)/\sb l.m.p.code=sb i.m.p.code/\l.m.p.tick=i.m.p.tick/\l.m.p.low=i.m.p.low/\l.m.p.high=i.m.p.high/\l.m.p.wide=i.m.p.wide/\l.m.p.rule=i.m.p.rule/\l.m.p.top=i.m.p.top/\l.m.p.least=i.m.p.least/\l.m.p.part=i.m.p.part/\zD l.m.s=zD b/\zX l.m.used=uN (ak ag i.c.id) [D.v (.bool ao)] (zX i.m.used)/\aa 1 (iE l.m.p.months)=yU i.m 3/\aa 1 (iE l.m.p.settle)=yU i.m 4/\((l.m.p.check=0/\l.m.p.code.length<=1099511627776/\l.m.p.months.length<=1099511627776/\l.m.p.settle.length<=1099511627776)/\((-9223372036854775808)<=l.x.price/\l.x.price<=9223372036854775807)/\l.x.fills.length<=1000000/\(l.c.side=1\/l.c.side=2)/\∀(m:cK),m∈l.x.fills->m.side=1\/m.side=2)/\∀(m:Unit),True->((aj xU f.out).length+(aj xU (mV l.m.p l.c l.x l.left)).length)*(64:Nat)<=(140737488355328:Nat)/\∃(n:EnJ),n.left=ag.wrap (f.left-h)/\(↑n.k:Int)=ag.wrap ((↑f.k:Int)+1)/\aj xU n.out=aj xU f.out++aj xU (mV l.m.p l.c l.x l.left)/\d n/\e n<e f/\zD l.m.s=zD b/\rE (af 321 4 (aj wD a.r.steps))/\rE (ab [V.d (dI i.c.kind),V.d (dI i.c.id),V.d (dI i.c.inst),V.d (dI i.c.side),V.d (dI i.c.price),V.d (dI i.c.qty),V.d (dI i.c.least),V.d (dI i.c.time),V.d (vX i)] 80)/\ab [V.d (D.v (am (sb l.m.p.code))),V.own 3,V.d (dI l.m.p.tick),V.d (dI l.m.p.low),V.d (dI l.m.p.high),V.d (dI l.m.p.wide),V.d (dI l.m.p.rule),V.d (dI l.m.p.top),V.d (dI l.m.p.least),V.d (dI l.m.p.part),V.own 4,V.nm 1 0,V.mp 2] (179:TypeId)=yU i.m 0/\ae (zX l.m.used)=ae (uN (ak ag i.c.id) [D.v (.bool ao)] (zX i.m.used))/\aa 1 (iE l.m.p.months)=yU i.m 3/\aa 1 (iE l.m.p.settle)=yU i.m 4) (cnd (a.r.left==0) (∃(g:Mkt),sb g.p.code=sb i.m.p.code/\g.p.tick=i.m.p.tick/\g.p.low=i.m.p.low/\g.p.high=i.m.p.high/\g.p.wide=i.m.p.wide/\g.p.rule=i.m.p.rule/\g.p.top=i.m.p.top/\g.p.least=i.m.p.least/\g.p.part=i.m.p.part/\zD g.s=zD b/\zCq g i f) (cnd (i.c.time==1) (∃(g:SaI),g.inst=i.c.inst/\g.id=i.c.id/\zC g.sd=i.c.side/\g.price=i.c.price/\g.qty=a.r.left/\zD g.s=zD b/\((g.s.p.code.length<=1099511627776/\g.s.p.months.length<=1099511627776/\g.s.p.settle.length<=1099511627776)/\g.s.books.length<=1000000/\∀(h:Book),h∈g.s.books->(h.a.slots.length<=1000000/\(h.a.free≠0->∃(j:Slot),j∈h.a.slots/\j.used=ap)/\∀(j:cJ),j∈h.a.queues->j.last=(-1)\/0<=j.last/\j.last<(↑h.a.slots.length:Int))/\h.a.queues.length<=100000/\h.buys.length<=100000/\h.sells.length<=100000/\h.spare.length<=100000)/\∀(h:Unit),True->∃(j:Mkt),sb j.p.code=sb i.m.p.code/\j.p.tick=i.m.p.tick/\j.p.low=i.m.p.low/\j.p.high=i.m.p.high/\j.p.wide=i.m.p.wide/\j.p.rule=i.m.p.rule/\j.p.top=i.m.p.top/\j.p.least=i.m.p.least/\j.p.part=i.m.p.part/\zD j.s=zD (MSt.addF g).fst/\zCq j i f) (((aj xU f.out).length+1)*(64:Nat)<=(140737488355328:Nat)/\∃(g:Mkt),sb g.p.code=sb i.m.p.code/\g.p.tick=i.m.p.tick/\g.p.low=i.m.p.low/\g.p.high=i.m.p.high/\g.p.wide=i.m.p.wide/\g.p.rule=i.m.p.rule/\g.p.top=i.m.p.top/\g.p.least=i.m.p.least/\g.p.part=i.m.p.part/\zD g.s=zD b/\zX g.used=uN (ak ag i.c.id) [D.v (.bool ao)] (zX i.m.used)/\aa 1 (iE g.p.months)=yU i.m 3/\aa 1 (iE g.p.settle)=yU i.m 4/\aj xU i.X.R=aj xU f.out++[[dI 4,dI i.c.id,dI i.c.inst,dI i.c.side,dI i.c.price,dI a.r.left,dI 0,dI 0]]/\g.Rep i.p i.X.B i.X.U)))
def zDg (a:EnI):Prop:=ab [V.d (dI a.c.kind),V.d (dI a.c.id),V.d (dI a.c.inst),V.d (dI a.c.side),V.d (dI a.c.price),V.d (dI a.c.qty),V.d (dI a.c.least),V.d (dI a.c.time),V.d (vX a)] 80=ab [V.d (dI a.c.kind),V.d (dI a.c.id),V.d (dI a.c.inst),V.d (dI a.c.side),V.d (dI a.c.price),V.d (dI a.c.qty),V.d (dI a.c.least),V.d (dI a.c.time),V.d (vX a)] 80/\rE (yU a.m 0)/\rE (yU a.m 2)/\rE (yU a.m 3)/\rE (yU a.m 4)
def zIs (a:Bool->Prop) (b:SoI) (c:EnI):Prop:=∃(d:Bool),d=ap/\a d/\rE (zD b.s)/\zDg c
def zHo (a:Int->Prop) (b:Int) (c:EnI):Prop:=a b/\rE (ab [V.d (dI c.c.kind),V.d (dI c.c.id),V.d (dI c.c.inst),V.d (dI c.c.side),V.d (dI c.c.price),V.d (dI c.c.qty),V.d (dI c.c.least),V.d (dI c.c.time),V.d (vX c)] 80)/\rE (yU c.m 0)/\rE (yU c.m 1)/\rE (yU c.m 2)/\rE (yU c.m 3)/\rE (yU c.m 4)
def zGt (a:Bool->Prop) (b:Bool) (c:RunI) (d:SoI) (e:EnI):Prop:=a b/\zD c.s=zD d.s/\zDg e
def zCt (a:Mkt) (b:EnI) (c:RjI):Prop:=zX a.used=zX b.m.used/\aa 1 (iE a.p.months)=yU b.m 3/\aa 1 (iE a.p.settle)=yU b.m 4/\aj xU b.X.R=[xU (Rep.mk 2 c.c.id 0 0 0 0 0 c.why)]/\a.Rep b.p b.X.B b.X.U
def zDw (a:EnI) (b:RjI):Prop:=True/\∀(c:Unit),True->∃(d:Mkt),sb d.p.code=sb a.m.p.code/\d.p.tick=a.m.p.tick/\d.p.low=a.m.p.low/\d.p.high=a.m.p.high/\d.p.wide=a.m.p.wide/\d.p.rule=a.m.p.rule/\d.p.top=a.m.p.top/\d.p.least=a.m.p.least/\d.p.part=a.m.p.part/\zD d.s=yU a.m 1/\zCt d a b
def rN (a:EnI) (b:SoI) (c:RjI):Prop:=True/\∀(d:Unit),True->∃(e:Mkt),sb e.p.code=sb a.m.p.code/\e.p.tick=a.m.p.tick/\e.p.low=a.m.p.low/\e.p.high=a.m.p.high/\e.p.wide=a.m.p.wide/\e.p.rule=a.m.p.rule/\e.p.top=a.m.p.top/\e.p.least=a.m.p.least/\e.p.part=a.m.p.part/\zD e.s=zD b.s/\zCt e a c
def sB (a:EnI) (b:EnI):Prop:=∀(c:Mkt),c.Rep a.p a.X.B a.X.U->∃(d:Mkt),sb d.p.code=sb c.p.code/\d.p.tick=c.p.tick/\d.p.low=c.p.low/\d.p.high=c.p.high/\d.p.wide=c.p.wide/\d.p.rule=c.p.rule/\d.p.top=c.p.top/\d.p.least=c.p.least/\d.p.part=c.p.part/\zD d.s=zD c.s/\zX d.used=zX c.used/\aa 1 (iE d.p.months)=aa 1 (iE c.p.months)/\aa 1 (iE d.p.settle)=aa 1 (iE c.p.settle)/\aj xU b.X.R=aj xU a.X.R/\d.Rep b.p b.X.B b.X.U
def sL (a:EnI):Prop:=(a.m.Rep a.p a.B a.U/\BOk a.p a.B)/\((0<=a.c.inst/\a.c.inst<(↑a.B.length:Int))/\(1<=a.c.qty/\a.c.qty<=1000000)/\(a.c.side=1\/a.c.side=2))/\a.p.price a.c.inst a.c.price=0/\a.X=cV a.p a.B a.U a.c
def yDj (i:EnI):Prop:=
 ∃(a:tO),sb a.p.code=sb i.m.p.code/\iE a.p.months=iE i.m.p.months/\a.p.tick=i.m.p.tick/\a.p.low=i.m.p.low/\a.p.high=i.m.p.high/\a.p.wide=i.m.p.wide/\a.p.rule=i.m.p.rule/\a.p.top=i.m.p.top/\a.p.least=i.m.p.least/\a.p.part=i.m.p.part/\iE a.p.settle=iE i.m.p.settle/\a.a=i.c.inst/\a.b=i.c.price/\(x7 a)/\∀(b:Unit),True->cnd (a.p.price a.a a.b !=0) (∃(c:RjI),c.c.kind=i.c.kind/\c.c.id=i.c.id/\c.c.inst=i.c.inst/\c.c.side=i.c.side/\c.c.price=i.c.price/\c.c.qty=i.c.qty/\c.c.least=i.c.least/\c.c.time=i.c.time/\sb c.c.label=sb i.c.label/\c.why=a.p.price a.a a.b/\zDw i c) (∃(c:Int),∃(d:Int->Prop),cnd (i.c.time==3) (∃(e:Int),e=i.c.qty/\zHo d e i) (∃(e:Int),e=i.c.least/\zHo d e i)/\∀(e:Int),d e->(∀(f:Value×List D),f∈zX i.m.used->like (ak ag i.c.id) f.fst=ao)/\∃(f:Bool),∃(g:Bool),(kH (ak ag i.c.id) (zX i.m.used)=some [D.v (.bool g)]/\f=ao\/kH (ak ag i.c.id) (zX i.m.used)=none/\[D.v (.bool g)]=[D.v (.bool ap)]/\f=ap)/\cnd g (∃(h:RjI),h.c.kind=i.c.kind/\h.c.id=i.c.id/\h.c.inst=i.c.inst/\h.c.side=i.c.side/\h.c.price=i.c.price/\h.c.qty=i.c.qty/\h.c.least=i.c.least/\h.c.time=i.c.time/\sb h.c.label=sb i.c.label/\h.why=25/\zDw i h) (∃(h:SoI),zD h.s=yU i.m 1/\(h.s.Rep h.p h.B/\h.B.length<=1000)/\∀(j:Unit),True->cnd (decide ((↑(zVq h.B):Int)>=250)) (∃(k:RjI),k.c.kind=i.c.kind/\k.c.id=i.c.id/\k.c.inst=i.c.inst/\k.c.side=i.c.side/\k.c.price=i.c.price/\k.c.qty=i.c.qty/\k.c.least=i.c.least/\k.c.time=i.c.time/\sb k.c.label=sb i.c.label/\k.why=13/\rN i h k) (∃(k:Bool),∃(l:Bool->Prop),cnd (decide (e>0)) (∃(m:RunI),m.inst=i.c.inst/\zC m.sd=i.c.side/\m.price=i.c.price/\m.q=i.c.qty/\zD m.s=zD h.s/\(qO m)/\∀(n:Unit),True->∃(p:Bool),p=decide (m.q-m.r.left<e)/\zGt l p m h i) (zIs l h i)/\∀(m:Bool),l m->cnd m (∃(n:RjI),n.c.kind=i.c.kind/\n.c.id=i.c.id/\n.c.inst=i.c.inst/\n.c.side=i.c.side/\n.c.price=i.c.price/\n.c.qty=i.c.qty/\n.c.least=i.c.least/\n.c.time=i.c.time/\sb n.c.label=sb i.c.label/\n.why=28/\rN i h n) (∃(n:Bool),∃(p:Bool->Prop),cnd (i.c.time==1) (∃(q:RunI),q.inst=i.c.inst/\zC q.sd=i.c.side/\q.price=i.c.price/\q.q=i.c.qty/\zD q.s=zD h.s/\(qO q)/\∀(r:Unit),True->∃(s:Bool),s=aM q.p q.B q.inst q.sd q.price q.q/\zGt p s q h i) (zIs p h i)/\∀(q:Bool),p q->cnd q (∃(r:RjI),r.c.kind=i.c.kind/\r.c.id=i.c.id/\r.c.inst=i.c.inst/\r.c.side=i.c.side/\r.c.price=i.c.price/\r.c.qty=i.c.qty/\r.c.least=i.c.least/\r.c.time=i.c.time/\sb r.c.label=sb i.c.label/\r.why=23/\rN i h r) (∃(r:EnI),r.c.kind=i.c.kind/\r.c.id=i.c.id/\r.c.inst=i.c.inst/\r.c.side=i.c.side/\r.c.price=i.c.price/\r.c.qty=i.c.qty/\r.c.least=i.c.least/\r.c.time=i.c.time/\sb r.c.label=sb i.c.label/\sb r.m.p.code=sb i.m.p.code/\r.m.p.tick=i.m.p.tick/\r.m.p.low=i.m.p.low/\r.m.p.high=i.m.p.high/\r.m.p.wide=i.m.p.wide/\r.m.p.rule=i.m.p.rule/\r.m.p.top=i.m.p.top/\r.m.p.least=i.m.p.least/\r.m.p.part=i.m.p.part/\zD r.m.s=zD h.s/\zX r.m.used=zX i.m.used/\aa 1 (iE r.m.p.months)=yU i.m 3/\aa 1 (iE r.m.p.settle)=yU i.m 4/\(sL r)/\sB r i)))))
def yNq (i:CaI):Prop:=
 ∃(i_1:StI),i_1.id=i.id/\i_1.q=i.o.qty/\zD i_1.s=yU i.m 1/\(i_1.s.Rep i_1.p i_1.B/\i_1.B.length<=1000)/\∀(o:MSt),o.Rep i_1.p (kE i_1.B i_1.id i_1.q).fst->∃(o_1:Mkt),sb o_1.p.code=sb i.m.p.code/\o_1.p.tick=i.m.p.tick/\o_1.p.low=i.m.p.low/\o_1.p.high=i.m.p.high/\o_1.p.wide=i.m.p.wide/\o_1.p.rule=i.m.p.rule/\o_1.p.top=i.m.p.top/\o_1.p.least=i.m.p.least/\o_1.p.part=i.m.p.part/\zD o_1.s=zD o/\zX o_1.used=zX i.m.used/\aa 1 (iE o_1.p.months)=yU i.m 3/\aa 1 (iE o_1.p.settle)=yU i.m 4/\aj xU i.X.R=[[D.v (.int .i64 4),D.v (.int .i64 i.id),D.v (.int .i64 i.inst),D.v (.int .i64 i.o.side),D.v (.int .i64 i.o.price),D.v (.int .i64 i.o.qty),D.v (.int .i64 0),D.v (.int .i64 0)]]/\o_1.Rep i.p i.X.B i.X.U
def z8j (i:CaI):Prop:=
 ∃(a:StI),a.id=i.id/\a.q=i.q/\zD a.s=yU i.m 1/\(a.s.Rep a.p a.B/\a.B.length<=1000)/\∀(b:MSt),b.Rep a.p (kE a.B a.id a.q).fst->∃(c:Mkt),sb c.p.code=sb i.m.p.code/\c.p.tick=i.m.p.tick/\c.p.low=i.m.p.low/\c.p.high=i.m.p.high/\c.p.wide=i.m.p.wide/\c.p.rule=i.m.p.rule/\c.p.top=i.m.p.top/\c.p.least=i.m.p.least/\c.p.part=i.m.p.part/\zD c.s=zD b/\zX c.used=zX i.m.used/\aa 1 (iE c.p.months)=yU i.m 3/\aa 1 (iE c.p.settle)=yU i.m 4/\aj xU i.X.R=[[dI 5,dI i.id,dI i.inst,dI i.o.side,dI i.o.price,dI i.q,dI (ag.wrap (i.o.qty-i.q)),dI 0]]/\c.Rep i.p i.X.B i.X.U
def rZ (a:Mkt) (b:yBi) (c:RjI):Prop:=zX a.used=zX b.m.used/\aa 1 (iE a.p.months)=yU b.m 3/\aa 1 (iE a.p.settle)=yU b.m 4/\aj xU b.X.R=[xU (Rep.mk 2 c.c.id 0 0 0 0 0 c.why)]/\a.Rep b.p b.X.B b.X.U
def tY (a:yBi):Prop:=∃(b:MSt),zD b=yU a.m 1/\(fF b)/\∀(c:Unit),True->∃(d:StI),d.id=a.c.id/\d.q=a.o.qty/\zD d.s=zD b/\(d.s.Rep d.p d.B/\d.B.length<=1000)/\∀(e:MSt),e.Rep d.p (kE d.B d.id d.q).fst->∃(f:RunI),f.inst=a.inst/\zC f.sd=a.o.side/\f.price=a.c.price/\f.q=a.c.qty/\zD f.s=zD e/\(qO f)/\∀(g:Unit),True->cnd (aM f.p f.B f.inst f.sd f.price f.q) (∃(h:RjI),h.c.kind=a.c.kind/\h.c.id=a.c.id/\h.c.inst=a.c.inst/\h.c.side=a.c.side/\h.c.price=a.c.price/\h.c.qty=a.c.qty/\h.c.least=a.c.least/\h.c.time=a.c.time/\sb h.c.label=sb a.c.label/\h.why=23/\True/\∀(j:Unit),True->∃(k:Mkt),sb k.p.code=sb a.m.p.code/\k.p.tick=a.m.p.tick/\k.p.low=a.m.p.low/\k.p.high=a.m.p.high/\k.p.wide=a.m.p.wide/\k.p.rule=a.m.p.rule/\k.p.top=a.m.p.top/\k.p.least=a.m.p.least/\k.p.part=a.m.p.part/\zD k.s=zD b/\rZ k a h) (∃(h:CaI),h.id=a.c.id/\h.inst=a.inst/\h.o.id=a.o.id/\h.o.side=a.o.side/\h.o.price=a.o.price/\h.o.qty=a.o.qty/\h.o.top=a.o.top/\sb h.m.p.code=sb a.m.p.code/\h.m.p.tick=a.m.p.tick/\h.m.p.low=a.m.p.low/\h.m.p.high=a.m.p.high/\h.m.p.wide=a.m.p.wide/\h.m.p.rule=a.m.p.rule/\h.m.p.top=a.m.p.top/\h.m.p.least=a.m.p.least/\h.m.p.part=a.m.p.part/\zD h.m.s=zD b/\zX h.m.used=zX a.m.used/\aa 1 (iE h.m.p.months)=yU a.m 3/\aa 1 (iE h.m.p.settle)=yU a.m 4/\((h.m.Rep h.p h.B h.U/\BOk h.p h.B)/\h.X=uQ h.B h.U h.id h.inst h.o)/\∀(j:Mkt),j.Rep h.p h.X.B h.X.U->∃(k:EnI),k.c.kind=1/\k.c.id=a.c.id/\k.c.inst=a.inst/\k.c.side=a.o.side/\k.c.price=a.c.price/\k.c.qty=a.c.qty/\k.c.least=0/\k.c.time=1/\sb k.c.label=ByteArray.mk #[]/\sb k.m.p.code=sb j.p.code/\k.m.p.tick=j.p.tick/\k.m.p.low=j.p.low/\k.m.p.high=j.p.high/\k.m.p.wide=j.p.wide/\k.m.p.rule=j.p.rule/\k.m.p.top=j.p.top/\k.m.p.least=j.p.least/\k.m.p.part=j.p.part/\zD k.m.s=zD j.s/\zX k.m.used=zX j.used/\aa 1 (iE k.m.p.months)=aa 1 (iE j.p.months)/\aa 1 (iE k.m.p.settle)=aa 1 (iE j.p.settle)/\(sL k)/\∀(l:Mkt),l.Rep k.p k.X.B k.X.U->((aj xU h.X.R).length+(aj xU k.X.R).length)*(64:Nat)<=(140737488355328:Nat)/\∃(m:Mkt),sb m.p.code=sb l.p.code/\m.p.tick=l.p.tick/\m.p.low=l.p.low/\m.p.high=l.p.high/\m.p.wide=l.p.wide/\m.p.rule=l.p.rule/\m.p.top=l.p.top/\m.p.least=l.p.least/\m.p.part=l.p.part/\zD m.s=zD l.s/\zX m.used=zX l.used/\aa 1 (iE m.p.months)=aa 1 (iE l.p.months)/\aa 1 (iE m.p.settle)=aa 1 (iE l.p.settle)/\aj xU a.X.R=aj xU h.X.R++aj xU k.X.R/\m.Rep a.p a.X.B a.X.U)
def bK (a:CaI):Prop:=(a.m.Rep a.p a.B a.U/\BOk a.p a.B)/\((-9223372036854775808)<=a.o.qty-a.q/\a.o.qty-a.q<=9223372036854775807)/\a.X=c8 a.B a.U a.id a.q a.inst a.o
def zXa (i:yBi):Prop:=
 ∃(a:tO),sb a.p.code=sb i.m.p.code/\iE a.p.months=iE i.m.p.months/\a.p.tick=i.m.p.tick/\a.p.low=i.m.p.low/\a.p.high=i.m.p.high/\a.p.wide=i.m.p.wide/\a.p.rule=i.m.p.rule/\a.p.top=i.m.p.top/\a.p.least=i.m.p.least/\a.p.part=i.m.p.part/\iE a.p.settle=iE i.m.p.settle/\a.a=i.inst/\a.b=i.c.price/\(x7 a)/\∀(b:Unit),True->cnd (a.p.price a.a a.b !=0) (∃(c:RjI),c.c.kind=i.c.kind/\c.c.id=i.c.id/\c.c.inst=i.c.inst/\c.c.side=i.c.side/\c.c.price=i.c.price/\c.c.qty=i.c.qty/\c.c.least=i.c.least/\c.c.time=i.c.time/\sb c.c.label=sb i.c.label/\c.why=a.p.price a.a a.b/\True/\∀(d:Unit),True->∃(e:Mkt),sb e.p.code=sb i.m.p.code/\e.p.tick=i.m.p.tick/\e.p.low=i.m.p.low/\e.p.high=i.m.p.high/\e.p.wide=i.m.p.wide/\e.p.rule=i.m.p.rule/\e.p.top=i.m.p.top/\e.p.least=i.m.p.least/\e.p.part=i.m.p.part/\zD e.s=yU i.m 1/\rZ e i c) (cnd (i.c.price==i.o.price) (cnd (decide (i.c.qty<=i.o.qty)) (∃(c:CaI),c.id=i.c.id/\c.q=ag.wrap (i.o.qty-i.c.qty)/\c.inst=i.inst/\c.o.id=i.o.id/\c.o.side=i.o.side/\c.o.price=i.o.price/\c.o.qty=i.o.qty/\c.o.top=i.o.top/\sb c.m.p.code=sb i.m.p.code/\c.m.p.tick=i.m.p.tick/\c.m.p.low=i.m.p.low/\c.m.p.high=i.m.p.high/\c.m.p.wide=i.m.p.wide/\c.m.p.rule=i.m.p.rule/\c.m.p.top=i.m.p.top/\c.m.p.least=i.m.p.least/\c.m.p.part=i.m.p.part/\zD c.m.s=yU i.m 1/\zX c.m.used=zX i.m.used/\aa 1 (iE c.m.p.months)=yU i.m 3/\aa 1 (iE c.m.p.settle)=yU i.m 4/\(bK c)/\∀(d:Mkt),d.Rep c.p c.X.B c.X.U->∃(e:Mkt),sb e.p.code=sb d.p.code/\e.p.tick=d.p.tick/\e.p.low=d.p.low/\e.p.high=d.p.high/\e.p.wide=d.p.wide/\e.p.rule=d.p.rule/\e.p.top=d.p.top/\e.p.least=d.p.least/\e.p.part=d.p.part/\zD e.s=zD d.s/\zX e.used=zX d.used/\aa 1 (iE e.p.months)=aa 1 (iE d.p.months)/\aa 1 (iE e.p.settle)=aa 1 (iE d.p.settle)/\aj xU i.X.R=aj xU c.X.R/\e.Rep i.p i.X.B i.X.U) (tY i)) (tY i))
def zWn (a:CaI) (b:EnI):Prop:=∀(c:Mkt),c.Rep a.p a.X.B a.X.U->∃(d:Mkt),sb d.p.code=sb c.p.code/\d.p.tick=c.p.tick/\d.p.low=c.p.low/\d.p.high=c.p.high/\d.p.wide=c.p.wide/\d.p.rule=c.p.rule/\d.p.top=c.p.top/\d.p.least=c.p.least/\d.p.part=c.p.part/\zD d.s=zD c.s/\zX d.used=zX c.used/\aa 1 (iE d.p.months)=aa 1 (iE c.p.months)/\aa 1 (iE d.p.settle)=aa 1 (iE c.p.settle)/\aj xU b.X.R=aj xU a.X.R/\d.Rep b.p b.X.B b.X.U
def zUj (a:Mkt) (b:EnI) (c:RjI):Prop:=zX a.used=zX b.m.used/\aa 1 (iE a.p.months)=aa 1 (iE b.m.p.months)/\aa 1 (iE a.p.settle)=aa 1 (iE b.m.p.settle)/\aj xU b.X.R=[xU (Rep.mk 2 c.c.id 0 0 0 0 0 c.why)]/\a.Rep b.p b.X.B b.X.U
def z1r (a:EnI) (b:StI):Prop:=∃(c:CaI),c.id=a.c.id/\c.inst=(zZ b.B b.id).fst/\c.o.id=(zZ b.B b.id).snd.fst.id/\c.o.side=(zZ b.B b.id).snd.fst.side/\c.o.price=(zZ b.B b.id).snd.fst.price/\c.o.qty=(zZ b.B b.id).snd.fst.qty/\c.o.top=(zZ b.B b.id).snd.fst.top/\sb c.m.p.code=sb a.m.p.code/\c.m.p.tick=a.m.p.tick/\c.m.p.low=a.m.p.low/\c.m.p.high=a.m.p.high/\c.m.p.wide=a.m.p.wide/\c.m.p.rule=a.m.p.rule/\c.m.p.top=a.m.p.top/\c.m.p.least=a.m.p.least/\c.m.p.part=a.m.p.part/\zD c.m.s=zD b.s/\zX c.m.used=zX a.m.used/\aa 1 (iE c.m.p.months)=aa 1 (iE a.m.p.months)/\aa 1 (iE c.m.p.settle)=aa 1 (iE a.m.p.settle)/\((c.m.Rep c.p c.B c.U/\BOk c.p c.B)/\c.X=uQ c.B c.U c.id c.inst c.o)/\zWn c a
def yKf (a:EnI):Prop:=∃(b:StI),b.id=a.c.id/\zD b.s=zD a.m.s/\(b.s.Rep b.p b.B/\b.B.length<=1000)/\∀(c:Unit),True->cnd (!(zZ b.B b.id).snd.snd) (∃(d:RjI),d.c.kind=a.c.kind/\d.c.id=a.c.id/\d.c.inst=a.c.inst/\d.c.side=a.c.side/\d.c.price=a.c.price/\d.c.qty=a.c.qty/\d.c.least=a.c.least/\d.c.time=a.c.time/\sb d.c.label=sb a.c.label/\d.why=26/\True/\∀(e:Unit),True->∃(f:Mkt),sb f.p.code=sb a.m.p.code/\f.p.tick=a.m.p.tick/\f.p.low=a.m.p.low/\f.p.high=a.m.p.high/\f.p.wide=a.m.p.wide/\f.p.rule=a.m.p.rule/\f.p.top=a.m.p.top/\f.p.least=a.m.p.least/\f.p.part=a.m.p.part/\zD f.s=zD b.s/\zUj f a d) (cnd (a.c.kind==4) (∃(d:yBi),d.c.kind=a.c.kind/\d.c.id=a.c.id/\d.c.inst=a.c.inst/\d.c.side=a.c.side/\d.c.price=a.c.price/\d.c.qty=a.c.qty/\d.c.least=a.c.least/\d.c.time=a.c.time/\sb d.c.label=sb a.c.label/\d.inst=(zZ b.B b.id).fst/\d.o.id=(zZ b.B b.id).snd.fst.id/\d.o.side=(zZ b.B b.id).snd.fst.side/\d.o.price=(zZ b.B b.id).snd.fst.price/\d.o.qty=(zZ b.B b.id).snd.fst.qty/\d.o.top=(zZ b.B b.id).snd.fst.top/\sb d.m.p.code=sb a.m.p.code/\d.m.p.tick=a.m.p.tick/\d.m.p.low=a.m.p.low/\d.m.p.high=a.m.p.high/\d.m.p.wide=a.m.p.wide/\d.m.p.rule=a.m.p.rule/\d.m.p.top=a.m.p.top/\d.m.p.least=a.m.p.least/\d.m.p.part=a.m.p.part/\zD d.m.s=zD b.s/\zX d.m.used=zX a.m.used/\aa 1 (iE d.m.p.months)=aa 1 (iE a.m.p.months)/\aa 1 (iE d.m.p.settle)=aa 1 (iE a.m.p.settle)/\(d.m.Rep d.p d.B d.U/\BOk d.p d.B/\zZ d.B d.c.id=(d.inst,d.o,ao)/\(1<=d.c.qty/\d.c.qty<=1000000)/\d.X=fK d.p d.B d.U d.c d.inst d.o)/\∀(e:Mkt),e.Rep d.p d.X.B d.X.U->∃(f:Mkt),sb f.p.code=sb e.p.code/\f.p.tick=e.p.tick/\f.p.low=e.p.low/\f.p.high=e.p.high/\f.p.wide=e.p.wide/\f.p.rule=e.p.rule/\f.p.top=e.p.top/\f.p.least=e.p.least/\f.p.part=e.p.part/\zD f.s=zD e.s/\zX f.used=zX e.used/\aa 1 (iE f.p.months)=aa 1 (iE e.p.months)/\aa 1 (iE f.p.settle)=aa 1 (iE e.p.settle)/\aj xU a.X.R=aj xU d.X.R/\f.Rep a.p a.X.B a.X.U) (cnd (a.c.kind==2) (z1r a b) (cnd (decide (a.c.qty>=(zZ b.B b.id).snd.fst.qty)) (z1r a b) (∃(d:CaI),d.id=a.c.id/\d.q=a.c.qty/\d.inst=(zZ b.B b.id).fst/\d.o.id=(zZ b.B b.id).snd.fst.id/\d.o.side=(zZ b.B b.id).snd.fst.side/\d.o.price=(zZ b.B b.id).snd.fst.price/\d.o.qty=(zZ b.B b.id).snd.fst.qty/\d.o.top=(zZ b.B b.id).snd.fst.top/\sb d.m.p.code=sb a.m.p.code/\d.m.p.tick=a.m.p.tick/\d.m.p.low=a.m.p.low/\d.m.p.high=a.m.p.high/\d.m.p.wide=a.m.p.wide/\d.m.p.rule=a.m.p.rule/\d.m.p.top=a.m.p.top/\d.m.p.least=a.m.p.least/\d.m.p.part=a.m.p.part/\zD d.m.s=zD b.s/\zX d.m.used=zX a.m.used/\aa 1 (iE d.m.p.months)=aa 1 (iE a.m.p.months)/\aa 1 (iE d.m.p.settle)=aa 1 (iE a.m.p.settle)/\(bK d)/\zWn d a))))
def Vdo (i:EnI):Prop:=
 ∃(a:Cmd),a.kind=i.c.kind/\a.id=i.c.id/\a.inst=i.c.inst/\a.side=i.c.side/\a.price=i.c.price/\a.qty=i.c.qty/\a.least=i.c.least/\a.time=i.c.time/\sb a.label=sb i.c.label/\a.label.length<=140737488355328/\∀(b:Unit),True->cnd (a.right !=0) (∃(c:RjI),c.c.kind=i.c.kind/\c.c.id=i.c.id/\c.c.inst=i.c.inst/\c.c.side=i.c.side/\c.c.price=i.c.price/\c.c.qty=i.c.qty/\c.c.least=i.c.least/\c.c.time=i.c.time/\sb c.c.label=sb i.c.label/\c.why=a.right/\True/\∀(d:Unit),True->∃(e:Mkt),sb e.p.code=sb i.m.p.code/\e.p.tick=i.m.p.tick/\e.p.low=i.m.p.low/\e.p.high=i.m.p.high/\e.p.wide=i.m.p.wide/\e.p.rule=i.m.p.rule/\e.p.top=i.m.p.top/\e.p.least=i.m.p.least/\e.p.part=i.m.p.part/\zD e.s=zD i.m.s/\zUj e i c) (cnd (i.c.kind==1) (∃(c:EnI),c.c.kind=i.c.kind/\c.c.id=i.c.id/\c.c.inst=i.c.inst/\c.c.side=i.c.side/\c.c.price=i.c.price/\c.c.qty=i.c.qty/\c.c.least=i.c.least/\c.c.time=i.c.time/\sb c.c.label=sb i.c.label/\sb c.m.p.code=sb i.m.p.code/\c.m.p.tick=i.m.p.tick/\c.m.p.low=i.m.p.low/\c.m.p.high=i.m.p.high/\c.m.p.wide=i.m.p.wide/\c.m.p.rule=i.m.p.rule/\c.m.p.top=i.m.p.top/\c.m.p.least=i.m.p.least/\c.m.p.part=i.m.p.part/\zD c.m.s=zD i.m.s/\zX c.m.used=zX i.m.used/\aa 1 (iE c.m.p.months)=aa 1 (iE i.m.p.months)/\aa 1 (iE c.m.p.settle)=aa 1 (iE i.m.p.settle)/\((c.m.Rep c.p c.B c.U/\BOk c.p c.B)/\c.c.right=0/\c.c.kind=1/\c.X=nG c.p c.B c.U c.c)/\sB c i) ((yKf i)/\rE i.c.id/\True/\yKf i))
def lY (p:Prd) (B:List (List zI)) (U:List Int) (c:Cmd):cV p B U c=⟨if(wK p B c.inst (decide (c.side=2)) c.price c.qty).left≠0/\c.time=1 then(z3n p (wK p B c.inst (decide (c.side=2)) c.price c.qty).B c.inst c.id c.side c.price (wK p B c.inst (decide (c.side=2)) c.price c.qty).left).1 else(wK p B c.inst (decide (c.side=2)) c.price c.qty).B,zQh U c.id,
 (⟨1,c.id,c.inst,c.side,c.price,c.qty,c.qty,0⟩::aW p c (wK p B c.inst (decide (c.side=2)) c.price c.qty).steps c.qty)++if(wK p B c.inst (decide (c.side=2)) c.price c.qty).left≠0/\c.time≠1 then[⟨4,c.id,c.inst,c.side,c.price,(wK p B c.inst (decide (c.side=2)) c.price c.qty).left,0,0⟩]else[]⟩:=by
 rw[cV]
def zRg {p:Prd} {B:List (List zI)} (h:BWf p B) (U:List Int) (c:Cmd):BOk p (cV p B U c).B:=by
 have:=(pS (inst:=c.inst) (sd:=decide (c.side=2)) (price:=c.price) _ c.qty B (y5x _) h).1.ok;rw[lY];dsimp only;split
 ·exact this.add _ _ _ _ _
 ·exact this
def yBu {p:Prd} {B:List (List zI)} (h:BWf p B) (U:List Int) (c:Cmd):BOk p (nG p B U c).B:=by
 rw[nG];split
 ·exact h.ok
 split
 ·exact h.ok
 split
 ·exact h.ok
 split
 ·exact h.ok
 split
 ·exact h.ok
 exact zRg h U c
def yVa {p:Prd} {B:List (List zI)} (h:BWf p B) (U:List Int) (c:Cmd):BOk p (doF p B U c).B:=by
 rw[doF];split
 ·exact h.ok
 split
 ·exact yBu h U c
 split
 ·exact h.ok
 split
 ·rw[fK];split
  ·exact h.ok
  split
  ·exact h.ok.take _ _
  split
  ·exact h.ok
  exact zRg (h.take _ _) U _
 split
 ·exact h.ok.take _ _
 ·exact h.ok.take _ _
def Two (L:List zI):Prop:=L=eY L 1++eY L 2
def eO {inst s:Int} {f:cK}:∀{os:List zI} {sh:List Int},f∈xY inst s os sh->f.side=s/\f.inst=inst/\∃o∈os,f.price=o.price
 |[],sh,h=>by cases h
 |o::os,[],h=>by cases h
 |o::os,k::sh,h=>by
  rw[xY]at h;split at h
  ·rcases y5w.1 h with rfl|h
   ·exact⟨rfl,rfl,o,y5h,rfl⟩
   ·obtain⟨a,b,o',c,d⟩:=eO h;exact⟨a,b,o',y5j _ c,d⟩
  ·obtain⟨a,b,o',c,d⟩:=eO h;exact⟨a,b,o',y5j _ c,d⟩
def FOk (f:cK):Prop:=(f.side=1\/f.side=2)/\-2000000<=f.price/\f.price<=2000000
def zHb {p:Prd} {B:List (List zI)} (h:BOk p B) (inst:Int) {s:Int} (hs:s=1\/s=2) (q:Int):∀f∈qT p B inst s q,FOk f:=by
 intro f hf;obtain⟨a,_,o,ho,e⟩:=eO hf;refine⟨by rw[a];exact hs,?_⟩;rw[e];have ho:=(y7b.1 ho).1;by_cases hk:inst.toNat<B.length
 ·obtain⟨L,hL⟩:=yE hk;rw[zS hL]at ho;exact h.prices hL o ho
 ·rw[y5k,y6h (by omega)]at ho;cases ho
def SOk (t:jZ):Prop:=(-2000000<=t.price/\t.price<=2000000)/\(∀f∈t.fills,FOk f)/\t.fills.length<=500
def yMs {p:Prd} {B:List (List zI)} (h:BWf p B) {inst:Int} (hi:0<=inst/\inst<B.length) {s:Int} (hs:s=1\/s=2) (hn:(yS p B inst s).2.2=ao): -2000000<=(yS p B inst s).1.price/\(yS p B inst s).1.price<=2000000:=by
 rw[yS]at hn ⊢;obtain⟨L,hL⟩:=yE (l:=B) (i:=inst.toNat) oM;rw[zS hL]at hn ⊢;split
 ·exact zUz (h.ok.prices hL)
 ·rename_i c;rw[y5b c]at hn;have hm:=zIn hn;have:=(y7b.1 hm).2;exact eX h.ok.pc (y6a this)
def yKs {p:Prd} {B:List (List zI)} (h:BWf p B) {inst:Int} (hi:0<=inst/\inst<B.length) {sd:Bool} {price q:Int} {t:jZ} {B':List (List zI)} (e:aK p B inst sd price q=some (t,B')):SOk t:=by
 have hs:zC (!sd)=1\/zC (!sd)=2:=zFq _;have hb:=yMs h hi hs;have hin:=z6l h.ok h.od hi hs;rw[aK]at e;dsimp only at e;split at e
 ·rename_i c;have c1:(yS p B inst (zC (!sd))).2.2=ao:=by
   cases hx:(yS p B inst (zC (!sd))).2.2 with
   |false=>rw[hx]at c;cases c
   |true=>rfl
  have hb:=hb c1;obtain⟨_,hin,_⟩:=hin c1;split at e
  ·rename_i c2;obtain⟨_,ok⟩:=hin c2;cases e;refine⟨hb,λf hf=> ?_,?_⟩
   ·rcases y6g.1 hf with hf|hf
    ·exact zHb h.ok _ ok.sa _ f hf
    ·exact zHb h.ok.takes _ ok.sb _ f hf
   ·dsimp only;rw[y5a];have:=nX (p:=p) h.od (yS p B inst (zC (!sd))).1.a.inst (yS p B inst (zC (!sd))).1.a.side (min q (yS p B inst (zC (!sd))).1.qty);have:=nX (p:=p) (h.takes (fs:=qT p B (yS p B inst (zC (!sd))).1.a.inst (yS p B inst (zC (!sd))).1.a.side (min q (yS p B inst (zC (!sd))).1.qty))).od (yS p B inst (zC (!sd))).1.b.inst (yS p B inst (zC (!sd))).1.b.side (min q (yS p B inst (zC (!sd))).1.qty);omega
  ·cases e;refine⟨hb,λf hf=>zHb h.ok _ hs _ f hf,?_⟩;have:=nX (p:=p) h.od inst (zC (!sd)) (min q (yS p B inst (zC (!sd))).1.qty);dsimp only;omega
 ·cases e
def zCx (a:StI):Prop:=yO a.s.wh=yO a.s.wh/\rE (aa 1 (iE a.s.p.months))/\rE (aa 1 (iE a.s.p.settle))/\True
def yFt (i:StI):Prop:=
 (aR i)/\∃(a:Bool),∃(b:Int),(rO i b a)/\cnd (!a) (∃(c:Unit),(zZ i.B i.id).fst=0/\(zZ i.B i.id).snd.fst.id=0/\(zZ i.B i.id).snd.fst.side=0/\(zZ i.B i.id).snd.fst.price=0/\(zZ i.B i.id).snd.fst.qty=0/\(zZ i.B i.id).snd.fst.top=ap/\(zZ i.B i.id).snd.snd=ap/\rE (sb i.s.p.code)/\rE i.s.p.tick/\rE i.s.p.low/\rE i.s.p.high/\rE i.s.p.wide/\rE i.s.p.rule/\rE i.s.p.top/\rE i.s.p.least/\rE i.s.p.part/\rE (ac 241 Book 6 zP i.s.books none)/\zCx i) ((0<=b/\b<(↑i.s.books.length:Int))/\b.toNat<i.s.books.length/\∃(c:Book),i.s.books[b.toNat]?=some c/\∃(d:FlI),d.id=i.id/\z7 d.b=z7 c/\d.b.Rep d.L/\∀(e:Unit),True->∃(f:Book),z7 d.b=z7 f/\rE b.toNat/\b.toNat<i.s.books.length/\∃(g:Unit),(zZ i.B i.id).fst=b/\(zZ i.B i.id).snd.fst.id=(dW d.L d.id).id/\(zZ i.B i.id).snd.fst.side=(dW d.L d.id).side/\(zZ i.B i.id).snd.fst.price=(dW d.L d.id).price/\(zZ i.B i.id).snd.fst.qty=(dW d.L d.id).qty/\(zZ i.B i.id).snd.fst.top=(dW d.L d.id).top/\(zZ i.B i.id).snd.snd=ao/\rE (sb i.s.p.code)/\rE i.s.p.tick/\rE i.s.p.low/\rE i.s.p.high/\rE i.s.p.wide/\rE i.s.p.rule/\rE i.s.p.top/\rE i.s.p.least/\rE i.s.p.part/\ac 241 Book 6 zP i.s.books none=ac 241 Book 6 zP (i.s.books.set b.toNat f) none/\zCx i)
def yTh (i:StI) (h:sfindC.cnd i):yFt i:=by
 obtain⟨hR,hB⟩:i.s.Rep i.p i.B/\i.B.length<=1000:=h;have hat:=hR.at_ i.id;unfold yFt aR rO zCx dI;rw[zZ];cases hi:a8 i.B i.id with
 |none=>
  rw[hi]at hat;exact⟨dX _ _,ap,0,.inr ⟨by rw[pD,hat];rfl,rfl,rfl⟩,Cv.cnd.mk (λ_=>⟨(),k0q⟩) (λe=>absurd e Z8)⟩
 |some k=>
  rw[hi]at hat;obtain⟨L,hL,hh⟩:=gJ hi;have hk:=(y5f.1 hL).1;obtain⟨b,hb⟩:=yE (l:=i.s.books) (i:=k) (by rw[hR.bl];exact hk);have hbR:=hR.bk k b L hb hL;have hbl:=hR.bl;refine⟨dX _ _,ao,k,.inl ⟨by rw[pD,hat];rfl,rfl⟩,Cv.cnd.mk (λe=>absurd e Z8) (λ_=> ?_)⟩;dsimp only;rw[y5u,zS hL];have hs:=uE hb;refine⟨⟨oM,oM⟩,oM,b,hb,⟨b,L,i.id,0⟩,rfl,rfl,hbR,λ_ _=>⟨b,rfl,rfl,oM,(),?_⟩⟩;rw[hs]
  (repeat'(first|exact trivial|exact rfl|apply And.intro))
def yEx:sfindC.ok Tryz.prog 114:=okw mixed (gokc zZb gok0) 0 (λ_=>[]) (λ_=>[]) [0] Tryz.func114 yTh
def zTf (id:Int) (U:List Int):∀p∈zX U,like (ak ag id) p.1=ao:=by
 intro p hp;obtain⟨k,_,rfl⟩:=y6n.1 hp;rfl
def zRy (id:Int):∀U:List Int,uN (ak ag id) [D.v (.bool ao)] (zX U)=zX (zQh U id)
 |[]=>rfl
 |k::U=>by
  have ih:=zRy id U;have e:c9 (ak ag id) (ak ag k)=decide (id=k):=by simp[c9,keq]
  show(bif c9 (ak ag id) (ak ag k)then(ak ag k,[D.v (.bool ao)])::zX U else(ak ag k,[D.v (.bool ao)])::uN (ak ag id) [D.v (.bool ao)] (zX U))=_;rw[e,ih];by_cases c:id=k
  ·rw[y5s c,cond_true,zQh,y5d (by rw[c];exact y5h)];rfl
  ·rw[y5o c,cond_false,zQh,zQh];have hm:id∈k::U↔id∈U:=by simp[c]
   by_cases d:id∈U
   ·rw[y5d d,y5d (hm.2 d)];rfl
   ·rw[y5b d,y5b (λx=>d (hm.1 x))];rfl
def zTc (id:Int):∀U:List Int,kH (ak ag id) (zX U)=if id∈U then some [D.v (.bool ao)]else none
 |[]=>rfl
 |k::U=>by
  have ih:=zTc id U;have e:c9 (ak ag id) (ak ag k)=decide (id=k):=by simp[c9,keq]
  show(bif c9 (ak ag id) (ak ag k)then some [D.v (.bool ao)]else kH (ak ag id) (zX U))=_;rw[e,ih];by_cases c:id=k
  ·rw[y5s c,cond_true,y5d (by rw[c];exact y5h)]
  ·rw[y5o c,cond_false];have hm:id∈k::U↔id∈U:=by simp[c]
   by_cases d:id∈U
   ·rw[y5d d,y5d (hm.2 d)]
   ·rw[y5b d,y5b (λx=>d (hm.1 x))]
def yGk (id:Int) (U:List Int):kH (ak ag id) (zX U)=some [D.v (.bool (decide (id∈U)))]/\decide (id∈U)=ao\/kH (ak ag id) (zX U)=none/\[D.v (.bool (decide (id∈U)))]=[D.v (.bool ap)]/\decide (id∈U)=ap:=by
 rw[zTc];by_cases c:id∈U
 ·rw[y5d c,y5s c];exact .inl ⟨rfl,rfl⟩
 ·rw[y5b c,y5o c];exact .inr ⟨rfl,rfl,rfl⟩
def zWa {p:Prd} {inst:Int} {sd:Bool} {price:Int}:∀(m:Nat) (q:Int) (B:List (List zI)),q.toNat<=m->BWf p B->0<=inst/\inst<B.length->
 (∀t∈(wK p B inst sd price q).steps,SOk t/\1<=t.qty)/\((wK p B inst sd price q).steps.map (·.qty)).sum=q-(wK p B inst sd price q).left
 |m,q,B,hm,h,hi=>by
  by_cases hq:q<=0
  ·rw[eE (.inl hq)];exact⟨λt ht=>(by cases ht),by simp⟩
  cases hs:aK p B inst sd price q with
  |none=>rw[eE (.inr hs)];exact⟨λt ht=>(by cases ht),by simp⟩
  |some x=>
   obtain⟨t,C⟩:=x;obtain⟨k1,k2⟩:=zRc h hs;have hq2:=zNp oM hs;cases m with
   |zero=>omega
   |succ m=>
   obtain⟨i1,i2⟩:=zWa (p:=p) (inst:=inst) (sd:=sd) (price:=price) m (q-t.qty) C oM k1 (by rw[k2];exact hi);rw[zPb (by omega) hs];refine⟨λu hu=> ?_,?_⟩
   ·rcases y5w.1 hu with rfl|hu
    ·exact⟨yKs h hi hs,hq2.1⟩
    ·exact i1 u hu
   ·dsimp only;rw[y5q,y6s,i2];omega
def yQn {α:Type} {f:α->List Rep} (hf:∀x,(f x).length<=3):∀l:List α,(l.flatMap f).length<=3*l.length
 |[]=>y5x _
 |x::l=>by
  have:=yQn hf l;have:=hf x;rw[y6w,y5a,y5g];omega
def zSz (p:Prd) (c:Cmd) (x:jZ) (left:Int):(mV p c x left).length<=3*x.fills.length+3:=by
 rw[mV,y5a];have:=yQn (λf=>zNb p x (zEk f)) x.fills;have:=zNb p x ⟨3,c.id,c.inst,c.side,x.price,x.qty,left,0⟩;omega
def zTq {l:List jZ} (h:∀t∈l,SOk t/\1<=t.qty):(l.length:Int)<=(l.map (·.qty)).sum:=by
 induction l with
 |nil=>exact y8p _
 |cons t l ih=>
  have:=ih λu hu=>h u (y5j _ hu)
  have:=(h t y5h).2;rw[y5q,y6s,y5g];omega
def yUj (i:EnI) (h:enterC.cnd i):yGj i:=by
 obtain⟨m,p,B,U,c,X⟩:=i;have h':(m.Rep p B U/\BOk p B)/\((0<=c.inst/\c.inst<B.length)/\(1<=c.qty/\c.qty<=1000000)/\(c.side=1\/c.side=2))/\p.price c.inst c.price=0/\X=cV p B U c:=h;clear h;obtain⟨⟨⟨ep,hR,eu⟩,hB⟩,⟨⟨h0,h1⟩,hq,hs⟩,hpz,hX⟩:=h';subst ep eu hX;have hwf:=hR.wf hB;obtain⟨k1,k2,k3⟩:=pS (inst:=c.inst) (sd:=decide (c.side=2)) (price:=c.price) _ c.qty B (y5x _) hwf;have k3:=k3 oM;obtain⟨s1,s2⟩:=zWa (inst:=c.inst) (sd:=decide (c.side=2)) (price:=c.price) _ c.qty B (y5x _) hwf ⟨h0,h1⟩;have hX:=lY m.p B m.used c;have hbd:=eX hB.pc hpz;unfold yGj qO vX zCq dI;dsimp only;rw[zRy,hX];refine⟨zTf _ _,⟨m.s,m.p,B,c.inst,decide (c.side=2),c.price,c.qty⟩,rfl,gP hs,rF3 ⟨⟨hR,hB,⟨h0,h1⟩,hq.1,hq.2⟩,λo ho=> ?_⟩⟩;have er:RunI.r ⟨m.s,m.p,B,c.inst,decide (c.side=2),c.price,c.qty⟩=wK m.p B c.inst (decide (c.side=2)) c.price c.qty:=rfl;rw[er]at ho ⊢;clear hX er;generalize wK m.p B c.inst (decide (c.side=2)) c.price c.qty=R at*;obtain⟨ts,lf,RB⟩:=R;dsimp only at*;have hlen:=zTq s1;have e4:(ts.map wD).length=ts.length:=y5c ..;refine⟨⟨c.qty,0,[⟨1,c.id,c.inst,c.side,c.price,c.qty,c.qty,0⟩]⟩,rF3 ⟨λj=>j.k<=ts.length/\j.left=lf+((ts.drop j.k).map (·.qty)).sum/\(⟨1,c.id,c.inst,c.side,c.price,c.qty,c.qty,0⟩::aW m.p c ts c.qty)=j.out++aW m.p c (ts.drop j.k) j.left/\j.out.length<=1+1503*j.k,λj=>ts.length-j.k,⟨y6i _,by dsimp only;rw[y8q,s2];omega,rfl,y5x _⟩,?_⟩⟩;rintro⟨left,k,out⟩ ⟨j1,j2,j3,j4⟩;dsimp only at j1 j2 j3 j4 ⊢;have e5:(out.map xU).length=out.length:=y5c ..;refine zH (λc1=> ?_) (λc1=> ?_)
 ·obtain⟨t,ht⟩:=yE (l:=ts) (i:=k) oM;have hd:ts.drop k=t::ts.drop (k+1):=by rw[y7k (by omega),(y5f.1 ht).2]
  obtain⟨⟨t1,t2,t3⟩,t4⟩:=s1 t (y5m ht);have hsd:=zTq (l:=ts.drop (k+1)) λu hu=>s1 u (y8w hu)
  have hsk:((ts.drop k).map (·.qty)).sum<=(ts.map (·.qty)).sum:=by
   have:=zTq (l:=ts.take k) λu hu=>s1 u (y9v hu)
   have e:(ts.map (·.qty)).sum=((ts.take k).map (·.qty)).sum+((ts.drop k).map (·.qty)).sum:=by
    rw[<- xBf,<- y5l,y7j]
   omega
  rw[hd,y5q,y6s]at j2 hsk;rw[hd,aW]at j3;have hrl:=zSz m.p c t (left-t.qty);have e6:((mV m.p c t (left-t.qty)).map xU).length=(mV m.p c t (left-t.qty)).length:=y5c ..;have hw:ag.wrap (left-t.qty)=left-t.qty:=w64 oM;refine⟨⟨oM,oM⟩,t.price,t.qty,t.implied,t.fills.map yW,elA ht (by simp[wD]) rfl,?_⟩;rw[hw];refine⟨⟨⟨m.p,o,zQh m.used c.id⟩,c,t,left-t.qty⟩,rF8 (rF8 (rF8 (rF3 ⟨⟨⟨hB.pc,hB.ps⟩,⟨Z9,Z9⟩,Z9,hs,λf hf=>(t2 f hf).1⟩,λ_ _=>⟨by dsimp only;rw[e5,e6];omega,⟨left-t.qty,k+1,out++mV m.p c t (left-t.qty)⟩,rfl,wjn oM,by dsimp only;rw[y5l],⟨Z9,Z9,by dsimp only;rw[j3,y5i],by dsimp only;rw[y5a];omega⟩,Z9,k0q⟩⟩)))⟩
 have hk:k=ts.length:=by omega
 subst hk;rw[List.drop_of_length_le (y5x _)]at j2 j3;rw[aW,y5y]at j3;rw[<- j3];rw[<- j3]at e5 j4;have hRB:=k1.ok;refine Cv.cnd.mk (λe=> ?_) (λe=>Cv.cnd.mk (λe2=> ?_) (λe2=> ?_))
 ·have e:lf=0:=by simpa using e
  rw[y5b (by omega),y5b (by omega),y5y];exact⟨⟨m.p,o,zQh m.used c.id⟩,rF8 (rF6 ⟨rfl,ho,rfl⟩)⟩
 ·have e:¬lf=0:=by simpa using e
  have e2:c.time=1:=by simpa using e2
  rw[y5b (show ¬(lf≠0/\c.time≠1)by omega),y5d (show lf≠0/\c.time=1 from⟨e,e2⟩),y5y];have ha:=(ho.add c.inst c.id (decide (c.side=2)) c.price lf).1;rw[gP hs]at ha;exact⟨⟨o,c.inst,c.id,decide (c.side=2),c.price,lf⟩,rfl,rfl,gP hs,rF3 ⟨ho.fit hRB,λ_ _=>⟨⟨m.p,(MSt.addF ⟨o,c.inst,c.id,decide (c.side=2),c.price,lf⟩).1,zQh m.used c.id⟩,rF8 (rF6 ⟨rfl,ha,rfl⟩)⟩⟩⟩
 ·have e:¬lf=0:=by simpa using e
  have e2:¬c.time=1:=by simpa using e2
  rw[y5d (show lf≠0/\c.time≠1 from⟨e,e2⟩),y5b (show ¬(lf≠0/\c.time=1)by omega)];exact⟨by rw[e5];omega,⟨m.p,o,zQh m.used c.id⟩,rF8 (rF5 ⟨by rw[y5l];rfl,rfl,ho,rfl⟩)⟩
def zWw:enterC.ok Tryz.prog 169:=okw mixed (gokc z2h (gokc yFv (gokc yLx gok0))) 0 (λ_=>[]) (λi=>yVl i) [] Tryz.func169 yUj
def zQu:cancelC.ok Tryz.prog 116:=okw (V:=yNq) mixed (gokc zEq gok0) 0 (λ_=>[]) (λ_=>[]) [] Tryz.func116 λ(i:CaI) h=>by
 obtain⟨m,p,B,U,id,q,inst,o,X⟩:=i;have h':(m.Rep p B U/\BOk p B)/\X=uQ B U id inst o:=h;clear h;obtain⟨⟨⟨ep,hR,eu⟩,hB⟩,hX⟩:=h';subst ep eu hX;have:=xS m.p;have:=hB.bl;exact⟨⟨m.s,m.p,B,id,o.qty⟩,rF3 ⟨⟨hR,Z9⟩,λo' ho=>⟨⟨m.p,o',m.used⟩,rF8 (rF6 ⟨rfl,ho,rfl⟩)⟩⟩⟩
def zTi:reduceC.ok Tryz.prog 117:=okw (V:=z8j) mixed (gokc zEq gok0) 0 (λ_=>[]) (λ_=>[]) [] Tryz.func117 λ(i:CaI) h=>by
 obtain⟨m,p,B,U,id,q,inst,o,X⟩:=i;have h':(m.Rep p B U/\BOk p B)/\yV (o.qty-q)/\X=c8 B U id q inst o:=h;clear h;obtain⟨⟨⟨ep,hR,eu⟩,hB⟩,hw,hX⟩:=h';subst ep eu hX;have:=xS m.p;have:=hB.bl;have hw:=w64 hw;unfold z8j dI;dsimp only;rw[hw];exact⟨⟨m.s,m.p,B,id,q⟩,rF3 ⟨⟨hR,Z9⟩,λo' ho=>⟨⟨m.p,o',m.used⟩,rF8 (rF6 ⟨rfl,ho,rfl⟩)⟩⟩⟩
def zSb {c:Cmd} (h:c.right=0):(if c.kind=1 then c.orderE else if c.kind≠2/\jD c.qty=ap then 24 else if c.kind=4/\vP c.price=ap then 23 else 0)=0:=by
 rw[Cmd.right]at h;by_cases c1:c.kind<1\/4<c.kind
 ·rw[y5d c1]at h;cases h
 rw[y5b c1]at h;by_cases c2:c.id<1\/1099511627776<c.id
 ·rw[y5d c2]at h;cases h
 rw[y5b c2]at h;exact h
def zSg {c:Cmd} (h:c.right=0) (hk:c.kind=1):(c.side=1\/c.side=2)/\(1<=c.qty/\c.qty<=1000000)/\(0<=c.least/\c.least<=c.qty):=by
 have h:=zSb h;rw[y5d hk,Cmd.orderE]at h;by_cases c1:c.side≠1/\c.side≠2
 ·rw[y5d c1]at h;cases h
 rw[y5b c1]at h;by_cases c2:c.time<1\/3<c.time
 ·rw[y5d c2]at h;cases h
 rw[y5b c2]at h;cases c3:jD c.qty with
 |false=>rw[y5d c3]at h;cases h
 |true=>
  rw[y5b (by rw[c3];decide)]at h;by_cases c4:c.least<0\/c.qty<c.least
  ·rw[y5d c4]at h;cases h
  simp only[jD,y5p,y6p]at c3;exact⟨oM,c3,oM⟩
def zHu {c:Cmd} (h:c.right=0) (hk:¬c.kind=1) (hk2:¬c.kind=2):1<=c.qty/\c.qty<=1000000:=by
 have h:=zSb h;rw[y5b hk]at h;cases c3:jD c.qty with
 |false=>rw[y5d ⟨hk2,c3⟩]at h;cases h
 |true=>
  simp only[jD,y5p,y6p]at c3;exact c3
def yUp (i:EnI) (h:orderC.cnd i):yDj i:=by
 obtain⟨m,p,B,U,c,X⟩:=i;have h':(m.Rep p B U/\BOk p B)/\c.right=0/\c.kind=1/\X=nG p B U c:=h;clear h;obtain⟨⟨hM,hB⟩,hr,hkd,hX⟩:=h';obtain⟨ep,hR,eu⟩:=hM;subst ep eu;have hM:m.Rep m.p B m.used:=⟨rfl,hR,rfl⟩
 obtain⟨hs,hq,hl⟩:=zSg hr hkd;have hbl:=hB.bl;have hcl:=xS m.p;unfold yDj qO zGt zHo zIs zDg vX sL sB rN zDw zCt x7 dI;dsimp only;refine⟨⟨m.p,c.inst,c.price⟩,rF8 (rF5 ⟨hB.ps,λ_ _=>Cv.cnd.mk (λe=> ?_) (λe=> ?_)⟩)⟩
 ·have e:m.p.price c.inst c.price≠0:=by simpa using e
  have hx:X=⟨B,m.used,nD c (m.p.price c.inst c.price)⟩:=by rw[hX,nG,y5d e]
  exact⟨⟨c,m.p.price c.inst c.price⟩,rF7 (rF3 ⟨trivial,λ_ _=>⟨m,rF8 (rF5 ⟨by rw[hx];rfl,by rw[hx];exact hM⟩)⟩⟩)⟩
 have hpz:m.p.price c.inst c.price=0:=by simpa using e
 have hin:=zNw hpz;have hib:0<=c.inst/\c.inst<B.length:=by omega
 rw[nG,y5b (by rw[hpz];decide)]at hX;refine⟨0,λl=>l=c.lst,Cv.cnd.mk (λe=>⟨c.qty,rfl,by rw[Cmd.lst,y5d (by simpa using e)],k0q⟩) (λe=>⟨c.least,rfl,by rw[Cmd.lst,y5b (by simpa using e)],k0q⟩),?_⟩;rintro _ rfl;refine⟨zTf _ _,_,_,yGk _ _,zH (λe=> ?_) (λe=> ?_)⟩
 ·have hx:X=⟨B,m.used,nD c 25⟩:=by rw[hX,y5d e]
  exact⟨⟨c,25⟩,rF7 (rF3 ⟨trivial,λ_ _=>⟨m,rF8 (rF5 ⟨by rw[hx];rfl,by rw[hx];exact hM⟩)⟩⟩)⟩
 rw[y5b e]at hX;refine⟨⟨m.s,m.p,B,0,ap⟩,rfl,⟨hR,Z9⟩,λ_ _=>zH (λe=> ?_) (λe=> ?_)⟩
 ·have hx:X=⟨B,m.used,nD c 13⟩:=by rw[hX,y5d (by dsimp only at e;omega)]
  exact⟨⟨c,13⟩,rF7 (rF3 ⟨trivial,λ_ _=>⟨m,rF8 (rF5 ⟨by rw[hx];rfl,by rw[hx];exact hM⟩)⟩⟩)⟩
 rw[y5b (by dsimp only at e;omega)]at hX;have hok:RunI.ok ⟨m.s,m.p,B,c.inst,decide (c.side=2),c.price,c.qty⟩:=⟨hR,hB,hib,hq.1,hq.2⟩
 refine⟨ao,λb=>b=decide (0<c.lst/\c.qty-(wK m.p B c.inst (decide (c.side=2)) c.price c.qty).left<c.lst),zH (λe=>⟨⟨m.s,m.p,B,c.inst,decide (c.side=2),c.price,c.qty⟩,rfl,gP hs,rF3 ⟨hok,λ_ _=>⟨_,rfl,decide_eq_decide.2 ⟨λx=>⟨e,x⟩,λx=>x.2⟩,k0q⟩⟩⟩) (λe=>⟨ap,rfl,(y5o λx=>e x.1).symm,k0q⟩),?_⟩;rintro _ rfl;refine zH (λe=> ?_) (λe=> ?_)
 ·have hx:X=⟨B,m.used,nD c 28⟩:=by rw[hX,y5d e]
  exact⟨⟨c,28⟩,rF7 (rF3 ⟨trivial,λ_ _=>⟨m,rF8 (rF5 ⟨by rw[hx];rfl,by rw[hx];exact hM⟩)⟩⟩)⟩
 rw[y5b e]at hX;refine⟨ao,λb=>b=decide (c.time=1/\aM m.p B c.inst (decide (c.side=2)) c.price c.qty=ao),Cv.cnd.mk (λe=>⟨⟨m.s,m.p,B,c.inst,decide (c.side=2),c.price,c.qty⟩,rfl,gP hs,rF3 ⟨hok,λ_ _=>⟨_,rfl,?_,k0q⟩⟩⟩) (λe=>⟨ap,rfl,(y5o λx=> ?_).symm,k0q⟩),?_⟩
 ·have e:c.time=1:=by simpa using e
  dsimp only;cases hb:aM m.p B c.inst (decide (c.side=2)) c.price c.qty with
  |true=>exact(y5s ⟨e,rfl⟩).symm
  |false=>exact(y5o λx=>by cases x.2).symm
 ·rw[x.1]at e;cases e
 rintro _ rfl;refine zH (λe=> ?_) (λe=> ?_)
 ·have hx:X=⟨B,m.used,nD c 23⟩:=by rw[hX,y5d e]
  exact⟨⟨c,23⟩,rF7 (rF3 ⟨trivial,λ_ _=>⟨m,rF8 (rF5 ⟨by rw[hx];rfl,by rw[hx];exact hM⟩)⟩⟩)⟩
 rw[y5b e]at hX;exact⟨⟨m,m.p,B,m.used,c,X⟩,rF8 (rF8 (rF6 ⟨⟨⟨hM,hB⟩,⟨hib,hq,hs⟩,hpz,hX⟩,λo ho=>⟨o,rF8 (rF6 ho)⟩⟩))⟩
def yKi:orderC.ok Tryz.prog 113:=okw mixed (gokc lO (gokc z4k (gokc z2z (gokc z9t (gokc z0e (gokc zWw gok0)))))) 0 (λ_=>yWx) (λ_=>[]) [] Tryz.func113 yUp
def zWh {p:Prd} {B:List (List zI)} (h:BWf p B) {id inst:Int} {o:zI} (hf:zZ B id=(inst,o,ao)):(0<=inst/\inst<B.length)/\zPo o:=by
 rw[zZ]at hf;split at hf
 ·cases hf
 ·rename_i k hk;obtain⟨L,hL,hh⟩:=gJ hk;rw[zS hL]at hf;cases hf;have hlt:=(y5f.1 hL).1;obtain⟨o,ho,e⟩:=y6n.1 (hasId_iff.1 hh);have hg:=rI (h.od k L hL).2.1 ho;rw[e]at hg;rw[hg];exact⟨oM,(h.od k L hL).1 o ho⟩
def zPq (p:Prd) (c:Cmd):∀(l:List jZ) (left:Int),(∀t∈l,SOk t/\1<=t.qty)->(aW p c l left).length<=1503*l.length
 |[],_,_=>y5x _
 |t::l,left,h=>by
  have a:=zPq p c l (left-t.qty) λu hu=>h u (y5j _ hu)
  have b:=zSz p c t (left-t.qty);have d:=(h t y5h).1.2.2;rw[aW,y5a,y5g];omega
def zBz {p:Prd} {B:List (List zI)} (h:BWf p B) (U:List Int) {c:Cmd} (hi:0<=c.inst/\c.inst<B.length) (hq:1<=c.qty/\c.qty<=1000000):(cV p B U c).R.length<=1503000002:=by
 obtain⟨s1,s2⟩:=zWa (inst:=c.inst) (sd:=decide (c.side=2)) (price:=c.price) _ c.qty B (y5x _) h hi;have k3:=(pS (inst:=c.inst) (sd:=decide (c.side=2)) (price:=c.price) _ c.qty B (y5x _) h).2.2 oM;have:=zTq s1;have:=zPq p c _ c.qty s1;rw[lY];dsimp only;rw[y5a,y5g];split
 ·rw[y5g,y6v];omega
 ·rw[y6v];omega
def yFa (i:yBi) (h:replaceC.cnd i):zXa i:=by
 obtain⟨m,p,B,U,c,inst,o,X⟩:=i;have h':m.Rep p B U/\BOk p B/\zZ B c.id=(inst,o,ao)/\(1<=c.qty/\c.qty<=1000000)/\X=fK p B U c inst o:=h;clear h;obtain⟨hM,hB,hf,hq,hX⟩:=h';obtain⟨ep,hR,eu⟩:=hM;subst ep eu;have hM:m.Rep m.p B m.used:=⟨rfl,hR,rfl⟩
 have hwf:=hR.wf hB;obtain⟨hin,hoo⟩:=zWh hwf hf;have hos:=hoo.s;have hoq:=hoo.q;have hbl:=hB.bl;have hcl:=xS m.p;unfold zXa bK tY qO fF rZ sL x7;dsimp only;refine⟨⟨m.p,inst,c.price⟩,rF8 (rF5 ⟨hB.ps,λ_ _=>Cv.cnd.mk (λe=> ?_) (λe=> ?_)⟩)⟩
 ·have e:m.p.price inst c.price≠0:=by simpa using e
  have hx:X=⟨B,m.used,nD c (m.p.price inst c.price)⟩:=by rw[hX,fK,y5d e]
  exact⟨⟨c,m.p.price inst c.price⟩,rF7 (rF3 ⟨trivial,λ_ _=>⟨m,rF8 (rF5 ⟨by rw[hx];rfl,by rw[hx];exact hM⟩)⟩⟩)⟩
 have hpz:m.p.price inst c.price=0:=by simpa using e
 rw[fK,y5b (by rw[hpz];decide)]at hX;have hw:ag.wrap (o.qty-c.qty)=o.qty-c.qty:=w64 oM;rw[hw];refine(λhT=>Cv.cnd.mk (λe1=>zH (λe2=> ?_) (λe2=>hT λx=>e2 x.2)) (λe1=>hT λx=>by rw[x.1]at e1;simp at e1)) (λ(hn:¬(c.price=o.price/\c.qty<=o.qty))=> ?_)
 ·have e1:c.price=o.price:=by simpa using e1
  rw[y5d ⟨e1,e2⟩]at hX;exact⟨⟨m,m.p,B,m.used,c.id,o.qty-c.qty,inst,o,X⟩,rF8 (rF8 (rF5 ⟨⟨⟨hM,hB⟩,⟨Z9,Z9⟩,hX⟩,λo' ho=>⟨o',rF8 (rF6 ho)⟩⟩))⟩
 rw[y5b hn]at hX;have hBt:=hB.take c.id o.qty;refine⟨m.s,rfl,hR.small hB,λ_ _=>⟨⟨m.s,m.p,B,c.id,o.qty⟩,rF3 ⟨⟨hR,Z9⟩,λo' ho'=>⟨⟨o',m.p,(kE B c.id o.qty).1,inst,decide (o.side=2),c.price,c.qty⟩,rfl,gP hos,rF3 ⟨⟨ho',hBt,by dsimp only;rw[pL];exact hin,hq.1,hq.2⟩,λ_ _=>Cv.cnd.mk (λe=> ?_) (λe=> ?_)⟩⟩⟩⟩⟩
 ·have hx:X=⟨B,m.used,nD c 23⟩:=by rw[hX,y5d e]
  exact⟨⟨c,23⟩,rF7 (rF3 ⟨trivial,λ_ _=>⟨m,rF8 (rF5 ⟨by rw[hx];rfl,by rw[hx];exact hM⟩)⟩⟩)⟩
 rw[y5b (by rw[e];decide)]at hX;refine⟨⟨m,m.p,B,m.used,c.id,0,inst,o,uQ B m.used c.id inst o⟩,rF8 (rF8 (rF4 ⟨⟨⟨hM,hB⟩,rfl⟩,λo1 ho1=>⟨⟨o1,m.p,(kE B c.id o.qty).1,m.used,⟨1,c.id,inst,o.side,c.price,c.qty,0,1,[]⟩,cV m.p (kE B c.id o.qty).1 m.used ⟨1,c.id,inst,o.side,c.price,c.qty,0,1,[]⟩⟩,rF8 (rF8 (rF6 ⟨⟨⟨ho1,hBt⟩,⟨by dsimp only;rw[pL];exact hin,hq,hos⟩,hpz,rfl⟩,λo2 ho2=>⟨?_,o2,rF8 (rF5 ⟨?_,?_⟩)⟩⟩))⟩⟩))⟩
 ·have:=zBz (hwf.take c.id o.qty) m.used (c:=⟨1,c.id,inst,o.side,c.price,c.qty,0,1,[]⟩) (by dsimp only;rw[pL];exact hin) hq;dsimp only;rw[y5c,y5c];have e1:(uQ B m.used c.id inst o).R.length=1:=rfl;omega
 ·rw[hX,<- y5l];rfl
 ·rw[hX];exact ho2
def z5a:replaceC.ok Tryz.prog 115:=okw mixed (gokc lO (gokc z4k (gokc zNh (gokc zEq (gokc z0e (gokc zQu (gokc zTi (gokc zWw gok0)))))))) 0 (λ_=>[]) (λ_=>[]) [] Tryz.func115 yFa
def vdo (i:EnI) (h:doC.cnd i):Vdo i:=by
 obtain⟨m,p,B,U,c,X⟩:=i;have h':(m.Rep p B U/\BOk p B)/\c.label.length<=140737488355328/\yV c.qty/\X=doF p B U c:=h;clear h;obtain⟨⟨hM,hB⟩,hlb,hqr,hX⟩:=h';obtain⟨ep,hR,eu⟩:=hM;subst ep eu;have hM:m.Rep m.p B m.used:=⟨rfl,hR,rfl⟩
 have hwf:=hR.wf hB;have hbl:=hB.bl;have hcl:=xS m.p;unfold Vdo sB yKf bK z1r zWn zUj;dsimp only;refine⟨c,rF6 (rF3 ⟨hlb,λ_ _=>Cv.cnd.mk (λe=> ?_) (λe=> ?_)⟩)⟩
 ·have e:c.right≠0:=by simpa using e
  have hx:X=⟨B,m.used,nD c c.right⟩:=by rw[hX,doF,y5d e]
  exact⟨⟨c,c.right⟩,rF7 (rF3 ⟨trivial,λ_ _=>⟨m,rF8 (rF5 ⟨by rw[hx];rfl,by rw[hx];exact hM⟩)⟩⟩)⟩
 have hr:c.right=0:=by simpa using e
 rw[doF,y5b (by rw[hr];decide)]at hX;refine Cv.cnd.mk (λe=> ?_) (λe=> ?_)
 ·have e:c.kind=1:=by simpa using e
  rw[y5d e]at hX;exact⟨⟨m,m.p,B,m.used,c,X⟩,rF8 (rF8 (rF6 ⟨⟨⟨hM,hB⟩,hr,e,hX⟩,λo ho=>⟨o,rF8 (rF6 ho)⟩⟩))⟩
 have hk:¬c.kind=1:=by simpa using e
 rw[y5b hk]at hX;refine(λhT=>⟨hT,rfl,trivial,hT⟩) ?_;refine⟨⟨m.s,m.p,B,c.id,0⟩,rfl,rfl,⟨hR,Z9⟩,λ_ _=>Cv.cnd.mk (λe=> ?_) (λe=> ?_)⟩
 ·have e:(zZ B c.id).2.2=ap:=by simpa using e
  have hx:X=⟨B,m.used,nD c 26⟩:=by rw[hX,y5d e]
  exact⟨⟨c,26⟩,rF7 (rF3 ⟨trivial,λ_ _=>⟨m,rF8 (rF5 ⟨by rw[hx];rfl,by rw[hx];exact hM⟩)⟩⟩)⟩
 have e:(zZ B c.id).2.2=ao:=by simpa using e
 rw[y5b (by rw[e];decide)]at hX;dsimp only;have hf:zZ B c.id=((zZ B c.id).1,(zZ B c.id).2.1,ao):=by rw[<- e]
 generalize (zZ B c.id).1=inst at*;generalize (zZ B c.id).2.1=o at*;obtain⟨hin,hoo⟩:=zWh hwf hf;have hoq:=hoo.q;refine Cv.cnd.mk (λe4=> ?_) (λe4=>Cv.cnd.mk (λe2=> ?_) (λe2=>zH (λe3=> ?_) (λe3=> ?_)))
 ·have e4:c.kind=4:=by simpa using e4
  rw[y5d e4]at hX;exact⟨⟨m,m.p,B,m.used,c,inst,o,X⟩,rF8 (rF8 (rF8 (rF4 ⟨⟨hM,hB,hf,zHu hr hk (by rw[e4];decide),hX⟩,λo' ho=>⟨o',rF8 (rF6 ho)⟩⟩)))⟩
 all_goals
  have e4:¬c.kind=4:=by simpa using e4
  rw[y5b e4]at hX
 ·have e2:c.kind=2:=by simpa using e2
  rw[y5d (.inl e2)]at hX;exact⟨⟨m,m.p,B,m.used,c.id,0,inst,o,X⟩,rF8 (rF8 (rF4 ⟨⟨⟨hM,hB⟩,hX⟩,λo' ho=>⟨o',rF8 (rF6 ho)⟩⟩))⟩
 ·rw[y5d (.inr (by omega))]at hX;exact⟨⟨m,m.p,B,m.used,c.id,0,inst,o,X⟩,rF8 (rF8 (rF4 ⟨⟨⟨hM,hB⟩,hX⟩,λo' ho=>⟨o',rF8 (rF6 ho)⟩⟩))⟩
 ·have e2:¬c.kind=2:=by simpa using e2
  have hq:=zHu hr hk e2;rw[y5b (by omega)]at hX;exact⟨⟨m,m.p,B,m.used,c.id,c.qty,inst,o,X⟩,rF8 (rF8 (rF5 ⟨⟨⟨hM,hB⟩,⟨Z9,Z9⟩,hX⟩,λo' ho=>⟨o',rF8 (rF6 ho)⟩⟩))⟩
def yYl:doC.ok Tryz.prog 50:=okw mixed (gokc z0v (gokc z4k (gokc yEx (gokc yKi (gokc z5a (gokc zQu (gokc zTi gok0))))))) 0 (λ_=>[]) (λ_=>[]) [0] Tryz.func50 vdo
end Sx
