/- Texts of ours. No condition. -/
import Derived.Test.YtaafldgiafcgfaaGreatC10
set_option linter.all false
open Sx.AObj renaming fro->aa,cells->ab,objs->ac,map->ae,own->af
open Go.IntKind renaming i64->ag
open List renaming map->aj
open Go.Value renaming int->ak,string->am
open Bool renaming true->ao,false->ap
open And renaming intro->aq
namespace Sx
set_option maxRecDepth 100000
open Go Cv Go.Proofs
def zCu (a:Mkt) (b:EnI) (c:EnJ):Prop:=zV a.used=uH (ak ag b.c.id) [D.v (.bool ao)] (zV b.m.used)/\aa 1 (iE a.p.months)=yW b.m 3/\aa 1 (iE a.p.settle)=yW b.m 4/\aj xQ b.X.R=aj xQ c.out/\a.Rep b.p b.X.B b.X.U
def vZ (a:EnI):=(D.v (am (sb a.c.label)))
def yJh (i:EnI):Prop:=
 (∀(a:Value×List D),a∈zV i.m.used->like (ak ag i.c.id) a.fst=ao)/\∃(a:RunI),a.inst=i.c.inst/\zC a.sd=i.c.side/\a.price=i.c.price/\a.q=i.c.qty/\zD a.s=yW i.m 1/\(qO a)/\∀(b:MSt),b.Rep a.p a.r.B->∃(c:EnJ),c.left=i.c.qty/\(↑c.k:Int)=0/\aj xQ c.out=[[dI 1,dI i.c.id,dI i.c.inst,dI i.c.side,dI i.c.price,dI i.c.qty,dI i.c.qty,dI 0]]/\∃(d:EnJ->Prop),∃(e:EnJ->Nat),d c/\∀(f:EnJ),d f->cnd (decide ((↑f.k:Int)<(↑(aj wB a.r.steps).length:Int))) ((0<=(↑f.k:Int)/\(↑f.k:Int)<(↑(aj wB a.r.steps).length:Int))/\∃(g:Int),∃(h:Int),∃(j:Bool),∃(k:List (List D)),zE (aj wB a.r.steps) (↑f.k:Int).toNat 0 4=some [dI g,dI h,D.v (.bool j),D.ro 6 k]/\∃(l:StI'),l.c.kind=i.c.kind/\l.c.id=i.c.id/\l.c.inst=i.c.inst/\l.c.side=i.c.side/\l.c.price=i.c.price/\l.c.qty=i.c.qty/\l.c.least=i.c.least/\l.c.time=i.c.time/\sb l.c.label=sb i.c.label/\l.x.price=g/\l.x.qty=h/\l.x.implied=j/\aj yV l.x.fills=k/\l.left=ag.wrap (f.left-h)/\sb l.m.p.code=sb i.m.p.code/\l.m.p.tick=i.m.p.tick/\l.m.p.low=i.m.p.low/\l.m.p.high=i.m.p.high/\l.m.p.wide=i.m.p.wide/\l.m.p.rule=i.m.p.rule/\l.m.p.top=i.m.p.top/\l.m.p.least=i.m.p.least/\l.m.p.part=i.m.p.part/\zD l.m.s=zD b/\zV l.m.used=uH (ak ag i.c.id) [D.v (.bool ao)] (zV i.m.used)/\aa 1 (iE l.m.p.months)=yW i.m 3/\aa 1 (iE l.m.p.settle)=yW i.m 4/\((l.m.p.check=0/\l.m.p.code.length<=1099511627776/\l.m.p.months.length<=1099511627776/\l.m.p.settle.length<=1099511627776)/\((-9223372036854775808)<=l.x.price/\l.x.price<=9223372036854775807)/\l.x.fills.length<=1000000/\(l.c.side=1\/l.c.side=2)/\∀(m:cK),m∈l.x.fills->m.side=1\/m.side=2)/\∀(m:Unit),True->((aj xQ f.out).length+(aj xQ (mZ l.m.p l.c l.x l.left)).length)*(64:Nat)<=(140737488355328:Nat)/\∃(n:EnJ),n.left=ag.wrap (f.left-h)/\(↑n.k:Int)=ag.wrap ((↑f.k:Int)+1)/\aj xQ n.out=aj xQ f.out++aj xQ (mZ l.m.p l.c l.x l.left)/\d n/\e n<e f/\zD l.m.s=zD b/\dh (af 290 4 (aj wB a.r.steps))/\dh (ab [V.d (dI i.c.kind),V.d (dI i.c.id),V.d (dI i.c.inst),V.d (dI i.c.side),V.d (dI i.c.price),V.d (dI i.c.qty),V.d (dI i.c.least),V.d (dI i.c.time),V.d (vZ i)] 44)/\ab [V.d (D.v (am (sb l.m.p.code))),V.own 3,V.d (dI l.m.p.tick),V.d (dI l.m.p.low),V.d (dI l.m.p.high),V.d (dI l.m.p.wide),V.d (dI l.m.p.rule),V.d (dI l.m.p.top),V.d (dI l.m.p.least),V.d (dI l.m.p.part),V.own 4,V.nm 1 0,V.mp 2] (114:TypeId)=yW i.m 0/\ae (zV l.m.used)=ae (uH (ak ag i.c.id) [D.v (.bool ao)] (zV i.m.used))/\aa 1 (iE l.m.p.months)=yW i.m 3/\aa 1 (iE l.m.p.settle)=yW i.m 4) (cnd (a.r.left==0) (∃(g:Mkt),sb g.p.code=sb i.m.p.code/\g.p.tick=i.m.p.tick/\g.p.low=i.m.p.low/\g.p.high=i.m.p.high/\g.p.wide=i.m.p.wide/\g.p.rule=i.m.p.rule/\g.p.top=i.m.p.top/\g.p.least=i.m.p.least/\g.p.part=i.m.p.part/\zD g.s=zD b/\zCu g i f) (cnd (i.c.time==1) (∃(g:SaI),g.inst=i.c.inst/\g.id=i.c.id/\zC g.sd=i.c.side/\g.price=i.c.price/\g.qty=a.r.left/\zD g.s=zD b/\((g.s.p.code.length<=1099511627776/\g.s.p.months.length<=1099511627776/\g.s.p.settle.length<=1099511627776)/\g.s.books.length<=1000000/\∀(h:Book),h∈g.s.books->(h.a.slots.length<=1000000/\(h.a.free≠0->∃(j:Slot),j∈h.a.slots/\j.used=ap)/\∀(j:cJ),j∈h.a.queues->j.last=(-1)\/0<=j.last/\j.last<(↑h.a.slots.length:Int))/\h.a.queues.length<=100000/\h.buys.length<=100000/\h.sells.length<=100000/\h.spare.length<=100000)/\∀(h:Unit),True->∃(j:Mkt),sb j.p.code=sb i.m.p.code/\j.p.tick=i.m.p.tick/\j.p.low=i.m.p.low/\j.p.high=i.m.p.high/\j.p.wide=i.m.p.wide/\j.p.rule=i.m.p.rule/\j.p.top=i.m.p.top/\j.p.least=i.m.p.least/\j.p.part=i.m.p.part/\zD j.s=zD (MSt.addF g).fst/\zCu j i f) (((aj xQ f.out).length+1)*(64:Nat)<=(140737488355328:Nat)/\∃(g:Mkt),sb g.p.code=sb i.m.p.code/\g.p.tick=i.m.p.tick/\g.p.low=i.m.p.low/\g.p.high=i.m.p.high/\g.p.wide=i.m.p.wide/\g.p.rule=i.m.p.rule/\g.p.top=i.m.p.top/\g.p.least=i.m.p.least/\g.p.part=i.m.p.part/\zD g.s=zD b/\zV g.used=uH (ak ag i.c.id) [D.v (.bool ao)] (zV i.m.used)/\aa 1 (iE g.p.months)=yW i.m 3/\aa 1 (iE g.p.settle)=yW i.m 4/\aj xQ i.X.R=aj xQ f.out++[[dI 4,dI i.c.id,dI i.c.inst,dI i.c.side,dI i.c.price,dI a.r.left,dI 0,dI 0]]/\g.Rep i.p i.X.B i.X.U)))
def zIt (a:EnI):Prop:=ab [V.d (dI a.c.kind),V.d (dI a.c.id),V.d (dI a.c.inst),V.d (dI a.c.side),V.d (dI a.c.price),V.d (dI a.c.qty),V.d (dI a.c.least),V.d (dI a.c.time),V.d (vZ a)] 44=ab [V.d (dI a.c.kind),V.d (dI a.c.id),V.d (dI a.c.inst),V.d (dI a.c.side),V.d (dI a.c.price),V.d (dI a.c.qty),V.d (dI a.c.least),V.d (dI a.c.time),V.d (vZ a)] 44/\dh (yW a.m 0)/\dh (yW a.m 2)/\dh (yW a.m 3)/\dh (yW a.m 4)
def zHu (a:Bool->Prop) (b:SoI) (c:EnI):Prop:=∃(d:Bool),d=ap/\a d/\dh (zD b.s)/\zIt c
def zHz (a:Int->Prop) (b:Int) (c:EnI):Prop:=a b/\dh (ab [V.d (dI c.c.kind),V.d (dI c.c.id),V.d (dI c.c.inst),V.d (dI c.c.side),V.d (dI c.c.price),V.d (dI c.c.qty),V.d (dI c.c.least),V.d (dI c.c.time),V.d (vZ c)] 44)/\dh (yW c.m 0)/\dh (yW c.m 1)/\dh (yW c.m 2)/\dh (yW c.m 3)/\dh (yW c.m 4)
def zJb (a:Bool->Prop) (b:Bool) (c:RunI) (d:SoI) (e:EnI):Prop:=a b/\zD c.s=zD d.s/\zIt e
def zCl (a:Mkt) (b:EnI) (c:RjI):Prop:=zV a.used=zV b.m.used/\aa 1 (iE a.p.months)=yW b.m 3/\aa 1 (iE a.p.settle)=yW b.m 4/\aj xQ b.X.R=[xQ (Rep.mk 2 c.c.id 0 0 0 0 0 c.why)]/\a.Rep b.p b.X.B b.X.U
def zBs (a:EnI) (b:RjI):Prop:=True/\∀(c:Unit),True->∃(d:Mkt),sb d.p.code=sb a.m.p.code/\d.p.tick=a.m.p.tick/\d.p.low=a.m.p.low/\d.p.high=a.m.p.high/\d.p.wide=a.m.p.wide/\d.p.rule=a.m.p.rule/\d.p.top=a.m.p.top/\d.p.least=a.m.p.least/\d.p.part=a.m.p.part/\zD d.s=yW a.m 1/\zCl d a b
def rD (a:EnI) (b:SoI) (c:RjI):Prop:=True/\∀(d:Unit),True->∃(e:Mkt),sb e.p.code=sb a.m.p.code/\e.p.tick=a.m.p.tick/\e.p.low=a.m.p.low/\e.p.high=a.m.p.high/\e.p.wide=a.m.p.wide/\e.p.rule=a.m.p.rule/\e.p.top=a.m.p.top/\e.p.least=a.m.p.least/\e.p.part=a.m.p.part/\zD e.s=zD b.s/\zCl e a c
def sK (a:EnI) (b:EnI):Prop:=∀(c:Mkt),c.Rep a.p a.X.B a.X.U->∃(d:Mkt),sb d.p.code=sb c.p.code/\d.p.tick=c.p.tick/\d.p.low=c.p.low/\d.p.high=c.p.high/\d.p.wide=c.p.wide/\d.p.rule=c.p.rule/\d.p.top=c.p.top/\d.p.least=c.p.least/\d.p.part=c.p.part/\zD d.s=zD c.s/\zV d.used=zV c.used/\aa 1 (iE d.p.months)=aa 1 (iE c.p.months)/\aa 1 (iE d.p.settle)=aa 1 (iE c.p.settle)/\aj xQ b.X.R=aj xQ a.X.R/\d.Rep b.p b.X.B b.X.U
def rQ (a:EnI):Prop:=(a.m.Rep a.p a.B a.U/\BOk a.p a.B)/\((0<=a.c.inst/\a.c.inst<(↑a.B.length:Int))/\(1<=a.c.qty/\a.c.qty<=1000000)/\(a.c.side=1\/a.c.side=2))/\a.p.price a.c.inst a.c.price=0/\a.X=cV a.p a.B a.U a.c
def yDf (i:EnI):Prop:=
 ∃(a:tJ),sb a.p.code=sb i.m.p.code/\iE a.p.months=iE i.m.p.months/\a.p.tick=i.m.p.tick/\a.p.low=i.m.p.low/\a.p.high=i.m.p.high/\a.p.wide=i.m.p.wide/\a.p.rule=i.m.p.rule/\a.p.top=i.m.p.top/\a.p.least=i.m.p.least/\a.p.part=i.m.p.part/\iE a.p.settle=iE i.m.p.settle/\a.a=i.c.inst/\a.b=i.c.price/\(qB a)/\∀(b:Unit),True->cnd (a.p.price a.a a.b !=0) (∃(c:RjI),c.c.kind=i.c.kind/\c.c.id=i.c.id/\c.c.inst=i.c.inst/\c.c.side=i.c.side/\c.c.price=i.c.price/\c.c.qty=i.c.qty/\c.c.least=i.c.least/\c.c.time=i.c.time/\sb c.c.label=sb i.c.label/\c.why=a.p.price a.a a.b/\zBs i c) (∃(c:Int),∃(d:Int->Prop),cnd (i.c.time==3) (∃(e:Int),e=i.c.qty/\zHz d e i) (∃(e:Int),e=i.c.least/\zHz d e i)/\∀(e:Int),d e->(∀(f:Value×List D),f∈zV i.m.used->like (ak ag i.c.id) f.fst=ao)/\∃(f:Bool),∃(g:Bool),(kK (ak ag i.c.id) (zV i.m.used)=some [D.v (.bool g)]/\f=ao\/kK (ak ag i.c.id) (zV i.m.used)=none/\[D.v (.bool g)]=[D.v (.bool ap)]/\f=ap)/\cnd g (∃(h:RjI),h.c.kind=i.c.kind/\h.c.id=i.c.id/\h.c.inst=i.c.inst/\h.c.side=i.c.side/\h.c.price=i.c.price/\h.c.qty=i.c.qty/\h.c.least=i.c.least/\h.c.time=i.c.time/\sb h.c.label=sb i.c.label/\h.why=25/\zBs i h) (∃(h:SoI),zD h.s=yW i.m 1/\(h.s.Rep h.p h.B/\h.B.length<=1000)/\∀(j:Unit),True->cnd (decide ((↑(zVh h.B):Int)>=250)) (∃(k:RjI),k.c.kind=i.c.kind/\k.c.id=i.c.id/\k.c.inst=i.c.inst/\k.c.side=i.c.side/\k.c.price=i.c.price/\k.c.qty=i.c.qty/\k.c.least=i.c.least/\k.c.time=i.c.time/\sb k.c.label=sb i.c.label/\k.why=13/\rD i h k) (∃(k:Bool),∃(l:Bool->Prop),cnd (decide (e>0)) (∃(m:RunI),m.inst=i.c.inst/\zC m.sd=i.c.side/\m.price=i.c.price/\m.q=i.c.qty/\zD m.s=zD h.s/\(qO m)/\∀(n:Unit),True->∃(p:Bool),p=decide (m.q-m.r.left<e)/\zJb l p m h i) (zHu l h i)/\∀(m:Bool),l m->cnd m (∃(n:RjI),n.c.kind=i.c.kind/\n.c.id=i.c.id/\n.c.inst=i.c.inst/\n.c.side=i.c.side/\n.c.price=i.c.price/\n.c.qty=i.c.qty/\n.c.least=i.c.least/\n.c.time=i.c.time/\sb n.c.label=sb i.c.label/\n.why=28/\rD i h n) (∃(n:Bool),∃(p:Bool->Prop),cnd (i.c.time==1) (∃(q:RunI),q.inst=i.c.inst/\zC q.sd=i.c.side/\q.price=i.c.price/\q.q=i.c.qty/\zD q.s=zD h.s/\(qO q)/\∀(r:Unit),True->∃(s:Bool),s=mF q.p q.B q.inst q.sd q.price q.q/\zJb p s q h i) (zHu p h i)/\∀(q:Bool),p q->cnd q (∃(r:RjI),r.c.kind=i.c.kind/\r.c.id=i.c.id/\r.c.inst=i.c.inst/\r.c.side=i.c.side/\r.c.price=i.c.price/\r.c.qty=i.c.qty/\r.c.least=i.c.least/\r.c.time=i.c.time/\sb r.c.label=sb i.c.label/\r.why=23/\rD i h r) (∃(r:EnI),r.c.kind=i.c.kind/\r.c.id=i.c.id/\r.c.inst=i.c.inst/\r.c.side=i.c.side/\r.c.price=i.c.price/\r.c.qty=i.c.qty/\r.c.least=i.c.least/\r.c.time=i.c.time/\sb r.c.label=sb i.c.label/\sb r.m.p.code=sb i.m.p.code/\r.m.p.tick=i.m.p.tick/\r.m.p.low=i.m.p.low/\r.m.p.high=i.m.p.high/\r.m.p.wide=i.m.p.wide/\r.m.p.rule=i.m.p.rule/\r.m.p.top=i.m.p.top/\r.m.p.least=i.m.p.least/\r.m.p.part=i.m.p.part/\zD r.m.s=zD h.s/\zV r.m.used=zV i.m.used/\aa 1 (iE r.m.p.months)=yW i.m 3/\aa 1 (iE r.m.p.settle)=yW i.m 4/\(rQ r)/\sK r i)))))
def yNe (i:CaI):Prop:=
 ∃(i_1:StI),i_1.id=i.id/\i_1.q=i.o.qty/\zD i_1.s=yW i.m 1/\(i_1.s.Rep i_1.p i_1.B/\i_1.B.length<=1000)/\∀(o:MSt),o.Rep i_1.p (kI i_1.B i_1.id i_1.q).fst->∃(o_1:Mkt),sb o_1.p.code=sb i.m.p.code/\o_1.p.tick=i.m.p.tick/\o_1.p.low=i.m.p.low/\o_1.p.high=i.m.p.high/\o_1.p.wide=i.m.p.wide/\o_1.p.rule=i.m.p.rule/\o_1.p.top=i.m.p.top/\o_1.p.least=i.m.p.least/\o_1.p.part=i.m.p.part/\zD o_1.s=zD o/\zV o_1.used=zV i.m.used/\aa 1 (iE o_1.p.months)=yW i.m 3/\aa 1 (iE o_1.p.settle)=yW i.m 4/\aj xQ i.X.R=[[D.v (.int .i64 4),D.v (.int .i64 i.id),D.v (.int .i64 i.inst),D.v (.int .i64 i.o.side),D.v (.int .i64 i.o.price),D.v (.int .i64 i.o.qty),D.v (.int .i64 0),D.v (.int .i64 0)]]/\o_1.Rep i.p i.X.B i.X.U
def z6n (i:CaI):Prop:=
 ∃(a:StI),a.id=i.id/\a.q=i.q/\zD a.s=yW i.m 1/\(a.s.Rep a.p a.B/\a.B.length<=1000)/\∀(b:MSt),b.Rep a.p (kI a.B a.id a.q).fst->∃(c:Mkt),sb c.p.code=sb i.m.p.code/\c.p.tick=i.m.p.tick/\c.p.low=i.m.p.low/\c.p.high=i.m.p.high/\c.p.wide=i.m.p.wide/\c.p.rule=i.m.p.rule/\c.p.top=i.m.p.top/\c.p.least=i.m.p.least/\c.p.part=i.m.p.part/\zD c.s=zD b/\zV c.used=zV i.m.used/\aa 1 (iE c.p.months)=yW i.m 3/\aa 1 (iE c.p.settle)=yW i.m 4/\aj xQ i.X.R=[[dI 5,dI i.id,dI i.inst,dI i.o.side,dI i.o.price,dI i.q,dI (ag.wrap (i.o.qty-i.q)),dI 0]]/\c.Rep i.p i.X.B i.X.U
def rF (a:Mkt) (b:yAy) (c:RjI):Prop:=zV a.used=zV b.m.used/\aa 1 (iE a.p.months)=yW b.m 3/\aa 1 (iE a.p.settle)=yW b.m 4/\aj xQ b.X.R=[xQ (Rep.mk 2 c.c.id 0 0 0 0 0 c.why)]/\a.Rep b.p b.X.B b.X.U
def zDq (a:yAy):Prop:=∃(b:MSt),zD b=yW a.m 1/\(gX b)/\∀(c:Unit),True->∃(d:StI),d.id=a.c.id/\d.q=a.o.qty/\zD d.s=zD b/\(d.s.Rep d.p d.B/\d.B.length<=1000)/\∀(e:MSt),e.Rep d.p (kI d.B d.id d.q).fst->∃(f:RunI),f.inst=a.inst/\zC f.sd=a.o.side/\f.price=a.c.price/\f.q=a.c.qty/\zD f.s=zD e/\(qO f)/\∀(g:Unit),True->cnd (mF f.p f.B f.inst f.sd f.price f.q) (∃(h:RjI),h.c.kind=a.c.kind/\h.c.id=a.c.id/\h.c.inst=a.c.inst/\h.c.side=a.c.side/\h.c.price=a.c.price/\h.c.qty=a.c.qty/\h.c.least=a.c.least/\h.c.time=a.c.time/\sb h.c.label=sb a.c.label/\h.why=23/\True/\∀(j:Unit),True->∃(k:Mkt),sb k.p.code=sb a.m.p.code/\k.p.tick=a.m.p.tick/\k.p.low=a.m.p.low/\k.p.high=a.m.p.high/\k.p.wide=a.m.p.wide/\k.p.rule=a.m.p.rule/\k.p.top=a.m.p.top/\k.p.least=a.m.p.least/\k.p.part=a.m.p.part/\zD k.s=zD b/\rF k a h) (∃(h:CaI),h.id=a.c.id/\h.inst=a.inst/\h.o.id=a.o.id/\h.o.side=a.o.side/\h.o.price=a.o.price/\h.o.qty=a.o.qty/\h.o.top=a.o.top/\sb h.m.p.code=sb a.m.p.code/\h.m.p.tick=a.m.p.tick/\h.m.p.low=a.m.p.low/\h.m.p.high=a.m.p.high/\h.m.p.wide=a.m.p.wide/\h.m.p.rule=a.m.p.rule/\h.m.p.top=a.m.p.top/\h.m.p.least=a.m.p.least/\h.m.p.part=a.m.p.part/\zD h.m.s=zD b/\zV h.m.used=zV a.m.used/\aa 1 (iE h.m.p.months)=yW a.m 3/\aa 1 (iE h.m.p.settle)=yW a.m 4/\((h.m.Rep h.p h.B h.U/\BOk h.p h.B)/\h.X=uN h.B h.U h.id h.inst h.o)/\∀(j:Mkt),j.Rep h.p h.X.B h.X.U->∃(k:EnI),k.c.kind=1/\k.c.id=a.c.id/\k.c.inst=a.inst/\k.c.side=a.o.side/\k.c.price=a.c.price/\k.c.qty=a.c.qty/\k.c.least=0/\k.c.time=1/\sb k.c.label=ByteArray.mk #[]/\sb k.m.p.code=sb j.p.code/\k.m.p.tick=j.p.tick/\k.m.p.low=j.p.low/\k.m.p.high=j.p.high/\k.m.p.wide=j.p.wide/\k.m.p.rule=j.p.rule/\k.m.p.top=j.p.top/\k.m.p.least=j.p.least/\k.m.p.part=j.p.part/\zD k.m.s=zD j.s/\zV k.m.used=zV j.used/\aa 1 (iE k.m.p.months)=aa 1 (iE j.p.months)/\aa 1 (iE k.m.p.settle)=aa 1 (iE j.p.settle)/\(rQ k)/\∀(l:Mkt),l.Rep k.p k.X.B k.X.U->((aj xQ h.X.R).length+(aj xQ k.X.R).length)*(64:Nat)<=(140737488355328:Nat)/\∃(m:Mkt),sb m.p.code=sb l.p.code/\m.p.tick=l.p.tick/\m.p.low=l.p.low/\m.p.high=l.p.high/\m.p.wide=l.p.wide/\m.p.rule=l.p.rule/\m.p.top=l.p.top/\m.p.least=l.p.least/\m.p.part=l.p.part/\zD m.s=zD l.s/\zV m.used=zV l.used/\aa 1 (iE m.p.months)=aa 1 (iE l.p.months)/\aa 1 (iE m.p.settle)=aa 1 (iE l.p.settle)/\aj xQ a.X.R=aj xQ h.X.R++aj xQ k.X.R/\m.Rep a.p a.X.B a.X.U)
def bK (a:CaI):Prop:=(a.m.Rep a.p a.B a.U/\BOk a.p a.B)/\((-9223372036854775808)<=a.o.qty-a.q/\a.o.qty-a.q<=9223372036854775807)/\a.X=bI a.B a.U a.id a.q a.inst a.o
def zZx (i:yAy):Prop:=
 ∃(a:tJ),sb a.p.code=sb i.m.p.code/\iE a.p.months=iE i.m.p.months/\a.p.tick=i.m.p.tick/\a.p.low=i.m.p.low/\a.p.high=i.m.p.high/\a.p.wide=i.m.p.wide/\a.p.rule=i.m.p.rule/\a.p.top=i.m.p.top/\a.p.least=i.m.p.least/\a.p.part=i.m.p.part/\iE a.p.settle=iE i.m.p.settle/\a.a=i.inst/\a.b=i.c.price/\(qB a)/\∀(b:Unit),True->cnd (a.p.price a.a a.b !=0) (∃(c:RjI),c.c.kind=i.c.kind/\c.c.id=i.c.id/\c.c.inst=i.c.inst/\c.c.side=i.c.side/\c.c.price=i.c.price/\c.c.qty=i.c.qty/\c.c.least=i.c.least/\c.c.time=i.c.time/\sb c.c.label=sb i.c.label/\c.why=a.p.price a.a a.b/\True/\∀(d:Unit),True->∃(e:Mkt),sb e.p.code=sb i.m.p.code/\e.p.tick=i.m.p.tick/\e.p.low=i.m.p.low/\e.p.high=i.m.p.high/\e.p.wide=i.m.p.wide/\e.p.rule=i.m.p.rule/\e.p.top=i.m.p.top/\e.p.least=i.m.p.least/\e.p.part=i.m.p.part/\zD e.s=yW i.m 1/\rF e i c) (cnd (i.c.price==i.o.price) (cnd (decide (i.c.qty<=i.o.qty)) (∃(c:CaI),c.id=i.c.id/\c.q=ag.wrap (i.o.qty-i.c.qty)/\c.inst=i.inst/\c.o.id=i.o.id/\c.o.side=i.o.side/\c.o.price=i.o.price/\c.o.qty=i.o.qty/\c.o.top=i.o.top/\sb c.m.p.code=sb i.m.p.code/\c.m.p.tick=i.m.p.tick/\c.m.p.low=i.m.p.low/\c.m.p.high=i.m.p.high/\c.m.p.wide=i.m.p.wide/\c.m.p.rule=i.m.p.rule/\c.m.p.top=i.m.p.top/\c.m.p.least=i.m.p.least/\c.m.p.part=i.m.p.part/\zD c.m.s=yW i.m 1/\zV c.m.used=zV i.m.used/\aa 1 (iE c.m.p.months)=yW i.m 3/\aa 1 (iE c.m.p.settle)=yW i.m 4/\(bK c)/\∀(d:Mkt),d.Rep c.p c.X.B c.X.U->∃(e:Mkt),sb e.p.code=sb d.p.code/\e.p.tick=d.p.tick/\e.p.low=d.p.low/\e.p.high=d.p.high/\e.p.wide=d.p.wide/\e.p.rule=d.p.rule/\e.p.top=d.p.top/\e.p.least=d.p.least/\e.p.part=d.p.part/\zD e.s=zD d.s/\zV e.used=zV d.used/\aa 1 (iE e.p.months)=aa 1 (iE d.p.months)/\aa 1 (iE e.p.settle)=aa 1 (iE d.p.settle)/\aj xQ i.X.R=aj xQ c.X.R/\e.Rep i.p i.X.B i.X.U) (zDq i)) (zDq i))
def zWg (a:CaI) (b:EnI):Prop:=∀(c:Mkt),c.Rep a.p a.X.B a.X.U->∃(d:Mkt),sb d.p.code=sb c.p.code/\d.p.tick=c.p.tick/\d.p.low=c.p.low/\d.p.high=c.p.high/\d.p.wide=c.p.wide/\d.p.rule=c.p.rule/\d.p.top=c.p.top/\d.p.least=c.p.least/\d.p.part=c.p.part/\zD d.s=zD c.s/\zV d.used=zV c.used/\aa 1 (iE d.p.months)=aa 1 (iE c.p.months)/\aa 1 (iE d.p.settle)=aa 1 (iE c.p.settle)/\aj xQ b.X.R=aj xQ a.X.R/\d.Rep b.p b.X.B b.X.U
def zVi (a:Mkt) (b:EnI) (c:RjI):Prop:=zV a.used=zV b.m.used/\aa 1 (iE a.p.months)=aa 1 (iE b.m.p.months)/\aa 1 (iE a.p.settle)=aa 1 (iE b.m.p.settle)/\aj xQ b.X.R=[xQ (Rep.mk 2 c.c.id 0 0 0 0 0 c.why)]/\a.Rep b.p b.X.B b.X.U
def z1p (a:EnI) (b:StI):Prop:=∃(c:CaI),c.id=a.c.id/\c.inst=(zQ b.B b.id).fst/\c.o.id=(zQ b.B b.id).snd.fst.id/\c.o.side=(zQ b.B b.id).snd.fst.side/\c.o.price=(zQ b.B b.id).snd.fst.price/\c.o.qty=(zQ b.B b.id).snd.fst.qty/\c.o.top=(zQ b.B b.id).snd.fst.top/\sb c.m.p.code=sb a.m.p.code/\c.m.p.tick=a.m.p.tick/\c.m.p.low=a.m.p.low/\c.m.p.high=a.m.p.high/\c.m.p.wide=a.m.p.wide/\c.m.p.rule=a.m.p.rule/\c.m.p.top=a.m.p.top/\c.m.p.least=a.m.p.least/\c.m.p.part=a.m.p.part/\zD c.m.s=zD b.s/\zV c.m.used=zV a.m.used/\aa 1 (iE c.m.p.months)=aa 1 (iE a.m.p.months)/\aa 1 (iE c.m.p.settle)=aa 1 (iE a.m.p.settle)/\((c.m.Rep c.p c.B c.U/\BOk c.p c.B)/\c.X=uN c.B c.U c.id c.inst c.o)/\zWg c a
def yCz (a:EnI):Prop:=∃(b:StI),b.id=a.c.id/\zD b.s=zD a.m.s/\(b.s.Rep b.p b.B/\b.B.length<=1000)/\∀(c:Unit),True->cnd (!(zQ b.B b.id).snd.snd) (∃(d:RjI),d.c.kind=a.c.kind/\d.c.id=a.c.id/\d.c.inst=a.c.inst/\d.c.side=a.c.side/\d.c.price=a.c.price/\d.c.qty=a.c.qty/\d.c.least=a.c.least/\d.c.time=a.c.time/\sb d.c.label=sb a.c.label/\d.why=26/\True/\∀(e:Unit),True->∃(f:Mkt),sb f.p.code=sb a.m.p.code/\f.p.tick=a.m.p.tick/\f.p.low=a.m.p.low/\f.p.high=a.m.p.high/\f.p.wide=a.m.p.wide/\f.p.rule=a.m.p.rule/\f.p.top=a.m.p.top/\f.p.least=a.m.p.least/\f.p.part=a.m.p.part/\zD f.s=zD b.s/\zVi f a d) (cnd (a.c.kind==4) (∃(d:yAy),d.c.kind=a.c.kind/\d.c.id=a.c.id/\d.c.inst=a.c.inst/\d.c.side=a.c.side/\d.c.price=a.c.price/\d.c.qty=a.c.qty/\d.c.least=a.c.least/\d.c.time=a.c.time/\sb d.c.label=sb a.c.label/\d.inst=(zQ b.B b.id).fst/\d.o.id=(zQ b.B b.id).snd.fst.id/\d.o.side=(zQ b.B b.id).snd.fst.side/\d.o.price=(zQ b.B b.id).snd.fst.price/\d.o.qty=(zQ b.B b.id).snd.fst.qty/\d.o.top=(zQ b.B b.id).snd.fst.top/\sb d.m.p.code=sb a.m.p.code/\d.m.p.tick=a.m.p.tick/\d.m.p.low=a.m.p.low/\d.m.p.high=a.m.p.high/\d.m.p.wide=a.m.p.wide/\d.m.p.rule=a.m.p.rule/\d.m.p.top=a.m.p.top/\d.m.p.least=a.m.p.least/\d.m.p.part=a.m.p.part/\zD d.m.s=zD b.s/\zV d.m.used=zV a.m.used/\aa 1 (iE d.m.p.months)=aa 1 (iE a.m.p.months)/\aa 1 (iE d.m.p.settle)=aa 1 (iE a.m.p.settle)/\(d.m.Rep d.p d.B d.U/\BOk d.p d.B/\zQ d.B d.c.id=(d.inst,d.o,ao)/\(1<=d.c.qty/\d.c.qty<=1000000)/\d.X=fZ d.p d.B d.U d.c d.inst d.o)/\∀(e:Mkt),e.Rep d.p d.X.B d.X.U->∃(f:Mkt),sb f.p.code=sb e.p.code/\f.p.tick=e.p.tick/\f.p.low=e.p.low/\f.p.high=e.p.high/\f.p.wide=e.p.wide/\f.p.rule=e.p.rule/\f.p.top=e.p.top/\f.p.least=e.p.least/\f.p.part=e.p.part/\zD f.s=zD e.s/\zV f.used=zV e.used/\aa 1 (iE f.p.months)=aa 1 (iE e.p.months)/\aa 1 (iE f.p.settle)=aa 1 (iE e.p.settle)/\aj xQ a.X.R=aj xQ d.X.R/\f.Rep a.p a.X.B a.X.U) (cnd (a.c.kind==2) (z1p a b) (cnd (decide (a.c.qty>=(zQ b.B b.id).snd.fst.qty)) (z1p a b) (∃(d:CaI),d.id=a.c.id/\d.q=a.c.qty/\d.inst=(zQ b.B b.id).fst/\d.o.id=(zQ b.B b.id).snd.fst.id/\d.o.side=(zQ b.B b.id).snd.fst.side/\d.o.price=(zQ b.B b.id).snd.fst.price/\d.o.qty=(zQ b.B b.id).snd.fst.qty/\d.o.top=(zQ b.B b.id).snd.fst.top/\sb d.m.p.code=sb a.m.p.code/\d.m.p.tick=a.m.p.tick/\d.m.p.low=a.m.p.low/\d.m.p.high=a.m.p.high/\d.m.p.wide=a.m.p.wide/\d.m.p.rule=a.m.p.rule/\d.m.p.top=a.m.p.top/\d.m.p.least=a.m.p.least/\d.m.p.part=a.m.p.part/\zD d.m.s=zD b.s/\zV d.m.used=zV a.m.used/\aa 1 (iE d.m.p.months)=aa 1 (iE a.m.p.months)/\aa 1 (iE d.m.p.settle)=aa 1 (iE a.m.p.settle)/\(bK d)/\zWg d a))))
def Vdo (i:EnI):Prop:=
 ∃(a:Cmd),a.kind=i.c.kind/\a.id=i.c.id/\a.inst=i.c.inst/\a.side=i.c.side/\a.price=i.c.price/\a.qty=i.c.qty/\a.least=i.c.least/\a.time=i.c.time/\sb a.label=sb i.c.label/\a.label.length<=140737488355328/\∀(b:Unit),True->cnd (a.right !=0) (∃(c:RjI),c.c.kind=i.c.kind/\c.c.id=i.c.id/\c.c.inst=i.c.inst/\c.c.side=i.c.side/\c.c.price=i.c.price/\c.c.qty=i.c.qty/\c.c.least=i.c.least/\c.c.time=i.c.time/\sb c.c.label=sb i.c.label/\c.why=a.right/\True/\∀(d:Unit),True->∃(e:Mkt),sb e.p.code=sb i.m.p.code/\e.p.tick=i.m.p.tick/\e.p.low=i.m.p.low/\e.p.high=i.m.p.high/\e.p.wide=i.m.p.wide/\e.p.rule=i.m.p.rule/\e.p.top=i.m.p.top/\e.p.least=i.m.p.least/\e.p.part=i.m.p.part/\zD e.s=zD i.m.s/\zVi e i c) (cnd (i.c.kind==1) (∃(c:EnI),c.c.kind=i.c.kind/\c.c.id=i.c.id/\c.c.inst=i.c.inst/\c.c.side=i.c.side/\c.c.price=i.c.price/\c.c.qty=i.c.qty/\c.c.least=i.c.least/\c.c.time=i.c.time/\sb c.c.label=sb i.c.label/\sb c.m.p.code=sb i.m.p.code/\c.m.p.tick=i.m.p.tick/\c.m.p.low=i.m.p.low/\c.m.p.high=i.m.p.high/\c.m.p.wide=i.m.p.wide/\c.m.p.rule=i.m.p.rule/\c.m.p.top=i.m.p.top/\c.m.p.least=i.m.p.least/\c.m.p.part=i.m.p.part/\zD c.m.s=zD i.m.s/\zV c.m.used=zV i.m.used/\aa 1 (iE c.m.p.months)=aa 1 (iE i.m.p.months)/\aa 1 (iE c.m.p.settle)=aa 1 (iE i.m.p.settle)/\((c.m.Rep c.p c.B c.U/\BOk c.p c.B)/\c.c.right=0/\c.c.kind=1/\c.X=nB c.p c.B c.U c.c)/\sK c i) ((yCz i)/\dh i.c.id/\True/\yCz i))
def ySq (i:MfI):Prop:=
 ∃(i_1:StI),i_1.id=i.id/\zD i_1.s=zD i.m.s/\(i_1.s.Rep i_1.p i_1.B/\i_1.B.length<=1000)/\∀(o:Unit),True->∃(o:Unit),(zQ i.B i.id).fst=(zQ i_1.B i_1.id).fst/\(zQ i.B i.id).snd.fst.id=(zQ i_1.B i_1.id).snd.fst.id/\(zQ i.B i.id).snd.fst.side=(zQ i_1.B i_1.id).snd.fst.side/\(zQ i.B i.id).snd.fst.price=(zQ i_1.B i_1.id).snd.fst.price/\(zQ i.B i.id).snd.fst.qty=(zQ i_1.B i_1.id).snd.fst.qty/\(zQ i.B i.id).snd.fst.top=(zQ i_1.B i_1.id).snd.fst.top/\(zQ i.B i.id).snd.snd=(zQ i_1.B i_1.id).snd.snd/\dh (sb i.m.p.code)/\dh i.m.p.tick/\dh i.m.p.low/\dh i.m.p.high/\dh i.m.p.wide/\dh i.m.p.rule/\dh i.m.p.top/\dh i.m.p.least/\dh i.m.p.part/\zD i.m.s=zD i_1.s/\dh (zV i.m.used)/\dh (aa 1 (iE i.m.p.months))/\dh (aa 1 (iE i.m.p.settle))/\True
def lM (p:Prd) (B:List (List zH)) (U:List Int) (c:Cmd):cV p B U c=⟨if(wH p B c.inst (decide (c.side=2)) c.price c.qty).left≠0/\c.time=1 then(z4m p (wH p B c.inst (decide (c.side=2)) c.price c.qty).B c.inst c.id c.side c.price (wH p B c.inst (decide (c.side=2)) c.price c.qty).left).1 else(wH p B c.inst (decide (c.side=2)) c.price c.qty).B,zQc U c.id,
 (⟨1,c.id,c.inst,c.side,c.price,c.qty,c.qty,0⟩::aP p c (wH p B c.inst (decide (c.side=2)) c.price c.qty).steps c.qty)++if(wH p B c.inst (decide (c.side=2)) c.price c.qty).left≠0/\c.time≠1 then[⟨4,c.id,c.inst,c.side,c.price,(wH p B c.inst (decide (c.side=2)) c.price c.qty).left,0,0⟩]else[]⟩:=by
 rw[cV]
def zTa {p:Prd} {B:List (List zH)} (h:BWf p B) (U:List Int) (c:Cmd):BOk p (cV p B U c).B:=by
 have:=(pO (inst:=c.inst) (sd:=decide (c.side=2)) (price:=c.price) _ c.qty B (y5x _) h).1.ok;rw[lM];dsimp only;split
 ·exact this.add _ _ _ _ _
 ·exact this
def yAx {p:Prd} {B:List (List zH)} (h:BWf p B) (U:List Int) (c:Cmd):BOk p (nB p B U c).B:=by
 rw[nB];split
 ·exact h.ok
 split
 ·exact h.ok
 split
 ·exact h.ok
 split
 ·exact h.ok
 split
 ·exact h.ok
 exact zTa h U c
def yTt {p:Prd} {B:List (List zH)} (h:BWf p B) (U:List Int) (c:Cmd):BOk p (doF p B U c).B:=by
 rw[doF];split
 ·exact h.ok
 split
 ·exact yAx h U c
 split
 ·exact h.ok
 split
 ·rw[fZ];split
  ·exact h.ok
  split
  ·exact h.ok.take _ _
  split
  ·exact h.ok
  exact zTa (h.take _ _) U _
 split
 ·exact h.ok.take _ _
 ·exact h.ok.take _ _
def Two (L:List zH):Prop:=L=eB L 1++eB L 2
def lG {inst s:Int} {f:cK}:∀{os:List zH} {sh:List Int},f∈xY inst s os sh->f.side=s/\f.inst=inst/\∃o∈os,f.price=o.price
 |[],sh,h=>by cases h
 |o::os,[],h=>by cases h
 |o::os,k::sh,h=>by
  rw[xY]at h;split at h
  ·rcases y5w.1 h with rfl|h
   ·exact⟨rfl,rfl,o,y5h,rfl⟩
   ·obtain⟨a,b,o',c,d⟩:=lG h;exact⟨a,b,o',y5j _ c,d⟩
  ·obtain⟨a,b,o',c,d⟩:=lG h;exact⟨a,b,o',y5j _ c,d⟩
def FOk (f:cK):Prop:=(f.side=1\/f.side=2)/\-2000000<=f.price/\f.price<=2000000
def zGo {p:Prd} {B:List (List zH)} (h:BOk p B) (inst:Int) {s:Int} (hs:s=1\/s=2) (q:Int):∀f∈qT p B inst s q,FOk f:=by
 intro f hf;obtain⟨a,_,o,ho,e⟩:=lG hf;refine⟨by rw[a];exact hs,?_⟩;rw[e];have ho:=(y7c.1 ho).1;by_cases hk:inst.toNat<B.length
 ·obtain⟨L,hL⟩:=yC hk;rw[zU hL]at ho;exact h.prices hL o ho
 ·rw[y5k,y6h (by omega)]at ho;cases ho
def SOk (t:jW):Prop:=(-2000000<=t.price/\t.price<=2000000)/\(∀f∈t.fills,FOk f)/\t.fills.length<=500
def yPu {p:Prd} {B:List (List zH)} (h:BWf p B) {inst:Int} (hi:0<=inst/\inst<B.length) {s:Int} (hs:s=1\/s=2) (hn:(yR p B inst s).2.2=ao): -2000000<=(yR p B inst s).1.price/\(yR p B inst s).1.price<=2000000:=by
 rw[yR]at hn ⊢;obtain⟨L,hL⟩:=yC (l:=B) (i:=inst.toNat) (by omega);rw[zU hL]at hn ⊢;split
 ·exact zUk (h.ok.prices hL)
 ·rename_i c;rw[y5b c]at hn;have hm:=zHg hn;have:=(y7c.1 hm).2;exact lC h.ok.pc (y6b this)
def yMp {p:Prd} {B:List (List zH)} (h:BWf p B) {inst:Int} (hi:0<=inst/\inst<B.length) {sd:Bool} {price q:Int} {t:jW} {B':List (List zH)} (e:aD p B inst sd price q=some (t,B')):SOk t:=by
 have hs:zC (!sd)=1\/zC (!sd)=2:=zEc _;have hb:=yPu h hi hs;have hin:=z7e h.ok h.od hi hs;rw[aD]at e;dsimp only at e;split at e
 ·rename_i c;have c1:(yR p B inst (zC (!sd))).2.2=ao:=by
   cases hx:(yR p B inst (zC (!sd))).2.2 with
   |false=>rw[hx]at c;cases c
   |true=>rfl
  have hb:=hb c1;obtain⟨_,hin,_⟩:=hin c1;split at e
  ·rename_i c2;obtain⟨_,ok⟩:=hin c2;cases e;refine⟨hb,λf hf=> ?_,?_⟩
   ·rcases y6f.1 hf with hf|hf
    ·exact zGo h.ok _ ok.sa _ f hf
    ·exact zGo h.ok.takes _ ok.sb _ f hf
   ·dsimp only;rw[y5a];have:=nM (p:=p) h.od (yR p B inst (zC (!sd))).1.a.inst (yR p B inst (zC (!sd))).1.a.side (min q (yR p B inst (zC (!sd))).1.qty);have:=nM (p:=p) (h.takes (fs:=qT p B (yR p B inst (zC (!sd))).1.a.inst (yR p B inst (zC (!sd))).1.a.side (min q (yR p B inst (zC (!sd))).1.qty))).od (yR p B inst (zC (!sd))).1.b.inst (yR p B inst (zC (!sd))).1.b.side (min q (yR p B inst (zC (!sd))).1.qty);omega
  ·cases e;refine⟨hb,λf hf=>zGo h.ok _ hs _ f hf,?_⟩;have:=nM (p:=p) h.od inst (zC (!sd)) (min q (yR p B inst (zC (!sd))).1.qty);dsimp only;omega
 ·cases e
def zCt (a:StI):Prop:=yO a.s.wh=yO a.s.wh/\dh (aa 1 (iE a.s.p.months))/\dh (aa 1 (iE a.s.p.settle))/\True
def yFk (i:StI):Prop:=
 (aG i)/\∃(a:Bool),∃(b:Int),(rA i b a)/\cnd (!a) (∃(c:Unit),(zQ i.B i.id).fst=0/\(zQ i.B i.id).snd.fst.id=0/\(zQ i.B i.id).snd.fst.side=0/\(zQ i.B i.id).snd.fst.price=0/\(zQ i.B i.id).snd.fst.qty=0/\(zQ i.B i.id).snd.fst.top=ap/\(zQ i.B i.id).snd.snd=ap/\dh (sb i.s.p.code)/\dh i.s.p.tick/\dh i.s.p.low/\dh i.s.p.high/\dh i.s.p.wide/\dh i.s.p.rule/\dh i.s.p.top/\dh i.s.p.least/\dh i.s.p.part/\dh (ac 197 Book 6 zP i.s.books none)/\zCt i) ((0<=b/\b<(↑i.s.books.length:Int))/\b.toNat<i.s.books.length/\∃(c:Book),i.s.books[b.toNat]?=some c/\∃(d:FlI),d.id=i.id/\z8 d.b=z8 c/\d.b.Rep d.L/\∀(e:Unit),True->∃(f:Book),z8 d.b=z8 f/\dh b.toNat/\b.toNat<i.s.books.length/\∃(g:Unit),(zQ i.B i.id).fst=b/\(zQ i.B i.id).snd.fst.id=(dV d.L d.id).id/\(zQ i.B i.id).snd.fst.side=(dV d.L d.id).side/\(zQ i.B i.id).snd.fst.price=(dV d.L d.id).price/\(zQ i.B i.id).snd.fst.qty=(dV d.L d.id).qty/\(zQ i.B i.id).snd.fst.top=(dV d.L d.id).top/\(zQ i.B i.id).snd.snd=ao/\dh (sb i.s.p.code)/\dh i.s.p.tick/\dh i.s.p.low/\dh i.s.p.high/\dh i.s.p.wide/\dh i.s.p.rule/\dh i.s.p.top/\dh i.s.p.least/\dh i.s.p.part/\ac 197 Book 6 zP i.s.books none=ac 197 Book 6 zP (i.s.books.set b.toNat f) none/\zCt i)
def yTf (i:StI) (h:sfindC.cnd i):yFk i:=by
 obtain⟨hR,hB⟩:i.s.Rep i.p i.B/\i.B.length<=1000:=h;have hat:=hR.at_ i.id;unfold yFk aG rA zCt dI;rw[zQ];cases hi:mM i.B i.id with
 |none=>
  rw[hi]at hat;exact⟨dR _ _,ap,0,.inr ⟨by rw[pL,hat];rfl,rfl,rfl⟩,Cv.cnd.mk (λ_=>⟨(),by(repeat'(first|exact trivial|exact rfl|apply aq))⟩) (λe=>absurd e (by decide))⟩
 |some k=>
  rw[hi]at hat;obtain⟨L,hL,hh⟩:=gE hi;have hk:=(y5f.1 hL).1;obtain⟨b,hb⟩:=yC (l:=i.s.books) (i:=k) (by rw[hR.bl];exact hk);have hbR:=hR.bk k b L hb hL;have hbl:=hR.bl;refine⟨dR _ _,ao,k,.inl ⟨by rw[pL,hat];rfl,rfl⟩,Cv.cnd.mk (λe=>absurd e (by decide)) (λ_=> ?_)⟩;dsimp only;rw[y5u,zU hL];have hs:=uD hb;refine⟨⟨by omega,by omega⟩,by omega,b,hb,⟨b,L,i.id,0⟩,rfl,rfl,hbR,λ_ _=>⟨b,rfl,rfl,by omega,(),?_⟩⟩;rw[hs]
  (repeat'(first|exact trivial|exact rfl|apply aq))
def z1b:sfindC.ok Tryz.prog 56:=okw mixed (gokc zXd gok0) 0 (λ_=>[]) (λ_=>[]) [0] Tryz.func56 yTf
def zSm (id:Int) (U:List Int):∀p∈zV U,like (ak ag id) p.1=ao:=by
 intro p hp;obtain⟨k,_,rfl⟩:=y6n.1 hp;rfl
def zRl (id:Int):∀U:List Int,uH (ak ag id) [D.v (.bool ao)] (zV U)=zV (zQc U id)
 |[]=>rfl
 |k::U=>by
  have ih:=zRl id U;have e:bF (ak ag id) (ak ag k)=decide (id=k):=by simp[bF,keq]
  show(bif bF (ak ag id) (ak ag k)then(ak ag k,[D.v (.bool ao)])::zV U else(ak ag k,[D.v (.bool ao)])::uH (ak ag id) [D.v (.bool ao)] (zV U))=_;rw[e,ih];by_cases c:id=k
  ·rw[y5s c,cond_true,zQc,y5d (by rw[c];exact y5h)];rfl
  ·rw[y5q c,cond_false,zQc,zQc];have hm:id∈k::U↔id∈U:=by simp[c]
   by_cases d:id∈U
   ·rw[y5d d,y5d (hm.2 d)];rfl
   ·rw[y5b d,y5b (λx=>d (hm.1 x))];rfl
def zQq (id:Int):∀U:List Int,kK (ak ag id) (zV U)=if id∈U then some [D.v (.bool ao)]else none
 |[]=>rfl
 |k::U=>by
  have ih:=zQq id U;have e:bF (ak ag id) (ak ag k)=decide (id=k):=by simp[bF,keq]
  show(bif bF (ak ag id) (ak ag k)then some [D.v (.bool ao)]else kK (ak ag id) (zV U))=_;rw[e,ih];by_cases c:id=k
  ·rw[y5s c,cond_true,y5d (by rw[c];exact y5h)]
  ·rw[y5q c,cond_false];have hm:id∈k::U↔id∈U:=by simp[c]
   by_cases d:id∈U
   ·rw[y5d d,y5d (hm.2 d)]
   ·rw[y5b d,y5b (λx=>d (hm.1 x))]
def yIb (id:Int) (U:List Int):kK (ak ag id) (zV U)=some [D.v (.bool (decide (id∈U)))]/\decide (id∈U)=ao\/kK (ak ag id) (zV U)=none/\[D.v (.bool (decide (id∈U)))]=[D.v (.bool ap)]/\decide (id∈U)=ap:=by
 rw[zQq];by_cases c:id∈U
 ·rw[y5d c,y5s c];exact .inl ⟨rfl,rfl⟩
 ·rw[y5b c,y5q c];exact .inr ⟨rfl,rfl,rfl⟩
def zWm {p:Prd} {inst:Int} {sd:Bool} {price:Int}:∀(m:Nat) (q:Int) (B:List (List zH)),q.toNat<=m->BWf p B->0<=inst/\inst<B.length->
 (∀t∈(wH p B inst sd price q).steps,SOk t/\1<=t.qty)/\((wH p B inst sd price q).steps.map (·.qty)).sum=q-(wH p B inst sd price q).left
 |m,q,B,hm,h,hi=>by
  by_cases hq:q<=0
  ·rw[eG (.inl hq)];exact⟨λt ht=>(by cases ht),by simp⟩
  cases hs:aD p B inst sd price q with
  |none=>rw[eG (.inr hs)];exact⟨λt ht=>(by cases ht),by simp⟩
  |some x=>
   obtain⟨t,C⟩:=x;obtain⟨k1,k2⟩:=zRd h hs;have hq2:=zMh (by omega) hs;cases m with
   |zero=>omega
   |succ m=>
   obtain⟨i1,i2⟩:=zWm (p:=p) (inst:=inst) (sd:=sd) (price:=price) m (q-t.qty) C (by omega) k1 (by rw[k2];exact hi);rw[zMk (by omega) hs];refine⟨λu hu=> ?_,?_⟩
   ·rcases y5w.1 hu with rfl|hu
    ·exact⟨yMp h hi hs,hq2.1⟩
    ·exact i1 u hu
   ·dsimp only;rw[y5p,y6s,i2];omega
def yRn {α:Type} {f:α->List Rep} (hf:∀x,(f x).length<=3):∀l:List α,(l.flatMap f).length<=3*l.length
 |[]=>y5x _
 |x::l=>by
  have:=yRn hf l;have:=hf x;rw[y6w,y5a,y5g];omega
def zRb (p:Prd) (c:Cmd) (x:jW) (left:Int):(mZ p c x left).length<=3*x.fills.length+3:=by
 rw[mZ,y5a];have:=yRn (λf=>zMj p x (zEq f)) x.fills;have:=zMj p x ⟨3,c.id,c.inst,c.side,x.price,x.qty,left,0⟩;omega
def zUe {l:List jW} (h:∀t∈l,SOk t/\1<=t.qty):(l.length:Int)<=(l.map (·.qty)).sum:=by
 induction l with
 |nil=>exact y8p _
 |cons t l ih=>
  have:=ih λu hu=>h u (y5j _ hu)
  have:=(h t y5h).2;rw[y5p,y6s,y5g];omega
def ySn (i:EnI) (h:enterC.cnd i):yJh i:=by
 obtain⟨m,p,B,U,c,X⟩:=i;have h':(m.Rep p B U/\BOk p B)/\((0<=c.inst/\c.inst<B.length)/\(1<=c.qty/\c.qty<=1000000)/\(c.side=1\/c.side=2))/\p.price c.inst c.price=0/\X=cV p B U c:=h;clear h;obtain⟨⟨⟨ep,hR,eu⟩,hB⟩,⟨⟨h0,h1⟩,hq,hs⟩,hpz,hX⟩:=h';subst ep eu hX;have hwf:=hR.wf hB;obtain⟨k1,k2,k3⟩:=pO (inst:=c.inst) (sd:=decide (c.side=2)) (price:=c.price) _ c.qty B (y5x _) hwf;have k3:=k3 (by omega);obtain⟨s1,s2⟩:=zWm (inst:=c.inst) (sd:=decide (c.side=2)) (price:=c.price) _ c.qty B (y5x _) hwf ⟨h0,h1⟩;have hX:=lM m.p B m.used c;have hbd:=lC hB.pc hpz;unfold yJh qO vZ zCu dI;dsimp only;rw[zRl,hX];refine⟨zSm _ _,⟨m.s,m.p,B,c.inst,decide (c.side=2),c.price,c.qty⟩,rfl,gP hs,rfl,rfl,rfl,⟨hR,hB,⟨h0,h1⟩,hq.1,hq.2⟩,λo ho=> ?_⟩;have er:RunI.r ⟨m.s,m.p,B,c.inst,decide (c.side=2),c.price,c.qty⟩=wH m.p B c.inst (decide (c.side=2)) c.price c.qty:=rfl;rw[er]at ho ⊢;clear hX er;generalize wH m.p B c.inst (decide (c.side=2)) c.price c.qty=R at*;obtain⟨ts,lf,RB⟩:=R;dsimp only at*;have hlen:=zUe s1;have e4:(ts.map wB).length=ts.length:=y5c ..;refine⟨⟨c.qty,0,[⟨1,c.id,c.inst,c.side,c.price,c.qty,c.qty,0⟩]⟩,rfl,rfl,rfl,λj=>j.k<=ts.length/\j.left=lf+((ts.drop j.k).map (·.qty)).sum/\(⟨1,c.id,c.inst,c.side,c.price,c.qty,c.qty,0⟩::aP m.p c ts c.qty)=j.out++aP m.p c (ts.drop j.k) j.left/\j.out.length<=1+1503*j.k,λj=>ts.length-j.k,⟨y6i _,by dsimp only;rw[y8q,s2];omega,rfl,y5x _⟩,?_⟩
 rintro⟨left,k,out⟩ ⟨j1,j2,j3,j4⟩;dsimp only at j1 j2 j3 j4 ⊢;have e5:(out.map xQ).length=out.length:=y5c ..;refine zI (λc1=> ?_) (λc1=> ?_)
 ·obtain⟨t,ht⟩:=yC (l:=ts) (i:=k) (by omega);have hd:ts.drop k=t::ts.drop (k+1):=by rw[y7j (by omega),(y5f.1 ht).2]
  obtain⟨⟨t1,t2,t3⟩,t4⟩:=s1 t (y5m ht);have hsd:=zUe (l:=ts.drop (k+1)) λu hu=>s1 u (y8y hu)
  have hsk:((ts.drop k).map (·.qty)).sum<=(ts.map (·.qty)).sum:=by
   have:=zUe (l:=ts.take k) λu hu=>s1 u (y8x hu)
   have e:(ts.map (·.qty)).sum=((ts.take k).map (·.qty)).sum+((ts.drop k).map (·.qty)).sum:=by
    rw[<- xBf,<- y5l,y7g]
   omega
  rw[hd,y5p,y6s]at j2 hsk;rw[hd,aP]at j3;have hrl:=zRb m.p c t (left-t.qty);have e6:((mZ m.p c t (left-t.qty)).map xQ).length=(mZ m.p c t (left-t.qty)).length:=y5c ..;have hw:ag.wrap (left-t.qty)=left-t.qty:=w64 (by omega);refine⟨⟨by omega,by omega⟩,t.price,t.qty,t.implied,t.fills.map yV,elA ht (by simp[wB]) rfl,?_⟩;rw[hw];refine⟨⟨⟨m.p,o,zQc m.used c.id⟩,c,t,left-t.qty⟩,rfl,rfl,rfl,rfl,rfl,rfl,rfl,rfl,rfl,rfl,rfl,rfl,rfl,rfl,rfl,rfl,rfl,rfl,rfl,rfl,rfl,rfl,rfl,rfl,rfl,rfl,rfl,⟨⟨hB.pc,hB.ps⟩,⟨by dsimp only;omega,by dsimp only;omega⟩,by dsimp only;omega,hs,λf hf=>(t2 f hf).1⟩,λ_ _=>⟨by dsimp only;rw[e5,e6];omega,⟨left-t.qty,k+1,out++mZ m.p c t (left-t.qty)⟩,rfl,wjn (by omega),by dsimp only;rw[y5l],⟨by dsimp only;omega,by dsimp only;omega,by dsimp only;rw[j3,y5i],by dsimp only;rw[y5a];omega⟩,by dsimp only;omega,by(repeat'(first|exact trivial|exact rfl|apply aq))⟩⟩
 have hk:k=ts.length:=by omega
 subst hk;rw[List.drop_of_length_le (y5x _)]at j2 j3;rw[aP,y6a]at j3;rw[<- j3];rw[<- j3]at e5 j4;have hRB:=k1.ok;refine Cv.cnd.mk (λe=> ?_) (λe=>Cv.cnd.mk (λe2=> ?_) (λe2=> ?_))
 ·have e:lf=0:=by simpa using e
  rw[y5b (by omega),y5b (by omega),y6a];exact⟨⟨m.p,o,zQc m.used c.id⟩,rfl,rfl,rfl,rfl,rfl,rfl,rfl,rfl,rfl,rfl,rfl,rfl,rfl,rfl,rfl,ho,rfl⟩
 ·have e:¬lf=0:=by simpa using e
  have e2:c.time=1:=by simpa using e2
  rw[y5b (show ¬(lf≠0/\c.time≠1)by omega),y5d (show lf≠0/\c.time=1 from⟨e,e2⟩),y6a];have ha:=(ho.add c.inst c.id (decide (c.side=2)) c.price lf).1;rw[gP hs]at ha;exact⟨⟨o,c.inst,c.id,decide (c.side=2),c.price,lf⟩,rfl,rfl,gP hs,rfl,rfl,rfl,ho.fit hRB,λ_ _=>⟨⟨m.p,(MSt.addF ⟨o,c.inst,c.id,decide (c.side=2),c.price,lf⟩).1,zQc m.used c.id⟩,rfl,rfl,rfl,rfl,rfl,rfl,rfl,rfl,rfl,rfl,rfl,rfl,rfl,rfl,rfl,ha,rfl⟩⟩
 ·have e:¬lf=0:=by simpa using e
  have e2:¬c.time=1:=by simpa using e2
  rw[y5d (show lf≠0/\c.time≠1 from⟨e,e2⟩),y5b (show ¬(lf≠0/\c.time=1)by omega)];exact⟨by rw[e5];omega,⟨m.p,o,zQc m.used c.id⟩,rfl,rfl,rfl,rfl,rfl,rfl,rfl,rfl,rfl,rfl,rfl,rfl,rfl,by rw[y5l];rfl,rfl,ho,rfl⟩
def z1d:enterC.ok Tryz.prog 168:=okw mixed (gokc z1t (gokc yDc (gokc yKy gok0))) 0 (λ_=>[]) (λi=>yXk i) [] Tryz.func168 ySn
def yYy:mfindC.ok Tryz.prog 23:=okw (V:=ySq) mixed (gokc z1b gok0) 0 (λ_=>[]) (λ_=>[]) [0] Tryz.func23 λ(i:MfI) h=>by
 obtain⟨m,p,B,U,id⟩:=i;have h':m.Rep p B U/\BOk p B:=h;clear h;obtain⟨⟨ep,hR,eu⟩,hB⟩:=h';subst ep eu;have:=xK m.p;have:=hB.bl;exact⟨⟨m.s,m.p,B,id,0⟩,rfl,rfl,⟨hR,by dsimp only;omega⟩,λ_ _=>⟨(),by(repeat'(first|exact trivial|exact rfl|apply aq))⟩⟩
def zQs:cancelC.ok Tryz.prog 140:=okw (V:=yNe) mixed (gokc zEx gok0) 0 (λ_=>[]) (λ_=>[]) [] Tryz.func140 λ(i:CaI) h=>by
 obtain⟨m,p,B,U,id,q,inst,o,X⟩:=i;have h':(m.Rep p B U/\BOk p B)/\X=uN B U id inst o:=h;clear h;obtain⟨⟨⟨ep,hR,eu⟩,hB⟩,hX⟩:=h';subst ep eu hX;have:=xK m.p;have:=hB.bl;exact⟨⟨m.s,m.p,B,id,o.qty⟩,rfl,rfl,rfl,⟨hR,by dsimp only;omega⟩,λo' ho=>⟨⟨m.p,o',m.used⟩,rfl,rfl,rfl,rfl,rfl,rfl,rfl,rfl,rfl,rfl,rfl,rfl,rfl,rfl,rfl,ho,rfl⟩⟩
def zSl:reduceC.ok Tryz.prog 141:=okw (V:=z6n) mixed (gokc zEx gok0) 0 (λ_=>[]) (λ_=>[]) [] Tryz.func141 λ(i:CaI) h=>by
 obtain⟨m,p,B,U,id,q,inst,o,X⟩:=i;have h':(m.Rep p B U/\BOk p B)/\i64r (o.qty-q)/\X=bI B U id q inst o:=h;clear h;obtain⟨⟨⟨ep,hR,eu⟩,hB⟩,hw,hX⟩:=h';subst ep eu hX;have:=xK m.p;have:=hB.bl;have hw:=w64 hw;unfold z6n dI;dsimp only;rw[hw];exact⟨⟨m.s,m.p,B,id,q⟩,rfl,rfl,rfl,⟨hR,by dsimp only;omega⟩,λo' ho=>⟨⟨m.p,o',m.used⟩,rfl,rfl,rfl,rfl,rfl,rfl,rfl,rfl,rfl,rfl,rfl,rfl,rfl,rfl,rfl,ho,rfl⟩⟩
def zTc {c:Cmd} (h:c.right=0):(if c.kind=1 then c.orderE else if c.kind≠2/\kA c.qty=ap then 24 else if c.kind=4/\vI c.price=ap then 23 else 0)=0:=by
 rw[Cmd.right]at h;by_cases c1:c.kind<1\/4<c.kind
 ·rw[y5d c1]at h;cases h
 rw[y5b c1]at h;by_cases c2:c.id<1\/1099511627776<c.id
 ·rw[y5d c2]at h;cases h
 rw[y5b c2]at h;exact h
def zQm {c:Cmd} (h:c.right=0) (hk:c.kind=1):(c.side=1\/c.side=2)/\(1<=c.qty/\c.qty<=1000000)/\(0<=c.least/\c.least<=c.qty):=by
 have h:=zTc h;rw[y5d hk,Cmd.orderE]at h;by_cases c1:c.side≠1/\c.side≠2
 ·rw[y5d c1]at h;cases h
 rw[y5b c1]at h;by_cases c2:c.time<1\/3<c.time
 ·rw[y5d c2]at h;cases h
 rw[y5b c2]at h;cases c3:kA c.qty with
 |false=>rw[y5d c3]at h;cases h
 |true=>
  rw[y5b (by rw[c3];decide)]at h;by_cases c4:c.least<0\/c.qty<c.least
  ·rw[y5d c4]at h;cases h
  simp only[kA,y5o,y6p]at c3;exact⟨by omega,c3,by omega⟩
def zIf {c:Cmd} (h:c.right=0) (hk:¬c.kind=1) (hk2:¬c.kind=2):1<=c.qty/\c.qty<=1000000:=by
 have h:=zTc h;rw[y5b hk]at h;cases c3:kA c.qty with
 |false=>rw[y5d ⟨hk2,c3⟩]at h;cases h
 |true=>
  simp only[kA,y5o,y6p]at c3;exact c3
def yWl (i:EnI) (h:orderC.cnd i):yDf i:=by
 obtain⟨m,p,B,U,c,X⟩:=i;have h':(m.Rep p B U/\BOk p B)/\c.right=0/\c.kind=1/\X=nB p B U c:=h;clear h;obtain⟨⟨hM,hB⟩,hr,hkd,hX⟩:=h';obtain⟨ep,hR,eu⟩:=hM;subst ep eu;have hM:m.Rep m.p B m.used:=⟨rfl,hR,rfl⟩
 obtain⟨hs,hq,hl⟩:=zQm hr hkd;have hbl:=hB.bl;have hcl:=xK m.p;unfold yDf qO zJb zHz zHu zIt vZ rQ sK rD zBs zCl qB dI;dsimp only;refine⟨⟨m.p,c.inst,c.price⟩,rfl,rfl,rfl,rfl,rfl,rfl,rfl,rfl,rfl,rfl,rfl,rfl,rfl,hB.ps,λ_ _=>Cv.cnd.mk (λe=> ?_) (λe=> ?_)⟩
 ·have e:m.p.price c.inst c.price≠0:=by simpa using e
  have hx:X=⟨B,m.used,m9 c (m.p.price c.inst c.price)⟩:=by rw[hX,nB,y5d e]
  exact⟨⟨c,m.p.price c.inst c.price⟩,rfl,rfl,rfl,rfl,rfl,rfl,rfl,rfl,rfl,rfl,trivial,λ_ _=>⟨m,rfl,rfl,rfl,rfl,rfl,rfl,rfl,rfl,rfl,rfl,rfl,rfl,rfl,by rw[hx];rfl,by rw[hx];exact hM⟩⟩
 have hpz:m.p.price c.inst c.price=0:=by simpa using e
 have hin:=zNx hpz;have hib:0<=c.inst/\c.inst<B.length:=by omega
 rw[nB,y5b (by rw[hpz];decide)]at hX;refine⟨0,λl=>l=c.lst,Cv.cnd.mk (λe=>⟨c.qty,rfl,by rw[Cmd.lst,y5d (by simpa using e)],by(repeat'(first|exact trivial|exact rfl|apply aq))⟩) (λe=>⟨c.least,rfl,by rw[Cmd.lst,y5b (by simpa using e)],by(repeat'(first|exact trivial|exact rfl|apply aq))⟩),?_⟩;rintro _ rfl;refine⟨zSm _ _,_,_,yIb _ _,zI (λe=> ?_) (λe=> ?_)⟩
 ·have hx:X=⟨B,m.used,m9 c 25⟩:=by rw[hX,y5d e]
  exact⟨⟨c,25⟩,rfl,rfl,rfl,rfl,rfl,rfl,rfl,rfl,rfl,rfl,trivial,λ_ _=>⟨m,rfl,rfl,rfl,rfl,rfl,rfl,rfl,rfl,rfl,rfl,rfl,rfl,rfl,by rw[hx];rfl,by rw[hx];exact hM⟩⟩
 rw[y5b e]at hX;refine⟨⟨m.s,m.p,B,0,ap⟩,rfl,⟨hR,by dsimp only;omega⟩,λ_ _=>zI (λe=> ?_) (λe=> ?_)⟩
 ·have hx:X=⟨B,m.used,m9 c 13⟩:=by rw[hX,y5d (by dsimp only at e;omega)]
  exact⟨⟨c,13⟩,rfl,rfl,rfl,rfl,rfl,rfl,rfl,rfl,rfl,rfl,trivial,λ_ _=>⟨m,rfl,rfl,rfl,rfl,rfl,rfl,rfl,rfl,rfl,rfl,rfl,rfl,rfl,by rw[hx];rfl,by rw[hx];exact hM⟩⟩
 rw[y5b (by dsimp only at e;omega)]at hX;have hok:RunI.ok ⟨m.s,m.p,B,c.inst,decide (c.side=2),c.price,c.qty⟩:=⟨hR,hB,hib,hq.1,hq.2⟩
 refine⟨ao,λb=>b=decide (0<c.lst/\c.qty-(wH m.p B c.inst (decide (c.side=2)) c.price c.qty).left<c.lst),zI (λe=>⟨⟨m.s,m.p,B,c.inst,decide (c.side=2),c.price,c.qty⟩,rfl,gP hs,rfl,rfl,rfl,hok,λ_ _=>⟨_,rfl,decide_eq_decide.2 ⟨λx=>⟨e,x⟩,λx=>x.2⟩,by(repeat'(first|exact trivial|exact rfl|apply aq))⟩⟩) (λe=>⟨ap,rfl,(y5q λx=>e x.1).symm,by(repeat'(first|exact trivial|exact rfl|apply aq))⟩),?_⟩;rintro _ rfl;refine zI (λe=> ?_) (λe=> ?_)
 ·have hx:X=⟨B,m.used,m9 c 28⟩:=by rw[hX,y5d e]
  exact⟨⟨c,28⟩,rfl,rfl,rfl,rfl,rfl,rfl,rfl,rfl,rfl,rfl,trivial,λ_ _=>⟨m,rfl,rfl,rfl,rfl,rfl,rfl,rfl,rfl,rfl,rfl,rfl,rfl,rfl,by rw[hx];rfl,by rw[hx];exact hM⟩⟩
 rw[y5b e]at hX;refine⟨ao,λb=>b=decide (c.time=1/\mF m.p B c.inst (decide (c.side=2)) c.price c.qty=ao),Cv.cnd.mk (λe=>⟨⟨m.s,m.p,B,c.inst,decide (c.side=2),c.price,c.qty⟩,rfl,gP hs,rfl,rfl,rfl,hok,λ_ _=>⟨_,rfl,?_,by(repeat'(first|exact trivial|exact rfl|apply aq))⟩⟩) (λe=>⟨ap,rfl,(y5q λx=> ?_).symm,by(repeat'(first|exact trivial|exact rfl|apply aq))⟩),?_⟩
 ·have e:c.time=1:=by simpa using e
  dsimp only;cases hb:mF m.p B c.inst (decide (c.side=2)) c.price c.qty with
  |true=>exact(y5s ⟨e,rfl⟩).symm
  |false=>exact(y5q λx=>by cases x.2).symm
 ·rw[x.1]at e;cases e
 rintro _ rfl;refine zI (λe=> ?_) (λe=> ?_)
 ·have hx:X=⟨B,m.used,m9 c 23⟩:=by rw[hX,y5d e]
  exact⟨⟨c,23⟩,rfl,rfl,rfl,rfl,rfl,rfl,rfl,rfl,rfl,rfl,trivial,λ_ _=>⟨m,rfl,rfl,rfl,rfl,rfl,rfl,rfl,rfl,rfl,rfl,rfl,rfl,rfl,by rw[hx];rfl,by rw[hx];exact hM⟩⟩
 rw[y5b e]at hX;exact⟨⟨m,m.p,B,m.used,c,X⟩,rfl,rfl,rfl,rfl,rfl,rfl,rfl,rfl,rfl,rfl,rfl,rfl,rfl,rfl,rfl,rfl,rfl,rfl,rfl,rfl,rfl,rfl,⟨⟨hM,hB⟩,⟨hib,hq,hs⟩,hpz,hX⟩,λo ho=>⟨o,rfl,rfl,rfl,rfl,rfl,rfl,rfl,rfl,rfl,rfl,rfl,rfl,rfl,rfl,ho⟩⟩
def yKm:orderC.ok Tryz.prog 138:=okw mixed (gokc lL (gokc z4b (gokc z1l (gokc yCc (gokc zZn (gokc z1d gok0)))))) 0 (λ_=>yWp) (λ_=>[]) [] Tryz.func138 yWl
def zUz {p:Prd} {B:List (List zH)} (h:BWf p B) {id inst:Int} {o:zH} (hf:zQ B id=(inst,o,ao)):(0<=inst/\inst<B.length)/\zMo o:=by
 rw[zQ]at hf;split at hf
 ·cases hf
 ·rename_i k hk;obtain⟨L,hL,hh⟩:=gE hk;rw[zU hL]at hf;cases hf;have hlt:=(y5f.1 hL).1;obtain⟨o,ho,e⟩:=y6n.1 (hasId_iff.1 hh);have hg:=sL (h.od k L hL).2.1 ho;rw[e]at hg;rw[hg];exact⟨by omega,(h.od k L hL).1 o ho⟩
def zNi (p:Prd) (c:Cmd):∀(l:List jW) (left:Int),(∀t∈l,SOk t/\1<=t.qty)->(aP p c l left).length<=1503*l.length
 |[],_,_=>y5x _
 |t::l,left,h=>by
  have a:=zNi p c l (left-t.qty) λu hu=>h u (y5j _ hu)
  have b:=zRb p c t (left-t.qty);have d:=(h t y5h).1.2.2;rw[aP,y5a,y5g];omega
def zCv {p:Prd} {B:List (List zH)} (h:BWf p B) (U:List Int) {c:Cmd} (hi:0<=c.inst/\c.inst<B.length) (hq:1<=c.qty/\c.qty<=1000000):(cV p B U c).R.length<=1503000002:=by
 obtain⟨s1,s2⟩:=zWm (inst:=c.inst) (sd:=decide (c.side=2)) (price:=c.price) _ c.qty B (y5x _) h hi;have k3:=(pO (inst:=c.inst) (sd:=decide (c.side=2)) (price:=c.price) _ c.qty B (y5x _) h).2.2 (by omega);have:=zUe s1;have:=zNi p c _ c.qty s1;rw[lM];dsimp only;rw[y5a,y5g];split
 ·rw[y5g,y6v];omega
 ·rw[y6v];omega
def yEc (i:yAy) (h:replaceC.cnd i):zZx i:=by
 obtain⟨m,p,B,U,c,inst,o,X⟩:=i;have h':m.Rep p B U/\BOk p B/\zQ B c.id=(inst,o,ao)/\(1<=c.qty/\c.qty<=1000000)/\X=fZ p B U c inst o:=h;clear h;obtain⟨hM,hB,hf,hq,hX⟩:=h';obtain⟨ep,hR,eu⟩:=hM;subst ep eu;have hM:m.Rep m.p B m.used:=⟨rfl,hR,rfl⟩
 have hwf:=hR.wf hB;obtain⟨hin,hoo⟩:=zUz hwf hf;have hos:=hoo.s;have hoq:=hoo.q;have hbl:=hB.bl;have hcl:=xK m.p;unfold zZx zDq qO gX rQ bK rF qB;dsimp only;refine⟨⟨m.p,inst,c.price⟩,rfl,rfl,rfl,rfl,rfl,rfl,rfl,rfl,rfl,rfl,rfl,rfl,rfl,hB.ps,λ_ _=>Cv.cnd.mk (λe=> ?_) (λe=> ?_)⟩
 ·have e:m.p.price inst c.price≠0:=by simpa using e
  have hx:X=⟨B,m.used,m9 c (m.p.price inst c.price)⟩:=by rw[hX,fZ,y5d e]
  exact⟨⟨c,m.p.price inst c.price⟩,rfl,rfl,rfl,rfl,rfl,rfl,rfl,rfl,rfl,rfl,trivial,λ_ _=>⟨m,rfl,rfl,rfl,rfl,rfl,rfl,rfl,rfl,rfl,rfl,rfl,rfl,rfl,by rw[hx];rfl,by rw[hx];exact hM⟩⟩
 have hpz:m.p.price inst c.price=0:=by simpa using e
 rw[fZ,y5b (by rw[hpz];decide)]at hX;have hw:ag.wrap (o.qty-c.qty)=o.qty-c.qty:=w64 (by omega);rw[hw];refine(λhT=>Cv.cnd.mk (λe1=>zI (λe2=> ?_) (λe2=>hT λx=>e2 x.2)) (λe1=>hT λx=>by rw[x.1]at e1;simp at e1)) (λ(hn:¬(c.price=o.price/\c.qty<=o.qty))=> ?_)
 ·have e1:c.price=o.price:=by simpa using e1
  rw[y5d ⟨e1,e2⟩]at hX;exact⟨⟨m,m.p,B,m.used,c.id,o.qty-c.qty,inst,o,X⟩,rfl,rfl,rfl,rfl,rfl,rfl,rfl,rfl,rfl,rfl,rfl,rfl,rfl,rfl,rfl,rfl,rfl,rfl,rfl,rfl,rfl,⟨⟨hM,hB⟩,⟨by dsimp only;omega,by dsimp only;omega⟩,hX⟩,λo' ho=>⟨o',rfl,rfl,rfl,rfl,rfl,rfl,rfl,rfl,rfl,rfl,rfl,rfl,rfl,rfl,ho⟩⟩
 rw[y5b hn]at hX;have hBt:=hB.take c.id o.qty;refine⟨m.s,rfl,hR.small hB,λ_ _=>⟨⟨m.s,m.p,B,c.id,o.qty⟩,rfl,rfl,rfl,⟨hR,by dsimp only;omega⟩,λo' ho'=>⟨⟨o',m.p,(kI B c.id o.qty).1,inst,decide (o.side=2),c.price,c.qty⟩,rfl,gP hos,rfl,rfl,rfl,⟨ho',hBt,by dsimp only;rw[pB];exact hin,hq.1,hq.2⟩,λ_ _=>Cv.cnd.mk (λe=> ?_) (λe=> ?_)⟩⟩⟩
 ·have hx:X=⟨B,m.used,m9 c 23⟩:=by rw[hX,y5d e]
  exact⟨⟨c,23⟩,rfl,rfl,rfl,rfl,rfl,rfl,rfl,rfl,rfl,rfl,trivial,λ_ _=>⟨m,rfl,rfl,rfl,rfl,rfl,rfl,rfl,rfl,rfl,rfl,rfl,rfl,rfl,by rw[hx];rfl,by rw[hx];exact hM⟩⟩
 rw[y5b (by rw[e];decide)]at hX;refine⟨⟨m,m.p,B,m.used,c.id,0,inst,o,uN B m.used c.id inst o⟩,rfl,rfl,rfl,rfl,rfl,rfl,rfl,rfl,rfl,rfl,rfl,rfl,rfl,rfl,rfl,rfl,rfl,rfl,rfl,rfl,⟨⟨hM,hB⟩,rfl⟩,λo1 ho1=>⟨⟨o1,m.p,(kI B c.id o.qty).1,m.used,⟨1,c.id,inst,o.side,c.price,c.qty,0,1,[]⟩,cV m.p (kI B c.id o.qty).1 m.used ⟨1,c.id,inst,o.side,c.price,c.qty,0,1,[]⟩⟩,rfl,rfl,rfl,rfl,rfl,rfl,rfl,rfl,rfl,rfl,rfl,rfl,rfl,rfl,rfl,rfl,rfl,rfl,rfl,rfl,rfl,rfl,⟨⟨ho1,hBt⟩,⟨by dsimp only;rw[pB];exact hin,hq,hos⟩,hpz,rfl⟩,λo2 ho2=>⟨?_,o2,rfl,rfl,rfl,rfl,rfl,rfl,rfl,rfl,rfl,rfl,rfl,rfl,rfl,?_,?_⟩⟩⟩
 ·have:=zCv (hwf.take c.id o.qty) m.used (c:=⟨1,c.id,inst,o.side,c.price,c.qty,0,1,[]⟩) (by dsimp only;rw[pB];exact hin) hq;dsimp only;rw[y5c,y5c];have e1:(uN B m.used c.id inst o).R.length=1:=rfl;omega
 ·rw[hX,<- y5l];rfl
 ·rw[hX];exact ho2
def z4x:replaceC.ok Tryz.prog 139:=okw mixed (gokc lL (gokc z4b (gokc zLz (gokc zEx (gokc zZn (gokc zQs (gokc zSl (gokc z1d gok0)))))))) 0 (λ_=>[]) (λ_=>[]) [] Tryz.func139 yEc
def vdo (i:EnI) (h:doC.cnd i):Vdo i:=by
 obtain⟨m,p,B,U,c,X⟩:=i;have h':(m.Rep p B U/\BOk p B)/\c.label.length<=140737488355328/\i64r c.qty/\X=doF p B U c:=h;clear h;obtain⟨⟨hM,hB⟩,hlb,hqr,hX⟩:=h';obtain⟨ep,hR,eu⟩:=hM;subst ep eu;have hM:m.Rep m.p B m.used:=⟨rfl,hR,rfl⟩
 have hwf:=hR.wf hB;have hbl:=hB.bl;have hcl:=xK m.p;unfold Vdo sK yCz bK z1p zVi zWg;dsimp only;refine⟨c,rfl,rfl,rfl,rfl,rfl,rfl,rfl,rfl,rfl,hlb,λ_ _=>Cv.cnd.mk (λe=> ?_) (λe=> ?_)⟩
 ·have e:c.right≠0:=by simpa using e
  have hx:X=⟨B,m.used,m9 c c.right⟩:=by rw[hX,doF,y5d e]
  exact⟨⟨c,c.right⟩,rfl,rfl,rfl,rfl,rfl,rfl,rfl,rfl,rfl,rfl,trivial,λ_ _=>⟨m,rfl,rfl,rfl,rfl,rfl,rfl,rfl,rfl,rfl,rfl,rfl,rfl,rfl,by rw[hx];rfl,by rw[hx];exact hM⟩⟩
 have hr:c.right=0:=by simpa using e
 rw[doF,y5b (by rw[hr];decide)]at hX;refine Cv.cnd.mk (λe=> ?_) (λe=> ?_)
 ·have e:c.kind=1:=by simpa using e
  rw[y5d e]at hX;exact⟨⟨m,m.p,B,m.used,c,X⟩,rfl,rfl,rfl,rfl,rfl,rfl,rfl,rfl,rfl,rfl,rfl,rfl,rfl,rfl,rfl,rfl,rfl,rfl,rfl,rfl,rfl,rfl,⟨⟨hM,hB⟩,hr,e,hX⟩,λo ho=>⟨o,rfl,rfl,rfl,rfl,rfl,rfl,rfl,rfl,rfl,rfl,rfl,rfl,rfl,rfl,ho⟩⟩
 have hk:¬c.kind=1:=by simpa using e
 rw[y5b hk]at hX;refine(λhT=>⟨hT,rfl,trivial,hT⟩) ?_;refine⟨⟨m.s,m.p,B,c.id,0⟩,rfl,rfl,⟨hR,by dsimp only;omega⟩,λ_ _=>Cv.cnd.mk (λe=> ?_) (λe=> ?_)⟩
 ·have e:(zQ B c.id).2.2=ap:=by simpa using e
  have hx:X=⟨B,m.used,m9 c 26⟩:=by rw[hX,y5d e]
  exact⟨⟨c,26⟩,rfl,rfl,rfl,rfl,rfl,rfl,rfl,rfl,rfl,rfl,trivial,λ_ _=>⟨m,rfl,rfl,rfl,rfl,rfl,rfl,rfl,rfl,rfl,rfl,rfl,rfl,rfl,by rw[hx];rfl,by rw[hx];exact hM⟩⟩
 have e:(zQ B c.id).2.2=ao:=by simpa using e
 rw[y5b (by rw[e];decide)]at hX;dsimp only;have hf:zQ B c.id=((zQ B c.id).1,(zQ B c.id).2.1,ao):=by rw[<- e]
 generalize (zQ B c.id).1=inst at*;generalize (zQ B c.id).2.1=o at*;obtain⟨hin,hoo⟩:=zUz hwf hf;have hoq:=hoo.q;refine Cv.cnd.mk (λe4=> ?_) (λe4=>Cv.cnd.mk (λe2=> ?_) (λe2=>zI (λe3=> ?_) (λe3=> ?_)))
 ·have e4:c.kind=4:=by simpa using e4
  rw[y5d e4]at hX;exact⟨⟨m,m.p,B,m.used,c,inst,o,X⟩,rfl,rfl,rfl,rfl,rfl,rfl,rfl,rfl,rfl,rfl,rfl,rfl,rfl,rfl,rfl,rfl,rfl,rfl,rfl,rfl,rfl,rfl,rfl,rfl,rfl,rfl,rfl,rfl,⟨hM,hB,hf,zIf hr hk (by rw[e4];decide),hX⟩,λo' ho=>⟨o',rfl,rfl,rfl,rfl,rfl,rfl,rfl,rfl,rfl,rfl,rfl,rfl,rfl,rfl,ho⟩⟩
 all_goals
  have e4:¬c.kind=4:=by simpa using e4
  rw[y5b e4]at hX
 ·have e2:c.kind=2:=by simpa using e2
  rw[y5d (.inl e2)]at hX;exact⟨⟨m,m.p,B,m.used,c.id,0,inst,o,X⟩,rfl,rfl,rfl,rfl,rfl,rfl,rfl,rfl,rfl,rfl,rfl,rfl,rfl,rfl,rfl,rfl,rfl,rfl,rfl,rfl,⟨⟨hM,hB⟩,hX⟩,λo' ho=>⟨o',rfl,rfl,rfl,rfl,rfl,rfl,rfl,rfl,rfl,rfl,rfl,rfl,rfl,rfl,ho⟩⟩
 ·rw[y5d (.inr (by omega))]at hX;exact⟨⟨m,m.p,B,m.used,c.id,0,inst,o,X⟩,rfl,rfl,rfl,rfl,rfl,rfl,rfl,rfl,rfl,rfl,rfl,rfl,rfl,rfl,rfl,rfl,rfl,rfl,rfl,rfl,⟨⟨hM,hB⟩,hX⟩,λo' ho=>⟨o',rfl,rfl,rfl,rfl,rfl,rfl,rfl,rfl,rfl,rfl,rfl,rfl,rfl,rfl,ho⟩⟩
 ·have e2:¬c.kind=2:=by simpa using e2
  have hq:=zIf hr hk e2;rw[y5b (by omega)]at hX;exact⟨⟨m,m.p,B,m.used,c.id,c.qty,inst,o,X⟩,rfl,rfl,rfl,rfl,rfl,rfl,rfl,rfl,rfl,rfl,rfl,rfl,rfl,rfl,rfl,rfl,rfl,rfl,rfl,rfl,rfl,⟨⟨hM,hB⟩,⟨by dsimp only;omega,by dsimp only;omega⟩,hX⟩,λo' ho=>⟨o',rfl,rfl,rfl,rfl,rfl,rfl,rfl,rfl,rfl,rfl,rfl,rfl,rfl,rfl,ho⟩⟩
def yZk:doC.ok Tryz.prog 98:=okw mixed (gokc zOj (gokc z4b (gokc z1b (gokc yKm (gokc z4x (gokc zQs (gokc zSl gok0))))))) 0 (λ_=>[]) (λ_=>[]) [0] Tryz.func98 vdo
end Sx
