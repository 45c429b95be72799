/- Texts of ours. No condition. -/
import Derived.Test.YtaafldgiafcgfaaGreatE10
set_option linter.all false
open Sx.AObj renaming fro->aa,cells->ab,objs->ac,map->ae,own->af
open Go.IntKind renaming i64->ag
open List renaming map->aj
open Go.Value renaming int->ak,string->am
open Bool renaming true->ao,false->ap
namespace Sx
set_option maxRecDepth 100000
open Go Cv Go.Proofs
def zCg (a:Mkt) (b:EnI) (c:EnJ):Prop:=zV a.used=uH (ak ag b.c.id) [D.v (.bool ao)] (zV b.m.used)/\aa 1 (iE a.p.months)=yI b.m 3/\aa 1 (iE a.p.settle)=yI b.m 4/\aj xQ b.X.R=aj xQ c.out/\a.Rep b.p b.X.B b.X.U
def v7 (a:EnI):=(D.v (am (sb a.c.label)))
def yEw (i:EnI):Prop:=
 (∀(a:Value×List D),a∈zV i.m.used->like (ak ag i.c.id) a.fst=ao)/\∃(a:RunI),a.inst=i.c.inst/\zC a.sd=i.c.side/\a.price=i.c.price/\a.q=i.c.qty/\zD a.s=yI i.m 1/\(qP a)/\∀(b:MSt),b.Rep a.p a.r.B->∃(c:EnJ),c.left=i.c.qty/\(↑c.k:Int)=0/\aj xQ c.out=[[dI 1,dI i.c.id,dI i.c.inst,dI i.c.side,dI i.c.price,dI i.c.qty,dI i.c.qty,dI 0]]/\∃(d:EnJ->Prop),∃(e:EnJ->Nat),d c/\∀(f:EnJ),d f->cnd (decide ((↑f.k:Int)<(↑(aj wH a.r.steps).length:Int))) ((0<=(↑f.k:Int)/\(↑f.k:Int)<(↑(aj wH a.r.steps).length:Int))/\∃(g:Int),∃(h:Int),∃(j:Bool),∃(k:List (List D)),zE (aj wH a.r.steps) (↑f.k:Int).toNat 0 4=some [dI g,dI h,D.v (.bool j),D.ro 6 k]/\∃(l:StI'),l.c.kind=i.c.kind/\l.c.id=i.c.id/\l.c.inst=i.c.inst/\l.c.side=i.c.side/\l.c.price=i.c.price/\l.c.qty=i.c.qty/\l.c.least=i.c.least/\l.c.time=i.c.time/\sb l.c.label=sb i.c.label/\l.x.price=g/\l.x.qty=h/\l.x.implied=j/\aj yX l.x.fills=k/\l.left=ag.wrap (f.left-h)/\sb l.m.p.code=sb i.m.p.code/\l.m.p.tick=i.m.p.tick/\l.m.p.low=i.m.p.low/\l.m.p.high=i.m.p.high/\l.m.p.wide=i.m.p.wide/\l.m.p.rule=i.m.p.rule/\l.m.p.top=i.m.p.top/\l.m.p.least=i.m.p.least/\l.m.p.part=i.m.p.part/\zD l.m.s=zD b/\zV l.m.used=uH (ak ag i.c.id) [D.v (.bool ao)] (zV i.m.used)/\aa 1 (iE l.m.p.months)=yI i.m 3/\aa 1 (iE l.m.p.settle)=yI i.m 4/\((l.m.p.check=0/\l.m.p.code.length<=1099511627776/\l.m.p.months.length<=1099511627776/\l.m.p.settle.length<=1099511627776)/\((-9223372036854775808)<=l.x.price/\l.x.price<=9223372036854775807)/\l.x.fills.length<=1000000/\(l.c.side=1\/l.c.side=2)/\∀(m:cK),m∈l.x.fills->m.side=1\/m.side=2)/\∀(m:Unit),True->((aj xQ f.out).length+(aj xQ (m3 l.m.p l.c l.x l.left)).length)*(64:Nat)<=(140737488355328:Nat)/\∃(n:EnJ),n.left=ag.wrap (f.left-h)/\(↑n.k:Int)=ag.wrap ((↑f.k:Int)+1)/\aj xQ n.out=aj xQ f.out++aj xQ (m3 l.m.p l.c l.x l.left)/\d n/\e n<e f/\zD l.m.s=zD b/\dh (af 290 4 (aj wH a.r.steps))/\dh (ab [V.d (dI i.c.kind),V.d (dI i.c.id),V.d (dI i.c.inst),V.d (dI i.c.side),V.d (dI i.c.price),V.d (dI i.c.qty),V.d (dI i.c.least),V.d (dI i.c.time),V.d (v7 i)] 44)/\ab [V.d (D.v (am (sb l.m.p.code))),V.own 3,V.d (dI l.m.p.tick),V.d (dI l.m.p.low),V.d (dI l.m.p.high),V.d (dI l.m.p.wide),V.d (dI l.m.p.rule),V.d (dI l.m.p.top),V.d (dI l.m.p.least),V.d (dI l.m.p.part),V.own 4,V.nm 1 0,V.mp 2] (114:TypeId)=yI i.m 0/\ae (zV l.m.used)=ae (uH (ak ag i.c.id) [D.v (.bool ao)] (zV i.m.used))/\aa 1 (iE l.m.p.months)=yI i.m 3/\aa 1 (iE l.m.p.settle)=yI i.m 4) (cnd (a.r.left==0) (∃(g:Mkt),sb g.p.code=sb i.m.p.code/\g.p.tick=i.m.p.tick/\g.p.low=i.m.p.low/\g.p.high=i.m.p.high/\g.p.wide=i.m.p.wide/\g.p.rule=i.m.p.rule/\g.p.top=i.m.p.top/\g.p.least=i.m.p.least/\g.p.part=i.m.p.part/\zD g.s=zD b/\zCg g i f) (cnd (i.c.time==1) (∃(g:SaI),g.inst=i.c.inst/\g.id=i.c.id/\zC g.sd=i.c.side/\g.price=i.c.price/\g.qty=a.r.left/\zD g.s=zD b/\((g.s.p.code.length<=1099511627776/\g.s.p.months.length<=1099511627776/\g.s.p.settle.length<=1099511627776)/\g.s.books.length<=1000000/\∀(h:Book),h∈g.s.books->(h.a.slots.length<=1000000/\(h.a.free≠0->∃(j:Slot),j∈h.a.slots/\j.used=ap)/\∀(j:cQ),j∈h.a.queues->j.last=(-1)\/0<=j.last/\j.last<(↑h.a.slots.length:Int))/\h.a.queues.length<=100000/\h.buys.length<=100000/\h.sells.length<=100000/\h.spare.length<=100000)/\∀(h:Unit),True->∃(j:Mkt),sb j.p.code=sb i.m.p.code/\j.p.tick=i.m.p.tick/\j.p.low=i.m.p.low/\j.p.high=i.m.p.high/\j.p.wide=i.m.p.wide/\j.p.rule=i.m.p.rule/\j.p.top=i.m.p.top/\j.p.least=i.m.p.least/\j.p.part=i.m.p.part/\zD j.s=zD (MSt.addF g).fst/\zCg j i f) (((aj xQ f.out).length+1)*(64:Nat)<=(140737488355328:Nat)/\∃(g:Mkt),sb g.p.code=sb i.m.p.code/\g.p.tick=i.m.p.tick/\g.p.low=i.m.p.low/\g.p.high=i.m.p.high/\g.p.wide=i.m.p.wide/\g.p.rule=i.m.p.rule/\g.p.top=i.m.p.top/\g.p.least=i.m.p.least/\g.p.part=i.m.p.part/\zD g.s=zD b/\zV g.used=uH (ak ag i.c.id) [D.v (.bool ao)] (zV i.m.used)/\aa 1 (iE g.p.months)=yI i.m 3/\aa 1 (iE g.p.settle)=yI i.m 4/\aj xQ i.X.R=aj xQ f.out++[[dI 4,dI i.c.id,dI i.c.inst,dI i.c.side,dI i.c.price,dI a.r.left,dI 0,dI 0]]/\g.Rep i.p i.X.B i.X.U)))
def zDj (a:EnI):Prop:=ab [V.d (dI a.c.kind),V.d (dI a.c.id),V.d (dI a.c.inst),V.d (dI a.c.side),V.d (dI a.c.price),V.d (dI a.c.qty),V.d (dI a.c.least),V.d (dI a.c.time),V.d (v7 a)] 44=ab [V.d (dI a.c.kind),V.d (dI a.c.id),V.d (dI a.c.inst),V.d (dI a.c.side),V.d (dI a.c.price),V.d (dI a.c.qty),V.d (dI a.c.least),V.d (dI a.c.time),V.d (v7 a)] 44/\dh (yI a.m 0)/\dh (yI a.m 2)/\dh (yI a.m 3)/\dh (yI a.m 4)
def zIc (a:Bool->Prop) (b:SoI) (c:EnI):Prop:=∃(d:Bool),d=ap/\a d/\dh (zD b.s)/\zDj c
def zIu (a:Int->Prop) (b:Int) (c:EnI):Prop:=a b/\dh (ab [V.d (dI c.c.kind),V.d (dI c.c.id),V.d (dI c.c.inst),V.d (dI c.c.side),V.d (dI c.c.price),V.d (dI c.c.qty),V.d (dI c.c.least),V.d (dI c.c.time),V.d (v7 c)] 44)/\dh (yI c.m 0)/\dh (yI c.m 1)/\dh (yI c.m 2)/\dh (yI c.m 3)/\dh (yI c.m 4)
def zCk (a:Bool->Prop) (b:Bool) (c:RunI) (d:SoI) (e:EnI):Prop:=a b/\zD c.s=zD d.s/\zDj e
def zCi (a:Mkt) (b:EnI) (c:RjI):Prop:=zV a.used=zV b.m.used/\aa 1 (iE a.p.months)=yI b.m 3/\aa 1 (iE a.p.settle)=yI b.m 4/\aj xQ b.X.R=[xQ (Rep.mk 2 c.c.id 0 0 0 0 0 c.why)]/\a.Rep b.p b.X.B b.X.U
def zDh (a:EnI) (b:RjI):Prop:=True/\∀(c:Unit),True->∃(d:Mkt),sb d.p.code=sb a.m.p.code/\d.p.tick=a.m.p.tick/\d.p.low=a.m.p.low/\d.p.high=a.m.p.high/\d.p.wide=a.m.p.wide/\d.p.rule=a.m.p.rule/\d.p.top=a.m.p.top/\d.p.least=a.m.p.least/\d.p.part=a.m.p.part/\zD d.s=yI a.m 1/\zCi d a b
def rI (a:EnI) (b:SoI) (c:RjI):Prop:=True/\∀(d:Unit),True->∃(e:Mkt),sb e.p.code=sb a.m.p.code/\e.p.tick=a.m.p.tick/\e.p.low=a.m.p.low/\e.p.high=a.m.p.high/\e.p.wide=a.m.p.wide/\e.p.rule=a.m.p.rule/\e.p.top=a.m.p.top/\e.p.least=a.m.p.least/\e.p.part=a.m.p.part/\zD e.s=zD b.s/\zCi e a c
def rB (a:EnI) (b:EnI):Prop:=∀(c:Mkt),c.Rep a.p a.X.B a.X.U->∃(d:Mkt),sb d.p.code=sb c.p.code/\d.p.tick=c.p.tick/\d.p.low=c.p.low/\d.p.high=c.p.high/\d.p.wide=c.p.wide/\d.p.rule=c.p.rule/\d.p.top=c.p.top/\d.p.least=c.p.least/\d.p.part=c.p.part/\zD d.s=zD c.s/\zV d.used=zV c.used/\aa 1 (iE d.p.months)=aa 1 (iE c.p.months)/\aa 1 (iE d.p.settle)=aa 1 (iE c.p.settle)/\aj xQ b.X.R=aj xQ a.X.R/\d.Rep b.p b.X.B b.X.U
def rZ (a:EnI):Prop:=(a.m.Rep a.p a.B a.U/\BOk a.p a.B)/\((0<=a.c.inst/\a.c.inst<(↑a.B.length:Int))/\(1<=a.c.qty/\a.c.qty<=1000000)/\(a.c.side=1\/a.c.side=2))/\a.p.price a.c.inst a.c.price=0/\a.X=cU a.p a.B a.U a.c
def yIn (i:EnI):Prop:=
 ∃(a:tP),sb a.p.code=sb i.m.p.code/\iE a.p.months=iE i.m.p.months/\a.p.tick=i.m.p.tick/\a.p.low=i.m.p.low/\a.p.high=i.m.p.high/\a.p.wide=i.m.p.wide/\a.p.rule=i.m.p.rule/\a.p.top=i.m.p.top/\a.p.least=i.m.p.least/\a.p.part=i.m.p.part/\iE a.p.settle=iE i.m.p.settle/\a.a=i.c.inst/\a.b=i.c.price/\(qA a)/\∀(b:Unit),True->cnd (a.p.price a.a a.b !=0) (∃(c:RjI),c.c.kind=i.c.kind/\c.c.id=i.c.id/\c.c.inst=i.c.inst/\c.c.side=i.c.side/\c.c.price=i.c.price/\c.c.qty=i.c.qty/\c.c.least=i.c.least/\c.c.time=i.c.time/\sb c.c.label=sb i.c.label/\c.why=a.p.price a.a a.b/\zDh i c) (∃(c:Int),∃(d:Int->Prop),cnd (i.c.time==3) (∃(e:Int),e=i.c.qty/\zIu d e i) (∃(e:Int),e=i.c.least/\zIu d e i)/\∀(e:Int),d e->(∀(f:Value×List D),f∈zV i.m.used->like (ak ag i.c.id) f.fst=ao)/\∃(f:Bool),∃(g:Bool),(kC (ak ag i.c.id) (zV i.m.used)=some [D.v (.bool g)]/\f=ao\/kC (ak ag i.c.id) (zV i.m.used)=none/\[D.v (.bool g)]=[D.v (.bool ap)]/\f=ap)/\cnd g (∃(h:RjI),h.c.kind=i.c.kind/\h.c.id=i.c.id/\h.c.inst=i.c.inst/\h.c.side=i.c.side/\h.c.price=i.c.price/\h.c.qty=i.c.qty/\h.c.least=i.c.least/\h.c.time=i.c.time/\sb h.c.label=sb i.c.label/\h.why=25/\zDh i h) (∃(h:SoI),zD h.s=yI i.m 1/\(h.s.Rep h.p h.B/\h.B.length<=1000)/\∀(j:Unit),True->cnd (decide ((↑(zVo h.B):Int)>=250)) (∃(k:RjI),k.c.kind=i.c.kind/\k.c.id=i.c.id/\k.c.inst=i.c.inst/\k.c.side=i.c.side/\k.c.price=i.c.price/\k.c.qty=i.c.qty/\k.c.least=i.c.least/\k.c.time=i.c.time/\sb k.c.label=sb i.c.label/\k.why=13/\rI i h k) (∃(k:Bool),∃(l:Bool->Prop),cnd (decide (e>0)) (∃(m:RunI),m.inst=i.c.inst/\zC m.sd=i.c.side/\m.price=i.c.price/\m.q=i.c.qty/\zD m.s=zD h.s/\(qP m)/\∀(n:Unit),True->∃(p:Bool),p=decide (m.q-m.r.left<e)/\zCk l p m h i) (zIc l h i)/\∀(m:Bool),l m->cnd m (∃(n:RjI),n.c.kind=i.c.kind/\n.c.id=i.c.id/\n.c.inst=i.c.inst/\n.c.side=i.c.side/\n.c.price=i.c.price/\n.c.qty=i.c.qty/\n.c.least=i.c.least/\n.c.time=i.c.time/\sb n.c.label=sb i.c.label/\n.why=28/\rI i h n) (∃(n:Bool),∃(p:Bool->Prop),cnd (i.c.time==1) (∃(q:RunI),q.inst=i.c.inst/\zC q.sd=i.c.side/\q.price=i.c.price/\q.q=i.c.qty/\zD q.s=zD h.s/\(qP q)/\∀(r:Unit),True->∃(s:Bool),s=aM q.p q.B q.inst q.sd q.price q.q/\zCk p s q h i) (zIc p h i)/\∀(q:Bool),p q->cnd q (∃(r:RjI),r.c.kind=i.c.kind/\r.c.id=i.c.id/\r.c.inst=i.c.inst/\r.c.side=i.c.side/\r.c.price=i.c.price/\r.c.qty=i.c.qty/\r.c.least=i.c.least/\r.c.time=i.c.time/\sb r.c.label=sb i.c.label/\r.why=23/\rI i h r) (∃(r:EnI),r.c.kind=i.c.kind/\r.c.id=i.c.id/\r.c.inst=i.c.inst/\r.c.side=i.c.side/\r.c.price=i.c.price/\r.c.qty=i.c.qty/\r.c.least=i.c.least/\r.c.time=i.c.time/\sb r.c.label=sb i.c.label/\sb r.m.p.code=sb i.m.p.code/\r.m.p.tick=i.m.p.tick/\r.m.p.low=i.m.p.low/\r.m.p.high=i.m.p.high/\r.m.p.wide=i.m.p.wide/\r.m.p.rule=i.m.p.rule/\r.m.p.top=i.m.p.top/\r.m.p.least=i.m.p.least/\r.m.p.part=i.m.p.part/\zD r.m.s=zD h.s/\zV r.m.used=zV i.m.used/\aa 1 (iE r.m.p.months)=yI i.m 3/\aa 1 (iE r.m.p.settle)=yI i.m 4/\(rZ r)/\rB r i)))))
def yNz (i:CaI):Prop:=
 ∃(i_1:StI),i_1.id=i.id/\i_1.q=i.o.qty/\zD i_1.s=yI i.m 1/\(i_1.s.Rep i_1.p i_1.B/\i_1.B.length<=1000)/\∀(o:MSt),o.Rep i_1.p (qW i_1.B i_1.id i_1.q).fst->∃(o_1:Mkt),sb o_1.p.code=sb i.m.p.code/\o_1.p.tick=i.m.p.tick/\o_1.p.low=i.m.p.low/\o_1.p.high=i.m.p.high/\o_1.p.wide=i.m.p.wide/\o_1.p.rule=i.m.p.rule/\o_1.p.top=i.m.p.top/\o_1.p.least=i.m.p.least/\o_1.p.part=i.m.p.part/\zD o_1.s=zD o/\zV o_1.used=zV i.m.used/\aa 1 (iE o_1.p.months)=yI i.m 3/\aa 1 (iE o_1.p.settle)=yI i.m 4/\aj xQ i.X.R=[[D.v (.int .i64 4),D.v (.int .i64 i.id),D.v (.int .i64 i.inst),D.v (.int .i64 i.o.side),D.v (.int .i64 i.o.price),D.v (.int .i64 i.o.qty),D.v (.int .i64 0),D.v (.int .i64 0)]]/\o_1.Rep i.p i.X.B i.X.U
def z8c (i:CaI):Prop:=
 ∃(a:StI),a.id=i.id/\a.q=i.q/\zD a.s=yI i.m 1/\(a.s.Rep a.p a.B/\a.B.length<=1000)/\∀(b:MSt),b.Rep a.p (qW a.B a.id a.q).fst->∃(c:Mkt),sb c.p.code=sb i.m.p.code/\c.p.tick=i.m.p.tick/\c.p.low=i.m.p.low/\c.p.high=i.m.p.high/\c.p.wide=i.m.p.wide/\c.p.rule=i.m.p.rule/\c.p.top=i.m.p.top/\c.p.least=i.m.p.least/\c.p.part=i.m.p.part/\zD c.s=zD b/\zV c.used=zV i.m.used/\aa 1 (iE c.p.months)=yI i.m 3/\aa 1 (iE c.p.settle)=yI i.m 4/\aj xQ i.X.R=[[dI 5,dI i.id,dI i.inst,dI i.o.side,dI i.o.price,dI i.q,dI (ag.wrap (i.o.qty-i.q)),dI 0]]/\c.Rep i.p i.X.B i.X.U
def rA (a:Mkt) (b:yCa) (c:RjI):Prop:=zV a.used=zV b.m.used/\aa 1 (iE a.p.months)=yI b.m 3/\aa 1 (iE a.p.settle)=yI b.m 4/\aj xQ b.X.R=[xQ (Rep.mk 2 c.c.id 0 0 0 0 0 c.why)]/\a.Rep b.p b.X.B b.X.U
def zDr (a:yCa):Prop:=∃(b:MSt),zD b=yI a.m 1/\(gY b)/\∀(c:Unit),True->∃(d:StI),d.id=a.c.id/\d.q=a.o.qty/\zD d.s=zD b/\(d.s.Rep d.p d.B/\d.B.length<=1000)/\∀(e:MSt),e.Rep d.p (qW d.B d.id d.q).fst->∃(f:RunI),f.inst=a.inst/\zC f.sd=a.o.side/\f.price=a.c.price/\f.q=a.c.qty/\zD f.s=zD e/\(qP f)/\∀(g:Unit),True->cnd (aM f.p f.B f.inst f.sd f.price f.q) (∃(h:RjI),h.c.kind=a.c.kind/\h.c.id=a.c.id/\h.c.inst=a.c.inst/\h.c.side=a.c.side/\h.c.price=a.c.price/\h.c.qty=a.c.qty/\h.c.least=a.c.least/\h.c.time=a.c.time/\sb h.c.label=sb a.c.label/\h.why=23/\True/\∀(j:Unit),True->∃(k:Mkt),sb k.p.code=sb a.m.p.code/\k.p.tick=a.m.p.tick/\k.p.low=a.m.p.low/\k.p.high=a.m.p.high/\k.p.wide=a.m.p.wide/\k.p.rule=a.m.p.rule/\k.p.top=a.m.p.top/\k.p.least=a.m.p.least/\k.p.part=a.m.p.part/\zD k.s=zD b/\rA k a h) (∃(h:CaI),h.id=a.c.id/\h.inst=a.inst/\h.o.id=a.o.id/\h.o.side=a.o.side/\h.o.price=a.o.price/\h.o.qty=a.o.qty/\h.o.top=a.o.top/\sb h.m.p.code=sb a.m.p.code/\h.m.p.tick=a.m.p.tick/\h.m.p.low=a.m.p.low/\h.m.p.high=a.m.p.high/\h.m.p.wide=a.m.p.wide/\h.m.p.rule=a.m.p.rule/\h.m.p.top=a.m.p.top/\h.m.p.least=a.m.p.least/\h.m.p.part=a.m.p.part/\zD h.m.s=zD b/\zV h.m.used=zV a.m.used/\aa 1 (iE h.m.p.months)=yI a.m 3/\aa 1 (iE h.m.p.settle)=yI a.m 4/\((h.m.Rep h.p h.B h.U/\BOk h.p h.B)/\h.X=uP h.B h.U h.id h.inst h.o)/\∀(j:Mkt),j.Rep h.p h.X.B h.X.U->∃(k:EnI),k.c.kind=1/\k.c.id=a.c.id/\k.c.inst=a.inst/\k.c.side=a.o.side/\k.c.price=a.c.price/\k.c.qty=a.c.qty/\k.c.least=0/\k.c.time=1/\sb k.c.label=ByteArray.mk #[]/\sb k.m.p.code=sb j.p.code/\k.m.p.tick=j.p.tick/\k.m.p.low=j.p.low/\k.m.p.high=j.p.high/\k.m.p.wide=j.p.wide/\k.m.p.rule=j.p.rule/\k.m.p.top=j.p.top/\k.m.p.least=j.p.least/\k.m.p.part=j.p.part/\zD k.m.s=zD j.s/\zV k.m.used=zV j.used/\aa 1 (iE k.m.p.months)=aa 1 (iE j.p.months)/\aa 1 (iE k.m.p.settle)=aa 1 (iE j.p.settle)/\(rZ k)/\∀(l:Mkt),l.Rep k.p k.X.B k.X.U->((aj xQ h.X.R).length+(aj xQ k.X.R).length)*(64:Nat)<=(140737488355328:Nat)/\∃(m:Mkt),sb m.p.code=sb l.p.code/\m.p.tick=l.p.tick/\m.p.low=l.p.low/\m.p.high=l.p.high/\m.p.wide=l.p.wide/\m.p.rule=l.p.rule/\m.p.top=l.p.top/\m.p.least=l.p.least/\m.p.part=l.p.part/\zD m.s=zD l.s/\zV m.used=zV l.used/\aa 1 (iE m.p.months)=aa 1 (iE l.p.months)/\aa 1 (iE m.p.settle)=aa 1 (iE l.p.settle)/\aj xQ a.X.R=aj xQ h.X.R++aj xQ k.X.R/\m.Rep a.p a.X.B a.X.U)
def bC (a:CaI):Prop:=(a.m.Rep a.p a.B a.U/\BOk a.p a.B)/\((-9223372036854775808)<=a.o.qty-a.q/\a.o.qty-a.q<=9223372036854775807)/\a.X=cC a.B a.U a.id a.q a.inst a.o
def zYn (i:yCa):Prop:=
 ∃(a:tP),sb a.p.code=sb i.m.p.code/\iE a.p.months=iE i.m.p.months/\a.p.tick=i.m.p.tick/\a.p.low=i.m.p.low/\a.p.high=i.m.p.high/\a.p.wide=i.m.p.wide/\a.p.rule=i.m.p.rule/\a.p.top=i.m.p.top/\a.p.least=i.m.p.least/\a.p.part=i.m.p.part/\iE a.p.settle=iE i.m.p.settle/\a.a=i.inst/\a.b=i.c.price/\(qA a)/\∀(b:Unit),True->cnd (a.p.price a.a a.b !=0) (∃(c:RjI),c.c.kind=i.c.kind/\c.c.id=i.c.id/\c.c.inst=i.c.inst/\c.c.side=i.c.side/\c.c.price=i.c.price/\c.c.qty=i.c.qty/\c.c.least=i.c.least/\c.c.time=i.c.time/\sb c.c.label=sb i.c.label/\c.why=a.p.price a.a a.b/\True/\∀(d:Unit),True->∃(e:Mkt),sb e.p.code=sb i.m.p.code/\e.p.tick=i.m.p.tick/\e.p.low=i.m.p.low/\e.p.high=i.m.p.high/\e.p.wide=i.m.p.wide/\e.p.rule=i.m.p.rule/\e.p.top=i.m.p.top/\e.p.least=i.m.p.least/\e.p.part=i.m.p.part/\zD e.s=yI i.m 1/\rA e i c) (cnd (i.c.price==i.o.price) (cnd (decide (i.c.qty<=i.o.qty)) (∃(c:CaI),c.id=i.c.id/\c.q=ag.wrap (i.o.qty-i.c.qty)/\c.inst=i.inst/\c.o.id=i.o.id/\c.o.side=i.o.side/\c.o.price=i.o.price/\c.o.qty=i.o.qty/\c.o.top=i.o.top/\sb c.m.p.code=sb i.m.p.code/\c.m.p.tick=i.m.p.tick/\c.m.p.low=i.m.p.low/\c.m.p.high=i.m.p.high/\c.m.p.wide=i.m.p.wide/\c.m.p.rule=i.m.p.rule/\c.m.p.top=i.m.p.top/\c.m.p.least=i.m.p.least/\c.m.p.part=i.m.p.part/\zD c.m.s=yI i.m 1/\zV c.m.used=zV i.m.used/\aa 1 (iE c.m.p.months)=yI i.m 3/\aa 1 (iE c.m.p.settle)=yI i.m 4/\(bC c)/\∀(d:Mkt),d.Rep c.p c.X.B c.X.U->∃(e:Mkt),sb e.p.code=sb d.p.code/\e.p.tick=d.p.tick/\e.p.low=d.p.low/\e.p.high=d.p.high/\e.p.wide=d.p.wide/\e.p.rule=d.p.rule/\e.p.top=d.p.top/\e.p.least=d.p.least/\e.p.part=d.p.part/\zD e.s=zD d.s/\zV e.used=zV d.used/\aa 1 (iE e.p.months)=aa 1 (iE d.p.months)/\aa 1 (iE e.p.settle)=aa 1 (iE d.p.settle)/\aj xQ i.X.R=aj xQ c.X.R/\e.Rep i.p i.X.B i.X.U) (zDr i)) (zDr i))
def zVt (a:CaI) (b:EnI):Prop:=∀(c:Mkt),c.Rep a.p a.X.B a.X.U->∃(d:Mkt),sb d.p.code=sb c.p.code/\d.p.tick=c.p.tick/\d.p.low=c.p.low/\d.p.high=c.p.high/\d.p.wide=c.p.wide/\d.p.rule=c.p.rule/\d.p.top=c.p.top/\d.p.least=c.p.least/\d.p.part=c.p.part/\zD d.s=zD c.s/\zV d.used=zV c.used/\aa 1 (iE d.p.months)=aa 1 (iE c.p.months)/\aa 1 (iE d.p.settle)=aa 1 (iE c.p.settle)/\aj xQ b.X.R=aj xQ a.X.R/\d.Rep b.p b.X.B b.X.U
def zVx (a:Mkt) (b:EnI) (c:RjI):Prop:=zV a.used=zV b.m.used/\aa 1 (iE a.p.months)=aa 1 (iE b.m.p.months)/\aa 1 (iE a.p.settle)=aa 1 (iE b.m.p.settle)/\aj xQ b.X.R=[xQ (Rep.mk 2 c.c.id 0 0 0 0 0 c.why)]/\a.Rep b.p b.X.B b.X.U
def z4c (a:EnI) (b:StI):Prop:=∃(c:CaI),c.id=a.c.id/\c.inst=(zK b.B b.id).fst/\c.o.id=(zK b.B b.id).snd.fst.id/\c.o.side=(zK b.B b.id).snd.fst.side/\c.o.price=(zK b.B b.id).snd.fst.price/\c.o.qty=(zK b.B b.id).snd.fst.qty/\c.o.top=(zK b.B b.id).snd.fst.top/\sb c.m.p.code=sb a.m.p.code/\c.m.p.tick=a.m.p.tick/\c.m.p.low=a.m.p.low/\c.m.p.high=a.m.p.high/\c.m.p.wide=a.m.p.wide/\c.m.p.rule=a.m.p.rule/\c.m.p.top=a.m.p.top/\c.m.p.least=a.m.p.least/\c.m.p.part=a.m.p.part/\zD c.m.s=zD b.s/\zV c.m.used=zV a.m.used/\aa 1 (iE c.m.p.months)=aa 1 (iE a.m.p.months)/\aa 1 (iE c.m.p.settle)=aa 1 (iE a.m.p.settle)/\((c.m.Rep c.p c.B c.U/\BOk c.p c.B)/\c.X=uP c.B c.U c.id c.inst c.o)/\zVt c a
def yIc (a:EnI):Prop:=∃(b:StI),b.id=a.c.id/\zD b.s=zD a.m.s/\(b.s.Rep b.p b.B/\b.B.length<=1000)/\∀(c:Unit),True->cnd (!(zK b.B b.id).snd.snd) (∃(d:RjI),d.c.kind=a.c.kind/\d.c.id=a.c.id/\d.c.inst=a.c.inst/\d.c.side=a.c.side/\d.c.price=a.c.price/\d.c.qty=a.c.qty/\d.c.least=a.c.least/\d.c.time=a.c.time/\sb d.c.label=sb a.c.label/\d.why=26/\True/\∀(e:Unit),True->∃(f:Mkt),sb f.p.code=sb a.m.p.code/\f.p.tick=a.m.p.tick/\f.p.low=a.m.p.low/\f.p.high=a.m.p.high/\f.p.wide=a.m.p.wide/\f.p.rule=a.m.p.rule/\f.p.top=a.m.p.top/\f.p.least=a.m.p.least/\f.p.part=a.m.p.part/\zD f.s=zD b.s/\zVx f a d) (cnd (a.c.kind==4) (∃(d:yCa),d.c.kind=a.c.kind/\d.c.id=a.c.id/\d.c.inst=a.c.inst/\d.c.side=a.c.side/\d.c.price=a.c.price/\d.c.qty=a.c.qty/\d.c.least=a.c.least/\d.c.time=a.c.time/\sb d.c.label=sb a.c.label/\d.inst=(zK b.B b.id).fst/\d.o.id=(zK b.B b.id).snd.fst.id/\d.o.side=(zK b.B b.id).snd.fst.side/\d.o.price=(zK b.B b.id).snd.fst.price/\d.o.qty=(zK b.B b.id).snd.fst.qty/\d.o.top=(zK b.B b.id).snd.fst.top/\sb d.m.p.code=sb a.m.p.code/\d.m.p.tick=a.m.p.tick/\d.m.p.low=a.m.p.low/\d.m.p.high=a.m.p.high/\d.m.p.wide=a.m.p.wide/\d.m.p.rule=a.m.p.rule/\d.m.p.top=a.m.p.top/\d.m.p.least=a.m.p.least/\d.m.p.part=a.m.p.part/\zD d.m.s=zD b.s/\zV d.m.used=zV a.m.used/\aa 1 (iE d.m.p.months)=aa 1 (iE a.m.p.months)/\aa 1 (iE d.m.p.settle)=aa 1 (iE a.m.p.settle)/\(d.m.Rep d.p d.B d.U/\BOk d.p d.B/\zK d.B d.c.id=(d.inst,d.o,ao)/\(1<=d.c.qty/\d.c.qty<=1000000)/\d.X=gC d.p d.B d.U d.c d.inst d.o)/\∀(e:Mkt),e.Rep d.p d.X.B d.X.U->∃(f:Mkt),sb f.p.code=sb e.p.code/\f.p.tick=e.p.tick/\f.p.low=e.p.low/\f.p.high=e.p.high/\f.p.wide=e.p.wide/\f.p.rule=e.p.rule/\f.p.top=e.p.top/\f.p.least=e.p.least/\f.p.part=e.p.part/\zD f.s=zD e.s/\zV f.used=zV e.used/\aa 1 (iE f.p.months)=aa 1 (iE e.p.months)/\aa 1 (iE f.p.settle)=aa 1 (iE e.p.settle)/\aj xQ a.X.R=aj xQ d.X.R/\f.Rep a.p a.X.B a.X.U) (cnd (a.c.kind==2) (z4c a b) (cnd (decide (a.c.qty>=(zK b.B b.id).snd.fst.qty)) (z4c a b) (∃(d:CaI),d.id=a.c.id/\d.q=a.c.qty/\d.inst=(zK b.B b.id).fst/\d.o.id=(zK b.B b.id).snd.fst.id/\d.o.side=(zK b.B b.id).snd.fst.side/\d.o.price=(zK b.B b.id).snd.fst.price/\d.o.qty=(zK b.B b.id).snd.fst.qty/\d.o.top=(zK b.B b.id).snd.fst.top/\sb d.m.p.code=sb a.m.p.code/\d.m.p.tick=a.m.p.tick/\d.m.p.low=a.m.p.low/\d.m.p.high=a.m.p.high/\d.m.p.wide=a.m.p.wide/\d.m.p.rule=a.m.p.rule/\d.m.p.top=a.m.p.top/\d.m.p.least=a.m.p.least/\d.m.p.part=a.m.p.part/\zD d.m.s=zD b.s/\zV d.m.used=zV a.m.used/\aa 1 (iE d.m.p.months)=aa 1 (iE a.m.p.months)/\aa 1 (iE d.m.p.settle)=aa 1 (iE a.m.p.settle)/\(bC d)/\zVt d a))))
def Vdo (i:EnI):Prop:=
 ∃(a:Cmd),a.kind=i.c.kind/\a.id=i.c.id/\a.inst=i.c.inst/\a.side=i.c.side/\a.price=i.c.price/\a.qty=i.c.qty/\a.least=i.c.least/\a.time=i.c.time/\sb a.label=sb i.c.label/\a.label.length<=140737488355328/\∀(b:Unit),True->cnd (a.right !=0) (∃(c:RjI),c.c.kind=i.c.kind/\c.c.id=i.c.id/\c.c.inst=i.c.inst/\c.c.side=i.c.side/\c.c.price=i.c.price/\c.c.qty=i.c.qty/\c.c.least=i.c.least/\c.c.time=i.c.time/\sb c.c.label=sb i.c.label/\c.why=a.right/\True/\∀(d:Unit),True->∃(e:Mkt),sb e.p.code=sb i.m.p.code/\e.p.tick=i.m.p.tick/\e.p.low=i.m.p.low/\e.p.high=i.m.p.high/\e.p.wide=i.m.p.wide/\e.p.rule=i.m.p.rule/\e.p.top=i.m.p.top/\e.p.least=i.m.p.least/\e.p.part=i.m.p.part/\zD e.s=zD i.m.s/\zVx e i c) (cnd (i.c.kind==1) (∃(c:EnI),c.c.kind=i.c.kind/\c.c.id=i.c.id/\c.c.inst=i.c.inst/\c.c.side=i.c.side/\c.c.price=i.c.price/\c.c.qty=i.c.qty/\c.c.least=i.c.least/\c.c.time=i.c.time/\sb c.c.label=sb i.c.label/\sb c.m.p.code=sb i.m.p.code/\c.m.p.tick=i.m.p.tick/\c.m.p.low=i.m.p.low/\c.m.p.high=i.m.p.high/\c.m.p.wide=i.m.p.wide/\c.m.p.rule=i.m.p.rule/\c.m.p.top=i.m.p.top/\c.m.p.least=i.m.p.least/\c.m.p.part=i.m.p.part/\zD c.m.s=zD i.m.s/\zV c.m.used=zV i.m.used/\aa 1 (iE c.m.p.months)=aa 1 (iE i.m.p.months)/\aa 1 (iE c.m.p.settle)=aa 1 (iE i.m.p.settle)/\((c.m.Rep c.p c.B c.U/\BOk c.p c.B)/\c.c.right=0/\c.c.kind=1/\c.X=nB c.p c.B c.U c.c)/\rB c i) ((yIc i)/\dh i.c.id/\True/\yIc i))
def yTv (i:MfI):Prop:=
 ∃(i_1:StI),i_1.id=i.id/\zD i_1.s=zD i.m.s/\(i_1.s.Rep i_1.p i_1.B/\i_1.B.length<=1000)/\∀(o:Unit),True->∃(o:Unit),(zK i.B i.id).fst=(zK i_1.B i_1.id).fst/\(zK i.B i.id).snd.fst.id=(zK i_1.B i_1.id).snd.fst.id/\(zK i.B i.id).snd.fst.side=(zK i_1.B i_1.id).snd.fst.side/\(zK i.B i.id).snd.fst.price=(zK i_1.B i_1.id).snd.fst.price/\(zK i.B i.id).snd.fst.qty=(zK i_1.B i_1.id).snd.fst.qty/\(zK i.B i.id).snd.fst.top=(zK i_1.B i_1.id).snd.fst.top/\(zK i.B i.id).snd.snd=(zK i_1.B i_1.id).snd.snd/\dh (sb i.m.p.code)/\dh i.m.p.tick/\dh i.m.p.low/\dh i.m.p.high/\dh i.m.p.wide/\dh i.m.p.rule/\dh i.m.p.top/\dh i.m.p.least/\dh i.m.p.part/\zD i.m.s=zD i_1.s/\dh (zV i.m.used)/\dh (aa 1 (iE i.m.p.months))/\dh (aa 1 (iE i.m.p.settle))/\True
def zBd (p:Prd) (B:List (List zH)) (U:List Int) (c:Cmd):cU p B U c=⟨if(wL p B c.inst (decide (c.side=2)) c.price c.qty).left≠0/\c.time=1 then(z2w p (wL p B c.inst (decide (c.side=2)) c.price c.qty).B c.inst c.id c.side c.price (wL p B c.inst (decide (c.side=2)) c.price c.qty).left).1 else(wL p B c.inst (decide (c.side=2)) c.price c.qty).B,zQk U c.id,
 (⟨1,c.id,c.inst,c.side,c.price,c.qty,c.qty,0⟩::aD p c (wL p B c.inst (decide (c.side=2)) c.price c.qty).steps c.qty)++if(wL p B c.inst (decide (c.side=2)) c.price c.qty).left≠0/\c.time≠1 then[⟨4,c.id,c.inst,c.side,c.price,(wL p B c.inst (decide (c.side=2)) c.price c.qty).left,0,0⟩]else[]⟩:=by
 rw[cU]
def zRt {p:Prd} {B:List (List zH)} (h:BWf p B) (U:List Int) (c:Cmd):BOk p (cU p B U c).B:=by
 have:=(pV (inst:=c.inst) (sd:=decide (c.side=2)) (price:=c.price) _ c.qty B (y6v _) h).1.ok;rw[zBd];dsimp only;split
 ·exact this.add _ _ _ _ _
 ·exact this
def yAh {p:Prd} {B:List (List zH)} (h:BWf p B) (U:List Int) (c:Cmd):BOk p (nB p B U c).B:=by
 rw[nB];split
 ·exact h.ok
 split
 ·exact h.ok
 split
 ·exact h.ok
 split
 ·exact h.ok
 split
 ·exact h.ok
 exact zRt h U c
def yTj {p:Prd} {B:List (List zH)} (h:BWf p B) (U:List Int) (c:Cmd):BOk p (doF p B U c).B:=by
 rw[doF];split
 ·exact h.ok
 split
 ·exact yAh h U c
 split
 ·exact h.ok
 split
 ·rw[gC];split
  ·exact h.ok
  split
  ·exact h.ok.take _ _
  split
  ·exact h.ok
  exact zRt (h.take _ _) U _
 split
 ·exact h.ok.take _ _
 ·exact h.ok.take _ _
def Two (L:List zH):Prop:=L=eX L 1++eX L 2
def eT {inst s:Int} {f:cK}:∀{os:List zH} {sh:List Int},f∈xX inst s os sh->f.side=s/\f.inst=inst/\∃o∈os,f.price=o.price
 |[],sh,h=>by cases h
 |o::os,[],h=>by cases h
 |o::os,k::sh,h=>by
  rw[xX]at h;split at h
  ·rcases y6q.1 h with rfl|h
   ·exact⟨rfl,rfl,o,y6e,rfl⟩
   ·obtain⟨a,b,o',c,d⟩:=eT h;exact⟨a,b,o',y6g _ c,d⟩
  ·obtain⟨a,b,o',c,d⟩:=eT h;exact⟨a,b,o',y6g _ c,d⟩
def FOk (f:cK):Prop:=(f.side=1\/f.side=2)/\-2000000<=f.price/\f.price<=2000000
def zIx {p:Prd} {B:List (List zH)} (h:BOk p B) (inst:Int) {s:Int} (hs:s=1\/s=2) (q:Int):∀f∈qX p B inst s q,FOk f:=by
 intro f hf;obtain⟨a,_,o,ho,e⟩:=eT hf;refine⟨by rw[a];exact hs,?_⟩;rw[e];have ho:=(y7y.1 ho).1;by_cases hk:inst.toNat<B.length
 ·obtain⟨L,hL⟩:=yC hk;rw[zT hL]at ho;exact h.prices hL o ho
 ·rw[y6h,y7c (by omega)]at ho;cases ho
def SOk (t:jZ):Prop:=(-2000000<=t.price/\t.price<=2000000)/\(∀f∈t.fills,FOk f)/\t.fills.length<=500
def yMj {p:Prd} {B:List (List zH)} (h:BWf p B) {inst:Int} (hi:0<=inst/\inst<B.length) {s:Int} (hs:s=1\/s=2) (hn:(yU p B inst s).2.2=ao): -2000000<=(yU p B inst s).1.price/\(yU p B inst s).1.price<=2000000:=by
 rw[yU]at hn ⊢;obtain⟨L,hL⟩:=yC (l:=B) (i:=inst.toNat) oM;rw[zT hL]at hn ⊢;split
 ·exact zVy (h.ok.prices hL)
 ·rename_i c;rw[y5x c]at hn;have hm:=zGp hn;have:=(y7y.1 hm).2;exact lB h.ok.pc (y7f this)
def yNb {p:Prd} {B:List (List zH)} (h:BWf p B) {inst:Int} (hi:0<=inst/\inst<B.length) {sd:Bool} {price q:Int} {t:jZ} {B':List (List zH)} (e:aF p B inst sd price q=some (t,B')):SOk t:=by
 have hs:zC (!sd)=1\/zC (!sd)=2:=zFl _;have hb:=yMj h hi hs;have hin:=z8s h.ok h.od hi hs;rw[aF]at e;dsimp only at e;split at e
 ·rename_i c;have c1:(yU p B inst (zC (!sd))).2.2=ao:=by
   cases hx:(yU p B inst (zC (!sd))).2.2 with
   |false=>rw[hx]at c;cases c
   |true=>rfl
  have hb:=hb c1;obtain⟨_,hin,_⟩:=hin c1;split at e
  ·rename_i c2;obtain⟨_,ok⟩:=hin c2;cases e;refine⟨hb,λf hf=> ?_,?_⟩
   ·rcases y7d.1 hf with hf|hf
    ·exact zIx h.ok _ ok.sa _ f hf
    ·exact zIx h.ok.takes _ ok.sb _ f hf
   ·dsimp only;rw[y5y];have:=pF (p:=p) h.od (yU p B inst (zC (!sd))).1.a.inst (yU p B inst (zC (!sd))).1.a.side (min q (yU p B inst (zC (!sd))).1.qty);have:=pF (p:=p) (h.takes (fs:=qX p B (yU p B inst (zC (!sd))).1.a.inst (yU p B inst (zC (!sd))).1.a.side (min q (yU p B inst (zC (!sd))).1.qty))).od (yU p B inst (zC (!sd))).1.b.inst (yU p B inst (zC (!sd))).1.b.side (min q (yU p B inst (zC (!sd))).1.qty);omega
  ·cases e;refine⟨hb,λf hf=>zIx h.ok _ hs _ f hf,?_⟩;have:=pF (p:=p) h.od inst (zC (!sd)) (min q (yU p B inst (zC (!sd))).1.qty);dsimp only;omega
 ·cases e
def zDs (a:StI):Prop:=yR a.s.wh=yR a.s.wh/\dh (aa 1 (iE a.s.p.months))/\dh (aa 1 (iE a.s.p.settle))/\True
def yGq (i:StI):Prop:=
 (aX i)/\∃(a:Bool),∃(b:Int),(rN i b a)/\cnd (!a) (∃(c:Unit),(zK i.B i.id).fst=0/\(zK i.B i.id).snd.fst.id=0/\(zK i.B i.id).snd.fst.side=0/\(zK i.B i.id).snd.fst.price=0/\(zK i.B i.id).snd.fst.qty=0/\(zK i.B i.id).snd.fst.top=ap/\(zK i.B i.id).snd.snd=ap/\dh (sb i.s.p.code)/\dh i.s.p.tick/\dh i.s.p.low/\dh i.s.p.high/\dh i.s.p.wide/\dh i.s.p.rule/\dh i.s.p.top/\dh i.s.p.least/\dh i.s.p.part/\dh (ac 197 Book 6 zR i.s.books none)/\zDs i) ((0<=b/\b<(↑i.s.books.length:Int))/\b.toNat<i.s.books.length/\∃(c:Book),i.s.books[b.toNat]?=some c/\∃(d:FlI),d.id=i.id/\yA d.b=yA c/\d.b.Rep d.L/\∀(e:Unit),True->∃(f:Book),yA d.b=yA f/\dh b.toNat/\b.toNat<i.s.books.length/\∃(g:Unit),(zK i.B i.id).fst=b/\(zK i.B i.id).snd.fst.id=(fZ d.L d.id).id/\(zK i.B i.id).snd.fst.side=(fZ d.L d.id).side/\(zK i.B i.id).snd.fst.price=(fZ d.L d.id).price/\(zK i.B i.id).snd.fst.qty=(fZ d.L d.id).qty/\(zK i.B i.id).snd.fst.top=(fZ d.L d.id).top/\(zK i.B i.id).snd.snd=ao/\dh (sb i.s.p.code)/\dh i.s.p.tick/\dh i.s.p.low/\dh i.s.p.high/\dh i.s.p.wide/\dh i.s.p.rule/\dh i.s.p.top/\dh i.s.p.least/\dh i.s.p.part/\ac 197 Book 6 zR i.s.books none=ac 197 Book 6 zR (i.s.books.set b.toNat f) none/\zDs i)
def yUh (i:StI) (h:sfindC.cnd i):yGq i:=by
 obtain⟨hR,hB⟩:i.s.Rep i.p i.B/\i.B.length<=1000:=h;have hat:=hR.at_ i.id;unfold yGq aX rN zDs dI;rw[zK];cases hi:aU i.B i.id with
 |none=>
  rw[hi]at hat;exact⟨dU _ _,ap,0,.inr ⟨by rw[pB,hat];rfl,rfl,rfl⟩,Cv.cnd.mk (λ_=>⟨(),k0q⟩) (λe=>absurd e Z8)⟩
 |some k=>
  rw[hi]at hat;obtain⟨L,hL,hh⟩:=wX hi;have hk:=(y6c.1 hL).1;obtain⟨b,hb⟩:=yC (l:=i.s.books) (i:=k) (by rw[hR.bl];exact hk);have hbR:=hR.bk k b L hb hL;have hbl:=hR.bl;refine⟨dU _ _,ao,k,.inl ⟨by rw[pB,hat];rfl,rfl⟩,Cv.cnd.mk (λe=>absurd e Z8) (λ_=> ?_)⟩;dsimp only;rw[y6r,zT hL];have hs:=vM hb;refine⟨⟨oM,oM⟩,oM,b,hb,⟨b,L,i.id,0⟩,rfl,rfl,hbR,λ_ _=>⟨b,rfl,rfl,oM,(),?_⟩⟩;rw[hs]
  (repeat'(first|exact trivial|exact rfl|apply And.intro))
def zZb:sfindC.ok Tryz.prog 56:=okw mixed (gokc z0r gok0) 0 (λ_=>[]) (λ_=>[]) [0] Tryz.func56 yUh
def zSw (id:Int) (U:List Int):∀p∈zV U,like (ak ag id) p.1=ao:=by
 intro p hp;obtain⟨k,_,rfl⟩:=y7j.1 hp;rfl
def zRc (id:Int):∀U:List Int,uH (ak ag id) [D.v (.bool ao)] (zV U)=zV (zQk U id)
 |[]=>rfl
 |k::U=>by
  have ih:=zRc id U;have e:c8 (ak ag id) (ak ag k)=decide (id=k):=by simp[c8,keq]
  show(bif c8 (ak ag id) (ak ag k)then(ak ag k,[D.v (.bool ao)])::zV U else(ak ag k,[D.v (.bool ao)])::uH (ak ag id) [D.v (.bool ao)] (zV U))=_;rw[e,ih];by_cases c:id=k
  ·rw[y6p c,cond_true,zQk,y6a (by rw[c];exact y6e)];rfl
  ·rw[y6n c,cond_false,zQk,zQk];have hm:id∈k::U↔id∈U:=by simp[c]
   by_cases d:id∈U
   ·rw[y6a d,y6a (hm.2 d)];rfl
   ·rw[y5x d,y5x (λx=>d (hm.1 x))];rfl
def zRe (id:Int):∀U:List Int,kC (ak ag id) (zV U)=if id∈U then some [D.v (.bool ao)]else none
 |[]=>rfl
 |k::U=>by
  have ih:=zRe id U;have e:c8 (ak ag id) (ak ag k)=decide (id=k):=by simp[c8,keq]
  show(bif c8 (ak ag id) (ak ag k)then some [D.v (.bool ao)]else kC (ak ag id) (zV U))=_;rw[e,ih];by_cases c:id=k
  ·rw[y6p c,cond_true,y6a (by rw[c];exact y6e)]
  ·rw[y6n c,cond_false];have hm:id∈k::U↔id∈U:=by simp[c]
   by_cases d:id∈U
   ·rw[y6a d,y6a (hm.2 d)]
   ·rw[y5x d,y5x (λx=>d (hm.1 x))]
def yKx (id:Int) (U:List Int):kC (ak ag id) (zV U)=some [D.v (.bool (decide (id∈U)))]/\decide (id∈U)=ao\/kC (ak ag id) (zV U)=none/\[D.v (.bool (decide (id∈U)))]=[D.v (.bool ap)]/\decide (id∈U)=ap:=by
 rw[zRe];by_cases c:id∈U
 ·rw[y6a c,y6p c];exact .inl ⟨rfl,rfl⟩
 ·rw[y5x c,y6n c];exact .inr ⟨rfl,rfl,rfl⟩
def zWs {p:Prd} {inst:Int} {sd:Bool} {price:Int}:∀(m:Nat) (q:Int) (B:List (List zH)),q.toNat<=m->BWf p B->0<=inst/\inst<B.length->
 (∀t∈(wL p B inst sd price q).steps,SOk t/\1<=t.qty)/\((wL p B inst sd price q).steps.map (·.qty)).sum=q-(wL p B inst sd price q).left
 |m,q,B,hm,h,hi=>by
  by_cases hq:q<=0
  ·rw[eD (.inl hq)];exact⟨λt ht=>(by cases ht),by simp⟩
  cases hs:aF p B inst sd price q with
  |none=>rw[eD (.inr hs)];exact⟨λt ht=>(by cases ht),by simp⟩
  |some x=>
   obtain⟨t,C⟩:=x;obtain⟨k1,k2⟩:=zSe h hs;have hq2:=zPs oM hs;cases m with
   |zero=>omega
   |succ m=>
   obtain⟨i1,i2⟩:=zWs (p:=p) (inst:=inst) (sd:=sd) (price:=price) m (q-t.qty) C oM k1 (by rw[k2];exact hi);rw[zQc (by omega) hs];refine⟨λu hu=> ?_,?_⟩
   ·rcases y6q.1 hu with rfl|hu
    ·exact⟨yNb h hi hs,hq2.1⟩
    ·exact i1 u hu
   ·dsimp only;rw[y6m,y7n,i2];omega
def yRg {α:Type} {f:α->List Rep} (hf:∀x,(f x).length<=3):∀l:List α,(l.flatMap f).length<=3*l.length
 |[]=>y6v _
 |x::l=>by
  have:=yRg hf l;have:=hf x;rw[y7t,y5y,y6d];omega
def zSg (p:Prd) (c:Cmd) (x:jZ) (left:Int):(m3 p c x left).length<=3*x.fills.length+3:=by
 rw[m3,y5y];have:=yRg (λf=>zOr p x (zGn f)) x.fills;have:=zOr p x ⟨3,c.id,c.inst,c.side,x.price,x.qty,left,0⟩;omega
def zUb {l:List jZ} (h:∀t∈l,SOk t/\1<=t.qty):(l.length:Int)<=(l.map (·.qty)).sum:=by
 induction l with
 |nil=>exact y9i _
 |cons t l ih=>
  have:=ih λu hu=>h u (y6g _ hu)
  have:=(h t y6e).2;rw[y6m,y7n,y6d];omega
def ySz (i:EnI) (h:enterC.cnd i):yEw i:=by
 obtain⟨m,p,B,U,c,X⟩:=i;have h':(m.Rep p B U/\BOk p B)/\((0<=c.inst/\c.inst<B.length)/\(1<=c.qty/\c.qty<=1000000)/\(c.side=1\/c.side=2))/\p.price c.inst c.price=0/\X=cU p B U c:=h;clear h;obtain⟨⟨⟨ep,hR,eu⟩,hB⟩,⟨⟨h0,h1⟩,hq,hs⟩,hpz,hX⟩:=h';subst ep eu hX;have hwf:=hR.wf hB;obtain⟨k1,k2,k3⟩:=pV (inst:=c.inst) (sd:=decide (c.side=2)) (price:=c.price) _ c.qty B (y6v _) hwf;have k3:=k3 oM;obtain⟨s1,s2⟩:=zWs (inst:=c.inst) (sd:=decide (c.side=2)) (price:=c.price) _ c.qty B (y6v _) hwf ⟨h0,h1⟩;have hX:=zBd m.p B m.used c;have hbd:=lB hB.pc hpz;unfold yEw qP v7 zCg dI;dsimp only;rw[zRc,hX];refine⟨zSw _ _,⟨m.s,m.p,B,c.inst,decide (c.side=2),c.price,c.qty⟩,rfl,fB hs,rfl,rfl,rfl,⟨hR,hB,⟨h0,h1⟩,hq.1,hq.2⟩,λo ho=> ?_⟩;have er:RunI.r ⟨m.s,m.p,B,c.inst,decide (c.side=2),c.price,c.qty⟩=wL m.p B c.inst (decide (c.side=2)) c.price c.qty:=rfl;rw[er]at ho ⊢;clear hX er;generalize wL m.p B c.inst (decide (c.side=2)) c.price c.qty=R at*;obtain⟨ts,lf,RB⟩:=R;dsimp only at*;have hlen:=zUb s1;have e4:(ts.map wH).length=ts.length:=y5z ..;refine⟨⟨c.qty,0,[⟨1,c.id,c.inst,c.side,c.price,c.qty,c.qty,0⟩]⟩,rfl,rfl,rfl,λj=>j.k<=ts.length/\j.left=lf+((ts.drop j.k).map (·.qty)).sum/\(⟨1,c.id,c.inst,c.side,c.price,c.qty,c.qty,0⟩::aD m.p c ts c.qty)=j.out++aD m.p c (ts.drop j.k) j.left/\j.out.length<=1+1503*j.k,λj=>ts.length-j.k,⟨y7e _,by dsimp only;rw[y9n,s2];omega,rfl,y6v _⟩,?_⟩
 rintro⟨left,k,out⟩ ⟨j1,j2,j3,j4⟩;dsimp only at j1 j2 j3 j4 ⊢;have e5:(out.map xQ).length=out.length:=y5z ..;refine zI (λc1=> ?_) (λc1=> ?_)
 ·obtain⟨t,ht⟩:=yC (l:=ts) (i:=k) oM;have hd:ts.drop k=t::ts.drop (k+1):=by rw[y8g (by omega),(y6c.1 ht).2]
  obtain⟨⟨t1,t2,t3⟩,t4⟩:=s1 t (y6j ht);have hsd:=zUb (l:=ts.drop (k+1)) λu hu=>s1 u (y9t hu)
  have hsk:((ts.drop k).map (·.qty)).sum<=(ts.map (·.qty)).sum:=by
   have:=zUb (l:=ts.take k) λu hu=>s1 u (xAs hu)
   have e:(ts.map (·.qty)).sum=((ts.take k).map (·.qty)).sum+((ts.drop k).map (·.qty)).sum:=by
    rw[<- xCe,<- y6i,y8f]
   omega
  rw[hd,y6m,y7n]at j2 hsk;rw[hd,aD]at j3;have hrl:=zSg m.p c t (left-t.qty);have e6:((m3 m.p c t (left-t.qty)).map xQ).length=(m3 m.p c t (left-t.qty)).length:=y5z ..;have hw:ag.wrap (left-t.qty)=left-t.qty:=w64 oM;refine⟨⟨oM,oM⟩,t.price,t.qty,t.implied,t.fills.map yX,elA ht (by simp[wH]) rfl,?_⟩;rw[hw];refine⟨⟨⟨m.p,o,zQk m.used c.id⟩,c,t,left-t.qty⟩,rF8 (rF8 (rF7 (rF3 ⟨rfl,⟨⟨hB.pc,hB.ps⟩,⟨Z9,Z9⟩,Z9,hs,λf hf=>(t2 f hf).1⟩,λ_ _=>⟨by dsimp only;rw[e5,e6];omega,⟨left-t.qty,k+1,out++m3 m.p c t (left-t.qty)⟩,rfl,wjn oM,by dsimp only;rw[y6i],⟨Z9,Z9,by dsimp only;rw[j3,y6f],by dsimp only;rw[y5y];omega⟩,Z9,k0q⟩⟩)))⟩
 have hk:k=ts.length:=by omega
 subst hk;rw[List.drop_of_length_le (y6v _)]at j2 j3;rw[aD,y6w]at j3;rw[<- j3];rw[<- j3]at e5 j4;have hRB:=k1.ok;refine Cv.cnd.mk (λe=> ?_) (λe=>Cv.cnd.mk (λe2=> ?_) (λe2=> ?_))
 ·have e:lf=0:=by simpa using e
  rw[y5x (by omega),y5x (by omega),y6w];exact⟨⟨m.p,o,zQk m.used c.id⟩,rF8 (rF6 ⟨rfl,ho,rfl⟩)⟩
 ·have e:¬lf=0:=by simpa using e
  have e2:c.time=1:=by simpa using e2
  rw[y5x (show ¬(lf≠0/\c.time≠1)by omega),y6a (show lf≠0/\c.time=1 from⟨e,e2⟩),y6w];have ha:=(ho.add c.inst c.id (decide (c.side=2)) c.price lf).1;rw[fB hs]at ha;exact⟨⟨o,c.inst,c.id,decide (c.side=2),c.price,lf⟩,rfl,rfl,fB hs,rfl,rfl,rfl,ho.fit hRB,λ_ _=>⟨⟨m.p,(MSt.addF ⟨o,c.inst,c.id,decide (c.side=2),c.price,lf⟩).1,zQk m.used c.id⟩,rF8 (rF6 ⟨rfl,ha,rfl⟩)⟩⟩
 ·have e:¬lf=0:=by simpa using e
  have e2:¬c.time=1:=by simpa using e2
  rw[y6a (show lf≠0/\c.time≠1 from⟨e,e2⟩),y5x (show ¬(lf≠0/\c.time=1)by omega)];exact⟨by rw[e5];omega,⟨m.p,o,zQk m.used c.id⟩,rF8 (rF4 ⟨rfl,by rw[y6i];rfl,rfl,ho,rfl⟩)⟩
def zZh:enterC.ok Tryz.prog 168:=okw mixed (gokc z4s (gokc yIw (gokc yPi gok0))) 0 (λ_=>[]) (λi=>yXj i) [] Tryz.func168 ySz
def mfind_ok:mfindC.ok Tryz.prog 23:=okw (V:=yTv) mixed (gokc zZb gok0) 0 (λ_=>[]) (λ_=>[]) [0] Tryz.func23 λ(i:MfI) h=>by
 obtain⟨m,p,B,U,id⟩:=i;have h':m.Rep p B U/\BOk p B:=h;clear h;obtain⟨⟨ep,hR,eu⟩,hB⟩:=h';subst ep eu;have:=xL m.p;have:=hB.bl;exact⟨⟨m.s,m.p,B,id,0⟩,rfl,rfl,⟨hR,Z9⟩,λ_ _=>⟨(),k0q⟩⟩
def zSy:cancelC.ok Tryz.prog 140:=okw (V:=yNz) mixed (gokc zGb gok0) 0 (λ_=>[]) (λ_=>[]) [] Tryz.func140 λ(i:CaI) h=>by
 obtain⟨m,p,B,U,id,q,inst,o,X⟩:=i;have h':(m.Rep p B U/\BOk p B)/\X=uP B U id inst o:=h;clear h;obtain⟨⟨⟨ep,hR,eu⟩,hB⟩,hX⟩:=h';subst ep eu hX;have:=xL m.p;have:=hB.bl;exact⟨⟨m.s,m.p,B,id,o.qty⟩,rfl,rfl,rfl,⟨hR,Z9⟩,λo' ho=>⟨⟨m.p,o',m.used⟩,rF8 (rF6 ⟨rfl,ho,rfl⟩)⟩⟩
def zRi:reduceC.ok Tryz.prog 141:=okw (V:=z8c) mixed (gokc zGb gok0) 0 (λ_=>[]) (λ_=>[]) [] Tryz.func141 λ(i:CaI) h=>by
 obtain⟨m,p,B,U,id,q,inst,o,X⟩:=i;have h':(m.Rep p B U/\BOk p B)/\i64r (o.qty-q)/\X=cC B U id q inst o:=h;clear h;obtain⟨⟨⟨ep,hR,eu⟩,hB⟩,hw,hX⟩:=h';subst ep eu hX;have:=xL m.p;have:=hB.bl;have hw:=w64 hw;unfold z8c dI;dsimp only;rw[hw];exact⟨⟨m.s,m.p,B,id,q⟩,rfl,rfl,rfl,⟨hR,Z9⟩,λo' ho=>⟨⟨m.p,o',m.used⟩,rF8 (rF6 ⟨rfl,ho,rfl⟩)⟩⟩
def zRh {c:Cmd} (h:c.right=0):(if c.kind=1 then c.orderE else if c.kind≠2/\qQ c.qty=ap then 24 else if c.kind=4/\j9 c.price=ap then 23 else 0)=0:=by
 rw[Cmd.right]at h;by_cases c1:c.kind<1\/4<c.kind
 ·rw[y6a c1]at h;cases h
 rw[y5x c1]at h;by_cases c2:c.id<1\/1099511627776<c.id
 ·rw[y6a c2]at h;cases h
 rw[y5x c2]at h;exact h
def zSd {c:Cmd} (h:c.right=0) (hk:c.kind=1):(c.side=1\/c.side=2)/\(1<=c.qty/\c.qty<=1000000)/\(0<=c.least/\c.least<=c.qty):=by
 have h:=zRh h;rw[y6a hk,Cmd.orderE]at h;by_cases c1:c.side≠1/\c.side≠2
 ·rw[y6a c1]at h;cases h
 rw[y5x c1]at h;by_cases c2:c.time<1\/3<c.time
 ·rw[y6a c2]at h;cases h
 rw[y5x c2]at h;cases c3:qQ c.qty with
 |false=>rw[y6a c3]at h;cases h
 |true=>
  rw[y5x (by rw[c3];decide)]at h;by_cases c4:c.least<0\/c.qty<c.least
  ·rw[y6a c4]at h;cases h
  simp only[qQ,y6l,y7m]at c3;exact⟨oM,c3,oM⟩
def zJh {c:Cmd} (h:c.right=0) (hk:¬c.kind=1) (hk2:¬c.kind=2):1<=c.qty/\c.qty<=1000000:=by
 have h:=zRh h;rw[y5x hk]at h;cases c3:qQ c.qty with
 |false=>rw[y6a ⟨hk2,c3⟩]at h;cases h
 |true=>
  simp only[qQ,y6l,y7m]at c3;exact c3
def yYh (i:EnI) (h:orderC.cnd i):yIn i:=by
 obtain⟨m,p,B,U,c,X⟩:=i;have h':(m.Rep p B U/\BOk p B)/\c.right=0/\c.kind=1/\X=nB p B U c:=h;clear h;obtain⟨⟨hM,hB⟩,hr,hkd,hX⟩:=h';obtain⟨ep,hR,eu⟩:=hM;subst ep eu;have hM:m.Rep m.p B m.used:=⟨rfl,hR,rfl⟩
 obtain⟨hs,hq,hl⟩:=zSd hr hkd;have hbl:=hB.bl;have hcl:=xL m.p;unfold yIn qP zIu zIc rZ rB rI zDh zCi zCk zDj v7 qA dI;dsimp only;refine⟨⟨m.p,c.inst,c.price⟩,rF8 (rF4 ⟨rfl,hB.ps,λ_ _=>Cv.cnd.mk (λe=> ?_) (λe=> ?_)⟩)⟩
 ·have e:m.p.price c.inst c.price≠0:=by simpa using e
  have hx:X=⟨B,m.used,nE c (m.p.price c.inst c.price)⟩:=by rw[hX,nB,y6a e]
  exact⟨⟨c,m.p.price c.inst c.price⟩,rF6 (rF3 ⟨rfl,trivial,λ_ _=>⟨m,rF8 (rF4 ⟨rfl,by rw[hx];rfl,by rw[hx];exact hM⟩)⟩⟩)⟩
 have hpz:m.p.price c.inst c.price=0:=by simpa using e
 have hin:=zOt hpz;have hib:0<=c.inst/\c.inst<B.length:=by omega
 rw[nB,y5x (by rw[hpz];decide)]at hX;refine⟨0,λl=>l=c.lst,Cv.cnd.mk (λe=>⟨c.qty,rfl,by rw[Cmd.lst,y6a (by simpa using e)],k0q⟩) (λe=>⟨c.least,rfl,by rw[Cmd.lst,y5x (by simpa using e)],k0q⟩),?_⟩;rintro _ rfl;refine⟨zSw _ _,_,_,yKx _ _,zI (λe=> ?_) (λe=> ?_)⟩
 ·have hx:X=⟨B,m.used,nE c 25⟩:=by rw[hX,y6a e]
  exact⟨⟨c,25⟩,rF6 (rF3 ⟨rfl,trivial,λ_ _=>⟨m,rF8 (rF4 ⟨rfl,by rw[hx];rfl,by rw[hx];exact hM⟩)⟩⟩)⟩
 rw[y5x e]at hX;refine⟨⟨m.s,m.p,B,0,ap⟩,rfl,⟨hR,Z9⟩,λ_ _=>zI (λe=> ?_) (λe=> ?_)⟩
 ·have hx:X=⟨B,m.used,nE c 13⟩:=by rw[hX,y6a (by dsimp only at e;omega)]
  exact⟨⟨c,13⟩,rF6 (rF3 ⟨rfl,trivial,λ_ _=>⟨m,rF8 (rF4 ⟨rfl,by rw[hx];rfl,by rw[hx];exact hM⟩)⟩⟩)⟩
 rw[y5x (by dsimp only at e;omega)]at hX;have hok:RunI.ok ⟨m.s,m.p,B,c.inst,decide (c.side=2),c.price,c.qty⟩:=⟨hR,hB,hib,hq.1,hq.2⟩
 refine⟨ao,λb=>b=decide (0<c.lst/\c.qty-(wL m.p B c.inst (decide (c.side=2)) c.price c.qty).left<c.lst),zI (λe=>⟨⟨m.s,m.p,B,c.inst,decide (c.side=2),c.price,c.qty⟩,rfl,fB hs,rfl,rfl,rfl,hok,λ_ _=>⟨_,rfl,decide_eq_decide.2 ⟨λx=>⟨e,x⟩,λx=>x.2⟩,k0q⟩⟩) (λe=>⟨ap,rfl,(y6n λx=>e x.1).symm,k0q⟩),?_⟩;rintro _ rfl;refine zI (λe=> ?_) (λe=> ?_)
 ·have hx:X=⟨B,m.used,nE c 28⟩:=by rw[hX,y6a e]
  exact⟨⟨c,28⟩,rF6 (rF3 ⟨rfl,trivial,λ_ _=>⟨m,rF8 (rF4 ⟨rfl,by rw[hx];rfl,by rw[hx];exact hM⟩)⟩⟩)⟩
 rw[y5x e]at hX;refine⟨ao,λb=>b=decide (c.time=1/\aM m.p B c.inst (decide (c.side=2)) c.price c.qty=ao),Cv.cnd.mk (λe=>⟨⟨m.s,m.p,B,c.inst,decide (c.side=2),c.price,c.qty⟩,rfl,fB hs,rfl,rfl,rfl,hok,λ_ _=>⟨_,rfl,?_,k0q⟩⟩) (λe=>⟨ap,rfl,(y6n λx=> ?_).symm,k0q⟩),?_⟩
 ·have e:c.time=1:=by simpa using e
  dsimp only;cases hb:aM m.p B c.inst (decide (c.side=2)) c.price c.qty with
  |true=>exact(y6p ⟨e,rfl⟩).symm
  |false=>exact(y6n λx=>by cases x.2).symm
 ·rw[x.1]at e;cases e
 rintro _ rfl;refine zI (λe=> ?_) (λe=> ?_)
 ·have hx:X=⟨B,m.used,nE c 23⟩:=by rw[hX,y6a e]
  exact⟨⟨c,23⟩,rF6 (rF3 ⟨rfl,trivial,λ_ _=>⟨m,rF8 (rF4 ⟨rfl,by rw[hx];rfl,by rw[hx];exact hM⟩)⟩⟩)⟩
 rw[y5x e]at hX;exact⟨⟨m,m.p,B,m.used,c,X⟩,rF8 (rF8 (rF5 ⟨rfl,⟨⟨hM,hB⟩,⟨hib,hq,hs⟩,hpz,hX⟩,λo ho=>⟨o,rF8 (rF6 ho)⟩⟩))⟩
def yIj:orderC.ok Tryz.prog 138:=okw mixed (gokc eZ (gokc z5n (gokc z4a (gokc yCh (gokc z0v (gokc zZh gok0)))))) 0 (λ_=>yVa) (λ_=>[]) [] Tryz.func138 yYh
def zUp {p:Prd} {B:List (List zH)} (h:BWf p B) {id inst:Int} {o:zH} (hf:zK B id=(inst,o,ao)):(0<=inst/\inst<B.length)/\zNg o:=by
 rw[zK]at hf;split at hf
 ·cases hf
 ·rename_i k hk;obtain⟨L,hL,hh⟩:=wX hk;rw[zT hL]at hf;cases hf;have hlt:=(y6c.1 hL).1;obtain⟨o,ho,e⟩:=y7j.1 (hasId_iff.1 hh);have hg:=sH (h.od k L hL).2.1 ho;rw[e]at hg;rw[hg];exact⟨oM,(h.od k L hL).1 o ho⟩
def zNl (p:Prd) (c:Cmd):∀(l:List jZ) (left:Int),(∀t∈l,SOk t/\1<=t.qty)->(aD p c l left).length<=1503*l.length
 |[],_,_=>y6v _
 |t::l,left,h=>by
  have a:=zNl p c l (left-t.qty) λu hu=>h u (y6g _ hu)
  have b:=zSg p c t (left-t.qty);have d:=(h t y6e).1.2.2;rw[aD,y5y,y6d];omega
def zBy {p:Prd} {B:List (List zH)} (h:BWf p B) (U:List Int) {c:Cmd} (hi:0<=c.inst/\c.inst<B.length) (hq:1<=c.qty/\c.qty<=1000000):(cU p B U c).R.length<=1503000002:=by
 obtain⟨s1,s2⟩:=zWs (inst:=c.inst) (sd:=decide (c.side=2)) (price:=c.price) _ c.qty B (y6v _) h hi;have k3:=(pV (inst:=c.inst) (sd:=decide (c.side=2)) (price:=c.price) _ c.qty B (y6v _) h).2.2 oM;have:=zUb s1;have:=zNl p c _ c.qty s1;rw[zBd];dsimp only;rw[y5y,y6d];split
 ·rw[y6d,y7s];omega
 ·rw[y7s];omega
def yLh (i:yCa) (h:replaceC.cnd i):zYn i:=by
 obtain⟨m,p,B,U,c,inst,o,X⟩:=i;have h':m.Rep p B U/\BOk p B/\zK B c.id=(inst,o,ao)/\(1<=c.qty/\c.qty<=1000000)/\X=gC p B U c inst o:=h;clear h;obtain⟨hM,hB,hf,hq,hX⟩:=h';obtain⟨ep,hR,eu⟩:=hM;subst ep eu;have hM:m.Rep m.p B m.used:=⟨rfl,hR,rfl⟩
 have hwf:=hR.wf hB;obtain⟨hin,hoo⟩:=zUp hwf hf;have hos:=hoo.s;have hoq:=hoo.q;have hbl:=hB.bl;have hcl:=xL m.p;unfold zYn zDr qP gY rZ bC rA qA;dsimp only;refine⟨⟨m.p,inst,c.price⟩,rF8 (rF4 ⟨rfl,hB.ps,λ_ _=>Cv.cnd.mk (λe=> ?_) (λe=> ?_)⟩)⟩
 ·have e:m.p.price inst c.price≠0:=by simpa using e
  have hx:X=⟨B,m.used,nE c (m.p.price inst c.price)⟩:=by rw[hX,gC,y6a e]
  exact⟨⟨c,m.p.price inst c.price⟩,rF6 (rF3 ⟨rfl,trivial,λ_ _=>⟨m,rF8 (rF4 ⟨rfl,by rw[hx];rfl,by rw[hx];exact hM⟩)⟩⟩)⟩
 have hpz:m.p.price inst c.price=0:=by simpa using e
 rw[gC,y5x (by rw[hpz];decide)]at hX;have hw:ag.wrap (o.qty-c.qty)=o.qty-c.qty:=w64 oM;rw[hw];refine(λhT=>Cv.cnd.mk (λe1=>zI (λe2=> ?_) (λe2=>hT λx=>e2 x.2)) (λe1=>hT λx=>by rw[x.1]at e1;simp at e1)) (λ(hn:¬(c.price=o.price/\c.qty<=o.qty))=> ?_)
 ·have e1:c.price=o.price:=by simpa using e1
  rw[y6a ⟨e1,e2⟩]at hX;exact⟨⟨m,m.p,B,m.used,c.id,o.qty-c.qty,inst,o,X⟩,rF8 (rF8 (rF4 ⟨rfl,⟨⟨hM,hB⟩,⟨Z9,Z9⟩,hX⟩,λo' ho=>⟨o',rF8 (rF6 ho)⟩⟩))⟩
 rw[y5x hn]at hX;have hBt:=hB.take c.id o.qty;refine⟨m.s,rfl,hR.small hB,λ_ _=>⟨⟨m.s,m.p,B,c.id,o.qty⟩,rfl,rfl,rfl,⟨hR,Z9⟩,λo' ho'=>⟨⟨o',m.p,(qW B c.id o.qty).1,inst,decide (o.side=2),c.price,c.qty⟩,rfl,fB hos,rfl,rfl,rfl,⟨ho',hBt,by dsimp only;rw[pP];exact hin,hq.1,hq.2⟩,λ_ _=>Cv.cnd.mk (λe=> ?_) (λe=> ?_)⟩⟩⟩
 ·have hx:X=⟨B,m.used,nE c 23⟩:=by rw[hX,y6a e]
  exact⟨⟨c,23⟩,rF6 (rF3 ⟨rfl,trivial,λ_ _=>⟨m,rF8 (rF4 ⟨rfl,by rw[hx];rfl,by rw[hx];exact hM⟩)⟩⟩)⟩
 rw[y5x (by rw[e];decide)]at hX;refine⟨⟨m,m.p,B,m.used,c.id,0,inst,o,uP B m.used c.id inst o⟩,rF8 (rF8 (rF3 ⟨rfl,⟨⟨hM,hB⟩,rfl⟩,λo1 ho1=>⟨⟨o1,m.p,(qW B c.id o.qty).1,m.used,⟨1,c.id,inst,o.side,c.price,c.qty,0,1,[]⟩,cU m.p (qW B c.id o.qty).1 m.used ⟨1,c.id,inst,o.side,c.price,c.qty,0,1,[]⟩⟩,rF8 (rF8 (rF5 ⟨rfl,⟨⟨ho1,hBt⟩,⟨by dsimp only;rw[pP];exact hin,hq,hos⟩,hpz,rfl⟩,λo2 ho2=>⟨?_,o2,rfl,rfl,rfl,rfl,rfl,rfl,rfl,rfl,rfl,rfl,rfl,rfl,rfl,?_,?_⟩⟩))⟩⟩))⟩
 ·have:=zBy (hwf.take c.id o.qty) m.used (c:=⟨1,c.id,inst,o.side,c.price,c.qty,0,1,[]⟩) (by dsimp only;rw[pP];exact hin) hq;dsimp only;rw[y5z,y5z];have e1:(uP B m.used c.id inst o).R.length=1:=rfl;omega
 ·rw[hX,<- y6i];rfl
 ·rw[hX];exact ho2
def z5h:replaceC.ok Tryz.prog 139:=okw mixed (gokc eZ (gokc z5n (gokc zFk (gokc zGb (gokc z0v (gokc zSy (gokc zRi (gokc zZh gok0)))))))) 0 (λ_=>[]) (λ_=>[]) [] Tryz.func139 yLh
def vdo (i:EnI) (h:doC.cnd i):Vdo i:=by
 obtain⟨m,p,B,U,c,X⟩:=i;have h':(m.Rep p B U/\BOk p B)/\c.label.length<=140737488355328/\i64r c.qty/\X=doF p B U c:=h;clear h;obtain⟨⟨hM,hB⟩,hlb,hqr,hX⟩:=h';obtain⟨ep,hR,eu⟩:=hM;subst ep eu;have hM:m.Rep m.p B m.used:=⟨rfl,hR,rfl⟩
 have hwf:=hR.wf hB;have hbl:=hB.bl;have hcl:=xL m.p;unfold Vdo rB yIc bC z4c zVx zVt;dsimp only;refine⟨c,rF8 ⟨rfl,hlb,λ_ _=>Cv.cnd.mk (λe=> ?_) (λe=> ?_)⟩⟩
 ·have e:c.right≠0:=by simpa using e
  have hx:X=⟨B,m.used,nE c c.right⟩:=by rw[hX,doF,y6a e]
  exact⟨⟨c,c.right⟩,rF6 (rF3 ⟨rfl,trivial,λ_ _=>⟨m,rF8 (rF4 ⟨rfl,by rw[hx];rfl,by rw[hx];exact hM⟩)⟩⟩)⟩
 have hr:c.right=0:=by simpa using e
 rw[doF,y5x (by rw[hr];decide)]at hX;refine Cv.cnd.mk (λe=> ?_) (λe=> ?_)
 ·have e:c.kind=1:=by simpa using e
  rw[y6a e]at hX;exact⟨⟨m,m.p,B,m.used,c,X⟩,rF8 (rF8 (rF5 ⟨rfl,⟨⟨hM,hB⟩,hr,e,hX⟩,λo ho=>⟨o,rF8 (rF6 ho)⟩⟩))⟩
 have hk:¬c.kind=1:=by simpa using e
 rw[y5x hk]at hX;refine(λhT=>⟨hT,rfl,trivial,hT⟩) ?_;refine⟨⟨m.s,m.p,B,c.id,0⟩,rfl,rfl,⟨hR,Z9⟩,λ_ _=>Cv.cnd.mk (λe=> ?_) (λe=> ?_)⟩
 ·have e:(zK B c.id).2.2=ap:=by simpa using e
  have hx:X=⟨B,m.used,nE c 26⟩:=by rw[hX,y6a e]
  exact⟨⟨c,26⟩,rF6 (rF3 ⟨rfl,trivial,λ_ _=>⟨m,rF8 (rF4 ⟨rfl,by rw[hx];rfl,by rw[hx];exact hM⟩)⟩⟩)⟩
 have e:(zK B c.id).2.2=ao:=by simpa using e
 rw[y5x (by rw[e];decide)]at hX;dsimp only;have hf:zK B c.id=((zK B c.id).1,(zK B c.id).2.1,ao):=by rw[<- e]
 generalize (zK B c.id).1=inst at*;generalize (zK B c.id).2.1=o at*;obtain⟨hin,hoo⟩:=zUp hwf hf;have hoq:=hoo.q;refine Cv.cnd.mk (λe4=> ?_) (λe4=>Cv.cnd.mk (λe2=> ?_) (λe2=>zI (λe3=> ?_) (λe3=> ?_)))
 ·have e4:c.kind=4:=by simpa using e4
  rw[y6a e4]at hX;exact⟨⟨m,m.p,B,m.used,c,inst,o,X⟩,rF8 (rF8 (rF8 (rF3 ⟨rfl,⟨hM,hB,hf,zJh hr hk (by rw[e4];decide),hX⟩,λo' ho=>⟨o',rF8 (rF6 ho)⟩⟩)))⟩
 all_goals
  have e4:¬c.kind=4:=by simpa using e4
  rw[y5x e4]at hX
 ·have e2:c.kind=2:=by simpa using e2
  rw[y6a (.inl e2)]at hX;exact⟨⟨m,m.p,B,m.used,c.id,0,inst,o,X⟩,rF8 (rF8 (rF3 ⟨rfl,⟨⟨hM,hB⟩,hX⟩,λo' ho=>⟨o',rF8 (rF6 ho)⟩⟩))⟩
 ·rw[y6a (.inr (by omega))]at hX;exact⟨⟨m,m.p,B,m.used,c.id,0,inst,o,X⟩,rF8 (rF8 (rF3 ⟨rfl,⟨⟨hM,hB⟩,hX⟩,λo' ho=>⟨o',rF8 (rF6 ho)⟩⟩))⟩
 ·have e2:¬c.kind=2:=by simpa using e2
  have hq:=zJh hr hk e2;rw[y5x (by omega)]at hX;exact⟨⟨m,m.p,B,m.used,c.id,c.qty,inst,o,X⟩,rF8 (rF8 (rF4 ⟨rfl,⟨⟨hM,hB⟩,⟨Z9,Z9⟩,hX⟩,λo' ho=>⟨o',rF8 (rF6 ho)⟩⟩))⟩
def y0h:doC.ok Tryz.prog 98:=okw mixed (gokc zMq (gokc z5n (gokc zZb (gokc yIj (gokc z5h (gokc zSy (gokc zRi gok0))))))) 0 (λ_=>[]) (λ_=>[]) [0] Tryz.func98 vdo
end Sx
