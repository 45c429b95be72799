/- Texts of ours. No condition. -/
import Derived.Test.YtaafldgiafcgfaaGreatT10
set_option linter.all false
open Sx.AObj renaming fro->aa,cells->ab,objs->ac,map->ae,own->af
open Go.IntKind renaming i64->ag
open List renaming map->aj
open Go.Value renaming int->ak,string->am
open Bool renaming true->ao,false->ap
namespace Sx
set_option maxRecDepth 100000
open Go Cv Go.Proofs
def zCg (a:Mkt) (b:EnI) (c:EnJ):Prop:=zU a.used=hP (ak ag b.c.id) [D.v (.bool ao)] (zU b.m.used)/\aa 1 (iE a.p.months)=yL b.m 3/\aa 1 (iE a.p.settle)=yL b.m 4/\aj xU b.X.R=aj xU c.out/\a.Rep b.p b.X.B b.X.U
def v7 (a:EnI):=(D.v (am (sb a.c.label)))
def yEz (i:EnI):Prop:=
 (∀(a:Value×List D),a∈zU i.m.used->like (ak ag i.c.id) a.fst=ao)/\∃(a:RunI),a.inst=i.c.inst/\zD a.sd=i.c.side/\a.price=i.c.price/\a.q=i.c.qty/\zC a.s=yL i.m 1/\(qX a)/\∀(b:MSt),b.Rep a.p a.r.B->∃(c:EnJ),c.left=i.c.qty/\(↑c.k:Int)=0/\aj xU c.out=[[dI 1,dI i.c.id,dI i.c.inst,dI i.c.side,dI i.c.price,dI i.c.qty,dI i.c.qty,dI 0]]/\∃(d:EnJ->Prop),∃(e:EnJ->Nat),d c/\∀(f:EnJ),d f->cnd (decide ((↑f.k:Int)<(↑(aj wP a.r.steps).length:Int))) ((0<=(↑f.k:Int)/\(↑f.k:Int)<(↑(aj wP a.r.steps).length:Int))/\∃(g:Int),∃(h:Int),∃(j:Bool),∃(k:List (List D)),zE (aj wP a.r.steps) (↑f.k:Int).toNat 0 4=some [dI g,dI h,D.v (.bool j),D.ro 6 k]/\∃(l:StI'),l.c.kind=i.c.kind/\l.c.id=i.c.id/\l.c.inst=i.c.inst/\l.c.side=i.c.side/\l.c.price=i.c.price/\l.c.qty=i.c.qty/\l.c.least=i.c.least/\l.c.time=i.c.time/\sb l.c.label=sb i.c.label/\l.x.price=g/\l.x.qty=h/\l.x.implied=j/\aj yW l.x.fills=k/\l.left=ag.wrap (f.left-h)/\sb l.m.p.code=sb i.m.p.code/\l.m.p.tick=i.m.p.tick/\l.m.p.low=i.m.p.low/\l.m.p.high=i.m.p.high/\l.m.p.wide=i.m.p.wide/\l.m.p.rule=i.m.p.rule/\l.m.p.top=i.m.p.top/\l.m.p.least=i.m.p.least/\l.m.p.part=i.m.p.part/\zC l.m.s=zC b/\zU l.m.used=hP (ak ag i.c.id) [D.v (.bool ao)] (zU i.m.used)/\aa 1 (iE l.m.p.months)=yL i.m 3/\aa 1 (iE l.m.p.settle)=yL i.m 4/\((l.m.p.check=0/\l.m.p.code.length<=1099511627776/\l.m.p.months.length<=1099511627776/\l.m.p.settle.length<=1099511627776)/\((-9223372036854775808)<=l.x.price/\l.x.price<=9223372036854775807)/\l.x.fills.length<=1000000/\(l.c.side=1\/l.c.side=2)/\∀(m:bF),m∈l.x.fills->m.side=1\/m.side=2)/\∀(m:Unit),True->((aj xU f.out).length+(aj xU (nG l.m.p l.c l.x l.left)).length)*(64:Nat)<=(140737488355328:Nat)/\∃(n:EnJ),n.left=ag.wrap (f.left-h)/\(↑n.k:Int)=ag.wrap ((↑f.k:Int)+1)/\aj xU n.out=aj xU f.out++aj xU (nG l.m.p l.c l.x l.left)/\d n/\e n<e f/\zC l.m.s=zC b/\dh (af 290 4 (aj wP a.r.steps))/\dh (ab [V.d (dI i.c.kind),V.d (dI i.c.id),V.d (dI i.c.inst),V.d (dI i.c.side),V.d (dI i.c.price),V.d (dI i.c.qty),V.d (dI i.c.least),V.d (dI i.c.time),V.d (v7 i)] 44)/\ab [V.d (D.v (am (sb l.m.p.code))),V.own 3,V.d (dI l.m.p.tick),V.d (dI l.m.p.low),V.d (dI l.m.p.high),V.d (dI l.m.p.wide),V.d (dI l.m.p.rule),V.d (dI l.m.p.top),V.d (dI l.m.p.least),V.d (dI l.m.p.part),V.own 4,V.nm 1 0,V.mp 2] (114:TypeId)=yL i.m 0/\ae (zU l.m.used)=ae (hP (ak ag i.c.id) [D.v (.bool ao)] (zU i.m.used))/\aa 1 (iE l.m.p.months)=yL i.m 3/\aa 1 (iE l.m.p.settle)=yL i.m 4) (cnd (a.r.left==0) (∃(g:Mkt),sb g.p.code=sb i.m.p.code/\g.p.tick=i.m.p.tick/\g.p.low=i.m.p.low/\g.p.high=i.m.p.high/\g.p.wide=i.m.p.wide/\g.p.rule=i.m.p.rule/\g.p.top=i.m.p.top/\g.p.least=i.m.p.least/\g.p.part=i.m.p.part/\zC g.s=zC b/\zCg g i f) (cnd (i.c.time==1) (∃(g:SaI),g.inst=i.c.inst/\g.id=i.c.id/\zD g.sd=i.c.side/\g.price=i.c.price/\g.qty=a.r.left/\zC g.s=zC b/\((g.s.p.code.length<=1099511627776/\g.s.p.months.length<=1099511627776/\g.s.p.settle.length<=1099511627776)/\g.s.books.length<=1000000/\∀(h:Book),h∈g.s.books->(h.a.slots.length<=1000000/\(h.a.free≠0->∃(j:Slot),j∈h.a.slots/\j.used=ap)/\∀(j:cY),j∈h.a.queues->j.last=(-1)\/0<=j.last/\j.last<(↑h.a.slots.length:Int))/\h.a.queues.length<=100000/\h.buys.length<=100000/\h.sells.length<=100000/\h.spare.length<=100000)/\∀(h:Unit),True->∃(j:Mkt),sb j.p.code=sb i.m.p.code/\j.p.tick=i.m.p.tick/\j.p.low=i.m.p.low/\j.p.high=i.m.p.high/\j.p.wide=i.m.p.wide/\j.p.rule=i.m.p.rule/\j.p.top=i.m.p.top/\j.p.least=i.m.p.least/\j.p.part=i.m.p.part/\zC j.s=zC (MSt.addF g).fst/\zCg j i f) (((aj xU f.out).length+1)*(64:Nat)<=(140737488355328:Nat)/\∃(g:Mkt),sb g.p.code=sb i.m.p.code/\g.p.tick=i.m.p.tick/\g.p.low=i.m.p.low/\g.p.high=i.m.p.high/\g.p.wide=i.m.p.wide/\g.p.rule=i.m.p.rule/\g.p.top=i.m.p.top/\g.p.least=i.m.p.least/\g.p.part=i.m.p.part/\zC g.s=zC b/\zU g.used=hP (ak ag i.c.id) [D.v (.bool ao)] (zU i.m.used)/\aa 1 (iE g.p.months)=yL i.m 3/\aa 1 (iE g.p.settle)=yL i.m 4/\aj xU i.X.R=aj xU f.out++[[dI 4,dI i.c.id,dI i.c.inst,dI i.c.side,dI i.c.price,dI a.r.left,dI 0,dI 0]]/\g.Rep i.p i.X.B i.X.U)))
def zDh (a:EnI):Prop:=ab [V.d (dI a.c.kind),V.d (dI a.c.id),V.d (dI a.c.inst),V.d (dI a.c.side),V.d (dI a.c.price),V.d (dI a.c.qty),V.d (dI a.c.least),V.d (dI a.c.time),V.d (v7 a)] 44=ab [V.d (dI a.c.kind),V.d (dI a.c.id),V.d (dI a.c.inst),V.d (dI a.c.side),V.d (dI a.c.price),V.d (dI a.c.qty),V.d (dI a.c.least),V.d (dI a.c.time),V.d (v7 a)] 44/\dh (yL a.m 0)/\dh (yL a.m 2)/\dh (yL a.m 3)/\dh (yL a.m 4)
def zHe (a:Bool->Prop) (b:SoI) (c:EnI):Prop:=∃(d:Bool),d=ap/\a d/\dh (zC b.s)/\zDh c
def zIx (a:Int->Prop) (b:Int) (c:EnI):Prop:=a b/\dh (ab [V.d (dI c.c.kind),V.d (dI c.c.id),V.d (dI c.c.inst),V.d (dI c.c.side),V.d (dI c.c.price),V.d (dI c.c.qty),V.d (dI c.c.least),V.d (dI c.c.time),V.d (v7 c)] 44)/\dh (yL c.m 0)/\dh (yL c.m 1)/\dh (yL c.m 2)/\dh (yL c.m 3)/\dh (yL c.m 4)
def zJa (a:Bool->Prop) (b:Bool) (c:RunI) (d:SoI) (e:EnI):Prop:=a b/\zC c.s=zC d.s/\zDh e
def zEi (a:Mkt) (b:EnI) (c:RjI):Prop:=zU a.used=zU b.m.used/\aa 1 (iE a.p.months)=yL b.m 3/\aa 1 (iE a.p.settle)=yL b.m 4/\aj xU b.X.R=[xU (Rep.mk 2 c.c.id 0 0 0 0 0 c.why)]/\a.Rep b.p b.X.B b.X.U
def zDa (a:EnI) (b:RjI):Prop:=True/\∀(c:Unit),True->∃(d:Mkt),sb d.p.code=sb a.m.p.code/\d.p.tick=a.m.p.tick/\d.p.low=a.m.p.low/\d.p.high=a.m.p.high/\d.p.wide=a.m.p.wide/\d.p.rule=a.m.p.rule/\d.p.top=a.m.p.top/\d.p.least=a.m.p.least/\d.p.part=a.m.p.part/\zC d.s=yL a.m 1/\zEi d a b
def sE (a:EnI) (b:SoI) (c:RjI):Prop:=True/\∀(d:Unit),True->∃(e:Mkt),sb e.p.code=sb a.m.p.code/\e.p.tick=a.m.p.tick/\e.p.low=a.m.p.low/\e.p.high=a.m.p.high/\e.p.wide=a.m.p.wide/\e.p.rule=a.m.p.rule/\e.p.top=a.m.p.top/\e.p.least=a.m.p.least/\e.p.part=a.m.p.part/\zC e.s=zC b.s/\zEi e a c
def rG (a:EnI) (b:EnI):Prop:=∀(c:Mkt),c.Rep a.p a.X.B a.X.U->∃(d:Mkt),sb d.p.code=sb c.p.code/\d.p.tick=c.p.tick/\d.p.low=c.p.low/\d.p.high=c.p.high/\d.p.wide=c.p.wide/\d.p.rule=c.p.rule/\d.p.top=c.p.top/\d.p.least=c.p.least/\d.p.part=c.p.part/\zC d.s=zC c.s/\zU d.used=zU c.used/\aa 1 (iE d.p.months)=aa 1 (iE c.p.months)/\aa 1 (iE d.p.settle)=aa 1 (iE c.p.settle)/\aj xU b.X.R=aj xU a.X.R/\d.Rep b.p b.X.B b.X.U
def sY (a:EnI):Prop:=(a.m.Rep a.p a.B a.U/\BOk a.p a.B)/\((0<=a.c.inst/\a.c.inst<(↑a.B.length:Int))/\(1<=a.c.qty/\a.c.qty<=1000000)/\(a.c.side=1\/a.c.side=2))/\a.p.price a.c.inst a.c.price=0/\a.X=bK a.p a.B a.U a.c
def yFz (i:EnI):Prop:=
 ∃(a:tX),sb a.p.code=sb i.m.p.code/\iE a.p.months=iE i.m.p.months/\a.p.tick=i.m.p.tick/\a.p.low=i.m.p.low/\a.p.high=i.m.p.high/\a.p.wide=i.m.p.wide/\a.p.rule=i.m.p.rule/\a.p.top=i.m.p.top/\a.p.least=i.m.p.least/\a.p.part=i.m.p.part/\iE a.p.settle=iE i.m.p.settle/\a.a=i.c.inst/\a.b=i.c.price/\(qE a)/\∀(b:Unit),True->cnd (a.p.price a.a a.b !=0) (∃(c:RjI),c.c.kind=i.c.kind/\c.c.id=i.c.id/\c.c.inst=i.c.inst/\c.c.side=i.c.side/\c.c.price=i.c.price/\c.c.qty=i.c.qty/\c.c.least=i.c.least/\c.c.time=i.c.time/\sb c.c.label=sb i.c.label/\c.why=a.p.price a.a a.b/\zDa i c) (∃(c:Int),∃(d:Int->Prop),cnd (i.c.time==3) (∃(e:Int),e=i.c.qty/\zIx d e i) (∃(e:Int),e=i.c.least/\zIx d e i)/\∀(e:Int),d e->(∀(f:Value×List D),f∈zU i.m.used->like (ak ag i.c.id) f.fst=ao)/\∃(f:Bool),∃(g:Bool),(kW (ak ag i.c.id) (zU i.m.used)=some [D.v (.bool g)]/\f=ao\/kW (ak ag i.c.id) (zU i.m.used)=none/\[D.v (.bool g)]=[D.v (.bool ap)]/\f=ap)/\cnd g (∃(h:RjI),h.c.kind=i.c.kind/\h.c.id=i.c.id/\h.c.inst=i.c.inst/\h.c.side=i.c.side/\h.c.price=i.c.price/\h.c.qty=i.c.qty/\h.c.least=i.c.least/\h.c.time=i.c.time/\sb h.c.label=sb i.c.label/\h.why=25/\zDa i h) (∃(h:SoI),zC h.s=yL i.m 1/\(h.s.Rep h.p h.B/\h.B.length<=1000)/\∀(j:Unit),True->cnd (decide ((↑(zWb h.B):Int)>=250)) (∃(k:RjI),k.c.kind=i.c.kind/\k.c.id=i.c.id/\k.c.inst=i.c.inst/\k.c.side=i.c.side/\k.c.price=i.c.price/\k.c.qty=i.c.qty/\k.c.least=i.c.least/\k.c.time=i.c.time/\sb k.c.label=sb i.c.label/\k.why=13/\sE i h k) (∃(k:Bool),∃(l:Bool->Prop),cnd (decide (e>0)) (∃(m:RunI),m.inst=i.c.inst/\zD m.sd=i.c.side/\m.price=i.c.price/\m.q=i.c.qty/\zC m.s=zC h.s/\(qX m)/\∀(n:Unit),True->∃(p:Bool),p=decide (m.q-m.r.left<e)/\zJa l p m h i) (zHe l h i)/\∀(m:Bool),l m->cnd m (∃(n:RjI),n.c.kind=i.c.kind/\n.c.id=i.c.id/\n.c.inst=i.c.inst/\n.c.side=i.c.side/\n.c.price=i.c.price/\n.c.qty=i.c.qty/\n.c.least=i.c.least/\n.c.time=i.c.time/\sb n.c.label=sb i.c.label/\n.why=28/\sE i h n) (∃(n:Bool),∃(p:Bool->Prop),cnd (i.c.time==1) (∃(q:RunI),q.inst=i.c.inst/\zD q.sd=i.c.side/\q.price=i.c.price/\q.q=i.c.qty/\zC q.s=zC h.s/\(qX q)/\∀(r:Unit),True->∃(s:Bool),s=aZ q.p q.B q.inst q.sd q.price q.q/\zJa p s q h i) (zHe p h i)/\∀(q:Bool),p q->cnd q (∃(r:RjI),r.c.kind=i.c.kind/\r.c.id=i.c.id/\r.c.inst=i.c.inst/\r.c.side=i.c.side/\r.c.price=i.c.price/\r.c.qty=i.c.qty/\r.c.least=i.c.least/\r.c.time=i.c.time/\sb r.c.label=sb i.c.label/\r.why=23/\sE i h r) (∃(r:EnI),r.c.kind=i.c.kind/\r.c.id=i.c.id/\r.c.inst=i.c.inst/\r.c.side=i.c.side/\r.c.price=i.c.price/\r.c.qty=i.c.qty/\r.c.least=i.c.least/\r.c.time=i.c.time/\sb r.c.label=sb i.c.label/\sb r.m.p.code=sb i.m.p.code/\r.m.p.tick=i.m.p.tick/\r.m.p.low=i.m.p.low/\r.m.p.high=i.m.p.high/\r.m.p.wide=i.m.p.wide/\r.m.p.rule=i.m.p.rule/\r.m.p.top=i.m.p.top/\r.m.p.least=i.m.p.least/\r.m.p.part=i.m.p.part/\zC r.m.s=zC h.s/\zU r.m.used=zU i.m.used/\aa 1 (iE r.m.p.months)=yL i.m 3/\aa 1 (iE r.m.p.settle)=yL i.m 4/\(sY r)/\rG r i)))))
def yOm (i:CaI):Prop:=
 ∃(i_1:StI),i_1.id=i.id/\i_1.q=i.o.qty/\zC i_1.s=yL i.m 1/\(i_1.s.Rep i_1.p i_1.B/\i_1.B.length<=1000)/\∀(o:MSt),o.Rep i_1.p (kU i_1.B i_1.id i_1.q).fst->∃(o_1:Mkt),sb o_1.p.code=sb i.m.p.code/\o_1.p.tick=i.m.p.tick/\o_1.p.low=i.m.p.low/\o_1.p.high=i.m.p.high/\o_1.p.wide=i.m.p.wide/\o_1.p.rule=i.m.p.rule/\o_1.p.top=i.m.p.top/\o_1.p.least=i.m.p.least/\o_1.p.part=i.m.p.part/\zC o_1.s=zC o/\zU o_1.used=zU i.m.used/\aa 1 (iE o_1.p.months)=yL i.m 3/\aa 1 (iE o_1.p.settle)=yL i.m 4/\aj xU i.X.R=[[D.v (.int .i64 4),D.v (.int .i64 i.id),D.v (.int .i64 i.inst),D.v (.int .i64 i.o.side),D.v (.int .i64 i.o.price),D.v (.int .i64 i.o.qty),D.v (.int .i64 0),D.v (.int .i64 0)]]/\o_1.Rep i.p i.X.B i.X.U
def z8q (i:CaI):Prop:=
 ∃(a:StI),a.id=i.id/\a.q=i.q/\zC a.s=yL i.m 1/\(a.s.Rep a.p a.B/\a.B.length<=1000)/\∀(b:MSt),b.Rep a.p (kU a.B a.id a.q).fst->∃(c:Mkt),sb c.p.code=sb i.m.p.code/\c.p.tick=i.m.p.tick/\c.p.low=i.m.p.low/\c.p.high=i.m.p.high/\c.p.wide=i.m.p.wide/\c.p.rule=i.m.p.rule/\c.p.top=i.m.p.top/\c.p.least=i.m.p.least/\c.p.part=i.m.p.part/\zC c.s=zC b/\zU c.used=zU i.m.used/\aa 1 (iE c.p.months)=yL i.m 3/\aa 1 (iE c.p.settle)=yL i.m 4/\aj xU i.X.R=[[dI 5,dI i.id,dI i.inst,dI i.o.side,dI i.o.price,dI i.q,dI (ag.wrap (i.o.qty-i.q)),dI 0]]/\c.Rep i.p i.X.B i.X.U
def sZ (a:Mkt) (b:yDb) (c:RjI):Prop:=zU a.used=zU b.m.used/\aa 1 (iE a.p.months)=yL b.m 3/\aa 1 (iE a.p.settle)=yL b.m 4/\aj xU b.X.R=[xU (Rep.mk 2 c.c.id 0 0 0 0 0 c.why)]/\a.Rep b.p b.X.B b.X.U
def zEb (a:yDb):Prop:=∃(b:MSt),zC b=yL a.m 1/\(fN b)/\∀(c:Unit),True->∃(d:StI),d.id=a.c.id/\d.q=a.o.qty/\zC d.s=zC b/\(d.s.Rep d.p d.B/\d.B.length<=1000)/\∀(e:MSt),e.Rep d.p (kU d.B d.id d.q).fst->∃(f:RunI),f.inst=a.inst/\zD f.sd=a.o.side/\f.price=a.c.price/\f.q=a.c.qty/\zC f.s=zC e/\(qX f)/\∀(g:Unit),True->cnd (aZ f.p f.B f.inst f.sd f.price f.q) (∃(h:RjI),h.c.kind=a.c.kind/\h.c.id=a.c.id/\h.c.inst=a.c.inst/\h.c.side=a.c.side/\h.c.price=a.c.price/\h.c.qty=a.c.qty/\h.c.least=a.c.least/\h.c.time=a.c.time/\sb h.c.label=sb a.c.label/\h.why=23/\True/\∀(j:Unit),True->∃(k:Mkt),sb k.p.code=sb a.m.p.code/\k.p.tick=a.m.p.tick/\k.p.low=a.m.p.low/\k.p.high=a.m.p.high/\k.p.wide=a.m.p.wide/\k.p.rule=a.m.p.rule/\k.p.top=a.m.p.top/\k.p.least=a.m.p.least/\k.p.part=a.m.p.part/\zC k.s=zC b/\sZ k a h) (∃(h:CaI),h.id=a.c.id/\h.inst=a.inst/\h.o.id=a.o.id/\h.o.side=a.o.side/\h.o.price=a.o.price/\h.o.qty=a.o.qty/\h.o.top=a.o.top/\sb h.m.p.code=sb a.m.p.code/\h.m.p.tick=a.m.p.tick/\h.m.p.low=a.m.p.low/\h.m.p.high=a.m.p.high/\h.m.p.wide=a.m.p.wide/\h.m.p.rule=a.m.p.rule/\h.m.p.top=a.m.p.top/\h.m.p.least=a.m.p.least/\h.m.p.part=a.m.p.part/\zC h.m.s=zC b/\zU h.m.used=zU a.m.used/\aa 1 (iE h.m.p.months)=yL a.m 3/\aa 1 (iE h.m.p.settle)=yL a.m 4/\((h.m.Rep h.p h.B h.U/\BOk h.p h.B)/\h.X=uR h.B h.U h.id h.inst h.o)/\∀(j:Mkt),j.Rep h.p h.X.B h.X.U->∃(k:EnI),k.c.kind=1/\k.c.id=a.c.id/\k.c.inst=a.inst/\k.c.side=a.o.side/\k.c.price=a.c.price/\k.c.qty=a.c.qty/\k.c.least=0/\k.c.time=1/\sb k.c.label=ByteArray.mk #[]/\sb k.m.p.code=sb j.p.code/\k.m.p.tick=j.p.tick/\k.m.p.low=j.p.low/\k.m.p.high=j.p.high/\k.m.p.wide=j.p.wide/\k.m.p.rule=j.p.rule/\k.m.p.top=j.p.top/\k.m.p.least=j.p.least/\k.m.p.part=j.p.part/\zC k.m.s=zC j.s/\zU k.m.used=zU j.used/\aa 1 (iE k.m.p.months)=aa 1 (iE j.p.months)/\aa 1 (iE k.m.p.settle)=aa 1 (iE j.p.settle)/\(sY k)/\∀(l:Mkt),l.Rep k.p k.X.B k.X.U->((aj xU h.X.R).length+(aj xU k.X.R).length)*(64:Nat)<=(140737488355328:Nat)/\∃(m:Mkt),sb m.p.code=sb l.p.code/\m.p.tick=l.p.tick/\m.p.low=l.p.low/\m.p.high=l.p.high/\m.p.wide=l.p.wide/\m.p.rule=l.p.rule/\m.p.top=l.p.top/\m.p.least=l.p.least/\m.p.part=l.p.part/\zC m.s=zC l.s/\zU m.used=zU l.used/\aa 1 (iE m.p.months)=aa 1 (iE l.p.months)/\aa 1 (iE m.p.settle)=aa 1 (iE l.p.settle)/\aj xU a.X.R=aj xU h.X.R++aj xU k.X.R/\m.Rep a.p a.X.B a.X.U)
def bV (a:CaI):Prop:=(a.m.Rep a.p a.B a.U/\BOk a.p a.B)/\((-9223372036854775808)<=a.o.qty-a.q/\a.o.qty-a.q<=9223372036854775807)/\a.X=bN a.B a.U a.id a.q a.inst a.o
def zZg (i:yDb):Prop:=
 ∃(a:tX),sb a.p.code=sb i.m.p.code/\iE a.p.months=iE i.m.p.months/\a.p.tick=i.m.p.tick/\a.p.low=i.m.p.low/\a.p.high=i.m.p.high/\a.p.wide=i.m.p.wide/\a.p.rule=i.m.p.rule/\a.p.top=i.m.p.top/\a.p.least=i.m.p.least/\a.p.part=i.m.p.part/\iE a.p.settle=iE i.m.p.settle/\a.a=i.inst/\a.b=i.c.price/\(qE a)/\∀(b:Unit),True->cnd (a.p.price a.a a.b !=0) (∃(c:RjI),c.c.kind=i.c.kind/\c.c.id=i.c.id/\c.c.inst=i.c.inst/\c.c.side=i.c.side/\c.c.price=i.c.price/\c.c.qty=i.c.qty/\c.c.least=i.c.least/\c.c.time=i.c.time/\sb c.c.label=sb i.c.label/\c.why=a.p.price a.a a.b/\True/\∀(d:Unit),True->∃(e:Mkt),sb e.p.code=sb i.m.p.code/\e.p.tick=i.m.p.tick/\e.p.low=i.m.p.low/\e.p.high=i.m.p.high/\e.p.wide=i.m.p.wide/\e.p.rule=i.m.p.rule/\e.p.top=i.m.p.top/\e.p.least=i.m.p.least/\e.p.part=i.m.p.part/\zC e.s=yL i.m 1/\sZ e i c) (cnd (i.c.price==i.o.price) (cnd (decide (i.c.qty<=i.o.qty)) (∃(c:CaI),c.id=i.c.id/\c.q=ag.wrap (i.o.qty-i.c.qty)/\c.inst=i.inst/\c.o.id=i.o.id/\c.o.side=i.o.side/\c.o.price=i.o.price/\c.o.qty=i.o.qty/\c.o.top=i.o.top/\sb c.m.p.code=sb i.m.p.code/\c.m.p.tick=i.m.p.tick/\c.m.p.low=i.m.p.low/\c.m.p.high=i.m.p.high/\c.m.p.wide=i.m.p.wide/\c.m.p.rule=i.m.p.rule/\c.m.p.top=i.m.p.top/\c.m.p.least=i.m.p.least/\c.m.p.part=i.m.p.part/\zC c.m.s=yL i.m 1/\zU c.m.used=zU i.m.used/\aa 1 (iE c.m.p.months)=yL i.m 3/\aa 1 (iE c.m.p.settle)=yL i.m 4/\(bV c)/\∀(d:Mkt),d.Rep c.p c.X.B c.X.U->∃(e:Mkt),sb e.p.code=sb d.p.code/\e.p.tick=d.p.tick/\e.p.low=d.p.low/\e.p.high=d.p.high/\e.p.wide=d.p.wide/\e.p.rule=d.p.rule/\e.p.top=d.p.top/\e.p.least=d.p.least/\e.p.part=d.p.part/\zC e.s=zC d.s/\zU e.used=zU d.used/\aa 1 (iE e.p.months)=aa 1 (iE d.p.months)/\aa 1 (iE e.p.settle)=aa 1 (iE d.p.settle)/\aj xU i.X.R=aj xU c.X.R/\e.Rep i.p i.X.B i.X.U) (zEb i)) (zEb i))
def zWy (a:CaI) (b:EnI):Prop:=∀(c:Mkt),c.Rep a.p a.X.B a.X.U->∃(d:Mkt),sb d.p.code=sb c.p.code/\d.p.tick=c.p.tick/\d.p.low=c.p.low/\d.p.high=c.p.high/\d.p.wide=c.p.wide/\d.p.rule=c.p.rule/\d.p.top=c.p.top/\d.p.least=c.p.least/\d.p.part=c.p.part/\zC d.s=zC c.s/\zU d.used=zU c.used/\aa 1 (iE d.p.months)=aa 1 (iE c.p.months)/\aa 1 (iE d.p.settle)=aa 1 (iE c.p.settle)/\aj xU b.X.R=aj xU a.X.R/\d.Rep b.p b.X.B b.X.U
def zVo (a:Mkt) (b:EnI) (c:RjI):Prop:=zU a.used=zU b.m.used/\aa 1 (iE a.p.months)=aa 1 (iE b.m.p.months)/\aa 1 (iE a.p.settle)=aa 1 (iE b.m.p.settle)/\aj xU b.X.R=[xU (Rep.mk 2 c.c.id 0 0 0 0 0 c.why)]/\a.Rep b.p b.X.B b.X.U
def z4p (a:EnI) (b:StI):Prop:=∃(c:CaI),c.id=a.c.id/\c.inst=(zR b.B b.id).fst/\c.o.id=(zR b.B b.id).snd.fst.id/\c.o.side=(zR b.B b.id).snd.fst.side/\c.o.price=(zR b.B b.id).snd.fst.price/\c.o.qty=(zR b.B b.id).snd.fst.qty/\c.o.top=(zR b.B b.id).snd.fst.top/\sb c.m.p.code=sb a.m.p.code/\c.m.p.tick=a.m.p.tick/\c.m.p.low=a.m.p.low/\c.m.p.high=a.m.p.high/\c.m.p.wide=a.m.p.wide/\c.m.p.rule=a.m.p.rule/\c.m.p.top=a.m.p.top/\c.m.p.least=a.m.p.least/\c.m.p.part=a.m.p.part/\zC c.m.s=zC b.s/\zU c.m.used=zU a.m.used/\aa 1 (iE c.m.p.months)=aa 1 (iE a.m.p.months)/\aa 1 (iE c.m.p.settle)=aa 1 (iE a.m.p.settle)/\((c.m.Rep c.p c.B c.U/\BOk c.p c.B)/\c.X=uR c.B c.U c.id c.inst c.o)/\zWy c a
def yKo (a:EnI):Prop:=∃(b:StI),b.id=a.c.id/\zC b.s=zC a.m.s/\(b.s.Rep b.p b.B/\b.B.length<=1000)/\∀(c:Unit),True->cnd (!(zR b.B b.id).snd.snd) (∃(d:RjI),d.c.kind=a.c.kind/\d.c.id=a.c.id/\d.c.inst=a.c.inst/\d.c.side=a.c.side/\d.c.price=a.c.price/\d.c.qty=a.c.qty/\d.c.least=a.c.least/\d.c.time=a.c.time/\sb d.c.label=sb a.c.label/\d.why=26/\True/\∀(e:Unit),True->∃(f:Mkt),sb f.p.code=sb a.m.p.code/\f.p.tick=a.m.p.tick/\f.p.low=a.m.p.low/\f.p.high=a.m.p.high/\f.p.wide=a.m.p.wide/\f.p.rule=a.m.p.rule/\f.p.top=a.m.p.top/\f.p.least=a.m.p.least/\f.p.part=a.m.p.part/\zC f.s=zC b.s/\zVo f a d) (cnd (a.c.kind==4) (∃(d:yDb),d.c.kind=a.c.kind/\d.c.id=a.c.id/\d.c.inst=a.c.inst/\d.c.side=a.c.side/\d.c.price=a.c.price/\d.c.qty=a.c.qty/\d.c.least=a.c.least/\d.c.time=a.c.time/\sb d.c.label=sb a.c.label/\d.inst=(zR b.B b.id).fst/\d.o.id=(zR b.B b.id).snd.fst.id/\d.o.side=(zR b.B b.id).snd.fst.side/\d.o.price=(zR b.B b.id).snd.fst.price/\d.o.qty=(zR b.B b.id).snd.fst.qty/\d.o.top=(zR b.B b.id).snd.fst.top/\sb d.m.p.code=sb a.m.p.code/\d.m.p.tick=a.m.p.tick/\d.m.p.low=a.m.p.low/\d.m.p.high=a.m.p.high/\d.m.p.wide=a.m.p.wide/\d.m.p.rule=a.m.p.rule/\d.m.p.top=a.m.p.top/\d.m.p.least=a.m.p.least/\d.m.p.part=a.m.p.part/\zC d.m.s=zC b.s/\zU d.m.used=zU a.m.used/\aa 1 (iE d.m.p.months)=aa 1 (iE a.m.p.months)/\aa 1 (iE d.m.p.settle)=aa 1 (iE a.m.p.settle)/\(d.m.Rep d.p d.B d.U/\BOk d.p d.B/\zR d.B d.c.id=(d.inst,d.o,ao)/\(1<=d.c.qty/\d.c.qty<=1000000)/\d.X=dD d.p d.B d.U d.c d.inst d.o)/\∀(e:Mkt),e.Rep d.p d.X.B d.X.U->∃(f:Mkt),sb f.p.code=sb e.p.code/\f.p.tick=e.p.tick/\f.p.low=e.p.low/\f.p.high=e.p.high/\f.p.wide=e.p.wide/\f.p.rule=e.p.rule/\f.p.top=e.p.top/\f.p.least=e.p.least/\f.p.part=e.p.part/\zC f.s=zC e.s/\zU f.used=zU e.used/\aa 1 (iE f.p.months)=aa 1 (iE e.p.months)/\aa 1 (iE f.p.settle)=aa 1 (iE e.p.settle)/\aj xU a.X.R=aj xU d.X.R/\f.Rep a.p a.X.B a.X.U) (cnd (a.c.kind==2) (z4p a b) (cnd (decide (a.c.qty>=(zR b.B b.id).snd.fst.qty)) (z4p a b) (∃(d:CaI),d.id=a.c.id/\d.q=a.c.qty/\d.inst=(zR b.B b.id).fst/\d.o.id=(zR b.B b.id).snd.fst.id/\d.o.side=(zR b.B b.id).snd.fst.side/\d.o.price=(zR b.B b.id).snd.fst.price/\d.o.qty=(zR b.B b.id).snd.fst.qty/\d.o.top=(zR b.B b.id).snd.fst.top/\sb d.m.p.code=sb a.m.p.code/\d.m.p.tick=a.m.p.tick/\d.m.p.low=a.m.p.low/\d.m.p.high=a.m.p.high/\d.m.p.wide=a.m.p.wide/\d.m.p.rule=a.m.p.rule/\d.m.p.top=a.m.p.top/\d.m.p.least=a.m.p.least/\d.m.p.part=a.m.p.part/\zC d.m.s=zC b.s/\zU d.m.used=zU a.m.used/\aa 1 (iE d.m.p.months)=aa 1 (iE a.m.p.months)/\aa 1 (iE d.m.p.settle)=aa 1 (iE a.m.p.settle)/\(bV d)/\zWy d a))))
def Vdo (i:EnI):Prop:=
 ∃(a:Cmd),a.kind=i.c.kind/\a.id=i.c.id/\a.inst=i.c.inst/\a.side=i.c.side/\a.price=i.c.price/\a.qty=i.c.qty/\a.least=i.c.least/\a.time=i.c.time/\sb a.label=sb i.c.label/\a.label.length<=140737488355328/\∀(b:Unit),True->cnd (a.right !=0) (∃(c:RjI),c.c.kind=i.c.kind/\c.c.id=i.c.id/\c.c.inst=i.c.inst/\c.c.side=i.c.side/\c.c.price=i.c.price/\c.c.qty=i.c.qty/\c.c.least=i.c.least/\c.c.time=i.c.time/\sb c.c.label=sb i.c.label/\c.why=a.right/\True/\∀(d:Unit),True->∃(e:Mkt),sb e.p.code=sb i.m.p.code/\e.p.tick=i.m.p.tick/\e.p.low=i.m.p.low/\e.p.high=i.m.p.high/\e.p.wide=i.m.p.wide/\e.p.rule=i.m.p.rule/\e.p.top=i.m.p.top/\e.p.least=i.m.p.least/\e.p.part=i.m.p.part/\zC e.s=zC i.m.s/\zVo e i c) (cnd (i.c.kind==1) (∃(c:EnI),c.c.kind=i.c.kind/\c.c.id=i.c.id/\c.c.inst=i.c.inst/\c.c.side=i.c.side/\c.c.price=i.c.price/\c.c.qty=i.c.qty/\c.c.least=i.c.least/\c.c.time=i.c.time/\sb c.c.label=sb i.c.label/\sb c.m.p.code=sb i.m.p.code/\c.m.p.tick=i.m.p.tick/\c.m.p.low=i.m.p.low/\c.m.p.high=i.m.p.high/\c.m.p.wide=i.m.p.wide/\c.m.p.rule=i.m.p.rule/\c.m.p.top=i.m.p.top/\c.m.p.least=i.m.p.least/\c.m.p.part=i.m.p.part/\zC c.m.s=zC i.m.s/\zU c.m.used=zU i.m.used/\aa 1 (iE c.m.p.months)=aa 1 (iE i.m.p.months)/\aa 1 (iE c.m.p.settle)=aa 1 (iE i.m.p.settle)/\((c.m.Rep c.p c.B c.U/\BOk c.p c.B)/\c.c.right=0/\c.c.kind=1/\c.X=nJ c.p c.B c.U c.c)/\rG c i) ((yKo i)/\dh i.c.id/\True/\yKo i))
def yWw (i:MfI):Prop:=
 ∃(i_1:StI),i_1.id=i.id/\zC i_1.s=zC i.m.s/\(i_1.s.Rep i_1.p i_1.B/\i_1.B.length<=1000)/\∀(o:Unit),True->∃(o:Unit),(zR i.B i.id).fst=(zR i_1.B i_1.id).fst/\(zR i.B i.id).snd.fst.id=(zR i_1.B i_1.id).snd.fst.id/\(zR i.B i.id).snd.fst.side=(zR i_1.B i_1.id).snd.fst.side/\(zR i.B i.id).snd.fst.price=(zR i_1.B i_1.id).snd.fst.price/\(zR i.B i.id).snd.fst.qty=(zR i_1.B i_1.id).snd.fst.qty/\(zR i.B i.id).snd.fst.top=(zR i_1.B i_1.id).snd.fst.top/\(zR i.B i.id).snd.snd=(zR i_1.B i_1.id).snd.snd/\dh (sb i.m.p.code)/\dh i.m.p.tick/\dh i.m.p.low/\dh i.m.p.high/\dh i.m.p.wide/\dh i.m.p.rule/\dh i.m.p.top/\dh i.m.p.least/\dh i.m.p.part/\zC i.m.s=zC i_1.s/\dh (zU i.m.used)/\dh (aa 1 (iE i.m.p.months))/\dh (aa 1 (iE i.m.p.settle))/\True
def zAb (p:Prd) (B:List (List zH)) (U:List Int) (c:Cmd):bK p B U c=⟨if(wR p B c.inst (decide (c.side=2)) c.price c.qty).left≠0/\c.time=1 then(z3z p (wR p B c.inst (decide (c.side=2)) c.price c.qty).B c.inst c.id c.side c.price (wR p B c.inst (decide (c.side=2)) c.price c.qty).left).1 else(wR p B c.inst (decide (c.side=2)) c.price c.qty).B,zRp U c.id,
 (⟨1,c.id,c.inst,c.side,c.price,c.qty,c.qty,0⟩::mK p c (wR p B c.inst (decide (c.side=2)) c.price c.qty).steps c.qty)++if(wR p B c.inst (decide (c.side=2)) c.price c.qty).left≠0/\c.time≠1 then[⟨4,c.id,c.inst,c.side,c.price,(wR p B c.inst (decide (c.side=2)) c.price c.qty).left,0,0⟩]else[]⟩:=by
 rw[bK]
def zSr {p:Prd} {B:List (List zH)} (h:BWf p B) (U:List Int) (c:Cmd):BOk p (bK p B U c).B:=by
 have:=(pG (inst:=c.inst) (sd:=decide (c.side=2)) (price:=c.price) _ c.qty B (y8w _) h).1.ok;rw[zAb];dsimp only;split
 ·exact this.add _ _ _ _ _
 ·exact this
def yEd {p:Prd} {B:List (List zH)} (h:BWf p B) (U:List Int) (c:Cmd):BOk p (nJ p B U c).B:=by
 rw[nJ];split
 ·exact h.ok
 split
 ·exact h.ok
 split
 ·exact h.ok
 split
 ·exact h.ok
 split
 ·exact h.ok
 exact zSr h U c
def yYw {p:Prd} {B:List (List zH)} (h:BWf p B) (U:List Int) (c:Cmd):BOk p (doF p B U c).B:=by
 rw[doF];split
 ·exact h.ok
 split
 ·exact yEd h U c
 split
 ·exact h.ok
 split
 ·rw[dD];split
  ·exact h.ok
  split
  ·exact h.ok.take _ _
  split
  ·exact h.ok
  exact zSr (h.take _ _) U _
 split
 ·exact h.ok.take _ _
 ·exact h.ok.take _ _
def Two (L:List zH):Prop:=L=eG L 1++eG L 2
def eT {inst s:Int} {f:bF}:∀{os:List zH} {sh:List Int},f∈x6 inst s os sh->f.side=s/\f.inst=inst/\∃o∈os,f.price=o.price
 |[],sh,h=>by cases h
 |o::os,[],h=>by cases h
 |o::os,k::sh,h=>by
  rw[x6]at h;split at h
  ·rcases y8v.1 h with rfl|h
   ·exact⟨rfl,rfl,o,y8h,rfl⟩
   ·obtain⟨a,b,o',c,d⟩:=eT h;exact⟨a,b,o',y8i _ c,d⟩
  ·obtain⟨a,b,o',c,d⟩:=eT h;exact⟨a,b,o',y8i _ c,d⟩
def FOk (f:bF):Prop:=(f.side=1\/f.side=2)/\-2000000<=f.price/\f.price<=2000000
def zKc {p:Prd} {B:List (List zH)} (h:BOk p B) (inst:Int) {s:Int} (hs:s=1\/s=2) (q:Int):∀f∈kC p B inst s q,FOk f:=by
 intro f hf;obtain⟨a,_,o,ho,e⟩:=eT hf;refine⟨by rw[a];exact hs,?_⟩;rw[e];have ho:=(xAa.1 ho).1;by_cases hk:inst.toNat<B.length
 ·obtain⟨L,hL⟩:=yC hk;rw[zW hL]at ho;exact h.prices hL o ho
 ·rw[y8j,y9h (by omega)]at ho;cases ho
def SOk (t:wA):Prop:=(-2000000<=t.price/\t.price<=2000000)/\(∀f∈t.fills,FOk f)/\t.fills.length<=500
def yPx {p:Prd} {B:List (List zH)} (h:BWf p B) {inst:Int} (hi:0<=inst/\inst<B.length) {s:Int} (hs:s=1\/s=2) (hn:(yU p B inst s).2.2=ao): -2000000<=(yU p B inst s).1.price/\(yU p B inst s).1.price<=2000000:=by
 rw[yU]at hn ⊢;obtain⟨L,hL⟩:=yC (l:=B) (i:=inst.toNat) oM;rw[zW hL]at hn ⊢;split
 ·exact zUy (h.ok.prices hL)
 ·rename_i c;rw[y7z c]at hn;have hm:=zHw hn;have:=(xAa.1 hm).2;exact lY h.ok.pc (y9i this)
def yNl {p:Prd} {B:List (List zH)} (h:BWf p B) {inst:Int} (hi:0<=inst/\inst<B.length) {sd:Bool} {price q:Int} {t:wA} {B':List (List zH)} (e:mR p B inst sd price q=some (t,B')):SOk t:=by
 have hs:zD (!sd)=1\/zD (!sd)=2:=zGd _;have hb:=yPx h hi hs;have hin:=z8d h.ok h.od hi hs;rw[mR]at e;dsimp only at e;split at e
 ·rename_i c;have c1:(yU p B inst (zD (!sd))).2.2=ao:=by
   cases hx:(yU p B inst (zD (!sd))).2.2 with
   |false=>rw[hx]at c;cases c
   |true=>rfl
  have hb:=hb c1;obtain⟨_,hin,_⟩:=hin c1;split at e
  ·rename_i c2;obtain⟨_,ok⟩:=hin c2;cases e;refine⟨hb,λf hf=> ?_,?_⟩
   ·rcases y9f.1 hf with hf|hf
    ·exact zKc h.ok _ ok.sa _ f hf
    ·exact zKc h.ok.takes _ ok.sb _ f hf
   ·dsimp only;rw[y8a];have:=nT (p:=p) h.od (yU p B inst (zD (!sd))).1.a.inst (yU p B inst (zD (!sd))).1.a.side (min q (yU p B inst (zD (!sd))).1.qty);have:=nT (p:=p) (h.takes (fs:=kC p B (yU p B inst (zD (!sd))).1.a.inst (yU p B inst (zD (!sd))).1.a.side (min q (yU p B inst (zD (!sd))).1.qty))).od (yU p B inst (zD (!sd))).1.b.inst (yU p B inst (zD (!sd))).1.b.side (min q (yU p B inst (zD (!sd))).1.qty);omega
  ·cases e;refine⟨hb,λf hf=>zKc h.ok _ hs _ f hf,?_⟩;have:=nT (p:=p) h.od inst (zD (!sd)) (min q (yU p B inst (zD (!sd))).1.qty);dsimp only;omega
 ·cases e
def zDk (a:StI):Prop:=yR a.s.wh=yR a.s.wh/\dh (aa 1 (iE a.s.p.months))/\dh (aa 1 (iE a.s.p.settle))/\True
def yHx (i:StI):Prop:=
 (mV i)/\∃(a:Bool),∃(b:Int),(sN i b a)/\cnd (!a) (∃(c:Unit),(zR i.B i.id).fst=0/\(zR i.B i.id).snd.fst.id=0/\(zR i.B i.id).snd.fst.side=0/\(zR i.B i.id).snd.fst.price=0/\(zR i.B i.id).snd.fst.qty=0/\(zR i.B i.id).snd.fst.top=ap/\(zR i.B i.id).snd.snd=ap/\dh (sb i.s.p.code)/\dh i.s.p.tick/\dh i.s.p.low/\dh i.s.p.high/\dh i.s.p.wide/\dh i.s.p.rule/\dh i.s.p.top/\dh i.s.p.least/\dh i.s.p.part/\dh (ac 197 Book 6 zQ i.s.books none)/\zDk i) ((0<=b/\b<(↑i.s.books.length:Int))/\b.toNat<i.s.books.length/\∃(c:Book),i.s.books[b.toNat]?=some c/\∃(d:FlI),d.id=i.id/\yB d.b=yB c/\d.b.Rep d.L/\∀(e:Unit),True->∃(f:Book),yB d.b=yB f/\dh b.toNat/\b.toNat<i.s.books.length/\∃(g:Unit),(zR i.B i.id).fst=b/\(zR i.B i.id).snd.fst.id=(cA d.L d.id).id/\(zR i.B i.id).snd.fst.side=(cA d.L d.id).side/\(zR i.B i.id).snd.fst.price=(cA d.L d.id).price/\(zR i.B i.id).snd.fst.qty=(cA d.L d.id).qty/\(zR i.B i.id).snd.fst.top=(cA d.L d.id).top/\(zR i.B i.id).snd.snd=ao/\dh (sb i.s.p.code)/\dh i.s.p.tick/\dh i.s.p.low/\dh i.s.p.high/\dh i.s.p.wide/\dh i.s.p.rule/\dh i.s.p.top/\dh i.s.p.least/\dh i.s.p.part/\ac 197 Book 6 zQ i.s.books none=ac 197 Book 6 zQ (i.s.books.set b.toNat f) none/\zDk i)
def y0c (i:StI) (h:sfindC.cnd i):yHx i:=by
 obtain⟨hR,hB⟩:i.s.Rep i.p i.B/\i.B.length<=1000:=h;have hat:=hR.at_ i.id;unfold yHx mV sN zDk dI;rw[zR];cases hi:mC i.B i.id with
 |none=>
  rw[hi]at hat;exact⟨cM _ _,ap,0,.inr ⟨by rw[pA,hat];rfl,rfl,rfl⟩,Cv.cnd.mk (λ_=>⟨(),k0q⟩) (λe=>absurd e Z8)⟩
 |some k=>
  rw[hi]at hat;obtain⟨L,hL,hh⟩:=gZ hi;have hk:=(y8e.1 hL).1;obtain⟨b,hb⟩:=yC (l:=i.s.books) (i:=k) (by rw[hR.bl];exact hk);have hbR:=hR.bk k b L hb hL;have hbl:=hR.bl;refine⟨cM _ _,ao,k,.inl ⟨by rw[pA,hat];rfl,rfl⟩,Cv.cnd.mk (λe=>absurd e Z8) (λ_=> ?_)⟩;dsimp only;rw[y8s,zW hL];have hs:=uY hb;refine⟨⟨oM,oM⟩,oM,b,hb,⟨b,L,i.id,0⟩,rfl,rfl,hbR,λ_ _=>⟨b,rfl,rfl,oM,(),?_⟩⟩;rw[hs]
  (repeat'(first|exact trivial|exact rfl|apply And.intro))
def z0b:sfindC.ok Tryz.prog 56:=okw mixed (gokc z1e gok0) 0 (λ_=>[]) (λ_=>[]) [0] Tryz.func56 y0c
def zUp (id:Int) (U:List Int):∀p∈zU U,like (ak ag id) p.1=ao:=by
 intro p hp;obtain⟨k,_,rfl⟩:=y9m.1 hp;rfl
def zTo (id:Int):∀U:List Int,hP (ak ag id) [D.v (.bool ao)] (zU U)=zU (zRp U id)
 |[]=>rfl
 |k::U=>by
  have ih:=zTo id U;have e:bW (ak ag id) (ak ag k)=decide (id=k):=by simp[bW,keq]
  show(bif bW (ak ag id) (ak ag k)then(ak ag k,[D.v (.bool ao)])::zU U else(ak ag k,[D.v (.bool ao)])::hP (ak ag id) [D.v (.bool ao)] (zU U))=_;rw[e,ih];by_cases c:id=k
  ·rw[y8r c,cond_true,zRp,y8c (by rw[c];exact y8h)];rfl
  ·rw[y8n c,cond_false,zRp,zRp];have hm:id∈k::U↔id∈U:=by simp[c]
   by_cases d:id∈U
   ·rw[y8c d,y8c (hm.2 d)];rfl
   ·rw[y7z d,y7z (λx=>d (hm.1 x))];rfl
def zTg (id:Int):∀U:List Int,kW (ak ag id) (zU U)=if id∈U then some [D.v (.bool ao)]else none
 |[]=>rfl
 |k::U=>by
  have ih:=zTg id U;have e:bW (ak ag id) (ak ag k)=decide (id=k):=by simp[bW,keq]
  show(bif bW (ak ag id) (ak ag k)then some [D.v (.bool ao)]else kW (ak ag id) (zU U))=_;rw[e,ih];by_cases c:id=k
  ·rw[y8r c,cond_true,y8c (by rw[c];exact y8h)]
  ·rw[y8n c,cond_false];have hm:id∈k::U↔id∈U:=by simp[c]
   by_cases d:id∈U
   ·rw[y8c d,y8c (hm.2 d)]
   ·rw[y7z d,y7z (λx=>d (hm.1 x))]
def yMn (id:Int) (U:List Int):kW (ak ag id) (zU U)=some [D.v (.bool (decide (id∈U)))]/\decide (id∈U)=ao\/kW (ak ag id) (zU U)=none/\[D.v (.bool (decide (id∈U)))]=[D.v (.bool ap)]/\decide (id∈U)=ap:=by
 rw[zTg];by_cases c:id∈U
 ·rw[y8c c,y8r c];exact .inl ⟨rfl,rfl⟩
 ·rw[y7z c,y8n c];exact .inr ⟨rfl,rfl,rfl⟩
def zWm {p:Prd} {inst:Int} {sd:Bool} {price:Int}:∀(m:Nat) (q:Int) (B:List (List zH)),q.toNat<=m->BWf p B->0<=inst/\inst<B.length->
 (∀t∈(wR p B inst sd price q).steps,SOk t/\1<=t.qty)/\((wR p B inst sd price q).steps.map (·.qty)).sum=q-(wR p B inst sd price q).left
 |m,q,B,hm,h,hi=>by
  by_cases hq:q<=0
  ·rw[eE (.inl hq)];exact⟨λt ht=>(by cases ht),by simp⟩
  cases hs:mR p B inst sd price q with
  |none=>rw[eE (.inr hs)];exact⟨λt ht=>(by cases ht),by simp⟩
  |some x=>
   obtain⟨t,C⟩:=x;obtain⟨k1,k2⟩:=zUg h hs;have hq2:=zPu oM hs;cases m with
   |zero=>omega
   |succ m=>
   obtain⟨i1,i2⟩:=zWm (p:=p) (inst:=inst) (sd:=sd) (price:=price) m (q-t.qty) C oM k1 (by rw[k2];exact hi);rw[zOz (by omega) hs];refine⟨λu hu=> ?_,?_⟩
   ·rcases y8v.1 hu with rfl|hu
    ·exact⟨yNl h hi hs,hq2.1⟩
    ·exact i1 u hu
   ·dsimp only;rw[y8p,y9p,i2];omega
def ySd {α:Type} {f:α->List Rep} (hf:∀x,(f x).length<=3):∀l:List α,(l.flatMap f).length<=3*l.length
 |[]=>y8w _
 |x::l=>by
  have:=ySd hf l;have:=hf x;rw[y9s,y8a,y8f];omega
def zSy (p:Prd) (c:Cmd) (x:wA) (left:Int):(nG p c x left).length<=3*x.fills.length+3:=by
 rw[nG,y8a];have:=ySd (λf=>zPs p x (zEq f)) x.fills;have:=zPs p x ⟨3,c.id,c.inst,c.side,x.price,x.qty,left,0⟩;omega
def zWi {l:List wA} (h:∀t∈l,SOk t/\1<=t.qty):(l.length:Int)<=(l.map (·.qty)).sum:=by
 induction l with
 |nil=>exact xBo _
 |cons t l ih=>
  have:=ih λu hu=>h u (y8i _ hu)
  have:=(h t y8h).2;rw[y8p,y9p,y8f];omega
def yYx (i:EnI) (h:enterC.cnd i):yEz i:=by
 obtain⟨m,p,B,U,c,X⟩:=i;have h':(m.Rep p B U/\BOk p B)/\((0<=c.inst/\c.inst<B.length)/\(1<=c.qty/\c.qty<=1000000)/\(c.side=1\/c.side=2))/\p.price c.inst c.price=0/\X=bK p B U c:=h;clear h;obtain⟨⟨⟨ep,hR,eu⟩,hB⟩,⟨⟨h0,h1⟩,hq,hs⟩,hpz,hX⟩:=h';subst ep eu hX;have hwf:=hR.wf hB;obtain⟨k1,k2,k3⟩:=pG (inst:=c.inst) (sd:=decide (c.side=2)) (price:=c.price) _ c.qty B (y8w _) hwf;have k3:=k3 oM;obtain⟨s1,s2⟩:=zWm (inst:=c.inst) (sd:=decide (c.side=2)) (price:=c.price) _ c.qty B (y8w _) hwf ⟨h0,h1⟩;have hX:=zAb m.p B m.used c;have hbd:=lY hB.pc hpz;unfold yEz qX v7 zCg dI;dsimp only;rw[zTo,hX];refine⟨zUp _ _,⟨m.s,m.p,B,c.inst,decide (c.side=2),c.price,c.qty⟩,rfl,g9 hs,rfl,rfl,rfl,⟨hR,hB,⟨h0,h1⟩,hq.1,hq.2⟩,λo ho=> ?_⟩;have er:RunI.r ⟨m.s,m.p,B,c.inst,decide (c.side=2),c.price,c.qty⟩=wR m.p B c.inst (decide (c.side=2)) c.price c.qty:=rfl;rw[er]at ho ⊢;clear hX er;generalize wR m.p B c.inst (decide (c.side=2)) c.price c.qty=R at*;obtain⟨ts,lf,RB⟩:=R;dsimp only at*;have hlen:=zWi s1;have e4:(ts.map wP).length=ts.length:=y8b ..;refine⟨⟨c.qty,0,[⟨1,c.id,c.inst,c.side,c.price,c.qty,c.qty,0⟩]⟩,rfl,rfl,rfl,λj=>j.k<=ts.length/\j.left=lf+((ts.drop j.k).map (·.qty)).sum/\(⟨1,c.id,c.inst,c.side,c.price,c.qty,c.qty,0⟩::mK m.p c ts c.qty)=j.out++mK m.p c (ts.drop j.k) j.left/\j.out.length<=1+1503*j.k,λj=>ts.length-j.k,⟨y9c _,by dsimp only;rw[xBp,s2];omega,rfl,y8w _⟩,?_⟩
 rintro⟨left,k,out⟩ ⟨j1,j2,j3,j4⟩;dsimp only at j1 j2 j3 j4 ⊢;have e5:(out.map xU).length=out.length:=y8b ..;refine zI (λc1=> ?_) (λc1=> ?_)
 ·obtain⟨t,ht⟩:=yC (l:=ts) (i:=k) oM;have hd:ts.drop k=t::ts.drop (k+1):=by rw[xAe (by omega),(y8e.1 ht).2]
  obtain⟨⟨t1,t2,t3⟩,t4⟩:=s1 t (y8m ht);have hsd:=zWi (l:=ts.drop (k+1)) λu hu=>s1 u (xBv hu)
  have hsk:((ts.drop k).map (·.qty)).sum<=(ts.map (·.qty)).sum:=by
   have:=zWi (l:=ts.take k) λu hu=>s1 u (xCu hu)
   have e:(ts.map (·.qty)).sum=((ts.take k).map (·.qty)).sum+((ts.drop k).map (·.qty)).sum:=by
    rw[<- xEf,<- y8k,xAi]
   omega
  rw[hd,y8p,y9p]at j2 hsk;rw[hd,mK]at j3;have hrl:=zSy m.p c t (left-t.qty);have e6:((nG m.p c t (left-t.qty)).map xU).length=(nG m.p c t (left-t.qty)).length:=y8b ..;have hw:ag.wrap (left-t.qty)=left-t.qty:=w64 oM;refine⟨⟨oM,oM⟩,t.price,t.qty,t.implied,t.fills.map yW,elA ht (by simp[wP]) rfl,?_⟩;rw[hw];refine⟨⟨⟨m.p,o,zRp m.used c.id⟩,c,t,left-t.qty⟩,rF8 (rF8 (rF7 (rF3 ⟨rfl,⟨⟨hB.pc,hB.ps⟩,⟨Z9,Z9⟩,Z9,hs,λf hf=>(t2 f hf).1⟩,λ_ _=>⟨by dsimp only;rw[e5,e6];omega,⟨left-t.qty,k+1,out++nG m.p c t (left-t.qty)⟩,rfl,wjn oM,by dsimp only;rw[y8k],⟨Z9,Z9,by dsimp only;rw[j3,y8g],by dsimp only;rw[y8a];omega⟩,Z9,k0q⟩⟩)))⟩
 have hk:k=ts.length:=by omega
 subst hk;rw[List.drop_of_length_le (y8w _)]at j2 j3;rw[mK,y8x]at j3;rw[<- j3];rw[<- j3]at e5 j4;have hRB:=k1.ok;refine Cv.cnd.mk (λe=> ?_) (λe=>Cv.cnd.mk (λe2=> ?_) (λe2=> ?_))
 ·have e:lf=0:=by simpa using e
  rw[y7z (by omega),y7z (by omega),y8x];exact⟨⟨m.p,o,zRp m.used c.id⟩,rF8 (rF6 ⟨rfl,ho,rfl⟩)⟩
 ·have e:¬lf=0:=by simpa using e
  have e2:c.time=1:=by simpa using e2
  rw[y7z (show ¬(lf≠0/\c.time≠1)by omega),y8c (show lf≠0/\c.time=1 from⟨e,e2⟩),y8x];have ha:=(ho.add c.inst c.id (decide (c.side=2)) c.price lf).1;rw[g9 hs]at ha;exact⟨⟨o,c.inst,c.id,decide (c.side=2),c.price,lf⟩,rfl,rfl,g9 hs,rfl,rfl,rfl,ho.fit hRB,λ_ _=>⟨⟨m.p,(MSt.addF ⟨o,c.inst,c.id,decide (c.side=2),c.price,lf⟩).1,zRp m.used c.id⟩,rF8 (rF6 ⟨rfl,ha,rfl⟩)⟩⟩
 ·have e:¬lf=0:=by simpa using e
  have e2:¬c.time=1:=by simpa using e2
  rw[y8c (show lf≠0/\c.time≠1 from⟨e,e2⟩),y7z (show ¬(lf≠0/\c.time=1)by omega)];exact⟨by rw[e5];omega,⟨m.p,o,zRp m.used c.id⟩,rF8 (rF4 ⟨rfl,by rw[y8k];rfl,rfl,ho,rfl⟩)⟩
def z0n:enterC.ok Tryz.prog 168:=okw mixed (gokc z5c (gokc yKg (gokc yMx gok0))) 0 (λ_=>[]) (λi=>y0k i) [] Tryz.func168 yYx
def y4m:mfindC.ok Tryz.prog 23:=okw (V:=yWw) mixed (gokc z0b gok0) 0 (λ_=>[]) (λ_=>[]) [0] Tryz.func23 λ(i:MfI) h=>by
 obtain⟨m,p,B,U,id⟩:=i;have h':m.Rep p B U/\BOk p B:=h;clear h;obtain⟨⟨ep,hR,eu⟩,hB⟩:=h';subst ep eu;have:=xJ m.p;have:=hB.bl;exact⟨⟨m.s,m.p,B,id,0⟩,rfl,rfl,⟨hR,Z9⟩,λ_ _=>⟨(),k0q⟩⟩
def zTh:cancelC.ok Tryz.prog 140:=okw (V:=yOm) mixed (gokc zGx gok0) 0 (λ_=>[]) (λ_=>[]) [] Tryz.func140 λ(i:CaI) h=>by
 obtain⟨m,p,B,U,id,q,inst,o,X⟩:=i;have h':(m.Rep p B U/\BOk p B)/\X=uR B U id inst o:=h;clear h;obtain⟨⟨⟨ep,hR,eu⟩,hB⟩,hX⟩:=h';subst ep eu hX;have:=xJ m.p;have:=hB.bl;exact⟨⟨m.s,m.p,B,id,o.qty⟩,rfl,rfl,rfl,⟨hR,Z9⟩,λo' ho=>⟨⟨m.p,o',m.used⟩,rF8 (rF6 ⟨rfl,ho,rfl⟩)⟩⟩
def zTq:reduceC.ok Tryz.prog 141:=okw (V:=z8q) mixed (gokc zGx gok0) 0 (λ_=>[]) (λ_=>[]) [] Tryz.func141 λ(i:CaI) h=>by
 obtain⟨m,p,B,U,id,q,inst,o,X⟩:=i;have h':(m.Rep p B U/\BOk p B)/\i64r (o.qty-q)/\X=bN B U id q inst o:=h;clear h;obtain⟨⟨⟨ep,hR,eu⟩,hB⟩,hw,hX⟩:=h';subst ep eu hX;have:=xJ m.p;have:=hB.bl;have hw:=w64 hw;unfold z8q dI;dsimp only;rw[hw];exact⟨⟨m.s,m.p,B,id,q⟩,rfl,rfl,rfl,⟨hR,Z9⟩,λo' ho=>⟨⟨m.p,o',m.used⟩,rF8 (rF6 ⟨rfl,ho,rfl⟩)⟩⟩
def zSf {c:Cmd} (h:c.right=0):(if c.kind=1 then c.orderE else if c.kind≠2/\kO c.qty=ap then 24 else if c.kind=4/\vT c.price=ap then 23 else 0)=0:=by
 rw[Cmd.right]at h;by_cases c1:c.kind<1\/4<c.kind
 ·rw[y8c c1]at h;cases h
 rw[y7z c1]at h;by_cases c2:c.id<1\/1099511627776<c.id
 ·rw[y8c c2]at h;cases h
 rw[y7z c2]at h;exact h
def zTe {c:Cmd} (h:c.right=0) (hk:c.kind=1):(c.side=1\/c.side=2)/\(1<=c.qty/\c.qty<=1000000)/\(0<=c.least/\c.least<=c.qty):=by
 have h:=zSf h;rw[y8c hk,Cmd.orderE]at h;by_cases c1:c.side≠1/\c.side≠2
 ·rw[y8c c1]at h;cases h
 rw[y7z c1]at h;by_cases c2:c.time<1\/3<c.time
 ·rw[y8c c2]at h;cases h
 rw[y7z c2]at h;cases c3:kO c.qty with
 |false=>rw[y8c c3]at h;cases h
 |true=>
  rw[y7z (by rw[c3];decide)]at h;by_cases c4:c.least<0\/c.qty<c.least
  ·rw[y8c c4]at h;cases h
  simp only[kO,y8o,y9o]at c3;exact⟨oM,c3,oM⟩
def zHg {c:Cmd} (h:c.right=0) (hk:¬c.kind=1) (hk2:¬c.kind=2):1<=c.qty/\c.qty<=1000000:=by
 have h:=zSf h;rw[y7z hk]at h;cases c3:kO c.qty with
 |false=>rw[y8c ⟨hk2,c3⟩]at h;cases h
 |true=>
  simp only[kO,y8o,y9o]at c3;exact c3
def yWc (i:EnI) (h:orderC.cnd i):yFz i:=by
 obtain⟨m,p,B,U,c,X⟩:=i;have h':(m.Rep p B U/\BOk p B)/\c.right=0/\c.kind=1/\X=nJ p B U c:=h;clear h;obtain⟨⟨hM,hB⟩,hr,hkd,hX⟩:=h';obtain⟨ep,hR,eu⟩:=hM;subst ep eu;have hM:m.Rep m.p B m.used:=⟨rfl,hR,rfl⟩
 obtain⟨hs,hq,hl⟩:=zTe hr hkd;have hbl:=hB.bl;have hcl:=xJ m.p;unfold yFz qX zJa zIx zHe zDh v7 sY rG sE zDa zEi qE dI;dsimp only;refine⟨⟨m.p,c.inst,c.price⟩,rF8 (rF4 ⟨rfl,hB.ps,λ_ _=>Cv.cnd.mk (λe=> ?_) (λe=> ?_)⟩)⟩
 ·have e:m.p.price c.inst c.price≠0:=by simpa using e
  have hx:X=⟨B,m.used,nI c (m.p.price c.inst c.price)⟩:=by rw[hX,nJ,y8c e]
  exact⟨⟨c,m.p.price c.inst c.price⟩,rF6 (rF3 ⟨rfl,trivial,λ_ _=>⟨m,rF8 (rF4 ⟨rfl,by rw[hx];rfl,by rw[hx];exact hM⟩)⟩⟩)⟩
 have hpz:m.p.price c.inst c.price=0:=by simpa using e
 have hin:=zQv hpz;have hib:0<=c.inst/\c.inst<B.length:=by omega
 rw[nJ,y7z (by rw[hpz];decide)]at hX;refine⟨0,λl=>l=c.lst,Cv.cnd.mk (λe=>⟨c.qty,rfl,by rw[Cmd.lst,y8c (by simpa using e)],k0q⟩) (λe=>⟨c.least,rfl,by rw[Cmd.lst,y7z (by simpa using e)],k0q⟩),?_⟩;rintro _ rfl;refine⟨zUp _ _,_,_,yMn _ _,zI (λe=> ?_) (λe=> ?_)⟩
 ·have hx:X=⟨B,m.used,nI c 25⟩:=by rw[hX,y8c e]
  exact⟨⟨c,25⟩,rF6 (rF3 ⟨rfl,trivial,λ_ _=>⟨m,rF8 (rF4 ⟨rfl,by rw[hx];rfl,by rw[hx];exact hM⟩)⟩⟩)⟩
 rw[y7z e]at hX;refine⟨⟨m.s,m.p,B,0,ap⟩,rfl,⟨hR,Z9⟩,λ_ _=>zI (λe=> ?_) (λe=> ?_)⟩
 ·have hx:X=⟨B,m.used,nI c 13⟩:=by rw[hX,y8c (by dsimp only at e;omega)]
  exact⟨⟨c,13⟩,rF6 (rF3 ⟨rfl,trivial,λ_ _=>⟨m,rF8 (rF4 ⟨rfl,by rw[hx];rfl,by rw[hx];exact hM⟩)⟩⟩)⟩
 rw[y7z (by dsimp only at e;omega)]at hX;have hok:RunI.ok ⟨m.s,m.p,B,c.inst,decide (c.side=2),c.price,c.qty⟩:=⟨hR,hB,hib,hq.1,hq.2⟩
 refine⟨ao,λb=>b=decide (0<c.lst/\c.qty-(wR m.p B c.inst (decide (c.side=2)) c.price c.qty).left<c.lst),zI (λe=>⟨⟨m.s,m.p,B,c.inst,decide (c.side=2),c.price,c.qty⟩,rfl,g9 hs,rfl,rfl,rfl,hok,λ_ _=>⟨_,rfl,decide_eq_decide.2 ⟨λx=>⟨e,x⟩,λx=>x.2⟩,k0q⟩⟩) (λe=>⟨ap,rfl,(y8n λx=>e x.1).symm,k0q⟩),?_⟩;rintro _ rfl;refine zI (λe=> ?_) (λe=> ?_)
 ·have hx:X=⟨B,m.used,nI c 28⟩:=by rw[hX,y8c e]
  exact⟨⟨c,28⟩,rF6 (rF3 ⟨rfl,trivial,λ_ _=>⟨m,rF8 (rF4 ⟨rfl,by rw[hx];rfl,by rw[hx];exact hM⟩)⟩⟩)⟩
 rw[y7z e]at hX;refine⟨ao,λb=>b=decide (c.time=1/\aZ m.p B c.inst (decide (c.side=2)) c.price c.qty=ao),Cv.cnd.mk (λe=>⟨⟨m.s,m.p,B,c.inst,decide (c.side=2),c.price,c.qty⟩,rfl,g9 hs,rfl,rfl,rfl,hok,λ_ _=>⟨_,rfl,?_,k0q⟩⟩) (λe=>⟨ap,rfl,(y8n λx=> ?_).symm,k0q⟩),?_⟩
 ·have e:c.time=1:=by simpa using e
  dsimp only;cases hb:aZ m.p B c.inst (decide (c.side=2)) c.price c.qty with
  |true=>exact(y8r ⟨e,rfl⟩).symm
  |false=>exact(y8n λx=>by cases x.2).symm
 ·rw[x.1]at e;cases e
 rintro _ rfl;refine zI (λe=> ?_) (λe=> ?_)
 ·have hx:X=⟨B,m.used,nI c 23⟩:=by rw[hX,y8c e]
  exact⟨⟨c,23⟩,rF6 (rF3 ⟨rfl,trivial,λ_ _=>⟨m,rF8 (rF4 ⟨rfl,by rw[hx];rfl,by rw[hx];exact hM⟩)⟩⟩)⟩
 rw[y7z e]at hX;exact⟨⟨m,m.p,B,m.used,c,X⟩,rF8 (rF8 (rF5 ⟨rfl,⟨⟨hM,hB⟩,⟨hib,hq,hs⟩,hpz,hX⟩,λo ho=>⟨o,rF8 (rF6 ho)⟩⟩))⟩
def yIl:orderC.ok Tryz.prog 138:=okw mixed (gokc lC (gokc z6a (gokc z6m (gokc yCp (gokc zYr (gokc z0n gok0)))))) 0 (λ_=>y0e) (λ_=>[]) [] Tryz.func138 yWc
def zVl {p:Prd} {B:List (List zH)} (h:BWf p B) {id inst:Int} {o:zH} (hf:zR B id=(inst,o,ao)):(0<=inst/\inst<B.length)/\zPj o:=by
 rw[zR]at hf;split at hf
 ·cases hf
 ·rename_i k hk;obtain⟨L,hL,hh⟩:=gZ hk;rw[zW hL]at hf;cases hf;have hlt:=(y8e.1 hL).1;obtain⟨o,ho,e⟩:=y9m.1 (hasId_iff.1 hh);have hg:=tP (h.od k L hL).2.1 ho;rw[e]at hg;rw[hg];exact⟨oM,(h.od k L hL).1 o ho⟩
def zQh (p:Prd) (c:Cmd):∀(l:List wA) (left:Int),(∀t∈l,SOk t/\1<=t.qty)->(mK p c l left).length<=1503*l.length
 |[],_,_=>y8w _
 |t::l,left,h=>by
  have a:=zQh p c l (left-t.qty) λu hu=>h u (y8i _ hu)
  have b:=zSy p c t (left-t.qty);have d:=(h t y8h).1.2.2;rw[mK,y8a,y8f];omega
def zDw {p:Prd} {B:List (List zH)} (h:BWf p B) (U:List Int) {c:Cmd} (hi:0<=c.inst/\c.inst<B.length) (hq:1<=c.qty/\c.qty<=1000000):(bK p B U c).R.length<=1503000002:=by
 obtain⟨s1,s2⟩:=zWm (inst:=c.inst) (sd:=decide (c.side=2)) (price:=c.price) _ c.qty B (y8w _) h hi;have k3:=(pG (inst:=c.inst) (sd:=decide (c.side=2)) (price:=c.price) _ c.qty B (y8w _) h).2.2 oM;have:=zWi s1;have:=zQh p c _ c.qty s1;rw[zAb];dsimp only;rw[y8a,y8f];split
 ·rw[y8f,y9t];omega
 ·rw[y9t];omega
def yLj (i:yDb) (h:replaceC.cnd i):zZg i:=by
 obtain⟨m,p,B,U,c,inst,o,X⟩:=i;have h':m.Rep p B U/\BOk p B/\zR B c.id=(inst,o,ao)/\(1<=c.qty/\c.qty<=1000000)/\X=dD p B U c inst o:=h;clear h;obtain⟨hM,hB,hf,hq,hX⟩:=h';obtain⟨ep,hR,eu⟩:=hM;subst ep eu;have hM:m.Rep m.p B m.used:=⟨rfl,hR,rfl⟩
 have hwf:=hR.wf hB;obtain⟨hin,hoo⟩:=zVl hwf hf;have hos:=hoo.s;have hoq:=hoo.q;have hbl:=hB.bl;have hcl:=xJ m.p;unfold zZg zEb qX fN l8 sY bV sZ qE;dsimp only;refine⟨⟨m.p,inst,c.price⟩,rF8 (rF4 ⟨rfl,hB.ps,λ_ _=>Cv.cnd.mk (λe=> ?_) (λe=> ?_)⟩)⟩
 ·have e:m.p.price inst c.price≠0:=by simpa using e
  have hx:X=⟨B,m.used,nI c (m.p.price inst c.price)⟩:=by rw[hX,dD,y8c e]
  exact⟨⟨c,m.p.price inst c.price⟩,rF6 (rF3 ⟨rfl,trivial,λ_ _=>⟨m,rF8 (rF4 ⟨rfl,by rw[hx];rfl,by rw[hx];exact hM⟩)⟩⟩)⟩
 have hpz:m.p.price inst c.price=0:=by simpa using e
 rw[dD,y7z (by rw[hpz];decide)]at hX;have hw:ag.wrap (o.qty-c.qty)=o.qty-c.qty:=w64 oM;rw[hw];refine(λhT=>Cv.cnd.mk (λe1=>zI (λe2=> ?_) (λe2=>hT λx=>e2 x.2)) (λe1=>hT λx=>by rw[x.1]at e1;simp at e1)) (λ(hn:¬(c.price=o.price/\c.qty<=o.qty))=> ?_)
 ·have e1:c.price=o.price:=by simpa using e1
  rw[y8c ⟨e1,e2⟩]at hX;exact⟨⟨m,m.p,B,m.used,c.id,o.qty-c.qty,inst,o,X⟩,rF8 (rF8 (rF4 ⟨rfl,⟨⟨hM,hB⟩,⟨Z9,Z9⟩,hX⟩,λo' ho=>⟨o',rF8 (rF6 ho)⟩⟩))⟩
 rw[y7z hn]at hX;have hBt:=hB.take c.id o.qty;refine⟨m.s,rfl,hR.small hB,λ_ _=>⟨⟨m.s,m.p,B,c.id,o.qty⟩,rfl,rfl,rfl,⟨hR,Z9⟩,λo' ho'=>⟨⟨o',m.p,(kU B c.id o.qty).1,inst,decide (o.side=2),c.price,c.qty⟩,rfl,g9 hos,rfl,rfl,rfl,⟨ho',hBt,by dsimp only;rw[nO];exact hin,hq.1,hq.2⟩,λ_ _=>Cv.cnd.mk (λe=> ?_) (λe=> ?_)⟩⟩⟩
 ·have hx:X=⟨B,m.used,nI c 23⟩:=by rw[hX,y8c e]
  exact⟨⟨c,23⟩,rF6 (rF3 ⟨rfl,trivial,λ_ _=>⟨m,rF8 (rF4 ⟨rfl,by rw[hx];rfl,by rw[hx];exact hM⟩)⟩⟩)⟩
 rw[y7z (by rw[e];decide)]at hX;refine⟨⟨m,m.p,B,m.used,c.id,0,inst,o,uR B m.used c.id inst o⟩,rF8 (rF8 (rF3 ⟨rfl,⟨⟨hM,hB⟩,rfl⟩,λo1 ho1=>⟨⟨o1,m.p,(kU B c.id o.qty).1,m.used,⟨1,c.id,inst,o.side,c.price,c.qty,0,1,[]⟩,bK m.p (kU B c.id o.qty).1 m.used ⟨1,c.id,inst,o.side,c.price,c.qty,0,1,[]⟩⟩,rF8 (rF8 (rF5 ⟨rfl,⟨⟨ho1,hBt⟩,⟨by dsimp only;rw[nO];exact hin,hq,hos⟩,hpz,rfl⟩,λo2 ho2=>⟨?_,o2,rfl,rfl,rfl,rfl,rfl,rfl,rfl,rfl,rfl,rfl,rfl,rfl,rfl,?_,?_⟩⟩))⟩⟩))⟩
 ·have:=zDw (hwf.take c.id o.qty) m.used (c:=⟨1,c.id,inst,o.side,c.price,c.qty,0,1,[]⟩) (by dsimp only;rw[nO];exact hin) hq;dsimp only;rw[y8b,y8b];have e1:(uR B m.used c.id inst o).R.length=1:=rfl;omega
 ·rw[hX,<- y8k];rfl
 ·rw[hX];exact ho2
def z5v:replaceC.ok Tryz.prog 139:=okw mixed (gokc lC (gokc z6a (gokc eN (gokc zGx (gokc zYr (gokc zTh (gokc zTq (gokc z0n gok0)))))))) 0 (λ_=>[]) (λ_=>[]) [] Tryz.func139 yLj
def vdo (i:EnI) (h:doC.cnd i):Vdo i:=by
 obtain⟨m,p,B,U,c,X⟩:=i;have h':(m.Rep p B U/\BOk p B)/\c.label.length<=140737488355328/\i64r c.qty/\X=doF p B U c:=h;clear h;obtain⟨⟨hM,hB⟩,hlb,hqr,hX⟩:=h';obtain⟨ep,hR,eu⟩:=hM;subst ep eu;have hM:m.Rep m.p B m.used:=⟨rfl,hR,rfl⟩
 have hwf:=hR.wf hB;have hbl:=hB.bl;have hcl:=xJ m.p;unfold Vdo rG yKo bV z4p zVo zWy;dsimp only;refine⟨c,rF8 ⟨rfl,hlb,λ_ _=>Cv.cnd.mk (λe=> ?_) (λe=> ?_)⟩⟩
 ·have e:c.right≠0:=by simpa using e
  have hx:X=⟨B,m.used,nI c c.right⟩:=by rw[hX,doF,y8c e]
  exact⟨⟨c,c.right⟩,rF6 (rF3 ⟨rfl,trivial,λ_ _=>⟨m,rF8 (rF4 ⟨rfl,by rw[hx];rfl,by rw[hx];exact hM⟩)⟩⟩)⟩
 have hr:c.right=0:=by simpa using e
 rw[doF,y7z (by rw[hr];decide)]at hX;refine Cv.cnd.mk (λe=> ?_) (λe=> ?_)
 ·have e:c.kind=1:=by simpa using e
  rw[y8c e]at hX;exact⟨⟨m,m.p,B,m.used,c,X⟩,rF8 (rF8 (rF5 ⟨rfl,⟨⟨hM,hB⟩,hr,e,hX⟩,λo ho=>⟨o,rF8 (rF6 ho)⟩⟩))⟩
 have hk:¬c.kind=1:=by simpa using e
 rw[y7z hk]at hX;refine(λhT=>⟨hT,rfl,trivial,hT⟩) ?_;refine⟨⟨m.s,m.p,B,c.id,0⟩,rfl,rfl,⟨hR,Z9⟩,λ_ _=>Cv.cnd.mk (λe=> ?_) (λe=> ?_)⟩
 ·have e:(zR B c.id).2.2=ap:=by simpa using e
  have hx:X=⟨B,m.used,nI c 26⟩:=by rw[hX,y8c e]
  exact⟨⟨c,26⟩,rF6 (rF3 ⟨rfl,trivial,λ_ _=>⟨m,rF8 (rF4 ⟨rfl,by rw[hx];rfl,by rw[hx];exact hM⟩)⟩⟩)⟩
 have e:(zR B c.id).2.2=ao:=by simpa using e
 rw[y7z (by rw[e];decide)]at hX;dsimp only;have hf:zR B c.id=((zR B c.id).1,(zR B c.id).2.1,ao):=by rw[<- e]
 generalize (zR B c.id).1=inst at*;generalize (zR B c.id).2.1=o at*;obtain⟨hin,hoo⟩:=zVl hwf hf;have hoq:=hoo.q;refine Cv.cnd.mk (λe4=> ?_) (λe4=>Cv.cnd.mk (λe2=> ?_) (λe2=>zI (λe3=> ?_) (λe3=> ?_)))
 ·have e4:c.kind=4:=by simpa using e4
  rw[y8c e4]at hX;exact⟨⟨m,m.p,B,m.used,c,inst,o,X⟩,rF8 (rF8 (rF8 (rF3 ⟨rfl,⟨hM,hB,hf,zHg hr hk (by rw[e4];decide),hX⟩,λo' ho=>⟨o',rF8 (rF6 ho)⟩⟩)))⟩
 all_goals
  have e4:¬c.kind=4:=by simpa using e4
  rw[y7z e4]at hX
 ·have e2:c.kind=2:=by simpa using e2
  rw[y8c (.inl e2)]at hX;exact⟨⟨m,m.p,B,m.used,c.id,0,inst,o,X⟩,rF8 (rF8 (rF3 ⟨rfl,⟨⟨hM,hB⟩,hX⟩,λo' ho=>⟨o',rF8 (rF6 ho)⟩⟩))⟩
 ·rw[y8c (.inr (by omega))]at hX;exact⟨⟨m,m.p,B,m.used,c.id,0,inst,o,X⟩,rF8 (rF8 (rF3 ⟨rfl,⟨⟨hM,hB⟩,hX⟩,λo' ho=>⟨o',rF8 (rF6 ho)⟩⟩))⟩
 ·have e2:¬c.kind=2:=by simpa using e2
  have hq:=zHg hr hk e2;rw[y7z (by omega)]at hX;exact⟨⟨m,m.p,B,m.used,c.id,c.qty,inst,o,X⟩,rF8 (rF8 (rF4 ⟨rfl,⟨⟨hM,hB⟩,⟨Z9,Z9⟩,hX⟩,λo' ho=>⟨o',rF8 (rF6 ho)⟩⟩))⟩
def y3u:doC.ok Tryz.prog 98:=okw mixed (gokc zOp (gokc z6a (gokc z0b (gokc yIl (gokc z5v (gokc zTh (gokc zTq gok0))))))) 0 (λ_=>[]) (λ_=>[]) [0] Tryz.func98 vdo
end Sx
