/- Texts of ours, one behind the other: a walk that the kernel reckons, and contracts of functions. No condition. -/
import Derived.Test.YtogkpgfggfbhaaaGreatX9
namespace Sx
set_option linter.unusedVariables false
set_option maxRecDepth 100000
open Go Cv Go.Proofs
def lB (a:Mkt) (b:EnI) (c:EnJ):Prop:=zW a.used=vI (Value.int IntKind.i64 b.c.id) [D.v (.bool true)] (zW b.m.used)∧AObj.fro 1 (iE a.p.months)=yL b.m 3∧AObj.fro 1 (iE a.p.settle)=yL b.m 4∧List.map xJ b.X.R=List.map xJ c.out∧a.Rep b.p b.X.B b.X.U
def wR (a:EnI):=(D.v (Value.string (sb a.c.label)))
def z6e (i:EnI):Prop:=
 (∀(a:Value×List D),a∈zW i.m.used→like (Value.int IntKind.i64 i.c.id) a.fst=true)∧∃(a:RunI),a.inst=i.c.inst∧zC a.sd=i.c.side∧a.price=i.c.price∧a.q=i.c.qty∧zD a.s=yL i.m 1∧(qE a)∧∀(b:MSt),b.Rep a.p a.r.B→∃(c:EnJ),c.left=i.c.qty∧(↑c.k:Int)=0∧List.map xJ c.out=[[dI 1,dI i.c.id,dI i.c.inst,dI i.c.side,dI i.c.price,dI i.c.qty,dI i.c.qty,dI 0]]∧∃(d:EnJ→Prop),∃(e:EnJ→Nat),d c∧∀(f:EnJ),d f→cnd (decide ((↑f.k:Int)<(↑(List.map jL a.r.steps).length:Int))) ((0≤(↑f.k:Int)∧(↑f.k:Int)<(↑(List.map jL a.r.steps).length:Int))∧∃(g:Int),∃(h:Int),∃(j:Bool),∃(k:List (List D)),zE (List.map jL a.r.steps) (↑f.k:Int).toNat 0 4=some [dI g,dI h,D.v (.bool j),D.ro 6 k]∧∃(l:StI'),l.c.kind=i.c.kind∧l.c.id=i.c.id∧l.c.inst=i.c.inst∧l.c.side=i.c.side∧l.c.price=i.c.price∧l.c.qty=i.c.qty∧l.c.least=i.c.least∧l.c.time=i.c.time∧sb l.c.label=sb i.c.label∧l.x.price=g∧l.x.qty=h∧l.x.implied=j∧List.map yR l.x.fills=k∧l.left=IntKind.i64.wrap (f.left-h)∧sb l.m.p.code=sb i.m.p.code∧l.m.p.tick=i.m.p.tick∧l.m.p.low=i.m.p.low∧l.m.p.high=i.m.p.high∧l.m.p.wide=i.m.p.wide∧l.m.p.rule=i.m.p.rule∧l.m.p.top=i.m.p.top∧l.m.p.least=i.m.p.least∧l.m.p.part=i.m.p.part∧zD l.m.s=zD b∧zW l.m.used=vI (Value.int IntKind.i64 i.c.id) [D.v (.bool true)] (zW i.m.used)∧AObj.fro 1 (iE l.m.p.months)=yL i.m 3∧AObj.fro 1 (iE l.m.p.settle)=yL i.m 4∧((l.m.p.check=0∧l.m.p.code.length≤1099511627776∧l.m.p.months.length≤1099511627776∧l.m.p.settle.length≤1099511627776)∧((-9223372036854775808)≤l.x.price∧l.x.price≤9223372036854775807)∧l.x.fills.length≤1000000∧(l.c.side=1∨l.c.side=2)∧∀(m:fW),m∈l.x.fills→m.side=1∨m.side=2)∧∀(m:Unit),True→((List.map xJ f.out).length+(List.map xJ (aB l.m.p l.c l.x l.left)).length)*(64:Nat)≤(70368744177664:Nat)∧∃(n:EnJ),n.left=IntKind.i64.wrap (f.left-h)∧(↑n.k:Int)=IntKind.i64.wrap ((↑f.k:Int)+1)∧List.map xJ n.out=List.map xJ f.out++List.map xJ (aB l.m.p l.c l.x l.left)∧d n∧e n<e f∧zD l.m.s=zD b∧AObj.own 260 4 (List.map jL a.r.steps)=AObj.own 260 4 (List.map jL a.r.steps)∧Sx.AObj.cells [V.d (dI i.c.kind),V.d (dI i.c.id),V.d (dI i.c.inst),V.d (dI i.c.side),V.d (dI i.c.price),V.d (dI i.c.qty),V.d (dI i.c.least),V.d (dI i.c.time),V.d (wR i)] 36=Sx.AObj.cells [V.d (dI i.c.kind),V.d (dI i.c.id),V.d (dI i.c.inst),V.d (dI i.c.side),V.d (dI i.c.price),V.d (dI i.c.qty),V.d (dI i.c.least),V.d (dI i.c.time),V.d (wR i)] 36∧Sx.AObj.cells (jX (dA 5 ((5:Nat)+(1:Nat)+1+((2:Nat)-(1:Nat))+(1:Nat)+(1:Nat)+1) ((6:Nat)-(5:Nat)) [((2:Nat),(2:Nat)),((1:Nat),(1:Nat)),((4:Nat),(4:Nat)),((3:Nat),(3:Nat)),((0:Nat),(0:Nat))]) [sV l.m.p.code,V.own 3,zA l.m.p.tick,zA l.m.p.low,zA l.m.p.high,zA l.m.p.wide,zA l.m.p.rule,zA l.m.p.top,zA l.m.p.least,zA l.m.p.part,V.own 4,V.nm 1 0,V.mp 2]) (121:TypeId)=yL i.m 0∧Sx.AObj.map (zW l.m.used)=Sx.AObj.map (vI (Value.int IntKind.i64 i.c.id) [D.v (.bool true)] (zW i.m.used))∧AObj.fro 1 (iE l.m.p.months)=yL i.m 3∧AObj.fro 1 (iE l.m.p.settle)=yL i.m 4) (cnd (a.r.left==0) (∃(g:Mkt),sb g.p.code=sb i.m.p.code∧g.p.tick=i.m.p.tick∧g.p.low=i.m.p.low∧g.p.high=i.m.p.high∧g.p.wide=i.m.p.wide∧g.p.rule=i.m.p.rule∧g.p.top=i.m.p.top∧g.p.least=i.m.p.least∧g.p.part=i.m.p.part∧zD g.s=zD b∧lB g i f) (cnd (i.c.time==1) (∃(g:SaI),g.inst=i.c.inst∧g.id=i.c.id∧zC g.sd=i.c.side∧g.price=i.c.price∧g.qty=a.r.left∧zD g.s=zD b∧((g.s.p.code.length≤1099511627776∧g.s.p.months.length≤1099511627776∧g.s.p.settle.length≤1099511627776)∧g.s.books.length≤1000000∧∀(h:Book),h∈g.s.books→(h.a.slots.length≤1000000∧(h.a.free≠0→∃(j:Slot),j∈h.a.slots∧j.used=false)∧∀(j:fY),j∈h.a.queues→j.last=(-1)∨0≤j.last∧j.last<(↑h.a.slots.length:Int))∧h.a.queues.length≤100000∧h.buys.length≤100000∧h.sells.length≤100000∧h.spare.length≤100000)∧∀(h:Unit),True→∃(j:Mkt),sb j.p.code=sb i.m.p.code∧j.p.tick=i.m.p.tick∧j.p.low=i.m.p.low∧j.p.high=i.m.p.high∧j.p.wide=i.m.p.wide∧j.p.rule=i.m.p.rule∧j.p.top=i.m.p.top∧j.p.least=i.m.p.least∧j.p.part=i.m.p.part∧zD j.s=zD (MSt.addF g).fst∧lB j i f) (((List.map xJ f.out).length+1)*(64:Nat)≤(70368744177664:Nat)∧∃(g:Mkt),sb g.p.code=sb i.m.p.code∧g.p.tick=i.m.p.tick∧g.p.low=i.m.p.low∧g.p.high=i.m.p.high∧g.p.wide=i.m.p.wide∧g.p.rule=i.m.p.rule∧g.p.top=i.m.p.top∧g.p.least=i.m.p.least∧g.p.part=i.m.p.part∧zD g.s=zD b∧zW g.used=vI (Value.int IntKind.i64 i.c.id) [D.v (.bool true)] (zW i.m.used)∧AObj.fro 1 (iE g.p.months)=yL i.m 3∧AObj.fro 1 (iE g.p.settle)=yL i.m 4∧List.map xJ i.X.R=List.map xJ f.out++[[dI 4,dI i.c.id,dI i.c.inst,dI i.c.side,dI i.c.price,dI a.r.left,dI 0,dI 0]]∧g.Rep i.p i.X.B i.X.U)))
def zDx (a:EnI):Prop:=Sx.AObj.cells [V.d (dI a.c.kind),V.d (dI a.c.id),V.d (dI a.c.inst),V.d (dI a.c.side),V.d (dI a.c.price),V.d (dI a.c.qty),V.d (dI a.c.least),V.d (dI a.c.time),V.d (wR a)] 36=Sx.AObj.cells [V.d (dI a.c.kind),V.d (dI a.c.id),V.d (dI a.c.inst),V.d (dI a.c.side),V.d (dI a.c.price),V.d (dI a.c.qty),V.d (dI a.c.least),V.d (dI a.c.time),V.d (wR a)] 36∧yL a.m 0=yL a.m 0∧yL a.m 2=yL a.m 2∧yL a.m 3=yL a.m 3∧yL a.m 4=yL a.m 4
def zDh (a:Bool→Prop) (b:SoI) (c:EnI):Prop:=∃(d:Bool),d=false∧a d∧zD b.s=zD b.s∧zDx c
def zCt (a:Int→Prop) (b:Int) (c:EnI):Prop:=a b∧Sx.AObj.cells [V.d (dI c.c.kind),V.d (dI c.c.id),V.d (dI c.c.inst),V.d (dI c.c.side),V.d (dI c.c.price),V.d (dI c.c.qty),V.d (dI c.c.least),V.d (dI c.c.time),V.d (wR c)] 36=Sx.AObj.cells [V.d (dI c.c.kind),V.d (dI c.c.id),V.d (dI c.c.inst),V.d (dI c.c.side),V.d (dI c.c.price),V.d (dI c.c.qty),V.d (dI c.c.least),V.d (dI c.c.time),V.d (wR c)] 36∧yL c.m 0=yL c.m 0∧yL c.m 1=yL c.m 1∧yL c.m 2=yL c.m 2∧yL c.m 3=yL c.m 3∧yL c.m 4=yL c.m 4
def zBv (a:Bool→Prop) (b:Bool) (c:RunI) (d:SoI) (e:EnI):Prop:=a b∧zD c.s=zD d.s∧zDx e
def lH (a:Mkt) (b:EnI) (c:RjI):Prop:=zW a.used=zW b.m.used∧AObj.fro 1 (iE a.p.months)=yL b.m 3∧AObj.fro 1 (iE a.p.settle)=yL b.m 4∧List.map xJ b.X.R=[xJ (Rep.mk 2 c.c.id 0 0 0 0 0 c.why)]∧a.Rep b.p b.X.B b.X.U
def zCk (a:EnI) (b:RjI):Prop:=True∧∀(c:Unit),True→∃(d:Mkt),sb d.p.code=sb a.m.p.code∧d.p.tick=a.m.p.tick∧d.p.low=a.m.p.low∧d.p.high=a.m.p.high∧d.p.wide=a.m.p.wide∧d.p.rule=a.m.p.rule∧d.p.top=a.m.p.top∧d.p.least=a.m.p.least∧d.p.part=a.m.p.part∧zD d.s=yL a.m 1∧lH d a b
def rT (a:EnI) (b:SoI) (c:RjI):Prop:=True∧∀(d:Unit),True→∃(e:Mkt),sb e.p.code=sb a.m.p.code∧e.p.tick=a.m.p.tick∧e.p.low=a.m.p.low∧e.p.high=a.m.p.high∧e.p.wide=a.m.p.wide∧e.p.rule=a.m.p.rule∧e.p.top=a.m.p.top∧e.p.least=a.m.p.least∧e.p.part=a.m.p.part∧zD e.s=zD b.s∧lH e a c
def rW (a:EnI) (b:EnI):Prop:=∀(c:Mkt),c.Rep a.p a.X.B a.X.U→∃(d:Mkt),sb d.p.code=sb c.p.code∧d.p.tick=c.p.tick∧d.p.low=c.p.low∧d.p.high=c.p.high∧d.p.wide=c.p.wide∧d.p.rule=c.p.rule∧d.p.top=c.p.top∧d.p.least=c.p.least∧d.p.part=c.p.part∧zD d.s=zD c.s∧zW d.used=zW c.used∧AObj.fro 1 (iE d.p.months)=AObj.fro 1 (iE c.p.months)∧AObj.fro 1 (iE d.p.settle)=AObj.fro 1 (iE c.p.settle)∧List.map xJ b.X.R=List.map xJ a.X.R∧d.Rep b.p b.X.B b.X.U
def mF (a:EnI):Prop:=(a.m.Rep a.p a.B a.U∧BOk a.p a.B)∧((0≤a.c.inst∧a.c.inst<(↑a.B.length:Int))∧(1≤a.c.qty∧a.c.qty≤1000000)∧(a.c.side=1∨a.c.side=2))∧a.p.price a.c.inst a.c.price=0∧a.X=bS a.p a.B a.U a.c
def yAb (i:EnI):Prop:=
 ∃(a:pE),sb a.p.code=sb i.m.p.code∧iE a.p.months=iE i.m.p.months∧a.p.tick=i.m.p.tick∧a.p.low=i.m.p.low∧a.p.high=i.m.p.high∧a.p.wide=i.m.p.wide∧a.p.rule=i.m.p.rule∧a.p.top=i.m.p.top∧a.p.least=i.m.p.least∧a.p.part=i.m.p.part∧iE a.p.settle=iE i.m.p.settle∧a.a=i.c.inst∧a.b=i.c.price∧(xY a)∧∀(b:Unit),True→cnd (a.p.price a.a a.b !=0) (∃(c:RjI),c.c.kind=i.c.kind∧c.c.id=i.c.id∧c.c.inst=i.c.inst∧c.c.side=i.c.side∧c.c.price=i.c.price∧c.c.qty=i.c.qty∧c.c.least=i.c.least∧c.c.time=i.c.time∧sb c.c.label=sb i.c.label∧c.why=a.p.price a.a a.b∧zCk i c) (∃(c:Int),∃(d:Int→Prop),cnd (i.c.time==3) (∃(e:Int),e=i.c.qty∧zCt d e i) (∃(e:Int),e=i.c.least∧zCt d e i)∧∀(e:Int),d e→(∀(f:Value×List D),f∈zW i.m.used→like (Value.int IntKind.i64 i.c.id) f.fst=true)∧∃(f:Bool),∃(g:Bool),(qK (Value.int IntKind.i64 i.c.id) (zW i.m.used)=some [D.v (.bool g)]∧f=true∨qK (Value.int IntKind.i64 i.c.id) (zW i.m.used)=none∧[D.v (.bool g)]=[D.v (.bool false)]∧f=false)∧cnd g (∃(h:RjI),h.c.kind=i.c.kind∧h.c.id=i.c.id∧h.c.inst=i.c.inst∧h.c.side=i.c.side∧h.c.price=i.c.price∧h.c.qty=i.c.qty∧h.c.least=i.c.least∧h.c.time=i.c.time∧sb h.c.label=sb i.c.label∧h.why=25∧zCk i h) (∃(h:SoI),zD h.s=yL i.m 1∧(h.s.Rep h.p h.B∧h.B.length≤1000)∧∀(j:Unit),True→cnd (decide ((↑(tK h.B):Int)≥250)) (∃(k:RjI),k.c.kind=i.c.kind∧k.c.id=i.c.id∧k.c.inst=i.c.inst∧k.c.side=i.c.side∧k.c.price=i.c.price∧k.c.qty=i.c.qty∧k.c.least=i.c.least∧k.c.time=i.c.time∧sb k.c.label=sb i.c.label∧k.why=13∧rT i h k) (∃(k:Bool),∃(l:Bool→Prop),cnd (decide (e>0)) (∃(m:RunI),m.inst=i.c.inst∧zC m.sd=i.c.side∧m.price=i.c.price∧m.q=i.c.qty∧zD m.s=zD h.s∧(qE m)∧∀(n:Unit),True→∃(p:Bool),p=decide (m.q-m.r.left<e)∧zBv l p m h i) (zDh l h i)∧∀(m:Bool),l m→cnd m (∃(n:RjI),n.c.kind=i.c.kind∧n.c.id=i.c.id∧n.c.inst=i.c.inst∧n.c.side=i.c.side∧n.c.price=i.c.price∧n.c.qty=i.c.qty∧n.c.least=i.c.least∧n.c.time=i.c.time∧sb n.c.label=sb i.c.label∧n.why=28∧rT i h n) (∃(n:Bool),∃(p:Bool→Prop),cnd (i.c.time==1) (∃(q:RunI),q.inst=i.c.inst∧zC q.sd=i.c.side∧q.price=i.c.price∧q.q=i.c.qty∧zD q.s=zD h.s∧(qE q)∧∀(r:Unit),True→∃(s:Bool),s=cB q.p q.B q.inst q.sd q.price q.q∧zBv p s q h i) (zDh p h i)∧∀(q:Bool),p q→cnd q (∃(r:RjI),r.c.kind=i.c.kind∧r.c.id=i.c.id∧r.c.inst=i.c.inst∧r.c.side=i.c.side∧r.c.price=i.c.price∧r.c.qty=i.c.qty∧r.c.least=i.c.least∧r.c.time=i.c.time∧sb r.c.label=sb i.c.label∧r.why=23∧rT i h r) (∃(r:EnI),r.c.kind=i.c.kind∧r.c.id=i.c.id∧r.c.inst=i.c.inst∧r.c.side=i.c.side∧r.c.price=i.c.price∧r.c.qty=i.c.qty∧r.c.least=i.c.least∧r.c.time=i.c.time∧sb r.c.label=sb i.c.label∧sb r.m.p.code=sb i.m.p.code∧r.m.p.tick=i.m.p.tick∧r.m.p.low=i.m.p.low∧r.m.p.high=i.m.p.high∧r.m.p.wide=i.m.p.wide∧r.m.p.rule=i.m.p.rule∧r.m.p.top=i.m.p.top∧r.m.p.least=i.m.p.least∧r.m.p.part=i.m.p.part∧zD r.m.s=zD h.s∧zW r.m.used=zW i.m.used∧AObj.fro 1 (iE r.m.p.months)=yL i.m 3∧AObj.fro 1 (iE r.m.p.settle)=yL i.m 4∧(mF r)∧rW r i)))))
def yEb (i:CaI):Prop:=
 ∃(i_1:StI),i_1.id=i.id∧i_1.q=i.o.qty∧zD i_1.s=yL i.m 1∧(i_1.s.Rep i_1.p i_1.B∧i_1.B.length≤1000)∧∀(o:MSt),o.Rep i_1.p (qS i_1.B i_1.id i_1.q).fst→∃(o_1:Mkt),sb o_1.p.code=sb i.m.p.code∧o_1.p.tick=i.m.p.tick∧o_1.p.low=i.m.p.low∧o_1.p.high=i.m.p.high∧o_1.p.wide=i.m.p.wide∧o_1.p.rule=i.m.p.rule∧o_1.p.top=i.m.p.top∧o_1.p.least=i.m.p.least∧o_1.p.part=i.m.p.part∧zD o_1.s=zD o∧zW o_1.used=zW i.m.used∧AObj.fro 1 (iE o_1.p.months)=yL i.m 3∧AObj.fro 1 (iE o_1.p.settle)=yL i.m 4∧List.map xJ i.X.R=[[D.v (.int .i64 4),D.v (.int .i64 i.id),D.v (.int .i64 i.inst),D.v (.int .i64 i.o.side),D.v (.int .i64 i.o.price),D.v (.int .i64 i.o.qty),D.v (.int .i64 0),D.v (.int .i64 0)]]∧o_1.Rep i.p i.X.B i.X.U
def z0c (i:CaI):Prop:=
 ∃(a:StI),a.id=i.id∧a.q=i.q∧zD a.s=yL i.m 1∧(a.s.Rep a.p a.B∧a.B.length≤1000)∧∀(b:MSt),b.Rep a.p (qS a.B a.id a.q).fst→∃(c:Mkt),sb c.p.code=sb i.m.p.code∧c.p.tick=i.m.p.tick∧c.p.low=i.m.p.low∧c.p.high=i.m.p.high∧c.p.wide=i.m.p.wide∧c.p.rule=i.m.p.rule∧c.p.top=i.m.p.top∧c.p.least=i.m.p.least∧c.p.part=i.m.p.part∧zD c.s=zD b∧zW c.used=zW i.m.used∧AObj.fro 1 (iE c.p.months)=yL i.m 3∧AObj.fro 1 (iE c.p.settle)=yL i.m 4∧List.map xJ i.X.R=[[dI 5,dI i.id,dI i.inst,dI i.o.side,dI i.o.price,dI i.q,dI (IntKind.i64.wrap (i.o.qty-i.q)),dI 0]]∧c.Rep i.p i.X.B i.X.U
def nN (a:Mkt) (b:z4a) (c:RjI):Prop:=zW a.used=zW b.m.used∧AObj.fro 1 (iE a.p.months)=yL b.m 3∧AObj.fro 1 (iE a.p.settle)=yL b.m 4∧List.map xJ b.X.R=[xJ (Rep.mk 2 c.c.id 0 0 0 0 0 c.why)]∧a.Rep b.p b.X.B b.X.U
def eO (a:z4a):Prop:=∃(b:MSt),zD b=yL a.m 1∧(u0 b)∧∀(c:Unit),True→∃(d:StI),d.id=a.c.id∧d.q=a.o.qty∧zD d.s=zD b∧(d.s.Rep d.p d.B∧d.B.length≤1000)∧∀(e:MSt),e.Rep d.p (qS d.B d.id d.q).fst→∃(f:RunI),f.inst=a.inst∧zC f.sd=a.o.side∧f.price=a.c.price∧f.q=a.c.qty∧zD f.s=zD e∧(qE f)∧∀(g:Unit),True→cnd (cB f.p f.B f.inst f.sd f.price f.q) (∃(h:RjI),h.c.kind=a.c.kind∧h.c.id=a.c.id∧h.c.inst=a.c.inst∧h.c.side=a.c.side∧h.c.price=a.c.price∧h.c.qty=a.c.qty∧h.c.least=a.c.least∧h.c.time=a.c.time∧sb h.c.label=sb a.c.label∧h.why=23∧True∧∀(j:Unit),True→∃(k:Mkt),sb k.p.code=sb a.m.p.code∧k.p.tick=a.m.p.tick∧k.p.low=a.m.p.low∧k.p.high=a.m.p.high∧k.p.wide=a.m.p.wide∧k.p.rule=a.m.p.rule∧k.p.top=a.m.p.top∧k.p.least=a.m.p.least∧k.p.part=a.m.p.part∧zD k.s=zD b∧nN k a h) (∃(h:CaI),h.id=a.c.id∧h.inst=a.inst∧h.o.id=a.o.id∧h.o.side=a.o.side∧h.o.price=a.o.price∧h.o.qty=a.o.qty∧h.o.top=a.o.top∧sb h.m.p.code=sb a.m.p.code∧h.m.p.tick=a.m.p.tick∧h.m.p.low=a.m.p.low∧h.m.p.high=a.m.p.high∧h.m.p.wide=a.m.p.wide∧h.m.p.rule=a.m.p.rule∧h.m.p.top=a.m.p.top∧h.m.p.least=a.m.p.least∧h.m.p.part=a.m.p.part∧zD h.m.s=zD b∧zW h.m.used=zW a.m.used∧AObj.fro 1 (iE h.m.p.months)=yL a.m 3∧AObj.fro 1 (iE h.m.p.settle)=yL a.m 4∧((h.m.Rep h.p h.B h.U∧BOk h.p h.B)∧h.X=gA h.B h.U h.id h.inst h.o)∧∀(j:Mkt),j.Rep h.p h.X.B h.X.U→∃(k:EnI),k.c.kind=1∧k.c.id=a.c.id∧k.c.inst=a.inst∧k.c.side=a.o.side∧k.c.price=a.c.price∧k.c.qty=a.c.qty∧k.c.least=0∧k.c.time=1∧sb k.c.label=ByteArray.mk #[]∧sb k.m.p.code=sb j.p.code∧k.m.p.tick=j.p.tick∧k.m.p.low=j.p.low∧k.m.p.high=j.p.high∧k.m.p.wide=j.p.wide∧k.m.p.rule=j.p.rule∧k.m.p.top=j.p.top∧k.m.p.least=j.p.least∧k.m.p.part=j.p.part∧zD k.m.s=zD j.s∧zW k.m.used=zW j.used∧AObj.fro 1 (iE k.m.p.months)=AObj.fro 1 (iE j.p.months)∧AObj.fro 1 (iE k.m.p.settle)=AObj.fro 1 (iE j.p.settle)∧(mF k)∧∀(l:Mkt),l.Rep k.p k.X.B k.X.U→((List.map xJ h.X.R).length+(List.map xJ k.X.R).length)*(64:Nat)≤(70368744177664:Nat)∧∃(m:Mkt),sb m.p.code=sb l.p.code∧m.p.tick=l.p.tick∧m.p.low=l.p.low∧m.p.high=l.p.high∧m.p.wide=l.p.wide∧m.p.rule=l.p.rule∧m.p.top=l.p.top∧m.p.least=l.p.least∧m.p.part=l.p.part∧zD m.s=zD l.s∧zW m.used=zW l.used∧AObj.fro 1 (iE m.p.months)=AObj.fro 1 (iE l.p.months)∧AObj.fro 1 (iE m.p.settle)=AObj.fro 1 (iE l.p.settle)∧List.map xJ a.X.R=List.map xJ h.X.R++List.map xJ k.X.R∧m.Rep a.p a.X.B a.X.U)
def dJ (a:CaI):Prop:=(a.m.Rep a.p a.B a.U∧BOk a.p a.B)∧((-9223372036854775808)≤a.o.qty-a.q∧a.o.qty-a.q≤9223372036854775807)∧a.X=mT a.B a.U a.id a.q a.inst a.o
def zRq (i:z4a):Prop:=
 ∃(a:pE),sb a.p.code=sb i.m.p.code∧iE a.p.months=iE i.m.p.months∧a.p.tick=i.m.p.tick∧a.p.low=i.m.p.low∧a.p.high=i.m.p.high∧a.p.wide=i.m.p.wide∧a.p.rule=i.m.p.rule∧a.p.top=i.m.p.top∧a.p.least=i.m.p.least∧a.p.part=i.m.p.part∧iE a.p.settle=iE i.m.p.settle∧a.a=i.inst∧a.b=i.c.price∧(xY a)∧∀(b:Unit),True→cnd (a.p.price a.a a.b !=0) (∃(c:RjI),c.c.kind=i.c.kind∧c.c.id=i.c.id∧c.c.inst=i.c.inst∧c.c.side=i.c.side∧c.c.price=i.c.price∧c.c.qty=i.c.qty∧c.c.least=i.c.least∧c.c.time=i.c.time∧sb c.c.label=sb i.c.label∧c.why=a.p.price a.a a.b∧True∧∀(d:Unit),True→∃(e:Mkt),sb e.p.code=sb i.m.p.code∧e.p.tick=i.m.p.tick∧e.p.low=i.m.p.low∧e.p.high=i.m.p.high∧e.p.wide=i.m.p.wide∧e.p.rule=i.m.p.rule∧e.p.top=i.m.p.top∧e.p.least=i.m.p.least∧e.p.part=i.m.p.part∧zD e.s=yL i.m 1∧nN e i c) (cnd (i.c.price==i.o.price) (cnd (decide (i.c.qty≤i.o.qty)) (∃(c:CaI),c.id=i.c.id∧c.q=IntKind.i64.wrap (i.o.qty-i.c.qty)∧c.inst=i.inst∧c.o.id=i.o.id∧c.o.side=i.o.side∧c.o.price=i.o.price∧c.o.qty=i.o.qty∧c.o.top=i.o.top∧sb c.m.p.code=sb i.m.p.code∧c.m.p.tick=i.m.p.tick∧c.m.p.low=i.m.p.low∧c.m.p.high=i.m.p.high∧c.m.p.wide=i.m.p.wide∧c.m.p.rule=i.m.p.rule∧c.m.p.top=i.m.p.top∧c.m.p.least=i.m.p.least∧c.m.p.part=i.m.p.part∧zD c.m.s=yL i.m 1∧zW c.m.used=zW i.m.used∧AObj.fro 1 (iE c.m.p.months)=yL i.m 3∧AObj.fro 1 (iE c.m.p.settle)=yL i.m 4∧(dJ c)∧∀(d:Mkt),d.Rep c.p c.X.B c.X.U→∃(e:Mkt),sb e.p.code=sb d.p.code∧e.p.tick=d.p.tick∧e.p.low=d.p.low∧e.p.high=d.p.high∧e.p.wide=d.p.wide∧e.p.rule=d.p.rule∧e.p.top=d.p.top∧e.p.least=d.p.least∧e.p.part=d.p.part∧zD e.s=zD d.s∧zW e.used=zW d.used∧AObj.fro 1 (iE e.p.months)=AObj.fro 1 (iE d.p.months)∧AObj.fro 1 (iE e.p.settle)=AObj.fro 1 (iE d.p.settle)∧List.map xJ i.X.R=List.map xJ c.X.R∧e.Rep i.p i.X.B i.X.U) (eO i)) (eO i))
def zPq (a:Mkt) (b:EnI) (c:RjI):Prop:=zW a.used=zW b.m.used∧AObj.fro 1 (iE a.p.months)=AObj.fro 1 (iE b.m.p.months)∧AObj.fro 1 (iE a.p.settle)=AObj.fro 1 (iE b.m.p.settle)∧List.map xJ b.X.R=[xJ (Rep.mk 2 c.c.id 0 0 0 0 0 c.why)]∧a.Rep b.p b.X.B b.X.U
def zXu (a:CaI) (b:EnI):Prop:=∀(c:Mkt),c.Rep a.p a.X.B a.X.U→∃(d:Mkt),sb d.p.code=sb c.p.code∧d.p.tick=c.p.tick∧d.p.low=c.p.low∧d.p.high=c.p.high∧d.p.wide=c.p.wide∧d.p.rule=c.p.rule∧d.p.top=c.p.top∧d.p.least=c.p.least∧d.p.part=c.p.part∧zD d.s=zD c.s∧zW d.used=zW c.used∧AObj.fro 1 (iE d.p.months)=AObj.fro 1 (iE c.p.months)∧AObj.fro 1 (iE d.p.settle)=AObj.fro 1 (iE c.p.settle)∧List.map xJ b.X.R=List.map xJ a.X.R∧d.Rep b.p b.X.B b.X.U
def zUv (a:EnI) (b:StI):Prop:=∃(c:CaI),c.id=a.c.id∧c.inst=(zV b.B b.id).fst∧c.o.id=(zV b.B b.id).snd.fst.id∧c.o.side=(zV b.B b.id).snd.fst.side∧c.o.price=(zV b.B b.id).snd.fst.price∧c.o.qty=(zV b.B b.id).snd.fst.qty∧c.o.top=(zV b.B b.id).snd.fst.top∧sb c.m.p.code=sb a.m.p.code∧c.m.p.tick=a.m.p.tick∧c.m.p.low=a.m.p.low∧c.m.p.high=a.m.p.high∧c.m.p.wide=a.m.p.wide∧c.m.p.rule=a.m.p.rule∧c.m.p.top=a.m.p.top∧c.m.p.least=a.m.p.least∧c.m.p.part=a.m.p.part∧zD c.m.s=zD b.s∧zW c.m.used=zW a.m.used∧AObj.fro 1 (iE c.m.p.months)=AObj.fro 1 (iE a.m.p.months)∧AObj.fro 1 (iE c.m.p.settle)=AObj.fro 1 (iE a.m.p.settle)∧((c.m.Rep c.p c.B c.U∧BOk c.p c.B)∧c.X=gA c.B c.U c.id c.inst c.o)∧zXu c a
def z9h (a:EnI):Prop:=∃(b:StI),b.id=a.c.id∧zD b.s=zD a.m.s∧(b.s.Rep b.p b.B∧b.B.length≤1000)∧∀(c:Unit),True→cnd (!(zV b.B b.id).snd.snd) (∃(d:RjI),d.c.kind=a.c.kind∧d.c.id=a.c.id∧d.c.inst=a.c.inst∧d.c.side=a.c.side∧d.c.price=a.c.price∧d.c.qty=a.c.qty∧d.c.least=a.c.least∧d.c.time=a.c.time∧sb d.c.label=sb a.c.label∧d.why=26∧True∧∀(e:Unit),True→∃(f:Mkt),sb f.p.code=sb a.m.p.code∧f.p.tick=a.m.p.tick∧f.p.low=a.m.p.low∧f.p.high=a.m.p.high∧f.p.wide=a.m.p.wide∧f.p.rule=a.m.p.rule∧f.p.top=a.m.p.top∧f.p.least=a.m.p.least∧f.p.part=a.m.p.part∧zD f.s=zD b.s∧zPq f a d) (cnd (a.c.kind==4) (∃(d:z4a),d.c.kind=a.c.kind∧d.c.id=a.c.id∧d.c.inst=a.c.inst∧d.c.side=a.c.side∧d.c.price=a.c.price∧d.c.qty=a.c.qty∧d.c.least=a.c.least∧d.c.time=a.c.time∧sb d.c.label=sb a.c.label∧d.inst=(zV b.B b.id).fst∧d.o.id=(zV b.B b.id).snd.fst.id∧d.o.side=(zV b.B b.id).snd.fst.side∧d.o.price=(zV b.B b.id).snd.fst.price∧d.o.qty=(zV b.B b.id).snd.fst.qty∧d.o.top=(zV b.B b.id).snd.fst.top∧sb d.m.p.code=sb a.m.p.code∧d.m.p.tick=a.m.p.tick∧d.m.p.low=a.m.p.low∧d.m.p.high=a.m.p.high∧d.m.p.wide=a.m.p.wide∧d.m.p.rule=a.m.p.rule∧d.m.p.top=a.m.p.top∧d.m.p.least=a.m.p.least∧d.m.p.part=a.m.p.part∧zD d.m.s=zD b.s∧zW d.m.used=zW a.m.used∧AObj.fro 1 (iE d.m.p.months)=AObj.fro 1 (iE a.m.p.months)∧AObj.fro 1 (iE d.m.p.settle)=AObj.fro 1 (iE a.m.p.settle)∧(d.m.Rep d.p d.B d.U∧BOk d.p d.B∧zV d.B d.c.id=(d.inst,d.o,true)∧(1≤d.c.qty∧d.c.qty≤1000000)∧d.X=fU d.p d.B d.U d.c d.inst d.o)∧∀(e:Mkt),e.Rep d.p d.X.B d.X.U→∃(f:Mkt),sb f.p.code=sb e.p.code∧f.p.tick=e.p.tick∧f.p.low=e.p.low∧f.p.high=e.p.high∧f.p.wide=e.p.wide∧f.p.rule=e.p.rule∧f.p.top=e.p.top∧f.p.least=e.p.least∧f.p.part=e.p.part∧zD f.s=zD e.s∧zW f.used=zW e.used∧AObj.fro 1 (iE f.p.months)=AObj.fro 1 (iE e.p.months)∧AObj.fro 1 (iE f.p.settle)=AObj.fro 1 (iE e.p.settle)∧List.map xJ a.X.R=List.map xJ d.X.R∧f.Rep a.p a.X.B a.X.U) (cnd (a.c.kind==2) (zUv a b) (cnd (decide (a.c.qty≥(zV b.B b.id).snd.fst.qty)) (zUv a b) (∃(d:CaI),d.id=a.c.id∧d.q=a.c.qty∧d.inst=(zV b.B b.id).fst∧d.o.id=(zV b.B b.id).snd.fst.id∧d.o.side=(zV b.B b.id).snd.fst.side∧d.o.price=(zV b.B b.id).snd.fst.price∧d.o.qty=(zV b.B b.id).snd.fst.qty∧d.o.top=(zV b.B b.id).snd.fst.top∧sb d.m.p.code=sb a.m.p.code∧d.m.p.tick=a.m.p.tick∧d.m.p.low=a.m.p.low∧d.m.p.high=a.m.p.high∧d.m.p.wide=a.m.p.wide∧d.m.p.rule=a.m.p.rule∧d.m.p.top=a.m.p.top∧d.m.p.least=a.m.p.least∧d.m.p.part=a.m.p.part∧zD d.m.s=zD b.s∧zW d.m.used=zW a.m.used∧AObj.fro 1 (iE d.m.p.months)=AObj.fro 1 (iE a.m.p.months)∧AObj.fro 1 (iE d.m.p.settle)=AObj.fro 1 (iE a.m.p.settle)∧(dJ d)∧zXu d a))))
def Vdo (i:EnI):Prop:=
 ∃(a:Cmd),a.kind=i.c.kind∧a.id=i.c.id∧a.inst=i.c.inst∧a.side=i.c.side∧a.price=i.c.price∧a.qty=i.c.qty∧a.least=i.c.least∧a.time=i.c.time∧sb a.label=sb i.c.label∧a.label.length≤140737488355328∧∀(b:Unit),True→cnd (a.right !=0) (∃(c:RjI),c.c.kind=i.c.kind∧c.c.id=i.c.id∧c.c.inst=i.c.inst∧c.c.side=i.c.side∧c.c.price=i.c.price∧c.c.qty=i.c.qty∧c.c.least=i.c.least∧c.c.time=i.c.time∧sb c.c.label=sb i.c.label∧c.why=a.right∧True∧∀(d:Unit),True→∃(e:Mkt),sb e.p.code=sb i.m.p.code∧e.p.tick=i.m.p.tick∧e.p.low=i.m.p.low∧e.p.high=i.m.p.high∧e.p.wide=i.m.p.wide∧e.p.rule=i.m.p.rule∧e.p.top=i.m.p.top∧e.p.least=i.m.p.least∧e.p.part=i.m.p.part∧zD e.s=zD i.m.s∧zPq e i c) (cnd (i.c.kind==1) (∃(c:EnI),c.c.kind=i.c.kind∧c.c.id=i.c.id∧c.c.inst=i.c.inst∧c.c.side=i.c.side∧c.c.price=i.c.price∧c.c.qty=i.c.qty∧c.c.least=i.c.least∧c.c.time=i.c.time∧sb c.c.label=sb i.c.label∧sb c.m.p.code=sb i.m.p.code∧c.m.p.tick=i.m.p.tick∧c.m.p.low=i.m.p.low∧c.m.p.high=i.m.p.high∧c.m.p.wide=i.m.p.wide∧c.m.p.rule=i.m.p.rule∧c.m.p.top=i.m.p.top∧c.m.p.least=i.m.p.least∧c.m.p.part=i.m.p.part∧zD c.m.s=zD i.m.s∧zW c.m.used=zW i.m.used∧AObj.fro 1 (iE c.m.p.months)=AObj.fro 1 (iE i.m.p.months)∧AObj.fro 1 (iE c.m.p.settle)=AObj.fro 1 (iE i.m.p.settle)∧((c.m.Rep c.p c.B c.U∧BOk c.p c.B)∧c.c.right=0∧c.c.kind=1∧c.X=mI c.p c.B c.U c.c)∧rW c i) ((z9h i)∧i.c.id=i.c.id∧True∧z9h i))
def yCz (i:MfI):Prop:=
 ∃(i_1:SoI),zD i_1.s=zD i.m.s∧(i_1.s.Rep i_1.p i_1.B∧i_1.B.length≤1000)∧∀(o:Unit),True→∃(o:Unit),(↑(tK i.B):Int)=(↑(tK i_1.B):Int)∧sb i.m.p.code=sb i.m.p.code∧i.m.p.tick=i.m.p.tick∧i.m.p.low=i.m.p.low∧i.m.p.high=i.m.p.high∧i.m.p.wide=i.m.p.wide∧i.m.p.rule=i.m.p.rule∧i.m.p.top=i.m.p.top∧i.m.p.least=i.m.p.least∧i.m.p.part=i.m.p.part∧zD i.m.s=zD i_1.s∧zW i.m.used=zW i.m.used∧AObj.fro 1 (iE i.m.p.months)=AObj.fro 1 (iE i.m.p.months)∧AObj.fro 1 (iE i.m.p.settle)=AObj.fro 1 (iE i.m.p.settle)∧True
set_option linter.unusedSimpArgs false
open Go Cv Go.Proofs
theorem zBz (p:Prd) (B:List (List zH)) (U:List Int) (c:Cmd):bS p B U c=⟨if(jQ p B c.inst (decide (c.side=2)) c.price c.qty).left≠0∧c.time=1 then(zUw p (jQ p B c.inst (decide (c.side=2)) c.price c.qty).B c.inst c.id c.side c.price (jQ p B c.inst (decide (c.side=2)) c.price c.qty).left).1 else(jQ p B c.inst (decide (c.side=2)) c.price c.qty).B,zKo U c.id,
 (⟨1,c.id,c.inst,c.side,c.price,c.qty,c.qty,0⟩::nI p c (jQ p B c.inst (decide (c.side=2)) c.price c.qty).steps c.qty)++if(jQ p B c.inst (decide (c.side=2)) c.price c.qty).left≠0∧c.time≠1 then[⟨4,c.id,c.inst,c.side,c.price,(jQ p B c.inst (decide (c.side=2)) c.price c.qty).left,0,0⟩]else[]⟩:=by
 rw[bS]
theorem zLh {p:Prd} {B:List (List zH)} (h:BWf p B) (U:List Int) (c:Cmd):BOk p (bS p B U c).B:=by
 have:=(aX (inst:=c.inst) (sd:=decide (c.side=2)) (price:=c.price) _ c.qty B (ySk _) h).1.ok
 rw[zBz]
 dsimp only
 split
 ·exact this.add _ _ _ _ _
 ·exact this
theorem z3t {p:Prd} {B:List (List zH)} (h:BWf p B) (U:List Int) (c:Cmd):BOk p (mI p B U c).B:=by
 rw[mI]
 split
 ·exact h.ok
 split
 ·exact h.ok
 split
 ·exact h.ok
 split
 ·exact h.ok
 split
 ·exact h.ok
 exact zLh h U c
theorem yKd {p:Prd} {B:List (List zH)} (h:BWf p B) (U:List Int) (c:Cmd):BOk p (doF p B U c).B:=by
 rw[doF]
 split
 ·exact h.ok
 split
 ·exact z3t h U c
 split
 ·exact h.ok
 split
 ·rw[fU]
  split
  ·exact h.ok
  split
  ·exact h.ok.take _ _
  split
  ·exact h.ok
  exact zLh (h.take _ _) U _
 split
 ·exact h.ok.take _ _
 ·exact h.ok.take _ _
open Go Cv Go.Proofs
def Two (L:List zH):Prop:=L=pL L 1++pL L 2
open Go Cv Go.Proofs
open Go Cv Go.Proofs
open Go Cv Go.Proofs
theorem pK {inst s:Int} {f:fW}:∀{os:List zH} {sh:List Int},f∈xR inst s os sh→f.side=s∧f.inst=inst∧∃o∈os,f.price=o.price
 |[],sh,h=>by cases h
 |o::os,[],h=>by cases h
 |o::os,k::sh,h=>by
  rw[xR]at h
  split at h
  ·rcases yRy.1 h with rfl|h
   ·exact⟨rfl,rfl,o,yRj,rfl⟩
   ·obtain⟨a,b,o',c,d⟩:=pK h
    exact⟨a,b,o',yRk _ c,d⟩
  ·obtain⟨a,b,o',c,d⟩:=pK h
   exact⟨a,b,o',yRk _ c,d⟩
def FOk (f:fW):Prop:=(f.side=1∨f.side=2)∧-2000000≤f.price∧f.price≤2000000
theorem zDo {p:Prd} {B:List (List zH)} (h:BOk p B) (inst:Int) {s:Int} (hs:s=1∨s=2) (q:Int):∀f∈qG p B inst s q,FOk f:=by
 intro f hf
 obtain⟨a,_,o,ho,e⟩:=pK hf
 refine⟨by rw[a];exact hs,?_⟩
 rw[e]
 have ho:=(yTf.1 ho).1
 by_cases hk:inst.toNat<B.length
 ·obtain⟨L,hL⟩:=yD hk
  rw[zR hL]at ho
  exact h.prices hL o ho
 ·rw[yRl,ySi (by omega)]at ho;cases ho
def SOk (t:jU):Prop:=(-2000000≤t.price∧t.price≤2000000)∧(∀f∈t.fills,FOk f)∧t.fills.length≤500
theorem yDc {p:Prd} {B:List (List zH)} (h:BWf p B) {inst:Int} (hi:0≤inst∧inst<B.length) {s:Int} (hs:s=1∨s=2) (hn:(yO p B inst s).2.2=true): -2000000≤(yO p B inst s).1.price∧(yO p B inst s).1.price≤2000000:=by
 rw[yO]at hn ⊢
 obtain⟨L,hL⟩:=yD (l:=B) (i:=inst.toNat) (by omega)
 rw[zR hL]at hn ⊢
 split
 ·exact zPl (h.ok.prices hL)
 ·rename_i c
  rw[yRd c]at hn
  have hm:=zLz hn
  have:=(yTf.1 hm).2
  exact zAg h.ok.pc (yTx this)
theorem yCt {p:Prd} {B:List (List zH)} (h:BWf p B) {inst:Int} (hi:0≤inst∧inst<B.length) {sd:Bool} {price q:Int} {t:jU} {B':List (List zH)} (e:cU p B inst sd price q=some (t,B')):SOk t:=by
 have hs:zC (!sd)=1∨zC (!sd)=2:=l7 _
 have hb:=yDc h hi hs
 have hin:=zZk h.ok h.od hi hs
 rw[cU]at e
 dsimp only at e
 split at e
 ·rename_i c
  have c1:(yO p B inst (zC (!sd))).2.2=true:=by
   cases hx:(yO p B inst (zC (!sd))).2.2 with
   |false=>rw[hx]at c;cases c
   |true=>rfl
  have hb:=hb c1
  obtain⟨_,hin,_⟩:=hin c1
  split at e
  ·rename_i c2
   obtain⟨_,ok⟩:=hin c2
   cases e
   refine⟨hb,fun f hf=> ?_,?_⟩
   ·rcases ySg.1 hf with hf|hf
    ·exact zDo h.ok _ ok.sa _ f hf
    ·exact zDo h.ok.takes _ ok.sb _ f hf
   ·dsimp only
    rw[yRi]
    have:=aT (p:=p) h.od (yO p B inst (zC (!sd))).1.a.inst (yO p B inst (zC (!sd))).1.a.side (min q (yO p B inst (zC (!sd))).1.qty)
    have:=aT (p:=p) (h.takes (fs:=qG p B (yO p B inst (zC (!sd))).1.a.inst (yO p B inst (zC (!sd))).1.a.side (min q (yO p B inst (zC (!sd))).1.qty))).od (yO p B inst (zC (!sd))).1.b.inst (yO p B inst (zC (!sd))).1.b.side (min q (yO p B inst (zC (!sd))).1.qty)
    omega
  ·cases e
   refine⟨hb,fun f hf=>zDo h.ok _ hs _ f hf,?_⟩
   have:=aT (p:=p) h.od inst (zC (!sd)) (min q (yO p B inst (zC (!sd))).1.qty)
   dsimp only
   omega
 ·cases e
open Go Cv Go.Proofs
open Go Cv Go.Proofs
def lF (a:StI):Prop:=yS a.s.wh=yS a.s.wh∧AObj.fro 1 (iE a.s.p.months)=AObj.fro 1 (iE a.s.p.months)∧AObj.fro 1 (iE a.s.p.settle)=AObj.fro 1 (iE a.s.p.settle)∧True
def z4t (i:StI):Prop:=
 (cZ i)∧∃(a:Bool),∃(b:Int),(nJ i b a)∧cnd (!a) (∃(c:Unit),(zV i.B i.id).fst=0∧(zV i.B i.id).snd.fst.id=0∧(zV i.B i.id).snd.fst.side=0∧(zV i.B i.id).snd.fst.price=0∧(zV i.B i.id).snd.fst.qty=0∧(zV i.B i.id).snd.fst.top=false∧(zV i.B i.id).snd.snd=false∧sb i.s.p.code=sb i.s.p.code∧i.s.p.tick=i.s.p.tick∧i.s.p.low=i.s.p.low∧i.s.p.high=i.s.p.high∧i.s.p.wide=i.s.p.wide∧i.s.p.rule=i.s.p.rule∧i.s.p.top=i.s.p.top∧i.s.p.least=i.s.p.least∧i.s.p.part=i.s.p.part∧AObj.objs 184 Book 6 zQ i.s.books none=AObj.objs 184 Book 6 zQ i.s.books none∧lF i) ((0≤b∧b<(↑i.s.books.length:Int))∧b.toNat<i.s.books.length∧∃(c:Book),i.s.books[b.toNat]?=some c∧∃(d:FlI),d.id=i.id∧yA d.b=yA c∧d.b.Rep d.L∧∀(e:Unit),True→∃(f:Book),yA d.b=yA f∧b.toNat=b.toNat∧b.toNat<i.s.books.length∧∃(g:Unit),(zV i.B i.id).fst=b∧(zV i.B i.id).snd.fst.id=(gW d.L d.id).id∧(zV i.B i.id).snd.fst.side=(gW d.L d.id).side∧(zV i.B i.id).snd.fst.price=(gW d.L d.id).price∧(zV i.B i.id).snd.fst.qty=(gW d.L d.id).qty∧(zV i.B i.id).snd.fst.top=(gW d.L d.id).top∧(zV i.B i.id).snd.snd=true∧sb i.s.p.code=sb i.s.p.code∧i.s.p.tick=i.s.p.tick∧i.s.p.low=i.s.p.low∧i.s.p.high=i.s.p.high∧i.s.p.wide=i.s.p.wide∧i.s.p.rule=i.s.p.rule∧i.s.p.top=i.s.p.top∧i.s.p.least=i.s.p.least∧i.s.p.part=i.s.p.part∧AObj.objs 184 Book 6 zQ i.s.books none=AObj.objs 184 Book 6 zQ (i.s.books.set b.toNat f) none∧lF i)
open Go Cv Go.Proofs
theorem yKm (i:StI) (h:sfindC.cnd i):z4t i:=by
 obtain⟨hR,hB⟩:i.s.Rep i.p i.B∧i.B.length≤1000:=h
 have hat:=hR.at_ i.id
 unfold z4t cZ nJ lF dI
 rw[zV]
 cases hi:cD i.B i.id with
 |none=>
  rw[hi]at hat
  exact⟨gV _ _,false,0,.inr ⟨by rw[aS,hat];rfl,rfl,rfl⟩,Cv.cnd.mk (fun _=>⟨(),by(repeat'(first|exact trivial|exact rfl|apply And.intro))⟩) (fun e=>absurd e (by decide))⟩
 |some k=>
  rw[hi]at hat
  obtain⟨L,hL,hh⟩:=uU hi
  have hk:=(yRf.1 hL).1
  obtain⟨b,hb⟩:=yD (l:=i.s.books) (i:=k) (by rw[hR.bl];exact hk)
  have hbR:=hR.bk k b L hb hL
  have hbl:=hR.bl
  refine⟨gV _ _,true,k,.inl ⟨by rw[aS,hat];rfl,rfl⟩,Cv.cnd.mk (fun e=>absurd e (by decide)) (fun _=> ?_)⟩
  dsimp only
  rw[yRx,zR hL]
  have hs:=u6 hb
  refine⟨⟨by omega,by omega⟩,by omega,b,hb,⟨b,L,i.id,0⟩,rfl,rfl,hbR,fun _ _=>⟨b,rfl,rfl,by omega,(),?_⟩⟩
  rw[hs]
  (repeat'(first|exact trivial|exact rfl|apply And.intro))
theorem z5b:sfindC.ok Tryz.prog 55:=okw mixed (gokc zTn gok0) 0 (fun _=>[]) (fun _=>[]) [0] Tryz.func55 yKm
open Go Cv Go.Proofs
theorem zLr (id:Int) (U:List Int):∀p∈zW U,like (Value.int IntKind.i64 id) p.1=true:=by
 intro p hp
 obtain⟨k,_,rfl⟩:=ySm.1 hp
 rfl
theorem zMw (id:Int):∀U:List Int,vI (Value.int IntKind.i64 id) [D.v (.bool true)] (zW U)=zW (zKo U id)
 |[]=>rfl
 |k::U=>by
  have ih:=zMw id U
  have e:dD (Value.int IntKind.i64 id) (Value.int IntKind.i64 k)=decide (id=k):=by simp[dD,keq]
  show(bif dD (Value.int IntKind.i64 id) (Value.int IntKind.i64 k)then(Value.int IntKind.i64 k,[D.v (.bool true)])::zW U else(Value.int IntKind.i64 k,[D.v (.bool true)])::vI (Value.int IntKind.i64 id) [D.v (.bool true)] (zW U))=_
  rw[e,ih]
  by_cases c:id=k
  ·rw[yRu c,cond_true,zKo,yRe (by rw[c];exact yRj)];rfl
  ·rw[yRo c,cond_false,zKo,zKo]
   have hm:id∈k::U↔id∈U:=by simp[c]
   by_cases d:id∈U
   ·rw[yRe d,yRe (hm.2 d)];rfl
   ·rw[yRd d,yRd (fun x=>d (hm.1 x))];rfl
theorem zMy (id:Int):∀U:List Int,qK (Value.int IntKind.i64 id) (zW U)=if id∈U then some [D.v (.bool true)]else none
 |[]=>rfl
 |k::U=>by
  have ih:=zMy id U
  have e:dD (Value.int IntKind.i64 id) (Value.int IntKind.i64 k)=decide (id=k):=by simp[dD,keq]
  show(bif dD (Value.int IntKind.i64 id) (Value.int IntKind.i64 k)then some [D.v (.bool true)]else qK (Value.int IntKind.i64 id) (zW U))=_
  rw[e,ih]
  by_cases c:id=k
  ·rw[yRu c,cond_true,yRe (by rw[c];exact yRj)]
  ·rw[yRo c,cond_false]
   have hm:id∈k::U↔id∈U:=by simp[c]
   by_cases d:id∈U
   ·rw[yRe d,yRe (hm.2 d)]
   ·rw[yRd d,yRd (fun x=>d (hm.1 x))]
theorem z5v (id:Int) (U:List Int):qK (Value.int IntKind.i64 id) (zW U)=some [D.v (.bool (decide (id∈U)))]∧decide (id∈U)=true∨qK (Value.int IntKind.i64 id) (zW U)=none∧[D.v (.bool (decide (id∈U)))]=[D.v (.bool false)]∧decide (id∈U)=false:=by
 rw[zMy]
 by_cases c:id∈U
 ·rw[yRe c,yRu c];exact .inl ⟨rfl,rfl⟩
 ·rw[yRd c,yRo c];exact .inr ⟨rfl,rfl,rfl⟩
theorem zPw {p:Prd} {inst:Int} {sd:Bool} {price:Int}:∀(m:Nat) (q:Int) (B:List (List zH)),q.toNat≤m→BWf p B→0≤inst∧inst<B.length→
 (∀t∈(jQ p B inst sd price q).steps,SOk t∧1≤t.qty)∧((jQ p B inst sd price q).steps.map (·.qty)).sum=q-(jQ p B inst sd price q).left
 |m,q,B,hm,h,hi=>by
  by_cases hq:q≤0
  ·rw[rI (.inl hq)];exact⟨fun t ht=>(by cases ht),by simp⟩
  cases hs:cU p B inst sd price q with
  |none=>rw[rI (.inr hs)];exact⟨fun t ht=>(by cases ht),by simp⟩
  |some x=>
   obtain⟨t,C⟩:=x
   obtain⟨k1,k2⟩:=zMi h hs
   have hq2:=zGj (by omega) hs
   cases m with
   |zero=>omega
   |succ m=>
   obtain⟨i1,i2⟩:=zPw (p:=p) (inst:=inst) (sd:=sd) (price:=price) m (q-t.qty) C (by omega) k1 (by rw[k2];exact hi)
   rw[zIq (by omega) hs]
   refine⟨fun u hu=> ?_,?_⟩
   ·rcases yRy.1 hu with rfl|hu
    ·exact⟨yCt h hi hs,hq2.1⟩
    ·exact i1 u hu
   ·dsimp only
    rw[yRs,ySn,i2];omega
theorem yGe {α:Type} {f:α→List Rep} (hf:∀x,(f x).length≤3):∀l:List α,(l.flatMap f).length≤3*l.length
 |[]=>ySk _
 |x::l=>by
  have:=yGe hf l
  have:=hf x
  rw[ySt,yRi,yRt];omega
theorem zLx (p:Prd) (c:Cmd) (x:jU) (left:Int):(aB p c x left).length≤3*x.fills.length+3:=by
 rw[aB,yRi]
 have:=yGe (fun f=>zIz p x (zBa f)) x.fills
 have:=zIz p x ⟨3,c.id,c.inst,c.side,x.price,x.qty,left,0⟩
 omega
theorem zOm {l:List jU} (h:∀t∈l,SOk t∧1≤t.qty):(l.length:Int)≤(l.map (·.qty)).sum:=by
 induction l with
 |nil=>exact yWy _
 |cons t l ih=>
  have:=ih fun u hu=>h u (yRk _ hu)
  have:=(h t yRj).2
  rw[yRs,ySn,yRt];omega
theorem yIi (i:EnI) (h:enterC.cnd i):z6e i:=by
 obtain⟨m,p,B,U,c,X⟩:=i
 have h':(m.Rep p B U∧BOk p B)∧((0≤c.inst∧c.inst<B.length)∧(1≤c.qty∧c.qty≤1000000)∧(c.side=1∨c.side=2))∧p.price c.inst c.price=0∧X=bS p B U c:=h
 clear h
 obtain⟨⟨⟨ep,hR,eu⟩,hB⟩,⟨⟨h0,h1⟩,hq,hs⟩,hpz,hX⟩:=h'
 subst ep eu hX
 have hwf:=hR.wf hB
 obtain⟨k1,k2,k3⟩:=aX (inst:=c.inst) (sd:=decide (c.side=2)) (price:=c.price) _ c.qty B (ySk _) hwf
 have k3:=k3 (by omega)
 obtain⟨s1,s2⟩:=zPw (inst:=c.inst) (sd:=decide (c.side=2)) (price:=c.price) _ c.qty B (ySk _) hwf ⟨h0,h1⟩
 have hX:=zBz m.p B m.used c
 have hbd:=zAg hB.pc hpz
 unfold z6e qE wR lB dI
 dsimp only
 rw[zMw,hX]
 refine⟨zLr _ _,⟨m.s,m.p,B,c.inst,decide (c.side=2),c.price,c.qty⟩,rfl,uV hs,rfl,rfl,rfl,⟨hR,hB,⟨h0,h1⟩,hq.1,hq.2⟩,fun o ho=> ?_⟩
 have er:RunI.r ⟨m.s,m.p,B,c.inst,decide (c.side=2),c.price,c.qty⟩=jQ m.p B c.inst (decide (c.side=2)) c.price c.qty:=rfl
 rw[er]at ho ⊢
 clear hX er
 generalize jQ m.p B c.inst (decide (c.side=2)) c.price c.qty=R at*
 obtain⟨ts,lf,RB⟩:=R
 dsimp only at*
 have hlen:=zOm s1
 have e4:(ts.map jL).length=ts.length:=yRg ..
 refine⟨⟨c.qty,0,[⟨1,c.id,c.inst,c.side,c.price,c.qty,c.qty,0⟩]⟩,rfl,rfl,rfl,fun j=>j.k≤ts.length∧j.left=lf+((ts.drop j.k).map (·.qty)).sum∧(⟨1,c.id,c.inst,c.side,c.price,c.qty,c.qty,0⟩::nI m.p c ts c.qty)=j.out++nI m.p c (ts.drop j.k) j.left∧j.out.length≤1+1503*j.k,fun j=>ts.length-j.k,⟨ySr _,by dsimp only;rw[yUk,s2];omega,rfl,ySk _⟩,?_⟩
 rintro⟨left,k,out⟩ ⟨j1,j2,j3,j4⟩
 dsimp only at j1 j2 j3 j4 ⊢
 have e5:(out.map xJ).length=out.length:=yRg ..
 refine zI (fun c1=> ?_) (fun c1=> ?_)
 ·obtain⟨t,ht⟩:=yD (l:=ts) (i:=k) (by omega)
  have hd:ts.drop k=t::ts.drop (k+1):=by rw[yTp (by omega),(yRf.1 ht).2]
  obtain⟨⟨t1,t2,t3⟩,t4⟩:=s1 t (yRp ht)
  have hsd:=zOm (l:=ts.drop (k+1)) fun u hu=>s1 u (yUm hu)
  have hsk:((ts.drop k).map (·.qty)).sum≤(ts.map (·.qty)).sum:=by
   have:=zOm (l:=ts.take k) fun u hu=>s1 u (yWg hu)
   have e:(ts.map (·.qty)).sum=((ts.take k).map (·.qty)).sum+((ts.drop k).map (·.qty)).sum:=by
    rw[← List.sum_append,← yRm,yTq]
   omega
  rw[hd,yRs,ySn]at j2 hsk
  rw[hd,nI]at j3
  have hrl:=zLx m.p c t (left-t.qty)
  have e6:((aB m.p c t (left-t.qty)).map xJ).length=(aB m.p c t (left-t.qty)).length:=yRg ..
  have hw:IntKind.i64.wrap (left-t.qty)=left-t.qty:=w64 (by omega)
  refine⟨⟨by omega,by omega⟩,t.price,t.qty,t.implied,t.fills.map yR,elA ht (by simp[jL]) rfl,?_⟩
  rw[hw]
  refine⟨⟨⟨m.p,o,zKo m.used c.id⟩,c,t,left-t.qty⟩,rfl,rfl,rfl,rfl,rfl,rfl,rfl,rfl,rfl,rfl,rfl,rfl,rfl,rfl,rfl,rfl,rfl,rfl,rfl,rfl,rfl,rfl,rfl,rfl,rfl,rfl,rfl,⟨⟨hB.pc,hB.ps⟩,⟨by dsimp only;omega,by dsimp only;omega⟩,by dsimp only;omega,hs,fun f hf=>(t2 f hf).1⟩,fun _ _=>⟨by dsimp only;rw[e5,e6];omega,⟨left-t.qty,k+1,out++aB m.p c t (left-t.qty)⟩,rfl,wjn (by omega),by dsimp only;rw[yRm],⟨by dsimp only;omega,by dsimp only;omega,by dsimp only;rw[j3,yRn],by dsimp only;rw[yRi];omega⟩,by dsimp only;omega,by(repeat'(first|exact trivial|exact rfl|apply And.intro))⟩⟩
 have hk:k=ts.length:=by omega
 subst hk
 rw[List.drop_of_length_le (ySk _)]at j2 j3
 rw[nI,ySa]at j3
 rw[← j3]
 rw[← j3]at e5 j4
 have hRB:=k1.ok
 refine Cv.cnd.mk (fun e=> ?_) (fun e=>Cv.cnd.mk (fun e2=> ?_) (fun e2=> ?_))
 ·have e:lf=0:=by simpa using e
  rw[yRd (by omega),yRd (by omega),ySa]
  exact⟨⟨m.p,o,zKo m.used c.id⟩,rfl,rfl,rfl,rfl,rfl,rfl,rfl,rfl,rfl,rfl,rfl,rfl,rfl,rfl,rfl,ho,rfl⟩
 ·have e:¬lf=0:=by simpa using e
  have e2:c.time=1:=by simpa using e2
  rw[yRd (show ¬(lf≠0∧c.time≠1)by omega),yRe (show lf≠0∧c.time=1 from⟨e,e2⟩),ySa]
  have ha:=(ho.add c.inst c.id (decide (c.side=2)) c.price lf).1
  rw[uV hs]at ha
  exact⟨⟨o,c.inst,c.id,decide (c.side=2),c.price,lf⟩,rfl,rfl,uV hs,rfl,rfl,rfl,ho.fit hRB,fun _ _=>⟨⟨m.p,(MSt.addF ⟨o,c.inst,c.id,decide (c.side=2),c.price,lf⟩).1,zKo m.used c.id⟩,rfl,rfl,rfl,rfl,rfl,rfl,rfl,rfl,rfl,rfl,rfl,rfl,rfl,rfl,rfl,ha,rfl⟩⟩
 ·have e:¬lf=0:=by simpa using e
  have e2:¬c.time=1:=by simpa using e2
  rw[yRe (show lf≠0∧c.time≠1 from⟨e,e2⟩),yRd (show ¬(lf≠0∧c.time=1)by omega)]
  exact⟨by rw[e5];omega,⟨m.p,o,zKo m.used c.id⟩,rfl,rfl,rfl,rfl,rfl,rfl,rfl,rfl,rfl,rfl,rfl,rfl,rfl,by rw[yRm];rfl,rfl,ho,rfl⟩
theorem zSu:enterC.ok Tryz.prog 112:=okw mixed (gokc zVd (gokc yBq (gokc yEh gok0))) 0 (fun _=>[]) (fun i=>yJj i) [] Tryz.func112 yIi
theorem mcount_ok:mcountC.ok Tryz.prog 25:=okw (V:=yCz) mixed (gokc zHw gok0) 0 (fun _=>[]) (fun _=>[]) [0] Tryz.func25 fun(i:MfI) h=>by
 obtain⟨m,p,B,U,id⟩:=i
 have h':m.Rep p B U∧BOk p B:=h
 clear h
 obtain⟨⟨ep,hR,eu⟩,hB⟩:=h'
 subst ep eu
 have:=xQ m.p
 have:=hB.bl
 exact⟨⟨m.s,m.p,B,0,false⟩,rfl,⟨hR,by dsimp only;omega⟩,fun _ _=>⟨(),by(repeat'(first|exact trivial|exact rfl|apply And.intro))⟩⟩
theorem zMx:cancelC.ok Tryz.prog 61:=okw (V:=yEb) mixed (gokc zBh gok0) 0 (fun _=>[]) (fun _=>[]) [] Tryz.func61 fun(i:CaI) h=>by
 obtain⟨m,p,B,U,id,q,inst,o,X⟩:=i
 have h':(m.Rep p B U∧BOk p B)∧X=gA B U id inst o:=h
 clear h
 obtain⟨⟨⟨ep,hR,eu⟩,hB⟩,hX⟩:=h'
 subst ep eu hX
 have:=xQ m.p
 have:=hB.bl
 exact⟨⟨m.s,m.p,B,id,o.qty⟩,rfl,rfl,rfl,⟨hR,by dsimp only;omega⟩,fun o' ho=>⟨⟨m.p,o',m.used⟩,rfl,rfl,rfl,rfl,rfl,rfl,rfl,rfl,rfl,rfl,rfl,rfl,rfl,rfl,rfl,ho,rfl⟩⟩
theorem zLa:reduceC.ok Tryz.prog 62:=okw (V:=z0c) mixed (gokc zBh gok0) 0 (fun _=>[]) (fun _=>[]) [] Tryz.func62 fun(i:CaI) h=>by
 obtain⟨m,p,B,U,id,q,inst,o,X⟩:=i
 have h':(m.Rep p B U∧BOk p B)∧yU (o.qty-q)∧X=mT B U id q inst o:=h
 clear h
 obtain⟨⟨⟨ep,hR,eu⟩,hB⟩,hw,hX⟩:=h'
 subst ep eu hX
 have:=xQ m.p
 have:=hB.bl
 have hw:=w64 hw
 unfold z0c dI
 dsimp only
 rw[hw]
 exact⟨⟨m.s,m.p,B,id,q⟩,rfl,rfl,rfl,⟨hR,by dsimp only;omega⟩,fun o' ho=>⟨⟨m.p,o',m.used⟩,rfl,rfl,rfl,rfl,rfl,rfl,rfl,rfl,rfl,rfl,rfl,rfl,rfl,rfl,rfl,ho,rfl⟩⟩
theorem zNh {c:Cmd} (h:c.right=0):(if c.kind=1 then c.orderE else if c.kind≠2∧kF c.qty=false then 24 else if c.kind=4∧vB c.price=false then 23 else 0)=0:=by
 rw[Cmd.right]at h
 by_cases c1:c.kind<1∨4<c.kind
 ·rw[yRe c1]at h;cases h
 rw[yRd c1]at h
 by_cases c2:c.id<1∨1099511627776<c.id
 ·rw[yRe c2]at h;cases h
 rw[yRd c2]at h
 exact h
theorem zLb {c:Cmd} (h:c.right=0) (hk:c.kind=1):(c.side=1∨c.side=2)∧(1≤c.qty∧c.qty≤1000000)∧(0≤c.least∧c.least≤c.qty):=by
 have h:=zNh h
 rw[yRe hk,Cmd.orderE]at h
 by_cases c1:c.side≠1∧c.side≠2
 ·rw[yRe c1]at h;cases h
 rw[yRd c1]at h
 by_cases c2:c.time<1∨3<c.time
 ·rw[yRe c2]at h;cases h
 rw[yRd c2]at h
 cases c3:kF c.qty with
 |false=>rw[yRe c3]at h;cases h
 |true=>
  rw[yRd (by rw[c3];decide)]at h
  by_cases c4:c.least<0∨c.qty<c.least
  ·rw[yRe c4]at h;cases h
  simp only[kF,yRq,ySs]at c3
  exact⟨by omega,c3,by omega⟩
theorem zDc {c:Cmd} (h:c.right=0) (hk:¬c.kind=1) (hk2:¬c.kind=2):1≤c.qty∧c.qty≤1000000:=by
 have h:=zNh h
 rw[yRd hk]at h
 cases c3:kF c.qty with
 |false=>rw[yRe ⟨hk2,c3⟩]at h;cases h
 |true=>
  simp only[kF,yRq,ySs]at c3
  exact c3
theorem yMb (i:EnI) (h:orderC.cnd i):yAb i:=by
 obtain⟨m,p,B,U,c,X⟩:=i
 have h':(m.Rep p B U∧BOk p B)∧c.right=0∧c.kind=1∧X=mI p B U c:=h
 clear h
 obtain⟨⟨hM,hB⟩,hr,hkd,hX⟩:=h'
 obtain⟨ep,hR,eu⟩:=hM
 subst ep eu
 have hM:m.Rep m.p B m.used:=⟨rfl,hR,rfl⟩
 obtain⟨hs,hq,hl⟩:=zLb hr hkd
 have hbl:=hB.bl
 have hcl:=xQ m.p
 unfold yAb qE rW rT zCk lH zBv zCt zDh zDx wR mF xY dI
 dsimp only
 refine⟨⟨m.p,c.inst,c.price⟩,rfl,rfl,rfl,rfl,rfl,rfl,rfl,rfl,rfl,rfl,rfl,rfl,rfl,hB.ps,fun _ _=>Cv.cnd.mk (fun e=> ?_) (fun e=> ?_)⟩
 ·have e:m.p.price c.inst c.price≠0:=by simpa using e
  have hx:X=⟨B,m.used,bQ c (m.p.price c.inst c.price)⟩:=by rw[hX,mI,yRe e]
  exact⟨⟨c,m.p.price c.inst c.price⟩,rfl,rfl,rfl,rfl,rfl,rfl,rfl,rfl,rfl,rfl,trivial,fun _ _=>⟨m,rfl,rfl,rfl,rfl,rfl,rfl,rfl,rfl,rfl,rfl,rfl,rfl,rfl,by rw[hx];rfl,by rw[hx];exact hM⟩⟩
 have hpz:m.p.price c.inst c.price=0:=by simpa using e
 have hin:=zKa hpz
 have hib:0≤c.inst∧c.inst<B.length:=by omega
 rw[mI,yRd (by rw[hpz];decide)]at hX
 refine⟨0,fun l=>l=c.lst,Cv.cnd.mk (fun e=>⟨c.qty,rfl,by rw[Cmd.lst,yRe (by simpa using e)],by(repeat'(first|exact trivial|exact rfl|apply And.intro))⟩) (fun e=>⟨c.least,rfl,by rw[Cmd.lst,yRd (by simpa using e)],by(repeat'(first|exact trivial|exact rfl|apply And.intro))⟩),?_⟩
 rintro _ rfl
 refine⟨zLr _ _,_,_,z5v _ _,zI (fun e=> ?_) (fun e=> ?_)⟩
 ·have hx:X=⟨B,m.used,bQ c 25⟩:=by rw[hX,yRe e]
  exact⟨⟨c,25⟩,rfl,rfl,rfl,rfl,rfl,rfl,rfl,rfl,rfl,rfl,trivial,fun _ _=>⟨m,rfl,rfl,rfl,rfl,rfl,rfl,rfl,rfl,rfl,rfl,rfl,rfl,rfl,by rw[hx];rfl,by rw[hx];exact hM⟩⟩
 rw[yRd e]at hX
 refine⟨⟨m.s,m.p,B,0,false⟩,rfl,⟨hR,by dsimp only;omega⟩,fun _ _=>zI (fun e=> ?_) (fun e=> ?_)⟩
 ·have hx:X=⟨B,m.used,bQ c 13⟩:=by rw[hX,yRe (by dsimp only at e;omega)]
  exact⟨⟨c,13⟩,rfl,rfl,rfl,rfl,rfl,rfl,rfl,rfl,rfl,rfl,trivial,fun _ _=>⟨m,rfl,rfl,rfl,rfl,rfl,rfl,rfl,rfl,rfl,rfl,rfl,rfl,rfl,by rw[hx];rfl,by rw[hx];exact hM⟩⟩
 rw[yRd (by dsimp only at e;omega)]at hX
 have hok:RunI.ok ⟨m.s,m.p,B,c.inst,decide (c.side=2),c.price,c.qty⟩:=⟨hR,hB,hib,hq.1,hq.2⟩
 refine⟨true,fun b=>b=decide (0<c.lst∧c.qty-(jQ m.p B c.inst (decide (c.side=2)) c.price c.qty).left<c.lst),zI (fun e=>⟨⟨m.s,m.p,B,c.inst,decide (c.side=2),c.price,c.qty⟩,rfl,uV hs,rfl,rfl,rfl,hok,fun _ _=>⟨_,rfl,decide_eq_decide.2 ⟨fun x=>⟨e,x⟩,fun x=>x.2⟩,by(repeat'(first|exact trivial|exact rfl|apply And.intro))⟩⟩) (fun e=>⟨false,rfl,(yRo fun x=>e x.1).symm,by(repeat'(first|exact trivial|exact rfl|apply And.intro))⟩),?_⟩
 rintro _ rfl
 refine zI (fun e=> ?_) (fun e=> ?_)
 ·have hx:X=⟨B,m.used,bQ c 28⟩:=by rw[hX,yRe e]
  exact⟨⟨c,28⟩,rfl,rfl,rfl,rfl,rfl,rfl,rfl,rfl,rfl,rfl,trivial,fun _ _=>⟨m,rfl,rfl,rfl,rfl,rfl,rfl,rfl,rfl,rfl,rfl,rfl,rfl,rfl,by rw[hx];rfl,by rw[hx];exact hM⟩⟩
 rw[yRd e]at hX
 refine⟨true,fun b=>b=decide (c.time=1∧cB m.p B c.inst (decide (c.side=2)) c.price c.qty=true),Cv.cnd.mk (fun e=>⟨⟨m.s,m.p,B,c.inst,decide (c.side=2),c.price,c.qty⟩,rfl,uV hs,rfl,rfl,rfl,hok,fun _ _=>⟨_,rfl,?_,by(repeat'(first|exact trivial|exact rfl|apply And.intro))⟩⟩) (fun e=>⟨false,rfl,(yRo fun x=> ?_).symm,by(repeat'(first|exact trivial|exact rfl|apply And.intro))⟩),?_⟩
 ·have e:c.time=1:=by simpa using e
  dsimp only
  cases hb:cB m.p B c.inst (decide (c.side=2)) c.price c.qty with
  |true=>exact(yRu ⟨e,rfl⟩).symm
  |false=>exact(yRo fun x=>by cases x.2).symm
 ·rw[x.1]at e;cases e
 rintro _ rfl
 refine zI (fun e=> ?_) (fun e=> ?_)
 ·have hx:X=⟨B,m.used,bQ c 23⟩:=by rw[hX,yRe e]
  exact⟨⟨c,23⟩,rfl,rfl,rfl,rfl,rfl,rfl,rfl,rfl,rfl,rfl,trivial,fun _ _=>⟨m,rfl,rfl,rfl,rfl,rfl,rfl,rfl,rfl,rfl,rfl,rfl,rfl,rfl,by rw[hx];rfl,by rw[hx];exact hM⟩⟩
 rw[yRd e]at hX
 exact⟨⟨m,m.p,B,m.used,c,X⟩,rfl,rfl,rfl,rfl,rfl,rfl,rfl,rfl,rfl,rfl,rfl,rfl,rfl,rfl,rfl,rfl,rfl,rfl,rfl,rfl,rfl,rfl,⟨⟨hM,hB⟩,⟨hib,hq,hs⟩,hpz,hX⟩,fun o ho=>⟨o,rfl,rfl,rfl,rfl,rfl,rfl,rfl,rfl,rfl,rfl,rfl,rfl,rfl,rfl,ho⟩⟩
theorem z5z:orderC.ok Tryz.prog 59:=okw mixed (gokc p7 (gokc zVc (gokc zHw (gokc z4d (gokc zTf (gokc zSu gok0)))))) 0 (fun _=>yMe) (fun _=>[]) [] Tryz.func59 yMb
theorem zQg {p:Prd} {B:List (List zH)} (h:BWf p B) {id inst:Int} {o:zH} (hf:zV B id=(inst,o,true)):(0≤inst∧inst<B.length)∧zHm o:=by
 rw[zV]at hf
 split at hf
 ·cases hf
 ·rename_i k hk
  obtain⟨L,hL,hh⟩:=uU hk
  rw[zR hL]at hf
  cases hf
  have hlt:=(yRf.1 hL).1
  obtain⟨o,ho,e⟩:=ySm.1 (hasId_iff.1 hh)
  have hg:=m5 (h.od k L hL).2.1 ho
  rw[e]at hg
  rw[hg]
  exact⟨by omega,(h.od k L hL).1 o ho⟩
theorem zJe (p:Prd) (c:Cmd):∀(l:List jU) (left:Int),(∀t∈l,SOk t∧1≤t.qty)→(nI p c l left).length≤1503*l.length
 |[],_,_=>ySk _
 |t::l,left,h=>by
  have a:=zJe p c l (left-t.qty) fun u hu=>h u (yRk _ hu)
  have b:=zLx p c t (left-t.qty)
  have d:=(h t yRj).1.2.2
  rw[nI,yRi,yRt];omega
theorem lC {p:Prd} {B:List (List zH)} (h:BWf p B) (U:List Int) {c:Cmd} (hi:0≤c.inst∧c.inst<B.length) (hq:1≤c.qty∧c.qty≤1000000):(bS p B U c).R.length≤1503000002:=by
 obtain⟨s1,s2⟩:=zPw (inst:=c.inst) (sd:=decide (c.side=2)) (price:=c.price) _ c.qty B (ySk _) h hi
 have k3:=(aX (inst:=c.inst) (sd:=decide (c.side=2)) (price:=c.price) _ c.qty B (ySk _) h).2.2 (by omega)
 have:=zOm s1
 have:=zJe p c _ c.qty s1
 rw[zBz]
 dsimp only
 rw[yRi,yRt]
 split
 ·rw[yRt,yUi];omega
 ·rw[yUi];omega
theorem yAz (i:z4a) (h:replaceC.cnd i):zRq i:=by
 obtain⟨m,p,B,U,c,inst,o,X⟩:=i
 have h':m.Rep p B U∧BOk p B∧zV B c.id=(inst,o,true)∧(1≤c.qty∧c.qty≤1000000)∧X=fU p B U c inst o:=h
 clear h
 obtain⟨hM,hB,hf,hq,hX⟩:=h'
 obtain⟨ep,hR,eu⟩:=hM
 subst ep eu
 have hM:m.Rep m.p B m.used:=⟨rfl,hR,rfl⟩
 have hwf:=hR.wf hB
 obtain⟨hin,hoo⟩:=zQg hwf hf
 have hos:=hoo.s
 have hoq:=hoo.q
 have hbl:=hB.bl
 have hcl:=xQ m.p
 unfold zRq eO qE u0 mF dJ nN xY
 dsimp only
 refine⟨⟨m.p,inst,c.price⟩,rfl,rfl,rfl,rfl,rfl,rfl,rfl,rfl,rfl,rfl,rfl,rfl,rfl,hB.ps,fun _ _=>Cv.cnd.mk (fun e=> ?_) (fun e=> ?_)⟩
 ·have e:m.p.price inst c.price≠0:=by simpa using e
  have hx:X=⟨B,m.used,bQ c (m.p.price inst c.price)⟩:=by rw[hX,fU,yRe e]
  exact⟨⟨c,m.p.price inst c.price⟩,rfl,rfl,rfl,rfl,rfl,rfl,rfl,rfl,rfl,rfl,trivial,fun _ _=>⟨m,rfl,rfl,rfl,rfl,rfl,rfl,rfl,rfl,rfl,rfl,rfl,rfl,rfl,by rw[hx];rfl,by rw[hx];exact hM⟩⟩
 have hpz:m.p.price inst c.price=0:=by simpa using e
 rw[fU,yRd (by rw[hpz];decide)]at hX
 have hw:IntKind.i64.wrap (o.qty-c.qty)=o.qty-c.qty:=w64 (by omega)
 rw[hw]
 refine(fun hT=>Cv.cnd.mk (fun e1=>zI (fun e2=> ?_) (fun e2=>hT fun x=>e2 x.2)) (fun e1=>hT fun x=>by rw[x.1]at e1;simp at e1)) (fun(hn:¬(c.price=o.price∧c.qty≤o.qty))=> ?_)
 ·have e1:c.price=o.price:=by simpa using e1
  rw[yRe ⟨e1,e2⟩]at hX
  exact⟨⟨m,m.p,B,m.used,c.id,o.qty-c.qty,inst,o,X⟩,rfl,rfl,rfl,rfl,rfl,rfl,rfl,rfl,rfl,rfl,rfl,rfl,rfl,rfl,rfl,rfl,rfl,rfl,rfl,rfl,rfl,⟨⟨hM,hB⟩,⟨by dsimp only;omega,by dsimp only;omega⟩,hX⟩,fun o' ho=>⟨o',rfl,rfl,rfl,rfl,rfl,rfl,rfl,rfl,rfl,rfl,rfl,rfl,rfl,rfl,ho⟩⟩
 rw[yRd hn]at hX
 have hBt:=hB.take c.id o.qty
 refine⟨m.s,rfl,hR.small hB,fun _ _=>⟨⟨m.s,m.p,B,c.id,o.qty⟩,rfl,rfl,rfl,⟨hR,by dsimp only;omega⟩,fun o' ho'=>⟨⟨o',m.p,(qS B c.id o.qty).1,inst,decide (o.side=2),c.price,c.qty⟩,rfl,uV hos,rfl,rfl,rfl,⟨ho',hBt,by dsimp only;rw[aU];exact hin,hq.1,hq.2⟩,fun _ _=>Cv.cnd.mk (fun e=> ?_) (fun e=> ?_)⟩⟩⟩
 ·have hx:X=⟨B,m.used,bQ c 23⟩:=by rw[hX,yRe e]
  exact⟨⟨c,23⟩,rfl,rfl,rfl,rfl,rfl,rfl,rfl,rfl,rfl,rfl,trivial,fun _ _=>⟨m,rfl,rfl,rfl,rfl,rfl,rfl,rfl,rfl,rfl,rfl,rfl,rfl,rfl,by rw[hx];rfl,by rw[hx];exact hM⟩⟩
 rw[yRd (by rw[e];decide)]at hX
 refine⟨⟨m,m.p,B,m.used,c.id,0,inst,o,gA B m.used c.id inst o⟩,rfl,rfl,rfl,rfl,rfl,rfl,rfl,rfl,rfl,rfl,rfl,rfl,rfl,rfl,rfl,rfl,rfl,rfl,rfl,rfl,⟨⟨hM,hB⟩,rfl⟩,fun o1 ho1=>⟨⟨o1,m.p,(qS B c.id o.qty).1,m.used,⟨1,c.id,inst,o.side,c.price,c.qty,0,1,[]⟩,bS m.p (qS B c.id o.qty).1 m.used ⟨1,c.id,inst,o.side,c.price,c.qty,0,1,[]⟩⟩,rfl,rfl,rfl,rfl,rfl,rfl,rfl,rfl,rfl,rfl,rfl,rfl,rfl,rfl,rfl,rfl,rfl,rfl,rfl,rfl,rfl,rfl,⟨⟨ho1,hBt⟩,⟨by dsimp only;rw[aU];exact hin,hq,hos⟩,hpz,rfl⟩,fun o2 ho2=>⟨?_,o2,rfl,rfl,rfl,rfl,rfl,rfl,rfl,rfl,rfl,rfl,rfl,rfl,rfl,?_,?_⟩⟩⟩
 ·have:=lC (hwf.take c.id o.qty) m.used (c:=⟨1,c.id,inst,o.side,c.price,c.qty,0,1,[]⟩) (by dsimp only;rw[aU];exact hin) hq
  dsimp only
  rw[yRg,yRg]
  have e1:(gA B m.used c.id inst o).R.length=1:=rfl
  omega
 ·rw[hX,← yRm];rfl
 ·rw[hX];exact ho2
theorem zVz:replaceC.ok Tryz.prog 60:=okw mixed (gokc p7 (gokc zVc (gokc lZ (gokc zBh (gokc zTf (gokc zMx (gokc zLa (gokc zSu gok0)))))))) 0 (fun _=>[]) (fun _=>[]) [] Tryz.func60 yAz
theorem vdo (i:EnI) (h:doC.cnd i):Vdo i:=by
 obtain⟨m,p,B,U,c,X⟩:=i
 have h':(m.Rep p B U∧BOk p B)∧c.label.length≤140737488355328∧yU c.qty∧X=doF p B U c:=h
 clear h
 obtain⟨⟨hM,hB⟩,hlb,hqr,hX⟩:=h'
 obtain⟨ep,hR,eu⟩:=hM
 subst ep eu
 have hM:m.Rep m.p B m.used:=⟨rfl,hR,rfl⟩
 have hwf:=hR.wf hB
 have hbl:=hB.bl
 have hcl:=xQ m.p
 unfold Vdo rW z9h dJ zUv zXu zPq
 dsimp only
 refine⟨c,rfl,rfl,rfl,rfl,rfl,rfl,rfl,rfl,rfl,hlb,fun _ _=>Cv.cnd.mk (fun e=> ?_) (fun e=> ?_)⟩
 ·have e:c.right≠0:=by simpa using e
  have hx:X=⟨B,m.used,bQ c c.right⟩:=by rw[hX,doF,yRe e]
  exact⟨⟨c,c.right⟩,rfl,rfl,rfl,rfl,rfl,rfl,rfl,rfl,rfl,rfl,trivial,fun _ _=>⟨m,rfl,rfl,rfl,rfl,rfl,rfl,rfl,rfl,rfl,rfl,rfl,rfl,rfl,by rw[hx];rfl,by rw[hx];exact hM⟩⟩
 have hr:c.right=0:=by simpa using e
 rw[doF,yRd (by rw[hr];decide)]at hX
 refine Cv.cnd.mk (fun e=> ?_) (fun e=> ?_)
 ·have e:c.kind=1:=by simpa using e
  rw[yRe e]at hX
  exact⟨⟨m,m.p,B,m.used,c,X⟩,rfl,rfl,rfl,rfl,rfl,rfl,rfl,rfl,rfl,rfl,rfl,rfl,rfl,rfl,rfl,rfl,rfl,rfl,rfl,rfl,rfl,rfl,⟨⟨hM,hB⟩,hr,e,hX⟩,fun o ho=>⟨o,rfl,rfl,rfl,rfl,rfl,rfl,rfl,rfl,rfl,rfl,rfl,rfl,rfl,rfl,ho⟩⟩
 have hk:¬c.kind=1:=by simpa using e
 rw[yRd hk]at hX
 refine(fun hT=>⟨hT,rfl,trivial,hT⟩) ?_
 refine⟨⟨m.s,m.p,B,c.id,0⟩,rfl,rfl,⟨hR,by dsimp only;omega⟩,fun _ _=>Cv.cnd.mk (fun e=> ?_) (fun e=> ?_)⟩
 ·have e:(zV B c.id).2.2=false:=by simpa using e
  have hx:X=⟨B,m.used,bQ c 26⟩:=by rw[hX,yRe e]
  exact⟨⟨c,26⟩,rfl,rfl,rfl,rfl,rfl,rfl,rfl,rfl,rfl,rfl,trivial,fun _ _=>⟨m,rfl,rfl,rfl,rfl,rfl,rfl,rfl,rfl,rfl,rfl,rfl,rfl,rfl,by rw[hx];rfl,by rw[hx];exact hM⟩⟩
 have e:(zV B c.id).2.2=true:=by simpa using e
 rw[yRd (by rw[e];decide)]at hX
 dsimp only
 have hf:zV B c.id=((zV B c.id).1,(zV B c.id).2.1,true):=by rw[← e]
 generalize (zV B c.id).1=inst at*
 generalize (zV B c.id).2.1=o at*
 obtain⟨hin,hoo⟩:=zQg hwf hf
 have hoq:=hoo.q
 refine Cv.cnd.mk (fun e4=> ?_) (fun e4=>Cv.cnd.mk (fun e2=> ?_) (fun e2=>zI (fun e3=> ?_) (fun e3=> ?_)))
 ·have e4:c.kind=4:=by simpa using e4
  rw[yRe e4]at hX
  exact⟨⟨m,m.p,B,m.used,c,inst,o,X⟩,rfl,rfl,rfl,rfl,rfl,rfl,rfl,rfl,rfl,rfl,rfl,rfl,rfl,rfl,rfl,rfl,rfl,rfl,rfl,rfl,rfl,rfl,rfl,rfl,rfl,rfl,rfl,rfl,⟨hM,hB,hf,zDc hr hk (by rw[e4];decide),hX⟩,fun o' ho=>⟨o',rfl,rfl,rfl,rfl,rfl,rfl,rfl,rfl,rfl,rfl,rfl,rfl,rfl,rfl,ho⟩⟩
 all_goals
  have e4:¬c.kind=4:=by simpa using e4
  rw[yRd e4]at hX
 ·have e2:c.kind=2:=by simpa using e2
  rw[yRe (.inl e2)]at hX
  exact⟨⟨m,m.p,B,m.used,c.id,0,inst,o,X⟩,rfl,rfl,rfl,rfl,rfl,rfl,rfl,rfl,rfl,rfl,rfl,rfl,rfl,rfl,rfl,rfl,rfl,rfl,rfl,rfl,⟨⟨hM,hB⟩,hX⟩,fun o' ho=>⟨o',rfl,rfl,rfl,rfl,rfl,rfl,rfl,rfl,rfl,rfl,rfl,rfl,rfl,rfl,ho⟩⟩
 ·rw[yRe (.inr (by omega))]at hX
  exact⟨⟨m,m.p,B,m.used,c.id,0,inst,o,X⟩,rfl,rfl,rfl,rfl,rfl,rfl,rfl,rfl,rfl,rfl,rfl,rfl,rfl,rfl,rfl,rfl,rfl,rfl,rfl,rfl,⟨⟨hM,hB⟩,hX⟩,fun o' ho=>⟨o',rfl,rfl,rfl,rfl,rfl,rfl,rfl,rfl,rfl,rfl,rfl,rfl,rfl,rfl,ho⟩⟩
 ·have e2:¬c.kind=2:=by simpa using e2
  have hq:=zDc hr hk e2
  rw[yRd (by omega)]at hX
  exact⟨⟨m,m.p,B,m.used,c.id,c.qty,inst,o,X⟩,rfl,rfl,rfl,rfl,rfl,rfl,rfl,rfl,rfl,rfl,rfl,rfl,rfl,rfl,rfl,rfl,rfl,rfl,rfl,rfl,rfl,⟨⟨hM,hB⟩,⟨by dsimp only;omega,by dsimp only;omega⟩,hX⟩,fun o' ho=>⟨o',rfl,rfl,rfl,rfl,rfl,rfl,rfl,rfl,rfl,rfl,rfl,rfl,rfl,rfl,ho⟩⟩
theorem do_ok:doC.ok Tryz.prog 26:=okw mixed (gokc zSn (gokc zVc (gokc z5b (gokc z5z (gokc zVz (gokc zMx (gokc zLa gok0))))))) 0 (fun _=>[]) (fun _=>[]) [0] Tryz.func26 vdo
open Go Cv Go.Proofs
open Go Cv Go.Proofs
open Go Cv Go.Proofs
open Go Cv Go.Proofs
open Go Cv Go.Proofs
open Go Cv Go.Proofs
open Go Cv Go.Proofs
end Sx
