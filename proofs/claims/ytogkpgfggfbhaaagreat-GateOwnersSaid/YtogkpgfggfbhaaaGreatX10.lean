/- Texts of ours, one behind the other: a walk that the kernel reckons, and contracts of functions. No condition. -/
import Derived.Test.YtogkpgfggfbhaaaGreatX9
namespace Sx
set_option linter.unusedVariables false
set_option maxRecDepth 100000
open Go Cv Go.Proofs
def zAp (a:Mkt) (b:EnI) (c:EnJ):Prop:=zX a.used=uC (Value.int IntKind.i64 b.c.id) [D.v (.bool true)] (zX b.m.used)∧AObj.fro 1 (iE a.p.months)=yP b.m 3∧AObj.fro 1 (iE a.p.settle)=yP b.m 4∧List.map xN b.X.R=List.map xN c.out∧a.Rep b.p b.X.B b.X.U
def vR (a:EnI):=(D.v (Value.string (sb a.c.label)))
def yFz (i:EnI):Prop:=
 (∀(a:Value×List D),a∈zX i.m.used→like (Value.int IntKind.i64 i.c.id) a.fst=true)∧∃(a:RunI),a.inst=i.c.inst∧zB a.sd=i.c.side∧a.price=i.c.price∧a.q=i.c.qty∧zE a.s=yP i.m 1∧(qO a)∧∀(b:MSt),b.Rep a.p a.r.B→∃(c:EnJ),c.left=i.c.qty∧(↑c.k:Int)=0∧List.map xN c.out=[[dI 1,dI i.c.id,dI i.c.inst,dI i.c.side,dI i.c.price,dI i.c.qty,dI i.c.qty,dI 0]]∧∃(d:EnJ→Prop),∃(e:EnJ→Nat),d c∧∀(f:EnJ),d f→cnd (decide ((↑f.k:Int)<(↑(List.map jZ a.r.steps).length:Int))) ((0≤(↑f.k:Int)∧(↑f.k:Int)<(↑(List.map jZ a.r.steps).length:Int))∧∃(g:Int),∃(h:Int),∃(j:Bool),∃(k:List (List D)),zF (List.map jZ a.r.steps) (↑f.k:Int).toNat 0 4=some [dI g,dI h,D.v (.bool j),D.ro 6 k]∧∃(l:StI'),l.c.kind=i.c.kind∧l.c.id=i.c.id∧l.c.inst=i.c.inst∧l.c.side=i.c.side∧l.c.price=i.c.price∧l.c.qty=i.c.qty∧l.c.least=i.c.least∧l.c.time=i.c.time∧sb l.c.label=sb i.c.label∧l.x.price=g∧l.x.qty=h∧l.x.implied=j∧List.map yT l.x.fills=k∧l.left=IntKind.i64.wrap (f.left-h)∧sb l.m.p.code=sb i.m.p.code∧l.m.p.tick=i.m.p.tick∧l.m.p.low=i.m.p.low∧l.m.p.high=i.m.p.high∧l.m.p.wide=i.m.p.wide∧l.m.p.rule=i.m.p.rule∧l.m.p.top=i.m.p.top∧l.m.p.least=i.m.p.least∧l.m.p.part=i.m.p.part∧zE l.m.s=zE b∧zX l.m.used=uC (Value.int IntKind.i64 i.c.id) [D.v (.bool true)] (zX i.m.used)∧AObj.fro 1 (iE l.m.p.months)=yP i.m 3∧AObj.fro 1 (iE l.m.p.settle)=yP i.m 4∧((l.m.p.check=0∧l.m.p.code.length≤1099511627776∧l.m.p.months.length≤1099511627776∧l.m.p.settle.length≤1099511627776)∧((-9223372036854775808)≤l.x.price∧l.x.price≤9223372036854775807)∧l.x.fills.length≤1000000∧(l.c.side=1∨l.c.side=2)∧∀(m:vL),m∈l.x.fills→m.side=1∨m.side=2)∧∀(m:Unit),True→((List.map xN f.out).length+(List.map xN (fV l.m.p l.c l.x l.left)).length)*(64:Nat)≤(70368744177664:Nat)∧∃(n:EnJ),n.left=IntKind.i64.wrap (f.left-h)∧(↑n.k:Int)=IntKind.i64.wrap ((↑f.k:Int)+1)∧List.map xN n.out=List.map xN f.out++List.map xN (fV l.m.p l.c l.x l.left)∧d n∧e n<e f∧zE l.m.s=zE b∧AObj.own 260 4 (List.map jZ a.r.steps)=AObj.own 260 4 (List.map jZ a.r.steps)∧Sx.AObj.cells [V.d (dI i.c.kind),V.d (dI i.c.id),V.d (dI i.c.inst),V.d (dI i.c.side),V.d (dI i.c.price),V.d (dI i.c.qty),V.d (dI i.c.least),V.d (dI i.c.time),V.d (vR i)] 36=Sx.AObj.cells [V.d (dI i.c.kind),V.d (dI i.c.id),V.d (dI i.c.inst),V.d (dI i.c.side),V.d (dI i.c.price),V.d (dI i.c.qty),V.d (dI i.c.least),V.d (dI i.c.time),V.d (vR i)] 36∧Sx.AObj.cells (jT (cJ 5 ((5:Nat)+(1:Nat)+1+((2:Nat)-(1:Nat))+(1:Nat)+(1:Nat)+1) ((6:Nat)-(5:Nat)) [((2:Nat),(2:Nat)),((1:Nat),(1:Nat)),((4:Nat),(4:Nat)),((3:Nat),(3:Nat)),((0:Nat),(0:Nat))]) [sV l.m.p.code,V.own 3,zA l.m.p.tick,zA l.m.p.low,zA l.m.p.high,zA l.m.p.wide,zA l.m.p.rule,zA l.m.p.top,zA l.m.p.least,zA l.m.p.part,V.own 4,V.nm 1 0,V.mp 2]) (121:TypeId)=yP i.m 0∧Sx.AObj.map (zX l.m.used)=Sx.AObj.map (uC (Value.int IntKind.i64 i.c.id) [D.v (.bool true)] (zX i.m.used))∧AObj.fro 1 (iE l.m.p.months)=yP i.m 3∧AObj.fro 1 (iE l.m.p.settle)=yP i.m 4) (cnd (a.r.left==0) (∃(g:Mkt),sb g.p.code=sb i.m.p.code∧g.p.tick=i.m.p.tick∧g.p.low=i.m.p.low∧g.p.high=i.m.p.high∧g.p.wide=i.m.p.wide∧g.p.rule=i.m.p.rule∧g.p.top=i.m.p.top∧g.p.least=i.m.p.least∧g.p.part=i.m.p.part∧zE g.s=zE b∧zAp g i f) (cnd (i.c.time==1) (∃(g:SaI),g.inst=i.c.inst∧g.id=i.c.id∧zB g.sd=i.c.side∧g.price=i.c.price∧g.qty=a.r.left∧zE g.s=zE b∧((g.s.p.code.length≤1099511627776∧g.s.p.months.length≤1099511627776∧g.s.p.settle.length≤1099511627776)∧g.s.books.length≤1000000∧∀(h:Book),h∈g.s.books→(h.a.slots.length≤1000000∧(h.a.free≠0→∃(j:Slot),j∈h.a.slots∧j.used=false)∧∀(j:dW),j∈h.a.queues→j.last=(-1)∨0≤j.last∧j.last<(↑h.a.slots.length:Int))∧h.a.queues.length≤100000∧h.buys.length≤100000∧h.sells.length≤100000∧h.spare.length≤100000)∧∀(h:Unit),True→∃(j:Mkt),sb j.p.code=sb i.m.p.code∧j.p.tick=i.m.p.tick∧j.p.low=i.m.p.low∧j.p.high=i.m.p.high∧j.p.wide=i.m.p.wide∧j.p.rule=i.m.p.rule∧j.p.top=i.m.p.top∧j.p.least=i.m.p.least∧j.p.part=i.m.p.part∧zE j.s=zE (MSt.addF g).fst∧zAp j i f) (((List.map xN f.out).length+1)*(64:Nat)≤(70368744177664:Nat)∧∃(g:Mkt),sb g.p.code=sb i.m.p.code∧g.p.tick=i.m.p.tick∧g.p.low=i.m.p.low∧g.p.high=i.m.p.high∧g.p.wide=i.m.p.wide∧g.p.rule=i.m.p.rule∧g.p.top=i.m.p.top∧g.p.least=i.m.p.least∧g.p.part=i.m.p.part∧zE g.s=zE b∧zX g.used=uC (Value.int IntKind.i64 i.c.id) [D.v (.bool true)] (zX i.m.used)∧AObj.fro 1 (iE g.p.months)=yP i.m 3∧AObj.fro 1 (iE g.p.settle)=yP i.m 4∧List.map xN i.X.R=List.map xN f.out++[[dI 4,dI i.c.id,dI i.c.inst,dI i.c.side,dI i.c.price,dI a.r.left,dI 0,dI 0]]∧g.Rep i.p i.X.B i.X.U)))
def zFt (a:EnI):Prop:=Sx.AObj.cells [V.d (dI a.c.kind),V.d (dI a.c.id),V.d (dI a.c.inst),V.d (dI a.c.side),V.d (dI a.c.price),V.d (dI a.c.qty),V.d (dI a.c.least),V.d (dI a.c.time),V.d (vR a)] 36=Sx.AObj.cells [V.d (dI a.c.kind),V.d (dI a.c.id),V.d (dI a.c.inst),V.d (dI a.c.side),V.d (dI a.c.price),V.d (dI a.c.qty),V.d (dI a.c.least),V.d (dI a.c.time),V.d (vR a)] 36∧yP a.m 0=yP a.m 0∧yP a.m 2=yP a.m 2∧yP a.m 3=yP a.m 3∧yP a.m 4=yP a.m 4
def zEd (a:Bool→Prop) (b:SoI) (c:EnI):Prop:=∃(d:Bool),d=false∧a d∧zE b.s=zE b.s∧zFt c
def zEz (a:Int→Prop) (b:Int) (c:EnI):Prop:=a b∧Sx.AObj.cells [V.d (dI c.c.kind),V.d (dI c.c.id),V.d (dI c.c.inst),V.d (dI c.c.side),V.d (dI c.c.price),V.d (dI c.c.qty),V.d (dI c.c.least),V.d (dI c.c.time),V.d (vR c)] 36=Sx.AObj.cells [V.d (dI c.c.kind),V.d (dI c.c.id),V.d (dI c.c.inst),V.d (dI c.c.side),V.d (dI c.c.price),V.d (dI c.c.qty),V.d (dI c.c.least),V.d (dI c.c.time),V.d (vR c)] 36∧yP c.m 0=yP c.m 0∧yP c.m 1=yP c.m 1∧yP c.m 2=yP c.m 2∧yP c.m 3=yP c.m 3∧yP c.m 4=yP c.m 4
def zEt (a:Bool→Prop) (b:Bool) (c:RunI) (d:SoI) (e:EnI):Prop:=a b∧zE c.s=zE d.s∧zFt e
def zAu (a:Mkt) (b:EnI) (c:RjI):Prop:=zX a.used=zX b.m.used∧AObj.fro 1 (iE a.p.months)=yP b.m 3∧AObj.fro 1 (iE a.p.settle)=yP b.m 4∧List.map xN b.X.R=[xN (Rep.mk 2 c.c.id 0 0 0 0 0 c.why)]∧a.Rep b.p b.X.B b.X.U
def zFc (a:EnI) (b:RjI):Prop:=True∧∀(c:Unit),True→∃(d:Mkt),sb d.p.code=sb a.m.p.code∧d.p.tick=a.m.p.tick∧d.p.low=a.m.p.low∧d.p.high=a.m.p.high∧d.p.wide=a.m.p.wide∧d.p.rule=a.m.p.rule∧d.p.top=a.m.p.top∧d.p.least=a.m.p.least∧d.p.part=a.m.p.part∧zE d.s=yP a.m 1∧zAu d a b
def eU (a:EnI) (b:SoI) (c:RjI):Prop:=True∧∀(d:Unit),True→∃(e:Mkt),sb e.p.code=sb a.m.p.code∧e.p.tick=a.m.p.tick∧e.p.low=a.m.p.low∧e.p.high=a.m.p.high∧e.p.wide=a.m.p.wide∧e.p.rule=a.m.p.rule∧e.p.top=a.m.p.top∧e.p.least=a.m.p.least∧e.p.part=a.m.p.part∧zE e.s=zE b.s∧zAu e a c
def pD (a:EnI) (b:EnI):Prop:=∀(c:Mkt),c.Rep a.p a.X.B a.X.U→∃(d:Mkt),sb d.p.code=sb c.p.code∧d.p.tick=c.p.tick∧d.p.low=c.p.low∧d.p.high=c.p.high∧d.p.wide=c.p.wide∧d.p.rule=c.p.rule∧d.p.top=c.p.top∧d.p.least=c.p.least∧d.p.part=c.p.part∧zE d.s=zE c.s∧zX d.used=zX c.used∧AObj.fro 1 (iE d.p.months)=AObj.fro 1 (iE c.p.months)∧AObj.fro 1 (iE d.p.settle)=AObj.fro 1 (iE c.p.settle)∧List.map xN b.X.R=List.map xN a.X.R∧d.Rep b.p b.X.B b.X.U
def pP (a:EnI):Prop:=(a.m.Rep a.p a.B a.U∧BOk a.p a.B)∧((0≤a.c.inst∧a.c.inst<(↑a.B.length:Int))∧(1≤a.c.qty∧a.c.qty≤1000000)∧(a.c.side=1∨a.c.side=2))∧a.p.price a.c.inst a.c.price=0∧a.X=wI a.p a.B a.U a.c
def yDu (i:EnI):Prop:=
 ∃(a:rJ),sb a.p.code=sb i.m.p.code∧iE a.p.months=iE i.m.p.months∧a.p.tick=i.m.p.tick∧a.p.low=i.m.p.low∧a.p.high=i.m.p.high∧a.p.wide=i.m.p.wide∧a.p.rule=i.m.p.rule∧a.p.top=i.m.p.top∧a.p.least=i.m.p.least∧a.p.part=i.m.p.part∧iE a.p.settle=iE i.m.p.settle∧a.a=i.c.inst∧a.b=i.c.price∧(x7 a)∧∀(b:Unit),True→cnd (a.p.price a.a a.b !=0) (∃(c:RjI),c.c.kind=i.c.kind∧c.c.id=i.c.id∧c.c.inst=i.c.inst∧c.c.side=i.c.side∧c.c.price=i.c.price∧c.c.qty=i.c.qty∧c.c.least=i.c.least∧c.c.time=i.c.time∧sb c.c.label=sb i.c.label∧c.why=a.p.price a.a a.b∧zFc i c) (∃(c:Int),∃(d:Int→Prop),cnd (i.c.time==3) (∃(e:Int),e=i.c.qty∧zEz d e i) (∃(e:Int),e=i.c.least∧zEz d e i)∧∀(e:Int),d e→(∀(f:Value×List D),f∈zX i.m.used→like (Value.int IntKind.i64 i.c.id) f.fst=true)∧∃(f:Bool),∃(g:Bool),(qY (Value.int IntKind.i64 i.c.id) (zX i.m.used)=some [D.v (.bool g)]∧f=true∨qY (Value.int IntKind.i64 i.c.id) (zX i.m.used)=none∧[D.v (.bool g)]=[D.v (.bool false)]∧f=false)∧cnd g (∃(h:RjI),h.c.kind=i.c.kind∧h.c.id=i.c.id∧h.c.inst=i.c.inst∧h.c.side=i.c.side∧h.c.price=i.c.price∧h.c.qty=i.c.qty∧h.c.least=i.c.least∧h.c.time=i.c.time∧sb h.c.label=sb i.c.label∧h.why=25∧zFc i h) (∃(h:SoI),zE h.s=yP i.m 1∧(h.s.Rep h.p h.B∧h.B.length≤1000)∧∀(j:Unit),True→cnd (decide ((↑(zDx h.B):Int)≥250)) (∃(k:RjI),k.c.kind=i.c.kind∧k.c.id=i.c.id∧k.c.inst=i.c.inst∧k.c.side=i.c.side∧k.c.price=i.c.price∧k.c.qty=i.c.qty∧k.c.least=i.c.least∧k.c.time=i.c.time∧sb k.c.label=sb i.c.label∧k.why=13∧eU i h k) (∃(k:Bool),∃(l:Bool→Prop),cnd (decide (e>0)) (∃(m:RunI),m.inst=i.c.inst∧zB m.sd=i.c.side∧m.price=i.c.price∧m.q=i.c.qty∧zE m.s=zE h.s∧(qO m)∧∀(n:Unit),True→∃(p:Bool),p=decide (m.q-m.r.left<e)∧zEt l p m h i) (zEd l h i)∧∀(m:Bool),l m→cnd m (∃(n:RjI),n.c.kind=i.c.kind∧n.c.id=i.c.id∧n.c.inst=i.c.inst∧n.c.side=i.c.side∧n.c.price=i.c.price∧n.c.qty=i.c.qty∧n.c.least=i.c.least∧n.c.time=i.c.time∧sb n.c.label=sb i.c.label∧n.why=28∧eU i h n) (∃(n:Bool),∃(p:Bool→Prop),cnd (i.c.time==1) (∃(q:RunI),q.inst=i.c.inst∧zB q.sd=i.c.side∧q.price=i.c.price∧q.q=i.c.qty∧zE q.s=zE h.s∧(qO q)∧∀(r:Unit),True→∃(s:Bool),s=bR q.p q.B q.inst q.sd q.price q.q∧zEt p s q h i) (zEd p h i)∧∀(q:Bool),p q→cnd q (∃(r:RjI),r.c.kind=i.c.kind∧r.c.id=i.c.id∧r.c.inst=i.c.inst∧r.c.side=i.c.side∧r.c.price=i.c.price∧r.c.qty=i.c.qty∧r.c.least=i.c.least∧r.c.time=i.c.time∧sb r.c.label=sb i.c.label∧r.why=23∧eU i h r) (∃(r:EnI),r.c.kind=i.c.kind∧r.c.id=i.c.id∧r.c.inst=i.c.inst∧r.c.side=i.c.side∧r.c.price=i.c.price∧r.c.qty=i.c.qty∧r.c.least=i.c.least∧r.c.time=i.c.time∧sb r.c.label=sb i.c.label∧sb r.m.p.code=sb i.m.p.code∧r.m.p.tick=i.m.p.tick∧r.m.p.low=i.m.p.low∧r.m.p.high=i.m.p.high∧r.m.p.wide=i.m.p.wide∧r.m.p.rule=i.m.p.rule∧r.m.p.top=i.m.p.top∧r.m.p.least=i.m.p.least∧r.m.p.part=i.m.p.part∧zE r.m.s=zE h.s∧zX r.m.used=zX i.m.used∧AObj.fro 1 (iE r.m.p.months)=yP i.m 3∧AObj.fro 1 (iE r.m.p.settle)=yP i.m 4∧(pP r)∧pD r i)))))
def yJe (i:CaI):Prop:=
 ∃(i_1:StI),i_1.id=i.id∧i_1.q=i.o.qty∧zE i_1.s=yP i.m 1∧(i_1.s.Rep i_1.p i_1.B∧i_1.B.length≤1000)∧∀(o:MSt),o.Rep i_1.p (yX i_1.B i_1.id i_1.q).fst→∃(o_1:Mkt),sb o_1.p.code=sb i.m.p.code∧o_1.p.tick=i.m.p.tick∧o_1.p.low=i.m.p.low∧o_1.p.high=i.m.p.high∧o_1.p.wide=i.m.p.wide∧o_1.p.rule=i.m.p.rule∧o_1.p.top=i.m.p.top∧o_1.p.least=i.m.p.least∧o_1.p.part=i.m.p.part∧zE o_1.s=zE o∧zX o_1.used=zX i.m.used∧AObj.fro 1 (iE o_1.p.months)=yP i.m 3∧AObj.fro 1 (iE o_1.p.settle)=yP i.m 4∧List.map xN i.X.R=[[D.v (.int .i64 4),D.v (.int .i64 i.id),D.v (.int .i64 i.inst),D.v (.int .i64 i.o.side),D.v (.int .i64 i.o.price),D.v (.int .i64 i.o.qty),D.v (.int .i64 0),D.v (.int .i64 0)]]∧o_1.Rep i.p i.X.B i.X.U
def z4h (i:CaI):Prop:=
 ∃(a:StI),a.id=i.id∧a.q=i.q∧zE a.s=yP i.m 1∧(a.s.Rep a.p a.B∧a.B.length≤1000)∧∀(b:MSt),b.Rep a.p (yX a.B a.id a.q).fst→∃(c:Mkt),sb c.p.code=sb i.m.p.code∧c.p.tick=i.m.p.tick∧c.p.low=i.m.p.low∧c.p.high=i.m.p.high∧c.p.wide=i.m.p.wide∧c.p.rule=i.m.p.rule∧c.p.top=i.m.p.top∧c.p.least=i.m.p.least∧c.p.part=i.m.p.part∧zE c.s=zE b∧zX c.used=zX i.m.used∧AObj.fro 1 (iE c.p.months)=yP i.m 3∧AObj.fro 1 (iE c.p.settle)=yP i.m 4∧List.map xN i.X.R=[[dI 5,dI i.id,dI i.inst,dI i.o.side,dI i.o.price,dI i.q,dI (IntKind.i64.wrap (i.o.qty-i.q)),dI 0]]∧c.Rep i.p i.X.B i.X.U
def rC (a:Mkt) (b:z7q) (c:RjI):Prop:=zX a.used=zX b.m.used∧AObj.fro 1 (iE a.p.months)=yP b.m 3∧AObj.fro 1 (iE a.p.settle)=yP b.m 4∧List.map xN b.X.R=[xN (Rep.mk 2 c.c.id 0 0 0 0 0 c.why)]∧a.Rep b.p b.X.B b.X.U
def zAh (a:z7q):Prop:=∃(b:MSt),zE b=yP a.m 1∧(gT b)∧∀(c:Unit),True→∃(d:StI),d.id=a.c.id∧d.q=a.o.qty∧zE d.s=zE b∧(d.s.Rep d.p d.B∧d.B.length≤1000)∧∀(e:MSt),e.Rep d.p (yX d.B d.id d.q).fst→∃(f:RunI),f.inst=a.inst∧zB f.sd=a.o.side∧f.price=a.c.price∧f.q=a.c.qty∧zE f.s=zE e∧(qO f)∧∀(g:Unit),True→cnd (bR f.p f.B f.inst f.sd f.price f.q) (∃(h:RjI),h.c.kind=a.c.kind∧h.c.id=a.c.id∧h.c.inst=a.c.inst∧h.c.side=a.c.side∧h.c.price=a.c.price∧h.c.qty=a.c.qty∧h.c.least=a.c.least∧h.c.time=a.c.time∧sb h.c.label=sb a.c.label∧h.why=23∧True∧∀(j:Unit),True→∃(k:Mkt),sb k.p.code=sb a.m.p.code∧k.p.tick=a.m.p.tick∧k.p.low=a.m.p.low∧k.p.high=a.m.p.high∧k.p.wide=a.m.p.wide∧k.p.rule=a.m.p.rule∧k.p.top=a.m.p.top∧k.p.least=a.m.p.least∧k.p.part=a.m.p.part∧zE k.s=zE b∧rC k a h) (∃(h:CaI),h.id=a.c.id∧h.inst=a.inst∧h.o.id=a.o.id∧h.o.side=a.o.side∧h.o.price=a.o.price∧h.o.qty=a.o.qty∧h.o.top=a.o.top∧sb h.m.p.code=sb a.m.p.code∧h.m.p.tick=a.m.p.tick∧h.m.p.low=a.m.p.low∧h.m.p.high=a.m.p.high∧h.m.p.wide=a.m.p.wide∧h.m.p.rule=a.m.p.rule∧h.m.p.top=a.m.p.top∧h.m.p.least=a.m.p.least∧h.m.p.part=a.m.p.part∧zE h.m.s=zE b∧zX h.m.used=zX a.m.used∧AObj.fro 1 (iE h.m.p.months)=yP a.m 3∧AObj.fro 1 (iE h.m.p.settle)=yP a.m 4∧((h.m.Rep h.p h.B h.U∧BOk h.p h.B)∧h.X=kT h.B h.U h.id h.inst h.o)∧∀(j:Mkt),j.Rep h.p h.X.B h.X.U→∃(k:EnI),k.c.kind=1∧k.c.id=a.c.id∧k.c.inst=a.inst∧k.c.side=a.o.side∧k.c.price=a.c.price∧k.c.qty=a.c.qty∧k.c.least=0∧k.c.time=1∧sb k.c.label=ByteArray.mk #[]∧sb k.m.p.code=sb j.p.code∧k.m.p.tick=j.p.tick∧k.m.p.low=j.p.low∧k.m.p.high=j.p.high∧k.m.p.wide=j.p.wide∧k.m.p.rule=j.p.rule∧k.m.p.top=j.p.top∧k.m.p.least=j.p.least∧k.m.p.part=j.p.part∧zE k.m.s=zE j.s∧zX k.m.used=zX j.used∧AObj.fro 1 (iE k.m.p.months)=AObj.fro 1 (iE j.p.months)∧AObj.fro 1 (iE k.m.p.settle)=AObj.fro 1 (iE j.p.settle)∧(pP k)∧∀(l:Mkt),l.Rep k.p k.X.B k.X.U→((List.map xN h.X.R).length+(List.map xN k.X.R).length)*(64:Nat)≤(70368744177664:Nat)∧∃(m:Mkt),sb m.p.code=sb l.p.code∧m.p.tick=l.p.tick∧m.p.low=l.p.low∧m.p.high=l.p.high∧m.p.wide=l.p.wide∧m.p.rule=l.p.rule∧m.p.top=l.p.top∧m.p.least=l.p.least∧m.p.part=l.p.part∧zE m.s=zE l.s∧zX m.used=zX l.used∧AObj.fro 1 (iE m.p.months)=AObj.fro 1 (iE l.p.months)∧AObj.fro 1 (iE m.p.settle)=AObj.fro 1 (iE l.p.settle)∧List.map xN a.X.R=List.map xN h.X.R++List.map xN k.X.R∧m.Rep a.p a.X.B a.X.U)
def cV (a:CaI):Prop:=(a.m.Rep a.p a.B a.U∧BOk a.p a.B)∧((-9223372036854775808)≤a.o.qty-a.q∧a.o.qty-a.q≤9223372036854775807)∧a.X=vF a.B a.U a.id a.q a.inst a.o
def zVn (i:z7q):Prop:=
 ∃(a:rJ),sb a.p.code=sb i.m.p.code∧iE a.p.months=iE i.m.p.months∧a.p.tick=i.m.p.tick∧a.p.low=i.m.p.low∧a.p.high=i.m.p.high∧a.p.wide=i.m.p.wide∧a.p.rule=i.m.p.rule∧a.p.top=i.m.p.top∧a.p.least=i.m.p.least∧a.p.part=i.m.p.part∧iE a.p.settle=iE i.m.p.settle∧a.a=i.inst∧a.b=i.c.price∧(x7 a)∧∀(b:Unit),True→cnd (a.p.price a.a a.b !=0) (∃(c:RjI),c.c.kind=i.c.kind∧c.c.id=i.c.id∧c.c.inst=i.c.inst∧c.c.side=i.c.side∧c.c.price=i.c.price∧c.c.qty=i.c.qty∧c.c.least=i.c.least∧c.c.time=i.c.time∧sb c.c.label=sb i.c.label∧c.why=a.p.price a.a a.b∧True∧∀(d:Unit),True→∃(e:Mkt),sb e.p.code=sb i.m.p.code∧e.p.tick=i.m.p.tick∧e.p.low=i.m.p.low∧e.p.high=i.m.p.high∧e.p.wide=i.m.p.wide∧e.p.rule=i.m.p.rule∧e.p.top=i.m.p.top∧e.p.least=i.m.p.least∧e.p.part=i.m.p.part∧zE e.s=yP i.m 1∧rC e i c) (cnd (i.c.price==i.o.price) (cnd (decide (i.c.qty≤i.o.qty)) (∃(c:CaI),c.id=i.c.id∧c.q=IntKind.i64.wrap (i.o.qty-i.c.qty)∧c.inst=i.inst∧c.o.id=i.o.id∧c.o.side=i.o.side∧c.o.price=i.o.price∧c.o.qty=i.o.qty∧c.o.top=i.o.top∧sb c.m.p.code=sb i.m.p.code∧c.m.p.tick=i.m.p.tick∧c.m.p.low=i.m.p.low∧c.m.p.high=i.m.p.high∧c.m.p.wide=i.m.p.wide∧c.m.p.rule=i.m.p.rule∧c.m.p.top=i.m.p.top∧c.m.p.least=i.m.p.least∧c.m.p.part=i.m.p.part∧zE c.m.s=yP i.m 1∧zX c.m.used=zX i.m.used∧AObj.fro 1 (iE c.m.p.months)=yP i.m 3∧AObj.fro 1 (iE c.m.p.settle)=yP i.m 4∧(cV c)∧∀(d:Mkt),d.Rep c.p c.X.B c.X.U→∃(e:Mkt),sb e.p.code=sb d.p.code∧e.p.tick=d.p.tick∧e.p.low=d.p.low∧e.p.high=d.p.high∧e.p.wide=d.p.wide∧e.p.rule=d.p.rule∧e.p.top=d.p.top∧e.p.least=d.p.least∧e.p.part=d.p.part∧zE e.s=zE d.s∧zX e.used=zX d.used∧AObj.fro 1 (iE e.p.months)=AObj.fro 1 (iE d.p.months)∧AObj.fro 1 (iE e.p.settle)=AObj.fro 1 (iE d.p.settle)∧List.map xN i.X.R=List.map xN c.X.R∧e.Rep i.p i.X.B i.X.U) (zAh i)) (zAh i))
def zSr (a:CaI) (b:EnI):Prop:=∀(c:Mkt),c.Rep a.p a.X.B a.X.U→∃(d:Mkt),sb d.p.code=sb c.p.code∧d.p.tick=c.p.tick∧d.p.low=c.p.low∧d.p.high=c.p.high∧d.p.wide=c.p.wide∧d.p.rule=c.p.rule∧d.p.top=c.p.top∧d.p.least=c.p.least∧d.p.part=c.p.part∧zE d.s=zE c.s∧zX d.used=zX c.used∧AObj.fro 1 (iE d.p.months)=AObj.fro 1 (iE c.p.months)∧AObj.fro 1 (iE d.p.settle)=AObj.fro 1 (iE c.p.settle)∧List.map xN b.X.R=List.map xN a.X.R∧d.Rep b.p b.X.B b.X.U
def zQf (a:Mkt) (b:EnI) (c:RjI):Prop:=zX a.used=zX b.m.used∧AObj.fro 1 (iE a.p.months)=AObj.fro 1 (iE b.m.p.months)∧AObj.fro 1 (iE a.p.settle)=AObj.fro 1 (iE b.m.p.settle)∧List.map xN b.X.R=[xN (Rep.mk 2 c.c.id 0 0 0 0 0 c.why)]∧a.Rep b.p b.X.B b.X.U
def zZw (a:EnI) (b:StI):Prop:=∃(c:CaI),c.id=a.c.id∧c.inst=(zI b.B b.id).fst∧c.o.id=(zI b.B b.id).snd.fst.id∧c.o.side=(zI b.B b.id).snd.fst.side∧c.o.price=(zI b.B b.id).snd.fst.price∧c.o.qty=(zI b.B b.id).snd.fst.qty∧c.o.top=(zI b.B b.id).snd.fst.top∧sb c.m.p.code=sb a.m.p.code∧c.m.p.tick=a.m.p.tick∧c.m.p.low=a.m.p.low∧c.m.p.high=a.m.p.high∧c.m.p.wide=a.m.p.wide∧c.m.p.rule=a.m.p.rule∧c.m.p.top=a.m.p.top∧c.m.p.least=a.m.p.least∧c.m.p.part=a.m.p.part∧zE c.m.s=zE b.s∧zX c.m.used=zX a.m.used∧AObj.fro 1 (iE c.m.p.months)=AObj.fro 1 (iE a.m.p.months)∧AObj.fro 1 (iE c.m.p.settle)=AObj.fro 1 (iE a.m.p.settle)∧((c.m.Rep c.p c.B c.U∧BOk c.p c.B)∧c.X=kT c.B c.U c.id c.inst c.o)∧zSr c a
def yDe (a:EnI):Prop:=∃(b:StI),b.id=a.c.id∧zE b.s=zE a.m.s∧(b.s.Rep b.p b.B∧b.B.length≤1000)∧∀(c:Unit),True→cnd (!(zI b.B b.id).snd.snd) (∃(d:RjI),d.c.kind=a.c.kind∧d.c.id=a.c.id∧d.c.inst=a.c.inst∧d.c.side=a.c.side∧d.c.price=a.c.price∧d.c.qty=a.c.qty∧d.c.least=a.c.least∧d.c.time=a.c.time∧sb d.c.label=sb a.c.label∧d.why=26∧True∧∀(e:Unit),True→∃(f:Mkt),sb f.p.code=sb a.m.p.code∧f.p.tick=a.m.p.tick∧f.p.low=a.m.p.low∧f.p.high=a.m.p.high∧f.p.wide=a.m.p.wide∧f.p.rule=a.m.p.rule∧f.p.top=a.m.p.top∧f.p.least=a.m.p.least∧f.p.part=a.m.p.part∧zE f.s=zE b.s∧zQf f a d) (cnd (a.c.kind==4) (∃(d:z7q),d.c.kind=a.c.kind∧d.c.id=a.c.id∧d.c.inst=a.c.inst∧d.c.side=a.c.side∧d.c.price=a.c.price∧d.c.qty=a.c.qty∧d.c.least=a.c.least∧d.c.time=a.c.time∧sb d.c.label=sb a.c.label∧d.inst=(zI b.B b.id).fst∧d.o.id=(zI b.B b.id).snd.fst.id∧d.o.side=(zI b.B b.id).snd.fst.side∧d.o.price=(zI b.B b.id).snd.fst.price∧d.o.qty=(zI b.B b.id).snd.fst.qty∧d.o.top=(zI b.B b.id).snd.fst.top∧sb d.m.p.code=sb a.m.p.code∧d.m.p.tick=a.m.p.tick∧d.m.p.low=a.m.p.low∧d.m.p.high=a.m.p.high∧d.m.p.wide=a.m.p.wide∧d.m.p.rule=a.m.p.rule∧d.m.p.top=a.m.p.top∧d.m.p.least=a.m.p.least∧d.m.p.part=a.m.p.part∧zE d.m.s=zE b.s∧zX d.m.used=zX a.m.used∧AObj.fro 1 (iE d.m.p.months)=AObj.fro 1 (iE a.m.p.months)∧AObj.fro 1 (iE d.m.p.settle)=AObj.fro 1 (iE a.m.p.settle)∧(d.m.Rep d.p d.B d.U∧BOk d.p d.B∧zI d.B d.c.id=(d.inst,d.o,true)∧(1≤d.c.qty∧d.c.qty≤1000000)∧d.X=vT d.p d.B d.U d.c d.inst d.o)∧∀(e:Mkt),e.Rep d.p d.X.B d.X.U→∃(f:Mkt),sb f.p.code=sb e.p.code∧f.p.tick=e.p.tick∧f.p.low=e.p.low∧f.p.high=e.p.high∧f.p.wide=e.p.wide∧f.p.rule=e.p.rule∧f.p.top=e.p.top∧f.p.least=e.p.least∧f.p.part=e.p.part∧zE f.s=zE e.s∧zX f.used=zX e.used∧AObj.fro 1 (iE f.p.months)=AObj.fro 1 (iE e.p.months)∧AObj.fro 1 (iE f.p.settle)=AObj.fro 1 (iE e.p.settle)∧List.map xN a.X.R=List.map xN d.X.R∧f.Rep a.p a.X.B a.X.U) (cnd (a.c.kind==2) (zZw a b) (cnd (decide (a.c.qty≥(zI b.B b.id).snd.fst.qty)) (zZw a b) (∃(d:CaI),d.id=a.c.id∧d.q=a.c.qty∧d.inst=(zI b.B b.id).fst∧d.o.id=(zI b.B b.id).snd.fst.id∧d.o.side=(zI b.B b.id).snd.fst.side∧d.o.price=(zI b.B b.id).snd.fst.price∧d.o.qty=(zI b.B b.id).snd.fst.qty∧d.o.top=(zI b.B b.id).snd.fst.top∧sb d.m.p.code=sb a.m.p.code∧d.m.p.tick=a.m.p.tick∧d.m.p.low=a.m.p.low∧d.m.p.high=a.m.p.high∧d.m.p.wide=a.m.p.wide∧d.m.p.rule=a.m.p.rule∧d.m.p.top=a.m.p.top∧d.m.p.least=a.m.p.least∧d.m.p.part=a.m.p.part∧zE d.m.s=zE b.s∧zX d.m.used=zX a.m.used∧AObj.fro 1 (iE d.m.p.months)=AObj.fro 1 (iE a.m.p.months)∧AObj.fro 1 (iE d.m.p.settle)=AObj.fro 1 (iE a.m.p.settle)∧(cV d)∧zSr d a))))
def Vdo (i:EnI):Prop:=
 ∃(a:Cmd),a.kind=i.c.kind∧a.id=i.c.id∧a.inst=i.c.inst∧a.side=i.c.side∧a.price=i.c.price∧a.qty=i.c.qty∧a.least=i.c.least∧a.time=i.c.time∧sb a.label=sb i.c.label∧a.label.length≤140737488355328∧∀(b:Unit),True→cnd (a.right !=0) (∃(c:RjI),c.c.kind=i.c.kind∧c.c.id=i.c.id∧c.c.inst=i.c.inst∧c.c.side=i.c.side∧c.c.price=i.c.price∧c.c.qty=i.c.qty∧c.c.least=i.c.least∧c.c.time=i.c.time∧sb c.c.label=sb i.c.label∧c.why=a.right∧True∧∀(d:Unit),True→∃(e:Mkt),sb e.p.code=sb i.m.p.code∧e.p.tick=i.m.p.tick∧e.p.low=i.m.p.low∧e.p.high=i.m.p.high∧e.p.wide=i.m.p.wide∧e.p.rule=i.m.p.rule∧e.p.top=i.m.p.top∧e.p.least=i.m.p.least∧e.p.part=i.m.p.part∧zE e.s=zE i.m.s∧zQf e i c) (cnd (i.c.kind==1) (∃(c:EnI),c.c.kind=i.c.kind∧c.c.id=i.c.id∧c.c.inst=i.c.inst∧c.c.side=i.c.side∧c.c.price=i.c.price∧c.c.qty=i.c.qty∧c.c.least=i.c.least∧c.c.time=i.c.time∧sb c.c.label=sb i.c.label∧sb c.m.p.code=sb i.m.p.code∧c.m.p.tick=i.m.p.tick∧c.m.p.low=i.m.p.low∧c.m.p.high=i.m.p.high∧c.m.p.wide=i.m.p.wide∧c.m.p.rule=i.m.p.rule∧c.m.p.top=i.m.p.top∧c.m.p.least=i.m.p.least∧c.m.p.part=i.m.p.part∧zE c.m.s=zE i.m.s∧zX c.m.used=zX i.m.used∧AObj.fro 1 (iE c.m.p.months)=AObj.fro 1 (iE i.m.p.months)∧AObj.fro 1 (iE c.m.p.settle)=AObj.fro 1 (iE i.m.p.settle)∧((c.m.Rep c.p c.B c.U∧BOk c.p c.B)∧c.c.right=0∧c.c.kind=1∧c.X=cF c.p c.B c.U c.c)∧pD c i) ((yDe i)∧i.c.id=i.c.id∧True∧yDe i))
def yMl (i:MfI):Prop:=
 ∃(i_1:StI),i_1.id=i.id∧zE i_1.s=zE i.m.s∧(i_1.s.Rep i_1.p i_1.B∧i_1.B.length≤1000)∧∀(o:Unit),True→∃(o:Unit),(zI i.B i.id).fst=(zI i_1.B i_1.id).fst∧(zI i.B i.id).snd.fst.id=(zI i_1.B i_1.id).snd.fst.id∧(zI i.B i.id).snd.fst.side=(zI i_1.B i_1.id).snd.fst.side∧(zI i.B i.id).snd.fst.price=(zI i_1.B i_1.id).snd.fst.price∧(zI i.B i.id).snd.fst.qty=(zI i_1.B i_1.id).snd.fst.qty∧(zI i.B i.id).snd.fst.top=(zI i_1.B i_1.id).snd.fst.top∧(zI i.B i.id).snd.snd=(zI i_1.B i_1.id).snd.snd∧sb i.m.p.code=sb i.m.p.code∧i.m.p.tick=i.m.p.tick∧i.m.p.low=i.m.p.low∧i.m.p.high=i.m.p.high∧i.m.p.wide=i.m.p.wide∧i.m.p.rule=i.m.p.rule∧i.m.p.top=i.m.p.top∧i.m.p.least=i.m.p.least∧i.m.p.part=i.m.p.part∧zE i.m.s=zE i_1.s∧zX i.m.used=zX i.m.used∧AObj.fro 1 (iE i.m.p.months)=AObj.fro 1 (iE i.m.p.months)∧AObj.fro 1 (iE i.m.p.settle)=AObj.fro 1 (iE i.m.p.settle)∧True
def yGg (i:MfI):Prop:=
 ∃(i_1:SoI),zE i_1.s=zE i.m.s∧(i_1.s.Rep i_1.p i_1.B∧i_1.B.length≤1000)∧∀(o:Unit),True→∃(o:Unit),(↑(zDx i.B):Int)=(↑(zDx i_1.B):Int)∧sb i.m.p.code=sb i.m.p.code∧i.m.p.tick=i.m.p.tick∧i.m.p.low=i.m.p.low∧i.m.p.high=i.m.p.high∧i.m.p.wide=i.m.p.wide∧i.m.p.rule=i.m.p.rule∧i.m.p.top=i.m.p.top∧i.m.p.least=i.m.p.least∧i.m.p.part=i.m.p.part∧zE i.m.s=zE i_1.s∧zX i.m.used=zX i.m.used∧AObj.fro 1 (iE i.m.p.months)=AObj.fro 1 (iE i.m.p.months)∧AObj.fro 1 (iE i.m.p.settle)=AObj.fro 1 (iE i.m.p.settle)∧True
set_option linter.unusedSimpArgs false
open Go Cv Go.Proofs
theorem wV (p:Prd) (B:List (List zD)) (U:List Int) (c:Cmd):wI p B U c=⟨if(qG p B c.inst (decide (c.side=2)) c.price c.qty).left≠0∧c.time=1 then(zCx p (qG p B c.inst (decide (c.side=2)) c.price c.qty).B c.inst c.id c.side c.price (qG p B c.inst (decide (c.side=2)) c.price c.qty).left).1 else(qG p B c.inst (decide (c.side=2)) c.price c.qty).B,zDg U c.id,
 (⟨1,c.id,c.inst,c.side,c.price,c.qty,c.qty,0⟩::j6 p c (qG p B c.inst (decide (c.side=2)) c.price c.qty).steps c.qty)++if(qG p B c.inst (decide (c.side=2)) c.price c.qty).left≠0∧c.time≠1 then[⟨4,c.id,c.inst,c.side,c.price,(qG p B c.inst (decide (c.side=2)) c.price c.qty).left,0,0⟩]else[]⟩:=by
 rw[wI]
theorem zNr {p:Prd} {B:List (List zD)} (h:BWf p B) (U:List Int) (c:Cmd):BOk p (wI p B U c).B:=by
 have:=(bY (inst:=c.inst) (sd:=decide (c.side=2)) (price:=c.price) _ c.qty B (yXn _) h).1.ok
 rw[wV]
 dsimp only
 split
 ·exact this.add _ _ _ _ _
 ·exact this
theorem z7j {p:Prd} {B:List (List zD)} (h:BWf p B) (U:List Int) (c:Cmd):BOk p (cF p B U c).B:=by
 rw[cF]
 split
 ·exact h.ok
 split
 ·exact h.ok
 split
 ·exact h.ok
 split
 ·exact h.ok
 split
 ·exact h.ok
 exact zNr h U c
theorem yNa {p:Prd} {B:List (List zD)} (h:BWf p B) (U:List Int) (c:Cmd):BOk p (doF p B U c).B:=by
 rw[doF]
 split
 ·exact h.ok
 split
 ·exact z7j h U c
 split
 ·exact h.ok
 split
 ·rw[vT]
  split
  ·exact h.ok
  split
  ·exact h.ok.take _ _
  split
  ·exact h.ok
  exact zNr (h.take _ _) U _
 split
 ·exact h.ok.take _ _
 ·exact h.ok.take _ _
def Acc (B:List (List zD)) (U:List Int):Prop:=∀L∈B,∀o∈L,o.id∈U
theorem use_mem {U:List Int} {id k:Int}:k∈zDg U id↔k∈U∨k=id:=by
 rw[zDg]
 split
 ·rename_i h
  constructor
  ·exact .inl
  ·rintro(h2|rfl)
   ·exact h2
   ·exact h
 ·simp
theorem Acc.mono {B:List (List zD)} {U U':List Int} (h:Acc B U) (hu:∀k∈U,k∈U'):Acc B U':=fun L hL o ho=>hu _ (h L hL o ho)
theorem Acc.take {B:List (List zD)} {U:List Int} (h:Acc B U) (id q:Int):Acc (yX B id q).1 U:=by
 rw[yX]
 split
 ·exact h
 ·rename_i k hk
  dsimp only
  obtain⟨L0,hL0,_⟩:=xO hk
  intro L hL o ho
  rcases y1c hL with hL|rfl
  ·exact h L hL o ho
  ·rw[zK hL0]at ho
   obtain⟨o',ho',_,_,e⟩:=zLq ho
   rw[e]
   exact h L0 (yWv hL0) o' ho'
theorem Acc.takes {U:List Int}:∀{fs:List vL} {B:List (List zD)},Acc B U→Acc (y6 B fs) U
 |[],B,h=>h
 |f::fs,B,h=>Acc.takes (fs:=fs) (h.take f.id f.qty)
theorem Acc.run {p:Prd} {inst:Int} {sd:Bool} {price:Int} {U:List Int}:∀(m:Nat) (q:Int) (B:List (List zD)),q.toNat≤m→Acc B U→Acc (qG p B inst sd price q).B U
 |m,q,B,hm,h=>by
  by_cases hq:q≤0
  ·rw[vV (.inl hq)];exact h
  cases hs:jW p B inst sd price q with
  |none=>rw[vV (.inr hs)];exact h
  |some x=>
   obtain⟨t,C⟩:=x
   have hC:Acc C U:=by
    rw[jW]at hs
    dsimp only at hs
    split at hs
    ·split at hs
     ·cases hs;exact h.takes.takes
     ·cases hs;exact h.takes
    ·cases hs
   have hq2:=sB (by omega) hs
   cases m with
   |zero=>omega
   |succ m=>
   rw[a8 (by omega) hs]
   exact Acc.run m (q-t.qty) C (by omega) hC
theorem Acc.add {p:Prd} {B:List (List zD)} {U:List Int} (h:Acc B U) (inst id s price q:Int):Acc (zCx p B inst id s price q).1 (zDg U id):=by
 have h':Acc B (zDg U id):=h.mono fun k hk=>use_mem.2 (.inl hk)
 rw[zCx]
 split
 ·exact h'
 split
 ·exact h'
 split
 ·exact h'
 split
 ·exact h'
 rename_i c1 _ _ _
 obtain⟨L0,hL0⟩:=yA (l:=B) (i:=inst.toNat) (by omega)
 have hm:=h L0 (yWv hL0)
 intro L hL o ho
 rcases y1c hL with hL|rfl
 ·exact h' L hL o ho
 ·rw[zK hL0,rM]at ho
  split at ho
  ·exact use_mem.2 (.inl (hm o ho))
  split at ho
  ·exact use_mem.2 (.inl (hm o ho))
  split at ho
  ·exact use_mem.2 (.inl (hm o ho))
  rcases yXd.1 ((zBw L0 s id price q).mem_iff.1 (yXh (f:=(·.id)) ho))with e|hm2
  ·exact use_mem.2 (.inr e)
  ·obtain⟨o',ho',e⟩:=yXl.1 hm2
   exact use_mem.2 (.inl (e▸hm o' ho'))
theorem Acc.enter {p:Prd} {B:List (List zD)} {U:List Int} (h:Acc B U) (c:Cmd):Acc (wI p B U c).B (wI p B U c).U:=by
 have hr:=Acc.run (p:=p) (inst:=c.inst) (sd:=decide (c.side=2)) (price:=c.price) _ c.qty B (yXn _) h
 rw[wV]
 dsimp only
 split
 ·exact hr.add _ _ _ _ _
 ·exact hr.mono fun k hk=>use_mem.2 (.inl hk)
structure DoU (p:Prd) (B:List (List zD)) (U:List Int) (c:Cmd) (X:MkX):Prop where
 acc:Acc X.B X.U
 fst:∃r l,X.R=r::l∧(c.right=0→c.kind=1→p.price c.inst c.price=0→(r.why=25↔c.id∈U))∧(∀k,k∈X.U↔k∈U∨(c.kind=1∧r.kind=1∧k=c.id))
theorem yEj {B:List (List zD)} {U:List Int} (h:Acc B U) {id:Int} (hf:(zI B id).2.2=true):id∈U:=by
 rw[zI]at hf
 split at hf
 ·cases hf
 ·rename_i k hk
  obtain⟨L,hL,hh⟩:=xO hk
  obtain⟨o,ho,e⟩:=yXl.1 (hasId_iff.1 hh)
  exact e▸h L (yWv hL) o ho
theorem yKk {p:Prd} {B:List (List zD)} {U:List Int} (h:Acc B U) (c:Cmd):DoU p B U c (doF p B U c):=by
 have hrej:∀why:Int,(c.right=0→c.kind=1→p.price c.inst c.price=0→(why=25↔c.id∈U))→DoU p B U c ⟨B,U,cE c why⟩:=fun why hw=>⟨h,_,_,rfl,hw,fun k=>⟨.inl,by rintro(x|x);exact x;cases x.2.1⟩⟩
 rw[doF]
 split
 ·rename_i c1
  exact hrej _ fun e=>absurd e c1
 split
 ·rename_i c1 c2
  rw[cF]
  split
  ·rename_i c3
   exact hrej _ fun _ _ e=>absurd e c3
  split
  ·rename_i c3 c4
   exact hrej _ fun _ _ _=>⟨fun _=>c4,fun _=>rfl⟩
  rename_i c4
  split
  ·exact hrej _ fun _ _ _=>⟨fun e=>(by cases e),fun e=>absurd e c4⟩
  split
  ·exact hrej _ fun _ _ _=>⟨fun e=>(by cases e),fun e=>absurd e c4⟩
  split
  ·exact hrej _ fun _ _ _=>⟨fun e=>(by cases e),fun e=>absurd e c4⟩
  refine⟨h.enter c,⟨1,c.id,c.inst,c.side,c.price,c.qty,c.qty,0⟩,_,by rw[wV];rfl,fun _ _ _=>⟨fun e=>(by cases e),fun e=>absurd e c4⟩,fun k=> ?_⟩
  rw[wV]
  dsimp only
  rw[use_mem]
  exact⟨fun x=>x.imp id fun e=>⟨c2,rfl,e⟩,fun x=>x.imp id fun e=>e.2.2⟩
 rename_i c1 c2
 have hk:∀(U':List Int) (r:Rep) (k:Int),(∀k,k∈U'↔k∈U)→(k∈U'↔k∈U∨(c.kind=1∧r.kind=1∧k=c.id)):=fun U' r k e=>by
  rw[e];exact⟨.inl,by rintro(x|x);exact x;exact absurd x.1 c2⟩
 split
 ·exact hrej _ fun _ e=>absurd e c2
 rename_i c3
 have hin:c.id∈U:=yEj h (by simpa using c3)
 split
 ·rw[vT]
  split
  ·exact hrej _ fun _ e=>absurd e c2
  split
  ·exact⟨h.take _ _,_,_,rfl,fun _ e=>absurd e c2,fun k=>hk _ _ k fun _=>Iff.rfl⟩
  split
  ·exact hrej _ fun _ e=>absurd e c2
  refine⟨(h.take _ _).enter _,_,_,rfl,fun _ e=>absurd e c2,fun k=>hk _ _ k fun k=> ?_⟩
  dsimp only
  rw[wV]
  dsimp only
  rw[use_mem]
  exact⟨by rintro(x|rfl);exact x;exact hin,.inl⟩
 split
 ·exact⟨h.take _ _,_,_,rfl,fun _ e=>absurd e c2,fun k=>hk _ _ k fun _=>Iff.rfl⟩
 ·exact⟨h.take _ _,_,_,rfl,fun _ e=>absurd e c2,fun k=>hk _ _ k fun _=>Iff.rfl⟩
open Go Cv Go.Proofs
def Two (L:List zD):Prop:=L=u9 L 1++u9 L 2
open Go Cv Go.Proofs
open Go Cv Go.Proofs
open Go Cv Go.Proofs
theorem rN {inst s:Int} {f:vL}:∀{os:List zD} {sh:List Int},f∈yI inst s os sh→f.side=s∧f.inst=inst∧∃o∈os,f.price=o.price
 |[],sh,h=>by cases h
 |o::os,[],h=>by cases h
 |o::os,k::sh,h=>by
  rw[yI]at h
  split at h
  ·rcases yXd.1 h with rfl|h
   ·exact⟨rfl,rfl,o,yWq,rfl⟩
   ·obtain⟨a,b,o',c,d⟩:=rN h
    exact⟨a,b,o',yWr _ c,d⟩
  ·obtain⟨a,b,o',c,d⟩:=rN h
   exact⟨a,b,o',yWr _ c,d⟩
def FOk (f:vL):Prop:=(f.side=1∨f.side=2)∧-2000000≤f.price∧f.price≤2000000
theorem zEf {p:Prd} {B:List (List zD)} (h:BOk p B) (inst:Int) {s:Int} (hs:s=1∨s=2) (q:Int):∀f∈y4 p B inst s q,FOk f:=by
 intro f hf
 obtain⟨a,_,o,ho,e⟩:=rN hf
 refine⟨by rw[a];exact hs,?_⟩
 rw[e]
 have ho:=(yXt.1 ho).1
 by_cases hk:inst.toNat<B.length
 ·obtain⟨L,hL⟩:=yA hk
  rw[zK hL]at ho
  exact h.prices hL o ho
 ·rw[yWt,yXm (by omega)]at ho;cases ho
def SOk (t:qZ):Prop:=(-2000000≤t.price∧t.price≤2000000)∧(∀f∈t.fills,FOk f)∧t.fills.length≤500
theorem yJu {p:Prd} {B:List (List zD)} (h:BWf p B) {inst:Int} (hi:0≤inst∧inst<B.length) {s:Int} (hs:s=1∨s=2) (hn:(zW p B inst s).2.2=true): -2000000≤(zW p B inst s).1.price∧(zW p B inst s).1.price≤2000000:=by
 rw[zW]at hn ⊢
 obtain⟨L,hL⟩:=yA (l:=B) (i:=inst.toNat) (by omega)
 rw[zK hL]at hn ⊢
 split
 ·exact zSc (h.ok.prices hL)
 ·rename_i c
  rw[yWl c]at hn
  have hm:=zPi hn
  have:=(yXt.1 hm).2
  exact zDk h.ok.pc (yZh this)
theorem yJl {p:Prd} {B:List (List zD)} (h:BWf p B) {inst:Int} (hi:0≤inst∧inst<B.length) {sd:Bool} {price q:Int} {t:qZ} {B':List (List zD)} (e:jW p B inst sd price q=some (t,B')):SOk t:=by
 have hs:zB (!sd)=1∨zB (!sd)=2:=cN _
 have hb:=yJu h hi hs
 have hin:=eM h.ok h.od hi hs
 rw[jW]at e
 dsimp only at e
 split at e
 ·rename_i c
  have c1:(zW p B inst (zB (!sd))).2.2=true:=by
   cases hx:(zW p B inst (zB (!sd))).2.2 with
   |false=>rw[hx]at c;cases c
   |true=>rfl
  have hb:=hb c1
  obtain⟨_,hin,_⟩:=hin c1
  split at e
  ·rename_i c2
   obtain⟨_,ok⟩:=hin c2
   cases e
   refine⟨hb,fun f hf=> ?_,?_⟩
   ·rcases yXo.1 hf with hf|hf
    ·exact zEf h.ok _ ok.sa _ f hf
    ·exact zEf h.ok.takes _ ok.sb _ f hf
   ·dsimp only
    rw[yWs]
    have:=mH (p:=p) h.od (zW p B inst (zB (!sd))).1.a.inst (zW p B inst (zB (!sd))).1.a.side (min q (zW p B inst (zB (!sd))).1.qty)
    have:=mH (p:=p) (h.takes (fs:=y4 p B (zW p B inst (zB (!sd))).1.a.inst (zW p B inst (zB (!sd))).1.a.side (min q (zW p B inst (zB (!sd))).1.qty))).od (zW p B inst (zB (!sd))).1.b.inst (zW p B inst (zB (!sd))).1.b.side (min q (zW p B inst (zB (!sd))).1.qty)
    omega
  ·cases e
   refine⟨hb,fun f hf=>zEf h.ok _ hs _ f hf,?_⟩
   have:=mH (p:=p) h.od inst (zB (!sd)) (min q (zW p B inst (zB (!sd))).1.qty)
   dsimp only
   omega
 ·cases e
open Go Cv Go.Proofs
open Go Cv Go.Proofs
def lR (a:StI):Prop:=yU a.s.wh=yU a.s.wh∧AObj.fro 1 (iE a.s.p.months)=AObj.fro 1 (iE a.s.p.months)∧AObj.fro 1 (iE a.s.p.settle)=AObj.fro 1 (iE a.s.p.settle)∧True
def yCl (i:StI):Prop:=
 (bP i)∧∃(a:Bool),∃(b:Int),(rB i b a)∧cnd (!a) (∃(c:Unit),(zI i.B i.id).fst=0∧(zI i.B i.id).snd.fst.id=0∧(zI i.B i.id).snd.fst.side=0∧(zI i.B i.id).snd.fst.price=0∧(zI i.B i.id).snd.fst.qty=0∧(zI i.B i.id).snd.fst.top=false∧(zI i.B i.id).snd.snd=false∧sb i.s.p.code=sb i.s.p.code∧i.s.p.tick=i.s.p.tick∧i.s.p.low=i.s.p.low∧i.s.p.high=i.s.p.high∧i.s.p.wide=i.s.p.wide∧i.s.p.rule=i.s.p.rule∧i.s.p.top=i.s.p.top∧i.s.p.least=i.s.p.least∧i.s.p.part=i.s.p.part∧AObj.objs 184 Book 6 zS i.s.books none=AObj.objs 184 Book 6 zS i.s.books none∧lR i) ((0≤b∧b<(↑i.s.books.length:Int))∧b.toNat<i.s.books.length∧∃(c:Book),i.s.books[b.toNat]?=some c∧∃(d:FlI),d.id=i.id∧yB d.b=yB c∧d.b.Rep d.L∧∀(e:Unit),True→∃(f:Book),yB d.b=yB f∧b.toNat=b.toNat∧b.toNat<i.s.books.length∧∃(g:Unit),(zI i.B i.id).fst=b∧(zI i.B i.id).snd.fst.id=(fT d.L d.id).id∧(zI i.B i.id).snd.fst.side=(fT d.L d.id).side∧(zI i.B i.id).snd.fst.price=(fT d.L d.id).price∧(zI i.B i.id).snd.fst.qty=(fT d.L d.id).qty∧(zI i.B i.id).snd.fst.top=(fT d.L d.id).top∧(zI i.B i.id).snd.snd=true∧sb i.s.p.code=sb i.s.p.code∧i.s.p.tick=i.s.p.tick∧i.s.p.low=i.s.p.low∧i.s.p.high=i.s.p.high∧i.s.p.wide=i.s.p.wide∧i.s.p.rule=i.s.p.rule∧i.s.p.top=i.s.p.top∧i.s.p.least=i.s.p.least∧i.s.p.part=i.s.p.part∧AObj.objs 184 Book 6 zS i.s.books none=AObj.objs 184 Book 6 zS (i.s.books.set b.toNat f) none∧lR i)
open Go Cv Go.Proofs
theorem yMv (i:StI) (h:sfindC.cnd i):yCl i:=by
 obtain⟨hR,hB⟩:i.s.Rep i.p i.B∧i.B.length≤1000:=h
 have hat:=hR.at_ i.id
 unfold yCl bP rB lR dI
 rw[zI]
 cases hi:fF i.B i.id with
 |none=>
  rw[hi]at hat
  exact⟨dD _ _,false,0,.inr ⟨by rw[mA,hat];rfl,rfl,rfl⟩,Cv.cnd.mk (fun _=>⟨(),by(repeat'(first|exact trivial|exact rfl|apply And.intro))⟩) (fun e=>absurd e (by decide))⟩
 |some k=>
  rw[hi]at hat
  obtain⟨L,hL,hh⟩:=xO hi
  have hk:=(yWn.1 hL).1
  obtain⟨b,hb⟩:=yA (l:=i.s.books) (i:=k) (by rw[hR.bl];exact hk)
  have hbR:=hR.bk k b L hb hL
  have hbl:=hR.bl
  refine⟨dD _ _,true,k,.inl ⟨by rw[mA,hat];rfl,rfl⟩,Cv.cnd.mk (fun e=>absurd e (by decide)) (fun _=> ?_)⟩
  dsimp only
  rw[yXc,zK hL]
  have hs:=jC hb
  refine⟨⟨by omega,by omega⟩,by omega,b,hb,⟨b,L,i.id,0⟩,rfl,rfl,hbR,fun _ _=>⟨b,rfl,rfl,by omega,(),?_⟩⟩
  rw[hs]
  (repeat'(first|exact trivial|exact rfl|apply And.intro))
theorem zVw:sfindC.ok Tryz.prog 55:=okw mixed (gokc zXl gok0) 0 (fun _=>[]) (fun _=>[]) [0] Tryz.func55 yMv
open Go Cv Go.Proofs
theorem zNy (id:Int) (U:List Int):∀p∈zX U,like (Value.int IntKind.i64 id) p.1=true:=by
 intro p hp
 obtain⟨k,_,rfl⟩:=yXl.1 hp
 rfl
theorem zNk (id:Int):∀U:List Int,uC (Value.int IntKind.i64 id) [D.v (.bool true)] (zX U)=zX (zDg U id)
 |[]=>rfl
 |k::U=>by
  have ih:=zNk id U
  have e:cO (Value.int IntKind.i64 id) (Value.int IntKind.i64 k)=decide (id=k):=by simp[cO,keq]
  show(bif cO (Value.int IntKind.i64 id) (Value.int IntKind.i64 k)then(Value.int IntKind.i64 k,[D.v (.bool true)])::zX U else(Value.int IntKind.i64 k,[D.v (.bool true)])::uC (Value.int IntKind.i64 id) [D.v (.bool true)] (zX U))=_
  rw[e,ih]
  by_cases c:id=k
  ·rw[yXf c,cond_true,zDg,yWm (by rw[c];exact yWq)];rfl
  ·rw[yWy c,cond_false,zDg,zDg]
   have hm:id∈k::U↔id∈U:=by simp[c]
   by_cases d:id∈U
   ·rw[yWm d,yWm (hm.2 d)];rfl
   ·rw[yWl d,yWl (fun x=>d (hm.1 x))];rfl
theorem zOy (id:Int):∀U:List Int,qY (Value.int IntKind.i64 id) (zX U)=if id∈U then some [D.v (.bool true)]else none
 |[]=>rfl
 |k::U=>by
  have ih:=zOy id U
  have e:cO (Value.int IntKind.i64 id) (Value.int IntKind.i64 k)=decide (id=k):=by simp[cO,keq]
  show(bif cO (Value.int IntKind.i64 id) (Value.int IntKind.i64 k)then some [D.v (.bool true)]else qY (Value.int IntKind.i64 id) (zX U))=_
  rw[e,ih]
  by_cases c:id=k
  ·rw[yXf c,cond_true,yWm (by rw[c];exact yWq)]
  ·rw[yWy c,cond_false]
   have hm:id∈k::U↔id∈U:=by simp[c]
   by_cases d:id∈U
   ·rw[yWm d,yWm (hm.2 d)]
   ·rw[yWl d,yWl (fun x=>d (hm.1 x))]
theorem yEq (id:Int) (U:List Int):qY (Value.int IntKind.i64 id) (zX U)=some [D.v (.bool (decide (id∈U)))]∧decide (id∈U)=true∨qY (Value.int IntKind.i64 id) (zX U)=none∧[D.v (.bool (decide (id∈U)))]=[D.v (.bool false)]∧decide (id∈U)=false:=by
 rw[zOy]
 by_cases c:id∈U
 ·rw[yWm c,yXf c];exact .inl ⟨rfl,rfl⟩
 ·rw[yWl c,yWy c];exact .inr ⟨rfl,rfl,rfl⟩
theorem zTa {p:Prd} {inst:Int} {sd:Bool} {price:Int}:∀(m:Nat) (q:Int) (B:List (List zD)),q.toNat≤m→BWf p B→0≤inst∧inst<B.length→
 (∀t∈(qG p B inst sd price q).steps,SOk t∧1≤t.qty)∧((qG p B inst sd price q).steps.map (·.qty)).sum=q-(qG p B inst sd price q).left
 |m,q,B,hm,h,hi=>by
  by_cases hq:q≤0
  ·rw[vV (.inl hq)];exact⟨fun t ht=>(by cases ht),by simp⟩
  cases hs:jW p B inst sd price q with
  |none=>rw[vV (.inr hs)];exact⟨fun t ht=>(by cases ht),by simp⟩
  |some x=>
   obtain⟨t,C⟩:=x
   obtain⟨k1,k2⟩:=zEo h hs
   have hq2:=sB (by omega) hs
   cases m with
   |zero=>omega
   |succ m=>
   obtain⟨i1,i2⟩:=zTa (p:=p) (inst:=inst) (sd:=sd) (price:=price) m (q-t.qty) C (by omega) k1 (by rw[k2];exact hi)
   rw[a8 (by omega) hs]
   refine⟨fun u hu=> ?_,?_⟩
   ·rcases yXd.1 hu with rfl|hu
    ·exact⟨yJl h hi hs,hq2.1⟩
    ·exact i1 u hu
   ·dsimp only
    rw[yWu,yXj,i2];omega
theorem yKu {α:Type} {f:α→List Rep} (hf:∀x,(f x).length≤3):∀l:List α,(l.flatMap f).length≤3*l.length
 |[]=>yXn _
 |x::l=>by
  have:=yKu hf l
  have:=hf x
  rw[yYc,yWs,yXa];omega
theorem zOa (p:Prd) (c:Cmd) (x:qZ) (left:Int):(fV p c x left).length≤3*x.fills.length+3:=by
 rw[fV,yWs]
 have:=yKu (fun f=>zIg p x (fS f)) x.fills
 have:=zIg p x ⟨3,c.id,c.inst,c.side,x.price,x.qty,left,0⟩
 omega
theorem zSu {l:List qZ} (h:∀t∈l,SOk t∧1≤t.qty):(l.length:Int)≤(l.map (·.qty)).sum:=by
 induction l with
 |nil=>exact y2l _
 |cons t l ih=>
  have:=ih fun u hu=>h u (yWr _ hu)
  have:=(h t yWq).2
  rw[yWu,yXj,yXa];omega
theorem yOd (i:EnI) (h:enterC.cnd i):yFz i:=by
 obtain⟨m,p,B,U,c,X⟩:=i
 have h':(m.Rep p B U∧BOk p B)∧((0≤c.inst∧c.inst<B.length)∧(1≤c.qty∧c.qty≤1000000)∧(c.side=1∨c.side=2))∧p.price c.inst c.price=0∧X=wI p B U c:=h
 clear h
 obtain⟨⟨⟨ep,hR,eu⟩,hB⟩,⟨⟨h0,h1⟩,hq,hs⟩,hpz,hX⟩:=h'
 subst ep eu hX
 have hwf:=hR.wf hB
 obtain⟨k1,k2,k3⟩:=bY (inst:=c.inst) (sd:=decide (c.side=2)) (price:=c.price) _ c.qty B (yXn _) hwf
 have k3:=k3 (by omega)
 obtain⟨s1,s2⟩:=zTa (inst:=c.inst) (sd:=decide (c.side=2)) (price:=c.price) _ c.qty B (yXn _) hwf ⟨h0,h1⟩
 have hX:=wV m.p B m.used c
 have hbd:=zDk hB.pc hpz
 unfold yFz qO vR zAp dI
 dsimp only
 rw[zNk,hX]
 refine⟨zNy _ _,⟨m.s,m.p,B,c.inst,decide (c.side=2),c.price,c.qty⟩,rfl,gU hs,rfl,rfl,rfl,⟨hR,hB,⟨h0,h1⟩,hq.1,hq.2⟩,fun o ho=> ?_⟩
 have er:RunI.r ⟨m.s,m.p,B,c.inst,decide (c.side=2),c.price,c.qty⟩=qG m.p B c.inst (decide (c.side=2)) c.price c.qty:=rfl
 rw[er]at ho ⊢
 clear hX er
 generalize qG m.p B c.inst (decide (c.side=2)) c.price c.qty=R at*
 obtain⟨ts,lf,RB⟩:=R
 dsimp only at*
 have hlen:=zSu s1
 have e4:(ts.map jZ).length=ts.length:=yWo ..
 refine⟨⟨c.qty,0,[⟨1,c.id,c.inst,c.side,c.price,c.qty,c.qty,0⟩]⟩,rfl,rfl,rfl,fun j=>j.k≤ts.length∧j.left=lf+((ts.drop j.k).map (·.qty)).sum∧(⟨1,c.id,c.inst,c.side,c.price,c.qty,c.qty,0⟩::j6 m.p c ts c.qty)=j.out++j6 m.p c (ts.drop j.k) j.left∧j.out.length≤1+1503*j.k,fun j=>ts.length-j.k,⟨yYe _,by dsimp only;rw[yZw,s2];omega,rfl,yXn _⟩,?_⟩
 rintro⟨left,k,out⟩ ⟨j1,j2,j3,j4⟩
 dsimp only at j1 j2 j3 j4 ⊢
 have e5:(out.map xN).length=out.length:=yWo ..
 refine zJ (fun c1=> ?_) (fun c1=> ?_)
 ·obtain⟨t,ht⟩:=yA (l:=ts) (i:=k) (by omega)
  have hd:ts.drop k=t::ts.drop (k+1):=by rw[yZb (by omega),(yWn.1 ht).2]
  obtain⟨⟨t1,t2,t3⟩,t4⟩:=s1 t (yWv ht)
  have hsd:=zSu (l:=ts.drop (k+1)) fun u hu=>s1 u (y0b hu)
  have hsk:((ts.drop k).map (·.qty)).sum≤(ts.map (·.qty)).sum:=by
   have:=zSu (l:=ts.take k) fun u hu=>s1 u (y2a hu)
   have e:(ts.map (·.qty)).sum=((ts.take k).map (·.qty)).sum+((ts.drop k).map (·.qty)).sum:=by
    rw[← List.sum_append,← yWw,yZc]
   omega
  rw[hd,yWu,yXj]at j2 hsk
  rw[hd,j6]at j3
  have hrl:=zOa m.p c t (left-t.qty)
  have e6:((fV m.p c t (left-t.qty)).map xN).length=(fV m.p c t (left-t.qty)).length:=yWo ..
  have hw:IntKind.i64.wrap (left-t.qty)=left-t.qty:=w64 (by omega)
  refine⟨⟨by omega,by omega⟩,t.price,t.qty,t.implied,t.fills.map yT,elA ht (by simp[jZ]) rfl,?_⟩
  rw[hw]
  refine⟨⟨⟨m.p,o,zDg m.used c.id⟩,c,t,left-t.qty⟩,rfl,rfl,rfl,rfl,rfl,rfl,rfl,rfl,rfl,rfl,rfl,rfl,rfl,rfl,rfl,rfl,rfl,rfl,rfl,rfl,rfl,rfl,rfl,rfl,rfl,rfl,rfl,⟨⟨hB.pc,hB.ps⟩,⟨by dsimp only;omega,by dsimp only;omega⟩,by dsimp only;omega,hs,fun f hf=>(t2 f hf).1⟩,fun _ _=>⟨by dsimp only;rw[e5,e6];omega,⟨left-t.qty,k+1,out++fV m.p c t (left-t.qty)⟩,rfl,wjn (by omega),by dsimp only;rw[yWw],⟨by dsimp only;omega,by dsimp only;omega,by dsimp only;rw[j3,yWx],by dsimp only;rw[yWs];omega⟩,by dsimp only;omega,by(repeat'(first|exact trivial|exact rfl|apply And.intro))⟩⟩
 have hk:k=ts.length:=by omega
 subst hk
 rw[List.drop_of_length_le (yXn _)]at j2 j3
 rw[j6,yXk]at j3
 rw[← j3]
 rw[← j3]at e5 j4
 have hRB:=k1.ok
 refine Cv.cnd.mk (fun e=> ?_) (fun e=>Cv.cnd.mk (fun e2=> ?_) (fun e2=> ?_))
 ·have e:lf=0:=by simpa using e
  rw[yWl (by omega),yWl (by omega),yXk]
  exact⟨⟨m.p,o,zDg m.used c.id⟩,rfl,rfl,rfl,rfl,rfl,rfl,rfl,rfl,rfl,rfl,rfl,rfl,rfl,rfl,rfl,ho,rfl⟩
 ·have e:¬lf=0:=by simpa using e
  have e2:c.time=1:=by simpa using e2
  rw[yWl (show ¬(lf≠0∧c.time≠1)by omega),yWm (show lf≠0∧c.time=1 from⟨e,e2⟩),yXk]
  have ha:=(ho.add c.inst c.id (decide (c.side=2)) c.price lf).1
  rw[gU hs]at ha
  exact⟨⟨o,c.inst,c.id,decide (c.side=2),c.price,lf⟩,rfl,rfl,gU hs,rfl,rfl,rfl,ho.fit hRB,fun _ _=>⟨⟨m.p,(MSt.addF ⟨o,c.inst,c.id,decide (c.side=2),c.price,lf⟩).1,zDg m.used c.id⟩,rfl,rfl,rfl,rfl,rfl,rfl,rfl,rfl,rfl,rfl,rfl,rfl,rfl,rfl,rfl,ha,rfl⟩⟩
 ·have e:¬lf=0:=by simpa using e
  have e2:¬c.time=1:=by simpa using e2
  rw[yWm (show lf≠0∧c.time≠1 from⟨e,e2⟩),yWl (show ¬(lf≠0∧c.time=1)by omega)]
  exact⟨by rw[e5];omega,⟨m.p,o,zDg m.used c.id⟩,rfl,rfl,rfl,rfl,rfl,rfl,rfl,rfl,rfl,rfl,rfl,rfl,rfl,by rw[yWw];rfl,rfl,ho,rfl⟩
theorem zVu:enterC.ok Tryz.prog 112:=okw mixed (gokc z0q (gokc yCy (gokc yGy gok0))) 0 (fun _=>[]) (fun i=>yPt i) [] Tryz.func112 yOd
theorem yRj:mcountC.ok Tryz.prog 25:=okw (V:=yGg) mixed (gokc zJq gok0) 0 (fun _=>[]) (fun _=>[]) [0] Tryz.func25 fun(i:MfI) h=>by
 obtain⟨m,p,B,U,id⟩:=i
 have h':m.Rep p B U∧BOk p B:=h
 clear h
 obtain⟨⟨ep,hR,eu⟩,hB⟩:=h'
 subst ep eu
 have:=xV m.p
 have:=hB.bl
 exact⟨⟨m.s,m.p,B,0,false⟩,rfl,⟨hR,by dsimp only;omega⟩,fun _ _=>⟨(),by(repeat'(first|exact trivial|exact rfl|apply And.intro))⟩⟩
theorem mfind_ok:mfindC.ok Tryz.prog 24:=okw (V:=yMl) mixed (gokc zVw gok0) 0 (fun _=>[]) (fun _=>[]) [0] Tryz.func24 fun(i:MfI) h=>by
 obtain⟨m,p,B,U,id⟩:=i
 have h':m.Rep p B U∧BOk p B:=h
 clear h
 obtain⟨⟨ep,hR,eu⟩,hB⟩:=h'
 subst ep eu
 have:=xV m.p
 have:=hB.bl
 exact⟨⟨m.s,m.p,B,id,0⟩,rfl,rfl,⟨hR,by dsimp only;omega⟩,fun _ _=>⟨(),by(repeat'(first|exact trivial|exact rfl|apply And.intro))⟩⟩
theorem zOt:cancelC.ok Tryz.prog 61:=okw (V:=yJe) mixed (gokc zBm gok0) 0 (fun _=>[]) (fun _=>[]) [] Tryz.func61 fun(i:CaI) h=>by
 obtain⟨m,p,B,U,id,q,inst,o,X⟩:=i
 have h':(m.Rep p B U∧BOk p B)∧X=kT B U id inst o:=h
 clear h
 obtain⟨⟨⟨ep,hR,eu⟩,hB⟩,hX⟩:=h'
 subst ep eu hX
 have:=xV m.p
 have:=hB.bl
 exact⟨⟨m.s,m.p,B,id,o.qty⟩,rfl,rfl,rfl,⟨hR,by dsimp only;omega⟩,fun o' ho=>⟨⟨m.p,o',m.used⟩,rfl,rfl,rfl,rfl,rfl,rfl,rfl,rfl,rfl,rfl,rfl,rfl,rfl,rfl,rfl,ho,rfl⟩⟩
theorem zNx:reduceC.ok Tryz.prog 62:=okw (V:=z4h) mixed (gokc zBm gok0) 0 (fun _=>[]) (fun _=>[]) [] Tryz.func62 fun(i:CaI) h=>by
 obtain⟨m,p,B,U,id,q,inst,o,X⟩:=i
 have h':(m.Rep p B U∧BOk p B)∧yV (o.qty-q)∧X=vF B U id q inst o:=h
 clear h
 obtain⟨⟨⟨ep,hR,eu⟩,hB⟩,hw,hX⟩:=h'
 subst ep eu hX
 have:=xV m.p
 have:=hB.bl
 have hw:=w64 hw
 unfold z4h dI
 dsimp only
 rw[hw]
 exact⟨⟨m.s,m.p,B,id,q⟩,rfl,rfl,rfl,⟨hR,by dsimp only;omega⟩,fun o' ho=>⟨⟨m.p,o',m.used⟩,rfl,rfl,rfl,rfl,rfl,rfl,rfl,rfl,rfl,rfl,rfl,rfl,rfl,rfl,rfl,ho,rfl⟩⟩
theorem zOq {c:Cmd} (h:c.right=0):(if c.kind=1 then c.orderE else if c.kind≠2∧kC c.qty=false then 24 else if c.kind=4∧vC c.price=false then 23 else 0)=0:=by
 rw[Cmd.right]at h
 by_cases c1:c.kind<1∨4<c.kind
 ·rw[yWm c1]at h;cases h
 rw[yWl c1]at h
 by_cases c2:c.id<1∨1099511627776<c.id
 ·rw[yWm c2]at h;cases h
 rw[yWl c2]at h
 exact h
theorem zFh {c:Cmd} (h:c.right=0) (hk:c.kind=1):(c.side=1∨c.side=2)∧(1≤c.qty∧c.qty≤1000000)∧(0≤c.least∧c.least≤c.qty):=by
 have h:=zOq h
 rw[yWm hk,Cmd.orderE]at h
 by_cases c1:c.side≠1∧c.side≠2
 ·rw[yWm c1]at h;cases h
 rw[yWl c1]at h
 by_cases c2:c.time<1∨3<c.time
 ·rw[yWm c2]at h;cases h
 rw[yWl c2]at h
 cases c3:kC c.qty with
 |false=>rw[yWm c3]at h;cases h
 |true=>
  rw[yWl (by rw[c3];decide)]at h
  by_cases c4:c.least<0∨c.qty<c.least
  ·rw[yWm c4]at h;cases h
  simp only[kC,yWz,yXy]at c3
  exact⟨by omega,c3,by omega⟩
theorem m7 {c:Cmd} (h:c.right=0) (hk:¬c.kind=1) (hk2:¬c.kind=2):1≤c.qty∧c.qty≤1000000:=by
 have h:=zOq h
 rw[yWl hk]at h
 cases c3:kC c.qty with
 |false=>rw[yWm ⟨hk2,c3⟩]at h;cases h
 |true=>
  simp only[kC,yWz,yXy]at c3
  exact c3
theorem yRh (i:EnI) (h:orderC.cnd i):yDu i:=by
 obtain⟨m,p,B,U,c,X⟩:=i
 have h':(m.Rep p B U∧BOk p B)∧c.right=0∧c.kind=1∧X=cF p B U c:=h
 clear h
 obtain⟨⟨hM,hB⟩,hr,hkd,hX⟩:=h'
 obtain⟨ep,hR,eu⟩:=hM
 subst ep eu
 have hM:m.Rep m.p B m.used:=⟨rfl,hR,rfl⟩
 obtain⟨hs,hq,hl⟩:=zFh hr hkd
 have hbl:=hB.bl
 have hcl:=xV m.p
 unfold yDu qO eU zFc zAu zEt zEz zEd zFt vR pP pD x7 dI
 dsimp only
 refine⟨⟨m.p,c.inst,c.price⟩,rfl,rfl,rfl,rfl,rfl,rfl,rfl,rfl,rfl,rfl,rfl,rfl,rfl,hB.ps,fun _ _=>Cv.cnd.mk (fun e=> ?_) (fun e=> ?_)⟩
 ·have e:m.p.price c.inst c.price≠0:=by simpa using e
  have hx:X=⟨B,m.used,cE c (m.p.price c.inst c.price)⟩:=by rw[hX,cF,yWm e]
  exact⟨⟨c,m.p.price c.inst c.price⟩,rfl,rfl,rfl,rfl,rfl,rfl,rfl,rfl,rfl,rfl,trivial,fun _ _=>⟨m,rfl,rfl,rfl,rfl,rfl,rfl,rfl,rfl,rfl,rfl,rfl,rfl,rfl,by rw[hx];rfl,by rw[hx];exact hM⟩⟩
 have hpz:m.p.price c.inst c.price=0:=by simpa using e
 have hin:=zJr hpz
 have hib:0≤c.inst∧c.inst<B.length:=by omega
 rw[cF,yWl (by rw[hpz];decide)]at hX
 refine⟨0,fun l=>l=c.lst,Cv.cnd.mk (fun e=>⟨c.qty,rfl,by rw[Cmd.lst,yWm (by simpa using e)],by(repeat'(first|exact trivial|exact rfl|apply And.intro))⟩) (fun e=>⟨c.least,rfl,by rw[Cmd.lst,yWl (by simpa using e)],by(repeat'(first|exact trivial|exact rfl|apply And.intro))⟩),?_⟩
 rintro _ rfl
 refine⟨zNy _ _,_,_,yEq _ _,zJ (fun e=> ?_) (fun e=> ?_)⟩
 ·have hx:X=⟨B,m.used,cE c 25⟩:=by rw[hX,yWm e]
  exact⟨⟨c,25⟩,rfl,rfl,rfl,rfl,rfl,rfl,rfl,rfl,rfl,rfl,trivial,fun _ _=>⟨m,rfl,rfl,rfl,rfl,rfl,rfl,rfl,rfl,rfl,rfl,rfl,rfl,rfl,by rw[hx];rfl,by rw[hx];exact hM⟩⟩
 rw[yWl e]at hX
 refine⟨⟨m.s,m.p,B,0,false⟩,rfl,⟨hR,by dsimp only;omega⟩,fun _ _=>zJ (fun e=> ?_) (fun e=> ?_)⟩
 ·have hx:X=⟨B,m.used,cE c 13⟩:=by rw[hX,yWm (by dsimp only at e;omega)]
  exact⟨⟨c,13⟩,rfl,rfl,rfl,rfl,rfl,rfl,rfl,rfl,rfl,rfl,trivial,fun _ _=>⟨m,rfl,rfl,rfl,rfl,rfl,rfl,rfl,rfl,rfl,rfl,rfl,rfl,rfl,by rw[hx];rfl,by rw[hx];exact hM⟩⟩
 rw[yWl (by dsimp only at e;omega)]at hX
 have hok:RunI.ok ⟨m.s,m.p,B,c.inst,decide (c.side=2),c.price,c.qty⟩:=⟨hR,hB,hib,hq.1,hq.2⟩
 refine⟨true,fun b=>b=decide (0<c.lst∧c.qty-(qG m.p B c.inst (decide (c.side=2)) c.price c.qty).left<c.lst),zJ (fun e=>⟨⟨m.s,m.p,B,c.inst,decide (c.side=2),c.price,c.qty⟩,rfl,gU hs,rfl,rfl,rfl,hok,fun _ _=>⟨_,rfl,decide_eq_decide.2 ⟨fun x=>⟨e,x⟩,fun x=>x.2⟩,by(repeat'(first|exact trivial|exact rfl|apply And.intro))⟩⟩) (fun e=>⟨false,rfl,(yWy fun x=>e x.1).symm,by(repeat'(first|exact trivial|exact rfl|apply And.intro))⟩),?_⟩
 rintro _ rfl
 refine zJ (fun e=> ?_) (fun e=> ?_)
 ·have hx:X=⟨B,m.used,cE c 28⟩:=by rw[hX,yWm e]
  exact⟨⟨c,28⟩,rfl,rfl,rfl,rfl,rfl,rfl,rfl,rfl,rfl,rfl,trivial,fun _ _=>⟨m,rfl,rfl,rfl,rfl,rfl,rfl,rfl,rfl,rfl,rfl,rfl,rfl,rfl,by rw[hx];rfl,by rw[hx];exact hM⟩⟩
 rw[yWl e]at hX
 refine⟨true,fun b=>b=decide (c.time=1∧bR m.p B c.inst (decide (c.side=2)) c.price c.qty=true),Cv.cnd.mk (fun e=>⟨⟨m.s,m.p,B,c.inst,decide (c.side=2),c.price,c.qty⟩,rfl,gU hs,rfl,rfl,rfl,hok,fun _ _=>⟨_,rfl,?_,by(repeat'(first|exact trivial|exact rfl|apply And.intro))⟩⟩) (fun e=>⟨false,rfl,(yWy fun x=> ?_).symm,by(repeat'(first|exact trivial|exact rfl|apply And.intro))⟩),?_⟩
 ·have e:c.time=1:=by simpa using e
  dsimp only
  cases hb:bR m.p B c.inst (decide (c.side=2)) c.price c.qty with
  |true=>exact(yXf ⟨e,rfl⟩).symm
  |false=>exact(yWy fun x=>by cases x.2).symm
 ·rw[x.1]at e;cases e
 rintro _ rfl
 refine zJ (fun e=> ?_) (fun e=> ?_)
 ·have hx:X=⟨B,m.used,cE c 23⟩:=by rw[hX,yWm e]
  exact⟨⟨c,23⟩,rfl,rfl,rfl,rfl,rfl,rfl,rfl,rfl,rfl,rfl,trivial,fun _ _=>⟨m,rfl,rfl,rfl,rfl,rfl,rfl,rfl,rfl,rfl,rfl,rfl,rfl,rfl,by rw[hx];rfl,by rw[hx];exact hM⟩⟩
 rw[yWl e]at hX
 exact⟨⟨m,m.p,B,m.used,c,X⟩,rfl,rfl,rfl,rfl,rfl,rfl,rfl,rfl,rfl,rfl,rfl,rfl,rfl,rfl,rfl,rfl,rfl,rfl,rfl,rfl,rfl,rfl,⟨⟨hM,hB⟩,⟨hib,hq,hs⟩,hpz,hX⟩,fun o ho=>⟨o,rfl,rfl,rfl,rfl,rfl,rfl,rfl,rfl,rfl,rfl,rfl,rfl,rfl,rfl,ho⟩⟩
theorem z9u:orderC.ok Tryz.prog 59:=okw mixed (gokc sR (gokc z0e (gokc zJq (gokc z6g (gokc zWg (gokc zVu gok0)))))) 0 (fun _=>yOj) (fun _=>[]) [] Tryz.func59 yRh
theorem zSg {p:Prd} {B:List (List zD)} (h:BWf p B) {id inst:Int} {o:zD} (hf:zI B id=(inst,o,true)):(0≤inst∧inst<B.length)∧zIh o:=by
 rw[zI]at hf
 split at hf
 ·cases hf
 ·rename_i k hk
  obtain⟨L,hL,hh⟩:=xO hk
  rw[zK hL]at hf
  cases hf
  have hlt:=(yWn.1 hL).1
  obtain⟨o,ho,e⟩:=yXl.1 (hasId_iff.1 hh)
  have hg:=uA (h.od k L hL).2.1 ho
  rw[e]at hg
  rw[hg]
  exact⟨by omega,(h.od k L hL).1 o ho⟩
theorem zLx (p:Prd) (c:Cmd):∀(l:List qZ) (left:Int),(∀t∈l,SOk t∧1≤t.qty)→(j6 p c l left).length≤1503*l.length
 |[],_,_=>yXn _
 |t::l,left,h=>by
  have a:=zLx p c l (left-t.qty) fun u hu=>h u (yWr _ hu)
  have b:=zOa p c t (left-t.qty)
  have d:=(h t yWq).1.2.2
  rw[j6,yWs,yXa];omega
theorem zAi {p:Prd} {B:List (List zD)} (h:BWf p B) (U:List Int) {c:Cmd} (hi:0≤c.inst∧c.inst<B.length) (hq:1≤c.qty∧c.qty≤1000000):(wI p B U c).R.length≤1503000002:=by
 obtain⟨s1,s2⟩:=zTa (inst:=c.inst) (sd:=decide (c.side=2)) (price:=c.price) _ c.qty B (yXn _) h hi
 have k3:=(bY (inst:=c.inst) (sd:=decide (c.side=2)) (price:=c.price) _ c.qty B (yXn _) h).2.2 (by omega)
 have:=zSu s1
 have:=zLx p c _ c.qty s1
 rw[wV]
 dsimp only
 rw[yWs,yXa]
 split
 ·rw[yXa,yZe];omega
 ·rw[yZe];omega
theorem z8q (i:z7q) (h:replaceC.cnd i):zVn i:=by
 obtain⟨m,p,B,U,c,inst,o,X⟩:=i
 have h':m.Rep p B U∧BOk p B∧zI B c.id=(inst,o,true)∧(1≤c.qty∧c.qty≤1000000)∧X=vT p B U c inst o:=h
 clear h
 obtain⟨hM,hB,hf,hq,hX⟩:=h'
 obtain⟨ep,hR,eu⟩:=hM
 subst ep eu
 have hM:m.Rep m.p B m.used:=⟨rfl,hR,rfl⟩
 have hwf:=hR.wf hB
 obtain⟨hin,hoo⟩:=zSg hwf hf
 have hos:=hoo.s
 have hoq:=hoo.q
 have hbl:=hB.bl
 have hcl:=xV m.p
 unfold zVn zAh qO gT pP cV rC x7
 dsimp only
 refine⟨⟨m.p,inst,c.price⟩,rfl,rfl,rfl,rfl,rfl,rfl,rfl,rfl,rfl,rfl,rfl,rfl,rfl,hB.ps,fun _ _=>Cv.cnd.mk (fun e=> ?_) (fun e=> ?_)⟩
 ·have e:m.p.price inst c.price≠0:=by simpa using e
  have hx:X=⟨B,m.used,cE c (m.p.price inst c.price)⟩:=by rw[hX,vT,yWm e]
  exact⟨⟨c,m.p.price inst c.price⟩,rfl,rfl,rfl,rfl,rfl,rfl,rfl,rfl,rfl,rfl,trivial,fun _ _=>⟨m,rfl,rfl,rfl,rfl,rfl,rfl,rfl,rfl,rfl,rfl,rfl,rfl,rfl,by rw[hx];rfl,by rw[hx];exact hM⟩⟩
 have hpz:m.p.price inst c.price=0:=by simpa using e
 rw[vT,yWl (by rw[hpz];decide)]at hX
 have hw:IntKind.i64.wrap (o.qty-c.qty)=o.qty-c.qty:=w64 (by omega)
 rw[hw]
 refine(fun hT=>Cv.cnd.mk (fun e1=>zJ (fun e2=> ?_) (fun e2=>hT fun x=>e2 x.2)) (fun e1=>hT fun x=>by rw[x.1]at e1;simp at e1)) (fun(hn:¬(c.price=o.price∧c.qty≤o.qty))=> ?_)
 ·have e1:c.price=o.price:=by simpa using e1
  rw[yWm ⟨e1,e2⟩]at hX
  exact⟨⟨m,m.p,B,m.used,c.id,o.qty-c.qty,inst,o,X⟩,rfl,rfl,rfl,rfl,rfl,rfl,rfl,rfl,rfl,rfl,rfl,rfl,rfl,rfl,rfl,rfl,rfl,rfl,rfl,rfl,rfl,⟨⟨hM,hB⟩,⟨by dsimp only;omega,by dsimp only;omega⟩,hX⟩,fun o' ho=>⟨o',rfl,rfl,rfl,rfl,rfl,rfl,rfl,rfl,rfl,rfl,rfl,rfl,rfl,rfl,ho⟩⟩
 rw[yWl hn]at hX
 have hBt:=hB.take c.id o.qty
 refine⟨m.s,rfl,hR.small hB,fun _ _=>⟨⟨m.s,m.p,B,c.id,o.qty⟩,rfl,rfl,rfl,⟨hR,by dsimp only;omega⟩,fun o' ho'=>⟨⟨o',m.p,(yX B c.id o.qty).1,inst,decide (o.side=2),c.price,c.qty⟩,rfl,gU hos,rfl,rfl,rfl,⟨ho',hBt,by dsimp only;rw[mN];exact hin,hq.1,hq.2⟩,fun _ _=>Cv.cnd.mk (fun e=> ?_) (fun e=> ?_)⟩⟩⟩
 ·have hx:X=⟨B,m.used,cE c 23⟩:=by rw[hX,yWm e]
  exact⟨⟨c,23⟩,rfl,rfl,rfl,rfl,rfl,rfl,rfl,rfl,rfl,rfl,trivial,fun _ _=>⟨m,rfl,rfl,rfl,rfl,rfl,rfl,rfl,rfl,rfl,rfl,rfl,rfl,rfl,by rw[hx];rfl,by rw[hx];exact hM⟩⟩
 rw[yWl (by rw[e];decide)]at hX
 refine⟨⟨m,m.p,B,m.used,c.id,0,inst,o,kT B m.used c.id inst o⟩,rfl,rfl,rfl,rfl,rfl,rfl,rfl,rfl,rfl,rfl,rfl,rfl,rfl,rfl,rfl,rfl,rfl,rfl,rfl,rfl,⟨⟨hM,hB⟩,rfl⟩,fun o1 ho1=>⟨⟨o1,m.p,(yX B c.id o.qty).1,m.used,⟨1,c.id,inst,o.side,c.price,c.qty,0,1,[]⟩,wI m.p (yX B c.id o.qty).1 m.used ⟨1,c.id,inst,o.side,c.price,c.qty,0,1,[]⟩⟩,rfl,rfl,rfl,rfl,rfl,rfl,rfl,rfl,rfl,rfl,rfl,rfl,rfl,rfl,rfl,rfl,rfl,rfl,rfl,rfl,rfl,rfl,⟨⟨ho1,hBt⟩,⟨by dsimp only;rw[mN];exact hin,hq,hos⟩,hpz,rfl⟩,fun o2 ho2=>⟨?_,o2,rfl,rfl,rfl,rfl,rfl,rfl,rfl,rfl,rfl,rfl,rfl,rfl,rfl,?_,?_⟩⟩⟩
 ·have:=zAi (hwf.take c.id o.qty) m.used (c:=⟨1,c.id,inst,o.side,c.price,c.qty,0,1,[]⟩) (by dsimp only;rw[mN];exact hin) hq
  dsimp only
  rw[yWo,yWo]
  have e1:(kT B m.used c.id inst o).R.length=1:=rfl
  omega
 ·rw[hX,← yWw];rfl
 ·rw[hX];exact ho2
theorem zYn:replaceC.ok Tryz.prog 60:=okw mixed (gokc sR (gokc z0e (gokc zDh (gokc zBm (gokc zWg (gokc zOt (gokc zNx (gokc zVu gok0)))))))) 0 (fun _=>[]) (fun _=>[]) [] Tryz.func60 z8q
theorem vdo (i:EnI) (h:doC.cnd i):Vdo i:=by
 obtain⟨m,p,B,U,c,X⟩:=i
 have h':(m.Rep p B U∧BOk p B)∧c.label.length≤140737488355328∧yV c.qty∧X=doF p B U c:=h
 clear h
 obtain⟨⟨hM,hB⟩,hlb,hqr,hX⟩:=h'
 obtain⟨ep,hR,eu⟩:=hM
 subst ep eu
 have hM:m.Rep m.p B m.used:=⟨rfl,hR,rfl⟩
 have hwf:=hR.wf hB
 have hbl:=hB.bl
 have hcl:=xV m.p
 unfold Vdo pD yDe cV zZw zQf zSr
 dsimp only
 refine⟨c,rfl,rfl,rfl,rfl,rfl,rfl,rfl,rfl,rfl,hlb,fun _ _=>Cv.cnd.mk (fun e=> ?_) (fun e=> ?_)⟩
 ·have e:c.right≠0:=by simpa using e
  have hx:X=⟨B,m.used,cE c c.right⟩:=by rw[hX,doF,yWm e]
  exact⟨⟨c,c.right⟩,rfl,rfl,rfl,rfl,rfl,rfl,rfl,rfl,rfl,rfl,trivial,fun _ _=>⟨m,rfl,rfl,rfl,rfl,rfl,rfl,rfl,rfl,rfl,rfl,rfl,rfl,rfl,by rw[hx];rfl,by rw[hx];exact hM⟩⟩
 have hr:c.right=0:=by simpa using e
 rw[doF,yWl (by rw[hr];decide)]at hX
 refine Cv.cnd.mk (fun e=> ?_) (fun e=> ?_)
 ·have e:c.kind=1:=by simpa using e
  rw[yWm e]at hX
  exact⟨⟨m,m.p,B,m.used,c,X⟩,rfl,rfl,rfl,rfl,rfl,rfl,rfl,rfl,rfl,rfl,rfl,rfl,rfl,rfl,rfl,rfl,rfl,rfl,rfl,rfl,rfl,rfl,⟨⟨hM,hB⟩,hr,e,hX⟩,fun o ho=>⟨o,rfl,rfl,rfl,rfl,rfl,rfl,rfl,rfl,rfl,rfl,rfl,rfl,rfl,rfl,ho⟩⟩
 have hk:¬c.kind=1:=by simpa using e
 rw[yWl hk]at hX
 refine(fun hT=>⟨hT,rfl,trivial,hT⟩) ?_
 refine⟨⟨m.s,m.p,B,c.id,0⟩,rfl,rfl,⟨hR,by dsimp only;omega⟩,fun _ _=>Cv.cnd.mk (fun e=> ?_) (fun e=> ?_)⟩
 ·have e:(zI B c.id).2.2=false:=by simpa using e
  have hx:X=⟨B,m.used,cE c 26⟩:=by rw[hX,yWm e]
  exact⟨⟨c,26⟩,rfl,rfl,rfl,rfl,rfl,rfl,rfl,rfl,rfl,rfl,trivial,fun _ _=>⟨m,rfl,rfl,rfl,rfl,rfl,rfl,rfl,rfl,rfl,rfl,rfl,rfl,rfl,by rw[hx];rfl,by rw[hx];exact hM⟩⟩
 have e:(zI B c.id).2.2=true:=by simpa using e
 rw[yWl (by rw[e];decide)]at hX
 dsimp only
 have hf:zI B c.id=((zI B c.id).1,(zI B c.id).2.1,true):=by rw[← e]
 generalize (zI B c.id).1=inst at*
 generalize (zI B c.id).2.1=o at*
 obtain⟨hin,hoo⟩:=zSg hwf hf
 have hoq:=hoo.q
 refine Cv.cnd.mk (fun e4=> ?_) (fun e4=>Cv.cnd.mk (fun e2=> ?_) (fun e2=>zJ (fun e3=> ?_) (fun e3=> ?_)))
 ·have e4:c.kind=4:=by simpa using e4
  rw[yWm e4]at hX
  exact⟨⟨m,m.p,B,m.used,c,inst,o,X⟩,rfl,rfl,rfl,rfl,rfl,rfl,rfl,rfl,rfl,rfl,rfl,rfl,rfl,rfl,rfl,rfl,rfl,rfl,rfl,rfl,rfl,rfl,rfl,rfl,rfl,rfl,rfl,rfl,⟨hM,hB,hf,m7 hr hk (by rw[e4];decide),hX⟩,fun o' ho=>⟨o',rfl,rfl,rfl,rfl,rfl,rfl,rfl,rfl,rfl,rfl,rfl,rfl,rfl,rfl,ho⟩⟩
 all_goals
  have e4:¬c.kind=4:=by simpa using e4
  rw[yWl e4]at hX
 ·have e2:c.kind=2:=by simpa using e2
  rw[yWm (.inl e2)]at hX
  exact⟨⟨m,m.p,B,m.used,c.id,0,inst,o,X⟩,rfl,rfl,rfl,rfl,rfl,rfl,rfl,rfl,rfl,rfl,rfl,rfl,rfl,rfl,rfl,rfl,rfl,rfl,rfl,rfl,⟨⟨hM,hB⟩,hX⟩,fun o' ho=>⟨o',rfl,rfl,rfl,rfl,rfl,rfl,rfl,rfl,rfl,rfl,rfl,rfl,rfl,rfl,ho⟩⟩
 ·rw[yWm (.inr (by omega))]at hX
  exact⟨⟨m,m.p,B,m.used,c.id,0,inst,o,X⟩,rfl,rfl,rfl,rfl,rfl,rfl,rfl,rfl,rfl,rfl,rfl,rfl,rfl,rfl,rfl,rfl,rfl,rfl,rfl,rfl,⟨⟨hM,hB⟩,hX⟩,fun o' ho=>⟨o',rfl,rfl,rfl,rfl,rfl,rfl,rfl,rfl,rfl,rfl,rfl,rfl,rfl,rfl,ho⟩⟩
 ·have e2:¬c.kind=2:=by simpa using e2
  have hq:=m7 hr hk e2
  rw[yWl (by omega)]at hX
  exact⟨⟨m,m.p,B,m.used,c.id,c.qty,inst,o,X⟩,rfl,rfl,rfl,rfl,rfl,rfl,rfl,rfl,rfl,rfl,rfl,rfl,rfl,rfl,rfl,rfl,rfl,rfl,rfl,rfl,rfl,⟨⟨hM,hB⟩,⟨by dsimp only;omega,by dsimp only;omega⟩,hX⟩,fun o' ho=>⟨o',rfl,rfl,rfl,rfl,rfl,rfl,rfl,rfl,rfl,rfl,rfl,rfl,rfl,rfl,ho⟩⟩
theorem yRt:doC.ok Tryz.prog 26:=okw mixed (gokc zVo (gokc z0e (gokc zVw (gokc z9u (gokc zYn (gokc zOt (gokc zNx gok0))))))) 0 (fun _=>[]) (fun _=>[]) [0] Tryz.func26 vdo
open Go Cv Go.Proofs
structure yRm (p:Prd) (B:List (List zD)) (q:Int) (g:List vL) (k:Nat) (s pr:Int):Prop where
 lt:k<B.length
 s12:s=1∨s=2
 eq:g=yI k s (atL (B.getD k []) s pr) (qF ⟨p,atL (B.getD k []) s pr,q⟩)
 sh:zJv ((atL (B.getD k []) s pr).map (·.qty)) (qF ⟨p,atL (B.getD k []) s pr,q⟩) q
 ne:g≠[]
theorem zNv {inst s:Int}:∀{os:List zD} {sh:List Int},sh.length=os.length→yI inst s os sh=[]→(∀n,0≤sh.getD n 0)→sh.sum=0
 |[],[],_,_,_=>rfl
 |[],_::_,h,_,_=>by cases h
 |_::_,[],h,_,_=>by cases h
 |o::os,x::sh,h,h2,h3=>by
  rw[yI]at h2
  split at h2
  ·cases h2
  ·have:=zNv (os:=os) (sh:=sh) (by simpa using h) h2 fun n=>h3 (n+1)
   have h0:0≤x:=h3 0
   rw[yXj];omega
theorem zRg {p:Prd} {B:List (List zD)} (h:BWf p B) {k:Nat} {L:List zD} (hL:B[k]? =some L) {s:Int} (hs:s=1∨s=2) {q:Int} (hb:(bestL L s).2=true) (hq:1≤q∧q≤(bestL L s).1.qty):
 yRm p B q (y4 p B k s q) k s (bestL L s).1.price:=by
 have ho:=h.od k L hL
 have hsr:=h.srt k L hL s hs
 have hlv:zEg B k s=atL L s (bestL L s).1.price:=by rw[zEg,yXc,zK hL]
 obtain⟨v,vs,hl⟩:∃v vs,vA L s=v::vs:=by
  cases e:vA L s with
  |nil=>rw[bestL,e]at hb;cases hb
  |cons v vs=>exact⟨v,vs,rfl⟩
 have hv:(bestL L s).1=v:=by rw[bestL,hl]
 rw[hv]at hq hlv ⊢
 have hgs:=zDy hsr (v:=v) (vs:=vs) (by rw[← hl];rfl)
 have hat:atL L s v.price=(u9 L s).filter fun o=>decide (o.price=v.price):=yFi L s v.price
 have hvq:v.qty=((atL L s v.price).map (·.qty)).sum:=by
  have:=congrArg Lv.qty hgs.1
  rw[hat];exact this
 have hr:yQ ((atL L s v.price).map (·.qty)) q=true:=by
  refine z0i ?_ (by omega) (fun x hx=> ?_) (by omega)
  ·rw[yWo];exact yYw (yZy _ _) ho.2.2
  ·obtain⟨o,hm,rfl⟩:=yXl.1 hx
   exact(ho.1 o (yXt.1 hm).1).q
 have hS:=zDj h.ok.pc hr
 have e:y4 p B k s q=yI k s (atL (B.getD k []) s v.price) (qF ⟨p,atL (B.getD k []) s v.price,q⟩):=by
  rw[y4,hlv,zK hL]
 refine⟨(yWn.1 hL).1,hs,e,by rw[zK hL];exact hS,fun e2=> ?_⟩
 rw[e,zK hL]at e2
 have:=zNv (by rw[hS.len,yWo]) e2 fun n=>(hS.bd n).1
 have:=hS.sum
 omega
theorem zGx {j:Nat} {L:List zD}:∀{fs:List vL} {B:List (List zD)},B[j]? =some L→(∀f∈fs,kA L f.id=false)→(y6 B fs)[j]? =some L
 |[],B,h,_=>h
 |f::fs,B,h,hf=>by
  refine zGx (fs:=fs) (B:=(yX B f.id f.qty).1) ?_ fun g hg=>hf g (yWr _ hg)
  rw[yX]
  split
  ·exact h
  ·rename_i k hk
   dsimp only
   have hne:k≠j:=by
    rintro rfl
    obtain⟨L',hL',hh⟩:=xO hk
    rw[h]at hL'
    cases hL'
    rw[hf f yWq]at hh
    cases hh
   rw[List.getElem?_set_ne hne];exact h
theorem lP {inst s:Int} {f:vL}:∀{os:List zD} {sh:List Int},f∈yI inst s os sh→∃o∈os,f.id=o.id
 |[],sh,h=>by cases h
 |o::os,[],h=>by cases h
 |o::os,k::sh,h=>by
  rw[yI]at h
  split at h
  ·rcases yXd.1 h with rfl|h
   ·exact⟨o,yWq,rfl⟩
   ·obtain⟨o',c,d⟩:=lP h
    exact⟨o',yWr _ c,d⟩
  ·obtain⟨o',c,d⟩:=lP h
   exact⟨o',yWr _ c,d⟩
theorem gZ {p:Prd} {B:List (List zD)} (h:BWf p B) {k j:Nat} (hne:k≠j) {L L':List zD} (hL:B[k]? =some L) (hL':B[j]? =some L') (s q:Int):(y6 B (y4 p B k s q))[j]? =some L':=by
 refine zGx hL' fun f hf=> ?_
 obtain⟨o,ho,e⟩:=lP hf
 have ho:=(yXt.1 ho).1
 rw[yXc,zK hL]at ho
 cases hh:kA L' f.id with
 |false=>rfl
 |true=>
  have a:=h.inst hL' (hasId_iff.1 hh)
  have b:=h.inst hL (id:=f.id) (by rw[e];exact yXl.2 ⟨o,ho,rfl⟩)
  rw[a]at b
  cases b
  exact absurd rfl hne
open Go Cv Go.Proofs
def lpq (l:List Lv):List (Int×Int):=l.map fun v=>(v.price,v.qty)
def zHf (l:List (Int×Int)) (x:Int):List (Int×Int):=match l with
 |[]=>[]
 |(p,q)::l=>if q≤x then l else(p,q-x)::l
theorem zBk {A:List zD} {id x:Int} (h:∀o∈A,o.id≠id):yO A id x=A:=by
 rw[yO]
 induction A with
 |nil=>rfl
 |cons a A ih=>
  rw[y0e,yWl (h a yWq)]
  simp only
  rw[ih fun o ho=>h o (yWr _ ho)]
theorem zTl {id x:Int}:∀{A:List zD} {o:zD},(A.map (·.id)).Nodup→o∈A→o.id=id→((yO A id x).map (·.qty)).sum=(A.map (·.qty)).sum-x
 |a::A,o,hn,ho,e=>by
  rw[yWu,yYl]at hn
  rw[yO,y0e]
  by_cases h:a.id=id
  ·have hno:∀y∈A,y.id≠id:=by
    intro y hy e2
    exact hn.1 (by rw[h,← e2];exact yXl.2 ⟨y,hy,rfl⟩)
   have ht:A.filterMap (fun o=>if o.id=id then if o.qty=x then none else some {o with qty:=o.qty-x}else some o)=A:=zBk hno
   rw[yWm h]
   by_cases h2:a.qty=x
   ·rw[yWm h2]
    simp only
    rw[ht,yWu,yXj];omega
   ·rw[yWl h2]
    simp only
    rw[ht,yWu,yWu,yXj,yXj]
    simp only
    omega
  ·rw[yWl h]
   simp only
   have ho:o∈A:=by
    rcases yXd.1 ho with rfl|ho
    ·exact absurd e h
    ·exact ho
   have:=zTl (x:=x) hn.2 ho e
   rw[yO]at this
   rw[yWu,yWu,yXj,yXj,this];omega
theorem zYh (L:List zD) (id q pr:Int):(yO L id q).filter (fun o=>decide (o.price=pr))=yO (L.filter fun o=>decide (o.price=pr)) id q:=by
 rw[yO,yO,List.filter_filterMap,List.filterMap_filter]
 refine vI fun o _=> ?_
 by_cases e1:o.id=id
 ·rw[yWm e1]
  by_cases e2:o.qty=q
  ·rw[yWm e2];simp
  ·rw[yWl e2];by_cases e3:o.price=pr<;>simp[Option.filter,e3]
 ·rw[yWl e1];by_cases e3:o.price=pr<;>simp[Option.filter,e3]
theorem zWj (L:List zD) (id q pr:Int):(yO L id q).filter (fun o=> !decide (o.price=pr))=yO (L.filter fun o=> !decide (o.price=pr)) id q:=by
 rw[yO,yO,List.filter_filterMap,List.filterMap_filter]
 refine vI fun o _=> ?_
 by_cases e1:o.id=id
 ·rw[yWm e1]
  by_cases e2:o.qty=q
  ·rw[yWm e2];simp
  ·rw[yWl e2];by_cases e3:o.price=pr<;>simp[Option.filter,e3]
 ·rw[yWl e1];by_cases e3:o.price=pr<;>simp[Option.filter,e3]
theorem yFy {A:List zD} {id x:Int} {y:zD} (h:y∈yO A id x):∃z∈A,y.price=z.price:=by
 obtain⟨z,hz,e⟩:=yZz.1 h
 refine⟨z,hz,?_⟩
 split at e
 ·split at e
  ·cases e
  ·cases e;rfl
 ·cases e;rfl
theorem yRe {A:List zD} (h:A≠[]):∃v vs,grp A=v::vs:=by
 cases A with
 |nil=>exact absurd rfl h
 |cons a A=>
  rw[grp]
  split
  ·exact⟨_,_,rfl⟩
  ·split<;>exact⟨_,_,rfl⟩
theorem zIr:∀{l:List Int} {a:Int},(∀q∈l,0≤q)→a∈l→a≤l.sum
 |b::l,a,h,ha=>by
  rw[yXj]
  have h1:=h b yWq
  have h2:=zKy fun q hq=>h q (yWr _ hq)
  rcases yXd.1 ha with rfl|ha
  ·omega
  ·have:=zIr (fun q hq=>h q (yWr _ hq)) ha
   omega
theorem yCw {s:Int} {F:List zD} (hs:zHj s F) (hn:(F.map (·.id)).Nodup) {o:zD} (ho:o∈F) {v:Lv} {vs:List Lv} (hg:grp F=v::vs) (hp:o.price=v.price) {x:Int} (hq:∀y∈yO F o.id x,1≤y.qty) (hs2:zHj s (yO F o.id x)):
 lpq (grp (yO F o.id x))=zHf (lpq (grp F)) x:=by
 obtain⟨a1,a2,a3⟩:=zDy hs hg
 have hol:o∈F.filter fun o=>decide (o.price=v.price):=yXt.2 ⟨ho,by simpa using hp⟩
 have hsum:=zTl (x:=x) (hn.sublist (List.Sublist.map _ (yZv (p:=fun o=>decide (o.price=v.price)) (l:=F)))) hol rfl
 have hv:v.qty=((F.filter fun o=>decide (o.price=v.price)).map (·.qty)).sum:=congrArg Lv.qty a1
 have hout:yO (F.filter fun o=> !decide (o.price=v.price)) o.id x=F.filter fun o=> !decide (o.price=v.price):=by
  refine zBk fun y hy e=> ?_
  obtain⟨y1,y2⟩:=yXt.1 hy
  have h1:=uA hn y1
  have h2:=uA hn ho
  rw[e,h2]at h1
  rw[← h1]at y2
  simp[hp]at y2
 rw[hg]
 have hd:zHf (lpq (v::vs)) x=if v.qty≤x then lpq vs else(v.price,v.qty-x)::lpq vs:=rfl
 rw[hd]
 rw[← zYh,← hv]at hsum
 rw[← zWj]at hout
 have hmem:∀y∈yO F o.id x,∃z∈F,y.price=z.price:=fun y hy=>yFy hy
 generalize yO F o.id x=F' at*
 by_cases hE:F'.filter (fun o=>decide (o.price=v.price))=[]
 ·rw[hE]at hsum
  have hsum:(0:Int)=v.qty-x:=hsum
  rw[yWm (by omega),a2,← hout]
  congr 2
  symm
  rw[y0p]
  intro y hy
  have:=y1v.1 hE y hy
  simpa using this
 ·obtain⟨y,hy⟩:=List.exists_mem_of_ne_nil _ hE
  obtain⟨y1,y2⟩:=yXt.1 hy
  have y2:y.price=v.price:=by simpa using y2
  obtain⟨v',vs',hg'⟩:=yRe (A:=F') (by rintro rfl;cases y1)
  obtain⟨b1,b2,b3⟩:=zDy hs2 hg'
  obtain⟨w,wr,hw,hwp⟩:=zCk hg'
  have e1:=b3 y y1
  obtain⟨z,hz,hzp⟩:=hmem w (by rw[hw];exact yWq)
  have e2:=a3 z hz
  rw[← hzp,hwp]at e2
  rw[y2]at e1
  have ep:v'.price=v.price:=z8w e1 e2
  have hv':v'.qty=((F'.filter fun o=>decide (o.price=v'.price)).map (·.qty)).sum:=congrArg Lv.qty b1
  rw[ep,hsum]at hv'
  have hpos:1≤v.qty-x:=by
   rw[← hsum]
   have hyq:=hq y y1
   have h0:∀q∈(F'.filter fun o=>decide (o.price=v.price)).map (·.qty),0≤q:=by
    intro q hq2
    obtain⟨u,hu,rfl⟩:=yXl.1 hq2
    have:=hq u (yXt.1 hu).1
    omega
   have:=zIr h0 (yXl.2 ⟨y,hy,rfl⟩)
   omega
  rw[yWl (by omega),hg',b2,ep,hout,← a2]
  show(v'.price,v'.qty)::lpq vs=_
  rw[ep,hv']
open Go Cv Go.Proofs
theorem yBs {L:List zD} {s pr Q:Int} {rest:List (Int×Int)} (h:lpq (vA L s)=(pr,Q)::rest):∃v vs,vA L s=v::vs∧v.price=pr∧v.qty=Q∧lpq vs=rest:=by
 cases e:vA L s with
 |nil=>rw[e]at h;cases h
 |cons v vs=>rw[e]at h;cases h;exact⟨v,vs,rfl,rfl,rfl,rfl⟩
theorem zOi (L:List zD) (s id q:Int):u9 (yO L id q) s=yO (u9 L s) id q:=by
 rw[u9,u9,yO,yO,List.filter_filterMap,List.filterMap_filter]
 refine vI fun o _=> ?_
 by_cases e1:o.id=id
 ·rw[yWm e1]
  by_cases e2:o.qty=q
  ·rw[yWm e2];simp
  ·rw[yWl e2];by_cases e3:o.side=s<;>simp[Option.filter,e3]
 ·rw[yWl e1];by_cases e3:o.side=s<;>simp[Option.filter,e3]
theorem zKs {inst s:Int}:∀{os:List zD} {sh:List Int},(∀n,0≤sh.getD n 0)→sh.sum=0→yI inst s os sh=[]
 |[],sh,_,_=>by rw[yI];simp
 |_::_,[],_,_=>by rw[yI];simp
 |o::os,x::sh,h,h2=>by
  have h0:0≤x:=h 0
  have h1:0≤sh.sum:=zKy fun y hy=>by
   obtain⟨n,hn⟩:=y1i hy
   have:=h (n+1)
   have e:(x::sh).getD (n+1) 0=y:=zK (by rw[yYf];exact hn)
   omega
  rw[yXj]at h2
  rw[yI,yWl (by omega)]
  exact zKs (fun n=>h (n+1)) (by omega)
theorem yGz {pr Q x y:Int} {rest:List (Int×Int)} (h:x<Q):zHf (zHf ((pr,Q)::rest) x) y=zHf ((pr,Q)::rest) (x+y):=by
 have e:zHf ((pr,Q)::rest) x=(pr,Q-x)::rest:=yWl (by omega)
 rw[e]
 show(if Q-x≤y then rest else(pr,Q-x-y)::rest)=if Q≤x+y then rest else(pr,Q-(x+y))::rest
 by_cases c:Q≤x+y
 ·rw[yWm (by omega),yWm c]
 ·rw[yWl (by omega),yWl c,show Q-x-y=Q-(x+y)by omega]
theorem zGa {p:Prd} {k:Nat} {i s pr:Int} (hs:s=1∨s=2):∀{os:List zD} {sh:List Int} {B:List (List zD)} {L:List zD} {Q:Int} {rest:List (Int×Int)},BWf p B→B[k]? =some L→
 (∀o∈os,o∈L∧o.side=s∧o.price=pr)→(os.map (·.id)).Nodup→sh.length=os.length→(∀n,0≤sh.getD n 0∧sh.getD n 0≤(os.map (·.qty)).getD n 0)→lpq (vA L s)=(pr,Q)::rest→sh.sum≤Q→1≤Q→
 ∃L1,(y6 B (yI i s os sh))[k]? =some L1∧lpq (vA L1 s)=zHf ((pr,Q)::rest) sh.sum∧∀z,z≠s→vA L1 z=vA L z
 |[],sh,B,L,Q,rest,h,hL,_,_,hl,_,hd,_,hQ=>by
  have:sh=[]:=List.length_eq_zero_iff.1 hl
  subst this
  refine⟨L,hL,?_,fun _ _=>rfl⟩
  rw[hd,List.sum_nil]
  show _=if Q≤0 then rest else(pr,Q-0)::rest
  rw[yWl (by omega),Int.sub_zero]
 |o::os,[],B,L,Q,rest,h,hL,_,_,hl,_,_,_,_=>by cases hl
 |o::os,x::sh,B,L,Q,rest,h,hL,ho,hn,hl,hb,hd,hsum,hQ=>by
  have hx:0≤x∧x≤o.qty:=hb 0
  have hb':∀n,0≤sh.getD n 0∧sh.getD n 0≤(os.map (·.qty)).getD n 0:=fun n=>hb (n+1)
  have hl':sh.length=os.length:=by simpa using hl
  rw[yWu,yYl]at hn
  obtain⟨ho0,hos,hop⟩:=ho o yWq
  have ho':∀y∈os,y∈L∧y.side=s∧y.price=pr:=fun y hy=>ho y (yWr _ hy)
  rw[yXj]at hsum ⊢
  have hs0:0≤sh.sum:=zKy fun y hy=>by
   obtain⟨n,hn⟩:=y1i hy
   have:=(hb' n).1
   have e:sh.getD n 0=y:=zK hn
   omega
  rw[yI]
  by_cases c:0<x
  ·rw[yWm c]
   have hod:=h.od k L hL
   have hk:=(yWn.1 hL).1
   have hi:=h.inst hL (yXh (f:=(·.id)) ho0)
   have hg:=uA hod.2.1 ho0
   have hh:kA L o.id=true:=hasId_iff.2 (yXh (f:=(·.id)) ho0)
   have ht:(yX B o.id x).1=B.set k (yO L o.id x):=by
    simp only[yX,hi,zK hL]
    rw[xS,yWl (by rw[hh];decide),yWl (by rw[hg];omega)]
   have hW:=h.take o.id x
   show ∃L1,(y6 (yX B o.id x).1 (yI i s os sh))[k]? =some L1∧_
   rw[ht]at hW ⊢
   have hL':(B.set k (yO L o.id x))[k]? =some (yO L o.id x):=uY hk
   obtain⟨v,vs,e1,e2,e3,e4⟩:=yBs hd
   have hF:o∈u9 L s:=yXt.2 ⟨ho0,by simpa using hos⟩
   have hsd:=zOi L s o.id x
   have hlt:=yCw (h.srt k L hL s hs) (hod.2.1.sublist (List.Sublist.map _ yZv)) hF (v:=v) (vs:=vs) (by rw[← e1];rfl) (by rw[hop,e2]) (x:=x) (fun y hy=>by
    rw[← hsd]at hy
    exact((hW.od k _ hL').1 y (yXt.1 hy).1).q.1) (by rw[← hsd];exact hW.srt k _ hL' s hs)
   rw[← hsd]at hlt
   have hlt:lpq (vA (yO L o.id x) s)=zHf (lpq (vA L s)) x:=hlt
   rw[hd]at hlt
   have hoth:∀z,z≠s→vA (yO L o.id x) z=vA L z:=by
    intro z hz
    show grp (u9 (yO L o.id x) z)=grp (u9 L z)
    rw[zOi,zBk fun y hy e=> ?_]
    obtain⟨y1,y2⟩:=yXt.1 hy
    have:=uA hod.2.1 y1
    rw[e,hg]at this
    subst this
    have y2:o.side=z:=by simpa using y2
    exact hz (by rw[← y2,hos])
   by_cases c2:sh.sum=0
   ·rw[zKs (fun n=>(hb' n).1) c2,c2,Int.add_zero]
    exact⟨_,hL',hlt,hoth⟩
   ·have e5:zHf ((pr,Q)::rest) x=(pr,Q-x)::rest:=yWl (by omega)
    have hlt2:=hlt
    rw[e5]at hlt2
    obtain⟨L1,g1,g2,g3⟩:=zGa (i:=i) hs hW hL' (fun y hy=>⟨yZz.2 ⟨y,(ho' y hy).1,yWl fun(e:y.id=o.id)=>hn.1 (e▸yXh (f:=(·.id)) hy)⟩,(ho' y hy).2⟩) hn.2 hl' hb' hlt2 (by omega) (by omega)
    refine⟨L1,g1,?_,fun z hz=>(g3 z hz).trans (hoth z hz)⟩
    rw[g2,← e5,yGz (by omega)]
  ·rw[yWl c]
   have:x=0:=by omega
   subst this
   rw[Int.zero_add]at hsum ⊢
   exact zGa hs h hL ho' hn.2 hl' hb' hd hsum hQ
theorem zFf {p:Prd} {B:List (List zD)} (h:BWf p B) {k:Nat} {L:List zD} (hL:B[k]? =some L) {s:Int} (hs:s=1∨s=2) {q:Int} (hb:(bestL L s).2=true) (hq:1≤q∧q≤(bestL L s).1.qty):
 ∃L1,(y6 B (y4 p B k s q))[k]? =some L1∧lpq (vA L1 s)=zHf (lpq (vA L s)) q∧∀z,z≠s→vA L1 z=vA L z:=by
 have G:=zRg h hL hs hb hq
 have e:=G.eq
 have S:=G.sh
 rw[zK hL]at e S
 have ho:=h.od k L hL
 cases hl:vA L s with
 |nil=>rw[bestL,hl]at hb;cases hb
 |cons v vs=>
  have hv:(bestL L s).1=v:=by rw[bestL,hl]
  rw[hv]at e S hq
  obtain⟨L1,g1,g2,g3⟩:=zGa (i:=k) (pr:=v.price) (Q:=v.qty) (rest:=lpq vs) (os:=atL L s v.price) hs h hL (fun o hm=>by
   obtain⟨a,b⟩:=yXt.1 hm
   simp only[yWz,yXy]at b
   exact⟨a,b⟩) (ho.2.1.sublist (List.Sublist.map _ yZv)) (by rw[S.len,yWo]) S.bd (by rw[hl];rfl) (by rw[S.sum];omega) (by omega)
  rw[e]
  refine⟨L1,g1,?_,g3⟩
  rw[g2,S.sum];rfl
def hdQ:List (Int×Int)→Int×Int×Bool
 |[]=>(0,0,false)
 |(p,q)::_=>(p,q,true)
theorem yHv (L:List zD) (s:Int):((bestL L s).1.price,(bestL L s).1.qty,(bestL L s).2)=hdQ (lpq (vA L s)):=by
 rw[bestL]
 cases vA L s<;>rfl
theorem zHx (B:List (List zD)) (k:Nat) (s:Int) (hs:s=1∨s=2):((B.map u7).getD k top0).has s=(bestL (B.getD k []) s).2∧((B.map u7).getD k top0).qty s=(bestL (B.getD k []) s).1.qty∧((B.map u7).getD k top0).price s=(bestL (B.getD k []) s).1.price:=by
 by_cases h:k<B.length
 ·obtain⟨L,hL⟩:=yA h
  rw[zAm hL,zK hL];exact uB L hs
 ·rw[yWt,yWt,yXm (by rw[yWo];omega),yXm (by omega)]
  rcases hs with rfl|rfl<;>exact⟨rfl,rfl,rfl⟩
def sQ (inst s:Int) (n:Quote×Bool×Bool) (k:Nat) (z:Int):Prop:=if n.2.1=true then(k=n.1.a.inst.toNat∧z=n.1.a.side)∨(k=n.1.b.inst.toNat∧z=n.1.b.side)else k=inst.toNat∧z=s
def Dec (S:Nat→Int→Prop) (x:Int) (B B':List (List zD)):Prop:=B'.length=B.length∧∀(k:Nat) (s:Int),s=1∨s=2→(S k s→lpq (vA (B'.getD k []) s)=zHf (lpq (vA (B.getD k []) s)) x)∧(¬S k s→lpq (vA (B'.getD k []) s)=lpq (vA (B.getD k []) s))
def goB (p:Prd) (B:List (List zD)) (inst:Int) (sd:Bool) (price:Int):Bool:=(zW p B inst (zB (!sd))).2.2 && (cA sd price (zW p B inst (zB (!sd))).1.price && decide (1≤(zW p B inst (zB (!sd))).1.qty))
theorem yHd {p:Prd} {B:List (List zD)} {inst:Int} {sd:Bool} {price:Int} (h:goB p B inst sd price=false) (q:Int):jW p B inst sd price q=none:=by
 rw[jW]
 dsimp only
 rw[yWl]
 rw[goB]at h
 rw[h];decide
theorem yCv {p:Prd} {B:List (List zD)} (h:BWf p B) {inst:Int} (hi:0≤inst∧inst<B.length) {sd:Bool} {price:Int} (hg:goB p B inst sd price=true) {q:Int} (hq:1≤q):
 ∃t B',jW p B inst sd price q=some (t,B')∧t.qty=min q (zW p B inst (zB (!sd))).1.qty∧1≤t.qty∧BWf p B'∧Dec (sQ inst (zB (!sd)) (zW p B inst (zB (!sd)))) t.qty B B':=by
 have hs:zB (!sd)=1∨zB (!sd)=2:=cN _
 have hg0:=hg
 rw[goB]at hg0
 simp only[yWz,yXy]at hg0
 obtain⟨c1,c2,c3⟩:=hg0
 obtain⟨hq1,h1,h2⟩:=eM h.ok h.od hi hs c1
 rw[jW]
 dsimp only
 rw[yWm (by rw[goB]at hg;exact hg)]
 by_cases c:(zW p B inst (zB (!sd))).2.1=true
 ·obtain⟨_,ok⟩:=h1 c
  rw[yWm c]
  refine⟨_,_,rfl,rfl,by dsimp only;omega,h.takes.takes,?_⟩
  dsimp only
  have hlg:sQ inst (zB (!sd)) (zW p B inst (zB (!sd)))=fun k z=>(k=(zW p B inst (zB (!sd))).1.a.inst.toNat∧z=(zW p B inst (zB (!sd))).1.a.side)∨(k=(zW p B inst (zB (!sd))).1.b.inst.toNat∧z=(zW p B inst (zB (!sd))).1.b.side):=by
   funext k z;rw[sQ,yWm c]
  rw[hlg]
  generalize (zW p B inst (zB (!sd))).1=n at*
  obtain⟨np,nq,⟨ai,az⟩,⟨bi,bs⟩⟩:=n
  have a:=ok.a
  have b:=ok.b
  have ne:=ok.ne
  rw[yWo]at a b
  dsimp only at a b ne hq1 c3 ⊢
  obtain⟨ka,rfl⟩:∃k:Nat,ai=k:=⟨ai.toNat,by omega⟩
  obtain⟨kb,rfl⟩:∃k:Nat,bi=k:=⟨bi.toNat,by omega⟩
  have hab:ka≠kb:=fun e=>ne (by rw[e])
  obtain⟨La,hLa⟩:=yA (l:=B) (i:=ka) (by omega)
  obtain⟨Lb,hLb⟩:=yA (l:=B) (i:=kb) (by omega)
  have e1:=ok.ha
  have e2:=ok.hb
  have e3:=ok.qty
  have sa:az=1∨az=2:=ok.sa
  have bz:bs=1∨bs=2:=ok.sb
  dsimp only at e1 e2 e3
  rw[yXc,zAm hLa]at e1 e3
  rw[yXc,zAm hLb]at e2 e3
  rw[(uB La sa).1]at e1
  rw[(uB Lb bz).1]at e2
  rw[(uB La sa).2.1,(uB Lb bz).2.1]at e3
  have hW1:BWf p (y6 B (y4 p B ka az (min q nq))):=h.takes
  have hl:=gZ h (k:=ka) (j:=kb) hab hLa hLb az (min q nq)
  obtain⟨L1,g1,g2,g3⟩:=zFf h hLa sa e1 (q:=min q nq) (by omega)
  obtain⟨L2,f1,f2,f3⟩:=zFf hW1 hl bz e2 (q:=min q nq) (by omega)
  have hl2:=gZ hW1 (k:=kb) (j:=ka) (fun e=>hab e.symm) hl g1 bs (min q nq)
  refine⟨by rw[qI,qI],fun k s hs=> ?_⟩
  rw[yXc,yXc]
  by_cases ca:k=ka
  ·subst ca
   rw[zK hl2,zK hLa]
   by_cases cs:s=az
   ·subst cs
    exact⟨fun _=>g2,fun x=>absurd (.inl ⟨rfl,rfl⟩) x⟩
   ·exact⟨fun x=>by rcases x with x|x;exact absurd x.2 cs;exact absurd x.1 hab,fun _=>by rw[g3 s cs]⟩
  by_cases cb:k=kb
  ·subst cb
   rw[zK f1,zK hLb]
   by_cases cs:s=bs
   ·subst cs
    exact⟨fun _=>f2,fun x=>absurd (.inr ⟨rfl,rfl⟩) x⟩
   ·exact⟨fun x=>by rcases x with x|x;exact absurd x.1 ca;exact absurd x.2 cs,fun _=>by rw[f3 s cs]⟩
  refine⟨fun x=>by rcases x with x|x;exact absurd x.1 ca;exact absurd x.1 cb,fun _=> ?_⟩
  by_cases hk:k<B.length
  ·obtain⟨L,hL⟩:=yA hk
   have m1:=gZ h (k:=ka) (j:=k) (fun e=>ca e.symm) hLa hL az (min q nq)
   have m2:=gZ hW1 (k:=kb) (j:=k) (fun e=>cb e.symm) hl m1 bs (min q nq)
   rw[zK hL,zK m2]
  ·rw[yWt,yWt,yXm (by rw[qI,qI];omega),yXm (by omega)]
 ·obtain⟨d1,d2,d3⟩:=h2 (by simpa using c)
  rw[yWl c]
  refine⟨_,_,rfl,rfl,by dsimp only;omega,h.takes,?_⟩
  dsimp only
  have hlg:sQ inst (zB (!sd)) (zW p B inst (zB (!sd)))=fun k z=>k=inst.toNat∧z=zB (!sd):=by
   funext k z;rw[sQ,yWl c]
  rw[hlg]
  obtain⟨k0,rfl⟩:∃k:Nat,inst=k:=⟨inst.toNat,by omega⟩
  obtain⟨L,hL⟩:=yA (l:=B) (i:=k0) (by omega)
  rw[yXc,zK hL]at d1 d3
  rw[yXc]
  obtain⟨L1,g1,g2,g3⟩:=zFf h hL hs d1 (q:=min q (zW p B k0 (zB (!sd))).1.qty) (by omega)
  refine⟨by rw[qI],fun k s hs2=> ?_⟩
  by_cases ca:k=k0
  ·subst ca
   rw[zK g1,zK hL]
   by_cases cs:s=zB (!sd)
   ·rw[cs]
    exact⟨fun _=>g2,fun x=>absurd ⟨rfl,rfl⟩ x⟩
   ·exact⟨fun x=>absurd x.2 cs,fun _=>by rw[g3 s cs]⟩
  refine⟨fun x=>absurd x.1 ca,fun _=> ?_⟩
  by_cases hk:k<B.length
  ·obtain⟨M,hM⟩:=yA hk
   have m1:=gZ h (k:=k0) (j:=k) (fun e=>ca e.symm) hL hM (zB (!sd)) (min q (zW p B k0 (zB (!sd))).1.qty)
   rw[zK hM,zK m1]
  ·rw[yWt,yWt,yXm (by rw[qI];omega),yXm (by omega)]
open Go Cv Go.Proofs
theorem yFn {p:Prd} {B:List (List zD)} (h:BWf p B) {inst:Int} (hi:0≤inst∧inst<B.length) {s:Int} (hs:s=1∨s=2) (hn:(zW p B inst s).2.2=true) {k:Nat} {z:Int} (hl:sQ inst s (zW p B inst s) k z):
 (bestL (B.getD k []) z).2=true∧(zW p B inst s).1.qty≤(bestL (B.getD k []) z).1.qty:=by
 obtain⟨_,h1,h2⟩:=eM h.ok h.od hi hs hn
 rw[sQ]at hl
 split at hl
 ·rename_i c
  obtain⟨_,ok⟩:=h1 c
  have e1:=ok.ha
  have e2:=ok.hb
  have e3:=ok.qty
  have a:=zHx B (zW p B inst s).1.a.inst.toNat _ ok.sa
  have b:=zHx B (zW p B inst s).1.b.inst.toNat _ ok.sb
  rw[a.1]at e1
  rw[b.1]at e2
  rw[a.2.1,b.2.1]at e3
  rcases hl with⟨rfl,rfl⟩|⟨rfl,rfl⟩
  ·exact⟨e1,by omega⟩
  ·exact⟨e2,by omega⟩
 ·rename_i c
  obtain⟨d1,d2,d3⟩:=h2 (by simpa using c)
  obtain⟨rfl,rfl⟩:=hl
  exact⟨d1,by omega⟩
theorem yPa {p:Prd} {B:List (List zD)} {inst:Int} {sd:Bool} {price:Int} (h:goB p B inst sd price=false) (q:Int):qG p B inst sd price q=⟨[],q,B⟩:=vV (.inr (yHd h q))
open Go Cv Go.Proofs
def qQ (B:List (List zD)):Nat:=(B.map List.length).sum
def spO (o:zD):Int×Int:=(o.side,o.price)
def zVd (B:List (List zD)):List (List (Int×Int)):=B.map fun L=>L.map spO
theorem zSm:∀(B:List (List zD)) (n:Nat),(whL n B).length=qQ B
 |[],n=>rfl
 |L::B,n=>by
  rw[whL,yWs,yWo,zSm B,qQ,qQ,yWu,yXj]
theorem z2w (id q:Int):∀(L:List zD),(yO L id q).length≤L.length∧((yO L id q).length=L.length→(yO L id q).map spO=L.map spO)
 |[]=>⟨yXn _,fun _=>rfl⟩
 |o::L=>by
  obtain⟨i1,i2⟩:=z2w id q L
  rw[yO]at i1 i2
  rw[yO,y0e]
  by_cases c:o.id=id
  ·rw[yWm c]
   by_cases d:o.qty=q
   ·rw[yWm d]
    refine⟨Nat.le_succ_of_le i1,fun e=> ?_⟩
    rw[yXa]at e
    dsimp only at e
    omega
   ·rw[yWl d]
    refine⟨Nat.succ_le_succ i1,fun e=> ?_⟩
    rw[yWu,yWu,i2 (Nat.succ.inj e)]
    rfl
  ·rw[yWl c]
   refine⟨Nat.succ_le_succ i1,fun e=> ?_⟩
   rw[yWu,yWu,i2 (Nat.succ.inj e)]
theorem zIb:∀{B:List (List zD)} {k:Nat} {L L':List zD},B[k]? =some L→qQ (B.set k L')+L.length=qQ B+L'.length
 |[],k,L,L',h=>by cases h
 |M::B,0,L,L',h=>by
  cases h
  rw[y0x,qQ,qQ,yWu,yWu,yXj,yXj];omega
 |M::B,k+1,L,L',h=>by
  have:=zIb (B:=B) (k:=k) (L:=L) (L':=L') h
  rw[qQ,qQ]at this
  rw[y0y,qQ,qQ,yWu,yWu,yXj,yXj];omega
theorem zHq (B:List (List zD)) (id q:Int):qQ (yX B id q).1≤qQ B∧(qQ (yX B id q).1=qQ B→zVd (yX B id q).1=zVd B):=by
 rw[yX]
 split
 ·exact⟨yXn _,fun _=>rfl⟩
 ·rename_i k hk
  dsimp only
  obtain⟨L,hL,hh⟩:=xO hk
  rw[zK hL,xS]
  split
  ·rw[jC hL];exact⟨yXn _,fun _=>rfl⟩
  split
  ·rw[jC hL];exact⟨yXn _,fun _=>rfl⟩
  dsimp only
  have:=zIb (L':=yO L id q) hL
  obtain⟨i1,i2⟩:=z2w id q L
  refine⟨by omega,fun e=> ?_⟩
  rw[zVd,zVd,List.map_set,i2 (by omega)]
  exact jC (by rw[yYj,hL];rfl)
theorem zVs:∀(fs:List vL) (B:List (List zD)),qQ (y6 B fs)≤qQ B∧(qQ (y6 B fs)=qQ B→zVd (y6 B fs)=zVd B)
 |[],B=>⟨yXn _,fun _=>rfl⟩
 |f::fs,B=>by
  obtain⟨i1,i2⟩:=zVs fs (yX B f.id f.qty).1
  obtain⟨j1,j2⟩:=zHq B f.id f.qty
  have e:y6 B (f::fs)=y6 (yX B f.id f.qty).1 fs:=rfl
  rw[e]
  exact⟨by omega,fun h=>(i2 (by omega)).trans (j2 (by omega))⟩
theorem zPx:∀{F F':List zD},F.map (·.price)=F'.map (·.price)→(grp F).map (·.price)=(grp F').map (·.price)
 |[],[],_=>rfl
 |[],_::_,h=>by cases h
 |_::_,[],h=>by cases h
 |o::F,o'::F',h=>by
  rw[yWu,yWu,List.cons.injEq]at h
  have ih:=zPx h.2
  have h1:=h.1
  rw[grp,grp]
  cases e:grp F with
  |nil=>
   rw[e]at ih
   cases e':grp F' with
   |nil=>simp[h1]
   |cons v vs=>rw[e']at ih;cases ih
  |cons v vs=>
   rw[e]at ih
   cases e':grp F' with
   |nil=>rw[e']at ih;cases ih
   |cons w ws=>
    rw[e',yWu,yWu,List.cons.injEq]at ih
    dsimp only
    rw[ih.1,h1]
    split
    ·rw[yWu,yWu,ih.2]
    ·rw[yWu,yWu,yWu,yWu,ih.2,ih.1]
theorem yNf {L L':List zD} (h:L'.map spO=L.map spO) (s:Int):(vA L' s).length=(vA L s).length:=by
 have e:∀L:List zD,(L.filter fun o=>decide (o.side=s)).map (·.price)=((L.map spO).filter fun x=>decide (x.1=s)).map (·.2):=by
  intro L
  rw[List.filter_map,yYx];rfl
 have:=zPx ((e L').trans ((congrArg (fun l=>(List.filter (fun x:Int×Int=>decide (x.1=s)) l).map (·.2)) h).trans (e L).symm))
 have:=congrArg List.length this
 rw[yWo,yWo]at this
 exact this
theorem z1a {p:Prd} {B:List (List zD)} {inst:Int} {sd:Bool} {price q:Int} {t:qZ} {B':List (List zD)} (e:jW p B inst sd price q=some (t,B')):B'=y6 B t.fills:=by
 rw[jW]at e
 dsimp only at e
 split at e
 ·split at e
  ·cases e;rw[zPn]
  ·cases e;rfl
 ·cases e
theorem yEz {p:Prd} {B:List (List zD)} (h:BWf p B) {inst:Int} (hi:0≤inst∧inst<B.length) {sd:Bool} {price:Int} (hg:goB p B inst sd price=true) {q:Int} (hq:1≤q):
 ∃t B',jW p B inst sd price q=some (t,B')∧1≤t.qty∧t.qty≤q∧BWf p B'∧B'.length=B.length∧qQ B'≤qQ B∧(t.qty<q→qQ B'<qQ B):=by
 obtain⟨t,B',a1,a2,a3,a4,a5⟩:=yCv h hi hg hq
 have hg0:=hg
 rw[goB]at hg0
 simp only[yWz,yXy]at hg0
 obtain⟨c1,_,c3⟩:=hg0
 have hcs:=zVs t.fills B
 rw[← z1a a1]at hcs
 refine⟨t,B',a1,a3,by omega,a4,a5.1,hcs.1,fun hlt=> ?_⟩
 rcases yZa (qQ B') (qQ B)with x|x
 ·exact x
 exfalso
 have hsh:=hcs.2 (by omega)
 have hs:=cN (!sd)
 obtain⟨_,p1,p2⟩:=eM h.ok h.od hi hs c1
 obtain⟨k,z,hz,hl,he⟩:∃(k:Nat) (z:Int),(z=1∨z=2)∧sQ inst (zB (!sd)) (zW p B inst (zB (!sd))) k z∧(bestL (B.getD k []) z).1.qty=(zW p B inst (zB (!sd))).1.qty:=by
  cases c:(zW p B inst (zB (!sd))).2.1 with
  |true=>
   obtain⟨_,ok⟩:=p1 c
   have q0:=ok.qty
   rw[(zHx B _ _ ok.sa).2.1,(zHx B _ _ ok.sb).2.1]at q0
   rcases Int.le_total (bestL (B.getD (zW p B inst (zB (!sd))).1.a.inst.toNat []) (zW p B inst (zB (!sd))).1.a.side).1.qty (bestL (B.getD (zW p B inst (zB (!sd))).1.b.inst.toNat []) (zW p B inst (zB (!sd))).1.b.side).1.qty with y|y
   ·exact⟨_,_,ok.sa,by rw[sQ,yWm c];exact .inl ⟨rfl,rfl⟩,by omega⟩
   ·exact⟨_,_,ok.sb,by rw[sQ,yWm c];exact .inr ⟨rfl,rfl⟩,by omega⟩
  |false=>
   obtain⟨d1,d2,d3⟩:=p2 c
   exact⟨inst.toNat,_,hs,by rw[sQ,yWl (by rw[c];decide)];exact⟨rfl,rfl⟩,d3.symm⟩
 have hb:=yFn h hi hs c1 hl
 have hd:=(a5.2 k z hz).1 hl
 have hlen:(lpq (vA (B'.getD k []) z)).length=(lpq (vA (B.getD k []) z)).length:=by
  rw[lpq,lpq,yWo,yWo]
  refine yNf ?_ z
  have:=congrArg (fun l=>l.getD k []) hsh
  have ge:∀B:List (List zD),(zVd B).getD k []=(B.getD k []).map spO:=by
   intro B
   rw[zVd,yWt,yWt,yYj]
   cases B[k]? <;>rfl
  rw[ge,ge]at this
  exact this
 have bh:=yHv (B.getD k []) z
 rw[hd]at hlen
 cases el:lpq (vA (B.getD k []) z)with
 |nil=>rw[el]at bh;simp only[hdQ,Prod.mk.injEq]at bh;rw[bh.2.2]at hb;cases hb.1
 |cons v vs=>
  obtain⟨pr,Q⟩:=v
  rw[el]at bh hlen
  simp only[hdQ,Prod.mk.injEq]at bh
  have e2:zHf ((pr,Q)::vs) t.qty=vs:=yWm (by omega)
  rw[e2,yXa]at hlen
  omega
theorem z3o {p:Prd} {inst:Int} {sd:Bool} {price:Int}:∀(m:Nat) (q:Int) (B:List (List zD)),q.toNat≤m→BWf p B→0≤inst∧inst<B.length→
 (qG p B inst sd price q).steps.length+qQ (qG p B inst sd price q).B≤qQ B+1∧(q≤0→(qG p B inst sd price q).steps=[])∧((qG p B inst sd price q).steps.map (·.qty)).sum=q-(qG p B inst sd price q).left∧qQ (qG p B inst sd price q).B≤qQ B
 |m,q,B,hm,h,hi=>by
  by_cases hq:q≤0
  ·rw[vV (.inl hq)]
   exact⟨by dsimp only[List.length_nil];omega,fun _=>rfl,by simp,yXn _⟩
  cases hg:goB p B inst sd price with
  |false=>
   rw[yPa hg]
   exact⟨by dsimp only[List.length_nil];omega,fun _=>rfl,by simp,yXn _⟩
  |true=>
   obtain⟨t,C,a1,a3,a3',a4,a5,a6,a7⟩:=yEz h hi hg (q:=q) (by omega)
   cases m with
   |zero=>omega
   |succ m=>
   obtain⟨i1,i2,i3,i4⟩:=z3o (p:=p) (inst:=inst) (sd:=sd) (price:=price) m (q-t.qty) C (by omega) a4 (by rw[a5];exact hi)
   rw[a8 (by omega) a1]
   refine⟨?_,fun x=>absurd x hq,?_,by dsimp only;omega⟩
   ·dsimp only
    rw[yXa]
    by_cases c:t.qty<q
    ·have:=a7 c
     omega
    ·rw[i2 (by omega)]
     rw[yZe];omega
   ·dsimp only
    rw[yWu,yXj,i3];omega
open Go Cv Go.Proofs
open Go Cv Go.Proofs
theorem z5m {p:Prd} (hc:p.check=0) {a b:Nat} (hab:a<b) (hb:b<p.months.length):(p.spread a b).1=(yH p.months.length a:Int)+b-a-1:=by
 rw[Prd.spread,yWl (by omega)]
 simp
structure Tri (p:Prd) (a b k:Nat):Prop where
 hab:a<b
 hb:b<p.months.length
 hs:(p.spread a b).1=k
 hk:k<p.count
 hm:p.months.length≤k
 hl:p.legs k=((a:Int),(b:Int),true)
theorem yPg {p:Prd} (hc:p.check=0) {a b:Nat} (hab:a<b) (hb:b<p.months.length):∃k,Tri p a b k:=by
 have m6:=(kP hc).m6
 have e:=z5m hc hab hb
 have l:=z1v hc (a:=a) (b:=b-a-1) (by omega) (by omega)
 have lf:=zTm p.months.length m6 a (by omega) (b-a-1) (by omega)
 refine⟨yH p.months.length a+(b-a-1),hab,hb,by rw[e];omega,by rw[cW hc];exact lf.2.1,lf.2.2,?_⟩
 rw[l,show a+1+(b-a-1)=b by omega]
end Sx
