/- Texts of ours, one behind the other: a walk that the kernel reckons, and contracts of functions. No condition. -/
import Derived.Test.YtogkpgfggfbhaaaGreatX8
namespace Sx
set_option linter.unusedVariables false
set_option maxRecDepth 100000
open Go Cv Go.Proofs
def yNc (i:RjI):Prop:=
 ∃(o:Unit),[xL (Rep.mk 2 i.c.id 0 0 0 0 0 i.why)]=[[D.v (.int .i64 2),D.v (.int .i64 i.c.id),D.v (.int .i64 0),D.v (.int .i64 0),D.v (.int .i64 0),D.v (.int .i64 0),D.v (.int .i64 0),D.v (.int .i64 i.why)]]∧True
def wC (a:MsI):Prop:=a.r.kind=a.r.kind∧a.r.id=a.r.id∧a.r.inst=a.r.inst∧a.r.side=a.r.side∧a.r.price=a.r.price∧a.r.qty=a.r.qty∧a.r.left=a.r.left∧a.r.why=a.r.why∧True
def uF (a:MsI):=(Rep.mk a.r.kind a.r.id (a.m.p.legs a.r.inst).snd.fst (3-a.r.side) a.far a.r.qty a.r.left a.r.why)
def uM (a:MsI):=(Rep.mk a.r.kind a.r.id (a.m.p.legs a.r.inst).fst a.r.side a.near a.r.qty a.r.left a.r.why)
def nY (a:MsI) (b:tZ):Prop:=(wC a)∧(wC a)∧(wC a)∧(wC a)∧(wC a)∧a.r.side=a.r.side∧∃(c:Unit),sb a.m.p.code=sb a.m.p.code∧a.m.p.tick=a.m.p.tick∧a.m.p.low=a.m.p.low∧a.m.p.high=a.m.p.high∧a.m.p.wide=a.m.p.wide∧a.m.p.rule=a.m.p.rule∧a.m.p.top=a.m.p.top∧a.m.p.least=a.m.p.least∧a.m.p.part=a.m.p.part∧zD a.m.s=yR a.m 1∧zY a.m.used=zY a.m.used∧AObj.fro 1 (iE a.m.p.months)=yR a.m 3∧AObj.fro 1 (iE a.m.p.settle)=yR a.m 4∧[xL (uM a),xL (uF a)]=[[dI a.r.kind,dI a.r.id,dI ((b.p.legs b.n).fst),dI a.r.side,dI a.near,dI a.r.qty,dI a.r.left,dI a.r.why],[dI a.r.kind,dI a.r.id,dI (jI b),dI (IntKind.i64.wrap (3-a.r.side)),dI a.far,dI a.r.qty,dI a.r.left,dI a.r.why]]∧True
def zQd (i:MsI):Prop:=
 ∃(a:tZ),sb a.p.code=sb i.m.p.code∧iE a.p.months=iE i.m.p.months∧a.p.tick=i.m.p.tick∧a.p.low=i.m.p.low∧a.p.high=i.m.p.high∧a.p.wide=i.m.p.wide∧a.p.rule=i.m.p.rule∧a.p.top=i.m.p.top∧a.p.least=i.m.p.least∧a.p.part=i.m.p.part∧iE a.p.settle=iE i.m.p.settle∧a.n=i.r.inst∧(jK a)∧∀(b:Unit),True→(nY i a)∧nY i a
def yOm (i:MiN):Prop:=
 ∃(i_1:tZ),sb i_1.p.code=sb i.m.p.code∧iE i_1.p.months=iE i.m.p.months∧i_1.p.tick=i.m.p.tick∧i_1.p.low=i.m.p.low∧i_1.p.high=i.m.p.high∧i_1.p.wide=i.m.p.wide∧i_1.p.rule=i.m.p.rule∧i_1.p.top=i.m.p.top∧i_1.p.least=i.m.p.least∧i_1.p.part=i.m.p.part∧iE i_1.p.settle=iE i.m.p.settle∧i_1.n=i.inst∧(i_1.p.code.length≤1099511627776∧i_1.p.months.length≤1099511627776∧i_1.p.settle.length≤1099511627776)∧∀(o:Unit),True→∃(o:Unit),(i.m.p.legs i.inst).snd.snd=(i_1.p.legs i_1.n).snd.snd∧sb i.m.p.code=sb i.m.p.code∧i.m.p.tick=i.m.p.tick∧i.m.p.low=i.m.p.low∧i.m.p.high=i.m.p.high∧i.m.p.wide=i.m.p.wide∧i.m.p.rule=i.m.p.rule∧i.m.p.top=i.m.p.top∧i.m.p.least=i.m.p.least∧i.m.p.part=i.m.p.part∧zD i.m.s=yR i.m 1∧zY i.m.used=zY i.m.used∧AObj.fro 1 (iE i.m.p.months)=yR i.m 3∧AObj.fro 1 (iE i.m.p.settle)=yR i.m 4∧True
def zNt (a:OfI):Prop:=a.x.price=a.x.price∧a.x.qty=a.x.qty∧a.x.implied=a.x.implied∧AObj.fro 6 (List.map yL a.x.fills)=AObj.fro 6 (List.map yL a.x.fills)∧True
def Vof (i:OfI):Prop:=
 ∃(a:Nat),(↑a:Int)=0∧∃(b:Nat→Prop),∃(c:Nat→Nat),b a∧∀(d:Nat),b d→cnd (decide ((↑d:Int)<(↑(List.map yL i.x.fills).length:Int))) ((0≤(↑d:Int)∧(↑d:Int)<(↑(List.map yL i.x.fills).length:Int))∧∃(e:Int),∃(f:Int),∃(g:Int),∃(h:Int),∃(j:Int),∃(k:Int),zF (List.map yL i.x.fills) (↑d:Int).toNat 0 6=some [dI e,dI f,dI g,dI h,dI j,dI k]∧cnd (f==i.k) (∃(l:Unit),ofF i.x i.k=h∧zNt i) (∃(l:Nat),(↑l:Int)=IntKind.i64.wrap ((↑d:Int)+1)∧b l∧c l<c d∧Sx.AObj.cells [zA i.x.price,zA i.x.qty,yB i.x.implied,V.own 1] (260:TypeId)=Sx.AObj.cells [zA i.x.price,zA i.x.qty,yB i.x.implied,V.own 1] (260:TypeId)∧AObj.fro 6 (List.map yL i.x.fills)=AObj.fro 6 (List.map yL i.x.fills))) (∃(e:Unit),ofF i.x i.k=i.x.price∧zNt i)
def nM (a:MpI):Prop:=sb a.m.p.code=sb a.m.p.code∧a.m.p.tick=a.m.p.tick∧a.m.p.low=a.m.p.low∧a.m.p.high=a.m.p.high∧a.m.p.wide=a.m.p.wide∧a.m.p.rule=a.m.p.rule∧a.m.p.top=a.m.p.top∧a.m.p.least=a.m.p.least∧a.m.p.part=a.m.p.part∧zD a.m.s=yR a.m 1∧zY a.m.used=zY a.m.used∧AObj.fro 1 (iE a.m.p.months)=yR a.m 3∧AObj.fro 1 (iE a.m.p.settle)=yR a.m 4∧True
def xP (a:MpI):=(kX a.m.p a.inst a.x)
def zQr (i:MpI):Prop:=
 cnd (!i.x.implied) (∃(a:LpI),sb a.p.code=sb i.m.p.code∧iE a.p.months=iE i.m.p.months∧a.p.tick=i.m.p.tick∧a.p.low=i.m.p.low∧a.p.high=i.m.p.high∧a.p.wide=i.m.p.wide∧a.p.rule=i.m.p.rule∧a.p.top=i.m.p.top∧a.p.least=i.m.p.least∧a.p.part=i.m.p.part∧iE a.p.settle=iE i.m.p.settle∧a.inst=i.inst∧a.price=i.x.price∧(a.p.check=0∧(a.p.code.length≤1099511627776∧a.p.months.length≤1099511627776∧a.p.settle.length≤1099511627776)∧(-9223372036854775808)≤a.price∧a.price≤9223372036854775807)∧∀(b:Unit),True→∃(c:Unit),(xP i).fst=(yO a).fst∧(xP i).snd=(yO a).snd.fst∧nM i) (∃(a:tZ),sb a.p.code=sb i.m.p.code∧iE a.p.months=iE i.m.p.months∧a.p.tick=i.m.p.tick∧a.p.low=i.m.p.low∧a.p.high=i.m.p.high∧a.p.wide=i.m.p.wide∧a.p.rule=i.m.p.rule∧a.p.top=i.m.p.top∧a.p.least=i.m.p.least∧a.p.part=i.m.p.part∧iE a.p.settle=iE i.m.p.settle∧a.n=i.inst∧(jK a)∧∀(b:Unit),True→∃(c:OfI),c.k=(a.p.legs a.n).fst∧c.x.price=i.x.price∧c.x.qty=i.x.qty∧c.x.implied=i.x.implied∧AObj.fro 6 (List.map yL c.x.fills)=AObj.fro 6 (List.map yL i.x.fills)∧c.x.fills.length≤1000000∧∀(d:Unit),True→∃(e:OfI),e.k=(a.p.legs a.n).snd.fst∧e.x.price=c.x.price∧e.x.qty=c.x.qty∧e.x.implied=c.x.implied∧AObj.fro 6 (List.map yL e.x.fills)=AObj.fro 6 (List.map yL c.x.fills)∧e.x.fills.length≤1000000∧∀(f:Unit),True→∃(g:Unit),(xP i).fst=ofF c.x c.k∧(xP i).snd=ofF e.x e.k∧nM i)
def tF (a:MpI):Prop:=(a.m.p.check=0∧a.m.p.code.length≤1099511627776∧a.m.p.months.length≤1099511627776∧a.m.p.settle.length≤1099511627776)∧((-9223372036854775808)≤a.x.price∧a.x.price≤9223372036854775807)∧a.x.fills.length≤1000000
def tC (a:MsI):Prop:=(a.m.p.check=0∧a.m.p.code.length≤1099511627776∧a.m.p.months.length≤1099511627776∧a.m.p.settle.length≤1099511627776)∧(a.r.side=1∨a.r.side=2)
def sM (a:MiN):Prop:=a.m.p.check=0∧a.m.p.code.length≤1099511627776∧a.m.p.months.length≤1099511627776∧a.m.p.settle.length≤1099511627776
def dF (a:StI'):=(D.v (Value.string (sb a.c.label)))
def z1v (i:StI'):Prop:=
 ∃(a:Nat),(↑a:Int)=0∧List.map xL (i.out a)=[]∧∃(b:Nat→Prop),∃(c:Nat→Nat),b a∧∀(d:Nat),b d→cnd (decide ((↑d:Int)<(↑(List.map yL i.x.fills).length:Int))) ((0≤(↑d:Int)∧(↑d:Int)<(↑(List.map yL i.x.fills).length:Int))∧∃(e:Int),∃(f:Int),∃(g:Int),∃(h:Int),∃(j:Int),∃(k:Int),zF (List.map yL i.x.fills) (↑d:Int).toNat 0 6=some [dI e,dI f,dI g,dI h,dI j,dI k]∧((List.map xL (i.out d)).length+1)*(64:Nat)≤(140737488355328:Nat)∧∃(l:MiN),l.inst=f∧sb l.m.p.code=sb i.m.p.code∧l.m.p.tick=i.m.p.tick∧l.m.p.low=i.m.p.low∧l.m.p.high=i.m.p.high∧l.m.p.wide=i.m.p.wide∧l.m.p.rule=i.m.p.rule∧l.m.p.top=i.m.p.top∧l.m.p.least=i.m.p.least∧l.m.p.part=i.m.p.part∧zD l.m.s=yR i.m 1∧zY l.m.used=zY i.m.used∧AObj.fro 1 (iE l.m.p.months)=yR i.m 3∧AObj.fro 1 (iE l.m.p.settle)=yR i.m 4∧(sM l)∧∀(m:Unit),True→cnd (l.m.p.legs l.inst).snd.snd (∃(n:MpI),n.inst=f∧n.x.price=i.x.price∧n.x.qty=i.x.qty∧n.x.implied=i.x.implied∧List.map yL n.x.fills=List.map yL i.x.fills∧sb n.m.p.code=sb l.m.p.code∧n.m.p.tick=l.m.p.tick∧n.m.p.low=l.m.p.low∧n.m.p.high=l.m.p.high∧n.m.p.wide=l.m.p.wide∧n.m.p.rule=l.m.p.rule∧n.m.p.top=l.m.p.top∧n.m.p.least=l.m.p.least∧n.m.p.part=l.m.p.part∧zD n.m.s=zD l.m.s∧zY n.m.used=zY l.m.used∧AObj.fro 1 (iE n.m.p.months)=AObj.fro 1 (iE l.m.p.months)∧AObj.fro 1 (iE n.m.p.settle)=AObj.fro 1 (iE l.m.p.settle)∧(tF n)∧∀(p:Unit),True→∃(q:MsI),q.r.kind=3∧q.r.id=e∧q.r.inst=f∧q.r.side=g∧q.r.price=h∧q.r.qty=j∧q.r.left=k∧q.r.why=0∧q.near=(xP n).fst∧q.far=(xP n).snd∧sb q.m.p.code=sb n.m.p.code∧q.m.p.tick=n.m.p.tick∧q.m.p.low=n.m.p.low∧q.m.p.high=n.m.p.high∧q.m.p.wide=n.m.p.wide∧q.m.p.rule=n.m.p.rule∧q.m.p.top=n.m.p.top∧q.m.p.least=n.m.p.least∧q.m.p.part=n.m.p.part∧zD q.m.s=zD n.m.s∧zY q.m.used=zY n.m.used∧AObj.fro 1 (iE q.m.p.months)=AObj.fro 1 (iE n.m.p.months)∧AObj.fro 1 (iE q.m.p.settle)=AObj.fro 1 (iE n.m.p.settle)∧(tC q)∧∀(r:Unit),True→True∧((List.map xL (i.out d)++[[dI 3,dI e,dI f,dI g,dI h,dI j,dI k,dI 0]]).length+2)*(64:Nat)≤(140737488355328:Nat)∧∃(s:Nat),(↑s:Int)=IntKind.i64.wrap ((↑d:Int)+1)∧List.map xL (i.out s)=List.map xL (i.out d)++[[dI 3,dI e,dI f,dI g,dI h,dI j,dI k,dI 0]]++[xL (uM q),xL (uF q)]∧b s∧c s<c d∧Sx.AObj.cells [V.d (dI i.x.price),V.d (dI i.x.qty),V.d (D.v (.bool i.x.implied)),V.own ((5:Nat)+(1:Nat)+1)] 260=Sx.AObj.cells [V.d (dI i.x.price),V.d (dI i.x.qty),V.d (D.v (.bool i.x.implied)),V.own ((5:Nat)+(1:Nat)+1)] 260∧AObj.fro 6 (List.map yL i.x.fills)=AObj.fro 6 (List.map yL i.x.fills)∧Sx.AObj.cells [V.d (dI i.c.kind),V.d (dI i.c.id),V.d (dI i.c.inst),V.d (dI i.c.side),V.d (dI i.c.price),V.d (dI i.c.qty),V.d (dI i.c.least),V.d (dI i.c.time),V.d (dF i)] 36=Sx.AObj.cells [V.d (dI i.c.kind),V.d (dI i.c.id),V.d (dI i.c.inst),V.d (dI i.c.side),V.d (dI i.c.price),V.d (dI i.c.qty),V.d (dI i.c.least),V.d (dI i.c.time),V.d (dF i)] 36∧Sx.AObj.cells [V.nm 0 0] 53=Sx.AObj.cells [V.nm 0 0] 53∧Sx.AObj.cells (wT (dO 5 ((5:Nat)+(1:Nat)+(1:Nat)+(1:Nat)+(1:Nat)+(1:Nat)+(1:Nat)+(2:Nat)+(1:Nat)+(1:Nat)+(1:Nat)+(1:Nat)+((5:Nat)-(5:Nat))+((5:Nat)-(5:Nat))) ((6:Nat)-(5:Nat)) [((2:Nat),(2:Nat)),((1:Nat),(1:Nat)),((4:Nat),(4:Nat)),((3:Nat),(3:Nat)),((0:Nat),(0:Nat))]) [sV q.m.p.code,V.own 3,zA q.m.p.tick,zA q.m.p.low,zA q.m.p.high,zA q.m.p.wide,zA q.m.p.rule,zA q.m.p.top,zA q.m.p.least,zA q.m.p.part,V.own 4,V.nm 1 0,V.mp 2]) (121:TypeId)=yR i.m 0∧zD q.m.s=yR i.m 1∧Sx.AObj.map (zY q.m.used)=yR i.m 2∧AObj.fro 1 (iE q.m.p.months)=yR i.m 3∧AObj.fro 1 (iE q.m.p.settle)=yR i.m 4) (∃(n:Nat),(↑n:Int)=IntKind.i64.wrap ((↑d:Int)+1)∧List.map xL (i.out n)=List.map xL (i.out d)++[[dI 3,dI e,dI f,dI g,dI h,dI j,dI k,dI 0]]∧b n∧c n<c d∧Sx.AObj.cells [V.d (dI i.x.price),V.d (dI i.x.qty),V.d (D.v (.bool i.x.implied)),V.own ((5:Nat)+(1:Nat)+1)] 260=Sx.AObj.cells [V.d (dI i.x.price),V.d (dI i.x.qty),V.d (D.v (.bool i.x.implied)),V.own ((5:Nat)+(1:Nat)+1)] 260∧AObj.fro 6 (List.map yL i.x.fills)=AObj.fro 6 (List.map yL i.x.fills)∧Sx.AObj.cells [V.d (dI i.c.kind),V.d (dI i.c.id),V.d (dI i.c.inst),V.d (dI i.c.side),V.d (dI i.c.price),V.d (dI i.c.qty),V.d (dI i.c.least),V.d (dI i.c.time),V.d (dF i)] 36=Sx.AObj.cells [V.d (dI i.c.kind),V.d (dI i.c.id),V.d (dI i.c.inst),V.d (dI i.c.side),V.d (dI i.c.price),V.d (dI i.c.qty),V.d (dI i.c.least),V.d (dI i.c.time),V.d (dF i)] 36∧Sx.AObj.cells [V.nm 0 0] 53=Sx.AObj.cells [V.nm 0 0] 53∧Sx.AObj.cells (wT (dO 5 ((5:Nat)+(1:Nat)+(1:Nat)+(1:Nat)+(1:Nat)+(1:Nat)+(1:Nat)+(2:Nat)+(1:Nat)+(1:Nat)+(1:Nat)+(1:Nat)) ((5:Nat)-(5:Nat)) [((2:Nat),(2:Nat)),((1:Nat),(1:Nat)),((4:Nat),(4:Nat)),((3:Nat),(3:Nat)),((0:Nat),(0:Nat))]) [sV l.m.p.code,V.own 3,zA l.m.p.tick,zA l.m.p.low,zA l.m.p.high,zA l.m.p.wide,zA l.m.p.rule,zA l.m.p.top,zA l.m.p.least,zA l.m.p.part,V.own 4,V.nm 1 0,V.mp 2]) (121:TypeId)=yR i.m 0∧zD l.m.s=yR i.m 1∧Sx.AObj.map (zY l.m.used)=yR i.m 2∧AObj.fro 1 (iE l.m.p.months)=yR i.m 3∧AObj.fro 1 (iE l.m.p.settle)=yR i.m 4)) (((List.map xL (i.out d)).length+1)*(64:Nat)≤(140737488355328:Nat)∧∃(e:MiN),e.inst=i.c.inst∧sb e.m.p.code=sb i.m.p.code∧e.m.p.tick=i.m.p.tick∧e.m.p.low=i.m.p.low∧e.m.p.high=i.m.p.high∧e.m.p.wide=i.m.p.wide∧e.m.p.rule=i.m.p.rule∧e.m.p.top=i.m.p.top∧e.m.p.least=i.m.p.least∧e.m.p.part=i.m.p.part∧zD e.m.s=yR i.m 1∧zY e.m.used=zY i.m.used∧AObj.fro 1 (iE e.m.p.months)=yR i.m 3∧AObj.fro 1 (iE e.m.p.settle)=yR i.m 4∧(sM e)∧∀(f:Unit),True→cnd (e.m.p.legs e.inst).snd.snd (∃(g:MpI),g.inst=i.c.inst∧g.x.price=i.x.price∧g.x.qty=i.x.qty∧g.x.implied=i.x.implied∧List.map yL g.x.fills=List.map yL i.x.fills∧sb g.m.p.code=sb e.m.p.code∧g.m.p.tick=e.m.p.tick∧g.m.p.low=e.m.p.low∧g.m.p.high=e.m.p.high∧g.m.p.wide=e.m.p.wide∧g.m.p.rule=e.m.p.rule∧g.m.p.top=e.m.p.top∧g.m.p.least=e.m.p.least∧g.m.p.part=e.m.p.part∧zD g.m.s=zD e.m.s∧zY g.m.used=zY e.m.used∧AObj.fro 1 (iE g.m.p.months)=AObj.fro 1 (iE e.m.p.months)∧AObj.fro 1 (iE g.m.p.settle)=AObj.fro 1 (iE e.m.p.settle)∧(tF g)∧∀(h:Unit),True→∃(j:MsI),j.r.kind=3∧j.r.id=i.c.id∧j.r.inst=i.c.inst∧j.r.side=i.c.side∧j.r.price=i.x.price∧j.r.qty=i.x.qty∧j.r.left=i.left∧j.r.why=0∧j.near=(xP g).fst∧j.far=(xP g).snd∧sb j.m.p.code=sb g.m.p.code∧j.m.p.tick=g.m.p.tick∧j.m.p.low=g.m.p.low∧j.m.p.high=g.m.p.high∧j.m.p.wide=g.m.p.wide∧j.m.p.rule=g.m.p.rule∧j.m.p.top=g.m.p.top∧j.m.p.least=g.m.p.least∧j.m.p.part=g.m.p.part∧zD j.m.s=zD g.m.s∧zY j.m.used=zY g.m.used∧AObj.fro 1 (iE j.m.p.months)=AObj.fro 1 (iE g.m.p.months)∧AObj.fro 1 (iE j.m.p.settle)=AObj.fro 1 (iE g.m.p.settle)∧(tC j)∧∀(k:Unit),True→True∧((List.map xL (i.out d)++[[dI 3,dI i.c.id,dI i.c.inst,dI i.c.side,dI i.x.price,dI i.x.qty,dI i.left,dI 0]]).length+2)*(64:Nat)≤(140737488355328:Nat)∧∃(l:Unit),sb i.m.p.code=sb j.m.p.code∧i.m.p.tick=j.m.p.tick∧i.m.p.low=j.m.p.low∧i.m.p.high=j.m.p.high∧i.m.p.wide=j.m.p.wide∧i.m.p.rule=j.m.p.rule∧i.m.p.top=j.m.p.top∧i.m.p.least=j.m.p.least∧i.m.p.part=j.m.p.part∧zD i.m.s=zD j.m.s∧zY i.m.used=zY j.m.used∧AObj.fro 1 (iE i.m.p.months)=AObj.fro 1 (iE j.m.p.months)∧AObj.fro 1 (iE i.m.p.settle)=AObj.fro 1 (iE j.m.p.settle)∧List.map xL (bK i.m.p i.c i.x i.left)=List.map xL (i.out d)++[[dI 3,dI i.c.id,dI i.c.inst,dI i.c.side,dI i.x.price,dI i.x.qty,dI i.left,dI 0]]++[xL (uM j),xL (uF j)]∧True) (∃(g:Unit),sb i.m.p.code=sb e.m.p.code∧i.m.p.tick=e.m.p.tick∧i.m.p.low=e.m.p.low∧i.m.p.high=e.m.p.high∧i.m.p.wide=e.m.p.wide∧i.m.p.rule=e.m.p.rule∧i.m.p.top=e.m.p.top∧i.m.p.least=e.m.p.least∧i.m.p.part=e.m.p.part∧zD i.m.s=zD e.m.s∧zY i.m.used=zY e.m.used∧AObj.fro 1 (iE i.m.p.months)=AObj.fro 1 (iE e.m.p.months)∧AObj.fro 1 (iE i.m.p.settle)=AObj.fro 1 (iE e.m.p.settle)∧List.map xL (bK i.m.p i.c i.x i.left)=List.map xL (i.out d)++[[dI 3,dI i.c.id,dI i.c.inst,dI i.c.side,dI i.x.price,dI i.x.qty,dI i.left,dI 0]]∧True))
set_option linter.unusedSimpArgs false
open Go Cv Go.Proofs
theorem zUb:rejC.ok Tryz.prog 58:=okw (V:=yNc) mixed gok0 0 (fun _=>[]) (fun _=>[]) [] Tryz.func58 fun(i:RjI) _=>⟨(),rfl,trivial⟩
theorem z1y (i:MsI) (h:mspreadC.cnd i):zQd i:=by
 obtain⟨⟨hc,hp⟩,hs⟩:i.m.fine∧(i.r.side=1∨i.r.side=2):=h
 have hw:IntKind.i64.wrap (3-i.r.side)=3-i.r.side:=w64 (by omega)
 unfold zQd nY uM uF wC jI jK dI
 rw[hw]
 refine⟨⟨i.m.p,i.r.inst⟩,rfl,rfl,rfl,rfl,rfl,rfl,rfl,rfl,rfl,rfl,rfl,rfl,hp,fun _ _=> ?_⟩
 exact kp
theorem zTb:mspreadC.ok Tryz.prog 193:=okw mixed (gokc pI gok0) 0 (fun _=>[]) (fun _=>[]) [] Tryz.func193 z1y
theorem yJe:misC.ok Tryz.prog 191:=okw (V:=yOm) mixed (gokc pI gok0) 0 (fun _=>[]) (fun _=>[]) [] Tryz.func191 fun(i:MiN) h=>by
 obtain⟨hc,hp⟩:i.m.fine:=h
 exact⟨⟨i.m.p,i.inst⟩,rfl,rfl,rfl,rfl,rfl,rfl,rfl,rfl,rfl,rfl,rfl,rfl,hp,fun _ _=>kp⟩
theorem yLx {l:List gV} {k:Nat} {f:gV} (h:l[k]? =some f):zF (l.map yL) k 0 6=some [D.v (.int .i64 f.id),D.v (.int .i64 f.inst),D.v (.int .i64 f.side),D.v (.int .i64 f.price),D.v (.int .i64 f.qty),D.v (.int .i64 f.left)]:=elA h (by simp[yL]) rfl
theorem vof (i:OfI) (h:ofC.cnd i):Vof i:=by
 have hl:i.x.fills.length≤1000000:=h
 have e4:(i.x.fills.map yL).length=i.x.fills.length:=yOs ..
 unfold Vof zNt dI
 refine⟨0,rfl,fun j=>j≤i.x.fills.length∧(i.x.fills.take j).find? (fun f=>decide (f.inst=i.k))=none,fun j=>i.x.fills.length-j,⟨yQn _,rfl⟩,?_⟩
 rintro j ⟨j1,j2⟩
 refine zI (fun c=> ?_) (fun c=> ?_)
 ·obtain⟨f,hf⟩:=z8 (l:=i.x.fills) (i:=j) (by omega)
  refine⟨⟨by omega,by omega⟩,_,_,_,_,_,_,yLx hf,Cv.cnd.mk (fun g=>⟨(),?_,by(repeat'(first|exact trivial|exact rfl|apply And.intro))⟩) (fun g=>⟨j+1,wjn (by omega),⟨by omega,?_⟩,by dsimp only;omega,by(repeat'(first|exact trivial|exact rfl|apply And.intro))⟩)⟩
  ·have g:f.inst=i.k:=by simpa using g
   have e:i.x.fills.find? (fun f=>decide (f.inst=i.k))=some f:=by
    rw[← yQu j i.x.fills,List.find?_append,j2,yRh (by omega),(yOt.1 hf).2,List.find?_cons_of_pos (by simpa using g)]
    rfl
   rw[ofF,e]
  ·have g:¬f.inst=i.k:=by simpa using g
   rw[yQb,hf,List.find?_append,j2]
   simp[g]
 ·have:j=i.x.fills.length:=by omega
  rw[this,yPf (yPy _)]at j2
  exact⟨(),by rw[ofF,j2],by(repeat'(first|exact trivial|exact rfl|apply And.intro))⟩
theorem yMr:ofC.ok Tryz.prog 223:=okw mixed gok0 0 (fun _=>[]) (fun _=>ofA) [] Tryz.func223 vof
theorem z6p (i:MpI) (h:mpricesC.cnd i):zQr i:=by
 obtain⟨⟨hc,hp⟩,hpr,hl⟩:i.m.fine∧i64r i.x.price∧i.x.fills.length≤1000000:=h
 unfold zQr nM xP yO jK
 refine Cv.cnd.mk (fun e=> ?_) (fun e=> ?_)
 ·have e:i.x.implied=false:=by simpa using e
  have h0:kX i.m.p i.inst i.x=((uC i.m.p i.inst i.x.price).1,(uC i.m.p i.inst i.x.price).2.1):=by rw[kX,yOu e]
  rw[h0]
  exact⟨⟨i.m.p,i.inst,i.x.price⟩,rfl,rfl,rfl,rfl,rfl,rfl,rfl,rfl,rfl,rfl,rfl,rfl,rfl,⟨hc,hp,hpr⟩,fun _ _=>kp⟩
 ·have e:¬i.x.implied=false:=by simpa using e
  have h0:kX i.m.p i.inst i.x=(ofF i.x (i.m.p.legs i.inst).1,ofF i.x (i.m.p.legs i.inst).2.1):=by rw[kX,yOr e]
  rw[h0]
  exact⟨⟨i.m.p,i.inst⟩,rfl,rfl,rfl,rfl,rfl,rfl,rfl,rfl,rfl,rfl,rfl,rfl,hp,fun _ _=>⟨⟨i.x,(i.m.p.legs i.inst).1⟩,rfl,rfl,rfl,rfl,rfl,hl,fun _ _=>⟨⟨i.x,(i.m.p.legs i.inst).2.1⟩,rfl,rfl,rfl,rfl,rfl,hl,fun _ _=>kp⟩⟩⟩
theorem zTj:mpricesC.ok Tryz.prog 192:=okw mixed (gokc pI (gokc zUw (gokc yMr gok0))) 0 (fun _=>[]) (fun _=>[]) [] Tryz.func192 z6p
theorem zFb (p:Prd) (x:kT) (r:Rep):(mU p x r).length≤3:=by
 rw[mU,yOy]
 split
 ·rw[zEe];simp
 ·simp
theorem zWk {p:Prd} {x:kT} {r:Rep} (h:(p.legs r.inst).2.2=false):mU p x r=[r]:=by
 rw[mU,yOr (by rw[h];decide)]
theorem zPd {p:Prd} {x:kT} {r:Rep} (h:(p.legs r.inst).2.2=true):mU p x r=r::zEe p r (kX p r.inst x).1 (kX p r.inst x).2:=by
 rw[mU,yOu h]
theorem StI'.out_len (i:StI'):∀j,(i.out j).length≤3*j
 |0=>yPy _
 |j+1=>by
  have ih:=StI'.out_len i j
  rw[StI'.out]at ih ⊢
  rw[yQb,yQl,yOw]
  cases e:i.x.fills[j]? with
  |none=>simp only[Option.toList_none,yTk,yRi];omega
  |some f=>
   have:=zFb i.m.p i.x (lH f)
   simp only[yRy,yQh,yTk,yPp]
   omega
theorem StI'.out_succ (i:StI') {j:Nat} {f:gV} (h:i.x.fills[j]? =some f):i.out (j+1)=i.out j++mU i.m.p i.x (lH f):=by
 rw[StI'.out,StI'.out,yQb,yQl,h]
 simp
theorem yFy (i:StI') (h:mstepC.cnd i):z1v i:=by
 obtain⟨hf,hpr,hl,hcs,hfs⟩:i.m.fine∧i64r i.x.price∧i.x.fills.length≤1000000∧(i.c.side=1∨i.c.side=2)∧∀f∈i.x.fills,f.side=1∨f.side=2:=h
 have e4:(i.x.fills.map yL).length=i.x.fills.length:=yOs ..
 unfold z1v dF sM tC tF uM uF xP dI
 refine⟨0,rfl,rfl,fun j=>j≤i.x.fills.length,fun j=>i.x.fills.length-j,yQn _,?_⟩
 intro j hj
 have ho:=i.out_len j
 have e5:((i.out j).map xL).length=(i.out j).length:=yOs ..
 refine zI (fun c=> ?_) (fun c=> ?_)
 ·obtain⟨f,hfj⟩:=z8 (l:=i.x.fills) (i:=j) (by omega)
  have hos:=i.out_succ hfj
  have hfj2:=hfs f (yPe hfj)
  refine⟨⟨by omega,by omega⟩,_,_,_,_,_,_,yLx hfj,by omega,⟨i.m,f.inst⟩,rfl,rfl,rfl,rfl,rfl,rfl,rfl,rfl,rfl,rfl,rfl,rfl,rfl,rfl,hf,fun _ _=>Cv.cnd.mk (fun e=> ?_) (fun e=> ?_)⟩
  ·have e:(i.m.p.legs (lH f).inst).2.2=true:=e
   rw[zPd e]at hos
   refine⟨⟨i.m,f.inst,i.x⟩,rfl,rfl,rfl,rfl,rfl,rfl,rfl,rfl,rfl,rfl,rfl,rfl,rfl,rfl,rfl,rfl,rfl,rfl,⟨hf,hpr,hl⟩,fun _ _=>⟨⟨i.m,lH f,(kX i.m.p f.inst i.x).1,(kX i.m.p f.inst i.x).2⟩,rfl,rfl,rfl,rfl,rfl,rfl,rfl,rfl,rfl,rfl,rfl,rfl,rfl,rfl,rfl,rfl,rfl,rfl,rfl,rfl,rfl,rfl,rfl,⟨hf,hfj2⟩,fun _ _=>⟨trivial,by rw[yOw,e5];simp only[yOy,yRi];omega,j+1,wjn (by omega),?_,by omega,by dsimp only;omega,by(repeat'(first|exact trivial|exact rfl|apply And.intro))⟩⟩⟩
   rw[hos,yPc,yPb]
   rfl
  ·have e:(i.m.p.legs (lH f).inst).2.2=false:=e
   rw[zWk e]at hos
   refine⟨j+1,wjn (by omega),?_,by omega,by dsimp only;omega,by(repeat'(first|exact trivial|exact rfl|apply And.intro))⟩
   rw[hos,yPc];rfl
 ·have hj:j=i.x.fills.length:=by omega
  have ho2:i.x.fills.flatMap (fun f=>mU i.m.p i.x (lH f))=i.out j:=by rw[StI'.out,hj,yPf (yPy _)]
  have hR:bK i.m.p i.c i.x i.left=i.out j++mU i.m.p i.x ⟨3,i.c.id,i.c.inst,i.c.side,i.x.price,i.x.qty,i.left,0⟩:=by rw[bK,ho2]
  refine⟨by omega,⟨i.m,i.c.inst⟩,rfl,rfl,rfl,rfl,rfl,rfl,rfl,rfl,rfl,rfl,rfl,rfl,rfl,rfl,hf,fun _ _=>Cv.cnd.mk (fun e=> ?_) (fun e=> ?_)⟩
  ·have e:(i.m.p.legs (⟨3,i.c.id,i.c.inst,i.c.side,i.x.price,i.x.qty,i.left,0⟩:Rep).inst).2.2=true:=e
   rw[zPd e]at hR
   refine⟨⟨i.m,i.c.inst,i.x⟩,rfl,rfl,rfl,rfl,rfl,rfl,rfl,rfl,rfl,rfl,rfl,rfl,rfl,rfl,rfl,rfl,rfl,rfl,⟨hf,hpr,hl⟩,fun _ _=>⟨⟨i.m,⟨3,i.c.id,i.c.inst,i.c.side,i.x.price,i.x.qty,i.left,0⟩,(kX i.m.p i.c.inst i.x).1,(kX i.m.p i.c.inst i.x).2⟩,rfl,rfl,rfl,rfl,rfl,rfl,rfl,rfl,rfl,rfl,rfl,rfl,rfl,rfl,rfl,rfl,rfl,rfl,rfl,rfl,rfl,rfl,rfl,⟨hf,hcs⟩,fun _ _=>⟨trivial,by rw[yOw,e5];simp only[yOy,yRi];omega,?_⟩⟩⟩
   rw[hR,yPc,yPb]
   exact kp
  ·have e:(i.m.p.legs (⟨3,i.c.id,i.c.inst,i.c.side,i.x.price,i.x.qty,i.left,0⟩:Rep).inst).2.2=false:=e
   rw[zWk e]at hR
   rw[hR,yPc]
   exact kp
theorem z4l:mstepC.ok Tryz.prog 155:=okw mixed (gokc yJe (gokc zTj (gokc zTb gok0))) 1 (fun _=>[]) (fun i=>yIa i) [] Tryz.func155 yFy
open Go Cv Go.Proofs
structure EnI where
 m:Mkt
 p:Prd
 B:List (List zG)
 U:List Int
 c:Cmd
 X:MkX
@[reducible] def EnI.std (i:EnI):Prop:=i.m.Rep i.p i.B i.U∧BOk i.p i.B
@[reducible] def EnI.good (i:EnI):Prop:=(0≤i.c.inst∧i.c.inst<i.B.length)∧(1≤i.c.qty∧i.c.qty≤1000000)∧(i.c.side=1∨i.c.side=2)
@[reducible] def zPz (X:MkX) (p:Prd):Alt:={o:=Mkt,res:=fun _=> .own 5,post:=fun o=>eT o++[zUp X.R],rel:=fun o=>o.Rep p X.B X.U}
def enterC:Con where
 ι:=EnI
 pat:=fun i=>[.nm 0 0,zPv i.c]
 pre:=fun i=>eT i.m
 cnd:=fun i=>i.std∧i.good∧i.p.price i.c.inst i.c.price=0∧i.X=cJ i.p i.B i.U i.c
 alts:=fun i=>[zPz i.X i.p]
structure EnJ where
 left:Int
 k:Nat
 out:List Rep
def yEt (i:EnI):List SAnn:=[{ι:=EnJ,slots:=fun j=>[(5,.own 0),(8,zA j.left),(51,zA j.k)],rows:=fun j=>[zUp j.out]}]
def orderC:Con where
 ι:=EnI
 pat:=fun i=>[.nm 0 0,zPv i.c]
 pre:=fun i=>eT i.m
 cnd:=fun i=>i.std∧i.c.right=0∧i.c.kind=1∧i.X=nW i.p i.B i.U i.c
 alts:=fun i=>[zPz i.X i.p]
def yFt:List (Nat×SAnn):=[(22,ij 6),(44,bj 47),(52,bj 69)]
structure CaI where
 m:Mkt
 p:Prd
 B:List (List zG)
 U:List Int
 id:Int
 q:Int
 inst:Int
 o:zG
 X:MkX
@[reducible] def CaI.std (i:CaI):Prop:=i.m.Rep i.p i.B i.U∧BOk i.p i.B
def cancelC:Con where
 ι:=CaI
 pat:=fun i=>[.nm 0 0,zA i.id,zA i.inst,z0m i.o]
 pre:=fun i=>eT i.m
 cnd:=fun i=>i.std∧i.X=cH i.B i.U i.id i.inst i.o
 alts:=fun i=>[zPz i.X i.p]
def reduceC:Con where
 ι:=CaI
 pat:=fun i=>[.nm 0 0,zA i.id,zA i.q,zA i.inst,z0m i.o]
 pre:=fun i=>eT i.m
 cnd:=fun i=>i.std∧i64r (i.o.qty-i.q)∧i.X=lN i.B i.U i.id i.q i.inst i.o
 alts:=fun i=>[zPz i.X i.p]
structure z0x where
 m:Mkt
 p:Prd
 B:List (List zG)
 U:List Int
 c:Cmd
 inst:Int
 o:zG
 X:MkX
def replaceC:Con where
 ι:=z0x
 pat:=fun i=>[.nm 0 0,zPv i.c,zA i.inst,z0m i.o]
 pre:=fun i=>eT i.m
 cnd:=fun i=>i.m.Rep i.p i.B i.U∧BOk i.p i.B∧z9 i.B i.c.id=(i.inst,i.o,true)∧(1≤i.c.qty∧i.c.qty≤1000000)∧i.X=dK i.p i.B i.U i.c i.inst i.o
 alts:=fun i=>[zPz i.X i.p]
def doC:Con where
 ι:=EnI
 pat:=fun i=>[.nm 0 0,zPv i.c]
 pre:=fun i=>[nA i.m]
 cnd:=fun i=>i.std∧i.c.label.length≤140737488355328∧i64r i.c.qty∧i.X=doF i.p i.B i.U i.c
 alts:=fun i=>[{o:=Mkt,res:=fun _=> .own 1,post:=fun o=>[nA o,zUp i.X.R],rel:=fun o=>o.Rep i.p i.X.B i.X.U}]
structure MfI where
 m:Mkt
 p:Prd
 B:List (List zG)
 U:List Int
 id:Int
def mcountC:Con:=con1 MfI (fun i=>[.nm 0 0]) (fun i=>[nA i.m]) (fun i=>i.m.Rep i.p i.B i.U∧BOk i.p i.B) (fun i=>zA (zNx i.B)) (fun i=>[nA i.m])
open Go Cv Go.Proofs
def tR (a:Mkt) (b:EnI) (c:EnJ):Prop:=zY a.used=uD (Value.int IntKind.i64 b.c.id) [D.v (.bool true)] (zY b.m.used)∧AObj.fro 1 (iE a.p.months)=yR b.m 3∧AObj.fro 1 (iE a.p.settle)=yR b.m 4∧List.map xL b.X.R=List.map xL c.out∧a.Rep b.p b.X.B b.X.U
def j5 (a:EnI):=(D.v (Value.string (sb a.c.label)))
def z7w (i:EnI):Prop:=
 (∀(a:Value×List D),a∈zY i.m.used→like (Value.int IntKind.i64 i.c.id) a.fst=true)∧∃(a:RunI),a.inst=i.c.inst∧zC a.sd=i.c.side∧a.price=i.c.price∧a.q=i.c.qty∧zD a.s=yR i.m 1∧(xQ a)∧∀(b:MSt),b.Rep a.p a.r.B→∃(c:EnJ),c.left=i.c.qty∧(↑c.k:Int)=0∧List.map xL c.out=[[dI 1,dI i.c.id,dI i.c.inst,dI i.c.side,dI i.c.price,dI i.c.qty,dI i.c.qty,dI 0]]∧∃(d:EnJ→Prop),∃(e:EnJ→Nat),d c∧∀(f:EnJ),d f→cnd (decide ((↑f.k:Int)<(↑(List.map kE a.r.steps).length:Int))) ((0≤(↑f.k:Int)∧(↑f.k:Int)<(↑(List.map kE a.r.steps).length:Int))∧∃(g:Int),∃(h:Int),∃(j:Bool),∃(k:List (List D)),zF (List.map kE a.r.steps) (↑f.k:Int).toNat 0 4=some [dI g,dI h,D.v (.bool j),D.ro 6 k]∧∃(l:StI'),l.c.kind=i.c.kind∧l.c.id=i.c.id∧l.c.inst=i.c.inst∧l.c.side=i.c.side∧l.c.price=i.c.price∧l.c.qty=i.c.qty∧l.c.least=i.c.least∧l.c.time=i.c.time∧sb l.c.label=sb i.c.label∧l.x.price=g∧l.x.qty=h∧l.x.implied=j∧List.map yL l.x.fills=k∧l.left=IntKind.i64.wrap (f.left-h)∧sb l.m.p.code=sb i.m.p.code∧l.m.p.tick=i.m.p.tick∧l.m.p.low=i.m.p.low∧l.m.p.high=i.m.p.high∧l.m.p.wide=i.m.p.wide∧l.m.p.rule=i.m.p.rule∧l.m.p.top=i.m.p.top∧l.m.p.least=i.m.p.least∧l.m.p.part=i.m.p.part∧zD l.m.s=zD b∧zY l.m.used=uD (Value.int IntKind.i64 i.c.id) [D.v (.bool true)] (zY i.m.used)∧AObj.fro 1 (iE l.m.p.months)=yR i.m 3∧AObj.fro 1 (iE l.m.p.settle)=yR i.m 4∧((l.m.p.check=0∧l.m.p.code.length≤1099511627776∧l.m.p.months.length≤1099511627776∧l.m.p.settle.length≤1099511627776)∧((-9223372036854775808)≤l.x.price∧l.x.price≤9223372036854775807)∧l.x.fills.length≤1000000∧(l.c.side=1∨l.c.side=2)∧∀(m:gV),m∈l.x.fills→m.side=1∨m.side=2)∧∀(m:Unit),True→((List.map xL f.out).length+(List.map xL (bK l.m.p l.c l.x l.left)).length)*(64:Nat)≤(140737488355328:Nat)∧∃(n:EnJ),n.left=IntKind.i64.wrap (f.left-h)∧(↑n.k:Int)=IntKind.i64.wrap ((↑f.k:Int)+1)∧List.map xL n.out=List.map xL f.out++List.map xL (bK l.m.p l.c l.x l.left)∧d n∧e n<e f∧zD l.m.s=zD b∧AObj.own 260 4 (List.map kE a.r.steps)=AObj.own 260 4 (List.map kE a.r.steps)∧Sx.AObj.cells [V.d (dI i.c.kind),V.d (dI i.c.id),V.d (dI i.c.inst),V.d (dI i.c.side),V.d (dI i.c.price),V.d (dI i.c.qty),V.d (dI i.c.least),V.d (dI i.c.time),V.d (j5 i)] 36=Sx.AObj.cells [V.d (dI i.c.kind),V.d (dI i.c.id),V.d (dI i.c.inst),V.d (dI i.c.side),V.d (dI i.c.price),V.d (dI i.c.qty),V.d (dI i.c.least),V.d (dI i.c.time),V.d (j5 i)] 36∧Sx.AObj.cells (wT (dO 5 ((5:Nat)+(1:Nat)+1+((2:Nat)-(1:Nat))+(1:Nat)+(1:Nat)+1) ((6:Nat)-(5:Nat)) [((2:Nat),(2:Nat)),((1:Nat),(1:Nat)),((4:Nat),(4:Nat)),((3:Nat),(3:Nat)),((0:Nat),(0:Nat))]) [sV l.m.p.code,V.own 3,zA l.m.p.tick,zA l.m.p.low,zA l.m.p.high,zA l.m.p.wide,zA l.m.p.rule,zA l.m.p.top,zA l.m.p.least,zA l.m.p.part,V.own 4,V.nm 1 0,V.mp 2]) (121:TypeId)=yR i.m 0∧Sx.AObj.map (zY l.m.used)=Sx.AObj.map (uD (Value.int IntKind.i64 i.c.id) [D.v (.bool true)] (zY i.m.used))∧AObj.fro 1 (iE l.m.p.months)=yR i.m 3∧AObj.fro 1 (iE l.m.p.settle)=yR i.m 4) (cnd (a.r.left==0) (∃(g:Mkt),sb g.p.code=sb i.m.p.code∧g.p.tick=i.m.p.tick∧g.p.low=i.m.p.low∧g.p.high=i.m.p.high∧g.p.wide=i.m.p.wide∧g.p.rule=i.m.p.rule∧g.p.top=i.m.p.top∧g.p.least=i.m.p.least∧g.p.part=i.m.p.part∧zD g.s=zD b∧tR g i f) (cnd (i.c.time==1) (∃(g:SaI),g.inst=i.c.inst∧g.id=i.c.id∧zC g.sd=i.c.side∧g.price=i.c.price∧g.qty=a.r.left∧zD g.s=zD b∧((g.s.p.code.length≤1099511627776∧g.s.p.months.length≤1099511627776∧g.s.p.settle.length≤1099511627776)∧g.s.books.length≤1000000∧∀(h:Book),h∈g.s.books→(h.a.slots.length≤1000000∧(h.a.free≠0→∃(j:Slot),j∈h.a.slots∧j.used=false)∧∀(j:gM),j∈h.a.queues→j.last=(-1)∨0≤j.last∧j.last<(↑h.a.slots.length:Int))∧h.a.queues.length≤100000∧h.buys.length≤100000∧h.sells.length≤100000∧h.spare.length≤100000)∧∀(h:Unit),True→∃(j:Mkt),sb j.p.code=sb i.m.p.code∧j.p.tick=i.m.p.tick∧j.p.low=i.m.p.low∧j.p.high=i.m.p.high∧j.p.wide=i.m.p.wide∧j.p.rule=i.m.p.rule∧j.p.top=i.m.p.top∧j.p.least=i.m.p.least∧j.p.part=i.m.p.part∧zD j.s=zD (MSt.addF g).fst∧tR j i f) (((List.map xL f.out).length+1)*(64:Nat)≤(140737488355328:Nat)∧∃(g:Mkt),sb g.p.code=sb i.m.p.code∧g.p.tick=i.m.p.tick∧g.p.low=i.m.p.low∧g.p.high=i.m.p.high∧g.p.wide=i.m.p.wide∧g.p.rule=i.m.p.rule∧g.p.top=i.m.p.top∧g.p.least=i.m.p.least∧g.p.part=i.m.p.part∧zD g.s=zD b∧zY g.used=uD (Value.int IntKind.i64 i.c.id) [D.v (.bool true)] (zY i.m.used)∧AObj.fro 1 (iE g.p.months)=yR i.m 3∧AObj.fro 1 (iE g.p.settle)=yR i.m 4∧List.map xL i.X.R=List.map xL f.out++[[dI 4,dI i.c.id,dI i.c.inst,dI i.c.side,dI i.c.price,dI a.r.left,dI 0,dI 0]]∧g.Rep i.p i.X.B i.X.U)))
def zAz (a:EnI):Prop:=Sx.AObj.cells [V.d (dI a.c.kind),V.d (dI a.c.id),V.d (dI a.c.inst),V.d (dI a.c.side),V.d (dI a.c.price),V.d (dI a.c.qty),V.d (dI a.c.least),V.d (dI a.c.time),V.d (j5 a)] 36=Sx.AObj.cells [V.d (dI a.c.kind),V.d (dI a.c.id),V.d (dI a.c.inst),V.d (dI a.c.side),V.d (dI a.c.price),V.d (dI a.c.qty),V.d (dI a.c.least),V.d (dI a.c.time),V.d (j5 a)] 36∧yR a.m 0=yR a.m 0∧yR a.m 2=yR a.m 2∧yR a.m 3=yR a.m 3∧yR a.m 4=yR a.m 4
def zBj (a:Bool→Prop) (b:SoI) (c:EnI):Prop:=∃(d:Bool),d=false∧a d∧zD b.s=zD b.s∧zAz c
def zCg (a:Int→Prop) (b:Int) (c:EnI):Prop:=a b∧Sx.AObj.cells [V.d (dI c.c.kind),V.d (dI c.c.id),V.d (dI c.c.inst),V.d (dI c.c.side),V.d (dI c.c.price),V.d (dI c.c.qty),V.d (dI c.c.least),V.d (dI c.c.time),V.d (j5 c)] 36=Sx.AObj.cells [V.d (dI c.c.kind),V.d (dI c.c.id),V.d (dI c.c.inst),V.d (dI c.c.side),V.d (dI c.c.price),V.d (dI c.c.qty),V.d (dI c.c.least),V.d (dI c.c.time),V.d (j5 c)] 36∧yR c.m 0=yR c.m 0∧yR c.m 1=yR c.m 1∧yR c.m 2=yR c.m 2∧yR c.m 3=yR c.m 3∧yR c.m 4=yR c.m 4
def zAg (a:Bool→Prop) (b:Bool) (c:RunI) (d:SoI) (e:EnI):Prop:=a b∧zD c.s=zD d.s∧zAz e
def sR (a:Mkt) (b:EnI) (c:RjI):Prop:=zY a.used=zY b.m.used∧AObj.fro 1 (iE a.p.months)=yR b.m 3∧AObj.fro 1 (iE a.p.settle)=yR b.m 4∧List.map xL b.X.R=[xL (Rep.mk 2 c.c.id 0 0 0 0 0 c.why)]∧a.Rep b.p b.X.B b.X.U
def zAu (a:EnI) (b:RjI):Prop:=True∧∀(c:Unit),True→∃(d:Mkt),sb d.p.code=sb a.m.p.code∧d.p.tick=a.m.p.tick∧d.p.low=a.m.p.low∧d.p.high=a.m.p.high∧d.p.wide=a.m.p.wide∧d.p.rule=a.m.p.rule∧d.p.top=a.m.p.top∧d.p.least=a.m.p.least∧d.p.part=a.m.p.part∧zD d.s=yR a.m 1∧sR d a b
def rA (a:EnI) (b:SoI) (c:RjI):Prop:=True∧∀(d:Unit),True→∃(e:Mkt),sb e.p.code=sb a.m.p.code∧e.p.tick=a.m.p.tick∧e.p.low=a.m.p.low∧e.p.high=a.m.p.high∧e.p.wide=a.m.p.wide∧e.p.rule=a.m.p.rule∧e.p.top=a.m.p.top∧e.p.least=a.m.p.least∧e.p.part=a.m.p.part∧zD e.s=zD b.s∧sR e a c
def pV (a:EnI) (b:EnI):Prop:=∀(c:Mkt),c.Rep a.p a.X.B a.X.U→∃(d:Mkt),sb d.p.code=sb c.p.code∧d.p.tick=c.p.tick∧d.p.low=c.p.low∧d.p.high=c.p.high∧d.p.wide=c.p.wide∧d.p.rule=c.p.rule∧d.p.top=c.p.top∧d.p.least=c.p.least∧d.p.part=c.p.part∧zD d.s=zD c.s∧zY d.used=zY c.used∧AObj.fro 1 (iE d.p.months)=AObj.fro 1 (iE c.p.months)∧AObj.fro 1 (iE d.p.settle)=AObj.fro 1 (iE c.p.settle)∧List.map xL b.X.R=List.map xL a.X.R∧d.Rep b.p b.X.B b.X.U
def mD (a:EnI):Prop:=(a.m.Rep a.p a.B a.U∧BOk a.p a.B)∧((0≤a.c.inst∧a.c.inst<(↑a.B.length:Int))∧(1≤a.c.qty∧a.c.qty≤1000000)∧(a.c.side=1∨a.c.side=2))∧a.p.price a.c.inst a.c.price=0∧a.X=cJ a.p a.B a.U a.c
def z8g (i:EnI):Prop:=
 ∃(a:mY),sb a.p.code=sb i.m.p.code∧iE a.p.months=iE i.m.p.months∧a.p.tick=i.m.p.tick∧a.p.low=i.m.p.low∧a.p.high=i.m.p.high∧a.p.wide=i.m.p.wide∧a.p.rule=i.m.p.rule∧a.p.top=i.m.p.top∧a.p.least=i.m.p.least∧a.p.part=i.m.p.part∧iE a.p.settle=iE i.m.p.settle∧a.a=i.c.inst∧a.b=i.c.price∧(xH a)∧∀(b:Unit),True→cnd (a.p.price a.a a.b !=0) (∃(c:RjI),c.c.kind=i.c.kind∧c.c.id=i.c.id∧c.c.inst=i.c.inst∧c.c.side=i.c.side∧c.c.price=i.c.price∧c.c.qty=i.c.qty∧c.c.least=i.c.least∧c.c.time=i.c.time∧sb c.c.label=sb i.c.label∧c.why=a.p.price a.a a.b∧zAu i c) (∃(c:Int),∃(d:Int→Prop),cnd (i.c.time==3) (∃(e:Int),e=i.c.qty∧zCg d e i) (∃(e:Int),e=i.c.least∧zCg d e i)∧∀(e:Int),d e→(∀(f:Value×List D),f∈zY i.m.used→like (Value.int IntKind.i64 i.c.id) f.fst=true)∧∃(f:Bool),∃(g:Bool),(wF (Value.int IntKind.i64 i.c.id) (zY i.m.used)=some [D.v (.bool g)]∧f=true∨wF (Value.int IntKind.i64 i.c.id) (zY i.m.used)=none∧[D.v (.bool g)]=[D.v (.bool false)]∧f=false)∧cnd g (∃(h:RjI),h.c.kind=i.c.kind∧h.c.id=i.c.id∧h.c.inst=i.c.inst∧h.c.side=i.c.side∧h.c.price=i.c.price∧h.c.qty=i.c.qty∧h.c.least=i.c.least∧h.c.time=i.c.time∧sb h.c.label=sb i.c.label∧h.why=25∧zAu i h) (∃(h:SoI),zD h.s=yR i.m 1∧(h.s.Rep h.p h.B∧h.B.length≤1000)∧∀(j:Unit),True→cnd (decide ((↑(zNx h.B):Int)≥250)) (∃(k:RjI),k.c.kind=i.c.kind∧k.c.id=i.c.id∧k.c.inst=i.c.inst∧k.c.side=i.c.side∧k.c.price=i.c.price∧k.c.qty=i.c.qty∧k.c.least=i.c.least∧k.c.time=i.c.time∧sb k.c.label=sb i.c.label∧k.why=13∧rA i h k) (∃(k:Bool),∃(l:Bool→Prop),cnd (decide (e>0)) (∃(m:RunI),m.inst=i.c.inst∧zC m.sd=i.c.side∧m.price=i.c.price∧m.q=i.c.qty∧zD m.s=zD h.s∧(xQ m)∧∀(n:Unit),True→∃(p:Bool),p=decide (m.q-m.r.left<e)∧zAg l p m h i) (zBj l h i)∧∀(m:Bool),l m→cnd m (∃(n:RjI),n.c.kind=i.c.kind∧n.c.id=i.c.id∧n.c.inst=i.c.inst∧n.c.side=i.c.side∧n.c.price=i.c.price∧n.c.qty=i.c.qty∧n.c.least=i.c.least∧n.c.time=i.c.time∧sb n.c.label=sb i.c.label∧n.why=28∧rA i h n) (∃(n:Bool),∃(p:Bool→Prop),cnd (i.c.time==1) (∃(q:RunI),q.inst=i.c.inst∧zC q.sd=i.c.side∧q.price=i.c.price∧q.q=i.c.qty∧zD q.s=zD h.s∧(xQ q)∧∀(r:Unit),True→∃(s:Bool),s=fW q.p q.B q.inst q.sd q.price q.q∧zAg p s q h i) (zBj p h i)∧∀(q:Bool),p q→cnd q (∃(r:RjI),r.c.kind=i.c.kind∧r.c.id=i.c.id∧r.c.inst=i.c.inst∧r.c.side=i.c.side∧r.c.price=i.c.price∧r.c.qty=i.c.qty∧r.c.least=i.c.least∧r.c.time=i.c.time∧sb r.c.label=sb i.c.label∧r.why=23∧rA i h r) (∃(r:EnI),r.c.kind=i.c.kind∧r.c.id=i.c.id∧r.c.inst=i.c.inst∧r.c.side=i.c.side∧r.c.price=i.c.price∧r.c.qty=i.c.qty∧r.c.least=i.c.least∧r.c.time=i.c.time∧sb r.c.label=sb i.c.label∧sb r.m.p.code=sb i.m.p.code∧r.m.p.tick=i.m.p.tick∧r.m.p.low=i.m.p.low∧r.m.p.high=i.m.p.high∧r.m.p.wide=i.m.p.wide∧r.m.p.rule=i.m.p.rule∧r.m.p.top=i.m.p.top∧r.m.p.least=i.m.p.least∧r.m.p.part=i.m.p.part∧zD r.m.s=zD h.s∧zY r.m.used=zY i.m.used∧AObj.fro 1 (iE r.m.p.months)=yR i.m 3∧AObj.fro 1 (iE r.m.p.settle)=yR i.m 4∧(mD r)∧pV r i)))))
def yCb (i:CaI):Prop:=
 ∃(i_1:StI),i_1.id=i.id∧i_1.q=i.o.qty∧zD i_1.s=yR i.m 1∧(i_1.s.Rep i_1.p i_1.B∧i_1.B.length≤1000)∧∀(o:MSt),o.Rep i_1.p (qC i_1.B i_1.id i_1.q).fst→∃(o_1:Mkt),sb o_1.p.code=sb i.m.p.code∧o_1.p.tick=i.m.p.tick∧o_1.p.low=i.m.p.low∧o_1.p.high=i.m.p.high∧o_1.p.wide=i.m.p.wide∧o_1.p.rule=i.m.p.rule∧o_1.p.top=i.m.p.top∧o_1.p.least=i.m.p.least∧o_1.p.part=i.m.p.part∧zD o_1.s=zD o∧zY o_1.used=zY i.m.used∧AObj.fro 1 (iE o_1.p.months)=yR i.m 3∧AObj.fro 1 (iE o_1.p.settle)=yR i.m 4∧List.map xL i.X.R=[[D.v (.int .i64 4),D.v (.int .i64 i.id),D.v (.int .i64 i.inst),D.v (.int .i64 i.o.side),D.v (.int .i64 i.o.price),D.v (.int .i64 i.o.qty),D.v (.int .i64 0),D.v (.int .i64 0)]]∧o_1.Rep i.p i.X.B i.X.U
def zVv (i:CaI):Prop:=
 ∃(a:StI),a.id=i.id∧a.q=i.q∧zD a.s=yR i.m 1∧(a.s.Rep a.p a.B∧a.B.length≤1000)∧∀(b:MSt),b.Rep a.p (qC a.B a.id a.q).fst→∃(c:Mkt),sb c.p.code=sb i.m.p.code∧c.p.tick=i.m.p.tick∧c.p.low=i.m.p.low∧c.p.high=i.m.p.high∧c.p.wide=i.m.p.wide∧c.p.rule=i.m.p.rule∧c.p.top=i.m.p.top∧c.p.least=i.m.p.least∧c.p.part=i.m.p.part∧zD c.s=zD b∧zY c.used=zY i.m.used∧AObj.fro 1 (iE c.p.months)=yR i.m 3∧AObj.fro 1 (iE c.p.settle)=yR i.m 4∧List.map xL i.X.R=[[dI 5,dI i.id,dI i.inst,dI i.o.side,dI i.o.price,dI i.q,dI (IntKind.i64.wrap (i.o.qty-i.q)),dI 0]]∧c.Rep i.p i.X.B i.X.U
def b8 (a:Mkt) (b:z0x) (c:RjI):Prop:=zY a.used=zY b.m.used∧AObj.fro 1 (iE a.p.months)=yR b.m 3∧AObj.fro 1 (iE a.p.settle)=yR b.m 4∧List.map xL b.X.R=[xL (Rep.mk 2 c.c.id 0 0 0 0 0 c.why)]∧a.Rep b.p b.X.B b.X.U
def tP (a:z0x):Prop:=∃(b:MSt),zD b=yR a.m 1∧(vW b)∧∀(c:Unit),True→∃(d:StI),d.id=a.c.id∧d.q=a.o.qty∧zD d.s=zD b∧(d.s.Rep d.p d.B∧d.B.length≤1000)∧∀(e:MSt),e.Rep d.p (qC d.B d.id d.q).fst→∃(f:RunI),f.inst=a.inst∧zC f.sd=a.o.side∧f.price=a.c.price∧f.q=a.c.qty∧zD f.s=zD e∧(xQ f)∧∀(g:Unit),True→cnd (fW f.p f.B f.inst f.sd f.price f.q) (∃(h:RjI),h.c.kind=a.c.kind∧h.c.id=a.c.id∧h.c.inst=a.c.inst∧h.c.side=a.c.side∧h.c.price=a.c.price∧h.c.qty=a.c.qty∧h.c.least=a.c.least∧h.c.time=a.c.time∧sb h.c.label=sb a.c.label∧h.why=23∧True∧∀(j:Unit),True→∃(k:Mkt),sb k.p.code=sb a.m.p.code∧k.p.tick=a.m.p.tick∧k.p.low=a.m.p.low∧k.p.high=a.m.p.high∧k.p.wide=a.m.p.wide∧k.p.rule=a.m.p.rule∧k.p.top=a.m.p.top∧k.p.least=a.m.p.least∧k.p.part=a.m.p.part∧zD k.s=zD b∧b8 k a h) (∃(h:CaI),h.id=a.c.id∧h.inst=a.inst∧h.o.id=a.o.id∧h.o.side=a.o.side∧h.o.price=a.o.price∧h.o.qty=a.o.qty∧h.o.top=a.o.top∧sb h.m.p.code=sb a.m.p.code∧h.m.p.tick=a.m.p.tick∧h.m.p.low=a.m.p.low∧h.m.p.high=a.m.p.high∧h.m.p.wide=a.m.p.wide∧h.m.p.rule=a.m.p.rule∧h.m.p.top=a.m.p.top∧h.m.p.least=a.m.p.least∧h.m.p.part=a.m.p.part∧zD h.m.s=zD b∧zY h.m.used=zY a.m.used∧AObj.fro 1 (iE h.m.p.months)=yR a.m 3∧AObj.fro 1 (iE h.m.p.settle)=yR a.m 4∧((h.m.Rep h.p h.B h.U∧BOk h.p h.B)∧h.X=cH h.B h.U h.id h.inst h.o)∧∀(j:Mkt),j.Rep h.p h.X.B h.X.U→∃(k:EnI),k.c.kind=1∧k.c.id=a.c.id∧k.c.inst=a.inst∧k.c.side=a.o.side∧k.c.price=a.c.price∧k.c.qty=a.c.qty∧k.c.least=0∧k.c.time=1∧sb k.c.label=ByteArray.mk #[]∧sb k.m.p.code=sb j.p.code∧k.m.p.tick=j.p.tick∧k.m.p.low=j.p.low∧k.m.p.high=j.p.high∧k.m.p.wide=j.p.wide∧k.m.p.rule=j.p.rule∧k.m.p.top=j.p.top∧k.m.p.least=j.p.least∧k.m.p.part=j.p.part∧zD k.m.s=zD j.s∧zY k.m.used=zY j.used∧AObj.fro 1 (iE k.m.p.months)=AObj.fro 1 (iE j.p.months)∧AObj.fro 1 (iE k.m.p.settle)=AObj.fro 1 (iE j.p.settle)∧(mD k)∧∀(l:Mkt),l.Rep k.p k.X.B k.X.U→((List.map xL h.X.R).length+(List.map xL k.X.R).length)*(64:Nat)≤(140737488355328:Nat)∧∃(m:Mkt),sb m.p.code=sb l.p.code∧m.p.tick=l.p.tick∧m.p.low=l.p.low∧m.p.high=l.p.high∧m.p.wide=l.p.wide∧m.p.rule=l.p.rule∧m.p.top=l.p.top∧m.p.least=l.p.least∧m.p.part=l.p.part∧zD m.s=zD l.s∧zY m.used=zY l.used∧AObj.fro 1 (iE m.p.months)=AObj.fro 1 (iE l.p.months)∧AObj.fro 1 (iE m.p.settle)=AObj.fro 1 (iE l.p.settle)∧List.map xL a.X.R=List.map xL h.X.R++List.map xL k.X.R∧m.Rep a.p a.X.B a.X.U)
def fC (a:CaI):Prop:=(a.m.Rep a.p a.B a.U∧BOk a.p a.B)∧((-9223372036854775808)≤a.o.qty-a.q∧a.o.qty-a.q≤9223372036854775807)∧a.X=lN a.B a.U a.id a.q a.inst a.o
def zQg (i:z0x):Prop:=
 ∃(a:mY),sb a.p.code=sb i.m.p.code∧iE a.p.months=iE i.m.p.months∧a.p.tick=i.m.p.tick∧a.p.low=i.m.p.low∧a.p.high=i.m.p.high∧a.p.wide=i.m.p.wide∧a.p.rule=i.m.p.rule∧a.p.top=i.m.p.top∧a.p.least=i.m.p.least∧a.p.part=i.m.p.part∧iE a.p.settle=iE i.m.p.settle∧a.a=i.inst∧a.b=i.c.price∧(xH a)∧∀(b:Unit),True→cnd (a.p.price a.a a.b !=0) (∃(c:RjI),c.c.kind=i.c.kind∧c.c.id=i.c.id∧c.c.inst=i.c.inst∧c.c.side=i.c.side∧c.c.price=i.c.price∧c.c.qty=i.c.qty∧c.c.least=i.c.least∧c.c.time=i.c.time∧sb c.c.label=sb i.c.label∧c.why=a.p.price a.a a.b∧True∧∀(d:Unit),True→∃(e:Mkt),sb e.p.code=sb i.m.p.code∧e.p.tick=i.m.p.tick∧e.p.low=i.m.p.low∧e.p.high=i.m.p.high∧e.p.wide=i.m.p.wide∧e.p.rule=i.m.p.rule∧e.p.top=i.m.p.top∧e.p.least=i.m.p.least∧e.p.part=i.m.p.part∧zD e.s=yR i.m 1∧b8 e i c) (cnd (i.c.price==i.o.price) (cnd (decide (i.c.qty≤i.o.qty)) (∃(c:CaI),c.id=i.c.id∧c.q=IntKind.i64.wrap (i.o.qty-i.c.qty)∧c.inst=i.inst∧c.o.id=i.o.id∧c.o.side=i.o.side∧c.o.price=i.o.price∧c.o.qty=i.o.qty∧c.o.top=i.o.top∧sb c.m.p.code=sb i.m.p.code∧c.m.p.tick=i.m.p.tick∧c.m.p.low=i.m.p.low∧c.m.p.high=i.m.p.high∧c.m.p.wide=i.m.p.wide∧c.m.p.rule=i.m.p.rule∧c.m.p.top=i.m.p.top∧c.m.p.least=i.m.p.least∧c.m.p.part=i.m.p.part∧zD c.m.s=yR i.m 1∧zY c.m.used=zY i.m.used∧AObj.fro 1 (iE c.m.p.months)=yR i.m 3∧AObj.fro 1 (iE c.m.p.settle)=yR i.m 4∧(fC c)∧∀(d:Mkt),d.Rep c.p c.X.B c.X.U→∃(e:Mkt),sb e.p.code=sb d.p.code∧e.p.tick=d.p.tick∧e.p.low=d.p.low∧e.p.high=d.p.high∧e.p.wide=d.p.wide∧e.p.rule=d.p.rule∧e.p.top=d.p.top∧e.p.least=d.p.least∧e.p.part=d.p.part∧zD e.s=zD d.s∧zY e.used=zY d.used∧AObj.fro 1 (iE e.p.months)=AObj.fro 1 (iE d.p.months)∧AObj.fro 1 (iE e.p.settle)=AObj.fro 1 (iE d.p.settle)∧List.map xL i.X.R=List.map xL c.X.R∧e.Rep i.p i.X.B i.X.U) (tP i)) (tP i))
def zNf (a:Mkt) (b:EnI) (c:RjI):Prop:=zY a.used=zY b.m.used∧AObj.fro 1 (iE a.p.months)=AObj.fro 1 (iE b.m.p.months)∧AObj.fro 1 (iE a.p.settle)=AObj.fro 1 (iE b.m.p.settle)∧List.map xL b.X.R=[xL (Rep.mk 2 c.c.id 0 0 0 0 0 c.why)]∧a.Rep b.p b.X.B b.X.U
def zTl (a:CaI) (b:EnI):Prop:=∀(c:Mkt),c.Rep a.p a.X.B a.X.U→∃(d:Mkt),sb d.p.code=sb c.p.code∧d.p.tick=c.p.tick∧d.p.low=c.p.low∧d.p.high=c.p.high∧d.p.wide=c.p.wide∧d.p.rule=c.p.rule∧d.p.top=c.p.top∧d.p.least=c.p.least∧d.p.part=c.p.part∧zD d.s=zD c.s∧zY d.used=zY c.used∧AObj.fro 1 (iE d.p.months)=AObj.fro 1 (iE c.p.months)∧AObj.fro 1 (iE d.p.settle)=AObj.fro 1 (iE c.p.settle)∧List.map xL b.X.R=List.map xL a.X.R∧d.Rep b.p b.X.B b.X.U
def zSt (a:EnI) (b:StI):Prop:=∃(c:CaI),c.id=a.c.id∧c.inst=(z9 b.B b.id).fst∧c.o.id=(z9 b.B b.id).snd.fst.id∧c.o.side=(z9 b.B b.id).snd.fst.side∧c.o.price=(z9 b.B b.id).snd.fst.price∧c.o.qty=(z9 b.B b.id).snd.fst.qty∧c.o.top=(z9 b.B b.id).snd.fst.top∧sb c.m.p.code=sb a.m.p.code∧c.m.p.tick=a.m.p.tick∧c.m.p.low=a.m.p.low∧c.m.p.high=a.m.p.high∧c.m.p.wide=a.m.p.wide∧c.m.p.rule=a.m.p.rule∧c.m.p.top=a.m.p.top∧c.m.p.least=a.m.p.least∧c.m.p.part=a.m.p.part∧zD c.m.s=zD b.s∧zY c.m.used=zY a.m.used∧AObj.fro 1 (iE c.m.p.months)=AObj.fro 1 (iE a.m.p.months)∧AObj.fro 1 (iE c.m.p.settle)=AObj.fro 1 (iE a.m.p.settle)∧((c.m.Rep c.p c.B c.U∧BOk c.p c.B)∧c.X=cH c.B c.U c.id c.inst c.o)∧zTl c a
def z7i (a:EnI):Prop:=∃(b:StI),b.id=a.c.id∧zD b.s=zD a.m.s∧(b.s.Rep b.p b.B∧b.B.length≤1000)∧∀(c:Unit),True→cnd (!(z9 b.B b.id).snd.snd) (∃(d:RjI),d.c.kind=a.c.kind∧d.c.id=a.c.id∧d.c.inst=a.c.inst∧d.c.side=a.c.side∧d.c.price=a.c.price∧d.c.qty=a.c.qty∧d.c.least=a.c.least∧d.c.time=a.c.time∧sb d.c.label=sb a.c.label∧d.why=26∧True∧∀(e:Unit),True→∃(f:Mkt),sb f.p.code=sb a.m.p.code∧f.p.tick=a.m.p.tick∧f.p.low=a.m.p.low∧f.p.high=a.m.p.high∧f.p.wide=a.m.p.wide∧f.p.rule=a.m.p.rule∧f.p.top=a.m.p.top∧f.p.least=a.m.p.least∧f.p.part=a.m.p.part∧zD f.s=zD b.s∧zNf f a d) (cnd (a.c.kind==4) (∃(d:z0x),d.c.kind=a.c.kind∧d.c.id=a.c.id∧d.c.inst=a.c.inst∧d.c.side=a.c.side∧d.c.price=a.c.price∧d.c.qty=a.c.qty∧d.c.least=a.c.least∧d.c.time=a.c.time∧sb d.c.label=sb a.c.label∧d.inst=(z9 b.B b.id).fst∧d.o.id=(z9 b.B b.id).snd.fst.id∧d.o.side=(z9 b.B b.id).snd.fst.side∧d.o.price=(z9 b.B b.id).snd.fst.price∧d.o.qty=(z9 b.B b.id).snd.fst.qty∧d.o.top=(z9 b.B b.id).snd.fst.top∧sb d.m.p.code=sb a.m.p.code∧d.m.p.tick=a.m.p.tick∧d.m.p.low=a.m.p.low∧d.m.p.high=a.m.p.high∧d.m.p.wide=a.m.p.wide∧d.m.p.rule=a.m.p.rule∧d.m.p.top=a.m.p.top∧d.m.p.least=a.m.p.least∧d.m.p.part=a.m.p.part∧zD d.m.s=zD b.s∧zY d.m.used=zY a.m.used∧AObj.fro 1 (iE d.m.p.months)=AObj.fro 1 (iE a.m.p.months)∧AObj.fro 1 (iE d.m.p.settle)=AObj.fro 1 (iE a.m.p.settle)∧(d.m.Rep d.p d.B d.U∧BOk d.p d.B∧z9 d.B d.c.id=(d.inst,d.o,true)∧(1≤d.c.qty∧d.c.qty≤1000000)∧d.X=dK d.p d.B d.U d.c d.inst d.o)∧∀(e:Mkt),e.Rep d.p d.X.B d.X.U→∃(f:Mkt),sb f.p.code=sb e.p.code∧f.p.tick=e.p.tick∧f.p.low=e.p.low∧f.p.high=e.p.high∧f.p.wide=e.p.wide∧f.p.rule=e.p.rule∧f.p.top=e.p.top∧f.p.least=e.p.least∧f.p.part=e.p.part∧zD f.s=zD e.s∧zY f.used=zY e.used∧AObj.fro 1 (iE f.p.months)=AObj.fro 1 (iE e.p.months)∧AObj.fro 1 (iE f.p.settle)=AObj.fro 1 (iE e.p.settle)∧List.map xL a.X.R=List.map xL d.X.R∧f.Rep a.p a.X.B a.X.U) (cnd (a.c.kind==2) (zSt a b) (cnd (decide (a.c.qty≥(z9 b.B b.id).snd.fst.qty)) (zSt a b) (∃(d:CaI),d.id=a.c.id∧d.q=a.c.qty∧d.inst=(z9 b.B b.id).fst∧d.o.id=(z9 b.B b.id).snd.fst.id∧d.o.side=(z9 b.B b.id).snd.fst.side∧d.o.price=(z9 b.B b.id).snd.fst.price∧d.o.qty=(z9 b.B b.id).snd.fst.qty∧d.o.top=(z9 b.B b.id).snd.fst.top∧sb d.m.p.code=sb a.m.p.code∧d.m.p.tick=a.m.p.tick∧d.m.p.low=a.m.p.low∧d.m.p.high=a.m.p.high∧d.m.p.wide=a.m.p.wide∧d.m.p.rule=a.m.p.rule∧d.m.p.top=a.m.p.top∧d.m.p.least=a.m.p.least∧d.m.p.part=a.m.p.part∧zD d.m.s=zD b.s∧zY d.m.used=zY a.m.used∧AObj.fro 1 (iE d.m.p.months)=AObj.fro 1 (iE a.m.p.months)∧AObj.fro 1 (iE d.m.p.settle)=AObj.fro 1 (iE a.m.p.settle)∧(fC d)∧zTl d a))))
def Vdo (i:EnI):Prop:=
 ∃(a:Cmd),a.kind=i.c.kind∧a.id=i.c.id∧a.inst=i.c.inst∧a.side=i.c.side∧a.price=i.c.price∧a.qty=i.c.qty∧a.least=i.c.least∧a.time=i.c.time∧sb a.label=sb i.c.label∧a.label.length≤140737488355328∧∀(b:Unit),True→cnd (a.right !=0) (∃(c:RjI),c.c.kind=i.c.kind∧c.c.id=i.c.id∧c.c.inst=i.c.inst∧c.c.side=i.c.side∧c.c.price=i.c.price∧c.c.qty=i.c.qty∧c.c.least=i.c.least∧c.c.time=i.c.time∧sb c.c.label=sb i.c.label∧c.why=a.right∧True∧∀(d:Unit),True→∃(e:Mkt),sb e.p.code=sb i.m.p.code∧e.p.tick=i.m.p.tick∧e.p.low=i.m.p.low∧e.p.high=i.m.p.high∧e.p.wide=i.m.p.wide∧e.p.rule=i.m.p.rule∧e.p.top=i.m.p.top∧e.p.least=i.m.p.least∧e.p.part=i.m.p.part∧zD e.s=zD i.m.s∧zNf e i c) (cnd (i.c.kind==1) (∃(c:EnI),c.c.kind=i.c.kind∧c.c.id=i.c.id∧c.c.inst=i.c.inst∧c.c.side=i.c.side∧c.c.price=i.c.price∧c.c.qty=i.c.qty∧c.c.least=i.c.least∧c.c.time=i.c.time∧sb c.c.label=sb i.c.label∧sb c.m.p.code=sb i.m.p.code∧c.m.p.tick=i.m.p.tick∧c.m.p.low=i.m.p.low∧c.m.p.high=i.m.p.high∧c.m.p.wide=i.m.p.wide∧c.m.p.rule=i.m.p.rule∧c.m.p.top=i.m.p.top∧c.m.p.least=i.m.p.least∧c.m.p.part=i.m.p.part∧zD c.m.s=zD i.m.s∧zY c.m.used=zY i.m.used∧AObj.fro 1 (iE c.m.p.months)=AObj.fro 1 (iE i.m.p.months)∧AObj.fro 1 (iE c.m.p.settle)=AObj.fro 1 (iE i.m.p.settle)∧((c.m.Rep c.p c.B c.U∧BOk c.p c.B)∧c.c.right=0∧c.c.kind=1∧c.X=nW c.p c.B c.U c.c)∧pV c i) ((z7i i)∧i.c.id=i.c.id∧True∧z7i i))
def yCa (i:MfI):Prop:=
 ∃(i_1:SoI),zD i_1.s=zD i.m.s∧(i_1.s.Rep i_1.p i_1.B∧i_1.B.length≤1000)∧∀(o:Unit),True→∃(o:Unit),(↑(zNx i.B):Int)=(↑(zNx i_1.B):Int)∧sb i.m.p.code=sb i.m.p.code∧i.m.p.tick=i.m.p.tick∧i.m.p.low=i.m.p.low∧i.m.p.high=i.m.p.high∧i.m.p.wide=i.m.p.wide∧i.m.p.rule=i.m.p.rule∧i.m.p.top=i.m.p.top∧i.m.p.least=i.m.p.least∧i.m.p.part=i.m.p.part∧zD i.m.s=zD i_1.s∧zY i.m.used=zY i.m.used∧AObj.fro 1 (iE i.m.p.months)=AObj.fro 1 (iE i.m.p.months)∧AObj.fro 1 (iE i.m.p.settle)=AObj.fro 1 (iE i.m.p.settle)∧True
open Go Cv Go.Proofs
theorem zBf (p:Prd) (B:List (List zG)) (U:List Int) (c:Cmd):cJ p B U c=⟨if(kP p B c.inst (decide (c.side=2)) c.price c.qty).left≠0∧c.time=1 then(zVd p (kP p B c.inst (decide (c.side=2)) c.price c.qty).B c.inst c.id c.side c.price (kP p B c.inst (decide (c.side=2)) c.price c.qty).left).1 else(kP p B c.inst (decide (c.side=2)) c.price c.qty).B,zIu U c.id,
 (⟨1,c.id,c.inst,c.side,c.price,c.qty,c.qty,0⟩::aZ p c (kP p B c.inst (decide (c.side=2)) c.price c.qty).steps c.qty)++if(kP p B c.inst (decide (c.side=2)) c.price c.qty).left≠0∧c.time≠1 then[⟨4,c.id,c.inst,c.side,c.price,(kP p B c.inst (decide (c.side=2)) c.price c.qty).left,0,0⟩]else[]⟩:=by
 rw[cJ]
theorem zKi {p:Prd} {B:List (List zG)} (h:BWf p B) (U:List Int) (c:Cmd):BOk p (cJ p B U c).B:=by
 have:=(cR (inst:=c.inst) (sd:=decide (c.side=2)) (price:=c.price) _ c.qty B (yPy _) h).1.ok
 rw[zBf]
 dsimp only
 split
 ·exact this.add _ _ _ _ _
 ·exact this
theorem zZw {p:Prd} {B:List (List zG)} (h:BWf p B) (U:List Int) (c:Cmd):BOk p (nW p B U c).B:=by
 rw[nW]
 split
 ·exact h.ok
 split
 ·exact h.ok
 split
 ·exact h.ok
 split
 ·exact h.ok
 split
 ·exact h.ok
 exact zKi h U c
theorem yGe {p:Prd} {B:List (List zG)} (h:BWf p B) (U:List Int) (c:Cmd):BOk p (doF p B U c).B:=by
 rw[doF]
 split
 ·exact h.ok
 split
 ·exact zZw h U c
 split
 ·exact h.ok
 split
 ·rw[dK]
  split
  ·exact h.ok
  split
  ·exact h.ok.take _ _
  split
  ·exact h.ok
  exact zKi (h.take _ _) U _
 split
 ·exact h.ok.take _ _
 ·exact h.ok.take _ _
open Go Cv Go.Proofs
def Two (L:List zG):Prop:=L=pA L 1++pA L 2
open Go Cv Go.Proofs
open Go Cv Go.Proofs
open Go Cv Go.Proofs
theorem nS {inst s:Int} {f:gV}:∀{os:List zG} {sh:List Int},f∈xC inst s os sh→f.side=s∧f.inst=inst∧∃o∈os,f.price=o.price
 |[],sh,h=>by cases h
 |o::os,[],h=>by cases h
 |o::os,k::sh,h=>by
  rw[xC]at h
  split at h
  ·rcases yPk.1 h with rfl|h
   ·exact⟨rfl,rfl,o,yOx,rfl⟩
   ·obtain⟨a,b,o',c,d⟩:=nS h
    exact⟨a,b,o',yOz _ c,d⟩
  ·obtain⟨a,b,o',c,d⟩:=nS h
   exact⟨a,b,o',yOz _ c,d⟩
def FOk (f:gV):Prop:=(f.side=1∨f.side=2)∧-2000000≤f.price∧f.price≤2000000
theorem zAt {p:Prd} {B:List (List zG)} (h:BOk p B) (inst:Int) {s:Int} (hs:s=1∨s=2) (q:Int):∀f∈xU p B inst s q,FOk f:=by
 intro f hf
 obtain⟨a,_,o,ho,e⟩:=nS hf
 refine⟨by rw[a];exact hs,?_⟩
 rw[e]
 have ho:=(yRa.1 ho).1
 by_cases hk:inst.toNat<B.length
 ·obtain⟨L,hL⟩:=z8 hk
  rw[zQ hL]at ho
  exact h.prices hL o ho
 ·rw[yPa,yPt (by omega)]at ho;cases ho
def SOk (t:kT):Prop:=(-2000000≤t.price∧t.price≤2000000)∧(∀f∈t.fills,FOk f)∧t.fills.length≤500
theorem yCe {p:Prd} {B:List (List zG)} (h:BWf p B) {inst:Int} (hi:0≤inst∧inst<B.length) {s:Int} (hs:s=1∨s=2) (hn:(yJ p B inst s).2.2=true): -2000000≤(yJ p B inst s).1.price∧(yJ p B inst s).1.price≤2000000:=by
 rw[yJ]at hn ⊢
 obtain⟨L,hL⟩:=z8 (l:=B) (i:=inst.toNat) (by omega)
 rw[zQ hL]at hn ⊢
 split
 ·exact zOj (h.ok.prices hL)
 ·rename_i c
  rw[yOr c]at hn
  have hm:=zLe hn
  have:=(yRa.1 hm).2
  exact lJ h.ok.pc (yRk this)
theorem z9d {p:Prd} {B:List (List zG)} (h:BWf p B) {inst:Int} (hi:0≤inst∧inst<B.length) {sd:Bool} {price q:Int} {t:kT} {B':List (List zG)} (e:dQ p B inst sd price q=some (t,B')):SOk t:=by
 have hs:zC (!sd)=1∨zC (!sd)=2:=lP _
 have hb:=yCe h hi hs
 have hin:=zWp h.ok h.od hi hs
 rw[dQ]at e
 dsimp only at e
 split at e
 ·rename_i c
  have c1:(yJ p B inst (zC (!sd))).2.2=true:=by
   cases hx:(yJ p B inst (zC (!sd))).2.2 with
   |false=>rw[hx]at c;cases c
   |true=>rfl
  have hb:=hb c1
  obtain⟨_,hin,_⟩:=hin c1
  split at e
  ·rename_i c2
   obtain⟨_,ok⟩:=hin c2
   cases e
   refine⟨hb,fun f hf=> ?_,?_⟩
   ·rcases yPv.1 hf with hf|hf
    ·exact zAt h.ok _ ok.sa _ f hf
    ·exact zAt h.ok.takes _ ok.sb _ f hf
   ·dsimp only
    rw[yOw]
    have:=bF (p:=p) h.od (yJ p B inst (zC (!sd))).1.a.inst (yJ p B inst (zC (!sd))).1.a.side (min q (yJ p B inst (zC (!sd))).1.qty)
    have:=bF (p:=p) (h.takes (fs:=xU p B (yJ p B inst (zC (!sd))).1.a.inst (yJ p B inst (zC (!sd))).1.a.side (min q (yJ p B inst (zC (!sd))).1.qty))).od (yJ p B inst (zC (!sd))).1.b.inst (yJ p B inst (zC (!sd))).1.b.side (min q (yJ p B inst (zC (!sd))).1.qty)
    omega
  ·cases e
   refine⟨hb,fun f hf=>zAt h.ok _ hs _ f hf,?_⟩
   have:=bF (p:=p) h.od inst (zC (!sd)) (min q (yJ p B inst (zC (!sd))).1.qty)
   dsimp only
   omega
 ·cases e
open Go Cv Go.Proofs
open Go Cv Go.Proofs
def tO (a:StI):Prop:=yM a.s.wh=yM a.s.wh∧AObj.fro 1 (iE a.s.p.months)=AObj.fro 1 (iE a.s.p.months)∧AObj.fro 1 (iE a.s.p.settle)=AObj.fro 1 (iE a.s.p.settle)∧True
def z4t (i:StI):Prop:=
 (dN i)∧∃(a:Bool),∃(b:Int),(mJ i b a)∧cnd (!a) (∃(c:Unit),(z9 i.B i.id).fst=0∧(z9 i.B i.id).snd.fst.id=0∧(z9 i.B i.id).snd.fst.side=0∧(z9 i.B i.id).snd.fst.price=0∧(z9 i.B i.id).snd.fst.qty=0∧(z9 i.B i.id).snd.fst.top=false∧(z9 i.B i.id).snd.snd=false∧sb i.s.p.code=sb i.s.p.code∧i.s.p.tick=i.s.p.tick∧i.s.p.low=i.s.p.low∧i.s.p.high=i.s.p.high∧i.s.p.wide=i.s.p.wide∧i.s.p.rule=i.s.p.rule∧i.s.p.top=i.s.p.top∧i.s.p.least=i.s.p.least∧i.s.p.part=i.s.p.part∧AObj.objs 184 Book 6 zO i.s.books none=AObj.objs 184 Book 6 zO i.s.books none∧tO i) ((0≤b∧b<(↑i.s.books.length:Int))∧b.toNat<i.s.books.length∧∃(c:Book),i.s.books[b.toNat]?=some c∧∃(d:FlI),d.id=i.id∧zW d.b=zW c∧d.b.Rep d.L∧∀(e:Unit),True→∃(f:Book),zW d.b=zW f∧b.toNat=b.toNat∧b.toNat<i.s.books.length∧∃(g:Unit),(z9 i.B i.id).fst=b∧(z9 i.B i.id).snd.fst.id=(uX d.L d.id).id∧(z9 i.B i.id).snd.fst.side=(uX d.L d.id).side∧(z9 i.B i.id).snd.fst.price=(uX d.L d.id).price∧(z9 i.B i.id).snd.fst.qty=(uX d.L d.id).qty∧(z9 i.B i.id).snd.fst.top=(uX d.L d.id).top∧(z9 i.B i.id).snd.snd=true∧sb i.s.p.code=sb i.s.p.code∧i.s.p.tick=i.s.p.tick∧i.s.p.low=i.s.p.low∧i.s.p.high=i.s.p.high∧i.s.p.wide=i.s.p.wide∧i.s.p.rule=i.s.p.rule∧i.s.p.top=i.s.p.top∧i.s.p.least=i.s.p.least∧i.s.p.part=i.s.p.part∧AObj.objs 184 Book 6 zO i.s.books none=AObj.objs 184 Book 6 zO (i.s.books.set b.toNat f) none∧tO i)
open Go Cv Go.Proofs
theorem yId (i:StI) (h:sfindC.cnd i):z4t i:=by
 obtain⟨hR,hB⟩:i.s.Rep i.p i.B∧i.B.length≤1000:=h
 have hat:=hR.at_ i.id
 unfold z4t dN mJ tO dI
 rw[z9]
 cases hi:dE i.B i.id with
 |none=>
  rw[hi]at hat
  exact⟨gB _ _,false,0,.inr ⟨by rw[bG,hat];rfl,rfl,rfl⟩,Cv.cnd.mk (fun _=>⟨(),by(repeat'(first|exact trivial|exact rfl|apply And.intro))⟩) (fun e=>absurd e (by decide))⟩
 |some k=>
  rw[hi]at hat
  obtain⟨L,hL,hh⟩:=vL hi
  have hk:=(yOt.1 hL).1
  obtain⟨b,hb⟩:=z8 (l:=i.s.books) (i:=k) (by rw[hR.bl];exact hk)
  have hbR:=hR.bk k b L hb hL
  have hbl:=hR.bl
  refine⟨gB _ _,true,k,.inl ⟨by rw[bG,hat];rfl,rfl⟩,Cv.cnd.mk (fun e=>absurd e (by decide)) (fun _=> ?_)⟩
  dsimp only
  rw[yPj,zQ hL]
  have hs:=wO hb
  refine⟨⟨by omega,by omega⟩,by omega,b,hb,⟨b,L,i.id,0⟩,rfl,rfl,hbR,fun _ _=>⟨b,rfl,rfl,by omega,(),?_⟩⟩
  rw[hs]
  (repeat'(first|exact trivial|exact rfl|apply And.intro))
theorem z8f:sfindC.ok Tryz.prog 55:=okw mixed (gokc zPn gok0) 0 (fun _=>[]) (fun _=>[]) [0] Tryz.func55 yId
open Go Cv Go.Proofs
theorem zKn (id:Int) (U:List Int):∀p∈zY U,like (Value.int IntKind.i64 id) p.1=true:=by
 intro p hp
 obtain⟨k,_,rfl⟩:=yQk.1 hp
 rfl
theorem zLl (id:Int):∀U:List Int,uD (Value.int IntKind.i64 id) [D.v (.bool true)] (zY U)=zY (zIu U id)
 |[]=>rfl
 |k::U=>by
  have ih:=zLl id U
  have e:m3 (Value.int IntKind.i64 id) (Value.int IntKind.i64 k)=decide (id=k):=by simp[m3,keq]
  show(bif m3 (Value.int IntKind.i64 id) (Value.int IntKind.i64 k)then(Value.int IntKind.i64 k,[D.v (.bool true)])::zY U else(Value.int IntKind.i64 k,[D.v (.bool true)])::uD (Value.int IntKind.i64 id) [D.v (.bool true)] (zY U))=_
  rw[e,ih]
  by_cases c:id=k
  ·rw[yPn c,cond_true,zIu,yOu (by rw[c];exact yOx)];rfl
  ·rw[yPm c,cond_false,zIu,zIu]
   have hm:id∈k::U↔id∈U:=by simp[c]
   by_cases d:id∈U
   ·rw[yOu d,yOu (hm.2 d)];rfl
   ·rw[yOr d,yOr (fun x=>d (hm.1 x))];rfl
theorem zLi (id:Int):∀U:List Int,wF (Value.int IntKind.i64 id) (zY U)=if id∈U then some [D.v (.bool true)]else none
 |[]=>rfl
 |k::U=>by
  have ih:=zLi id U
  have e:m3 (Value.int IntKind.i64 id) (Value.int IntKind.i64 k)=decide (id=k):=by simp[m3,keq]
  show(bif m3 (Value.int IntKind.i64 id) (Value.int IntKind.i64 k)then some [D.v (.bool true)]else wF (Value.int IntKind.i64 id) (zY U))=_
  rw[e,ih]
  by_cases c:id=k
  ·rw[yPn c,cond_true,yOu (by rw[c];exact yOx)]
  ·rw[yPm c,cond_false]
   have hm:id∈k::U↔id∈U:=by simp[c]
   by_cases d:id∈U
   ·rw[yOu d,yOu (hm.2 d)]
   ·rw[yOr d,yOr (fun x=>d (hm.1 x))]
theorem z4j (id:Int) (U:List Int):wF (Value.int IntKind.i64 id) (zY U)=some [D.v (.bool (decide (id∈U)))]∧decide (id∈U)=true∨wF (Value.int IntKind.i64 id) (zY U)=none∧[D.v (.bool (decide (id∈U)))]=[D.v (.bool false)]∧decide (id∈U)=false:=by
 rw[zLi]
 by_cases c:id∈U
 ·rw[yOu c,yPn c];exact .inl ⟨rfl,rfl⟩
 ·rw[yOr c,yPm c];exact .inr ⟨rfl,rfl,rfl⟩
theorem zLy {p:Prd} {inst:Int} {sd:Bool} {price:Int}:∀(m:Nat) (q:Int) (B:List (List zG)),q.toNat≤m→BWf p B→0≤inst∧inst<B.length→
 (∀t∈(kP p B inst sd price q).steps,SOk t∧1≤t.qty)∧((kP p B inst sd price q).steps.map (·.qty)).sum=q-(kP p B inst sd price q).left
 |m,q,B,hm,h,hi=>by
  by_cases hq:q≤0
  ·rw[nT (.inl hq)];exact⟨fun t ht=>(by cases ht),by simp⟩
  cases hs:dQ p B inst sd price q with
  |none=>rw[nT (.inr hs)];exact⟨fun t ht=>(by cases ht),by simp⟩
  |some x=>
   obtain⟨t,C⟩:=x
   obtain⟨k1,k2⟩:=zLq h hs
   have hq2:=zGp (by omega) hs
   cases m with
   |zero=>omega
   |succ m=>
   obtain⟨i1,i2⟩:=zLy (p:=p) (inst:=inst) (sd:=sd) (price:=price) m (q-t.qty) C (by omega) k1 (by rw[k2];exact hi)
   rw[zGw (by omega) hs]
   refine⟨fun u hu=> ?_,?_⟩
   ·rcases yPk.1 hu with rfl|hu
    ·exact⟨z9d h hi hs,hq2.1⟩
    ·exact i1 u hu
   ·dsimp only
    rw[yPd,yQc,i2];omega
theorem yDl {α:Type} {f:α→List Rep} (hf:∀x,(f x).length≤3):∀l:List α,(l.flatMap f).length≤3*l.length
 |[]=>yPy _
 |x::l=>by
  have:=yDl hf l
  have:=hf x
  rw[yQh,yOw,yOy];omega
theorem zJx (p:Prd) (c:Cmd) (x:kT) (left:Int):(bK p c x left).length≤3*x.fills.length+3:=by
 rw[bK,yOw]
 have:=yDl (fun f=>zFb p x (lH f)) x.fills
 have:=zFb p x ⟨3,c.id,c.inst,c.side,x.price,x.qty,left,0⟩
 omega
theorem zLt {l:List kT} (h:∀t∈l,SOk t∧1≤t.qty):(l.length:Int)≤(l.map (·.qty)).sum:=by
 induction l with
 |nil=>exact yTl _
 |cons t l ih=>
  have:=ih fun u hu=>h u (yOz _ hu)
  have:=(h t yOx).2
  rw[yPd,yQc,yOy];omega
theorem yIp (i:EnI) (h:enterC.cnd i):z7w i:=by
 obtain⟨m,p,B,U,c,X⟩:=i
 have h':(m.Rep p B U∧BOk p B)∧((0≤c.inst∧c.inst<B.length)∧(1≤c.qty∧c.qty≤1000000)∧(c.side=1∨c.side=2))∧p.price c.inst c.price=0∧X=cJ p B U c:=h
 clear h
 obtain⟨⟨⟨ep,hR,eu⟩,hB⟩,⟨⟨h0,h1⟩,hq,hs⟩,hpz,hX⟩:=h'
 subst ep eu hX
 have hwf:=hR.wf hB
 obtain⟨k1,k2,k3⟩:=cR (inst:=c.inst) (sd:=decide (c.side=2)) (price:=c.price) _ c.qty B (yPy _) hwf
 have k3:=k3 (by omega)
 obtain⟨s1,s2⟩:=zLy (inst:=c.inst) (sd:=decide (c.side=2)) (price:=c.price) _ c.qty B (yPy _) hwf ⟨h0,h1⟩
 have hX:=zBf m.p B m.used c
 have hbd:=lJ hB.pc hpz
 unfold z7w xQ j5 tR dI
 dsimp only
 rw[zLl,hX]
 refine⟨zKn _ _,⟨m.s,m.p,B,c.inst,decide (c.side=2),c.price,c.qty⟩,rfl,vX hs,rfl,rfl,rfl,⟨hR,hB,⟨h0,h1⟩,hq.1,hq.2⟩,fun o ho=> ?_⟩
 have er:RunI.r ⟨m.s,m.p,B,c.inst,decide (c.side=2),c.price,c.qty⟩=kP m.p B c.inst (decide (c.side=2)) c.price c.qty:=rfl
 rw[er]at ho ⊢
 clear hX er
 generalize kP m.p B c.inst (decide (c.side=2)) c.price c.qty=R at*
 obtain⟨ts,lf,RB⟩:=R
 dsimp only at*
 have hlen:=zLt s1
 have e4:(ts.map kE).length=ts.length:=yOs ..
 refine⟨⟨c.qty,0,[⟨1,c.id,c.inst,c.side,c.price,c.qty,c.qty,0⟩]⟩,rfl,rfl,rfl,fun j=>j.k≤ts.length∧j.left=lf+((ts.drop j.k).map (·.qty)).sum∧(⟨1,c.id,c.inst,c.side,c.price,c.qty,c.qty,0⟩::aZ m.p c ts c.qty)=j.out++aZ m.p c (ts.drop j.k) j.left∧j.out.length≤1+1503*j.k,fun j=>ts.length-j.k,⟨yQn _,by dsimp only;rw[ySa,s2];omega,rfl,yPy _⟩,?_⟩
 rintro⟨left,k,out⟩ ⟨j1,j2,j3,j4⟩
 dsimp only at j1 j2 j3 j4 ⊢
 have e5:(out.map xL).length=out.length:=yOs ..
 refine zI (fun c1=> ?_) (fun c1=> ?_)
 ·obtain⟨t,ht⟩:=z8 (l:=ts) (i:=k) (by omega)
  have hd:ts.drop k=t::ts.drop (k+1):=by rw[yRh (by omega),(yOt.1 ht).2]
  obtain⟨⟨t1,t2,t3⟩,t4⟩:=s1 t (yPe ht)
  have hsd:=zLt (l:=ts.drop (k+1)) fun u hu=>s1 u (ySe hu)
  have hsk:((ts.drop k).map (·.qty)).sum≤(ts.map (·.qty)).sum:=by
   have:=zLt (l:=ts.take k) fun u hu=>s1 u (yTw hu)
   have e:(ts.map (·.qty)).sum=((ts.take k).map (·.qty)).sum+((ts.drop k).map (·.qty)).sum:=by
    rw[← yUm,← yPc,yQu]
   omega
  rw[hd,yPd,yQc]at j2 hsk
  rw[hd,aZ]at j3
  have hrl:=zJx m.p c t (left-t.qty)
  have e6:((bK m.p c t (left-t.qty)).map xL).length=(bK m.p c t (left-t.qty)).length:=yOs ..
  have hw:IntKind.i64.wrap (left-t.qty)=left-t.qty:=w64 (by omega)
  refine⟨⟨by omega,by omega⟩,t.price,t.qty,t.implied,t.fills.map yL,elA ht (by simp[kE]) rfl,?_⟩
  rw[hw]
  refine⟨⟨⟨m.p,o,zIu m.used c.id⟩,c,t,left-t.qty⟩,rfl,rfl,rfl,rfl,rfl,rfl,rfl,rfl,rfl,rfl,rfl,rfl,rfl,rfl,rfl,rfl,rfl,rfl,rfl,rfl,rfl,rfl,rfl,rfl,rfl,rfl,rfl,⟨⟨hB.pc,hB.ps⟩,⟨by dsimp only;omega,by dsimp only;omega⟩,by dsimp only;omega,hs,fun f hf=>(t2 f hf).1⟩,fun _ _=>⟨by dsimp only;rw[e5,e6];omega,⟨left-t.qty,k+1,out++bK m.p c t (left-t.qty)⟩,rfl,wjn (by omega),by dsimp only;rw[yPc],⟨by dsimp only;omega,by dsimp only;omega,by dsimp only;rw[j3,yPb],by dsimp only;rw[yOw];omega⟩,by dsimp only;omega,by(repeat'(first|exact trivial|exact rfl|apply And.intro))⟩⟩
 have hk:k=ts.length:=by omega
 subst hk
 rw[List.drop_of_length_le (yPy _)]at j2 j3
 rw[aZ,yPp]at j3
 rw[← j3]
 rw[← j3]at e5 j4
 have hRB:=k1.ok
 refine Cv.cnd.mk (fun e=> ?_) (fun e=>Cv.cnd.mk (fun e2=> ?_) (fun e2=> ?_))
 ·have e:lf=0:=by simpa using e
  rw[yOr (by omega),yOr (by omega),yPp]
  exact⟨⟨m.p,o,zIu m.used c.id⟩,rfl,rfl,rfl,rfl,rfl,rfl,rfl,rfl,rfl,rfl,rfl,rfl,rfl,rfl,rfl,ho,rfl⟩
 ·have e:¬lf=0:=by simpa using e
  have e2:c.time=1:=by simpa using e2
  rw[yOr (show ¬(lf≠0∧c.time≠1)by omega),yOu (show lf≠0∧c.time=1 from⟨e,e2⟩),yPp]
  have ha:=(ho.add c.inst c.id (decide (c.side=2)) c.price lf).1
  rw[vX hs]at ha
  exact⟨⟨o,c.inst,c.id,decide (c.side=2),c.price,lf⟩,rfl,rfl,vX hs,rfl,rfl,rfl,ho.fit hRB,fun _ _=>⟨⟨m.p,(MSt.addF ⟨o,c.inst,c.id,decide (c.side=2),c.price,lf⟩).1,zIu m.used c.id⟩,rfl,rfl,rfl,rfl,rfl,rfl,rfl,rfl,rfl,rfl,rfl,rfl,rfl,rfl,rfl,ha,rfl⟩⟩
 ·have e:¬lf=0:=by simpa using e
  have e2:¬c.time=1:=by simpa using e2
  rw[yOu (show lf≠0∧c.time≠1 from⟨e,e2⟩),yOr (show ¬(lf≠0∧c.time=1)by omega)]
  exact⟨by rw[e5];omega,⟨m.p,o,zIu m.used c.id⟩,rfl,rfl,rfl,rfl,rfl,rfl,rfl,rfl,rfl,rfl,rfl,rfl,rfl,by rw[yPc];rfl,rfl,ho,rfl⟩
theorem zRk:enterC.ok Tryz.prog 112:=okw mixed (gokc zUe (gokc z4l (gokc yAy gok0))) 0 (fun _=>[]) (fun i=>yEt i) [] Tryz.func112 yIp
theorem yJp:mcountC.ok Tryz.prog 25:=okw (V:=yCa) mixed (gokc zEt gok0) 0 (fun _=>[]) (fun _=>[]) [0] Tryz.func25 fun(i:MfI) h=>by
 obtain⟨m,p,B,U,id⟩:=i
 have h':m.Rep p B U∧BOk p B:=h
 clear h
 obtain⟨⟨ep,hR,eu⟩,hB⟩:=h'
 subst ep eu
 have:=xR m.p
 have:=hB.bl
 exact⟨⟨m.s,m.p,B,0,false⟩,rfl,⟨hR,by dsimp only;omega⟩,fun _ _=>⟨(),by(repeat'(first|exact trivial|exact rfl|apply And.intro))⟩⟩
theorem zJo:cancelC.ok Tryz.prog 61:=okw (V:=yCb) mixed (gokc eL gok0) 0 (fun _=>[]) (fun _=>[]) [] Tryz.func61 fun(i:CaI) h=>by
 obtain⟨m,p,B,U,id,q,inst,o,X⟩:=i
 have h':(m.Rep p B U∧BOk p B)∧X=cH B U id inst o:=h
 clear h
 obtain⟨⟨⟨ep,hR,eu⟩,hB⟩,hX⟩:=h'
 subst ep eu hX
 have:=xR m.p
 have:=hB.bl
 exact⟨⟨m.s,m.p,B,id,o.qty⟩,rfl,rfl,rfl,⟨hR,by dsimp only;omega⟩,fun o' ho=>⟨⟨m.p,o',m.used⟩,rfl,rfl,rfl,rfl,rfl,rfl,rfl,rfl,rfl,rfl,rfl,rfl,rfl,rfl,rfl,ho,rfl⟩⟩
theorem zJc:reduceC.ok Tryz.prog 62:=okw (V:=zVv) mixed (gokc eL gok0) 0 (fun _=>[]) (fun _=>[]) [] Tryz.func62 fun(i:CaI) h=>by
 obtain⟨m,p,B,U,id,q,inst,o,X⟩:=i
 have h':(m.Rep p B U∧BOk p B)∧i64r (o.qty-q)∧X=lN B U id q inst o:=h
 clear h
 obtain⟨⟨⟨ep,hR,eu⟩,hB⟩,hw,hX⟩:=h'
 subst ep eu hX
 have:=xR m.p
 have:=hB.bl
 have hw:=w64 hw
 unfold zVv dI
 dsimp only
 rw[hw]
 exact⟨⟨m.s,m.p,B,id,q⟩,rfl,rfl,rfl,⟨hR,by dsimp only;omega⟩,fun o' ho=>⟨⟨m.p,o',m.used⟩,rfl,rfl,rfl,rfl,rfl,rfl,rfl,rfl,rfl,rfl,rfl,rfl,rfl,rfl,rfl,ho,rfl⟩⟩
theorem zKv {c:Cmd} (h:c.right=0):(if c.kind=1 then c.orderE else if c.kind≠2∧jR c.qty=false then 24 else if c.kind=4∧gD c.price=false then 23 else 0)=0:=by
 rw[Cmd.right]at h
 by_cases c1:c.kind<1∨4<c.kind
 ·rw[yOu c1]at h;cases h
 rw[yOr c1]at h
 by_cases c2:c.id<1∨1099511627776<c.id
 ·rw[yOu c2]at h;cases h
 rw[yOr c2]at h
 exact h
theorem zZe {c:Cmd} (h:c.right=0) (hk:c.kind=1):(c.side=1∨c.side=2)∧(1≤c.qty∧c.qty≤1000000)∧(0≤c.least∧c.least≤c.qty):=by
 have h:=zKv h
 rw[yOu hk,Cmd.orderE]at h
 by_cases c1:c.side≠1∧c.side≠2
 ·rw[yOu c1]at h;cases h
 rw[yOr c1]at h
 by_cases c2:c.time<1∨3<c.time
 ·rw[yOu c2]at h;cases h
 rw[yOr c2]at h
 cases c3:jR c.qty with
 |false=>rw[yOu c3]at h;cases h
 |true=>
  rw[yOr (by rw[c3];decide)]at h
  by_cases c4:c.least<0∨c.qty<c.least
  ·rw[yOu c4]at h;cases h
  simp only[jR,yPh,yRf]at c3
  exact⟨by omega,c3,by omega⟩
theorem zLk {c:Cmd} (h:c.right=0) (hk:¬c.kind=1) (hk2:¬c.kind=2):1≤c.qty∧c.qty≤1000000:=by
 have h:=zKv h
 rw[yOr hk]at h
 cases c3:jR c.qty with
 |false=>rw[yOu ⟨hk2,c3⟩]at h;cases h
 |true=>
  simp only[jR,yPh,yRf]at c3
  exact c3
theorem yGc (i:EnI) (h:orderC.cnd i):z8g i:=by
 obtain⟨m,p,B,U,c,X⟩:=i
 have h':(m.Rep p B U∧BOk p B)∧c.right=0∧c.kind=1∧X=nW p B U c:=h
 clear h
 obtain⟨⟨hM,hB⟩,hr,hkd,hX⟩:=h'
 obtain⟨ep,hR,eu⟩:=hM
 subst ep eu
 have hM:m.Rep m.p B m.used:=⟨rfl,hR,rfl⟩
 obtain⟨hs,hq,hl⟩:=zZe hr hkd
 have hbl:=hB.bl
 have hcl:=xR m.p
 unfold z8g xQ pV rA zAu sR zAg zCg zBj zAz j5 mD xH dI
 dsimp only
 refine⟨⟨m.p,c.inst,c.price⟩,rfl,rfl,rfl,rfl,rfl,rfl,rfl,rfl,rfl,rfl,rfl,rfl,rfl,hB.ps,fun _ _=>Cv.cnd.mk (fun e=> ?_) (fun e=> ?_)⟩
 ·have e:m.p.price c.inst c.price≠0:=by simpa using e
  have hx:X=⟨B,m.used,aS c (m.p.price c.inst c.price)⟩:=by rw[hX,nW,yOu e]
  exact⟨⟨c,m.p.price c.inst c.price⟩,rfl,rfl,rfl,rfl,rfl,rfl,rfl,rfl,rfl,rfl,trivial,fun _ _=>⟨m,rfl,rfl,rfl,rfl,rfl,rfl,rfl,rfl,rfl,rfl,rfl,rfl,rfl,by rw[hx];rfl,by rw[hx];exact hM⟩⟩
 have hpz:m.p.price c.inst c.price=0:=by simpa using e
 have hin:=zOv hpz
 have hib:0≤c.inst∧c.inst<B.length:=by omega
 rw[nW,yOr (by rw[hpz];decide)]at hX
 refine⟨0,fun l=>l=c.lst,Cv.cnd.mk (fun e=>⟨c.qty,rfl,by rw[Cmd.lst,yOu (by simpa using e)],by(repeat'(first|exact trivial|exact rfl|apply And.intro))⟩) (fun e=>⟨c.least,rfl,by rw[Cmd.lst,yOr (by simpa using e)],by(repeat'(first|exact trivial|exact rfl|apply And.intro))⟩),?_⟩
 rintro _ rfl
 refine⟨zKn _ _,_,_,z4j _ _,zI (fun e=> ?_) (fun e=> ?_)⟩
 ·have hx:X=⟨B,m.used,aS c 25⟩:=by rw[hX,yOu e]
  exact⟨⟨c,25⟩,rfl,rfl,rfl,rfl,rfl,rfl,rfl,rfl,rfl,rfl,trivial,fun _ _=>⟨m,rfl,rfl,rfl,rfl,rfl,rfl,rfl,rfl,rfl,rfl,rfl,rfl,rfl,by rw[hx];rfl,by rw[hx];exact hM⟩⟩
 rw[yOr e]at hX
 refine⟨⟨m.s,m.p,B,0,false⟩,rfl,⟨hR,by dsimp only;omega⟩,fun _ _=>zI (fun e=> ?_) (fun e=> ?_)⟩
 ·have hx:X=⟨B,m.used,aS c 13⟩:=by rw[hX,yOu (by dsimp only at e;omega)]
  exact⟨⟨c,13⟩,rfl,rfl,rfl,rfl,rfl,rfl,rfl,rfl,rfl,rfl,trivial,fun _ _=>⟨m,rfl,rfl,rfl,rfl,rfl,rfl,rfl,rfl,rfl,rfl,rfl,rfl,rfl,by rw[hx];rfl,by rw[hx];exact hM⟩⟩
 rw[yOr (by dsimp only at e;omega)]at hX
 have hok:RunI.ok ⟨m.s,m.p,B,c.inst,decide (c.side=2),c.price,c.qty⟩:=⟨hR,hB,hib,hq.1,hq.2⟩
 refine⟨true,fun b=>b=decide (0<c.lst∧c.qty-(kP m.p B c.inst (decide (c.side=2)) c.price c.qty).left<c.lst),zI (fun e=>⟨⟨m.s,m.p,B,c.inst,decide (c.side=2),c.price,c.qty⟩,rfl,vX hs,rfl,rfl,rfl,hok,fun _ _=>⟨_,rfl,decide_eq_decide.2 ⟨fun x=>⟨e,x⟩,fun x=>x.2⟩,by(repeat'(first|exact trivial|exact rfl|apply And.intro))⟩⟩) (fun e=>⟨false,rfl,(yPm fun x=>e x.1).symm,by(repeat'(first|exact trivial|exact rfl|apply And.intro))⟩),?_⟩
 rintro _ rfl
 refine zI (fun e=> ?_) (fun e=> ?_)
 ·have hx:X=⟨B,m.used,aS c 28⟩:=by rw[hX,yOu e]
  exact⟨⟨c,28⟩,rfl,rfl,rfl,rfl,rfl,rfl,rfl,rfl,rfl,rfl,trivial,fun _ _=>⟨m,rfl,rfl,rfl,rfl,rfl,rfl,rfl,rfl,rfl,rfl,rfl,rfl,rfl,by rw[hx];rfl,by rw[hx];exact hM⟩⟩
 rw[yOr e]at hX
 refine⟨true,fun b=>b=decide (c.time=1∧fW m.p B c.inst (decide (c.side=2)) c.price c.qty=true),Cv.cnd.mk (fun e=>⟨⟨m.s,m.p,B,c.inst,decide (c.side=2),c.price,c.qty⟩,rfl,vX hs,rfl,rfl,rfl,hok,fun _ _=>⟨_,rfl,?_,by(repeat'(first|exact trivial|exact rfl|apply And.intro))⟩⟩) (fun e=>⟨false,rfl,(yPm fun x=> ?_).symm,by(repeat'(first|exact trivial|exact rfl|apply And.intro))⟩),?_⟩
 ·have e:c.time=1:=by simpa using e
  dsimp only
  cases hb:fW m.p B c.inst (decide (c.side=2)) c.price c.qty with
  |true=>exact(yPn ⟨e,rfl⟩).symm
  |false=>exact(yPm fun x=>by cases x.2).symm
 ·rw[x.1]at e;cases e
 rintro _ rfl
 refine zI (fun e=> ?_) (fun e=> ?_)
 ·have hx:X=⟨B,m.used,aS c 23⟩:=by rw[hX,yOu e]
  exact⟨⟨c,23⟩,rfl,rfl,rfl,rfl,rfl,rfl,rfl,rfl,rfl,rfl,trivial,fun _ _=>⟨m,rfl,rfl,rfl,rfl,rfl,rfl,rfl,rfl,rfl,rfl,rfl,rfl,rfl,by rw[hx];rfl,by rw[hx];exact hM⟩⟩
 rw[yOr e]at hX
 exact⟨⟨m,m.p,B,m.used,c,X⟩,rfl,rfl,rfl,rfl,rfl,rfl,rfl,rfl,rfl,rfl,rfl,rfl,rfl,rfl,rfl,rfl,rfl,rfl,rfl,rfl,rfl,rfl,⟨⟨hM,hB⟩,⟨hib,hq,hs⟩,hpz,hX⟩,fun o ho=>⟨o,rfl,rfl,rfl,rfl,rfl,rfl,rfl,rfl,rfl,rfl,rfl,rfl,rfl,rfl,ho⟩⟩
theorem z5p:orderC.ok Tryz.prog 59:=okw mixed (gokc nU (gokc zUb (gokc zEt (gokc z0l (gokc zQn (gokc zRk gok0)))))) 0 (fun _=>yFt) (fun _=>[]) [] Tryz.func59 yGc
theorem zXh {p:Prd} {B:List (List zG)} (h:BWf p B) {id inst:Int} {o:zG} (hf:z9 B id=(inst,o,true)):(0≤inst∧inst<B.length)∧zEl o:=by
 rw[z9]at hf
 split at hf
 ·cases hf
 ·rename_i k hk
  obtain⟨L,hL,hh⟩:=vL hk
  rw[zQ hL]at hf
  cases hf
  have hlt:=(yOt.1 hL).1
  obtain⟨o,ho,e⟩:=yQk.1 (hasId_iff.1 hh)
  have hg:=mE (h.od k L hL).2.1 ho
  rw[e]at hg
  rw[hg]
  exact⟨by omega,(h.od k L hL).1 o ho⟩
theorem zGc (p:Prd) (c:Cmd):∀(l:List kT) (left:Int),(∀t∈l,SOk t∧1≤t.qty)→(aZ p c l left).length≤1503*l.length
 |[],_,_=>yPy _
 |t::l,left,h=>by
  have a:=zGc p c l (left-t.qty) fun u hu=>h u (yOz _ hu)
  have b:=zJx p c t (left-t.qty)
  have d:=(h t yOx).1.2.2
  rw[aZ,yOw,yOy];omega
theorem zTz {p:Prd} {B:List (List zG)} (h:BWf p B) (U:List Int) {c:Cmd} (hi:0≤c.inst∧c.inst<B.length) (hq:1≤c.qty∧c.qty≤1000000):(cJ p B U c).R.length≤1503000002:=by
 obtain⟨s1,s2⟩:=zLy (inst:=c.inst) (sd:=decide (c.side=2)) (price:=c.price) _ c.qty B (yPy _) h hi
 have k3:=(cR (inst:=c.inst) (sd:=decide (c.side=2)) (price:=c.price) _ c.qty B (yPy _) h).2.2 (by omega)
 have:=zLt s1
 have:=zGc p c _ c.qty s1
 rw[zBf]
 dsimp only
 rw[yOw,yOy]
 split
 ·rw[yOy,yRi];omega
 ·rw[yRi];omega
theorem z7j (i:z0x) (h:replaceC.cnd i):zQg i:=by
 obtain⟨m,p,B,U,c,inst,o,X⟩:=i
 have h':m.Rep p B U∧BOk p B∧z9 B c.id=(inst,o,true)∧(1≤c.qty∧c.qty≤1000000)∧X=dK p B U c inst o:=h
 clear h
 obtain⟨hM,hB,hf,hq,hX⟩:=h'
 obtain⟨ep,hR,eu⟩:=hM
 subst ep eu
 have hM:m.Rep m.p B m.used:=⟨rfl,hR,rfl⟩
 have hwf:=hR.wf hB
 obtain⟨hin,hoo⟩:=zXh hwf hf
 have hos:=hoo.s
 have hoq:=hoo.q
 have hbl:=hB.bl
 have hcl:=xR m.p
 unfold zQg tP xQ vW wJ mD fC b8 xH
 dsimp only
 refine⟨⟨m.p,inst,c.price⟩,rfl,rfl,rfl,rfl,rfl,rfl,rfl,rfl,rfl,rfl,rfl,rfl,rfl,hB.ps,fun _ _=>Cv.cnd.mk (fun e=> ?_) (fun e=> ?_)⟩
 ·have e:m.p.price inst c.price≠0:=by simpa using e
  have hx:X=⟨B,m.used,aS c (m.p.price inst c.price)⟩:=by rw[hX,dK,yOu e]
  exact⟨⟨c,m.p.price inst c.price⟩,rfl,rfl,rfl,rfl,rfl,rfl,rfl,rfl,rfl,rfl,trivial,fun _ _=>⟨m,rfl,rfl,rfl,rfl,rfl,rfl,rfl,rfl,rfl,rfl,rfl,rfl,rfl,by rw[hx];rfl,by rw[hx];exact hM⟩⟩
 have hpz:m.p.price inst c.price=0:=by simpa using e
 rw[dK,yOr (by rw[hpz];decide)]at hX
 have hw:IntKind.i64.wrap (o.qty-c.qty)=o.qty-c.qty:=w64 (by omega)
 rw[hw]
 refine(fun hT=>Cv.cnd.mk (fun e1=>zI (fun e2=> ?_) (fun e2=>hT fun x=>e2 x.2)) (fun e1=>hT fun x=>by rw[x.1]at e1;simp at e1)) (fun(hn:¬(c.price=o.price∧c.qty≤o.qty))=> ?_)
 ·have e1:c.price=o.price:=by simpa using e1
  rw[yOu ⟨e1,e2⟩]at hX
  exact⟨⟨m,m.p,B,m.used,c.id,o.qty-c.qty,inst,o,X⟩,rfl,rfl,rfl,rfl,rfl,rfl,rfl,rfl,rfl,rfl,rfl,rfl,rfl,rfl,rfl,rfl,rfl,rfl,rfl,rfl,rfl,⟨⟨hM,hB⟩,⟨by dsimp only;omega,by dsimp only;omega⟩,hX⟩,fun o' ho=>⟨o',rfl,rfl,rfl,rfl,rfl,rfl,rfl,rfl,rfl,rfl,rfl,rfl,rfl,rfl,ho⟩⟩
 rw[yOr hn]at hX
 have hBt:=hB.take c.id o.qty
 refine⟨m.s,rfl,hR.small hB,fun _ _=>⟨⟨m.s,m.p,B,c.id,o.qty⟩,rfl,rfl,rfl,⟨hR,by dsimp only;omega⟩,fun o' ho'=>⟨⟨o',m.p,(qC B c.id o.qty).1,inst,decide (o.side=2),c.price,c.qty⟩,rfl,vX hos,rfl,rfl,rfl,⟨ho',hBt,by dsimp only;rw[m4];exact hin,hq.1,hq.2⟩,fun _ _=>Cv.cnd.mk (fun e=> ?_) (fun e=> ?_)⟩⟩⟩
 ·have hx:X=⟨B,m.used,aS c 23⟩:=by rw[hX,yOu e]
  exact⟨⟨c,23⟩,rfl,rfl,rfl,rfl,rfl,rfl,rfl,rfl,rfl,rfl,trivial,fun _ _=>⟨m,rfl,rfl,rfl,rfl,rfl,rfl,rfl,rfl,rfl,rfl,rfl,rfl,rfl,by rw[hx];rfl,by rw[hx];exact hM⟩⟩
 rw[yOr (by rw[e];decide)]at hX
 refine⟨⟨m,m.p,B,m.used,c.id,0,inst,o,cH B m.used c.id inst o⟩,rfl,rfl,rfl,rfl,rfl,rfl,rfl,rfl,rfl,rfl,rfl,rfl,rfl,rfl,rfl,rfl,rfl,rfl,rfl,rfl,⟨⟨hM,hB⟩,rfl⟩,fun o1 ho1=>⟨⟨o1,m.p,(qC B c.id o.qty).1,m.used,⟨1,c.id,inst,o.side,c.price,c.qty,0,1,[]⟩,cJ m.p (qC B c.id o.qty).1 m.used ⟨1,c.id,inst,o.side,c.price,c.qty,0,1,[]⟩⟩,rfl,rfl,rfl,rfl,rfl,rfl,rfl,rfl,rfl,rfl,rfl,rfl,rfl,rfl,rfl,rfl,rfl,rfl,rfl,rfl,rfl,rfl,⟨⟨ho1,hBt⟩,⟨by dsimp only;rw[m4];exact hin,hq,hos⟩,hpz,rfl⟩,fun o2 ho2=>⟨?_,o2,rfl,rfl,rfl,rfl,rfl,rfl,rfl,rfl,rfl,rfl,rfl,rfl,rfl,?_,?_⟩⟩⟩
 ·have:=zTz (hwf.take c.id o.qty) m.used (c:=⟨1,c.id,inst,o.side,c.price,c.qty,0,1,[]⟩) (by dsimp only;rw[m4];exact hin) hq
  dsimp only
  rw[yOs,yOs]
  have e1:(cH B m.used c.id inst o).R.length=1:=rfl
  omega
 ·rw[hX,← yPc];rfl
 ·rw[hX];exact ho2
theorem zTr:replaceC.ok Tryz.prog 60:=okw mixed (gokc nU (gokc zUb (gokc eI (gokc eL (gokc zQn (gokc zJo (gokc zJc (gokc zRk gok0)))))))) 0 (fun _=>[]) (fun _=>[]) [] Tryz.func60 z7j
theorem vdo (i:EnI) (h:doC.cnd i):Vdo i:=by
 obtain⟨m,p,B,U,c,X⟩:=i
 have h':(m.Rep p B U∧BOk p B)∧c.label.length≤140737488355328∧i64r c.qty∧X=doF p B U c:=h
 clear h
 obtain⟨⟨hM,hB⟩,hlb,hqr,hX⟩:=h'
 obtain⟨ep,hR,eu⟩:=hM
 subst ep eu
 have hM:m.Rep m.p B m.used:=⟨rfl,hR,rfl⟩
 have hwf:=hR.wf hB
 have hbl:=hB.bl
 have hcl:=xR m.p
 unfold Vdo pV z7i fC zSt zTl zNf
 dsimp only
 refine⟨c,rfl,rfl,rfl,rfl,rfl,rfl,rfl,rfl,rfl,hlb,fun _ _=>Cv.cnd.mk (fun e=> ?_) (fun e=> ?_)⟩
 ·have e:c.right≠0:=by simpa using e
  have hx:X=⟨B,m.used,aS c c.right⟩:=by rw[hX,doF,yOu e]
  exact⟨⟨c,c.right⟩,rfl,rfl,rfl,rfl,rfl,rfl,rfl,rfl,rfl,rfl,trivial,fun _ _=>⟨m,rfl,rfl,rfl,rfl,rfl,rfl,rfl,rfl,rfl,rfl,rfl,rfl,rfl,by rw[hx];rfl,by rw[hx];exact hM⟩⟩
 have hr:c.right=0:=by simpa using e
 rw[doF,yOr (by rw[hr];decide)]at hX
 refine Cv.cnd.mk (fun e=> ?_) (fun e=> ?_)
 ·have e:c.kind=1:=by simpa using e
  rw[yOu e]at hX
  exact⟨⟨m,m.p,B,m.used,c,X⟩,rfl,rfl,rfl,rfl,rfl,rfl,rfl,rfl,rfl,rfl,rfl,rfl,rfl,rfl,rfl,rfl,rfl,rfl,rfl,rfl,rfl,rfl,⟨⟨hM,hB⟩,hr,e,hX⟩,fun o ho=>⟨o,rfl,rfl,rfl,rfl,rfl,rfl,rfl,rfl,rfl,rfl,rfl,rfl,rfl,rfl,ho⟩⟩
 have hk:¬c.kind=1:=by simpa using e
 rw[yOr hk]at hX
 refine(fun hT=>⟨hT,rfl,trivial,hT⟩) ?_
 refine⟨⟨m.s,m.p,B,c.id,0⟩,rfl,rfl,⟨hR,by dsimp only;omega⟩,fun _ _=>Cv.cnd.mk (fun e=> ?_) (fun e=> ?_)⟩
 ·have e:(z9 B c.id).2.2=false:=by simpa using e
  have hx:X=⟨B,m.used,aS c 26⟩:=by rw[hX,yOu e]
  exact⟨⟨c,26⟩,rfl,rfl,rfl,rfl,rfl,rfl,rfl,rfl,rfl,rfl,trivial,fun _ _=>⟨m,rfl,rfl,rfl,rfl,rfl,rfl,rfl,rfl,rfl,rfl,rfl,rfl,rfl,by rw[hx];rfl,by rw[hx];exact hM⟩⟩
 have e:(z9 B c.id).2.2=true:=by simpa using e
 rw[yOr (by rw[e];decide)]at hX
 dsimp only
 have hf:z9 B c.id=((z9 B c.id).1,(z9 B c.id).2.1,true):=by rw[← e]
 generalize (z9 B c.id).1=inst at*
 generalize (z9 B c.id).2.1=o at*
 obtain⟨hin,hoo⟩:=zXh hwf hf
 have hoq:=hoo.q
 refine Cv.cnd.mk (fun e4=> ?_) (fun e4=>Cv.cnd.mk (fun e2=> ?_) (fun e2=>zI (fun e3=> ?_) (fun e3=> ?_)))
 ·have e4:c.kind=4:=by simpa using e4
  rw[yOu e4]at hX
  exact⟨⟨m,m.p,B,m.used,c,inst,o,X⟩,rfl,rfl,rfl,rfl,rfl,rfl,rfl,rfl,rfl,rfl,rfl,rfl,rfl,rfl,rfl,rfl,rfl,rfl,rfl,rfl,rfl,rfl,rfl,rfl,rfl,rfl,rfl,rfl,⟨hM,hB,hf,zLk hr hk (by rw[e4];decide),hX⟩,fun o' ho=>⟨o',rfl,rfl,rfl,rfl,rfl,rfl,rfl,rfl,rfl,rfl,rfl,rfl,rfl,rfl,ho⟩⟩
 all_goals
  have e4:¬c.kind=4:=by simpa using e4
  rw[yOr e4]at hX
 ·have e2:c.kind=2:=by simpa using e2
  rw[yOu (.inl e2)]at hX
  exact⟨⟨m,m.p,B,m.used,c.id,0,inst,o,X⟩,rfl,rfl,rfl,rfl,rfl,rfl,rfl,rfl,rfl,rfl,rfl,rfl,rfl,rfl,rfl,rfl,rfl,rfl,rfl,rfl,⟨⟨hM,hB⟩,hX⟩,fun o' ho=>⟨o',rfl,rfl,rfl,rfl,rfl,rfl,rfl,rfl,rfl,rfl,rfl,rfl,rfl,rfl,ho⟩⟩
 ·rw[yOu (.inr (by omega))]at hX
  exact⟨⟨m,m.p,B,m.used,c.id,0,inst,o,X⟩,rfl,rfl,rfl,rfl,rfl,rfl,rfl,rfl,rfl,rfl,rfl,rfl,rfl,rfl,rfl,rfl,rfl,rfl,rfl,rfl,⟨⟨hM,hB⟩,hX⟩,fun o' ho=>⟨o',rfl,rfl,rfl,rfl,rfl,rfl,rfl,rfl,rfl,rfl,rfl,rfl,rfl,rfl,ho⟩⟩
 ·have e2:¬c.kind=2:=by simpa using e2
  have hq:=zLk hr hk e2
  rw[yOr (by omega)]at hX
  exact⟨⟨m,m.p,B,m.used,c.id,c.qty,inst,o,X⟩,rfl,rfl,rfl,rfl,rfl,rfl,rfl,rfl,rfl,rfl,rfl,rfl,rfl,rfl,rfl,rfl,rfl,rfl,rfl,rfl,rfl,⟨⟨hM,hB⟩,⟨by dsimp only;omega,by dsimp only;omega⟩,hX⟩,fun o' ho=>⟨o',rfl,rfl,rfl,rfl,rfl,rfl,rfl,rfl,rfl,rfl,rfl,rfl,rfl,rfl,ho⟩⟩
theorem yJr:doC.ok Tryz.prog 26:=okw mixed (gokc z5n (gokc zUb (gokc z8f (gokc z5p (gokc zTr (gokc zJo (gokc zJc gok0))))))) 0 (fun _=>[]) (fun _=>[]) [0] Tryz.func26 vdo
open Go Cv Go.Proofs
open Go Cv Go.Proofs
open Go Cv Go.Proofs
open Go Cv Go.Proofs
open Go Cv Go.Proofs
open Go Cv Go.Proofs
def mk0 (p:Prd):Mkt:=⟨p,mH p,[]⟩
theorem yAx (p:Prd):(mk0 p).Rep p (List.replicate p.count []) []:=⟨rfl,zSu _,rfl⟩
open Go Cv Go.Proofs
def WrU (l:List UInt8):Nat→AObj
 |0=> .cells [.own 1] 204
 |1=> .own 5 1 (bE l)
 |_=> .gone
def Wr (l:List UInt8):AObj:= .adt (List UInt8) 2 WrU l
structure zZm where
 l:List UInt8
 n:Int
 k:Nat
def putC:Con where
 ι:=zZm
 pat:=fun i=>[.nm 0 0,.d (.v (.int .u64 i.n)),.d (.v (.int .i64 i.k))]
 pre:=fun i=>[Wr i.l]
 cnd:=fun i=>0≤i.n∧i.n<18446744073709551616∧i.l.length+i.k≤1099511627776
 alts:=fun i=>[{o:=Unit,res:=fun _=> .tup [],post:=fun _=>[Wr (i.l++le i.n i.k)],rel:=fun _=>True}]
def yNw (i:zZm):List SAnn:=[{
 ι:=Nat,
 slots:=fun j=>[(0,.nm 0 0),(1,.d (.v (.int .u64 (i.n / 256 ^ j)))),(7,.d (.v (.int .i64 j)))],
 rows:=fun j=>[WrU (i.l++le i.n j) 0,WrU (i.l++le i.n j) 1]}]
open Go Cv Go.Proofs
def yLs (i:zZm):Prop:=
 ∃(a:Nat),i.n / (256:Int) ^ a=i.n∧(↑a:Int)=0∧bE (i.l++le i.n a)=bE i.l∧∃(b:Nat→Prop),∃(c:Nat→Nat),b a∧∀(d:Nat),b d→cnd (decide ((↑d:Int)<(↑i.k:Int))) (((bE (i.l++le i.n d)).length+1)*(1:Nat)≤(140737488355328:Nat)∧(0:Int)≤(8:Int)∧∃(e:Nat),i.n / (256:Int) ^ e=mP IntKind.u64 (i.n / (256:Int) ^ d) 8∧(↑e:Int)=IntKind.i64.wrap ((↑d:Int)+1)∧bE (i.l++le i.n e)=bE (i.l++le i.n d)++[[D.v (.int .u8 (IntKind.u8.wrap (i.n / (256:Int) ^ d)))]]∧b e∧c e<c d∧True) (∃(e:Unit),bE (i.l++le i.n i.k)=bE (i.l++le i.n d)∧True)
open Go Cv Go.Proofs
theorem yNr (i:zZm) (h:putC.cnd i):yLs i:=by
 unfold yLs
 obtain⟨h1,h2,h3⟩:=h
 refine⟨0,by simp,rfl,by simp[le],fun j=>j≤i.k,fun j=>i.k-j,by omega,fun j hj=>zI (fun hlt=> ?_) (fun hlt=> ?_)⟩
 ·refine⟨?_,by omega,j+1,?_,?_,?_,by omega,by dsimp only;omega,trivial⟩
  ·rw[bE_len,yOw,cK];omega
  ·have:=eF .u64 (i.n / 256 ^ j) 8 (by decide)
   rw[show((8:Nat):Int)=8 by rfl]at this
   rw[this,Int.ediv_ediv_of_nonneg (Int.pow_nonneg (by omega)),yTo];rfl
  ·rw[w64 (by omega)];rfl
  ·rw[z9q,zWu];simp[bE]
 ·obtain rfl:j=i.k:=by omega
  exact⟨(),rfl,trivial⟩
theorem z7v:putC.ok Tryz.prog 126:=okw mixed gok0 0 (fun _=>[]) (fun i=>yNw i) [0] Tryz.func126 yNr
open Go Cv Go.Proofs
@[reducible] def tU8:Nat:=5
structure WN where
 l:List UInt8
 n:Int
@[reducible] def WN.ok (i:WN):Prop:=i.l.length+8≤1099511627776
def byteC:Con:=con1 WN (fun i=>[.nm 0 0,zA i.n]) (fun i=>[Wr i.l]) WN.ok (fun _=>eQ) (fun i=>[Wr (i.l++[lob i.n])])
def longC:Con:=con1 WN (fun i=>[.nm 0 0,zA i.n]) (fun i=>[Wr i.l]) WN.ok (fun _=>eQ) (fun i=>[Wr (i.l++le i.n 8)])
@[reducible] def yFj (t sz by_:Nat):Con:=con1 (List (List D)) (fun _=>[.own 0]) (fun l=>[.own t sz l]) (fun l=>l.length*by_≤140737488355328) (fun _=> .own 1) (fun l=>[.own t sz l,.own t sz l])
def cloneBO:Con:=yFj tU8 1 1
def newWC:Con:=con1 Unit (fun _=>[]) (fun _=>[]) (fun _=>True) (fun _=> .nm 0 0) (fun _=>[Wr []])
def doneC:Con:=con1 (List UInt8) (fun _=>[.nm 0 0]) (fun l=>[Wr l]) (fun l=>l.length≤1099511627776) (fun _=> .own 1) (fun l=>[Wr l,.own tU8 1 (bE l)])
def RdU (x:List UInt8×Bool):Nat→AObj
 |0=> .cells [roV 1 (bE x.1),yB x.2] 208
 |_=> .gone
def Rd (l:List UInt8) (b:Bool):AObj:= .adt (List UInt8×Bool) 1 RdU (l,b)
structure RN where
 l:List UInt8
 b:Bool
 n:Nat
def RN.bad (i:RN):Bool:=i.b||decide (i.l.length<i.n)
def RN.got (i:RN):List UInt8:=if i.bad then[]else i.l.take i.n
def RN.left (i:RN):List UInt8:=if i.bad then i.l else i.l.drop i.n
def xI:List UInt8→Int
 |[]=>0
 |b::l=>b.toNat+256*xI l
def yNp (i:RN):List SAnn:=[{ι:=Nat,slots:=fun j=>[(5,n8 (xI (i.got.take j))),(12,zA j)],rows:=fun _=>[]}]
structure RB where
 l:List UInt8
 b:Bool
def RB.n (i:RB) (k:Nat):RN:=⟨i.l,i.b,k⟩
open Go Cv Go.Proofs
def yDu (i:WN):Prop:=
 ∃(a:zZm),a.n=IntKind.u64.wrap i.n∧(↑a.k:Int)=1∧AObj.adt (List UInt8) 2 WrU a.l=Wr i.l∧(0≤a.n∧a.n<18446744073709551616∧a.l.length+a.k≤1099511627776)∧∀(b:Unit),True→∃(c:Unit),AObj.adt (List UInt8) 2 WrU (i.l++[lob i.n])=AObj.adt (List UInt8) 2 WrU (a.l++le a.n a.k)∧True
def yCx (i:WN):Prop:=
 ∃(a:zZm),a.n=IntKind.u64.wrap i.n∧(↑a.k:Int)=8∧AObj.adt (List UInt8) 2 WrU a.l=Wr i.l∧(0≤a.n∧a.n<18446744073709551616∧a.l.length+a.k≤1099511627776)∧∀(b:Unit),True→∃(c:Unit),AObj.adt (List UInt8) 2 WrU (i.l++le i.n 8)=AObj.adt (List UInt8) 2 WrU (a.l++le a.n a.k)∧True
def zSj (i:List (List D)):Prop:=
 ∀(b:Bool),(b=true→i=[])→cnd b (∃(o:Unit),i=i∧i=[]∧True) ((0+i.length)*(1:Nat)≤(140737488355328:Nat)∧∃(o:Unit),i=i∧i=[]++i∧True)
theorem zZn (i:List (List D)):zSj i=walk Tryz.prog ([]) 0 ([]) ([]) [] Tryz.f127 (Tryz.f127.body.getD .skip) (cloneBO.pat i) (cloneBO.pre i) (cloneBO.alts i):=by kernel_rfl
theorem z0c (hG:GOk Tryz.prog ([])) (h:∀(i:List (List D)),cloneBO.cnd i→zSj i):cloneBO.ok Tryz.prog 127:=dW mixed ([]) hG 0 (fun(i:List (List D))=>[]) (fun(i:List (List D))=>[]) [] Tryz.func127 (by kernel_rfl) (by kernel_rfl) (by kernel_rfl) (fun _=>by kernel_rfl) (fun(i:List (List D)) hc=>Eq.mp (zZn i) (h i hc))
def yKw (i:Unit):Prop:=
 ∃(o:Unit),bE []=[]∧True
def yKx (i:List UInt8):Prop:=
 ∃(i_1:List (List D)),i_1=bE i∧i_1.length*(1:Nat)≤(140737488355328:Nat)∧∀(o:Unit),True→∃(o:Unit),bE i=i_1∧bE i=i_1∧True
end Sx
