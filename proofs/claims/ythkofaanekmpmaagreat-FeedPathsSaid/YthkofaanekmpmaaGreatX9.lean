/- Texts of ours, one behind the other: a walk that the kernel reckons, and contracts of functions. No condition. -/
import Derived.Test.YthkofaanekmpmaaGreatX8
namespace Sx
set_option linter.unusedVariables false
set_option maxRecDepth 100000
open Go Cv Go.Proofs
def yUv (i:RjI):Prop:=
 ∃(o:Unit),[x6 (Rep.mk 2 i.c.id 0 0 0 0 0 i.why)]=[[D.v (.int .i64 2),D.v (.int .i64 i.c.id),D.v (.int .i64 0),D.v (.int .i64 0),D.v (.int .i64 0),D.v (.int .i64 0),D.v (.int .i64 0),D.v (.int .i64 i.why)]]∧True
def uD (a:MsI):Prop:=a.r.kind=a.r.kind∧a.r.id=a.r.id∧a.r.inst=a.r.inst∧a.r.side=a.r.side∧a.r.price=a.r.price∧a.r.qty=a.r.qty∧a.r.left=a.r.left∧a.r.why=a.r.why∧True
def fG (a:MsI):=(Rep.mk a.r.kind a.r.id (a.m.p.legs a.r.inst).snd.fst (3-a.r.side) a.far a.r.qty a.r.left a.r.why)
def fH (a:MsI):=(Rep.mk a.r.kind a.r.id (a.m.p.legs a.r.inst).fst a.r.side a.near a.r.qty a.r.left a.r.why)
def sU (a:MsI) (b:cI):Prop:=(uD a)∧(uD a)∧(uD a)∧(uD a)∧(uD a)∧a.r.side=a.r.side∧∃(c:Unit),sb a.m.p.code=sb a.m.p.code∧a.m.p.tick=a.m.p.tick∧a.m.p.low=a.m.p.low∧a.m.p.high=a.m.p.high∧a.m.p.wide=a.m.p.wide∧a.m.p.rule=a.m.p.rule∧a.m.p.top=a.m.p.top∧a.m.p.least=a.m.p.least∧a.m.p.part=a.m.p.part∧zE a.m.s=y3 a.m 1∧yD a.m.used=yD a.m.used∧AObj.fro 1 (iE a.m.p.months)=y3 a.m 3∧AObj.fro 1 (iE a.m.p.settle)=y3 a.m 4∧[x6 (fH a),x6 (fG a)]=[[dI a.r.kind,dI a.r.id,dI ((b.p.legs b.n).fst),dI a.r.side,dI a.near,dI a.r.qty,dI a.r.left,dI a.r.why],[dI a.r.kind,dI a.r.id,dI (vA b),dI (IntKind.i64.wrap (3-a.r.side)),dI a.far,dI a.r.qty,dI a.r.left,dI a.r.why]]∧True
def zVq (i:MsI):Prop:=
 ∃(a:cI),sb a.p.code=sb i.m.p.code∧iE a.p.months=iE i.m.p.months∧a.p.tick=i.m.p.tick∧a.p.low=i.m.p.low∧a.p.high=i.m.p.high∧a.p.wide=i.m.p.wide∧a.p.rule=i.m.p.rule∧a.p.top=i.m.p.top∧a.p.least=i.m.p.least∧a.p.part=i.m.p.part∧iE a.p.settle=iE i.m.p.settle∧a.n=i.r.inst∧(kU a)∧∀(b:Unit),True→(sU i a)∧sU i a
def yVl (i:MiN):Prop:=
 ∃(i_1:cI),sb i_1.p.code=sb i.m.p.code∧iE i_1.p.months=iE i.m.p.months∧i_1.p.tick=i.m.p.tick∧i_1.p.low=i.m.p.low∧i_1.p.high=i.m.p.high∧i_1.p.wide=i.m.p.wide∧i_1.p.rule=i.m.p.rule∧i_1.p.top=i.m.p.top∧i_1.p.least=i.m.p.least∧i_1.p.part=i.m.p.part∧iE i_1.p.settle=iE i.m.p.settle∧i_1.n=i.inst∧(i_1.p.code.length≤1099511627776∧i_1.p.months.length≤1099511627776∧i_1.p.settle.length≤1099511627776)∧∀(o:Unit),True→∃(o:Unit),(i.m.p.legs i.inst).snd.snd=(i_1.p.legs i_1.n).snd.snd∧sb i.m.p.code=sb i.m.p.code∧i.m.p.tick=i.m.p.tick∧i.m.p.low=i.m.p.low∧i.m.p.high=i.m.p.high∧i.m.p.wide=i.m.p.wide∧i.m.p.rule=i.m.p.rule∧i.m.p.top=i.m.p.top∧i.m.p.least=i.m.p.least∧i.m.p.part=i.m.p.part∧zE i.m.s=y3 i.m 1∧yD i.m.used=yD i.m.used∧AObj.fro 1 (iE i.m.p.months)=y3 i.m 3∧AObj.fro 1 (iE i.m.p.settle)=y3 i.m 4∧True
def zTg (a:OfI):Prop:=a.x.price=a.x.price∧a.x.qty=a.x.qty∧a.x.implied=a.x.implied∧AObj.fro 6 (List.map yS a.x.fills)=AObj.fro 6 (List.map yS a.x.fills)∧True
def Vof (i:OfI):Prop:=
 ∃(a:Nat),(↑a:Int)=0∧∃(b:Nat→Prop),∃(c:Nat→Nat),b a∧∀(d:Nat),b d→cnd (decide ((↑d:Int)<(↑(List.map yS i.x.fills).length:Int))) ((0≤(↑d:Int)∧(↑d:Int)<(↑(List.map yS i.x.fills).length:Int))∧∃(e:Int),∃(f:Int),∃(g:Int),∃(h:Int),∃(j:Int),∃(k:Int),zF (List.map yS i.x.fills) (↑d:Int).toNat 0 6=some [dI e,dI f,dI g,dI h,dI j,dI k]∧cnd (f==i.k) (∃(l:Unit),ofF i.x i.k=h∧zTg i) (∃(l:Nat),(↑l:Int)=IntKind.i64.wrap ((↑d:Int)+1)∧b l∧c l<c d∧Sx.AObj.cells [zA i.x.price,zA i.x.qty,yG i.x.implied,V.own 1] (321:TypeId)=Sx.AObj.cells [zA i.x.price,zA i.x.qty,yG i.x.implied,V.own 1] (321:TypeId)∧AObj.fro 6 (List.map yS i.x.fills)=AObj.fro 6 (List.map yS i.x.fills))) (∃(e:Unit),ofF i.x i.k=i.x.price∧zTg i)
def pJ (a:MpI):Prop:=sb a.m.p.code=sb a.m.p.code∧a.m.p.tick=a.m.p.tick∧a.m.p.low=a.m.p.low∧a.m.p.high=a.m.p.high∧a.m.p.wide=a.m.p.wide∧a.m.p.rule=a.m.p.rule∧a.m.p.top=a.m.p.top∧a.m.p.least=a.m.p.least∧a.m.p.part=a.m.p.part∧zE a.m.s=y3 a.m 1∧yD a.m.used=yD a.m.used∧AObj.fro 1 (iE a.m.p.months)=y3 a.m 3∧AObj.fro 1 (iE a.m.p.settle)=y3 a.m 4∧True
def qI (a:MpI):=(wQ a.m.p a.inst a.x)
def zXb (i:MpI):Prop:=
 cnd (!i.x.implied) (∃(a:LpI),sb a.p.code=sb i.m.p.code∧iE a.p.months=iE i.m.p.months∧a.p.tick=i.m.p.tick∧a.p.low=i.m.p.low∧a.p.high=i.m.p.high∧a.p.wide=i.m.p.wide∧a.p.rule=i.m.p.rule∧a.p.top=i.m.p.top∧a.p.least=i.m.p.least∧a.p.part=i.m.p.part∧iE a.p.settle=iE i.m.p.settle∧a.inst=i.inst∧a.price=i.x.price∧(a.p.check=0∧(a.p.code.length≤1099511627776∧a.p.months.length≤1099511627776∧a.p.settle.length≤1099511627776)∧(-9223372036854775808)≤a.price∧a.price≤9223372036854775807)∧∀(b:Unit),True→∃(c:Unit),(qI i).fst=(yX a).fst∧(qI i).snd=(yX a).snd.fst∧pJ i) (∃(a:cI),sb a.p.code=sb i.m.p.code∧iE a.p.months=iE i.m.p.months∧a.p.tick=i.m.p.tick∧a.p.low=i.m.p.low∧a.p.high=i.m.p.high∧a.p.wide=i.m.p.wide∧a.p.rule=i.m.p.rule∧a.p.top=i.m.p.top∧a.p.least=i.m.p.least∧a.p.part=i.m.p.part∧iE a.p.settle=iE i.m.p.settle∧a.n=i.inst∧(kU a)∧∀(b:Unit),True→∃(c:OfI),c.k=(a.p.legs a.n).fst∧c.x.price=i.x.price∧c.x.qty=i.x.qty∧c.x.implied=i.x.implied∧AObj.fro 6 (List.map yS c.x.fills)=AObj.fro 6 (List.map yS i.x.fills)∧c.x.fills.length≤1000000∧∀(d:Unit),True→∃(e:OfI),e.k=(a.p.legs a.n).snd.fst∧e.x.price=c.x.price∧e.x.qty=c.x.qty∧e.x.implied=c.x.implied∧AObj.fro 6 (List.map yS e.x.fills)=AObj.fro 6 (List.map yS c.x.fills)∧e.x.fills.length≤1000000∧∀(f:Unit),True→∃(g:Unit),(qI i).fst=ofF c.x c.k∧(qI i).snd=ofF e.x e.k∧pJ i)
def zBa (a:MpI):Prop:=(a.m.p.check=0∧a.m.p.code.length≤1099511627776∧a.m.p.months.length≤1099511627776∧a.m.p.settle.length≤1099511627776)∧((-9223372036854775808)≤a.x.price∧a.x.price≤9223372036854775807)∧a.x.fills.length≤1000000
def zAc (a:MsI):Prop:=(a.m.p.check=0∧a.m.p.code.length≤1099511627776∧a.m.p.months.length≤1099511627776∧a.m.p.settle.length≤1099511627776)∧(a.r.side=1∨a.r.side=2)
def zBd (a:MiN):Prop:=a.m.p.check=0∧a.m.p.code.length≤1099511627776∧a.m.p.months.length≤1099511627776∧a.m.p.settle.length≤1099511627776
def b6 (a:StI'):=(D.v (Value.string (sb a.c.label)))
def yCu (i:StI'):Prop:=
 ∃(a:Nat),(↑a:Int)=0∧List.map x6 (i.out a)=[]∧∃(b:Nat→Prop),∃(c:Nat→Nat),b a∧∀(d:Nat),b d→cnd (decide ((↑d:Int)<(↑(List.map yS i.x.fills).length:Int))) ((0≤(↑d:Int)∧(↑d:Int)<(↑(List.map yS i.x.fills).length:Int))∧∃(e:Int),∃(f:Int),∃(g:Int),∃(h:Int),∃(j:Int),∃(k:Int),zF (List.map yS i.x.fills) (↑d:Int).toNat 0 6=some [dI e,dI f,dI g,dI h,dI j,dI k]∧((List.map x6 (i.out d)).length+1)*(64:Nat)≤(140737488355328:Nat)∧∃(l:MiN),l.inst=f∧sb l.m.p.code=sb i.m.p.code∧l.m.p.tick=i.m.p.tick∧l.m.p.low=i.m.p.low∧l.m.p.high=i.m.p.high∧l.m.p.wide=i.m.p.wide∧l.m.p.rule=i.m.p.rule∧l.m.p.top=i.m.p.top∧l.m.p.least=i.m.p.least∧l.m.p.part=i.m.p.part∧zE l.m.s=y3 i.m 1∧yD l.m.used=yD i.m.used∧AObj.fro 1 (iE l.m.p.months)=y3 i.m 3∧AObj.fro 1 (iE l.m.p.settle)=y3 i.m 4∧(zBd l)∧∀(m:Unit),True→cnd (l.m.p.legs l.inst).snd.snd (∃(n:MpI),n.inst=f∧n.x.price=i.x.price∧n.x.qty=i.x.qty∧n.x.implied=i.x.implied∧List.map yS n.x.fills=List.map yS i.x.fills∧sb n.m.p.code=sb l.m.p.code∧n.m.p.tick=l.m.p.tick∧n.m.p.low=l.m.p.low∧n.m.p.high=l.m.p.high∧n.m.p.wide=l.m.p.wide∧n.m.p.rule=l.m.p.rule∧n.m.p.top=l.m.p.top∧n.m.p.least=l.m.p.least∧n.m.p.part=l.m.p.part∧zE n.m.s=zE l.m.s∧yD n.m.used=yD l.m.used∧AObj.fro 1 (iE n.m.p.months)=AObj.fro 1 (iE l.m.p.months)∧AObj.fro 1 (iE n.m.p.settle)=AObj.fro 1 (iE l.m.p.settle)∧(zBa n)∧∀(p:Unit),True→∃(q:MsI),q.r.kind=3∧q.r.id=e∧q.r.inst=f∧q.r.side=g∧q.r.price=h∧q.r.qty=j∧q.r.left=k∧q.r.why=0∧q.near=(qI n).fst∧q.far=(qI n).snd∧sb q.m.p.code=sb n.m.p.code∧q.m.p.tick=n.m.p.tick∧q.m.p.low=n.m.p.low∧q.m.p.high=n.m.p.high∧q.m.p.wide=n.m.p.wide∧q.m.p.rule=n.m.p.rule∧q.m.p.top=n.m.p.top∧q.m.p.least=n.m.p.least∧q.m.p.part=n.m.p.part∧zE q.m.s=zE n.m.s∧yD q.m.used=yD n.m.used∧AObj.fro 1 (iE q.m.p.months)=AObj.fro 1 (iE n.m.p.months)∧AObj.fro 1 (iE q.m.p.settle)=AObj.fro 1 (iE n.m.p.settle)∧(zAc q)∧∀(r:Unit),True→True∧((List.map x6 (i.out d)++[[dI 3,dI e,dI f,dI g,dI h,dI j,dI k,dI 0]]).length+2)*(64:Nat)≤(140737488355328:Nat)∧∃(s:Nat),(↑s:Int)=IntKind.i64.wrap ((↑d:Int)+1)∧List.map x6 (i.out s)=List.map x6 (i.out d)++[[dI 3,dI e,dI f,dI g,dI h,dI j,dI k,dI 0]]++[x6 (fH q),x6 (fG q)]∧b s∧c s<c d∧Sx.AObj.cells [V.d (dI i.x.price),V.d (dI i.x.qty),V.d (D.v (.bool i.x.implied)),V.own ((5:Nat)+(1:Nat)+1)] 321=Sx.AObj.cells [V.d (dI i.x.price),V.d (dI i.x.qty),V.d (D.v (.bool i.x.implied)),V.own ((5:Nat)+(1:Nat)+1)] 321∧AObj.fro 6 (List.map yS i.x.fills)=AObj.fro 6 (List.map yS i.x.fills)∧Sx.AObj.cells [V.d (dI i.c.kind),V.d (dI i.c.id),V.d (dI i.c.inst),V.d (dI i.c.side),V.d (dI i.c.price),V.d (dI i.c.qty),V.d (dI i.c.least),V.d (dI i.c.time),V.d (b6 i)] 80=Sx.AObj.cells [V.d (dI i.c.kind),V.d (dI i.c.id),V.d (dI i.c.inst),V.d (dI i.c.side),V.d (dI i.c.price),V.d (dI i.c.qty),V.d (dI i.c.least),V.d (dI i.c.time),V.d (b6 i)] 80∧Sx.AObj.cells [V.nm 0 0] 100=Sx.AObj.cells [V.nm 0 0] 100∧Sx.AObj.cells (vK (cM 5 ((5:Nat)+(1:Nat)+(1:Nat)+(1:Nat)+(1:Nat)+(1:Nat)+(1:Nat)+(2:Nat)+(1:Nat)+(1:Nat)+(1:Nat)+(1:Nat)+((5:Nat)-(5:Nat))+((5:Nat)-(5:Nat))) ((6:Nat)-(5:Nat)) [((2:Nat),(2:Nat)),((1:Nat),(1:Nat)),((4:Nat),(4:Nat)),((3:Nat),(3:Nat)),((0:Nat),(0:Nat))]) [sV q.m.p.code,V.own 3,zA q.m.p.tick,zA q.m.p.low,zA q.m.p.high,zA q.m.p.wide,zA q.m.p.rule,zA q.m.p.top,zA q.m.p.least,zA q.m.p.part,V.own 4,V.nm 1 0,V.mp 2]) (179:TypeId)=y3 i.m 0∧zE q.m.s=y3 i.m 1∧Sx.AObj.map (yD q.m.used)=y3 i.m 2∧AObj.fro 1 (iE q.m.p.months)=y3 i.m 3∧AObj.fro 1 (iE q.m.p.settle)=y3 i.m 4) (∃(n:Nat),(↑n:Int)=IntKind.i64.wrap ((↑d:Int)+1)∧List.map x6 (i.out n)=List.map x6 (i.out d)++[[dI 3,dI e,dI f,dI g,dI h,dI j,dI k,dI 0]]∧b n∧c n<c d∧Sx.AObj.cells [V.d (dI i.x.price),V.d (dI i.x.qty),V.d (D.v (.bool i.x.implied)),V.own ((5:Nat)+(1:Nat)+1)] 321=Sx.AObj.cells [V.d (dI i.x.price),V.d (dI i.x.qty),V.d (D.v (.bool i.x.implied)),V.own ((5:Nat)+(1:Nat)+1)] 321∧AObj.fro 6 (List.map yS i.x.fills)=AObj.fro 6 (List.map yS i.x.fills)∧Sx.AObj.cells [V.d (dI i.c.kind),V.d (dI i.c.id),V.d (dI i.c.inst),V.d (dI i.c.side),V.d (dI i.c.price),V.d (dI i.c.qty),V.d (dI i.c.least),V.d (dI i.c.time),V.d (b6 i)] 80=Sx.AObj.cells [V.d (dI i.c.kind),V.d (dI i.c.id),V.d (dI i.c.inst),V.d (dI i.c.side),V.d (dI i.c.price),V.d (dI i.c.qty),V.d (dI i.c.least),V.d (dI i.c.time),V.d (b6 i)] 80∧Sx.AObj.cells [V.nm 0 0] 100=Sx.AObj.cells [V.nm 0 0] 100∧Sx.AObj.cells (vK (cM 5 ((5:Nat)+(1:Nat)+(1:Nat)+(1:Nat)+(1:Nat)+(1:Nat)+(1:Nat)+(2:Nat)+(1:Nat)+(1:Nat)+(1:Nat)+(1:Nat)) ((5:Nat)-(5:Nat)) [((2:Nat),(2:Nat)),((1:Nat),(1:Nat)),((4:Nat),(4:Nat)),((3:Nat),(3:Nat)),((0:Nat),(0:Nat))]) [sV l.m.p.code,V.own 3,zA l.m.p.tick,zA l.m.p.low,zA l.m.p.high,zA l.m.p.wide,zA l.m.p.rule,zA l.m.p.top,zA l.m.p.least,zA l.m.p.part,V.own 4,V.nm 1 0,V.mp 2]) (179:TypeId)=y3 i.m 0∧zE l.m.s=y3 i.m 1∧Sx.AObj.map (yD l.m.used)=y3 i.m 2∧AObj.fro 1 (iE l.m.p.months)=y3 i.m 3∧AObj.fro 1 (iE l.m.p.settle)=y3 i.m 4)) (((List.map x6 (i.out d)).length+1)*(64:Nat)≤(140737488355328:Nat)∧∃(e:MiN),e.inst=i.c.inst∧sb e.m.p.code=sb i.m.p.code∧e.m.p.tick=i.m.p.tick∧e.m.p.low=i.m.p.low∧e.m.p.high=i.m.p.high∧e.m.p.wide=i.m.p.wide∧e.m.p.rule=i.m.p.rule∧e.m.p.top=i.m.p.top∧e.m.p.least=i.m.p.least∧e.m.p.part=i.m.p.part∧zE e.m.s=y3 i.m 1∧yD e.m.used=yD i.m.used∧AObj.fro 1 (iE e.m.p.months)=y3 i.m 3∧AObj.fro 1 (iE e.m.p.settle)=y3 i.m 4∧(zBd e)∧∀(f:Unit),True→cnd (e.m.p.legs e.inst).snd.snd (∃(g:MpI),g.inst=i.c.inst∧g.x.price=i.x.price∧g.x.qty=i.x.qty∧g.x.implied=i.x.implied∧List.map yS g.x.fills=List.map yS i.x.fills∧sb g.m.p.code=sb e.m.p.code∧g.m.p.tick=e.m.p.tick∧g.m.p.low=e.m.p.low∧g.m.p.high=e.m.p.high∧g.m.p.wide=e.m.p.wide∧g.m.p.rule=e.m.p.rule∧g.m.p.top=e.m.p.top∧g.m.p.least=e.m.p.least∧g.m.p.part=e.m.p.part∧zE g.m.s=zE e.m.s∧yD g.m.used=yD e.m.used∧AObj.fro 1 (iE g.m.p.months)=AObj.fro 1 (iE e.m.p.months)∧AObj.fro 1 (iE g.m.p.settle)=AObj.fro 1 (iE e.m.p.settle)∧(zBa g)∧∀(h:Unit),True→∃(j:MsI),j.r.kind=3∧j.r.id=i.c.id∧j.r.inst=i.c.inst∧j.r.side=i.c.side∧j.r.price=i.x.price∧j.r.qty=i.x.qty∧j.r.left=i.left∧j.r.why=0∧j.near=(qI g).fst∧j.far=(qI g).snd∧sb j.m.p.code=sb g.m.p.code∧j.m.p.tick=g.m.p.tick∧j.m.p.low=g.m.p.low∧j.m.p.high=g.m.p.high∧j.m.p.wide=g.m.p.wide∧j.m.p.rule=g.m.p.rule∧j.m.p.top=g.m.p.top∧j.m.p.least=g.m.p.least∧j.m.p.part=g.m.p.part∧zE j.m.s=zE g.m.s∧yD j.m.used=yD g.m.used∧AObj.fro 1 (iE j.m.p.months)=AObj.fro 1 (iE g.m.p.months)∧AObj.fro 1 (iE j.m.p.settle)=AObj.fro 1 (iE g.m.p.settle)∧(zAc j)∧∀(k:Unit),True→True∧((List.map x6 (i.out d)++[[dI 3,dI i.c.id,dI i.c.inst,dI i.c.side,dI i.x.price,dI i.x.qty,dI i.left,dI 0]]).length+2)*(64:Nat)≤(140737488355328:Nat)∧∃(l:Unit),sb i.m.p.code=sb j.m.p.code∧i.m.p.tick=j.m.p.tick∧i.m.p.low=j.m.p.low∧i.m.p.high=j.m.p.high∧i.m.p.wide=j.m.p.wide∧i.m.p.rule=j.m.p.rule∧i.m.p.top=j.m.p.top∧i.m.p.least=j.m.p.least∧i.m.p.part=j.m.p.part∧zE i.m.s=zE j.m.s∧yD i.m.used=yD j.m.used∧AObj.fro 1 (iE i.m.p.months)=AObj.fro 1 (iE j.m.p.months)∧AObj.fro 1 (iE i.m.p.settle)=AObj.fro 1 (iE j.m.p.settle)∧List.map x6 (mH i.m.p i.c i.x i.left)=List.map x6 (i.out d)++[[dI 3,dI i.c.id,dI i.c.inst,dI i.c.side,dI i.x.price,dI i.x.qty,dI i.left,dI 0]]++[x6 (fH j),x6 (fG j)]∧True) (∃(g:Unit),sb i.m.p.code=sb e.m.p.code∧i.m.p.tick=e.m.p.tick∧i.m.p.low=e.m.p.low∧i.m.p.high=e.m.p.high∧i.m.p.wide=e.m.p.wide∧i.m.p.rule=e.m.p.rule∧i.m.p.top=e.m.p.top∧i.m.p.least=e.m.p.least∧i.m.p.part=e.m.p.part∧zE i.m.s=zE e.m.s∧yD i.m.used=yD e.m.used∧AObj.fro 1 (iE i.m.p.months)=AObj.fro 1 (iE e.m.p.months)∧AObj.fro 1 (iE i.m.p.settle)=AObj.fro 1 (iE e.m.p.settle)∧List.map x6 (mH i.m.p i.c i.x i.left)=List.map x6 (i.out d)++[[dI 3,dI i.c.id,dI i.c.inst,dI i.c.side,dI i.x.price,dI i.x.qty,dI i.left,dI 0]]∧True))
set_option linter.unusedSimpArgs false
open Go Cv Go.Proofs
theorem z0h:rejC.ok Tryz.prog 112:=okw (V:=yUv) mixed gok0 0 (fun _=>[]) (fun _=>[]) [] Tryz.func112 fun(i:RjI) _=>⟨(),rfl,trivial⟩
theorem yAm (i:MsI) (h:mspreadC.cnd i):zVq i:=by
 obtain⟨⟨hc,hp⟩,hs⟩:i.m.fine∧(i.r.side=1∨i.r.side=2):=h
 have hw:IntKind.i64.wrap (3-i.r.side)=3-i.r.side:=w64 (by omega)
 unfold zVq sU fH fG uD vA kU dI
 rw[hw]
 refine⟨⟨i.m.p,i.r.inst⟩,rfl,rfl,rfl,rfl,rfl,rfl,rfl,rfl,rfl,rfl,rfl,rfl,hp,fun _ _=> ?_⟩
 exact kp
theorem z1k:mspreadC.ok Tryz.prog 239:=okw mixed (gokc eO gok0) 0 (fun _=>[]) (fun _=>[]) [] Tryz.func239 yAm
theorem yMm:misC.ok Tryz.prog 237:=okw (V:=yVl) mixed (gokc eO gok0) 0 (fun _=>[]) (fun _=>[]) [] Tryz.func237 fun(i:MiN) h=>by
 obtain⟨hc,hp⟩:i.m.fine:=h
 exact⟨⟨i.m.p,i.inst⟩,rfl,rfl,rfl,rfl,rfl,rfl,rfl,rfl,rfl,rfl,rfl,rfl,hp,fun _ _=>kp⟩
theorem yRt {l:List cH} {k:Nat} {f:cH} (h:l[k]? =some f):zF (l.map yS) k 0 6=some [D.v (.int .i64 f.id),D.v (.int .i64 f.inst),D.v (.int .i64 f.side),D.v (.int .i64 f.price),D.v (.int .i64 f.qty),D.v (.int .i64 f.left)]:=elA h (by simp[yS]) rfl
theorem vof (i:OfI) (h:ofC.cnd i):Vof i:=by
 have hl:i.x.fills.length≤1000000:=h
 have e4:(i.x.fills.map yS).length=i.x.fills.length:=yWm ..
 unfold Vof zTg dI
 refine⟨0,rfl,fun j=>j≤i.x.fills.length∧(i.x.fills.take j).find? (fun f=>decide (f.inst=i.k))=none,fun j=>i.x.fills.length-j,⟨yYa _,rfl⟩,?_⟩
 rintro j ⟨j1,j2⟩
 refine zK (fun c=> ?_) (fun c=> ?_)
 ·obtain⟨f,hf⟩:=z6 (l:=i.x.fills) (i:=j) (by omega)
  refine⟨⟨by omega,by omega⟩,_,_,_,_,_,_,yRt hf,Cv.cnd.mk (fun g=>⟨(),?_,by(repeat'(first|exact trivial|exact rfl|apply And.intro))⟩) (fun g=>⟨j+1,wjn (by omega),⟨by omega,?_⟩,by dsimp only;omega,by(repeat'(first|exact trivial|exact rfl|apply And.intro))⟩)⟩
  ·have g:f.inst=i.k:=by simpa using g
   have e:i.x.fills.find? (fun f=>decide (f.inst=i.k))=some f:=by
    rw[← yYw j i.x.fills,List.find?_append,j2,yZk (by omega),(yWn.1 hf).2,List.find?_cons_of_pos (by simpa using g)]
    rfl
   rw[ofF,e]
  ·have g:¬f.inst=i.k:=by simpa using g
   rw[yXw,hf,List.find?_append,j2]
   simp[g]
 ·have:j=i.x.fills.length:=by omega
  rw[this,yXc (yXs _)]at j2
  exact⟨(),by rw[ofF,j2],by(repeat'(first|exact trivial|exact rfl|apply And.intro))⟩
theorem ySu:ofC.ok Tryz.prog 265:=okw mixed gok0 0 (fun _=>[]) (fun _=>ofA) [] Tryz.func265 vof
theorem yAo (i:MpI) (h:mpricesC.cnd i):zXb i:=by
 obtain⟨⟨hc,hp⟩,hpr,hl⟩:i.m.fine∧yV i.x.price∧i.x.fills.length≤1000000:=h
 unfold zXb qI pJ yX kU
 refine Cv.cnd.mk (fun e=> ?_) (fun e=> ?_)
 ·have e:i.x.implied=false:=by simpa using e
  have h0:wQ i.m.p i.inst i.x=((fM i.m.p i.inst i.x.price).1,(fM i.m.p i.inst i.x.price).2.1):=by rw[wQ,yWl e]
  rw[h0]
  exact⟨⟨i.m.p,i.inst,i.x.price⟩,rfl,rfl,rfl,rfl,rfl,rfl,rfl,rfl,rfl,rfl,rfl,rfl,rfl,⟨hc,hp,hpr⟩,fun _ _=>kp⟩
 ·have e:¬i.x.implied=false:=by simpa using e
  have h0:wQ i.m.p i.inst i.x=(ofF i.x (i.m.p.legs i.inst).1,ofF i.x (i.m.p.legs i.inst).2.1):=by rw[wQ,yWk e]
  rw[h0]
  exact⟨⟨i.m.p,i.inst⟩,rfl,rfl,rfl,rfl,rfl,rfl,rfl,rfl,rfl,rfl,rfl,rfl,hp,fun _ _=>⟨⟨i.x,(i.m.p.legs i.inst).1⟩,rfl,rfl,rfl,rfl,rfl,hl,fun _ _=>⟨⟨i.x,(i.m.p.legs i.inst).2.1⟩,rfl,rfl,rfl,rfl,rfl,hl,fun _ _=>kp⟩⟩⟩
theorem zYr:mpricesC.ok Tryz.prog 238:=okw mixed (gokc eO (gokc z1g (gokc ySu gok0))) 0 (fun _=>[]) (fun _=>[]) [] Tryz.func238 yAo
theorem zKv (p:Prd) (x:wE) (r:Rep):(rU p x r).length≤3:=by
 rw[rU,yWs]
 split
 ·rw[zIa];simp
 ·simp
theorem z4l {p:Prd} {x:wE} {r:Rep} (h:(p.legs r.inst).2.2=false):rU p x r=[r]:=by
 rw[rU,yWk (by rw[h];decide)]
theorem zXs {p:Prd} {x:wE} {r:Rep} (h:(p.legs r.inst).2.2=true):rU p x r=r::zIa p r (wQ p r.inst x).1 (wQ p r.inst x).2:=by
 rw[rU,yWl h]
theorem StI'.out_len (i:StI'):∀j,(i.out j).length≤3*j
 |0=>yXs _
 |j+1=>by
  have ih:=StI'.out_len i j
  rw[StI'.out]at ih ⊢
  rw[yXw,yYi,yWp]
  cases e:i.x.fills[j]? with
  |none=>simp only[Option.toList_none,y1u,yZg];omega
  |some f=>
   have:=zKv i.m.p i.x (zDh f)
   simp only[yZx,yYf,y1u,yXi]
   omega
theorem StI'.out_succ (i:StI') {j:Nat} {f:cH} (h:i.x.fills[j]? =some f):i.out (j+1)=i.out j++rU i.m.p i.x (zDh f):=by
 rw[StI'.out,StI'.out,yXw,yYi,h]
 simp
theorem yQn (i:StI') (h:mstepC.cnd i):yCu i:=by
 obtain⟨hf,hpr,hl,hcs,hfs⟩:i.m.fine∧yV i.x.price∧i.x.fills.length≤1000000∧(i.c.side=1∨i.c.side=2)∧∀f∈i.x.fills,f.side=1∨f.side=2:=h
 have e4:(i.x.fills.map yS).length=i.x.fills.length:=yWm ..
 unfold yCu b6 zBd zAc zBa fH fG qI dI
 refine⟨0,rfl,rfl,fun j=>j≤i.x.fills.length,fun j=>i.x.fills.length-j,yYa _,?_⟩
 intro j hj
 have ho:=i.out_len j
 have e5:((i.out j).map x6).length=(i.out j).length:=yWm ..
 refine zK (fun c=> ?_) (fun c=> ?_)
 ·obtain⟨f,hfj⟩:=z6 (l:=i.x.fills) (i:=j) (by omega)
  have hos:=i.out_succ hfj
  have hfj2:=hfs f (yWu hfj)
  refine⟨⟨by omega,by omega⟩,_,_,_,_,_,_,yRt hfj,by omega,⟨i.m,f.inst⟩,rfl,rfl,rfl,rfl,rfl,rfl,rfl,rfl,rfl,rfl,rfl,rfl,rfl,rfl,hf,fun _ _=>Cv.cnd.mk (fun e=> ?_) (fun e=> ?_)⟩
  ·have e:(i.m.p.legs (zDh f).inst).2.2=true:=e
   rw[zXs e]at hos
   refine⟨⟨i.m,f.inst,i.x⟩,rfl,rfl,rfl,rfl,rfl,rfl,rfl,rfl,rfl,rfl,rfl,rfl,rfl,rfl,rfl,rfl,rfl,rfl,⟨hf,hpr,hl⟩,fun _ _=>⟨⟨i.m,zDh f,(wQ i.m.p f.inst i.x).1,(wQ i.m.p f.inst i.x).2⟩,rfl,rfl,rfl,rfl,rfl,rfl,rfl,rfl,rfl,rfl,rfl,rfl,rfl,rfl,rfl,rfl,rfl,rfl,rfl,rfl,rfl,rfl,rfl,⟨hf,hfj2⟩,fun _ _=>⟨trivial,by rw[yWp,e5];simp only[yWs,yZg];omega,j+1,wjn (by omega),?_,by omega,by dsimp only;omega,by(repeat'(first|exact trivial|exact rfl|apply And.intro))⟩⟩⟩
   rw[hos,yWw,yWv]
   rfl
  ·have e:(i.m.p.legs (zDh f).inst).2.2=false:=e
   rw[z4l e]at hos
   refine⟨j+1,wjn (by omega),?_,by omega,by dsimp only;omega,by(repeat'(first|exact trivial|exact rfl|apply And.intro))⟩
   rw[hos,yWw];rfl
 ·have hj:j=i.x.fills.length:=by omega
  have ho2:i.x.fills.flatMap (fun f=>rU i.m.p i.x (zDh f))=i.out j:=by rw[StI'.out,hj,yXc (yXs _)]
  have hR:mH i.m.p i.c i.x i.left=i.out j++rU i.m.p i.x ⟨3,i.c.id,i.c.inst,i.c.side,i.x.price,i.x.qty,i.left,0⟩:=by rw[mH,ho2]
  refine⟨by omega,⟨i.m,i.c.inst⟩,rfl,rfl,rfl,rfl,rfl,rfl,rfl,rfl,rfl,rfl,rfl,rfl,rfl,rfl,hf,fun _ _=>Cv.cnd.mk (fun e=> ?_) (fun e=> ?_)⟩
  ·have e:(i.m.p.legs (⟨3,i.c.id,i.c.inst,i.c.side,i.x.price,i.x.qty,i.left,0⟩:Rep).inst).2.2=true:=e
   rw[zXs e]at hR
   refine⟨⟨i.m,i.c.inst,i.x⟩,rfl,rfl,rfl,rfl,rfl,rfl,rfl,rfl,rfl,rfl,rfl,rfl,rfl,rfl,rfl,rfl,rfl,rfl,⟨hf,hpr,hl⟩,fun _ _=>⟨⟨i.m,⟨3,i.c.id,i.c.inst,i.c.side,i.x.price,i.x.qty,i.left,0⟩,(wQ i.m.p i.c.inst i.x).1,(wQ i.m.p i.c.inst i.x).2⟩,rfl,rfl,rfl,rfl,rfl,rfl,rfl,rfl,rfl,rfl,rfl,rfl,rfl,rfl,rfl,rfl,rfl,rfl,rfl,rfl,rfl,rfl,rfl,⟨hf,hcs⟩,fun _ _=>⟨trivial,by rw[yWp,e5];simp only[yWs,yZg];omega,?_⟩⟩⟩
   rw[hR,yWw,yWv]
   exact kp
  ·have e:(i.m.p.legs (⟨3,i.c.id,i.c.inst,i.c.side,i.x.price,i.x.qty,i.left,0⟩:Rep).inst).2.2=false:=e
   rw[z4l e]at hR
   rw[hR,yWw]
   exact kp
theorem yDl:mstepC.ok Tryz.prog 208:=okw mixed (gokc yMm (gokc zYr (gokc z1k gok0))) 1 (fun _=>[]) (fun i=>yNg i) [] Tryz.func208 yQn
open Go Cv Go.Proofs
structure EnI where
 m:Mkt
 p:Prd
 B:List (List zJ)
 U:List Int
 c:Cmd
 X:MkX
@[reducible] def EnI.std (i:EnI):Prop:=i.m.Rep i.p i.B i.U∧BOk i.p i.B
@[reducible] def EnI.good (i:EnI):Prop:=(0≤i.c.inst∧i.c.inst<i.B.length)∧(1≤i.c.qty∧i.c.qty≤1000000)∧(i.c.side=1∨i.c.side=2)
@[reducible] def zXe (X:MkX) (p:Prd):Alt:={o:=Mkt,res:=fun _=> .own 5,post:=fun o=>zDd o++[zZc X.R],rel:=fun o=>o.Rep p X.B X.U}
def enterC:Con where
 ι:=EnI
 pat:=fun i=>[.nm 0 0,zNr i.c]
 pre:=fun i=>zDd i.m
 cnd:=fun i=>i.std∧i.good∧i.p.price i.c.inst i.c.price=0∧i.X=aZ i.p i.B i.U i.c
 alts:=fun i=>[zXe i.X i.p]
structure EnJ where
 left:Int
 k:Nat
 out:List Rep
def yQc (i:EnI):List SAnn:=[{ι:=EnJ,slots:=fun j=>[(5,.own 0),(8,zA j.left),(51,zA j.k)],rows:=fun j=>[zZc j.out]}]
def orderC:Con where
 ι:=EnI
 pat:=fun i=>[.nm 0 0,zNr i.c]
 pre:=fun i=>zDd i.m
 cnd:=fun i=>i.std∧i.c.right=0∧i.c.kind=1∧i.X=tL i.p i.B i.U i.c
 alts:=fun i=>[zXe i.X i.p]
def yQp:List (Nat×SAnn):=[(22,ij 6),(44,bj 47),(52,bj 69)]
structure CaI where
 m:Mkt
 p:Prd
 B:List (List zJ)
 U:List Int
 id:Int
 q:Int
 inst:Int
 o:zJ
 X:MkX
@[reducible] def CaI.std (i:CaI):Prop:=i.m.Rep i.p i.B i.U∧BOk i.p i.B
def cancelC:Con where
 ι:=CaI
 pat:=fun i=>[.nm 0 0,zA i.id,zA i.inst,z6s i.o]
 pre:=fun i=>zDd i.m
 cnd:=fun i=>i.std∧i.X=aQ i.B i.U i.id i.inst i.o
 alts:=fun i=>[zXe i.X i.p]
def reduceC:Con where
 ι:=CaI
 pat:=fun i=>[.nm 0 0,zA i.id,zA i.q,zA i.inst,z6s i.o]
 pre:=fun i=>zDd i.m
 cnd:=fun i=>i.std∧yV (i.o.qty-i.q)∧i.X=zDj i.B i.U i.id i.q i.inst i.o
 alts:=fun i=>[zXe i.X i.p]
structure z8g where
 m:Mkt
 p:Prd
 B:List (List zJ)
 U:List Int
 c:Cmd
 inst:Int
 o:zJ
 X:MkX
def replaceC:Con where
 ι:=z8g
 pat:=fun i=>[.nm 0 0,zNr i.c,zA i.inst,z6s i.o]
 pre:=fun i=>zDd i.m
 cnd:=fun i=>i.m.Rep i.p i.B i.U∧BOk i.p i.B∧yH i.B i.c.id=(i.inst,i.o,true)∧(1≤i.c.qty∧i.c.qty≤1000000)∧i.X=bT i.p i.B i.U i.c i.inst i.o
 alts:=fun i=>[zXe i.X i.p]
def doC:Con where
 ι:=EnI
 pat:=fun i=>[.nm 0 0,zNr i.c]
 pre:=fun i=>[fQ i.m]
 cnd:=fun i=>i.std∧i.c.label.length≤140737488355328∧yV i.c.qty∧i.X=doF i.p i.B i.U i.c
 alts:=fun i=>[{o:=Mkt,res:=fun _=> .own 1,post:=fun o=>[fQ o,zZc i.X.R],rel:=fun o=>o.Rep i.p i.X.B i.X.U}]
open Go Cv Go.Proofs
def zAi (a:Mkt) (b:EnI) (c:EnJ):Prop:=yD a.used=fB (Value.int IntKind.i64 b.c.id) [D.v (.bool true)] (yD b.m.used)∧AObj.fro 1 (iE a.p.months)=y3 b.m 3∧AObj.fro 1 (iE a.p.settle)=y3 b.m 4∧List.map x6 b.X.R=List.map x6 c.out∧a.Rep b.p b.X.B b.X.U
def vU (a:EnI):=(D.v (Value.string (sb a.c.label)))
def z8k (i:EnI):Prop:=
 (∀(a:Value×List D),a∈yD i.m.used→like (Value.int IntKind.i64 i.c.id) a.fst=true)∧∃(a:RunI),a.inst=i.c.inst∧zD a.sd=i.c.side∧a.price=i.c.price∧a.q=i.c.qty∧zE a.s=y3 i.m 1∧(qL a)∧∀(b:MSt),b.Rep a.p a.r.B→∃(c:EnJ),c.left=i.c.qty∧(↑c.k:Int)=0∧List.map x6 c.out=[[dI 1,dI i.c.id,dI i.c.inst,dI i.c.side,dI i.c.price,dI i.c.qty,dI i.c.qty,dI 0]]∧∃(d:EnJ→Prop),∃(e:EnJ→Nat),d c∧∀(f:EnJ),d f→cnd (decide ((↑f.k:Int)<(↑(List.map j9 a.r.steps).length:Int))) ((0≤(↑f.k:Int)∧(↑f.k:Int)<(↑(List.map j9 a.r.steps).length:Int))∧∃(g:Int),∃(h:Int),∃(j:Bool),∃(k:List (List D)),zF (List.map j9 a.r.steps) (↑f.k:Int).toNat 0 4=some [dI g,dI h,D.v (.bool j),D.ro 6 k]∧∃(l:StI'),l.c.kind=i.c.kind∧l.c.id=i.c.id∧l.c.inst=i.c.inst∧l.c.side=i.c.side∧l.c.price=i.c.price∧l.c.qty=i.c.qty∧l.c.least=i.c.least∧l.c.time=i.c.time∧sb l.c.label=sb i.c.label∧l.x.price=g∧l.x.qty=h∧l.x.implied=j∧List.map yS l.x.fills=k∧l.left=IntKind.i64.wrap (f.left-h)∧sb l.m.p.code=sb i.m.p.code∧l.m.p.tick=i.m.p.tick∧l.m.p.low=i.m.p.low∧l.m.p.high=i.m.p.high∧l.m.p.wide=i.m.p.wide∧l.m.p.rule=i.m.p.rule∧l.m.p.top=i.m.p.top∧l.m.p.least=i.m.p.least∧l.m.p.part=i.m.p.part∧zE l.m.s=zE b∧yD l.m.used=fB (Value.int IntKind.i64 i.c.id) [D.v (.bool true)] (yD i.m.used)∧AObj.fro 1 (iE l.m.p.months)=y3 i.m 3∧AObj.fro 1 (iE l.m.p.settle)=y3 i.m 4∧((l.m.p.check=0∧l.m.p.code.length≤1099511627776∧l.m.p.months.length≤1099511627776∧l.m.p.settle.length≤1099511627776)∧((-9223372036854775808)≤l.x.price∧l.x.price≤9223372036854775807)∧l.x.fills.length≤1000000∧(l.c.side=1∨l.c.side=2)∧∀(m:cH),m∈l.x.fills→m.side=1∨m.side=2)∧∀(m:Unit),True→((List.map x6 f.out).length+(List.map x6 (mH l.m.p l.c l.x l.left)).length)*(64:Nat)≤(140737488355328:Nat)∧∃(n:EnJ),n.left=IntKind.i64.wrap (f.left-h)∧(↑n.k:Int)=IntKind.i64.wrap ((↑f.k:Int)+1)∧List.map x6 n.out=List.map x6 f.out++List.map x6 (mH l.m.p l.c l.x l.left)∧d n∧e n<e f∧zE l.m.s=zE b∧AObj.own 321 4 (List.map j9 a.r.steps)=AObj.own 321 4 (List.map j9 a.r.steps)∧Sx.AObj.cells [V.d (dI i.c.kind),V.d (dI i.c.id),V.d (dI i.c.inst),V.d (dI i.c.side),V.d (dI i.c.price),V.d (dI i.c.qty),V.d (dI i.c.least),V.d (dI i.c.time),V.d (vU i)] 80=Sx.AObj.cells [V.d (dI i.c.kind),V.d (dI i.c.id),V.d (dI i.c.inst),V.d (dI i.c.side),V.d (dI i.c.price),V.d (dI i.c.qty),V.d (dI i.c.least),V.d (dI i.c.time),V.d (vU i)] 80∧Sx.AObj.cells (vK (cM 5 ((5:Nat)+(1:Nat)+1+((2:Nat)-(1:Nat))+(1:Nat)+(1:Nat)+1) ((6:Nat)-(5:Nat)) [((2:Nat),(2:Nat)),((1:Nat),(1:Nat)),((4:Nat),(4:Nat)),((3:Nat),(3:Nat)),((0:Nat),(0:Nat))]) [sV l.m.p.code,V.own 3,zA l.m.p.tick,zA l.m.p.low,zA l.m.p.high,zA l.m.p.wide,zA l.m.p.rule,zA l.m.p.top,zA l.m.p.least,zA l.m.p.part,V.own 4,V.nm 1 0,V.mp 2]) (179:TypeId)=y3 i.m 0∧Sx.AObj.map (yD l.m.used)=Sx.AObj.map (fB (Value.int IntKind.i64 i.c.id) [D.v (.bool true)] (yD i.m.used))∧AObj.fro 1 (iE l.m.p.months)=y3 i.m 3∧AObj.fro 1 (iE l.m.p.settle)=y3 i.m 4) (cnd (a.r.left==0) (∃(g:Mkt),sb g.p.code=sb i.m.p.code∧g.p.tick=i.m.p.tick∧g.p.low=i.m.p.low∧g.p.high=i.m.p.high∧g.p.wide=i.m.p.wide∧g.p.rule=i.m.p.rule∧g.p.top=i.m.p.top∧g.p.least=i.m.p.least∧g.p.part=i.m.p.part∧zE g.s=zE b∧zAi g i f) (cnd (i.c.time==1) (∃(g:SaI),g.inst=i.c.inst∧g.id=i.c.id∧zD g.sd=i.c.side∧g.price=i.c.price∧g.qty=a.r.left∧zE g.s=zE b∧((g.s.p.code.length≤1099511627776∧g.s.p.months.length≤1099511627776∧g.s.p.settle.length≤1099511627776)∧g.s.books.length≤1000000∧∀(h:Book),h∈g.s.books→(h.a.slots.length≤1000000∧(h.a.free≠0→∃(j:Slot),j∈h.a.slots∧j.used=false)∧∀(j:cF),j∈h.a.queues→j.last=(-1)∨0≤j.last∧j.last<(↑h.a.slots.length:Int))∧h.a.queues.length≤100000∧h.buys.length≤100000∧h.sells.length≤100000∧h.spare.length≤100000)∧∀(h:Unit),True→∃(j:Mkt),sb j.p.code=sb i.m.p.code∧j.p.tick=i.m.p.tick∧j.p.low=i.m.p.low∧j.p.high=i.m.p.high∧j.p.wide=i.m.p.wide∧j.p.rule=i.m.p.rule∧j.p.top=i.m.p.top∧j.p.least=i.m.p.least∧j.p.part=i.m.p.part∧zE j.s=zE (MSt.addF g).fst∧zAi j i f) (((List.map x6 f.out).length+1)*(64:Nat)≤(140737488355328:Nat)∧∃(g:Mkt),sb g.p.code=sb i.m.p.code∧g.p.tick=i.m.p.tick∧g.p.low=i.m.p.low∧g.p.high=i.m.p.high∧g.p.wide=i.m.p.wide∧g.p.rule=i.m.p.rule∧g.p.top=i.m.p.top∧g.p.least=i.m.p.least∧g.p.part=i.m.p.part∧zE g.s=zE b∧yD g.used=fB (Value.int IntKind.i64 i.c.id) [D.v (.bool true)] (yD i.m.used)∧AObj.fro 1 (iE g.p.months)=y3 i.m 3∧AObj.fro 1 (iE g.p.settle)=y3 i.m 4∧List.map x6 i.X.R=List.map x6 f.out++[[dI 4,dI i.c.id,dI i.c.inst,dI i.c.side,dI i.c.price,dI a.r.left,dI 0,dI 0]]∧g.Rep i.p i.X.B i.X.U)))
def zGp (a:EnI):Prop:=Sx.AObj.cells [V.d (dI a.c.kind),V.d (dI a.c.id),V.d (dI a.c.inst),V.d (dI a.c.side),V.d (dI a.c.price),V.d (dI a.c.qty),V.d (dI a.c.least),V.d (dI a.c.time),V.d (vU a)] 80=Sx.AObj.cells [V.d (dI a.c.kind),V.d (dI a.c.id),V.d (dI a.c.inst),V.d (dI a.c.side),V.d (dI a.c.price),V.d (dI a.c.qty),V.d (dI a.c.least),V.d (dI a.c.time),V.d (vU a)] 80∧y3 a.m 0=y3 a.m 0∧y3 a.m 2=y3 a.m 2∧y3 a.m 3=y3 a.m 3∧y3 a.m 4=y3 a.m 4
def zFd (a:Bool→Prop) (b:SoI) (c:EnI):Prop:=∃(d:Bool),d=false∧a d∧zE b.s=zE b.s∧zGp c
def zGe (a:Int→Prop) (b:Int) (c:EnI):Prop:=a b∧Sx.AObj.cells [V.d (dI c.c.kind),V.d (dI c.c.id),V.d (dI c.c.inst),V.d (dI c.c.side),V.d (dI c.c.price),V.d (dI c.c.qty),V.d (dI c.c.least),V.d (dI c.c.time),V.d (vU c)] 80=Sx.AObj.cells [V.d (dI c.c.kind),V.d (dI c.c.id),V.d (dI c.c.inst),V.d (dI c.c.side),V.d (dI c.c.price),V.d (dI c.c.qty),V.d (dI c.c.least),V.d (dI c.c.time),V.d (vU c)] 80∧y3 c.m 0=y3 c.m 0∧y3 c.m 1=y3 c.m 1∧y3 c.m 2=y3 c.m 2∧y3 c.m 3=y3 c.m 3∧y3 c.m 4=y3 c.m 4
def zEi (a:Bool→Prop) (b:Bool) (c:RunI) (d:SoI) (e:EnI):Prop:=a b∧zE c.s=zE d.s∧zGp e
def zBg (a:Mkt) (b:EnI) (c:RjI):Prop:=yD a.used=yD b.m.used∧AObj.fro 1 (iE a.p.months)=y3 b.m 3∧AObj.fro 1 (iE a.p.settle)=y3 b.m 4∧List.map x6 b.X.R=[x6 (Rep.mk 2 c.c.id 0 0 0 0 0 c.why)]∧a.Rep b.p b.X.B b.X.U
def zEx (a:EnI) (b:RjI):Prop:=True∧∀(c:Unit),True→∃(d:Mkt),sb d.p.code=sb a.m.p.code∧d.p.tick=a.m.p.tick∧d.p.low=a.m.p.low∧d.p.high=a.m.p.high∧d.p.wide=a.m.p.wide∧d.p.rule=a.m.p.rule∧d.p.top=a.m.p.top∧d.p.least=a.m.p.least∧d.p.part=a.m.p.part∧zE d.s=y3 a.m 1∧zBg d a b
def lI (a:EnI) (b:SoI) (c:RjI):Prop:=True∧∀(d:Unit),True→∃(e:Mkt),sb e.p.code=sb a.m.p.code∧e.p.tick=a.m.p.tick∧e.p.low=a.m.p.low∧e.p.high=a.m.p.high∧e.p.wide=a.m.p.wide∧e.p.rule=a.m.p.rule∧e.p.top=a.m.p.top∧e.p.least=a.m.p.least∧e.p.part=a.m.p.part∧zE e.s=zE b.s∧zBg e a c
def eT (a:EnI) (b:EnI):Prop:=∀(c:Mkt),c.Rep a.p a.X.B a.X.U→∃(d:Mkt),sb d.p.code=sb c.p.code∧d.p.tick=c.p.tick∧d.p.low=c.p.low∧d.p.high=c.p.high∧d.p.wide=c.p.wide∧d.p.rule=c.p.rule∧d.p.top=c.p.top∧d.p.least=c.p.least∧d.p.part=c.p.part∧zE d.s=zE c.s∧yD d.used=yD c.used∧AObj.fro 1 (iE d.p.months)=AObj.fro 1 (iE c.p.months)∧AObj.fro 1 (iE d.p.settle)=AObj.fro 1 (iE c.p.settle)∧List.map x6 b.X.R=List.map x6 a.X.R∧d.Rep b.p b.X.B b.X.U
def nN (a:EnI):Prop:=(a.m.Rep a.p a.B a.U∧BOk a.p a.B)∧((0≤a.c.inst∧a.c.inst<(↑a.B.length:Int))∧(1≤a.c.qty∧a.c.qty≤1000000)∧(a.c.side=1∨a.c.side=2))∧a.p.price a.c.inst a.c.price=0∧a.X=aZ a.p a.B a.U a.c
def yFr (i:EnI):Prop:=
 ∃(a:r9),sb a.p.code=sb i.m.p.code∧iE a.p.months=iE i.m.p.months∧a.p.tick=i.m.p.tick∧a.p.low=i.m.p.low∧a.p.high=i.m.p.high∧a.p.wide=i.m.p.wide∧a.p.rule=i.m.p.rule∧a.p.top=i.m.p.top∧a.p.least=i.m.p.least∧a.p.part=i.m.p.part∧iE a.p.settle=iE i.m.p.settle∧a.a=i.c.inst∧a.b=i.c.price∧(x0 a)∧∀(b:Unit),True→cnd (a.p.price a.a a.b !=0) (∃(c:RjI),c.c.kind=i.c.kind∧c.c.id=i.c.id∧c.c.inst=i.c.inst∧c.c.side=i.c.side∧c.c.price=i.c.price∧c.c.qty=i.c.qty∧c.c.least=i.c.least∧c.c.time=i.c.time∧sb c.c.label=sb i.c.label∧c.why=a.p.price a.a a.b∧zEx i c) (∃(c:Int),∃(d:Int→Prop),cnd (i.c.time==3) (∃(e:Int),e=i.c.qty∧zGe d e i) (∃(e:Int),e=i.c.least∧zGe d e i)∧∀(e:Int),d e→(∀(f:Value×List D),f∈yD i.m.used→like (Value.int IntKind.i64 i.c.id) f.fst=true)∧∃(f:Bool),∃(g:Bool),(uB (Value.int IntKind.i64 i.c.id) (yD i.m.used)=some [D.v (.bool g)]∧f=true∨uB (Value.int IntKind.i64 i.c.id) (yD i.m.used)=none∧[D.v (.bool g)]=[D.v (.bool false)]∧f=false)∧cnd g (∃(h:RjI),h.c.kind=i.c.kind∧h.c.id=i.c.id∧h.c.inst=i.c.inst∧h.c.side=i.c.side∧h.c.price=i.c.price∧h.c.qty=i.c.qty∧h.c.least=i.c.least∧h.c.time=i.c.time∧sb h.c.label=sb i.c.label∧h.why=25∧zEx i h) (∃(h:SoI),zE h.s=y3 i.m 1∧(h.s.Rep h.p h.B∧h.B.length≤1000)∧∀(j:Unit),True→cnd (decide ((↑(z8j h.B):Int)≥250)) (∃(k:RjI),k.c.kind=i.c.kind∧k.c.id=i.c.id∧k.c.inst=i.c.inst∧k.c.side=i.c.side∧k.c.price=i.c.price∧k.c.qty=i.c.qty∧k.c.least=i.c.least∧k.c.time=i.c.time∧sb k.c.label=sb i.c.label∧k.why=13∧lI i h k) (∃(k:Bool),∃(l:Bool→Prop),cnd (decide (e>0)) (∃(m:RunI),m.inst=i.c.inst∧zD m.sd=i.c.side∧m.price=i.c.price∧m.q=i.c.qty∧zE m.s=zE h.s∧(qL m)∧∀(n:Unit),True→∃(p:Bool),p=decide (m.q-m.r.left<e)∧zEi l p m h i) (zFd l h i)∧∀(m:Bool),l m→cnd m (∃(n:RjI),n.c.kind=i.c.kind∧n.c.id=i.c.id∧n.c.inst=i.c.inst∧n.c.side=i.c.side∧n.c.price=i.c.price∧n.c.qty=i.c.qty∧n.c.least=i.c.least∧n.c.time=i.c.time∧sb n.c.label=sb i.c.label∧n.why=28∧lI i h n) (∃(n:Bool),∃(p:Bool→Prop),cnd (i.c.time==1) (∃(q:RunI),q.inst=i.c.inst∧zD q.sd=i.c.side∧q.price=i.c.price∧q.q=i.c.qty∧zE q.s=zE h.s∧(qL q)∧∀(r:Unit),True→∃(s:Bool),s=bP q.p q.B q.inst q.sd q.price q.q∧zEi p s q h i) (zFd p h i)∧∀(q:Bool),p q→cnd q (∃(r:RjI),r.c.kind=i.c.kind∧r.c.id=i.c.id∧r.c.inst=i.c.inst∧r.c.side=i.c.side∧r.c.price=i.c.price∧r.c.qty=i.c.qty∧r.c.least=i.c.least∧r.c.time=i.c.time∧sb r.c.label=sb i.c.label∧r.why=23∧lI i h r) (∃(r:EnI),r.c.kind=i.c.kind∧r.c.id=i.c.id∧r.c.inst=i.c.inst∧r.c.side=i.c.side∧r.c.price=i.c.price∧r.c.qty=i.c.qty∧r.c.least=i.c.least∧r.c.time=i.c.time∧sb r.c.label=sb i.c.label∧sb r.m.p.code=sb i.m.p.code∧r.m.p.tick=i.m.p.tick∧r.m.p.low=i.m.p.low∧r.m.p.high=i.m.p.high∧r.m.p.wide=i.m.p.wide∧r.m.p.rule=i.m.p.rule∧r.m.p.top=i.m.p.top∧r.m.p.least=i.m.p.least∧r.m.p.part=i.m.p.part∧zE r.m.s=zE h.s∧yD r.m.used=yD i.m.used∧AObj.fro 1 (iE r.m.p.months)=y3 i.m 3∧AObj.fro 1 (iE r.m.p.settle)=y3 i.m 4∧(nN r)∧eT r i)))))
def yIz (i:CaI):Prop:=
 ∃(i_1:StI),i_1.id=i.id∧i_1.q=i.o.qty∧zE i_1.s=y3 i.m 1∧(i_1.s.Rep i_1.p i_1.B∧i_1.B.length≤1000)∧∀(o:MSt),o.Rep i_1.p (kK i_1.B i_1.id i_1.q).fst→∃(o_1:Mkt),sb o_1.p.code=sb i.m.p.code∧o_1.p.tick=i.m.p.tick∧o_1.p.low=i.m.p.low∧o_1.p.high=i.m.p.high∧o_1.p.wide=i.m.p.wide∧o_1.p.rule=i.m.p.rule∧o_1.p.top=i.m.p.top∧o_1.p.least=i.m.p.least∧o_1.p.part=i.m.p.part∧zE o_1.s=zE o∧yD o_1.used=yD i.m.used∧AObj.fro 1 (iE o_1.p.months)=y3 i.m 3∧AObj.fro 1 (iE o_1.p.settle)=y3 i.m 4∧List.map x6 i.X.R=[[D.v (.int .i64 4),D.v (.int .i64 i.id),D.v (.int .i64 i.inst),D.v (.int .i64 i.o.side),D.v (.int .i64 i.o.price),D.v (.int .i64 i.o.qty),D.v (.int .i64 0),D.v (.int .i64 0)]]∧o_1.Rep i.p i.X.B i.X.U
def z2m (i:CaI):Prop:=
 ∃(a:StI),a.id=i.id∧a.q=i.q∧zE a.s=y3 i.m 1∧(a.s.Rep a.p a.B∧a.B.length≤1000)∧∀(b:MSt),b.Rep a.p (kK a.B a.id a.q).fst→∃(c:Mkt),sb c.p.code=sb i.m.p.code∧c.p.tick=i.m.p.tick∧c.p.low=i.m.p.low∧c.p.high=i.m.p.high∧c.p.wide=i.m.p.wide∧c.p.rule=i.m.p.rule∧c.p.top=i.m.p.top∧c.p.least=i.m.p.least∧c.p.part=i.m.p.part∧zE c.s=zE b∧yD c.used=yD i.m.used∧AObj.fro 1 (iE c.p.months)=y3 i.m 3∧AObj.fro 1 (iE c.p.settle)=y3 i.m 4∧List.map x6 i.X.R=[[dI 5,dI i.id,dI i.inst,dI i.o.side,dI i.o.price,dI i.q,dI (IntKind.i64.wrap (i.o.qty-i.q)),dI 0]]∧c.Rep i.p i.X.B i.X.U
def rI (a:Mkt) (b:z8g) (c:RjI):Prop:=yD a.used=yD b.m.used∧AObj.fro 1 (iE a.p.months)=y3 b.m 3∧AObj.fro 1 (iE a.p.settle)=y3 b.m 4∧List.map x6 b.X.R=[x6 (Rep.mk 2 c.c.id 0 0 0 0 0 c.why)]∧a.Rep b.p b.X.B b.X.U
def zAe (a:z8g):Prop:=∃(b:MSt),zE b=y3 a.m 1∧(gK b)∧∀(c:Unit),True→∃(d:StI),d.id=a.c.id∧d.q=a.o.qty∧zE d.s=zE b∧(d.s.Rep d.p d.B∧d.B.length≤1000)∧∀(e:MSt),e.Rep d.p (kK d.B d.id d.q).fst→∃(f:RunI),f.inst=a.inst∧zD f.sd=a.o.side∧f.price=a.c.price∧f.q=a.c.qty∧zE f.s=zE e∧(qL f)∧∀(g:Unit),True→cnd (bP f.p f.B f.inst f.sd f.price f.q) (∃(h:RjI),h.c.kind=a.c.kind∧h.c.id=a.c.id∧h.c.inst=a.c.inst∧h.c.side=a.c.side∧h.c.price=a.c.price∧h.c.qty=a.c.qty∧h.c.least=a.c.least∧h.c.time=a.c.time∧sb h.c.label=sb a.c.label∧h.why=23∧True∧∀(j:Unit),True→∃(k:Mkt),sb k.p.code=sb a.m.p.code∧k.p.tick=a.m.p.tick∧k.p.low=a.m.p.low∧k.p.high=a.m.p.high∧k.p.wide=a.m.p.wide∧k.p.rule=a.m.p.rule∧k.p.top=a.m.p.top∧k.p.least=a.m.p.least∧k.p.part=a.m.p.part∧zE k.s=zE b∧rI k a h) (∃(h:CaI),h.id=a.c.id∧h.inst=a.inst∧h.o.id=a.o.id∧h.o.side=a.o.side∧h.o.price=a.o.price∧h.o.qty=a.o.qty∧h.o.top=a.o.top∧sb h.m.p.code=sb a.m.p.code∧h.m.p.tick=a.m.p.tick∧h.m.p.low=a.m.p.low∧h.m.p.high=a.m.p.high∧h.m.p.wide=a.m.p.wide∧h.m.p.rule=a.m.p.rule∧h.m.p.top=a.m.p.top∧h.m.p.least=a.m.p.least∧h.m.p.part=a.m.p.part∧zE h.m.s=zE b∧yD h.m.used=yD a.m.used∧AObj.fro 1 (iE h.m.p.months)=y3 a.m 3∧AObj.fro 1 (iE h.m.p.settle)=y3 a.m 4∧((h.m.Rep h.p h.B h.U∧BOk h.p h.B)∧h.X=aQ h.B h.U h.id h.inst h.o)∧∀(j:Mkt),j.Rep h.p h.X.B h.X.U→∃(k:EnI),k.c.kind=1∧k.c.id=a.c.id∧k.c.inst=a.inst∧k.c.side=a.o.side∧k.c.price=a.c.price∧k.c.qty=a.c.qty∧k.c.least=0∧k.c.time=1∧sb k.c.label=ByteArray.mk #[]∧sb k.m.p.code=sb j.p.code∧k.m.p.tick=j.p.tick∧k.m.p.low=j.p.low∧k.m.p.high=j.p.high∧k.m.p.wide=j.p.wide∧k.m.p.rule=j.p.rule∧k.m.p.top=j.p.top∧k.m.p.least=j.p.least∧k.m.p.part=j.p.part∧zE k.m.s=zE j.s∧yD k.m.used=yD j.used∧AObj.fro 1 (iE k.m.p.months)=AObj.fro 1 (iE j.p.months)∧AObj.fro 1 (iE k.m.p.settle)=AObj.fro 1 (iE j.p.settle)∧(nN k)∧∀(l:Mkt),l.Rep k.p k.X.B k.X.U→((List.map x6 h.X.R).length+(List.map x6 k.X.R).length)*(64:Nat)≤(140737488355328:Nat)∧∃(m:Mkt),sb m.p.code=sb l.p.code∧m.p.tick=l.p.tick∧m.p.low=l.p.low∧m.p.high=l.p.high∧m.p.wide=l.p.wide∧m.p.rule=l.p.rule∧m.p.top=l.p.top∧m.p.least=l.p.least∧m.p.part=l.p.part∧zE m.s=zE l.s∧yD m.used=yD l.used∧AObj.fro 1 (iE m.p.months)=AObj.fro 1 (iE l.p.months)∧AObj.fro 1 (iE m.p.settle)=AObj.fro 1 (iE l.p.settle)∧List.map x6 a.X.R=List.map x6 h.X.R++List.map x6 k.X.R∧m.Rep a.p a.X.B a.X.U)
def cV (a:CaI):Prop:=(a.m.Rep a.p a.B a.U∧BOk a.p a.B)∧((-9223372036854775808)≤a.o.qty-a.q∧a.o.qty-a.q≤9223372036854775807)∧a.X=zDj a.B a.U a.id a.q a.inst a.o
def zVt (i:z8g):Prop:=
 ∃(a:r9),sb a.p.code=sb i.m.p.code∧iE a.p.months=iE i.m.p.months∧a.p.tick=i.m.p.tick∧a.p.low=i.m.p.low∧a.p.high=i.m.p.high∧a.p.wide=i.m.p.wide∧a.p.rule=i.m.p.rule∧a.p.top=i.m.p.top∧a.p.least=i.m.p.least∧a.p.part=i.m.p.part∧iE a.p.settle=iE i.m.p.settle∧a.a=i.inst∧a.b=i.c.price∧(x0 a)∧∀(b:Unit),True→cnd (a.p.price a.a a.b !=0) (∃(c:RjI),c.c.kind=i.c.kind∧c.c.id=i.c.id∧c.c.inst=i.c.inst∧c.c.side=i.c.side∧c.c.price=i.c.price∧c.c.qty=i.c.qty∧c.c.least=i.c.least∧c.c.time=i.c.time∧sb c.c.label=sb i.c.label∧c.why=a.p.price a.a a.b∧True∧∀(d:Unit),True→∃(e:Mkt),sb e.p.code=sb i.m.p.code∧e.p.tick=i.m.p.tick∧e.p.low=i.m.p.low∧e.p.high=i.m.p.high∧e.p.wide=i.m.p.wide∧e.p.rule=i.m.p.rule∧e.p.top=i.m.p.top∧e.p.least=i.m.p.least∧e.p.part=i.m.p.part∧zE e.s=y3 i.m 1∧rI e i c) (cnd (i.c.price==i.o.price) (cnd (decide (i.c.qty≤i.o.qty)) (∃(c:CaI),c.id=i.c.id∧c.q=IntKind.i64.wrap (i.o.qty-i.c.qty)∧c.inst=i.inst∧c.o.id=i.o.id∧c.o.side=i.o.side∧c.o.price=i.o.price∧c.o.qty=i.o.qty∧c.o.top=i.o.top∧sb c.m.p.code=sb i.m.p.code∧c.m.p.tick=i.m.p.tick∧c.m.p.low=i.m.p.low∧c.m.p.high=i.m.p.high∧c.m.p.wide=i.m.p.wide∧c.m.p.rule=i.m.p.rule∧c.m.p.top=i.m.p.top∧c.m.p.least=i.m.p.least∧c.m.p.part=i.m.p.part∧zE c.m.s=y3 i.m 1∧yD c.m.used=yD i.m.used∧AObj.fro 1 (iE c.m.p.months)=y3 i.m 3∧AObj.fro 1 (iE c.m.p.settle)=y3 i.m 4∧(cV c)∧∀(d:Mkt),d.Rep c.p c.X.B c.X.U→∃(e:Mkt),sb e.p.code=sb d.p.code∧e.p.tick=d.p.tick∧e.p.low=d.p.low∧e.p.high=d.p.high∧e.p.wide=d.p.wide∧e.p.rule=d.p.rule∧e.p.top=d.p.top∧e.p.least=d.p.least∧e.p.part=d.p.part∧zE e.s=zE d.s∧yD e.used=yD d.used∧AObj.fro 1 (iE e.p.months)=AObj.fro 1 (iE d.p.months)∧AObj.fro 1 (iE e.p.settle)=AObj.fro 1 (iE d.p.settle)∧List.map x6 i.X.R=List.map x6 c.X.R∧e.Rep i.p i.X.B i.X.U) (zAe i)) (zAe i))
def zRg (a:Mkt) (b:EnI) (c:RjI):Prop:=yD a.used=yD b.m.used∧AObj.fro 1 (iE a.p.months)=AObj.fro 1 (iE b.m.p.months)∧AObj.fro 1 (iE a.p.settle)=AObj.fro 1 (iE b.m.p.settle)∧List.map x6 b.X.R=[x6 (Rep.mk 2 c.c.id 0 0 0 0 0 c.why)]∧a.Rep b.p b.X.B b.X.U
def zZj (a:CaI) (b:EnI):Prop:=∀(c:Mkt),c.Rep a.p a.X.B a.X.U→∃(d:Mkt),sb d.p.code=sb c.p.code∧d.p.tick=c.p.tick∧d.p.low=c.p.low∧d.p.high=c.p.high∧d.p.wide=c.p.wide∧d.p.rule=c.p.rule∧d.p.top=c.p.top∧d.p.least=c.p.least∧d.p.part=c.p.part∧zE d.s=zE c.s∧yD d.used=yD c.used∧AObj.fro 1 (iE d.p.months)=AObj.fro 1 (iE c.p.months)∧AObj.fro 1 (iE d.p.settle)=AObj.fro 1 (iE c.p.settle)∧List.map x6 b.X.R=List.map x6 a.X.R∧d.Rep b.p b.X.B b.X.U
def zZm (a:EnI) (b:StI):Prop:=∃(c:CaI),c.id=a.c.id∧c.inst=(yH b.B b.id).fst∧c.o.id=(yH b.B b.id).snd.fst.id∧c.o.side=(yH b.B b.id).snd.fst.side∧c.o.price=(yH b.B b.id).snd.fst.price∧c.o.qty=(yH b.B b.id).snd.fst.qty∧c.o.top=(yH b.B b.id).snd.fst.top∧sb c.m.p.code=sb a.m.p.code∧c.m.p.tick=a.m.p.tick∧c.m.p.low=a.m.p.low∧c.m.p.high=a.m.p.high∧c.m.p.wide=a.m.p.wide∧c.m.p.rule=a.m.p.rule∧c.m.p.top=a.m.p.top∧c.m.p.least=a.m.p.least∧c.m.p.part=a.m.p.part∧zE c.m.s=zE b.s∧yD c.m.used=yD a.m.used∧AObj.fro 1 (iE c.m.p.months)=AObj.fro 1 (iE a.m.p.months)∧AObj.fro 1 (iE c.m.p.settle)=AObj.fro 1 (iE a.m.p.settle)∧((c.m.Rep c.p c.B c.U∧BOk c.p c.B)∧c.X=aQ c.B c.U c.id c.inst c.o)∧zZj c a
def yEn (a:EnI):Prop:=∃(b:StI),b.id=a.c.id∧zE b.s=zE a.m.s∧(b.s.Rep b.p b.B∧b.B.length≤1000)∧∀(c:Unit),True→cnd (!(yH b.B b.id).snd.snd) (∃(d:RjI),d.c.kind=a.c.kind∧d.c.id=a.c.id∧d.c.inst=a.c.inst∧d.c.side=a.c.side∧d.c.price=a.c.price∧d.c.qty=a.c.qty∧d.c.least=a.c.least∧d.c.time=a.c.time∧sb d.c.label=sb a.c.label∧d.why=26∧True∧∀(e:Unit),True→∃(f:Mkt),sb f.p.code=sb a.m.p.code∧f.p.tick=a.m.p.tick∧f.p.low=a.m.p.low∧f.p.high=a.m.p.high∧f.p.wide=a.m.p.wide∧f.p.rule=a.m.p.rule∧f.p.top=a.m.p.top∧f.p.least=a.m.p.least∧f.p.part=a.m.p.part∧zE f.s=zE b.s∧zRg f a d) (cnd (a.c.kind==4) (∃(d:z8g),d.c.kind=a.c.kind∧d.c.id=a.c.id∧d.c.inst=a.c.inst∧d.c.side=a.c.side∧d.c.price=a.c.price∧d.c.qty=a.c.qty∧d.c.least=a.c.least∧d.c.time=a.c.time∧sb d.c.label=sb a.c.label∧d.inst=(yH b.B b.id).fst∧d.o.id=(yH b.B b.id).snd.fst.id∧d.o.side=(yH b.B b.id).snd.fst.side∧d.o.price=(yH b.B b.id).snd.fst.price∧d.o.qty=(yH b.B b.id).snd.fst.qty∧d.o.top=(yH b.B b.id).snd.fst.top∧sb d.m.p.code=sb a.m.p.code∧d.m.p.tick=a.m.p.tick∧d.m.p.low=a.m.p.low∧d.m.p.high=a.m.p.high∧d.m.p.wide=a.m.p.wide∧d.m.p.rule=a.m.p.rule∧d.m.p.top=a.m.p.top∧d.m.p.least=a.m.p.least∧d.m.p.part=a.m.p.part∧zE d.m.s=zE b.s∧yD d.m.used=yD a.m.used∧AObj.fro 1 (iE d.m.p.months)=AObj.fro 1 (iE a.m.p.months)∧AObj.fro 1 (iE d.m.p.settle)=AObj.fro 1 (iE a.m.p.settle)∧(d.m.Rep d.p d.B d.U∧BOk d.p d.B∧yH d.B d.c.id=(d.inst,d.o,true)∧(1≤d.c.qty∧d.c.qty≤1000000)∧d.X=bT d.p d.B d.U d.c d.inst d.o)∧∀(e:Mkt),e.Rep d.p d.X.B d.X.U→∃(f:Mkt),sb f.p.code=sb e.p.code∧f.p.tick=e.p.tick∧f.p.low=e.p.low∧f.p.high=e.p.high∧f.p.wide=e.p.wide∧f.p.rule=e.p.rule∧f.p.top=e.p.top∧f.p.least=e.p.least∧f.p.part=e.p.part∧zE f.s=zE e.s∧yD f.used=yD e.used∧AObj.fro 1 (iE f.p.months)=AObj.fro 1 (iE e.p.months)∧AObj.fro 1 (iE f.p.settle)=AObj.fro 1 (iE e.p.settle)∧List.map x6 a.X.R=List.map x6 d.X.R∧f.Rep a.p a.X.B a.X.U) (cnd (a.c.kind==2) (zZm a b) (cnd (decide (a.c.qty≥(yH b.B b.id).snd.fst.qty)) (zZm a b) (∃(d:CaI),d.id=a.c.id∧d.q=a.c.qty∧d.inst=(yH b.B b.id).fst∧d.o.id=(yH b.B b.id).snd.fst.id∧d.o.side=(yH b.B b.id).snd.fst.side∧d.o.price=(yH b.B b.id).snd.fst.price∧d.o.qty=(yH b.B b.id).snd.fst.qty∧d.o.top=(yH b.B b.id).snd.fst.top∧sb d.m.p.code=sb a.m.p.code∧d.m.p.tick=a.m.p.tick∧d.m.p.low=a.m.p.low∧d.m.p.high=a.m.p.high∧d.m.p.wide=a.m.p.wide∧d.m.p.rule=a.m.p.rule∧d.m.p.top=a.m.p.top∧d.m.p.least=a.m.p.least∧d.m.p.part=a.m.p.part∧zE d.m.s=zE b.s∧yD d.m.used=yD a.m.used∧AObj.fro 1 (iE d.m.p.months)=AObj.fro 1 (iE a.m.p.months)∧AObj.fro 1 (iE d.m.p.settle)=AObj.fro 1 (iE a.m.p.settle)∧(cV d)∧zZj d a))))
def Vdo (i:EnI):Prop:=
 ∃(a:Cmd),a.kind=i.c.kind∧a.id=i.c.id∧a.inst=i.c.inst∧a.side=i.c.side∧a.price=i.c.price∧a.qty=i.c.qty∧a.least=i.c.least∧a.time=i.c.time∧sb a.label=sb i.c.label∧a.label.length≤140737488355328∧∀(b:Unit),True→cnd (a.right !=0) (∃(c:RjI),c.c.kind=i.c.kind∧c.c.id=i.c.id∧c.c.inst=i.c.inst∧c.c.side=i.c.side∧c.c.price=i.c.price∧c.c.qty=i.c.qty∧c.c.least=i.c.least∧c.c.time=i.c.time∧sb c.c.label=sb i.c.label∧c.why=a.right∧True∧∀(d:Unit),True→∃(e:Mkt),sb e.p.code=sb i.m.p.code∧e.p.tick=i.m.p.tick∧e.p.low=i.m.p.low∧e.p.high=i.m.p.high∧e.p.wide=i.m.p.wide∧e.p.rule=i.m.p.rule∧e.p.top=i.m.p.top∧e.p.least=i.m.p.least∧e.p.part=i.m.p.part∧zE e.s=zE i.m.s∧zRg e i c) (cnd (i.c.kind==1) (∃(c:EnI),c.c.kind=i.c.kind∧c.c.id=i.c.id∧c.c.inst=i.c.inst∧c.c.side=i.c.side∧c.c.price=i.c.price∧c.c.qty=i.c.qty∧c.c.least=i.c.least∧c.c.time=i.c.time∧sb c.c.label=sb i.c.label∧sb c.m.p.code=sb i.m.p.code∧c.m.p.tick=i.m.p.tick∧c.m.p.low=i.m.p.low∧c.m.p.high=i.m.p.high∧c.m.p.wide=i.m.p.wide∧c.m.p.rule=i.m.p.rule∧c.m.p.top=i.m.p.top∧c.m.p.least=i.m.p.least∧c.m.p.part=i.m.p.part∧zE c.m.s=zE i.m.s∧yD c.m.used=yD i.m.used∧AObj.fro 1 (iE c.m.p.months)=AObj.fro 1 (iE i.m.p.months)∧AObj.fro 1 (iE c.m.p.settle)=AObj.fro 1 (iE i.m.p.settle)∧((c.m.Rep c.p c.B c.U∧BOk c.p c.B)∧c.c.right=0∧c.c.kind=1∧c.X=tL c.p c.B c.U c.c)∧eT c i) ((yEn i)∧i.c.id=i.c.id∧True∧yEn i))
open Go Cv Go.Proofs
theorem zGr (p:Prd) (B:List (List zJ)) (U:List Int) (c:Cmd):aZ p B U c=⟨if(wD p B c.inst (decide (c.side=2)) c.price c.qty).left≠0∧c.time=1 then(zZw p (wD p B c.inst (decide (c.side=2)) c.price c.qty).B c.inst c.id c.side c.price (wD p B c.inst (decide (c.side=2)) c.price c.qty).left).1 else(wD p B c.inst (decide (c.side=2)) c.price c.qty).B,zNz U c.id,
 (⟨1,c.id,c.inst,c.side,c.price,c.qty,c.qty,0⟩::pR p c (wD p B c.inst (decide (c.side=2)) c.price c.qty).steps c.qty)++if(wD p B c.inst (decide (c.side=2)) c.price c.qty).left≠0∧c.time≠1 then[⟨4,c.id,c.inst,c.side,c.price,(wD p B c.inst (decide (c.side=2)) c.price c.qty).left,0,0⟩]else[]⟩:=by
 rw[aZ]
theorem zOp {p:Prd} {B:List (List zJ)} (h:BWf p B) (U:List Int) (c:Cmd):BOk p (aZ p B U c).B:=by
 have:=(mG (inst:=c.inst) (sd:=decide (c.side=2)) (price:=c.price) _ c.qty B (yXs _) h).1.ok
 rw[zGr]
 dsimp only
 split
 ·exact this.add _ _ _ _ _
 ·exact this
theorem z6w {p:Prd} {B:List (List zJ)} (h:BWf p B) (U:List Int) (c:Cmd):BOk p (tL p B U c).B:=by
 rw[tL]
 split
 ·exact h.ok
 split
 ·exact h.ok
 split
 ·exact h.ok
 split
 ·exact h.ok
 split
 ·exact h.ok
 exact zOp h U c
theorem yBv {p:Prd} {B:List (List zJ)} (h:BWf p B) (U:List Int) (c:Cmd):BOk p (doF p B U c).B:=by
 rw[doF]
 split
 ·exact h.ok
 split
 ·exact z6w h U c
 split
 ·exact h.ok
 split
 ·rw[bT]
  split
  ·exact h.ok
  split
  ·exact h.ok.take _ _
  split
  ·exact h.ok
  exact zOp (h.take _ _) U _
 split
 ·exact h.ok.take _ _
 ·exact h.ok.take _ _
open Go Cv Go.Proofs
def Two (L:List zJ):Prop:=L=sN L 1++sN L 2
open Go Cv Go.Proofs
open Go Cv Go.Proofs
open Go Cv Go.Proofs
theorem tC {inst s:Int} {f:cH}:∀{os:List zJ} {sh:List Int},f∈xQ inst s os sh→f.side=s∧f.inst=inst∧∃o∈os,f.price=o.price
 |[],sh,h=>by cases h
 |o::os,[],h=>by cases h
 |o::os,k::sh,h=>by
  rw[xQ]at h
  split at h
  ·rcases yWz.1 h with rfl|h
   ·exact⟨rfl,rfl,o,yWr,rfl⟩
   ·obtain⟨a,b,o',c,d⟩:=tC h
    exact⟨a,b,o',yWq _ c,d⟩
  ·obtain⟨a,b,o',c,d⟩:=tC h
   exact⟨a,b,o',yWq _ c,d⟩
def FOk (f:cH):Prop:=(f.side=1∨f.side=2)∧-2000000≤f.price∧f.price≤2000000
theorem zFr {p:Prd} {B:List (List zJ)} (h:BOk p B) (inst:Int) {s:Int} (hs:s=1∨s=2) (q:Int):∀f∈qQ p B inst s q,FOk f:=by
 intro f hf
 obtain⟨a,_,o,ho,e⟩:=tC hf
 refine⟨by rw[a];exact hs,?_⟩
 rw[e]
 have ho:=(yYp.1 ho).1
 by_cases hk:inst.toNat<B.length
 ·obtain⟨L,hL⟩:=z6 hk
  rw[zT hL]at ho
  exact h.prices hL o ho
 ·rw[yWt,yXr (by omega)]at ho;cases ho
def SOk (t:wE):Prop:=(-2000000≤t.price∧t.price≤2000000)∧(∀f∈t.fills,FOk f)∧t.fills.length≤500
theorem yJf {p:Prd} {B:List (List zJ)} (h:BWf p B) {inst:Int} (hi:0≤inst∧inst<B.length) {s:Int} (hs:s=1∨s=2) (hn:(yR p B inst s).2.2=true): -2000000≤(yR p B inst s).1.price∧(yR p B inst s).1.price≤2000000:=by
 rw[yR]at hn ⊢
 obtain⟨L,hL⟩:=z6 (l:=B) (i:=inst.toNat) (by omega)
 rw[zT hL]at hn ⊢
 split
 ·exact zRy (h.ok.prices hL)
 ·rename_i c
  rw[yWk c]at hn
  have hm:=zEn hn
  have:=(yYp.1 hm).2
  exact sS h.ok.pc (yYq this)
theorem yHw {p:Prd} {B:List (List zJ)} (h:BWf p B) {inst:Int} (hi:0≤inst∧inst<B.length) {sd:Bool} {price q:Int} {t:wE} {B':List (List zJ)} (e:bX p B inst sd price q=some (t,B')):SOk t:=by
 have hs:zD (!sd)=1∨zD (!sd)=2:=zDb _
 have hb:=yJf h hi hs
 have hin:=z2o h.ok h.od hi hs
 rw[bX]at e
 dsimp only at e
 split at e
 ·rename_i c
  have c1:(yR p B inst (zD (!sd))).2.2=true:=by
   cases hx:(yR p B inst (zD (!sd))).2.2 with
   |false=>rw[hx]at c;cases c
   |true=>rfl
  have hb:=hb c1
  obtain⟨_,hin,_⟩:=hin c1
  split at e
  ·rename_i c2
   obtain⟨_,ok⟩:=hin c2
   cases e
   refine⟨hb,fun f hf=> ?_,?_⟩
   ·rcases yXh.1 hf with hf|hf
    ·exact zFr h.ok _ ok.sa _ f hf
    ·exact zFr h.ok.takes _ ok.sb _ f hf
   ·dsimp only
    rw[yWp]
    have:=nF (p:=p) h.od (yR p B inst (zD (!sd))).1.a.inst (yR p B inst (zD (!sd))).1.a.side (min q (yR p B inst (zD (!sd))).1.qty)
    have:=nF (p:=p) (h.takes (fs:=qQ p B (yR p B inst (zD (!sd))).1.a.inst (yR p B inst (zD (!sd))).1.a.side (min q (yR p B inst (zD (!sd))).1.qty))).od (yR p B inst (zD (!sd))).1.b.inst (yR p B inst (zD (!sd))).1.b.side (min q (yR p B inst (zD (!sd))).1.qty)
    omega
  ·cases e
   refine⟨hb,fun f hf=>zFr h.ok _ hs _ f hf,?_⟩
   have:=nF (p:=p) h.od inst (zD (!sd)) (min q (yR p B inst (zD (!sd))).1.qty)
   dsimp only
   omega
 ·cases e
open Go Cv Go.Proofs
open Go Cv Go.Proofs
def zAb (a:StI):Prop:=yW a.s.wh=yW a.s.wh∧AObj.fro 1 (iE a.s.p.months)=AObj.fro 1 (iE a.s.p.months)∧AObj.fro 1 (iE a.s.p.settle)=AObj.fro 1 (iE a.s.p.settle)∧True
def yBs (i:StI):Prop:=
 (aK i)∧∃(a:Bool),∃(b:Int),(pS i b a)∧cnd (!a) (∃(c:Unit),(yH i.B i.id).fst=0∧(yH i.B i.id).snd.fst.id=0∧(yH i.B i.id).snd.fst.side=0∧(yH i.B i.id).snd.fst.price=0∧(yH i.B i.id).snd.fst.qty=0∧(yH i.B i.id).snd.fst.top=false∧(yH i.B i.id).snd.snd=false∧sb i.s.p.code=sb i.s.p.code∧i.s.p.tick=i.s.p.tick∧i.s.p.low=i.s.p.low∧i.s.p.high=i.s.p.high∧i.s.p.wide=i.s.p.wide∧i.s.p.rule=i.s.p.rule∧i.s.p.top=i.s.p.top∧i.s.p.least=i.s.p.least∧i.s.p.part=i.s.p.part∧AObj.objs 241 Book 6 zS i.s.books none=AObj.objs 241 Book 6 zS i.s.books none∧zAb i) ((0≤b∧b<(↑i.s.books.length:Int))∧b.toNat<i.s.books.length∧∃(c:Book),i.s.books[b.toNat]?=some c∧∃(d:FlI),d.id=i.id∧z8 d.b=z8 c∧d.b.Rep d.L∧∀(e:Unit),True→∃(f:Book),z8 d.b=z8 f∧b.toNat=b.toNat∧b.toNat<i.s.books.length∧∃(g:Unit),(yH i.B i.id).fst=b∧(yH i.B i.id).snd.fst.id=(f8 d.L d.id).id∧(yH i.B i.id).snd.fst.side=(f8 d.L d.id).side∧(yH i.B i.id).snd.fst.price=(f8 d.L d.id).price∧(yH i.B i.id).snd.fst.qty=(f8 d.L d.id).qty∧(yH i.B i.id).snd.fst.top=(f8 d.L d.id).top∧(yH i.B i.id).snd.snd=true∧sb i.s.p.code=sb i.s.p.code∧i.s.p.tick=i.s.p.tick∧i.s.p.low=i.s.p.low∧i.s.p.high=i.s.p.high∧i.s.p.wide=i.s.p.wide∧i.s.p.rule=i.s.p.rule∧i.s.p.top=i.s.p.top∧i.s.p.least=i.s.p.least∧i.s.p.part=i.s.p.part∧AObj.objs 241 Book 6 zS i.s.books none=AObj.objs 241 Book 6 zS (i.s.books.set b.toNat f) none∧zAb i)
open Go Cv Go.Proofs
theorem yNs (i:StI) (h:sfindC.cnd i):yBs i:=by
 obtain⟨hR,hB⟩:i.s.Rep i.p i.B∧i.B.length≤1000:=h
 have hat:=hR.at_ i.id
 unfold yBs aK pS zAb dI
 rw[yH]
 cases hi:aG i.B i.id with
 |none=>
  rw[hi]at hat
  exact⟨dK _ _,false,0,.inr ⟨by rw[nH,hat];rfl,rfl,rfl⟩,Cv.cnd.mk (fun _=>⟨(),by(repeat'(first|exact trivial|exact rfl|apply And.intro))⟩) (fun e=>absurd e (by decide))⟩
 |some k=>
  rw[hi]at hat
  obtain⟨L,hL,hh⟩:=hU hi
  have hk:=(yWn.1 hL).1
  obtain⟨b,hb⟩:=z6 (l:=i.s.books) (i:=k) (by rw[hR.bl];exact hk)
  have hbR:=hR.bk k b L hb hL
  have hbl:=hR.bl
  refine⟨dK _ _,true,k,.inl ⟨by rw[nH,hat];rfl,rfl⟩,Cv.cnd.mk (fun e=>absurd e (by decide)) (fun _=> ?_)⟩
  dsimp only
  rw[yXf,zT hL]
  have hs:=vY hb
  refine⟨⟨by omega,by omega⟩,by omega,b,hb,⟨b,L,i.id,0⟩,rfl,rfl,hbR,fun _ _=>⟨b,rfl,rfl,by omega,(),?_⟩⟩
  rw[hs]
  (repeat'(first|exact trivial|exact rfl|apply And.intro))
theorem z8s:sfindC.ok Tryz.prog 114:=okw mixed (gokc zWh gok0) 0 (fun _=>[]) (fun _=>[]) [0] Tryz.func114 yNs
open Go Cv Go.Proofs
theorem zPr (id:Int) (U:List Int):∀p∈yD U,like (Value.int IntKind.i64 id) p.1=true:=by
 intro p hp
 obtain⟨k,_,rfl⟩:=yXm.1 hp
 rfl
theorem zQy (id:Int):∀U:List Int,fB (Value.int IntKind.i64 id) [D.v (.bool true)] (yD U)=yD (zNz U id)
 |[]=>rfl
 |k::U=>by
  have ih:=zQy id U
  have e:rV (Value.int IntKind.i64 id) (Value.int IntKind.i64 k)=decide (id=k):=by simp[rV,keq]
  show(bif rV (Value.int IntKind.i64 id) (Value.int IntKind.i64 k)then(Value.int IntKind.i64 k,[D.v (.bool true)])::yD U else(Value.int IntKind.i64 k,[D.v (.bool true)])::fB (Value.int IntKind.i64 id) [D.v (.bool true)] (yD U))=_
  rw[e,ih]
  by_cases c:id=k
  ·rw[yXb c,cond_true,zNz,yWl (by rw[c];exact yWr)];rfl
  ·rw[yWx c,cond_false,zNz,zNz]
   have hm:id∈k::U↔id∈U:=by simp[c]
   by_cases d:id∈U
   ·rw[yWl d,yWl (hm.2 d)];rfl
   ·rw[yWk d,yWk (fun x=>d (hm.1 x))];rfl
theorem zPv (id:Int):∀U:List Int,uB (Value.int IntKind.i64 id) (yD U)=if id∈U then some [D.v (.bool true)]else none
 |[]=>rfl
 |k::U=>by
  have ih:=zPv id U
  have e:rV (Value.int IntKind.i64 id) (Value.int IntKind.i64 k)=decide (id=k):=by simp[rV,keq]
  show(bif rV (Value.int IntKind.i64 id) (Value.int IntKind.i64 k)then some [D.v (.bool true)]else uB (Value.int IntKind.i64 id) (yD U))=_
  rw[e,ih]
  by_cases c:id=k
  ·rw[yXb c,cond_true,yWl (by rw[c];exact yWr)]
  ·rw[yWx c,cond_false]
   have hm:id∈k::U↔id∈U:=by simp[c]
   by_cases d:id∈U
   ·rw[yWl d,yWl (hm.2 d)]
   ·rw[yWk d,yWk (fun x=>d (hm.1 x))]
theorem yFv (id:Int) (U:List Int):uB (Value.int IntKind.i64 id) (yD U)=some [D.v (.bool (decide (id∈U)))]∧decide (id∈U)=true∨uB (Value.int IntKind.i64 id) (yD U)=none∧[D.v (.bool (decide (id∈U)))]=[D.v (.bool false)]∧decide (id∈U)=false:=by
 rw[zPv]
 by_cases c:id∈U
 ·rw[yWl c,yXb c];exact .inl ⟨rfl,rfl⟩
 ·rw[yWk c,yWx c];exact .inr ⟨rfl,rfl,rfl⟩
theorem zSc {p:Prd} {inst:Int} {sd:Bool} {price:Int}:∀(m:Nat) (q:Int) (B:List (List zJ)),q.toNat≤m→BWf p B→0≤inst∧inst<B.length→
 (∀t∈(wD p B inst sd price q).steps,SOk t∧1≤t.qty)∧((wD p B inst sd price q).steps.map (·.qty)).sum=q-(wD p B inst sd price q).left
 |m,q,B,hm,h,hi=>by
  by_cases hq:q≤0
  ·rw[tD (.inl hq)];exact⟨fun t ht=>(by cases ht),by simp⟩
  cases hs:bX p B inst sd price q with
  |none=>rw[tD (.inr hs)];exact⟨fun t ht=>(by cases ht),by simp⟩
  |some x=>
   obtain⟨t,C⟩:=x
   obtain⟨k1,k2⟩:=zOo h hs
   have hq2:=zMx (by omega) hs
   cases m with
   |zero=>omega
   |succ m=>
   obtain⟨i1,i2⟩:=zSc (p:=p) (inst:=inst) (sd:=sd) (price:=price) m (q-t.qty) C (by omega) k1 (by rw[k2];exact hi)
   rw[zJm (by omega) hs]
   refine⟨fun u hu=> ?_,?_⟩
   ·rcases yWz.1 hu with rfl|hu
    ·exact⟨yHw h hi hs,hq2.1⟩
    ·exact i1 u hu
   ·dsimp only
    rw[yWy,yXy,i2];omega
theorem yKq {α:Type} {f:α→List Rep} (hf:∀x,(f x).length≤3):∀l:List α,(l.flatMap f).length≤3*l.length
 |[]=>yXs _
 |x::l=>by
  have:=yKq hf l
  have:=hf x
  rw[yYf,yWp,yWs];omega
theorem zQl (p:Prd) (c:Cmd) (x:wE) (left:Int):(mH p c x left).length≤3*x.fills.length+3:=by
 rw[mH,yWp]
 have:=yKq (fun f=>zKv p x (zDh f)) x.fills
 have:=zKv p x ⟨3,c.id,c.inst,c.side,x.price,x.qty,left,0⟩
 omega
theorem zTf {l:List wE} (h:∀t∈l,SOk t∧1≤t.qty):(l.length:Int)≤(l.map (·.qty)).sum:=by
 induction l with
 |nil=>exact y0b _
 |cons t l ih=>
  have:=ih fun u hu=>h u (yWq _ hu)
  have:=(h t yWr).2
  rw[yWy,yXy,yWs];omega
theorem yPf (i:EnI) (h:enterC.cnd i):z8k i:=by
 obtain⟨m,p,B,U,c,X⟩:=i
 have h':(m.Rep p B U∧BOk p B)∧((0≤c.inst∧c.inst<B.length)∧(1≤c.qty∧c.qty≤1000000)∧(c.side=1∨c.side=2))∧p.price c.inst c.price=0∧X=aZ p B U c:=h
 clear h
 obtain⟨⟨⟨ep,hR,eu⟩,hB⟩,⟨⟨h0,h1⟩,hq,hs⟩,hpz,hX⟩:=h'
 subst ep eu hX
 have hwf:=hR.wf hB
 obtain⟨k1,k2,k3⟩:=mG (inst:=c.inst) (sd:=decide (c.side=2)) (price:=c.price) _ c.qty B (yXs _) hwf
 have k3:=k3 (by omega)
 obtain⟨s1,s2⟩:=zSc (inst:=c.inst) (sd:=decide (c.side=2)) (price:=c.price) _ c.qty B (yXs _) hwf ⟨h0,h1⟩
 have hX:=zGr m.p B m.used c
 have hbd:=sS hB.pc hpz
 unfold z8k qL vU zAi dI
 dsimp only
 rw[zQy,hX]
 refine⟨zPr _ _,⟨m.s,m.p,B,c.inst,decide (c.side=2),c.price,c.qty⟩,rfl,gS hs,rfl,rfl,rfl,⟨hR,hB,⟨h0,h1⟩,hq.1,hq.2⟩,fun o ho=> ?_⟩
 have er:RunI.r ⟨m.s,m.p,B,c.inst,decide (c.side=2),c.price,c.qty⟩=wD m.p B c.inst (decide (c.side=2)) c.price c.qty:=rfl
 rw[er]at ho ⊢
 clear hX er
 generalize wD m.p B c.inst (decide (c.side=2)) c.price c.qty=R at*
 obtain⟨ts,lf,RB⟩:=R
 dsimp only at*
 have hlen:=zTf s1
 have e4:(ts.map j9).length=ts.length:=yWm ..
 refine⟨⟨c.qty,0,[⟨1,c.id,c.inst,c.side,c.price,c.qty,c.qty,0⟩]⟩,rfl,rfl,rfl,fun j=>j.k≤ts.length∧j.left=lf+((ts.drop j.k).map (·.qty)).sum∧(⟨1,c.id,c.inst,c.side,c.price,c.qty,c.qty,0⟩::pR m.p c ts c.qty)=j.out++pR m.p c (ts.drop j.k) j.left∧j.out.length≤1+1503*j.k,fun j=>ts.length-j.k,⟨yYa _,by dsimp only;rw[y0i,s2];omega,rfl,yXs _⟩,?_⟩
 rintro⟨left,k,out⟩ ⟨j1,j2,j3,j4⟩
 dsimp only at j1 j2 j3 j4 ⊢
 have e5:(out.map x6).length=out.length:=yWm ..
 refine zK (fun c1=> ?_) (fun c1=> ?_)
 ·obtain⟨t,ht⟩:=z6 (l:=ts) (i:=k) (by omega)
  have hd:ts.drop k=t::ts.drop (k+1):=by rw[yZk (by omega),(yWn.1 ht).2]
  obtain⟨⟨t1,t2,t3⟩,t4⟩:=s1 t (yWu ht)
  have hsd:=zTf (l:=ts.drop (k+1)) fun u hu=>s1 u (y0n hu)
  have hsk:((ts.drop k).map (·.qty)).sum≤(ts.map (·.qty)).sum:=by
   have:=zTf (l:=ts.take k) fun u hu=>s1 u (y2b hu)
   have e:(ts.map (·.qty)).sum=((ts.take k).map (·.qty)).sum+((ts.drop k).map (·.qty)).sum:=by
    rw[← y2p,← yWw,yYw]
   omega
  rw[hd,yWy,yXy]at j2 hsk
  rw[hd,pR]at j3
  have hrl:=zQl m.p c t (left-t.qty)
  have e6:((mH m.p c t (left-t.qty)).map x6).length=(mH m.p c t (left-t.qty)).length:=yWm ..
  have hw:IntKind.i64.wrap (left-t.qty)=left-t.qty:=w64 (by omega)
  refine⟨⟨by omega,by omega⟩,t.price,t.qty,t.implied,t.fills.map yS,elA ht (by simp[j9]) rfl,?_⟩
  rw[hw]
  refine⟨⟨⟨m.p,o,zNz m.used c.id⟩,c,t,left-t.qty⟩,rfl,rfl,rfl,rfl,rfl,rfl,rfl,rfl,rfl,rfl,rfl,rfl,rfl,rfl,rfl,rfl,rfl,rfl,rfl,rfl,rfl,rfl,rfl,rfl,rfl,rfl,rfl,⟨⟨hB.pc,hB.ps⟩,⟨by dsimp only;omega,by dsimp only;omega⟩,by dsimp only;omega,hs,fun f hf=>(t2 f hf).1⟩,fun _ _=>⟨by dsimp only;rw[e5,e6];omega,⟨left-t.qty,k+1,out++mH m.p c t (left-t.qty)⟩,rfl,wjn (by omega),by dsimp only;rw[yWw],⟨by dsimp only;omega,by dsimp only;omega,by dsimp only;rw[j3,yWv],by dsimp only;rw[yWp];omega⟩,by dsimp only;omega,by(repeat'(first|exact trivial|exact rfl|apply And.intro))⟩⟩
 have hk:k=ts.length:=by omega
 subst hk
 rw[List.drop_of_length_le (yXs _)]at j2 j3
 rw[pR,yXi]at j3
 rw[← j3]
 rw[← j3]at e5 j4
 have hRB:=k1.ok
 refine Cv.cnd.mk (fun e=> ?_) (fun e=>Cv.cnd.mk (fun e2=> ?_) (fun e2=> ?_))
 ·have e:lf=0:=by simpa using e
  rw[yWk (by omega),yWk (by omega),yXi]
  exact⟨⟨m.p,o,zNz m.used c.id⟩,rfl,rfl,rfl,rfl,rfl,rfl,rfl,rfl,rfl,rfl,rfl,rfl,rfl,rfl,rfl,ho,rfl⟩
 ·have e:¬lf=0:=by simpa using e
  have e2:c.time=1:=by simpa using e2
  rw[yWk (show ¬(lf≠0∧c.time≠1)by omega),yWl (show lf≠0∧c.time=1 from⟨e,e2⟩),yXi]
  have ha:=(ho.add c.inst c.id (decide (c.side=2)) c.price lf).1
  rw[gS hs]at ha
  exact⟨⟨o,c.inst,c.id,decide (c.side=2),c.price,lf⟩,rfl,rfl,gS hs,rfl,rfl,rfl,ho.fit hRB,fun _ _=>⟨⟨m.p,(MSt.addF ⟨o,c.inst,c.id,decide (c.side=2),c.price,lf⟩).1,zNz m.used c.id⟩,rfl,rfl,rfl,rfl,rfl,rfl,rfl,rfl,rfl,rfl,rfl,rfl,rfl,rfl,rfl,ha,rfl⟩⟩
 ·have e:¬lf=0:=by simpa using e
  have e2:¬c.time=1:=by simpa using e2
  rw[yWl (show lf≠0∧c.time≠1 from⟨e,e2⟩),yWk (show ¬(lf≠0∧c.time=1)by omega)]
  exact⟨by rw[e5];omega,⟨m.p,o,zNz m.used c.id⟩,rfl,rfl,rfl,rfl,rfl,rfl,rfl,rfl,rfl,rfl,rfl,rfl,rfl,by rw[yWw];rfl,rfl,ho,rfl⟩
theorem zWe:enterC.ok Tryz.prog 169:=okw mixed (gokc z0s (gokc yDl (gokc yIq gok0))) 0 (fun _=>[]) (fun i=>yQc i) [] Tryz.func169 yPf
theorem zPx:cancelC.ok Tryz.prog 116:=okw (V:=yIz) mixed (gokc zCb gok0) 0 (fun _=>[]) (fun _=>[]) [] Tryz.func116 fun(i:CaI) h=>by
 obtain⟨m,p,B,U,id,q,inst,o,X⟩:=i
 have h':(m.Rep p B U∧BOk p B)∧X=aQ B U id inst o:=h
 clear h
 obtain⟨⟨⟨ep,hR,eu⟩,hB⟩,hX⟩:=h'
 subst ep eu hX
 have:=xS m.p
 have:=hB.bl
 exact⟨⟨m.s,m.p,B,id,o.qty⟩,rfl,rfl,rfl,⟨hR,by dsimp only;omega⟩,fun o' ho=>⟨⟨m.p,o',m.used⟩,rfl,rfl,rfl,rfl,rfl,rfl,rfl,rfl,rfl,rfl,rfl,rfl,rfl,rfl,rfl,ho,rfl⟩⟩
theorem zQg:reduceC.ok Tryz.prog 117:=okw (V:=z2m) mixed (gokc zCb gok0) 0 (fun _=>[]) (fun _=>[]) [] Tryz.func117 fun(i:CaI) h=>by
 obtain⟨m,p,B,U,id,q,inst,o,X⟩:=i
 have h':(m.Rep p B U∧BOk p B)∧yV (o.qty-q)∧X=zDj B U id q inst o:=h
 clear h
 obtain⟨⟨⟨ep,hR,eu⟩,hB⟩,hw,hX⟩:=h'
 subst ep eu hX
 have:=xS m.p
 have:=hB.bl
 have hw:=w64 hw
 unfold z2m dI
 dsimp only
 rw[hw]
 exact⟨⟨m.s,m.p,B,id,q⟩,rfl,rfl,rfl,⟨hR,by dsimp only;omega⟩,fun o' ho=>⟨⟨m.p,o',m.used⟩,rfl,rfl,rfl,rfl,rfl,rfl,rfl,rfl,rfl,rfl,rfl,rfl,rfl,rfl,rfl,ho,rfl⟩⟩
theorem zOr {c:Cmd} (h:c.right=0):(if c.kind=1 then c.orderE else if c.kind≠2∧vD c.qty=false then 24 else if c.kind=4∧fZ c.price=false then 23 else 0)=0:=by
 rw[Cmd.right]at h
 by_cases c1:c.kind<1∨4<c.kind
 ·rw[yWl c1]at h;cases h
 rw[yWk c1]at h
 by_cases c2:c.id<1∨1099511627776<c.id
 ·rw[yWl c2]at h;cases h
 rw[yWk c2]at h
 exact h
theorem z7g {c:Cmd} (h:c.right=0) (hk:c.kind=1):(c.side=1∨c.side=2)∧(1≤c.qty∧c.qty≤1000000)∧(0≤c.least∧c.least≤c.qty):=by
 have h:=zOr h
 rw[yWl hk,Cmd.orderE]at h
 by_cases c1:c.side≠1∧c.side≠2
 ·rw[yWl c1]at h;cases h
 rw[yWk c1]at h
 by_cases c2:c.time<1∨3<c.time
 ·rw[yWl c2]at h;cases h
 rw[yWk c2]at h
 cases c3:vD c.qty with
 |false=>rw[yWl c3]at h;cases h
 |true=>
  rw[yWk (by rw[c3];decide)]at h
  by_cases c4:c.least<0∨c.qty<c.least
  ·rw[yWl c4]at h;cases h
  simp only[vD,yXa,yYm]at c3
  exact⟨by omega,c3,by omega⟩
theorem zQq {c:Cmd} (h:c.right=0) (hk:¬c.kind=1) (hk2:¬c.kind=2):1≤c.qty∧c.qty≤1000000:=by
 have h:=zOr h
 rw[yWk hk]at h
 cases c3:vD c.qty with
 |false=>rw[yWl ⟨hk2,c3⟩]at h;cases h
 |true=>
  simp only[vD,yXa,yYm]at c3
  exact c3
theorem yNo (i:EnI) (h:orderC.cnd i):yFr i:=by
 obtain⟨m,p,B,U,c,X⟩:=i
 have h':(m.Rep p B U∧BOk p B)∧c.right=0∧c.kind=1∧X=tL p B U c:=h
 clear h
 obtain⟨⟨hM,hB⟩,hr,hkd,hX⟩:=h'
 obtain⟨ep,hR,eu⟩:=hM
 subst ep eu
 have hM:m.Rep m.p B m.used:=⟨rfl,hR,rfl⟩
 obtain⟨hs,hq,hl⟩:=z7g hr hkd
 have hbl:=hB.bl
 have hcl:=xS m.p
 unfold yFr qL eT lI zEx zBg zEi zGe zFd zGp vU nN x0 dI
 dsimp only
 refine⟨⟨m.p,c.inst,c.price⟩,rfl,rfl,rfl,rfl,rfl,rfl,rfl,rfl,rfl,rfl,rfl,rfl,rfl,hB.ps,fun _ _=>Cv.cnd.mk (fun e=> ?_) (fun e=> ?_)⟩
 ·have e:m.p.price c.inst c.price≠0:=by simpa using e
  have hx:X=⟨B,m.used,p9 c (m.p.price c.inst c.price)⟩:=by rw[hX,tL,yWl e]
  exact⟨⟨c,m.p.price c.inst c.price⟩,rfl,rfl,rfl,rfl,rfl,rfl,rfl,rfl,rfl,rfl,trivial,fun _ _=>⟨m,rfl,rfl,rfl,rfl,rfl,rfl,rfl,rfl,rfl,rfl,rfl,rfl,rfl,by rw[hx];rfl,by rw[hx];exact hM⟩⟩
 have hpz:m.p.price c.inst c.price=0:=by simpa using e
 have hin:=zVo hpz
 have hib:0≤c.inst∧c.inst<B.length:=by omega
 rw[tL,yWk (by rw[hpz];decide)]at hX
 refine⟨0,fun l=>l=c.lst,Cv.cnd.mk (fun e=>⟨c.qty,rfl,by rw[Cmd.lst,yWl (by simpa using e)],by(repeat'(first|exact trivial|exact rfl|apply And.intro))⟩) (fun e=>⟨c.least,rfl,by rw[Cmd.lst,yWk (by simpa using e)],by(repeat'(first|exact trivial|exact rfl|apply And.intro))⟩),?_⟩
 rintro _ rfl
 refine⟨zPr _ _,_,_,yFv _ _,zK (fun e=> ?_) (fun e=> ?_)⟩
 ·have hx:X=⟨B,m.used,p9 c 25⟩:=by rw[hX,yWl e]
  exact⟨⟨c,25⟩,rfl,rfl,rfl,rfl,rfl,rfl,rfl,rfl,rfl,rfl,trivial,fun _ _=>⟨m,rfl,rfl,rfl,rfl,rfl,rfl,rfl,rfl,rfl,rfl,rfl,rfl,rfl,by rw[hx];rfl,by rw[hx];exact hM⟩⟩
 rw[yWk e]at hX
 refine⟨⟨m.s,m.p,B,0,false⟩,rfl,⟨hR,by dsimp only;omega⟩,fun _ _=>zK (fun e=> ?_) (fun e=> ?_)⟩
 ·have hx:X=⟨B,m.used,p9 c 13⟩:=by rw[hX,yWl (by dsimp only at e;omega)]
  exact⟨⟨c,13⟩,rfl,rfl,rfl,rfl,rfl,rfl,rfl,rfl,rfl,rfl,trivial,fun _ _=>⟨m,rfl,rfl,rfl,rfl,rfl,rfl,rfl,rfl,rfl,rfl,rfl,rfl,rfl,by rw[hx];rfl,by rw[hx];exact hM⟩⟩
 rw[yWk (by dsimp only at e;omega)]at hX
 have hok:RunI.ok ⟨m.s,m.p,B,c.inst,decide (c.side=2),c.price,c.qty⟩:=⟨hR,hB,hib,hq.1,hq.2⟩
 refine⟨true,fun b=>b=decide (0<c.lst∧c.qty-(wD m.p B c.inst (decide (c.side=2)) c.price c.qty).left<c.lst),zK (fun e=>⟨⟨m.s,m.p,B,c.inst,decide (c.side=2),c.price,c.qty⟩,rfl,gS hs,rfl,rfl,rfl,hok,fun _ _=>⟨_,rfl,decide_eq_decide.2 ⟨fun x=>⟨e,x⟩,fun x=>x.2⟩,by(repeat'(first|exact trivial|exact rfl|apply And.intro))⟩⟩) (fun e=>⟨false,rfl,(yWx fun x=>e x.1).symm,by(repeat'(first|exact trivial|exact rfl|apply And.intro))⟩),?_⟩
 rintro _ rfl
 refine zK (fun e=> ?_) (fun e=> ?_)
 ·have hx:X=⟨B,m.used,p9 c 28⟩:=by rw[hX,yWl e]
  exact⟨⟨c,28⟩,rfl,rfl,rfl,rfl,rfl,rfl,rfl,rfl,rfl,rfl,trivial,fun _ _=>⟨m,rfl,rfl,rfl,rfl,rfl,rfl,rfl,rfl,rfl,rfl,rfl,rfl,rfl,by rw[hx];rfl,by rw[hx];exact hM⟩⟩
 rw[yWk e]at hX
 refine⟨true,fun b=>b=decide (c.time=1∧bP m.p B c.inst (decide (c.side=2)) c.price c.qty=true),Cv.cnd.mk (fun e=>⟨⟨m.s,m.p,B,c.inst,decide (c.side=2),c.price,c.qty⟩,rfl,gS hs,rfl,rfl,rfl,hok,fun _ _=>⟨_,rfl,?_,by(repeat'(first|exact trivial|exact rfl|apply And.intro))⟩⟩) (fun e=>⟨false,rfl,(yWx fun x=> ?_).symm,by(repeat'(first|exact trivial|exact rfl|apply And.intro))⟩),?_⟩
 ·have e:c.time=1:=by simpa using e
  dsimp only
  cases hb:bP m.p B c.inst (decide (c.side=2)) c.price c.qty with
  |true=>exact(yXb ⟨e,rfl⟩).symm
  |false=>exact(yWx fun x=>by cases x.2).symm
 ·rw[x.1]at e;cases e
 rintro _ rfl
 refine zK (fun e=> ?_) (fun e=> ?_)
 ·have hx:X=⟨B,m.used,p9 c 23⟩:=by rw[hX,yWl e]
  exact⟨⟨c,23⟩,rfl,rfl,rfl,rfl,rfl,rfl,rfl,rfl,rfl,rfl,trivial,fun _ _=>⟨m,rfl,rfl,rfl,rfl,rfl,rfl,rfl,rfl,rfl,rfl,rfl,rfl,rfl,by rw[hx];rfl,by rw[hx];exact hM⟩⟩
 rw[yWk e]at hX
 exact⟨⟨m,m.p,B,m.used,c,X⟩,rfl,rfl,rfl,rfl,rfl,rfl,rfl,rfl,rfl,rfl,rfl,rfl,rfl,rfl,rfl,rfl,rfl,rfl,rfl,rfl,rfl,rfl,⟨⟨hM,hB⟩,⟨hib,hq,hs⟩,hpz,hX⟩,fun o ho=>⟨o,rfl,rfl,rfl,rfl,rfl,rfl,rfl,rfl,rfl,rfl,rfl,rfl,rfl,rfl,ho⟩⟩
theorem yEy:orderC.ok Tryz.prog 113:=okw mixed (gokc sW (gokc z0h (gokc zZo (gokc z7y (gokc zWj (gokc zWe gok0)))))) 0 (fun _=>yQp) (fun _=>[]) [] Tryz.func113 yNo
theorem z4m {p:Prd} {B:List (List zJ)} (h:BWf p B) {id inst:Int} {o:zJ} (hf:yH B id=(inst,o,true)):(0≤inst∧inst<B.length)∧zJh o:=by
 rw[yH]at hf
 split at hf
 ·cases hf
 ·rename_i k hk
  obtain⟨L,hL,hh⟩:=hU hk
  rw[zT hL]at hf
  cases hf
  have hlt:=(yWn.1 hL).1
  obtain⟨o,ho,e⟩:=yXm.1 (hasId_iff.1 hh)
  have hg:=pH (h.od k L hL).2.1 ho
  rw[e]at hg
  rw[hg]
  exact⟨by omega,(h.od k L hL).1 o ho⟩
theorem zLj (p:Prd) (c:Cmd):∀(l:List wE) (left:Int),(∀t∈l,SOk t∧1≤t.qty)→(pR p c l left).length≤1503*l.length
 |[],_,_=>yXs _
 |t::l,left,h=>by
  have a:=zLj p c l (left-t.qty) fun u hu=>h u (yWq _ hu)
  have b:=zQl p c t (left-t.qty)
  have d:=(h t yWr).1.2.2
  rw[pR,yWp,yWs];omega
theorem z1d {p:Prd} {B:List (List zJ)} (h:BWf p B) (U:List Int) {c:Cmd} (hi:0≤c.inst∧c.inst<B.length) (hq:1≤c.qty∧c.qty≤1000000):(aZ p B U c).R.length≤1503000002:=by
 obtain⟨s1,s2⟩:=zSc (inst:=c.inst) (sd:=decide (c.side=2)) (price:=c.price) _ c.qty B (yXs _) h hi
 have k3:=(mG (inst:=c.inst) (sd:=decide (c.side=2)) (price:=c.price) _ c.qty B (yXs _) h).2.2 (by omega)
 have:=zTf s1
 have:=zLj p c _ c.qty s1
 rw[zGr]
 dsimp only
 rw[yWp,yWs]
 split
 ·rw[yWs,yZg];omega
 ·rw[yZg];omega
theorem z8p (i:z8g) (h:replaceC.cnd i):zVt i:=by
 obtain⟨m,p,B,U,c,inst,o,X⟩:=i
 have h':m.Rep p B U∧BOk p B∧yH B c.id=(inst,o,true)∧(1≤c.qty∧c.qty≤1000000)∧X=bT p B U c inst o:=h
 clear h
 obtain⟨hM,hB,hf,hq,hX⟩:=h'
 obtain⟨ep,hR,eu⟩:=hM
 subst ep eu
 have hM:m.Rep m.p B m.used:=⟨rfl,hR,rfl⟩
 have hwf:=hR.wf hB
 obtain⟨hin,hoo⟩:=z4m hwf hf
 have hos:=hoo.s
 have hoq:=hoo.q
 have hbl:=hB.bl
 have hcl:=xS m.p
 unfold zVt zAe qL gK wO nN cV rI x0
 dsimp only
 refine⟨⟨m.p,inst,c.price⟩,rfl,rfl,rfl,rfl,rfl,rfl,rfl,rfl,rfl,rfl,rfl,rfl,rfl,hB.ps,fun _ _=>Cv.cnd.mk (fun e=> ?_) (fun e=> ?_)⟩
 ·have e:m.p.price inst c.price≠0:=by simpa using e
  have hx:X=⟨B,m.used,p9 c (m.p.price inst c.price)⟩:=by rw[hX,bT,yWl e]
  exact⟨⟨c,m.p.price inst c.price⟩,rfl,rfl,rfl,rfl,rfl,rfl,rfl,rfl,rfl,rfl,trivial,fun _ _=>⟨m,rfl,rfl,rfl,rfl,rfl,rfl,rfl,rfl,rfl,rfl,rfl,rfl,rfl,by rw[hx];rfl,by rw[hx];exact hM⟩⟩
 have hpz:m.p.price inst c.price=0:=by simpa using e
 rw[bT,yWk (by rw[hpz];decide)]at hX
 have hw:IntKind.i64.wrap (o.qty-c.qty)=o.qty-c.qty:=w64 (by omega)
 rw[hw]
 refine(fun hT=>Cv.cnd.mk (fun e1=>zK (fun e2=> ?_) (fun e2=>hT fun x=>e2 x.2)) (fun e1=>hT fun x=>by rw[x.1]at e1;simp at e1)) (fun(hn:¬(c.price=o.price∧c.qty≤o.qty))=> ?_)
 ·have e1:c.price=o.price:=by simpa using e1
  rw[yWl ⟨e1,e2⟩]at hX
  exact⟨⟨m,m.p,B,m.used,c.id,o.qty-c.qty,inst,o,X⟩,rfl,rfl,rfl,rfl,rfl,rfl,rfl,rfl,rfl,rfl,rfl,rfl,rfl,rfl,rfl,rfl,rfl,rfl,rfl,rfl,rfl,⟨⟨hM,hB⟩,⟨by dsimp only;omega,by dsimp only;omega⟩,hX⟩,fun o' ho=>⟨o',rfl,rfl,rfl,rfl,rfl,rfl,rfl,rfl,rfl,rfl,rfl,rfl,rfl,rfl,ho⟩⟩
 rw[yWk hn]at hX
 have hBt:=hB.take c.id o.qty
 refine⟨m.s,rfl,hR.small hB,fun _ _=>⟨⟨m.s,m.p,B,c.id,o.qty⟩,rfl,rfl,rfl,⟨hR,by dsimp only;omega⟩,fun o' ho'=>⟨⟨o',m.p,(kK B c.id o.qty).1,inst,decide (o.side=2),c.price,c.qty⟩,rfl,gS hos,rfl,rfl,rfl,⟨ho',hBt,by dsimp only;rw[tT];exact hin,hq.1,hq.2⟩,fun _ _=>Cv.cnd.mk (fun e=> ?_) (fun e=> ?_)⟩⟩⟩
 ·have hx:X=⟨B,m.used,p9 c 23⟩:=by rw[hX,yWl e]
  exact⟨⟨c,23⟩,rfl,rfl,rfl,rfl,rfl,rfl,rfl,rfl,rfl,rfl,trivial,fun _ _=>⟨m,rfl,rfl,rfl,rfl,rfl,rfl,rfl,rfl,rfl,rfl,rfl,rfl,rfl,by rw[hx];rfl,by rw[hx];exact hM⟩⟩
 rw[yWk (by rw[e];decide)]at hX
 refine⟨⟨m,m.p,B,m.used,c.id,0,inst,o,aQ B m.used c.id inst o⟩,rfl,rfl,rfl,rfl,rfl,rfl,rfl,rfl,rfl,rfl,rfl,rfl,rfl,rfl,rfl,rfl,rfl,rfl,rfl,rfl,⟨⟨hM,hB⟩,rfl⟩,fun o1 ho1=>⟨⟨o1,m.p,(kK B c.id o.qty).1,m.used,⟨1,c.id,inst,o.side,c.price,c.qty,0,1,[]⟩,aZ m.p (kK B c.id o.qty).1 m.used ⟨1,c.id,inst,o.side,c.price,c.qty,0,1,[]⟩⟩,rfl,rfl,rfl,rfl,rfl,rfl,rfl,rfl,rfl,rfl,rfl,rfl,rfl,rfl,rfl,rfl,rfl,rfl,rfl,rfl,rfl,rfl,⟨⟨ho1,hBt⟩,⟨by dsimp only;rw[tT];exact hin,hq,hos⟩,hpz,rfl⟩,fun o2 ho2=>⟨?_,o2,rfl,rfl,rfl,rfl,rfl,rfl,rfl,rfl,rfl,rfl,rfl,rfl,rfl,?_,?_⟩⟩⟩
 ·have:=z1d (hwf.take c.id o.qty) m.used (c:=⟨1,c.id,inst,o.side,c.price,c.qty,0,1,[]⟩) (by dsimp only;rw[tT];exact hin) hq
  dsimp only
  rw[yWm,yWm]
  have e1:(aQ B m.used c.id inst o).R.length=1:=rfl
  omega
 ·rw[hX,← yWw];rfl
 ·rw[hX];exact ho2
theorem zYv:replaceC.ok Tryz.prog 115:=okw mixed (gokc sW (gokc z0h (gokc zCc (gokc zCb (gokc zWj (gokc zPx (gokc zQg (gokc zWe gok0)))))))) 0 (fun _=>[]) (fun _=>[]) [] Tryz.func115 z8p
theorem vdo (i:EnI) (h:doC.cnd i):Vdo i:=by
 obtain⟨m,p,B,U,c,X⟩:=i
 have h':(m.Rep p B U∧BOk p B)∧c.label.length≤140737488355328∧yV c.qty∧X=doF p B U c:=h
 clear h
 obtain⟨⟨hM,hB⟩,hlb,hqr,hX⟩:=h'
 obtain⟨ep,hR,eu⟩:=hM
 subst ep eu
 have hM:m.Rep m.p B m.used:=⟨rfl,hR,rfl⟩
 have hwf:=hR.wf hB
 have hbl:=hB.bl
 have hcl:=xS m.p
 unfold Vdo eT yEn cV zZm zZj zRg
 dsimp only
 refine⟨c,rfl,rfl,rfl,rfl,rfl,rfl,rfl,rfl,rfl,hlb,fun _ _=>Cv.cnd.mk (fun e=> ?_) (fun e=> ?_)⟩
 ·have e:c.right≠0:=by simpa using e
  have hx:X=⟨B,m.used,p9 c c.right⟩:=by rw[hX,doF,yWl e]
  exact⟨⟨c,c.right⟩,rfl,rfl,rfl,rfl,rfl,rfl,rfl,rfl,rfl,rfl,trivial,fun _ _=>⟨m,rfl,rfl,rfl,rfl,rfl,rfl,rfl,rfl,rfl,rfl,rfl,rfl,rfl,by rw[hx];rfl,by rw[hx];exact hM⟩⟩
 have hr:c.right=0:=by simpa using e
 rw[doF,yWk (by rw[hr];decide)]at hX
 refine Cv.cnd.mk (fun e=> ?_) (fun e=> ?_)
 ·have e:c.kind=1:=by simpa using e
  rw[yWl e]at hX
  exact⟨⟨m,m.p,B,m.used,c,X⟩,rfl,rfl,rfl,rfl,rfl,rfl,rfl,rfl,rfl,rfl,rfl,rfl,rfl,rfl,rfl,rfl,rfl,rfl,rfl,rfl,rfl,rfl,⟨⟨hM,hB⟩,hr,e,hX⟩,fun o ho=>⟨o,rfl,rfl,rfl,rfl,rfl,rfl,rfl,rfl,rfl,rfl,rfl,rfl,rfl,rfl,ho⟩⟩
 have hk:¬c.kind=1:=by simpa using e
 rw[yWk hk]at hX
 refine(fun hT=>⟨hT,rfl,trivial,hT⟩) ?_
 refine⟨⟨m.s,m.p,B,c.id,0⟩,rfl,rfl,⟨hR,by dsimp only;omega⟩,fun _ _=>Cv.cnd.mk (fun e=> ?_) (fun e=> ?_)⟩
 ·have e:(yH B c.id).2.2=false:=by simpa using e
  have hx:X=⟨B,m.used,p9 c 26⟩:=by rw[hX,yWl e]
  exact⟨⟨c,26⟩,rfl,rfl,rfl,rfl,rfl,rfl,rfl,rfl,rfl,rfl,trivial,fun _ _=>⟨m,rfl,rfl,rfl,rfl,rfl,rfl,rfl,rfl,rfl,rfl,rfl,rfl,rfl,by rw[hx];rfl,by rw[hx];exact hM⟩⟩
 have e:(yH B c.id).2.2=true:=by simpa using e
 rw[yWk (by rw[e];decide)]at hX
 dsimp only
 have hf:yH B c.id=((yH B c.id).1,(yH B c.id).2.1,true):=by rw[← e]
 generalize (yH B c.id).1=inst at*
 generalize (yH B c.id).2.1=o at*
 obtain⟨hin,hoo⟩:=z4m hwf hf
 have hoq:=hoo.q
 refine Cv.cnd.mk (fun e4=> ?_) (fun e4=>Cv.cnd.mk (fun e2=> ?_) (fun e2=>zK (fun e3=> ?_) (fun e3=> ?_)))
 ·have e4:c.kind=4:=by simpa using e4
  rw[yWl e4]at hX
  exact⟨⟨m,m.p,B,m.used,c,inst,o,X⟩,rfl,rfl,rfl,rfl,rfl,rfl,rfl,rfl,rfl,rfl,rfl,rfl,rfl,rfl,rfl,rfl,rfl,rfl,rfl,rfl,rfl,rfl,rfl,rfl,rfl,rfl,rfl,rfl,⟨hM,hB,hf,zQq hr hk (by rw[e4];decide),hX⟩,fun o' ho=>⟨o',rfl,rfl,rfl,rfl,rfl,rfl,rfl,rfl,rfl,rfl,rfl,rfl,rfl,rfl,ho⟩⟩
 all_goals
  have e4:¬c.kind=4:=by simpa using e4
  rw[yWk e4]at hX
 ·have e2:c.kind=2:=by simpa using e2
  rw[yWl (.inl e2)]at hX
  exact⟨⟨m,m.p,B,m.used,c.id,0,inst,o,X⟩,rfl,rfl,rfl,rfl,rfl,rfl,rfl,rfl,rfl,rfl,rfl,rfl,rfl,rfl,rfl,rfl,rfl,rfl,rfl,rfl,⟨⟨hM,hB⟩,hX⟩,fun o' ho=>⟨o',rfl,rfl,rfl,rfl,rfl,rfl,rfl,rfl,rfl,rfl,rfl,rfl,rfl,rfl,ho⟩⟩
 ·rw[yWl (.inr (by omega))]at hX
  exact⟨⟨m,m.p,B,m.used,c.id,0,inst,o,X⟩,rfl,rfl,rfl,rfl,rfl,rfl,rfl,rfl,rfl,rfl,rfl,rfl,rfl,rfl,rfl,rfl,rfl,rfl,rfl,rfl,⟨⟨hM,hB⟩,hX⟩,fun o' ho=>⟨o',rfl,rfl,rfl,rfl,rfl,rfl,rfl,rfl,rfl,rfl,rfl,rfl,rfl,rfl,ho⟩⟩
 ·have e2:¬c.kind=2:=by simpa using e2
  have hq:=zQq hr hk e2
  rw[yWk (by omega)]at hX
  exact⟨⟨m,m.p,B,m.used,c.id,c.qty,inst,o,X⟩,rfl,rfl,rfl,rfl,rfl,rfl,rfl,rfl,rfl,rfl,rfl,rfl,rfl,rfl,rfl,rfl,rfl,rfl,rfl,rfl,rfl,⟨⟨hM,hB⟩,⟨by dsimp only;omega,by dsimp only;omega⟩,hX⟩,fun o' ho=>⟨o',rfl,rfl,rfl,rfl,rfl,rfl,rfl,rfl,rfl,rfl,rfl,rfl,rfl,rfl,ho⟩⟩
theorem yLp:doC.ok Tryz.prog 50:=okw mixed (gokc z8o (gokc z0h (gokc z8s (gokc yEy (gokc zYv (gokc zPx (gokc zQg gok0))))))) 0 (fun _=>[]) (fun _=>[]) [0] Tryz.func50 vdo
open Go Cv Go.Proofs
open Go Cv Go.Proofs
open Go Cv Go.Proofs
theorem z9o (t:TmI):1≤(qR t).qty∧(qR t).qty≤12:=by
 have:=xI (n:=t.c.qty) (lo:=0) (hi:=11) (by omega)
 have e:(qR t).qty=1+zI t.c.qty 0 11:=by rw[qR];split<;>rfl
 omega
theorem z0x (t:TmI):(qR t).label=[]:=by
 rw[qR];split<;>rfl
open Go Cv Go.Proofs
open Go Cv Go.Proofs
open Go Cv Go.Proofs
theorem yUn {l:List Cmd} {k:Nat} {c:Cmd} (h:l[k]? =some c):zF (l.map cmdE) k 0 9=some [D.v (.int .i64 c.kind),.v (.int .i64 c.id),.v (.int .i64 c.inst),.v (.int .i64 c.side),.v (.int .i64 c.price),.v (.int .i64 c.qty),.v (.int .i64 c.least),.v (.int .i64 c.time),.v (.string (sb c.label))]:=elA h (by simp[cmdE]) rfl
def mk0 (p:Prd):Mkt:=⟨p,a9 p,[]⟩
theorem z2e (p:Prd):(mk0 p).Rep p (List.replicate p.count []) []:=⟨rfl,zZu _,rfl⟩
open Go Cv Go.Proofs
open Go Cv Go.Proofs
open Go Cv Go.Proofs
open Go Cv Go.Proofs
structure RB where
 l:List UInt8
 b:Bool
open Go Cv Go.Proofs
end Sx
