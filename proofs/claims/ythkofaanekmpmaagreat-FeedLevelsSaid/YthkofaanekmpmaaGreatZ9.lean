/- Texts of ours, one behind the other: a walk that the kernel reckons, and contracts of functions. No condition. -/
import Derived.Test.YthkofaanekmpmaaGreatZ8
namespace Sx
set_option linter.unusedVariables false
set_option maxRecDepth 100000
open Go Cv Go.Proofs
def yWm (i:RjI):Prop:=
 ∃(o:Unit),[xZ (Rep.mk 2 i.c.id 0 0 0 0 0 i.why)]=[[D.v (.int .i64 2),D.v (.int .i64 i.c.id),D.v (.int .i64 0),D.v (.int .i64 0),D.v (.int .i64 0),D.v (.int .i64 0),D.v (.int .i64 0),D.v (.int .i64 i.why)]]∧True
def vY (a:MsI):Prop:=a.r.kind=a.r.kind∧a.r.id=a.r.id∧a.r.inst=a.r.inst∧a.r.side=a.r.side∧a.r.price=a.r.price∧a.r.qty=a.r.qty∧a.r.left=a.r.left∧a.r.why=a.r.why∧True
def gT (a:MsI):=(Rep.mk a.r.kind a.r.id (a.m.p.legs a.r.inst).snd.fst (3-a.r.side) a.far a.r.qty a.r.left a.r.why)
def gY (a:MsI):=(Rep.mk a.r.kind a.r.id (a.m.p.legs a.r.inst).fst a.r.side a.near a.r.qty a.r.left a.r.why)
def tJ (a:MsI) (b:dR):Prop:=(vY a)∧(vY a)∧(vY a)∧(vY a)∧(vY a)∧a.r.side=a.r.side∧∃(c:Unit),sb a.m.p.code=sb a.m.p.code∧a.m.p.tick=a.m.p.tick∧a.m.p.low=a.m.p.low∧a.m.p.high=a.m.p.high∧a.m.p.wide=a.m.p.wide∧a.m.p.rule=a.m.p.rule∧a.m.p.top=a.m.p.top∧a.m.p.least=a.m.p.least∧a.m.p.part=a.m.p.part∧zF a.m.s=yZ a.m 1∧yD a.m.used=yD a.m.used∧AObj.fro 1 (iE a.m.p.months)=yZ a.m 3∧AObj.fro 1 (iE a.m.p.settle)=yZ a.m 4∧[xZ (gY a),xZ (gT a)]=[[dI a.r.kind,dI a.r.id,dI ((b.p.legs b.n).fst),dI a.r.side,dI a.near,dI a.r.qty,dI a.r.left,dI a.r.why],[dI a.r.kind,dI a.r.id,dI (wO b),dI (IntKind.i64.wrap (3-a.r.side)),dI a.far,dI a.r.qty,dI a.r.left,dI a.r.why]]∧True
def zUh (i:MsI):Prop:=
 ∃(a:dR),sb a.p.code=sb i.m.p.code∧iE a.p.months=iE i.m.p.months∧a.p.tick=i.m.p.tick∧a.p.low=i.m.p.low∧a.p.high=i.m.p.high∧a.p.wide=i.m.p.wide∧a.p.rule=i.m.p.rule∧a.p.top=i.m.p.top∧a.p.least=i.m.p.least∧a.p.part=i.m.p.part∧iE a.p.settle=iE i.m.p.settle∧a.n=i.r.inst∧(kM a)∧∀(b:Unit),True→(tJ i a)∧tJ i a
def yVd (i:MiN):Prop:=
 ∃(i_1:dR),sb i_1.p.code=sb i.m.p.code∧iE i_1.p.months=iE i.m.p.months∧i_1.p.tick=i.m.p.tick∧i_1.p.low=i.m.p.low∧i_1.p.high=i.m.p.high∧i_1.p.wide=i.m.p.wide∧i_1.p.rule=i.m.p.rule∧i_1.p.top=i.m.p.top∧i_1.p.least=i.m.p.least∧i_1.p.part=i.m.p.part∧iE i_1.p.settle=iE i.m.p.settle∧i_1.n=i.inst∧(i_1.p.code.length≤1099511627776∧i_1.p.months.length≤1099511627776∧i_1.p.settle.length≤1099511627776)∧∀(o:Unit),True→∃(o:Unit),(i.m.p.legs i.inst).snd.snd=(i_1.p.legs i_1.n).snd.snd∧sb i.m.p.code=sb i.m.p.code∧i.m.p.tick=i.m.p.tick∧i.m.p.low=i.m.p.low∧i.m.p.high=i.m.p.high∧i.m.p.wide=i.m.p.wide∧i.m.p.rule=i.m.p.rule∧i.m.p.top=i.m.p.top∧i.m.p.least=i.m.p.least∧i.m.p.part=i.m.p.part∧zF i.m.s=yZ i.m 1∧yD i.m.used=yD i.m.used∧AObj.fro 1 (iE i.m.p.months)=yZ i.m 3∧AObj.fro 1 (iE i.m.p.settle)=yZ i.m 4∧True
def zSs (a:OfI):Prop:=a.x.price=a.x.price∧a.x.qty=a.x.qty∧a.x.implied=a.x.implied∧AObj.fro 6 (List.map yS a.x.fills)=AObj.fro 6 (List.map yS a.x.fills)∧True
def Vof (i:OfI):Prop:=
 ∃(a:Nat),(↑a:Int)=0∧∃(b:Nat→Prop),∃(c:Nat→Nat),b a∧∀(d:Nat),b d→cnd (decide ((↑d:Int)<(↑(List.map yS i.x.fills).length:Int))) ((0≤(↑d:Int)∧(↑d:Int)<(↑(List.map yS i.x.fills).length:Int))∧∃(e:Int),∃(f:Int),∃(g:Int),∃(h:Int),∃(j:Int),∃(k:Int),zE (List.map yS i.x.fills) (↑d:Int).toNat 0 6=some [dI e,dI f,dI g,dI h,dI j,dI k]∧cnd (f==i.k) (∃(l:Unit),ofF i.x i.k=h∧zSs i) (∃(l:Nat),(↑l:Int)=IntKind.i64.wrap ((↑d:Int)+1)∧b l∧c l<c d∧Sx.AObj.cells [zA i.x.price,zA i.x.qty,z7 i.x.implied,V.own 1] (321:TypeId)=Sx.AObj.cells [zA i.x.price,zA i.x.qty,z7 i.x.implied,V.own 1] (321:TypeId)∧AObj.fro 6 (List.map yS i.x.fills)=AObj.fro 6 (List.map yS i.x.fills))) (∃(e:Unit),ofF i.x i.k=i.x.price∧zSs i)
def pB (a:MpI):Prop:=sb a.m.p.code=sb a.m.p.code∧a.m.p.tick=a.m.p.tick∧a.m.p.low=a.m.p.low∧a.m.p.high=a.m.p.high∧a.m.p.wide=a.m.p.wide∧a.m.p.rule=a.m.p.rule∧a.m.p.top=a.m.p.top∧a.m.p.least=a.m.p.least∧a.m.p.part=a.m.p.part∧zF a.m.s=yZ a.m 1∧yD a.m.used=yD a.m.used∧AObj.fro 1 (iE a.m.p.months)=yZ a.m 3∧AObj.fro 1 (iE a.m.p.settle)=yZ a.m 4∧True
def x7 (a:MpI):=(wJ a.m.p a.inst a.x)
def zXo (i:MpI):Prop:=
 cnd (!i.x.implied) (∃(a:LpI),sb a.p.code=sb i.m.p.code∧iE a.p.months=iE i.m.p.months∧a.p.tick=i.m.p.tick∧a.p.low=i.m.p.low∧a.p.high=i.m.p.high∧a.p.wide=i.m.p.wide∧a.p.rule=i.m.p.rule∧a.p.top=i.m.p.top∧a.p.least=i.m.p.least∧a.p.part=i.m.p.part∧iE a.p.settle=iE i.m.p.settle∧a.inst=i.inst∧a.price=i.x.price∧(a.p.check=0∧(a.p.code.length≤1099511627776∧a.p.months.length≤1099511627776∧a.p.settle.length≤1099511627776)∧(-9223372036854775808)≤a.price∧a.price≤9223372036854775807)∧∀(b:Unit),True→∃(c:Unit),(x7 i).fst=(yV a).fst∧(x7 i).snd=(yV a).snd.fst∧pB i) (∃(a:dR),sb a.p.code=sb i.m.p.code∧iE a.p.months=iE i.m.p.months∧a.p.tick=i.m.p.tick∧a.p.low=i.m.p.low∧a.p.high=i.m.p.high∧a.p.wide=i.m.p.wide∧a.p.rule=i.m.p.rule∧a.p.top=i.m.p.top∧a.p.least=i.m.p.least∧a.p.part=i.m.p.part∧iE a.p.settle=iE i.m.p.settle∧a.n=i.inst∧(kM a)∧∀(b:Unit),True→∃(c:OfI),c.k=(a.p.legs a.n).fst∧c.x.price=i.x.price∧c.x.qty=i.x.qty∧c.x.implied=i.x.implied∧AObj.fro 6 (List.map yS c.x.fills)=AObj.fro 6 (List.map yS i.x.fills)∧c.x.fills.length≤1000000∧∀(d:Unit),True→∃(e:OfI),e.k=(a.p.legs a.n).snd.fst∧e.x.price=c.x.price∧e.x.qty=c.x.qty∧e.x.implied=c.x.implied∧AObj.fro 6 (List.map yS e.x.fills)=AObj.fro 6 (List.map yS c.x.fills)∧e.x.fills.length≤1000000∧∀(f:Unit),True→∃(g:Unit),(x7 i).fst=ofF c.x c.k∧(x7 i).snd=ofF e.x e.k∧pB i)
def zBo (a:MpI):Prop:=(a.m.p.check=0∧a.m.p.code.length≤1099511627776∧a.m.p.months.length≤1099511627776∧a.m.p.settle.length≤1099511627776)∧((-9223372036854775808)≤a.x.price∧a.x.price≤9223372036854775807)∧a.x.fills.length≤1000000
def zAc (a:MsI):Prop:=(a.m.p.check=0∧a.m.p.code.length≤1099511627776∧a.m.p.months.length≤1099511627776∧a.m.p.settle.length≤1099511627776)∧(a.r.side=1∨a.r.side=2)
def zBk (a:MiN):Prop:=a.m.p.check=0∧a.m.p.code.length≤1099511627776∧a.m.p.months.length≤1099511627776∧a.m.p.settle.length≤1099511627776
def bK (a:StI'):=(D.v (Value.string (sb a.c.label)))
def z9g (i:StI'):Prop:=
 ∃(a:Nat),(↑a:Int)=0∧List.map xZ (i.out a)=[]∧∃(b:Nat→Prop),∃(c:Nat→Nat),b a∧∀(d:Nat),b d→cnd (decide ((↑d:Int)<(↑(List.map yS i.x.fills).length:Int))) ((0≤(↑d:Int)∧(↑d:Int)<(↑(List.map yS i.x.fills).length:Int))∧∃(e:Int),∃(f:Int),∃(g:Int),∃(h:Int),∃(j:Int),∃(k:Int),zE (List.map yS i.x.fills) (↑d:Int).toNat 0 6=some [dI e,dI f,dI g,dI h,dI j,dI k]∧((List.map xZ (i.out d)).length+1)*(64:Nat)≤(140737488355328:Nat)∧∃(l:MiN),l.inst=f∧sb l.m.p.code=sb i.m.p.code∧l.m.p.tick=i.m.p.tick∧l.m.p.low=i.m.p.low∧l.m.p.high=i.m.p.high∧l.m.p.wide=i.m.p.wide∧l.m.p.rule=i.m.p.rule∧l.m.p.top=i.m.p.top∧l.m.p.least=i.m.p.least∧l.m.p.part=i.m.p.part∧zF l.m.s=yZ i.m 1∧yD l.m.used=yD i.m.used∧AObj.fro 1 (iE l.m.p.months)=yZ i.m 3∧AObj.fro 1 (iE l.m.p.settle)=yZ i.m 4∧(zBk l)∧∀(m:Unit),True→cnd (l.m.p.legs l.inst).snd.snd (∃(n:MpI),n.inst=f∧n.x.price=i.x.price∧n.x.qty=i.x.qty∧n.x.implied=i.x.implied∧List.map yS n.x.fills=List.map yS i.x.fills∧sb n.m.p.code=sb l.m.p.code∧n.m.p.tick=l.m.p.tick∧n.m.p.low=l.m.p.low∧n.m.p.high=l.m.p.high∧n.m.p.wide=l.m.p.wide∧n.m.p.rule=l.m.p.rule∧n.m.p.top=l.m.p.top∧n.m.p.least=l.m.p.least∧n.m.p.part=l.m.p.part∧zF n.m.s=zF l.m.s∧yD n.m.used=yD l.m.used∧AObj.fro 1 (iE n.m.p.months)=AObj.fro 1 (iE l.m.p.months)∧AObj.fro 1 (iE n.m.p.settle)=AObj.fro 1 (iE l.m.p.settle)∧(zBo n)∧∀(p:Unit),True→∃(q:MsI),q.r.kind=3∧q.r.id=e∧q.r.inst=f∧q.r.side=g∧q.r.price=h∧q.r.qty=j∧q.r.left=k∧q.r.why=0∧q.near=(x7 n).fst∧q.far=(x7 n).snd∧sb q.m.p.code=sb n.m.p.code∧q.m.p.tick=n.m.p.tick∧q.m.p.low=n.m.p.low∧q.m.p.high=n.m.p.high∧q.m.p.wide=n.m.p.wide∧q.m.p.rule=n.m.p.rule∧q.m.p.top=n.m.p.top∧q.m.p.least=n.m.p.least∧q.m.p.part=n.m.p.part∧zF q.m.s=zF n.m.s∧yD q.m.used=yD n.m.used∧AObj.fro 1 (iE q.m.p.months)=AObj.fro 1 (iE n.m.p.months)∧AObj.fro 1 (iE q.m.p.settle)=AObj.fro 1 (iE n.m.p.settle)∧(zAc q)∧∀(r:Unit),True→True∧((List.map xZ (i.out d)++[[dI 3,dI e,dI f,dI g,dI h,dI j,dI k,dI 0]]).length+2)*(64:Nat)≤(140737488355328:Nat)∧∃(s:Nat),(↑s:Int)=IntKind.i64.wrap ((↑d:Int)+1)∧List.map xZ (i.out s)=List.map xZ (i.out d)++[[dI 3,dI e,dI f,dI g,dI h,dI j,dI k,dI 0]]++[xZ (gY q),xZ (gT q)]∧b s∧c s<c d∧Sx.AObj.cells [V.d (dI i.x.price),V.d (dI i.x.qty),V.d (D.v (.bool i.x.implied)),V.own ((5:Nat)+(1:Nat)+1)] 321=Sx.AObj.cells [V.d (dI i.x.price),V.d (dI i.x.qty),V.d (D.v (.bool i.x.implied)),V.own ((5:Nat)+(1:Nat)+1)] 321∧AObj.fro 6 (List.map yS i.x.fills)=AObj.fro 6 (List.map yS i.x.fills)∧Sx.AObj.cells [V.d (dI i.c.kind),V.d (dI i.c.id),V.d (dI i.c.inst),V.d (dI i.c.side),V.d (dI i.c.price),V.d (dI i.c.qty),V.d (dI i.c.least),V.d (dI i.c.time),V.d (bK i)] 80=Sx.AObj.cells [V.d (dI i.c.kind),V.d (dI i.c.id),V.d (dI i.c.inst),V.d (dI i.c.side),V.d (dI i.c.price),V.d (dI i.c.qty),V.d (dI i.c.least),V.d (dI i.c.time),V.d (bK i)] 80∧Sx.AObj.cells [V.nm 0 0] 100=Sx.AObj.cells [V.nm 0 0] 100∧Sx.AObj.cells (jZ (dX 5 ((5:Nat)+(1:Nat)+(1:Nat)+(1:Nat)+(1:Nat)+(1:Nat)+(1:Nat)+(2:Nat)+(1:Nat)+(1:Nat)+(1:Nat)+(1:Nat)+((5:Nat)-(5:Nat))+((5:Nat)-(5:Nat))) ((6:Nat)-(5:Nat)) [((2:Nat),(2:Nat)),((1:Nat),(1:Nat)),((4:Nat),(4:Nat)),((3:Nat),(3:Nat)),((0:Nat),(0:Nat))]) [sV q.m.p.code,V.own 3,zA q.m.p.tick,zA q.m.p.low,zA q.m.p.high,zA q.m.p.wide,zA q.m.p.rule,zA q.m.p.top,zA q.m.p.least,zA q.m.p.part,V.own 4,V.nm 1 0,V.mp 2]) (179:TypeId)=yZ i.m 0∧zF q.m.s=yZ i.m 1∧Sx.AObj.map (yD q.m.used)=yZ i.m 2∧AObj.fro 1 (iE q.m.p.months)=yZ i.m 3∧AObj.fro 1 (iE q.m.p.settle)=yZ i.m 4) (∃(n:Nat),(↑n:Int)=IntKind.i64.wrap ((↑d:Int)+1)∧List.map xZ (i.out n)=List.map xZ (i.out d)++[[dI 3,dI e,dI f,dI g,dI h,dI j,dI k,dI 0]]∧b n∧c n<c d∧Sx.AObj.cells [V.d (dI i.x.price),V.d (dI i.x.qty),V.d (D.v (.bool i.x.implied)),V.own ((5:Nat)+(1:Nat)+1)] 321=Sx.AObj.cells [V.d (dI i.x.price),V.d (dI i.x.qty),V.d (D.v (.bool i.x.implied)),V.own ((5:Nat)+(1:Nat)+1)] 321∧AObj.fro 6 (List.map yS i.x.fills)=AObj.fro 6 (List.map yS i.x.fills)∧Sx.AObj.cells [V.d (dI i.c.kind),V.d (dI i.c.id),V.d (dI i.c.inst),V.d (dI i.c.side),V.d (dI i.c.price),V.d (dI i.c.qty),V.d (dI i.c.least),V.d (dI i.c.time),V.d (bK i)] 80=Sx.AObj.cells [V.d (dI i.c.kind),V.d (dI i.c.id),V.d (dI i.c.inst),V.d (dI i.c.side),V.d (dI i.c.price),V.d (dI i.c.qty),V.d (dI i.c.least),V.d (dI i.c.time),V.d (bK i)] 80∧Sx.AObj.cells [V.nm 0 0] 100=Sx.AObj.cells [V.nm 0 0] 100∧Sx.AObj.cells (jZ (dX 5 ((5:Nat)+(1:Nat)+(1:Nat)+(1:Nat)+(1:Nat)+(1:Nat)+(1:Nat)+(2:Nat)+(1:Nat)+(1:Nat)+(1:Nat)+(1:Nat)) ((5:Nat)-(5:Nat)) [((2:Nat),(2:Nat)),((1:Nat),(1:Nat)),((4:Nat),(4:Nat)),((3:Nat),(3:Nat)),((0:Nat),(0:Nat))]) [sV l.m.p.code,V.own 3,zA l.m.p.tick,zA l.m.p.low,zA l.m.p.high,zA l.m.p.wide,zA l.m.p.rule,zA l.m.p.top,zA l.m.p.least,zA l.m.p.part,V.own 4,V.nm 1 0,V.mp 2]) (179:TypeId)=yZ i.m 0∧zF l.m.s=yZ i.m 1∧Sx.AObj.map (yD l.m.used)=yZ i.m 2∧AObj.fro 1 (iE l.m.p.months)=yZ i.m 3∧AObj.fro 1 (iE l.m.p.settle)=yZ i.m 4)) (((List.map xZ (i.out d)).length+1)*(64:Nat)≤(140737488355328:Nat)∧∃(e:MiN),e.inst=i.c.inst∧sb e.m.p.code=sb i.m.p.code∧e.m.p.tick=i.m.p.tick∧e.m.p.low=i.m.p.low∧e.m.p.high=i.m.p.high∧e.m.p.wide=i.m.p.wide∧e.m.p.rule=i.m.p.rule∧e.m.p.top=i.m.p.top∧e.m.p.least=i.m.p.least∧e.m.p.part=i.m.p.part∧zF e.m.s=yZ i.m 1∧yD e.m.used=yD i.m.used∧AObj.fro 1 (iE e.m.p.months)=yZ i.m 3∧AObj.fro 1 (iE e.m.p.settle)=yZ i.m 4∧(zBk e)∧∀(f:Unit),True→cnd (e.m.p.legs e.inst).snd.snd (∃(g:MpI),g.inst=i.c.inst∧g.x.price=i.x.price∧g.x.qty=i.x.qty∧g.x.implied=i.x.implied∧List.map yS g.x.fills=List.map yS i.x.fills∧sb g.m.p.code=sb e.m.p.code∧g.m.p.tick=e.m.p.tick∧g.m.p.low=e.m.p.low∧g.m.p.high=e.m.p.high∧g.m.p.wide=e.m.p.wide∧g.m.p.rule=e.m.p.rule∧g.m.p.top=e.m.p.top∧g.m.p.least=e.m.p.least∧g.m.p.part=e.m.p.part∧zF g.m.s=zF e.m.s∧yD g.m.used=yD e.m.used∧AObj.fro 1 (iE g.m.p.months)=AObj.fro 1 (iE e.m.p.months)∧AObj.fro 1 (iE g.m.p.settle)=AObj.fro 1 (iE e.m.p.settle)∧(zBo g)∧∀(h:Unit),True→∃(j:MsI),j.r.kind=3∧j.r.id=i.c.id∧j.r.inst=i.c.inst∧j.r.side=i.c.side∧j.r.price=i.x.price∧j.r.qty=i.x.qty∧j.r.left=i.left∧j.r.why=0∧j.near=(x7 g).fst∧j.far=(x7 g).snd∧sb j.m.p.code=sb g.m.p.code∧j.m.p.tick=g.m.p.tick∧j.m.p.low=g.m.p.low∧j.m.p.high=g.m.p.high∧j.m.p.wide=g.m.p.wide∧j.m.p.rule=g.m.p.rule∧j.m.p.top=g.m.p.top∧j.m.p.least=g.m.p.least∧j.m.p.part=g.m.p.part∧zF j.m.s=zF g.m.s∧yD j.m.used=yD g.m.used∧AObj.fro 1 (iE j.m.p.months)=AObj.fro 1 (iE g.m.p.months)∧AObj.fro 1 (iE j.m.p.settle)=AObj.fro 1 (iE g.m.p.settle)∧(zAc j)∧∀(k:Unit),True→True∧((List.map xZ (i.out d)++[[dI 3,dI i.c.id,dI i.c.inst,dI i.c.side,dI i.x.price,dI i.x.qty,dI i.left,dI 0]]).length+2)*(64:Nat)≤(140737488355328:Nat)∧∃(l:Unit),sb i.m.p.code=sb j.m.p.code∧i.m.p.tick=j.m.p.tick∧i.m.p.low=j.m.p.low∧i.m.p.high=j.m.p.high∧i.m.p.wide=j.m.p.wide∧i.m.p.rule=j.m.p.rule∧i.m.p.top=j.m.p.top∧i.m.p.least=j.m.p.least∧i.m.p.part=j.m.p.part∧zF i.m.s=zF j.m.s∧yD i.m.used=yD j.m.used∧AObj.fro 1 (iE i.m.p.months)=AObj.fro 1 (iE j.m.p.months)∧AObj.fro 1 (iE i.m.p.settle)=AObj.fro 1 (iE j.m.p.settle)∧List.map xZ (mD i.m.p i.c i.x i.left)=List.map xZ (i.out d)++[[dI 3,dI i.c.id,dI i.c.inst,dI i.c.side,dI i.x.price,dI i.x.qty,dI i.left,dI 0]]++[xZ (gY j),xZ (gT j)]∧True) (∃(g:Unit),sb i.m.p.code=sb e.m.p.code∧i.m.p.tick=e.m.p.tick∧i.m.p.low=e.m.p.low∧i.m.p.high=e.m.p.high∧i.m.p.wide=e.m.p.wide∧i.m.p.rule=e.m.p.rule∧i.m.p.top=e.m.p.top∧i.m.p.least=e.m.p.least∧i.m.p.part=e.m.p.part∧zF i.m.s=zF e.m.s∧yD i.m.used=yD e.m.used∧AObj.fro 1 (iE i.m.p.months)=AObj.fro 1 (iE e.m.p.months)∧AObj.fro 1 (iE i.m.p.settle)=AObj.fro 1 (iE e.m.p.settle)∧List.map xZ (mD i.m.p i.c i.x i.left)=List.map xZ (i.out d)++[[dI 3,dI i.c.id,dI i.c.inst,dI i.c.side,dI i.x.price,dI i.x.qty,dI i.left,dI 0]]∧True))
set_option linter.unusedSimpArgs false
open Go Cv Go.Proofs
theorem zZh:rejC.ok Tryz.prog 112:=okw (V:=yWm) mixed gok0 0 (fun _=>[]) (fun _=>[]) [] Tryz.func112 fun(i:RjI) _=>⟨(),rfl,trivial⟩
theorem z8q (i:MsI) (h:mspreadC.cnd i):zUh i:=by
 obtain⟨⟨hc,hp⟩,hs⟩:i.m.fine∧(i.r.side=1∨i.r.side=2):=h
 have hw:IntKind.i64.wrap (3-i.r.side)=3-i.r.side:=w64 (by omega)
 unfold zUh tJ gY gT vY wO kM dI
 rw[hw]
 refine⟨⟨i.m.p,i.r.inst⟩,rfl,rfl,rfl,rfl,rfl,rfl,rfl,rfl,rfl,rfl,rfl,rfl,hp,fun _ _=> ?_⟩
 exact kp
theorem zYl:mspreadC.ok Tryz.prog 239:=okw mixed (gokc lE gok0) 0 (fun _=>[]) (fun _=>[]) [] Tryz.func239 z8q
theorem yMc:misC.ok Tryz.prog 237:=okw (V:=yVd) mixed (gokc lE gok0) 0 (fun _=>[]) (fun _=>[]) [] Tryz.func237 fun(i:MiN) h=>by
 obtain⟨hc,hp⟩:i.m.fine:=h
 exact⟨⟨i.m.p,i.inst⟩,rfl,rfl,rfl,rfl,rfl,rfl,rfl,rfl,rfl,rfl,rfl,rfl,hp,fun _ _=>kp⟩
theorem yTs {l:List dM} {k:Nat} {f:dM} (h:l[k]? =some f):zE (l.map yS) k 0 6=some [D.v (.int .i64 f.id),D.v (.int .i64 f.inst),D.v (.int .i64 f.side),D.v (.int .i64 f.price),D.v (.int .i64 f.qty),D.v (.int .i64 f.left)]:=elA h (by simp[yS]) rfl
theorem vof (i:OfI) (h:ofC.cnd i):Vof i:=by
 have hl:i.x.fills.length≤1000000:=h
 have e4:(i.x.fills.map yS).length=i.x.fills.length:=yWu ..
 unfold Vof zSs dI
 refine⟨0,rfl,fun j=>j≤i.x.fills.length∧(i.x.fills.take j).find? (fun f=>decide (f.inst=i.k))=none,fun j=>i.x.fills.length-j,⟨yYc _,rfl⟩,?_⟩
 rintro j ⟨j1,j2⟩
 refine zK (fun c=> ?_) (fun c=> ?_)
 ·obtain⟨f,hf⟩:=zW (l:=i.x.fills) (i:=j) (by omega)
  refine⟨⟨by omega,by omega⟩,_,_,_,_,_,_,yTs hf,Cv.cnd.mk (fun g=>⟨(),?_,k0q⟩) (fun g=>⟨j+1,wjn (by omega),⟨by omega,?_⟩,by dsimp only;omega,k0q⟩)⟩
  ·have g:f.inst=i.k:=by simpa using g
   have e:i.x.fills.find? (fun f=>decide (f.inst=i.k))=some f:=by
    rw[← yZc j i.x.fills,List.find?_append,j2,yZs (by omega),(yWv.1 hf).2,List.find?_cons_of_pos (by simpa using g)]
    rfl
   rw[ofF,e]
  ·have g:¬f.inst=i.k:=by simpa using g
   rw[yXx,hf,List.find?_append,j2]
   simp[g]
 ·have:j=i.x.fills.length:=by omega
  rw[this,yXk (yYa _)]at j2
  exact⟨(),by rw[ofF,j2],k0q⟩
theorem ySn:ofC.ok Tryz.prog 265:=okw mixed gok0 0 (fun _=>[]) (fun _=>ofA) [] Tryz.func265 vof
theorem yDj (i:MpI) (h:mpricesC.cnd i):zXo i:=by
 obtain⟨⟨hc,hp⟩,hpr,hl⟩:i.m.fine∧i64r i.x.price∧i.x.fills.length≤1000000:=h
 unfold zXo x7 pB yV kM
 refine Cv.cnd.mk (fun e=> ?_) (fun e=> ?_)
 ·have e:i.x.implied=false:=by simpa using e
  have h0:wJ i.m.p i.inst i.x=((g7 i.m.p i.inst i.x.price).1,(g7 i.m.p i.inst i.x.price).2.1):=by rw[wJ,yWt e]
  rw[h0]
  exact⟨⟨i.m.p,i.inst,i.x.price⟩,rfl,rfl,rfl,rfl,rfl,rfl,rfl,rfl,rfl,rfl,rfl,rfl,rfl,⟨hc,hp,hpr⟩,fun _ _=>kp⟩
 ·have e:¬i.x.implied=false:=by simpa using e
  have h0:wJ i.m.p i.inst i.x=(ofF i.x (i.m.p.legs i.inst).1,ofF i.x (i.m.p.legs i.inst).2.1):=by rw[wJ,yWs e]
  rw[h0]
  exact⟨⟨i.m.p,i.inst⟩,rfl,rfl,rfl,rfl,rfl,rfl,rfl,rfl,rfl,rfl,rfl,rfl,hp,fun _ _=>⟨⟨i.x,(i.m.p.legs i.inst).1⟩,rfl,rfl,rfl,rfl,rfl,hl,fun _ _=>⟨⟨i.x,(i.m.p.legs i.inst).2.1⟩,rfl,rfl,rfl,rfl,rfl,hl,fun _ _=>kp⟩⟩⟩
theorem z0j:mpricesC.ok Tryz.prog 238:=okw mixed (gokc lE (gokc z0i (gokc ySn gok0))) 0 (fun _=>[]) (fun _=>[]) [] Tryz.func238 yDj
theorem zNp (p:Prd) (x:j8) (r:Rep):(rM p x r).length≤3:=by
 rw[rM,yXa]
 split
 ·rw[zJe];simp
 ·simp
theorem z2b {p:Prd} {x:j8} {r:Rep} (h:(p.legs r.inst).2.2=false):rM p x r=[r]:=by
 rw[rM,yWs (by rw[h];decide)]
theorem zVz {p:Prd} {x:j8} {r:Rep} (h:(p.legs r.inst).2.2=true):rM p x r=r::zJe p r (wJ p r.inst x).1 (wJ p r.inst x).2:=by
 rw[rM,yWt h]
theorem StI'.out_len (i:StI'):∀j,(i.out j).length≤3*j
 |0=>yYa _
 |j+1=>by
  have ih:=StI'.out_len i j
  rw[StI'.out]at ih ⊢
  rw[yXx,yYq,yWx]
  cases e:i.x.fills[j]? with
  |none=>simp only[Option.toList_none,y2a,yZm];omega
  |some f=>
   have:=zNp i.m.p i.x (zDj f)
   simp only[yZx,yYm,y2a,yXp]
   omega
theorem StI'.out_succ (i:StI') {j:Nat} {f:dM} (h:i.x.fills[j]? =some f):i.out (j+1)=i.out j++rM i.m.p i.x (zDj f):=by
 rw[StI'.out,StI'.out,yXx,yYq,h]
 simp
theorem yOs (i:StI') (h:mstepC.cnd i):z9g i:=by
 obtain⟨hf,hpr,hl,hcs,hfs⟩:i.m.fine∧i64r i.x.price∧i.x.fills.length≤1000000∧(i.c.side=1∨i.c.side=2)∧∀f∈i.x.fills,f.side=1∨f.side=2:=h
 have e4:(i.x.fills.map yS).length=i.x.fills.length:=yWu ..
 unfold z9g bK zBk zAc zBo gY gT x7 dI
 refine⟨0,rfl,rfl,fun j=>j≤i.x.fills.length,fun j=>i.x.fills.length-j,yYc _,?_⟩
 intro j hj
 have ho:=i.out_len j
 have e5:((i.out j).map xZ).length=(i.out j).length:=yWu ..
 refine zK (fun c=> ?_) (fun c=> ?_)
 ·obtain⟨f,hfj⟩:=zW (l:=i.x.fills) (i:=j) (by omega)
  have hos:=i.out_succ hfj
  have hfj2:=hfs f (yXd hfj)
  refine⟨⟨by omega,by omega⟩,_,_,_,_,_,_,yTs hfj,by omega,⟨i.m,f.inst⟩,rfl,rfl,rfl,rfl,rfl,rfl,rfl,rfl,rfl,rfl,rfl,rfl,rfl,rfl,hf,fun _ _=>Cv.cnd.mk (fun e=> ?_) (fun e=> ?_)⟩
  ·have e:(i.m.p.legs (zDj f).inst).2.2=true:=e
   rw[zVz e]at hos
   refine⟨⟨i.m,f.inst,i.x⟩,rfl,rfl,rfl,rfl,rfl,rfl,rfl,rfl,rfl,rfl,rfl,rfl,rfl,rfl,rfl,rfl,rfl,rfl,⟨hf,hpr,hl⟩,fun _ _=>⟨⟨i.m,zDj f,(wJ i.m.p f.inst i.x).1,(wJ i.m.p f.inst i.x).2⟩,rfl,rfl,rfl,rfl,rfl,rfl,rfl,rfl,rfl,rfl,rfl,rfl,rfl,rfl,rfl,rfl,rfl,rfl,rfl,rfl,rfl,rfl,rfl,⟨hf,hfj2⟩,fun _ _=>⟨trivial,by rw[yWx,e5];simp only[yXa,yZm];omega,j+1,wjn (by omega),?_,by omega,by dsimp only;omega,k0q⟩⟩⟩
   rw[hos,yXe,yXc]
   rfl
  ·have e:(i.m.p.legs (zDj f).inst).2.2=false:=e
   rw[z2b e]at hos
   refine⟨j+1,wjn (by omega),?_,by omega,by dsimp only;omega,k0q⟩
   rw[hos,yXe];rfl
 ·have hj:j=i.x.fills.length:=by omega
  have ho2:i.x.fills.flatMap (fun f=>rM i.m.p i.x (zDj f))=i.out j:=by rw[StI'.out,hj,yXk (yYa _)]
  have hR:mD i.m.p i.c i.x i.left=i.out j++rM i.m.p i.x ⟨3,i.c.id,i.c.inst,i.c.side,i.x.price,i.x.qty,i.left,0⟩:=by rw[mD,ho2]
  refine⟨by omega,⟨i.m,i.c.inst⟩,rfl,rfl,rfl,rfl,rfl,rfl,rfl,rfl,rfl,rfl,rfl,rfl,rfl,rfl,hf,fun _ _=>Cv.cnd.mk (fun e=> ?_) (fun e=> ?_)⟩
  ·have e:(i.m.p.legs (⟨3,i.c.id,i.c.inst,i.c.side,i.x.price,i.x.qty,i.left,0⟩:Rep).inst).2.2=true:=e
   rw[zVz e]at hR
   refine⟨⟨i.m,i.c.inst,i.x⟩,rfl,rfl,rfl,rfl,rfl,rfl,rfl,rfl,rfl,rfl,rfl,rfl,rfl,rfl,rfl,rfl,rfl,rfl,⟨hf,hpr,hl⟩,fun _ _=>⟨⟨i.m,⟨3,i.c.id,i.c.inst,i.c.side,i.x.price,i.x.qty,i.left,0⟩,(wJ i.m.p i.c.inst i.x).1,(wJ i.m.p i.c.inst i.x).2⟩,rfl,rfl,rfl,rfl,rfl,rfl,rfl,rfl,rfl,rfl,rfl,rfl,rfl,rfl,rfl,rfl,rfl,rfl,rfl,rfl,rfl,rfl,rfl,⟨hf,hcs⟩,fun _ _=>⟨trivial,by rw[yWx,e5];simp only[yXa,yZm];omega,?_⟩⟩⟩
   rw[hR,yXe,yXc]
   exact kp
  ·have e:(i.m.p.legs (⟨3,i.c.id,i.c.inst,i.c.side,i.x.price,i.x.qty,i.left,0⟩:Rep).inst).2.2=false:=e
   rw[z2b e]at hR
   rw[hR,yXe]
   exact kp
theorem yAv:mstepC.ok Tryz.prog 208:=okw mixed (gokc yMc (gokc z0j (gokc zYl gok0))) 1 (fun _=>[]) (fun i=>yOc i) [] Tryz.func208 yOs
open Go Cv Go.Proofs
structure EnI where
 m:Mkt
 p:Prd
 B:List (List zJ)
 U:List Int
 c:Cmd
 X:MkX
@[reducible] def EnI.std (i:EnI):Prop:=i.m.Rep i.p i.B i.U∧BOk i.p i.B
@[reducible] def EnI.good (i:EnI):Prop:=(0≤i.c.inst∧i.c.inst<i.B.length)∧(1≤i.c.qty∧i.c.qty≤1000000)∧(i.c.side=1∨i.c.side=2)
@[reducible] def zUp (X:MkX) (p:Prd):Alt:={o:=Mkt,res:=fun _=> .own 5,post:=fun o=>zEd o++[z0z X.R],rel:=fun o=>o.Rep p X.B X.U}
def enterC:Con where
 ι:=EnI
 pat:=fun i=>[.nm 0 0,zNy i.c]
 pre:=fun i=>zEd i.m
 cnd:=fun i=>i.std∧i.good∧i.p.price i.c.inst i.c.price=0∧i.X=aW i.p i.B i.U i.c
 alts:=fun i=>[zUp i.X i.p]
structure EnJ where
 left:Int
 k:Nat
 out:List Rep
def yQx (i:EnI):List SAnn:=[{ι:=EnJ,slots:=fun j=>[(5,.own 0),(8,zA j.left),(51,zA j.k)],rows:=fun j=>[z0z j.out]}]
def orderC:Con where
 ι:=EnI
 pat:=fun i=>[.nm 0 0,zNy i.c]
 pre:=fun i=>zEd i.m
 cnd:=fun i=>i.std∧i.c.right=0∧i.c.kind=1∧i.X=sQ i.p i.B i.U i.c
 alts:=fun i=>[zUp i.X i.p]
def yMx:List (Nat×SAnn):=[(22,ij 6),(44,bj 47),(52,bj 69)]
structure CaI where
 m:Mkt
 p:Prd
 B:List (List zJ)
 U:List Int
 id:Int
 q:Int
 inst:Int
 o:zJ
 X:MkX
@[reducible] def CaI.std (i:CaI):Prop:=i.m.Rep i.p i.B i.U∧BOk i.p i.B
def cancelC:Con where
 ι:=CaI
 pat:=fun i=>[.nm 0 0,zA i.id,zA i.inst,z7b i.o]
 pre:=fun i=>zEd i.m
 cnd:=fun i=>i.std∧i.X=aR i.B i.U i.id i.inst i.o
 alts:=fun i=>[zUp i.X i.p]
def reduceC:Con where
 ι:=CaI
 pat:=fun i=>[.nm 0 0,zA i.id,zA i.q,zA i.inst,z7b i.o]
 pre:=fun i=>zEd i.m
 cnd:=fun i=>i.std∧i64r (i.o.qty-i.q)∧i.X=zDd i.B i.U i.id i.q i.inst i.o
 alts:=fun i=>[zUp i.X i.p]
structure z7a where
 m:Mkt
 p:Prd
 B:List (List zJ)
 U:List Int
 c:Cmd
 inst:Int
 o:zJ
 X:MkX
def replaceC:Con where
 ι:=z7a
 pat:=fun i=>[.nm 0 0,zNy i.c,zA i.inst,z7b i.o]
 pre:=fun i=>zEd i.m
 cnd:=fun i=>i.m.Rep i.p i.B i.U∧BOk i.p i.B∧yF i.B i.c.id=(i.inst,i.o,true)∧(1≤i.c.qty∧i.c.qty≤1000000)∧i.X=bT i.p i.B i.U i.c i.inst i.o
 alts:=fun i=>[zUp i.X i.p]
def doC:Con where
 ι:=EnI
 pat:=fun i=>[.nm 0 0,zNy i.c]
 pre:=fun i=>[g9 i.m]
 cnd:=fun i=>i.std∧i.c.label.length≤140737488355328∧i64r i.c.qty∧i.X=doF i.p i.B i.U i.c
 alts:=fun i=>[{o:=Mkt,res:=fun _=> .own 1,post:=fun o=>[g9 o,z0z i.X.R],rel:=fun o=>o.Rep i.p i.X.B i.X.U}]
open Go Cv Go.Proofs
def zAf (a:Mkt) (b:EnI) (c:EnJ):Prop:=yD a.used=gW (Value.int IntKind.i64 b.c.id) [D.v (.bool true)] (yD b.m.used)∧AObj.fro 1 (iE a.p.months)=yZ b.m 3∧AObj.fro 1 (iE a.p.settle)=yZ b.m 4∧List.map xZ b.X.R=List.map xZ c.out∧a.Rep b.p b.X.B b.X.U
def vF (a:EnI):=(D.v (Value.string (sb a.c.label)))
def yCz (i:EnI):Prop:=
 (∀(a:Value×List D),a∈yD i.m.used→like (Value.int IntKind.i64 i.c.id) a.fst=true)∧∃(a:RunI),a.inst=i.c.inst∧zD a.sd=i.c.side∧a.price=i.c.price∧a.q=i.c.qty∧zF a.s=yZ i.m 1∧(qB a)∧∀(b:MSt),b.Rep a.p a.r.B→∃(c:EnJ),c.left=i.c.qty∧(↑c.k:Int)=0∧List.map xZ c.out=[[dI 1,dI i.c.id,dI i.c.inst,dI i.c.side,dI i.c.price,dI i.c.qty,dI i.c.qty,dI 0]]∧∃(d:EnJ→Prop),∃(e:EnJ→Nat),d c∧∀(f:EnJ),d f→cnd (decide ((↑f.k:Int)<(↑(List.map jS a.r.steps).length:Int))) ((0≤(↑f.k:Int)∧(↑f.k:Int)<(↑(List.map jS a.r.steps).length:Int))∧∃(g:Int),∃(h:Int),∃(j:Bool),∃(k:List (List D)),zE (List.map jS a.r.steps) (↑f.k:Int).toNat 0 4=some [dI g,dI h,D.v (.bool j),D.ro 6 k]∧∃(l:StI'),l.c.kind=i.c.kind∧l.c.id=i.c.id∧l.c.inst=i.c.inst∧l.c.side=i.c.side∧l.c.price=i.c.price∧l.c.qty=i.c.qty∧l.c.least=i.c.least∧l.c.time=i.c.time∧sb l.c.label=sb i.c.label∧l.x.price=g∧l.x.qty=h∧l.x.implied=j∧List.map yS l.x.fills=k∧l.left=IntKind.i64.wrap (f.left-h)∧sb l.m.p.code=sb i.m.p.code∧l.m.p.tick=i.m.p.tick∧l.m.p.low=i.m.p.low∧l.m.p.high=i.m.p.high∧l.m.p.wide=i.m.p.wide∧l.m.p.rule=i.m.p.rule∧l.m.p.top=i.m.p.top∧l.m.p.least=i.m.p.least∧l.m.p.part=i.m.p.part∧zF l.m.s=zF b∧yD l.m.used=gW (Value.int IntKind.i64 i.c.id) [D.v (.bool true)] (yD i.m.used)∧AObj.fro 1 (iE l.m.p.months)=yZ i.m 3∧AObj.fro 1 (iE l.m.p.settle)=yZ i.m 4∧((l.m.p.check=0∧l.m.p.code.length≤1099511627776∧l.m.p.months.length≤1099511627776∧l.m.p.settle.length≤1099511627776)∧((-9223372036854775808)≤l.x.price∧l.x.price≤9223372036854775807)∧l.x.fills.length≤1000000∧(l.c.side=1∨l.c.side=2)∧∀(m:dM),m∈l.x.fills→m.side=1∨m.side=2)∧∀(m:Unit),True→((List.map xZ f.out).length+(List.map xZ (mD l.m.p l.c l.x l.left)).length)*(64:Nat)≤(140737488355328:Nat)∧∃(n:EnJ),n.left=IntKind.i64.wrap (f.left-h)∧(↑n.k:Int)=IntKind.i64.wrap ((↑f.k:Int)+1)∧List.map xZ n.out=List.map xZ f.out++List.map xZ (mD l.m.p l.c l.x l.left)∧d n∧e n<e f∧zF l.m.s=zF b∧AObj.own 321 4 (List.map jS a.r.steps)=AObj.own 321 4 (List.map jS a.r.steps)∧Sx.AObj.cells [V.d (dI i.c.kind),V.d (dI i.c.id),V.d (dI i.c.inst),V.d (dI i.c.side),V.d (dI i.c.price),V.d (dI i.c.qty),V.d (dI i.c.least),V.d (dI i.c.time),V.d (vF i)] 80=Sx.AObj.cells [V.d (dI i.c.kind),V.d (dI i.c.id),V.d (dI i.c.inst),V.d (dI i.c.side),V.d (dI i.c.price),V.d (dI i.c.qty),V.d (dI i.c.least),V.d (dI i.c.time),V.d (vF i)] 80∧Sx.AObj.cells (jZ (dX 5 ((5:Nat)+(1:Nat)+1+((2:Nat)-(1:Nat))+(1:Nat)+(1:Nat)+1) ((6:Nat)-(5:Nat)) [((2:Nat),(2:Nat)),((1:Nat),(1:Nat)),((4:Nat),(4:Nat)),((3:Nat),(3:Nat)),((0:Nat),(0:Nat))]) [sV l.m.p.code,V.own 3,zA l.m.p.tick,zA l.m.p.low,zA l.m.p.high,zA l.m.p.wide,zA l.m.p.rule,zA l.m.p.top,zA l.m.p.least,zA l.m.p.part,V.own 4,V.nm 1 0,V.mp 2]) (179:TypeId)=yZ i.m 0∧Sx.AObj.map (yD l.m.used)=Sx.AObj.map (gW (Value.int IntKind.i64 i.c.id) [D.v (.bool true)] (yD i.m.used))∧AObj.fro 1 (iE l.m.p.months)=yZ i.m 3∧AObj.fro 1 (iE l.m.p.settle)=yZ i.m 4) (cnd (a.r.left==0) (∃(g:Mkt),sb g.p.code=sb i.m.p.code∧g.p.tick=i.m.p.tick∧g.p.low=i.m.p.low∧g.p.high=i.m.p.high∧g.p.wide=i.m.p.wide∧g.p.rule=i.m.p.rule∧g.p.top=i.m.p.top∧g.p.least=i.m.p.least∧g.p.part=i.m.p.part∧zF g.s=zF b∧zAf g i f) (cnd (i.c.time==1) (∃(g:SaI),g.inst=i.c.inst∧g.id=i.c.id∧zD g.sd=i.c.side∧g.price=i.c.price∧g.qty=a.r.left∧zF g.s=zF b∧((g.s.p.code.length≤1099511627776∧g.s.p.months.length≤1099511627776∧g.s.p.settle.length≤1099511627776)∧g.s.books.length≤1000000∧∀(h:Book),h∈g.s.books→(h.a.slots.length≤1000000∧(h.a.free≠0→∃(j:Slot),j∈h.a.slots∧j.used=false)∧∀(j:dP),j∈h.a.queues→j.last=(-1)∨0≤j.last∧j.last<(↑h.a.slots.length:Int))∧h.a.queues.length≤100000∧h.buys.length≤100000∧h.sells.length≤100000∧h.spare.length≤100000)∧∀(h:Unit),True→∃(j:Mkt),sb j.p.code=sb i.m.p.code∧j.p.tick=i.m.p.tick∧j.p.low=i.m.p.low∧j.p.high=i.m.p.high∧j.p.wide=i.m.p.wide∧j.p.rule=i.m.p.rule∧j.p.top=i.m.p.top∧j.p.least=i.m.p.least∧j.p.part=i.m.p.part∧zF j.s=zF (MSt.addF g).fst∧zAf j i f) (((List.map xZ f.out).length+1)*(64:Nat)≤(140737488355328:Nat)∧∃(g:Mkt),sb g.p.code=sb i.m.p.code∧g.p.tick=i.m.p.tick∧g.p.low=i.m.p.low∧g.p.high=i.m.p.high∧g.p.wide=i.m.p.wide∧g.p.rule=i.m.p.rule∧g.p.top=i.m.p.top∧g.p.least=i.m.p.least∧g.p.part=i.m.p.part∧zF g.s=zF b∧yD g.used=gW (Value.int IntKind.i64 i.c.id) [D.v (.bool true)] (yD i.m.used)∧AObj.fro 1 (iE g.p.months)=yZ i.m 3∧AObj.fro 1 (iE g.p.settle)=yZ i.m 4∧List.map xZ i.X.R=List.map xZ f.out++[[dI 4,dI i.c.id,dI i.c.inst,dI i.c.side,dI i.c.price,dI a.r.left,dI 0,dI 0]]∧g.Rep i.p i.X.B i.X.U)))
def lQ (a:EnI):Prop:=Sx.AObj.cells [V.d (dI a.c.kind),V.d (dI a.c.id),V.d (dI a.c.inst),V.d (dI a.c.side),V.d (dI a.c.price),V.d (dI a.c.qty),V.d (dI a.c.least),V.d (dI a.c.time),V.d (vF a)] 80=Sx.AObj.cells [V.d (dI a.c.kind),V.d (dI a.c.id),V.d (dI a.c.inst),V.d (dI a.c.side),V.d (dI a.c.price),V.d (dI a.c.qty),V.d (dI a.c.least),V.d (dI a.c.time),V.d (vF a)] 80∧yZ a.m 0=yZ a.m 0∧yZ a.m 2=yZ a.m 2∧yZ a.m 3=yZ a.m 3∧yZ a.m 4=yZ a.m 4
def zBn (a:Bool→Prop) (b:SoI) (c:EnI):Prop:=∃(d:Bool),d=false∧a d∧zF b.s=zF b.s∧lQ c
def zBj (a:Int→Prop) (b:Int) (c:EnI):Prop:=a b∧Sx.AObj.cells [V.d (dI c.c.kind),V.d (dI c.c.id),V.d (dI c.c.inst),V.d (dI c.c.side),V.d (dI c.c.price),V.d (dI c.c.qty),V.d (dI c.c.least),V.d (dI c.c.time),V.d (vF c)] 80=Sx.AObj.cells [V.d (dI c.c.kind),V.d (dI c.c.id),V.d (dI c.c.inst),V.d (dI c.c.side),V.d (dI c.c.price),V.d (dI c.c.qty),V.d (dI c.c.least),V.d (dI c.c.time),V.d (vF c)] 80∧yZ c.m 0=yZ c.m 0∧yZ c.m 1=yZ c.m 1∧yZ c.m 2=yZ c.m 2∧yZ c.m 3=yZ c.m 3∧yZ c.m 4=yZ c.m 4
def zAt (a:Bool→Prop) (b:Bool) (c:RunI) (d:SoI) (e:EnI):Prop:=a b∧zF c.s=zF d.s∧lQ e
def zAu (a:Mkt) (b:EnI) (c:RjI):Prop:=yD a.used=yD b.m.used∧AObj.fro 1 (iE a.p.months)=yZ b.m 3∧AObj.fro 1 (iE a.p.settle)=yZ b.m 4∧List.map xZ b.X.R=[xZ (Rep.mk 2 c.c.id 0 0 0 0 0 c.why)]∧a.Rep b.p b.X.B b.X.U
def l5 (a:EnI) (b:RjI):Prop:=True∧∀(c:Unit),True→∃(d:Mkt),sb d.p.code=sb a.m.p.code∧d.p.tick=a.m.p.tick∧d.p.low=a.m.p.low∧d.p.high=a.m.p.high∧d.p.wide=a.m.p.wide∧d.p.rule=a.m.p.rule∧d.p.top=a.m.p.top∧d.p.least=a.m.p.least∧d.p.part=a.m.p.part∧zF d.s=yZ a.m 1∧zAu d a b
def pA (a:EnI) (b:SoI) (c:RjI):Prop:=True∧∀(d:Unit),True→∃(e:Mkt),sb e.p.code=sb a.m.p.code∧e.p.tick=a.m.p.tick∧e.p.low=a.m.p.low∧e.p.high=a.m.p.high∧e.p.wide=a.m.p.wide∧e.p.rule=a.m.p.rule∧e.p.top=a.m.p.top∧e.p.least=a.m.p.least∧e.p.part=a.m.p.part∧zF e.s=zF b.s∧zAu e a c
def nJ (a:EnI) (b:EnI):Prop:=∀(c:Mkt),c.Rep a.p a.X.B a.X.U→∃(d:Mkt),sb d.p.code=sb c.p.code∧d.p.tick=c.p.tick∧d.p.low=c.p.low∧d.p.high=c.p.high∧d.p.wide=c.p.wide∧d.p.rule=c.p.rule∧d.p.top=c.p.top∧d.p.least=c.p.least∧d.p.part=c.p.part∧zF d.s=zF c.s∧yD d.used=yD c.used∧AObj.fro 1 (iE d.p.months)=AObj.fro 1 (iE c.p.months)∧AObj.fro 1 (iE d.p.settle)=AObj.fro 1 (iE c.p.settle)∧List.map xZ b.X.R=List.map xZ a.X.R∧d.Rep b.p b.X.B b.X.U
def nE (a:EnI):Prop:=(a.m.Rep a.p a.B a.U∧BOk a.p a.B)∧((0≤a.c.inst∧a.c.inst<(↑a.B.length:Int))∧(1≤a.c.qty∧a.c.qty≤1000000)∧(a.c.side=1∨a.c.side=2))∧a.p.price a.c.inst a.c.price=0∧a.X=aW a.p a.B a.U a.c
def yDi (i:EnI):Prop:=
 ∃(a:rR),sb a.p.code=sb i.m.p.code∧iE a.p.months=iE i.m.p.months∧a.p.tick=i.m.p.tick∧a.p.low=i.m.p.low∧a.p.high=i.m.p.high∧a.p.wide=i.m.p.wide∧a.p.rule=i.m.p.rule∧a.p.top=i.m.p.top∧a.p.least=i.m.p.least∧a.p.part=i.m.p.part∧iE a.p.settle=iE i.m.p.settle∧a.a=i.c.inst∧a.b=i.c.price∧(xU a)∧∀(b:Unit),True→cnd (a.p.price a.a a.b !=0) (∃(c:RjI),c.c.kind=i.c.kind∧c.c.id=i.c.id∧c.c.inst=i.c.inst∧c.c.side=i.c.side∧c.c.price=i.c.price∧c.c.qty=i.c.qty∧c.c.least=i.c.least∧c.c.time=i.c.time∧sb c.c.label=sb i.c.label∧c.why=a.p.price a.a a.b∧l5 i c) (∃(c:Int),∃(d:Int→Prop),cnd (i.c.time==3) (∃(e:Int),e=i.c.qty∧zBj d e i) (∃(e:Int),e=i.c.least∧zBj d e i)∧∀(e:Int),d e→(∀(f:Value×List D),f∈yD i.m.used→like (Value.int IntKind.i64 i.c.id) f.fst=true)∧∃(f:Bool),∃(g:Bool),(vX (Value.int IntKind.i64 i.c.id) (yD i.m.used)=some [D.v (.bool g)]∧f=true∨vX (Value.int IntKind.i64 i.c.id) (yD i.m.used)=none∧[D.v (.bool g)]=[D.v (.bool false)]∧f=false)∧cnd g (∃(h:RjI),h.c.kind=i.c.kind∧h.c.id=i.c.id∧h.c.inst=i.c.inst∧h.c.side=i.c.side∧h.c.price=i.c.price∧h.c.qty=i.c.qty∧h.c.least=i.c.least∧h.c.time=i.c.time∧sb h.c.label=sb i.c.label∧h.why=25∧l5 i h) (∃(h:SoI),zF h.s=yZ i.m 1∧(h.s.Rep h.p h.B∧h.B.length≤1000)∧∀(j:Unit),True→cnd (decide ((↑(z6m h.B):Int)≥250)) (∃(k:RjI),k.c.kind=i.c.kind∧k.c.id=i.c.id∧k.c.inst=i.c.inst∧k.c.side=i.c.side∧k.c.price=i.c.price∧k.c.qty=i.c.qty∧k.c.least=i.c.least∧k.c.time=i.c.time∧sb k.c.label=sb i.c.label∧k.why=13∧pA i h k) (∃(k:Bool),∃(l:Bool→Prop),cnd (decide (e>0)) (∃(m:RunI),m.inst=i.c.inst∧zD m.sd=i.c.side∧m.price=i.c.price∧m.q=i.c.qty∧zF m.s=zF h.s∧(qB m)∧∀(n:Unit),True→∃(p:Bool),p=decide (m.q-m.r.left<e)∧zAt l p m h i) (zBn l h i)∧∀(m:Bool),l m→cnd m (∃(n:RjI),n.c.kind=i.c.kind∧n.c.id=i.c.id∧n.c.inst=i.c.inst∧n.c.side=i.c.side∧n.c.price=i.c.price∧n.c.qty=i.c.qty∧n.c.least=i.c.least∧n.c.time=i.c.time∧sb n.c.label=sb i.c.label∧n.why=28∧pA i h n) (∃(n:Bool),∃(p:Bool→Prop),cnd (i.c.time==1) (∃(q:RunI),q.inst=i.c.inst∧zD q.sd=i.c.side∧q.price=i.c.price∧q.q=i.c.qty∧zF q.s=zF h.s∧(qB q)∧∀(r:Unit),True→∃(s:Bool),s=bD q.p q.B q.inst q.sd q.price q.q∧zAt p s q h i) (zBn p h i)∧∀(q:Bool),p q→cnd q (∃(r:RjI),r.c.kind=i.c.kind∧r.c.id=i.c.id∧r.c.inst=i.c.inst∧r.c.side=i.c.side∧r.c.price=i.c.price∧r.c.qty=i.c.qty∧r.c.least=i.c.least∧r.c.time=i.c.time∧sb r.c.label=sb i.c.label∧r.why=23∧pA i h r) (∃(r:EnI),r.c.kind=i.c.kind∧r.c.id=i.c.id∧r.c.inst=i.c.inst∧r.c.side=i.c.side∧r.c.price=i.c.price∧r.c.qty=i.c.qty∧r.c.least=i.c.least∧r.c.time=i.c.time∧sb r.c.label=sb i.c.label∧sb r.m.p.code=sb i.m.p.code∧r.m.p.tick=i.m.p.tick∧r.m.p.low=i.m.p.low∧r.m.p.high=i.m.p.high∧r.m.p.wide=i.m.p.wide∧r.m.p.rule=i.m.p.rule∧r.m.p.top=i.m.p.top∧r.m.p.least=i.m.p.least∧r.m.p.part=i.m.p.part∧zF r.m.s=zF h.s∧yD r.m.used=yD i.m.used∧AObj.fro 1 (iE r.m.p.months)=yZ i.m 3∧AObj.fro 1 (iE r.m.p.settle)=yZ i.m 4∧(nE r)∧nJ r i)))))
def yIe (i:CaI):Prop:=
 ∃(i_1:StI),i_1.id=i.id∧i_1.q=i.o.qty∧zF i_1.s=yZ i.m 1∧(i_1.s.Rep i_1.p i_1.B∧i_1.B.length≤1000)∧∀(o:MSt),o.Rep i_1.p (qV i_1.B i_1.id i_1.q).fst→∃(o_1:Mkt),sb o_1.p.code=sb i.m.p.code∧o_1.p.tick=i.m.p.tick∧o_1.p.low=i.m.p.low∧o_1.p.high=i.m.p.high∧o_1.p.wide=i.m.p.wide∧o_1.p.rule=i.m.p.rule∧o_1.p.top=i.m.p.top∧o_1.p.least=i.m.p.least∧o_1.p.part=i.m.p.part∧zF o_1.s=zF o∧yD o_1.used=yD i.m.used∧AObj.fro 1 (iE o_1.p.months)=yZ i.m 3∧AObj.fro 1 (iE o_1.p.settle)=yZ i.m 4∧List.map xZ i.X.R=[[D.v (.int .i64 4),D.v (.int .i64 i.id),D.v (.int .i64 i.inst),D.v (.int .i64 i.o.side),D.v (.int .i64 i.o.price),D.v (.int .i64 i.o.qty),D.v (.int .i64 0),D.v (.int .i64 0)]]∧o_1.Rep i.p i.X.B i.X.U
def z5t (i:CaI):Prop:=
 ∃(a:StI),a.id=i.id∧a.q=i.q∧zF a.s=yZ i.m 1∧(a.s.Rep a.p a.B∧a.B.length≤1000)∧∀(b:MSt),b.Rep a.p (qV a.B a.id a.q).fst→∃(c:Mkt),sb c.p.code=sb i.m.p.code∧c.p.tick=i.m.p.tick∧c.p.low=i.m.p.low∧c.p.high=i.m.p.high∧c.p.wide=i.m.p.wide∧c.p.rule=i.m.p.rule∧c.p.top=i.m.p.top∧c.p.least=i.m.p.least∧c.p.part=i.m.p.part∧zF c.s=zF b∧yD c.used=yD i.m.used∧AObj.fro 1 (iE c.p.months)=yZ i.m 3∧AObj.fro 1 (iE c.p.settle)=yZ i.m 4∧List.map xZ i.X.R=[[dI 5,dI i.id,dI i.inst,dI i.o.side,dI i.o.price,dI i.q,dI (IntKind.i64.wrap (i.o.qty-i.q)),dI 0]]∧c.Rep i.p i.X.B i.X.U
def pY (a:Mkt) (b:z7a) (c:RjI):Prop:=yD a.used=yD b.m.used∧AObj.fro 1 (iE a.p.months)=yZ b.m 3∧AObj.fro 1 (iE a.p.settle)=yZ b.m 4∧List.map xZ b.X.R=[xZ (Rep.mk 2 c.c.id 0 0 0 0 0 c.why)]∧a.Rep b.p b.X.B b.X.U
def sG (a:z7a):Prop:=∃(b:MSt),zF b=yZ a.m 1∧(h8 b)∧∀(c:Unit),True→∃(d:StI),d.id=a.c.id∧d.q=a.o.qty∧zF d.s=zF b∧(d.s.Rep d.p d.B∧d.B.length≤1000)∧∀(e:MSt),e.Rep d.p (qV d.B d.id d.q).fst→∃(f:RunI),f.inst=a.inst∧zD f.sd=a.o.side∧f.price=a.c.price∧f.q=a.c.qty∧zF f.s=zF e∧(qB f)∧∀(g:Unit),True→cnd (bD f.p f.B f.inst f.sd f.price f.q) (∃(h:RjI),h.c.kind=a.c.kind∧h.c.id=a.c.id∧h.c.inst=a.c.inst∧h.c.side=a.c.side∧h.c.price=a.c.price∧h.c.qty=a.c.qty∧h.c.least=a.c.least∧h.c.time=a.c.time∧sb h.c.label=sb a.c.label∧h.why=23∧True∧∀(j:Unit),True→∃(k:Mkt),sb k.p.code=sb a.m.p.code∧k.p.tick=a.m.p.tick∧k.p.low=a.m.p.low∧k.p.high=a.m.p.high∧k.p.wide=a.m.p.wide∧k.p.rule=a.m.p.rule∧k.p.top=a.m.p.top∧k.p.least=a.m.p.least∧k.p.part=a.m.p.part∧zF k.s=zF b∧pY k a h) (∃(h:CaI),h.id=a.c.id∧h.inst=a.inst∧h.o.id=a.o.id∧h.o.side=a.o.side∧h.o.price=a.o.price∧h.o.qty=a.o.qty∧h.o.top=a.o.top∧sb h.m.p.code=sb a.m.p.code∧h.m.p.tick=a.m.p.tick∧h.m.p.low=a.m.p.low∧h.m.p.high=a.m.p.high∧h.m.p.wide=a.m.p.wide∧h.m.p.rule=a.m.p.rule∧h.m.p.top=a.m.p.top∧h.m.p.least=a.m.p.least∧h.m.p.part=a.m.p.part∧zF h.m.s=zF b∧yD h.m.used=yD a.m.used∧AObj.fro 1 (iE h.m.p.months)=yZ a.m 3∧AObj.fro 1 (iE h.m.p.settle)=yZ a.m 4∧((h.m.Rep h.p h.B h.U∧BOk h.p h.B)∧h.X=aR h.B h.U h.id h.inst h.o)∧∀(j:Mkt),j.Rep h.p h.X.B h.X.U→∃(k:EnI),k.c.kind=1∧k.c.id=a.c.id∧k.c.inst=a.inst∧k.c.side=a.o.side∧k.c.price=a.c.price∧k.c.qty=a.c.qty∧k.c.least=0∧k.c.time=1∧sb k.c.label=ByteArray.mk #[]∧sb k.m.p.code=sb j.p.code∧k.m.p.tick=j.p.tick∧k.m.p.low=j.p.low∧k.m.p.high=j.p.high∧k.m.p.wide=j.p.wide∧k.m.p.rule=j.p.rule∧k.m.p.top=j.p.top∧k.m.p.least=j.p.least∧k.m.p.part=j.p.part∧zF k.m.s=zF j.s∧yD k.m.used=yD j.used∧AObj.fro 1 (iE k.m.p.months)=AObj.fro 1 (iE j.p.months)∧AObj.fro 1 (iE k.m.p.settle)=AObj.fro 1 (iE j.p.settle)∧(nE k)∧∀(l:Mkt),l.Rep k.p k.X.B k.X.U→((List.map xZ h.X.R).length+(List.map xZ k.X.R).length)*(64:Nat)≤(140737488355328:Nat)∧∃(m:Mkt),sb m.p.code=sb l.p.code∧m.p.tick=l.p.tick∧m.p.low=l.p.low∧m.p.high=l.p.high∧m.p.wide=l.p.wide∧m.p.rule=l.p.rule∧m.p.top=l.p.top∧m.p.least=l.p.least∧m.p.part=l.p.part∧zF m.s=zF l.s∧yD m.used=yD l.used∧AObj.fro 1 (iE m.p.months)=AObj.fro 1 (iE l.p.months)∧AObj.fro 1 (iE m.p.settle)=AObj.fro 1 (iE l.p.settle)∧List.map xZ a.X.R=List.map xZ h.X.R++List.map xZ k.X.R∧m.Rep a.p a.X.B a.X.U)
def cD (a:CaI):Prop:=(a.m.Rep a.p a.B a.U∧BOk a.p a.B)∧((-9223372036854775808)≤a.o.qty-a.q∧a.o.qty-a.q≤9223372036854775807)∧a.X=zDd a.B a.U a.id a.q a.inst a.o
def zVt (i:z7a):Prop:=
 ∃(a:rR),sb a.p.code=sb i.m.p.code∧iE a.p.months=iE i.m.p.months∧a.p.tick=i.m.p.tick∧a.p.low=i.m.p.low∧a.p.high=i.m.p.high∧a.p.wide=i.m.p.wide∧a.p.rule=i.m.p.rule∧a.p.top=i.m.p.top∧a.p.least=i.m.p.least∧a.p.part=i.m.p.part∧iE a.p.settle=iE i.m.p.settle∧a.a=i.inst∧a.b=i.c.price∧(xU a)∧∀(b:Unit),True→cnd (a.p.price a.a a.b !=0) (∃(c:RjI),c.c.kind=i.c.kind∧c.c.id=i.c.id∧c.c.inst=i.c.inst∧c.c.side=i.c.side∧c.c.price=i.c.price∧c.c.qty=i.c.qty∧c.c.least=i.c.least∧c.c.time=i.c.time∧sb c.c.label=sb i.c.label∧c.why=a.p.price a.a a.b∧True∧∀(d:Unit),True→∃(e:Mkt),sb e.p.code=sb i.m.p.code∧e.p.tick=i.m.p.tick∧e.p.low=i.m.p.low∧e.p.high=i.m.p.high∧e.p.wide=i.m.p.wide∧e.p.rule=i.m.p.rule∧e.p.top=i.m.p.top∧e.p.least=i.m.p.least∧e.p.part=i.m.p.part∧zF e.s=yZ i.m 1∧pY e i c) (cnd (i.c.price==i.o.price) (cnd (decide (i.c.qty≤i.o.qty)) (∃(c:CaI),c.id=i.c.id∧c.q=IntKind.i64.wrap (i.o.qty-i.c.qty)∧c.inst=i.inst∧c.o.id=i.o.id∧c.o.side=i.o.side∧c.o.price=i.o.price∧c.o.qty=i.o.qty∧c.o.top=i.o.top∧sb c.m.p.code=sb i.m.p.code∧c.m.p.tick=i.m.p.tick∧c.m.p.low=i.m.p.low∧c.m.p.high=i.m.p.high∧c.m.p.wide=i.m.p.wide∧c.m.p.rule=i.m.p.rule∧c.m.p.top=i.m.p.top∧c.m.p.least=i.m.p.least∧c.m.p.part=i.m.p.part∧zF c.m.s=yZ i.m 1∧yD c.m.used=yD i.m.used∧AObj.fro 1 (iE c.m.p.months)=yZ i.m 3∧AObj.fro 1 (iE c.m.p.settle)=yZ i.m 4∧(cD c)∧∀(d:Mkt),d.Rep c.p c.X.B c.X.U→∃(e:Mkt),sb e.p.code=sb d.p.code∧e.p.tick=d.p.tick∧e.p.low=d.p.low∧e.p.high=d.p.high∧e.p.wide=d.p.wide∧e.p.rule=d.p.rule∧e.p.top=d.p.top∧e.p.least=d.p.least∧e.p.part=d.p.part∧zF e.s=zF d.s∧yD e.used=yD d.used∧AObj.fro 1 (iE e.p.months)=AObj.fro 1 (iE d.p.months)∧AObj.fro 1 (iE e.p.settle)=AObj.fro 1 (iE d.p.settle)∧List.map xZ i.X.R=List.map xZ c.X.R∧e.Rep i.p i.X.B i.X.U) (sG i)) (sG i))
def zTy (a:CaI) (b:EnI):Prop:=∀(c:Mkt),c.Rep a.p a.X.B a.X.U→∃(d:Mkt),sb d.p.code=sb c.p.code∧d.p.tick=c.p.tick∧d.p.low=c.p.low∧d.p.high=c.p.high∧d.p.wide=c.p.wide∧d.p.rule=c.p.rule∧d.p.top=c.p.top∧d.p.least=c.p.least∧d.p.part=c.p.part∧zF d.s=zF c.s∧yD d.used=yD c.used∧AObj.fro 1 (iE d.p.months)=AObj.fro 1 (iE c.p.months)∧AObj.fro 1 (iE d.p.settle)=AObj.fro 1 (iE c.p.settle)∧List.map xZ b.X.R=List.map xZ a.X.R∧d.Rep b.p b.X.B b.X.U
def zRc (a:Mkt) (b:EnI) (c:RjI):Prop:=yD a.used=yD b.m.used∧AObj.fro 1 (iE a.p.months)=AObj.fro 1 (iE b.m.p.months)∧AObj.fro 1 (iE a.p.settle)=AObj.fro 1 (iE b.m.p.settle)∧List.map xZ b.X.R=[xZ (Rep.mk 2 c.c.id 0 0 0 0 0 c.why)]∧a.Rep b.p b.X.B b.X.U
def z0x (a:EnI) (b:StI):Prop:=∃(c:CaI),c.id=a.c.id∧c.inst=(yF b.B b.id).fst∧c.o.id=(yF b.B b.id).snd.fst.id∧c.o.side=(yF b.B b.id).snd.fst.side∧c.o.price=(yF b.B b.id).snd.fst.price∧c.o.qty=(yF b.B b.id).snd.fst.qty∧c.o.top=(yF b.B b.id).snd.fst.top∧sb c.m.p.code=sb a.m.p.code∧c.m.p.tick=a.m.p.tick∧c.m.p.low=a.m.p.low∧c.m.p.high=a.m.p.high∧c.m.p.wide=a.m.p.wide∧c.m.p.rule=a.m.p.rule∧c.m.p.top=a.m.p.top∧c.m.p.least=a.m.p.least∧c.m.p.part=a.m.p.part∧zF c.m.s=zF b.s∧yD c.m.used=yD a.m.used∧AObj.fro 1 (iE c.m.p.months)=AObj.fro 1 (iE a.m.p.months)∧AObj.fro 1 (iE c.m.p.settle)=AObj.fro 1 (iE a.m.p.settle)∧((c.m.Rep c.p c.B c.U∧BOk c.p c.B)∧c.X=aR c.B c.U c.id c.inst c.o)∧zTy c a
def yFu (a:EnI):Prop:=∃(b:StI),b.id=a.c.id∧zF b.s=zF a.m.s∧(b.s.Rep b.p b.B∧b.B.length≤1000)∧∀(c:Unit),True→cnd (!(yF b.B b.id).snd.snd) (∃(d:RjI),d.c.kind=a.c.kind∧d.c.id=a.c.id∧d.c.inst=a.c.inst∧d.c.side=a.c.side∧d.c.price=a.c.price∧d.c.qty=a.c.qty∧d.c.least=a.c.least∧d.c.time=a.c.time∧sb d.c.label=sb a.c.label∧d.why=26∧True∧∀(e:Unit),True→∃(f:Mkt),sb f.p.code=sb a.m.p.code∧f.p.tick=a.m.p.tick∧f.p.low=a.m.p.low∧f.p.high=a.m.p.high∧f.p.wide=a.m.p.wide∧f.p.rule=a.m.p.rule∧f.p.top=a.m.p.top∧f.p.least=a.m.p.least∧f.p.part=a.m.p.part∧zF f.s=zF b.s∧zRc f a d) (cnd (a.c.kind==4) (∃(d:z7a),d.c.kind=a.c.kind∧d.c.id=a.c.id∧d.c.inst=a.c.inst∧d.c.side=a.c.side∧d.c.price=a.c.price∧d.c.qty=a.c.qty∧d.c.least=a.c.least∧d.c.time=a.c.time∧sb d.c.label=sb a.c.label∧d.inst=(yF b.B b.id).fst∧d.o.id=(yF b.B b.id).snd.fst.id∧d.o.side=(yF b.B b.id).snd.fst.side∧d.o.price=(yF b.B b.id).snd.fst.price∧d.o.qty=(yF b.B b.id).snd.fst.qty∧d.o.top=(yF b.B b.id).snd.fst.top∧sb d.m.p.code=sb a.m.p.code∧d.m.p.tick=a.m.p.tick∧d.m.p.low=a.m.p.low∧d.m.p.high=a.m.p.high∧d.m.p.wide=a.m.p.wide∧d.m.p.rule=a.m.p.rule∧d.m.p.top=a.m.p.top∧d.m.p.least=a.m.p.least∧d.m.p.part=a.m.p.part∧zF d.m.s=zF b.s∧yD d.m.used=yD a.m.used∧AObj.fro 1 (iE d.m.p.months)=AObj.fro 1 (iE a.m.p.months)∧AObj.fro 1 (iE d.m.p.settle)=AObj.fro 1 (iE a.m.p.settle)∧(d.m.Rep d.p d.B d.U∧BOk d.p d.B∧yF d.B d.c.id=(d.inst,d.o,true)∧(1≤d.c.qty∧d.c.qty≤1000000)∧d.X=bT d.p d.B d.U d.c d.inst d.o)∧∀(e:Mkt),e.Rep d.p d.X.B d.X.U→∃(f:Mkt),sb f.p.code=sb e.p.code∧f.p.tick=e.p.tick∧f.p.low=e.p.low∧f.p.high=e.p.high∧f.p.wide=e.p.wide∧f.p.rule=e.p.rule∧f.p.top=e.p.top∧f.p.least=e.p.least∧f.p.part=e.p.part∧zF f.s=zF e.s∧yD f.used=yD e.used∧AObj.fro 1 (iE f.p.months)=AObj.fro 1 (iE e.p.months)∧AObj.fro 1 (iE f.p.settle)=AObj.fro 1 (iE e.p.settle)∧List.map xZ a.X.R=List.map xZ d.X.R∧f.Rep a.p a.X.B a.X.U) (cnd (a.c.kind==2) (z0x a b) (cnd (decide (a.c.qty≥(yF b.B b.id).snd.fst.qty)) (z0x a b) (∃(d:CaI),d.id=a.c.id∧d.q=a.c.qty∧d.inst=(yF b.B b.id).fst∧d.o.id=(yF b.B b.id).snd.fst.id∧d.o.side=(yF b.B b.id).snd.fst.side∧d.o.price=(yF b.B b.id).snd.fst.price∧d.o.qty=(yF b.B b.id).snd.fst.qty∧d.o.top=(yF b.B b.id).snd.fst.top∧sb d.m.p.code=sb a.m.p.code∧d.m.p.tick=a.m.p.tick∧d.m.p.low=a.m.p.low∧d.m.p.high=a.m.p.high∧d.m.p.wide=a.m.p.wide∧d.m.p.rule=a.m.p.rule∧d.m.p.top=a.m.p.top∧d.m.p.least=a.m.p.least∧d.m.p.part=a.m.p.part∧zF d.m.s=zF b.s∧yD d.m.used=yD a.m.used∧AObj.fro 1 (iE d.m.p.months)=AObj.fro 1 (iE a.m.p.months)∧AObj.fro 1 (iE d.m.p.settle)=AObj.fro 1 (iE a.m.p.settle)∧(cD d)∧zTy d a))))
def Vdo (i:EnI):Prop:=
 ∃(a:Cmd),a.kind=i.c.kind∧a.id=i.c.id∧a.inst=i.c.inst∧a.side=i.c.side∧a.price=i.c.price∧a.qty=i.c.qty∧a.least=i.c.least∧a.time=i.c.time∧sb a.label=sb i.c.label∧a.label.length≤140737488355328∧∀(b:Unit),True→cnd (a.right !=0) (∃(c:RjI),c.c.kind=i.c.kind∧c.c.id=i.c.id∧c.c.inst=i.c.inst∧c.c.side=i.c.side∧c.c.price=i.c.price∧c.c.qty=i.c.qty∧c.c.least=i.c.least∧c.c.time=i.c.time∧sb c.c.label=sb i.c.label∧c.why=a.right∧True∧∀(d:Unit),True→∃(e:Mkt),sb e.p.code=sb i.m.p.code∧e.p.tick=i.m.p.tick∧e.p.low=i.m.p.low∧e.p.high=i.m.p.high∧e.p.wide=i.m.p.wide∧e.p.rule=i.m.p.rule∧e.p.top=i.m.p.top∧e.p.least=i.m.p.least∧e.p.part=i.m.p.part∧zF e.s=zF i.m.s∧zRc e i c) (cnd (i.c.kind==1) (∃(c:EnI),c.c.kind=i.c.kind∧c.c.id=i.c.id∧c.c.inst=i.c.inst∧c.c.side=i.c.side∧c.c.price=i.c.price∧c.c.qty=i.c.qty∧c.c.least=i.c.least∧c.c.time=i.c.time∧sb c.c.label=sb i.c.label∧sb c.m.p.code=sb i.m.p.code∧c.m.p.tick=i.m.p.tick∧c.m.p.low=i.m.p.low∧c.m.p.high=i.m.p.high∧c.m.p.wide=i.m.p.wide∧c.m.p.rule=i.m.p.rule∧c.m.p.top=i.m.p.top∧c.m.p.least=i.m.p.least∧c.m.p.part=i.m.p.part∧zF c.m.s=zF i.m.s∧yD c.m.used=yD i.m.used∧AObj.fro 1 (iE c.m.p.months)=AObj.fro 1 (iE i.m.p.months)∧AObj.fro 1 (iE c.m.p.settle)=AObj.fro 1 (iE i.m.p.settle)∧((c.m.Rep c.p c.B c.U∧BOk c.p c.B)∧c.c.right=0∧c.c.kind=1∧c.X=sQ c.p c.B c.U c.c)∧nJ c i) ((yFu i)∧i.c.id=i.c.id∧True∧yFu i))
open Go Cv Go.Proofs
theorem zFf (p:Prd) (B:List (List zJ)) (U:List Int) (c:Cmd):aW p B U c=⟨if(j0 p B c.inst (decide (c.side=2)) c.price c.qty).left≠0∧c.time=1 then(z1w p (j0 p B c.inst (decide (c.side=2)) c.price c.qty).B c.inst c.id c.side c.price (j0 p B c.inst (decide (c.side=2)) c.price c.qty).left).1 else(j0 p B c.inst (decide (c.side=2)) c.price c.qty).B,zOd U c.id,
 (⟨1,c.id,c.inst,c.side,c.price,c.qty,c.qty,0⟩::rF p c (j0 p B c.inst (decide (c.side=2)) c.price c.qty).steps c.qty)++if(j0 p B c.inst (decide (c.side=2)) c.price c.qty).left≠0∧c.time≠1 then[⟨4,c.id,c.inst,c.side,c.price,(j0 p B c.inst (decide (c.side=2)) c.price c.qty).left,0,0⟩]else[]⟩:=by
 rw[aW]
theorem zPp {p:Prd} {B:List (List zJ)} (h:BWf p B) (U:List Int) (c:Cmd):BOk p (aW p B U c).B:=by
 have:=(mR (inst:=c.inst) (sd:=decide (c.side=2)) (price:=c.price) _ c.qty B (yYa _) h).1.ok
 rw[zFf]
 dsimp only
 split
 ·exact this.add _ _ _ _ _
 ·exact this
theorem z6h {p:Prd} {B:List (List zJ)} (h:BWf p B) (U:List Int) (c:Cmd):BOk p (sQ p B U c).B:=by
 rw[sQ]
 split
 ·exact h.ok
 split
 ·exact h.ok
 split
 ·exact h.ok
 split
 ·exact h.ok
 split
 ·exact h.ok
 exact zPp h U c
theorem yEf {p:Prd} {B:List (List zJ)} (h:BWf p B) (U:List Int) (c:Cmd):BOk p (doF p B U c).B:=by
 rw[doF]
 split
 ·exact h.ok
 split
 ·exact z6h h U c
 split
 ·exact h.ok
 split
 ·rw[bT]
  split
  ·exact h.ok
  split
  ·exact h.ok.take _ _
  split
  ·exact h.ok
  exact zPp (h.take _ _) U _
 split
 ·exact h.ok.take _ _
 ·exact h.ok.take _ _
open Go Cv Go.Proofs
def Two (L:List zJ):Prop:=L=r9 L 1++r9 L 2
open Go Cv Go.Proofs
open Go Cv Go.Proofs
open Go Cv Go.Proofs
theorem tD {inst s:Int} {f:dM}:∀{os:List zJ} {sh:List Int},f∈xN inst s os sh→f.side=s∧f.inst=inst∧∃o∈os,f.price=o.price
 |[],sh,h=>by cases h
 |o::os,[],h=>by cases h
 |o::os,k::sh,h=>by
  rw[xN]at h
  split at h
  ·rcases yXl.1 h with rfl|h
   ·exact⟨rfl,rfl,o,yWy,rfl⟩
   ·obtain⟨a,b,o',c,d⟩:=tD h
    exact⟨a,b,o',yWz _ c,d⟩
  ·obtain⟨a,b,o',c,d⟩:=tD h
   exact⟨a,b,o',yWz _ c,d⟩
def FOk (f:dM):Prop:=(f.side=1∨f.side=2)∧-2000000≤f.price∧f.price≤2000000
theorem zGv {p:Prd} {B:List (List zJ)} (h:BOk p B) (inst:Int) {s:Int} (hs:s=1∨s=2) (q:Int):∀f∈qH p B inst s q,FOk f:=by
 intro f hf
 obtain⟨a,_,o,ho,e⟩:=tD hf
 refine⟨by rw[a];exact hs,?_⟩
 rw[e]
 have ho:=(yYv.1 ho).1
 by_cases hk:inst.toNat<B.length
 ·obtain⟨L,hL⟩:=zW hk
  rw[zT hL]at ho
  exact h.prices hL o ho
 ·rw[yXb,yXw (by omega)]at ho;cases ho
def SOk (t:j8):Prop:=(-2000000≤t.price∧t.price≤2000000)∧(∀f∈t.fills,FOk f)∧t.fills.length≤500
theorem yHu {p:Prd} {B:List (List zJ)} (h:BWf p B) {inst:Int} (hi:0≤inst∧inst<B.length) {s:Int} (hs:s=1∨s=2) (hn:(yQ p B inst s).2.2=true): -2000000≤(yQ p B inst s).1.price∧(yQ p B inst s).1.price≤2000000:=by
 rw[yQ]at hn ⊢
 obtain⟨L,hL⟩:=zW (l:=B) (i:=inst.toNat) (by omega)
 rw[zT hL]at hn ⊢
 split
 ·exact zSi (h.ok.prices hL)
 ·rename_i c
  rw[yWs c]at hn
  have hm:=zFv hn
  have:=(yYv.1 hm).2
  exact tE h.ok.pc (yYh this)
theorem yGk {p:Prd} {B:List (List zJ)} (h:BWf p B) {inst:Int} (hi:0≤inst∧inst<B.length) {sd:Bool} {price q:Int} {t:j8} {B':List (List zJ)} (e:c9 p B inst sd price q=some (t,B')):SOk t:=by
 have hs:zD (!sd)=1∨zD (!sd)=2:=zDk _
 have hb:=yHu h hi hs
 have hin:=z4n h.ok h.od hi hs
 rw[c9]at e
 dsimp only at e
 split at e
 ·rename_i c
  have c1:(yQ p B inst (zD (!sd))).2.2=true:=by
   cases hx:(yQ p B inst (zD (!sd))).2.2 with
   |false=>rw[hx]at c;cases c
   |true=>rfl
  have hb:=hb c1
  obtain⟨_,hin,_⟩:=hin c1
  split at e
  ·rename_i c2
   obtain⟨_,ok⟩:=hin c2
   cases e
   refine⟨hb,fun f hf=> ?_,?_⟩
   ·rcases yXy.1 hf with hf|hf
    ·exact zGv h.ok _ ok.sa _ f hf
    ·exact zGv h.ok.takes _ ok.sb _ f hf
   ·dsimp only
    rw[yWx]
    have:=mM (p:=p) h.od (yQ p B inst (zD (!sd))).1.a.inst (yQ p B inst (zD (!sd))).1.a.side (min q (yQ p B inst (zD (!sd))).1.qty)
    have:=mM (p:=p) (h.takes (fs:=qH p B (yQ p B inst (zD (!sd))).1.a.inst (yQ p B inst (zD (!sd))).1.a.side (min q (yQ p B inst (zD (!sd))).1.qty))).od (yQ p B inst (zD (!sd))).1.b.inst (yQ p B inst (zD (!sd))).1.b.side (min q (yQ p B inst (zD (!sd))).1.qty)
    omega
  ·cases e
   refine⟨hb,fun f hf=>zGv h.ok _ hs _ f hf,?_⟩
   have:=mM (p:=p) h.od inst (zD (!sd)) (min q (yQ p B inst (zD (!sd))).1.qty)
   dsimp only
   omega
 ·cases e
open Go Cv Go.Proofs
open Go Cv Go.Proofs
def zBc (a:StI):Prop:=yU a.s.wh=yU a.s.wh∧AObj.fro 1 (iE a.s.p.months)=AObj.fro 1 (iE a.s.p.months)∧AObj.fro 1 (iE a.s.p.settle)=AObj.fro 1 (iE a.s.p.settle)∧True
def z9m (i:StI):Prop:=
 (cX i)∧∃(a:Bool),∃(b:Int),(nF i b a)∧cnd (!a) (∃(c:Unit),(yF i.B i.id).fst=0∧(yF i.B i.id).snd.fst.id=0∧(yF i.B i.id).snd.fst.side=0∧(yF i.B i.id).snd.fst.price=0∧(yF i.B i.id).snd.fst.qty=0∧(yF i.B i.id).snd.fst.top=false∧(yF i.B i.id).snd.snd=false∧sb i.s.p.code=sb i.s.p.code∧i.s.p.tick=i.s.p.tick∧i.s.p.low=i.s.p.low∧i.s.p.high=i.s.p.high∧i.s.p.wide=i.s.p.wide∧i.s.p.rule=i.s.p.rule∧i.s.p.top=i.s.p.top∧i.s.p.least=i.s.p.least∧i.s.p.part=i.s.p.part∧AObj.objs 241 Book 6 zS i.s.books none=AObj.objs 241 Book 6 zS i.s.books none∧zBc i) ((0≤b∧b<(↑i.s.books.length:Int))∧b.toNat<i.s.books.length∧∃(c:Book),i.s.books[b.toNat]?=some c∧∃(d:FlI),d.id=i.id∧z8 d.b=z8 c∧d.b.Rep d.L∧∀(e:Unit),True→∃(f:Book),z8 d.b=z8 f∧b.toNat=b.toNat∧b.toNat<i.s.books.length∧∃(g:Unit),(yF i.B i.id).fst=b∧(yF i.B i.id).snd.fst.id=(f8 d.L d.id).id∧(yF i.B i.id).snd.fst.side=(f8 d.L d.id).side∧(yF i.B i.id).snd.fst.price=(f8 d.L d.id).price∧(yF i.B i.id).snd.fst.qty=(f8 d.L d.id).qty∧(yF i.B i.id).snd.fst.top=(f8 d.L d.id).top∧(yF i.B i.id).snd.snd=true∧sb i.s.p.code=sb i.s.p.code∧i.s.p.tick=i.s.p.tick∧i.s.p.low=i.s.p.low∧i.s.p.high=i.s.p.high∧i.s.p.wide=i.s.p.wide∧i.s.p.rule=i.s.p.rule∧i.s.p.top=i.s.p.top∧i.s.p.least=i.s.p.least∧i.s.p.part=i.s.p.part∧AObj.objs 241 Book 6 zS i.s.books none=AObj.objs 241 Book 6 zS (i.s.books.set b.toNat f) none∧zBc i)
open Go Cv Go.Proofs
theorem yPs (i:StI) (h:sfindC.cnd i):z9m i:=by
 obtain⟨hR,hB⟩:i.s.Rep i.p i.B∧i.B.length≤1000:=h
 have hat:=hR.at_ i.id
 unfold z9m cX nF zBc dI
 rw[yF]
 cases hi:cZ i.B i.id with
 |none=>
  rw[hi]at hat
  exact⟨fQ _ _,false,0,.inr ⟨by rw[mE,hat];rfl,rfl,rfl⟩,Cv.cnd.mk (fun _=>⟨(),k0q⟩) (fun e=>absurd e (by decide))⟩
 |some k=>
  rw[hi]at hat
  obtain⟨L,hL,hh⟩:=uY hi
  have hk:=(yWv.1 hL).1
  obtain⟨b,hb⟩:=zW (l:=i.s.books) (i:=k) (by rw[hR.bl];exact hk)
  have hbR:=hR.bk k b L hb hL
  have hbl:=hR.bl
  refine⟨fQ _ _,true,k,.inl ⟨by rw[mE,hat];rfl,rfl⟩,Cv.cnd.mk (fun e=>absurd e (by decide)) (fun _=> ?_)⟩
  dsimp only
  rw[yXn,zT hL]
  have hs:=vV hb
  refine⟨⟨by omega,by omega⟩,by omega,b,hb,⟨b,L,i.id,0⟩,rfl,rfl,hbR,fun _ _=>⟨b,rfl,rfl,by omega,(),?_⟩⟩
  rw[hs]
  (repeat'(first|exact trivial|exact rfl|apply And.intro))
theorem yFp:sfindC.ok Tryz.prog 114:=okw mixed (gokc zUc gok0) 0 (fun _=>[]) (fun _=>[]) [0] Tryz.func114 yPs
open Go Cv Go.Proofs
theorem zQi (id:Int) (U:List Int):∀p∈yD U,like (Value.int IntKind.i64 id) p.1=true:=by
 intro p hp
 obtain⟨k,_,rfl⟩:=yYj.1 hp
 rfl
theorem zPh (id:Int):∀U:List Int,gW (Value.int IntKind.i64 id) [D.v (.bool true)] (yD U)=yD (zOd U id)
 |[]=>rfl
 |k::U=>by
  have ih:=zPh id U
  have e:rT (Value.int IntKind.i64 id) (Value.int IntKind.i64 k)=decide (id=k):=by simp[rT,keq]
  show(bif rT (Value.int IntKind.i64 id) (Value.int IntKind.i64 k)then(Value.int IntKind.i64 k,[D.v (.bool true)])::yD U else(Value.int IntKind.i64 k,[D.v (.bool true)])::gW (Value.int IntKind.i64 id) [D.v (.bool true)] (yD U))=_
  rw[e,ih]
  by_cases c:id=k
  ·rw[yXi c,cond_true,zOd,yWt (by rw[c];exact yWy)];rfl
  ·rw[yXf c,cond_false,zOd,zOd]
   have hm:id∈k::U↔id∈U:=by simp[c]
   by_cases d:id∈U
   ·rw[yWt d,yWt (hm.2 d)];rfl
   ·rw[yWs d,yWs (fun x=>d (hm.1 x))];rfl
theorem zPx (id:Int):∀U:List Int,vX (Value.int IntKind.i64 id) (yD U)=if id∈U then some [D.v (.bool true)]else none
 |[]=>rfl
 |k::U=>by
  have ih:=zPx id U
  have e:rT (Value.int IntKind.i64 id) (Value.int IntKind.i64 k)=decide (id=k):=by simp[rT,keq]
  show(bif rT (Value.int IntKind.i64 id) (Value.int IntKind.i64 k)then some [D.v (.bool true)]else vX (Value.int IntKind.i64 id) (yD U))=_
  rw[e,ih]
  by_cases c:id=k
  ·rw[yXi c,cond_true,yWt (by rw[c];exact yWy)]
  ·rw[yXf c,cond_false]
   have hm:id∈k::U↔id∈U:=by simp[c]
   by_cases d:id∈U
   ·rw[yWt d,yWt (hm.2 d)]
   ·rw[yWs d,yWs (fun x=>d (hm.1 x))]
theorem yDd (id:Int) (U:List Int):vX (Value.int IntKind.i64 id) (yD U)=some [D.v (.bool (decide (id∈U)))]∧decide (id∈U)=true∨vX (Value.int IntKind.i64 id) (yD U)=none∧[D.v (.bool (decide (id∈U)))]=[D.v (.bool false)]∧decide (id∈U)=false:=by
 rw[zPx]
 by_cases c:id∈U
 ·rw[yWt c,yXi c];exact .inl ⟨rfl,rfl⟩
 ·rw[yWs c,yXf c];exact .inr ⟨rfl,rfl,rfl⟩
theorem zRu {p:Prd} {inst:Int} {sd:Bool} {price:Int}:∀(m:Nat) (q:Int) (B:List (List zJ)),q.toNat≤m→BWf p B→0≤inst∧inst<B.length→
 (∀t∈(j0 p B inst sd price q).steps,SOk t∧1≤t.qty)∧((j0 p B inst sd price q).steps.map (·.qty)).sum=q-(j0 p B inst sd price q).left
 |m,q,B,hm,h,hi=>by
  by_cases hq:q≤0
  ·rw[tF (.inl hq)];exact⟨fun t ht=>(by cases ht),by simp⟩
  cases hs:c9 p B inst sd price q with
  |none=>rw[tF (.inr hs)];exact⟨fun t ht=>(by cases ht),by simp⟩
  |some x=>
   obtain⟨t,C⟩:=x
   obtain⟨k1,k2⟩:=zPz h hs
   have hq2:=zMk (by omega) hs
   cases m with
   |zero=>omega
   |succ m=>
   obtain⟨i1,i2⟩:=zRu (p:=p) (inst:=inst) (sd:=sd) (price:=price) m (q-t.qty) C (by omega) k1 (by rw[k2];exact hi)
   rw[zJs (by omega) hs]
   refine⟨fun u hu=> ?_,?_⟩
   ·rcases yXl.1 hu with rfl|hu
    ·exact⟨yGk h hi hs,hq2.1⟩
    ·exact i1 u hu
   ·dsimp only
    rw[yXh,yYf,i2];omega
theorem yLh {α:Type} {f:α→List Rep} (hf:∀x,(f x).length≤3):∀l:List α,(l.flatMap f).length≤3*l.length
 |[]=>yYa _
 |x::l=>by
  have:=yLh hf l
  have:=hf x
  rw[yYm,yWx,yXa];omega
theorem zQs (p:Prd) (c:Cmd) (x:j8) (left:Int):(mD p c x left).length≤3*x.fills.length+3:=by
 rw[mD,yWx]
 have:=yLh (fun f=>zNp p x (zDj f)) x.fills
 have:=zNp p x ⟨3,c.id,c.inst,c.side,x.price,x.qty,left,0⟩
 omega
theorem zTn {l:List j8} (h:∀t∈l,SOk t∧1≤t.qty):(l.length:Int)≤(l.map (·.qty)).sum:=by
 induction l with
 |nil=>exact y1p _
 |cons t l ih=>
  have:=ih fun u hu=>h u (yWz _ hu)
  have:=(h t yWy).2
  rw[yXh,yYf,yXa];omega
theorem yPt (i:EnI) (h:enterC.cnd i):yCz i:=by
 obtain⟨m,p,B,U,c,X⟩:=i
 have h':(m.Rep p B U∧BOk p B)∧((0≤c.inst∧c.inst<B.length)∧(1≤c.qty∧c.qty≤1000000)∧(c.side=1∨c.side=2))∧p.price c.inst c.price=0∧X=aW p B U c:=h
 clear h
 obtain⟨⟨⟨ep,hR,eu⟩,hB⟩,⟨⟨h0,h1⟩,hq,hs⟩,hpz,hX⟩:=h'
 subst ep eu hX
 have hwf:=hR.wf hB
 obtain⟨k1,k2,k3⟩:=mR (inst:=c.inst) (sd:=decide (c.side=2)) (price:=c.price) _ c.qty B (yYa _) hwf
 have k3:=k3 (by omega)
 obtain⟨s1,s2⟩:=zRu (inst:=c.inst) (sd:=decide (c.side=2)) (price:=c.price) _ c.qty B (yYa _) hwf ⟨h0,h1⟩
 have hX:=zFf m.p B m.used c
 have hbd:=tE hB.pc hpz
 unfold yCz qB vF zAf dI
 dsimp only
 rw[zPh,hX]
 refine⟨zQi _ _,⟨m.s,m.p,B,c.inst,decide (c.side=2),c.price,c.qty⟩,rfl,gK hs,rfl,rfl,rfl,⟨hR,hB,⟨h0,h1⟩,hq.1,hq.2⟩,fun o ho=> ?_⟩
 have er:RunI.r ⟨m.s,m.p,B,c.inst,decide (c.side=2),c.price,c.qty⟩=j0 m.p B c.inst (decide (c.side=2)) c.price c.qty:=rfl
 rw[er]at ho ⊢
 clear hX er
 generalize j0 m.p B c.inst (decide (c.side=2)) c.price c.qty=R at*
 obtain⟨ts,lf,RB⟩:=R
 dsimp only at*
 have hlen:=zTn s1
 have e4:(ts.map jS).length=ts.length:=yWu ..
 refine⟨⟨c.qty,0,[⟨1,c.id,c.inst,c.side,c.price,c.qty,c.qty,0⟩]⟩,rfl,rfl,rfl,fun j=>j.k≤ts.length∧j.left=lf+((ts.drop j.k).map (·.qty)).sum∧(⟨1,c.id,c.inst,c.side,c.price,c.qty,c.qty,0⟩::rF m.p c ts c.qty)=j.out++rF m.p c (ts.drop j.k) j.left∧j.out.length≤1+1503*j.k,fun j=>ts.length-j.k,⟨yYc _,by dsimp only;rw[y0l,s2];omega,rfl,yYa _⟩,?_⟩
 rintro⟨left,k,out⟩ ⟨j1,j2,j3,j4⟩
 dsimp only at j1 j2 j3 j4 ⊢
 have e5:(out.map xZ).length=out.length:=yWu ..
 refine zK (fun c1=> ?_) (fun c1=> ?_)
 ·obtain⟨t,ht⟩:=zW (l:=ts) (i:=k) (by omega)
  have hd:ts.drop k=t::ts.drop (k+1):=by rw[yZs (by omega),(yWv.1 ht).2]
  obtain⟨⟨t1,t2,t3⟩,t4⟩:=s1 t (yXd ht)
  have hsd:=zTn (l:=ts.drop (k+1)) fun u hu=>s1 u (y0q hu)
  have hsk:((ts.drop k).map (·.qty)).sum≤(ts.map (·.qty)).sum:=by
   have:=zTn (l:=ts.take k) fun u hu=>s1 u (y2e hu)
   have e:(ts.map (·.qty)).sum=((ts.take k).map (·.qty)).sum+((ts.drop k).map (·.qty)).sum:=by
    rw[← y2t,← yXe,yZc]
   omega
  rw[hd,yXh,yYf]at j2 hsk
  rw[hd,rF]at j3
  have hrl:=zQs m.p c t (left-t.qty)
  have e6:((mD m.p c t (left-t.qty)).map xZ).length=(mD m.p c t (left-t.qty)).length:=yWu ..
  have hw:IntKind.i64.wrap (left-t.qty)=left-t.qty:=w64 (by omega)
  refine⟨⟨by omega,by omega⟩,t.price,t.qty,t.implied,t.fills.map yS,elA ht (by simp[jS]) rfl,?_⟩
  rw[hw]
  refine⟨⟨⟨m.p,o,zOd m.used c.id⟩,c,t,left-t.qty⟩,rfl,rfl,rfl,rfl,rfl,rfl,rfl,rfl,rfl,rfl,rfl,rfl,rfl,rfl,rfl,rfl,rfl,rfl,rfl,rfl,rfl,rfl,rfl,rfl,rfl,rfl,rfl,⟨⟨hB.pc,hB.ps⟩,⟨by dsimp only;omega,by dsimp only;omega⟩,by dsimp only;omega,hs,fun f hf=>(t2 f hf).1⟩,fun _ _=>⟨by dsimp only;rw[e5,e6];omega,⟨left-t.qty,k+1,out++mD m.p c t (left-t.qty)⟩,rfl,wjn (by omega),by dsimp only;rw[yXe],⟨by dsimp only;omega,by dsimp only;omega,by dsimp only;rw[j3,yXc],by dsimp only;rw[yWx];omega⟩,by dsimp only;omega,k0q⟩⟩
 have hk:k=ts.length:=by omega
 subst hk
 rw[List.drop_of_length_le (yYa _)]at j2 j3
 rw[rF,yXp]at j3
 rw[← j3]
 rw[← j3]at e5 j4
 have hRB:=k1.ok
 refine Cv.cnd.mk (fun e=> ?_) (fun e=>Cv.cnd.mk (fun e2=> ?_) (fun e2=> ?_))
 ·have e:lf=0:=by simpa using e
  rw[yWs (by omega),yWs (by omega),yXp]
  exact⟨⟨m.p,o,zOd m.used c.id⟩,rfl,rfl,rfl,rfl,rfl,rfl,rfl,rfl,rfl,rfl,rfl,rfl,rfl,rfl,rfl,ho,rfl⟩
 ·have e:¬lf=0:=by simpa using e
  have e2:c.time=1:=by simpa using e2
  rw[yWs (show ¬(lf≠0∧c.time≠1)by omega),yWt (show lf≠0∧c.time=1 from⟨e,e2⟩),yXp]
  have ha:=(ho.add c.inst c.id (decide (c.side=2)) c.price lf).1
  rw[gK hs]at ha
  exact⟨⟨o,c.inst,c.id,decide (c.side=2),c.price,lf⟩,rfl,rfl,gK hs,rfl,rfl,rfl,ho.fit hRB,fun _ _=>⟨⟨m.p,(MSt.addF ⟨o,c.inst,c.id,decide (c.side=2),c.price,lf⟩).1,zOd m.used c.id⟩,rfl,rfl,rfl,rfl,rfl,rfl,rfl,rfl,rfl,rfl,rfl,rfl,rfl,rfl,rfl,ha,rfl⟩⟩
 ·have e:¬lf=0:=by simpa using e
  have e2:¬c.time=1:=by simpa using e2
  rw[yWt (show lf≠0∧c.time≠1 from⟨e,e2⟩),yWs (show ¬(lf≠0∧c.time=1)by omega)]
  exact⟨by rw[e5];omega,⟨m.p,o,zOd m.used c.id⟩,rfl,rfl,rfl,rfl,rfl,rfl,rfl,rfl,rfl,rfl,rfl,rfl,rfl,by rw[yXe];rfl,rfl,ho,rfl⟩
theorem zWd:enterC.ok Tryz.prog 169:=okw mixed (gokc z1n (gokc yAv (gokc yJa gok0))) 0 (fun _=>[]) (fun i=>yQx i) [] Tryz.func169 yPt
theorem zPd:cancelC.ok Tryz.prog 116:=okw (V:=yIe) mixed (gokc zEa gok0) 0 (fun _=>[]) (fun _=>[]) [] Tryz.func116 fun(i:CaI) h=>by
 obtain⟨m,p,B,U,id,q,inst,o,X⟩:=i
 have h':(m.Rep p B U∧BOk p B)∧X=aR B U id inst o:=h
 clear h
 obtain⟨⟨⟨ep,hR,eu⟩,hB⟩,hX⟩:=h'
 subst ep eu hX
 have:=xP m.p
 have:=hB.bl
 exact⟨⟨m.s,m.p,B,id,o.qty⟩,rfl,rfl,rfl,⟨hR,by dsimp only;omega⟩,fun o' ho=>⟨⟨m.p,o',m.used⟩,rfl,rfl,rfl,rfl,rfl,rfl,rfl,rfl,rfl,rfl,rfl,rfl,rfl,rfl,rfl,ho,rfl⟩⟩
theorem zPm:reduceC.ok Tryz.prog 117:=okw (V:=z5t) mixed (gokc zEa gok0) 0 (fun _=>[]) (fun _=>[]) [] Tryz.func117 fun(i:CaI) h=>by
 obtain⟨m,p,B,U,id,q,inst,o,X⟩:=i
 have h':(m.Rep p B U∧BOk p B)∧i64r (o.qty-q)∧X=zDd B U id q inst o:=h
 clear h
 obtain⟨⟨⟨ep,hR,eu⟩,hB⟩,hw,hX⟩:=h'
 subst ep eu hX
 have:=xP m.p
 have:=hB.bl
 have hw:=w64 hw
 unfold z5t dI
 dsimp only
 rw[hw]
 exact⟨⟨m.s,m.p,B,id,q⟩,rfl,rfl,rfl,⟨hR,by dsimp only;omega⟩,fun o' ho=>⟨⟨m.p,o',m.used⟩,rfl,rfl,rfl,rfl,rfl,rfl,rfl,rfl,rfl,rfl,rfl,rfl,rfl,rfl,rfl,ho,rfl⟩⟩
theorem zPa {c:Cmd} (h:c.right=0):(if c.kind=1 then c.orderE else if c.kind≠2∧wU c.qty=false then 24 else if c.kind=4∧fH c.price=false then 23 else 0)=0:=by
 rw[Cmd.right]at h
 by_cases c1:c.kind<1∨4<c.kind
 ·rw[yWt c1]at h;cases h
 rw[yWs c1]at h
 by_cases c2:c.id<1∨1099511627776<c.id
 ·rw[yWt c2]at h;cases h
 rw[yWs c2]at h
 exact h
theorem z7n {c:Cmd} (h:c.right=0) (hk:c.kind=1):(c.side=1∨c.side=2)∧(1≤c.qty∧c.qty≤1000000)∧(0≤c.least∧c.least≤c.qty):=by
 have h:=zPa h
 rw[yWt hk,Cmd.orderE]at h
 by_cases c1:c.side≠1∧c.side≠2
 ·rw[yWt c1]at h;cases h
 rw[yWs c1]at h
 by_cases c2:c.time<1∨3<c.time
 ·rw[yWt c2]at h;cases h
 rw[yWs c2]at h
 cases c3:wU c.qty with
 |false=>rw[yWt c3]at h;cases h
 |true=>
  rw[yWs (by rw[c3];decide)]at h
  by_cases c4:c.least<0∨c.qty<c.least
  ·rw[yWt c4]at h;cases h
  simp only[wU,yXg,yYz]at c3
  exact⟨by omega,c3,by omega⟩
theorem zPk {c:Cmd} (h:c.right=0) (hk:¬c.kind=1) (hk2:¬c.kind=2):1≤c.qty∧c.qty≤1000000:=by
 have h:=zPa h
 rw[yWs hk]at h
 cases c3:wU c.qty with
 |false=>rw[yWt ⟨hk2,c3⟩]at h;cases h
 |true=>
  simp only[wU,yXg,yYz]at c3
  exact c3
theorem yMd (i:EnI) (h:orderC.cnd i):yDi i:=by
 obtain⟨m,p,B,U,c,X⟩:=i
 have h':(m.Rep p B U∧BOk p B)∧c.right=0∧c.kind=1∧X=sQ p B U c:=h
 clear h
 obtain⟨⟨hM,hB⟩,hr,hkd,hX⟩:=h'
 obtain⟨ep,hR,eu⟩:=hM
 subst ep eu
 have hM:m.Rep m.p B m.used:=⟨rfl,hR,rfl⟩
 obtain⟨hs,hq,hl⟩:=z7n hr hkd
 have hbl:=hB.bl
 have hcl:=xP m.p
 unfold yDi qB nE nJ pA l5 zAu zAt zBj zBn lQ vF xU dI
 dsimp only
 refine⟨⟨m.p,c.inst,c.price⟩,rfl,rfl,rfl,rfl,rfl,rfl,rfl,rfl,rfl,rfl,rfl,rfl,rfl,hB.ps,fun _ _=>Cv.cnd.mk (fun e=> ?_) (fun e=> ?_)⟩
 ·have e:m.p.price c.inst c.price≠0:=by simpa using e
  have hx:X=⟨B,m.used,nG c (m.p.price c.inst c.price)⟩:=by rw[hX,sQ,yWt e]
  exact⟨⟨c,m.p.price c.inst c.price⟩,rfl,rfl,rfl,rfl,rfl,rfl,rfl,rfl,rfl,rfl,trivial,fun _ _=>⟨m,rfl,rfl,rfl,rfl,rfl,rfl,rfl,rfl,rfl,rfl,rfl,rfl,rfl,by rw[hx];rfl,by rw[hx];exact hM⟩⟩
 have hpz:m.p.price c.inst c.price=0:=by simpa using e
 have hin:=zVk hpz
 have hib:0≤c.inst∧c.inst<B.length:=by omega
 rw[sQ,yWs (by rw[hpz];decide)]at hX
 refine⟨0,fun l=>l=c.lst,Cv.cnd.mk (fun e=>⟨c.qty,rfl,by rw[Cmd.lst,yWt (by simpa using e)],k0q⟩) (fun e=>⟨c.least,rfl,by rw[Cmd.lst,yWs (by simpa using e)],k0q⟩),?_⟩
 rintro _ rfl
 refine⟨zQi _ _,_,_,yDd _ _,zK (fun e=> ?_) (fun e=> ?_)⟩
 ·have hx:X=⟨B,m.used,nG c 25⟩:=by rw[hX,yWt e]
  exact⟨⟨c,25⟩,rfl,rfl,rfl,rfl,rfl,rfl,rfl,rfl,rfl,rfl,trivial,fun _ _=>⟨m,rfl,rfl,rfl,rfl,rfl,rfl,rfl,rfl,rfl,rfl,rfl,rfl,rfl,by rw[hx];rfl,by rw[hx];exact hM⟩⟩
 rw[yWs e]at hX
 refine⟨⟨m.s,m.p,B,0,false⟩,rfl,⟨hR,by dsimp only;omega⟩,fun _ _=>zK (fun e=> ?_) (fun e=> ?_)⟩
 ·have hx:X=⟨B,m.used,nG c 13⟩:=by rw[hX,yWt (by dsimp only at e;omega)]
  exact⟨⟨c,13⟩,rfl,rfl,rfl,rfl,rfl,rfl,rfl,rfl,rfl,rfl,trivial,fun _ _=>⟨m,rfl,rfl,rfl,rfl,rfl,rfl,rfl,rfl,rfl,rfl,rfl,rfl,rfl,by rw[hx];rfl,by rw[hx];exact hM⟩⟩
 rw[yWs (by dsimp only at e;omega)]at hX
 have hok:RunI.ok ⟨m.s,m.p,B,c.inst,decide (c.side=2),c.price,c.qty⟩:=⟨hR,hB,hib,hq.1,hq.2⟩
 refine⟨true,fun b=>b=decide (0<c.lst∧c.qty-(j0 m.p B c.inst (decide (c.side=2)) c.price c.qty).left<c.lst),zK (fun e=>⟨⟨m.s,m.p,B,c.inst,decide (c.side=2),c.price,c.qty⟩,rfl,gK hs,rfl,rfl,rfl,hok,fun _ _=>⟨_,rfl,decide_eq_decide.2 ⟨fun x=>⟨e,x⟩,fun x=>x.2⟩,k0q⟩⟩) (fun e=>⟨false,rfl,(yXf fun x=>e x.1).symm,k0q⟩),?_⟩
 rintro _ rfl
 refine zK (fun e=> ?_) (fun e=> ?_)
 ·have hx:X=⟨B,m.used,nG c 28⟩:=by rw[hX,yWt e]
  exact⟨⟨c,28⟩,rfl,rfl,rfl,rfl,rfl,rfl,rfl,rfl,rfl,rfl,trivial,fun _ _=>⟨m,rfl,rfl,rfl,rfl,rfl,rfl,rfl,rfl,rfl,rfl,rfl,rfl,rfl,by rw[hx];rfl,by rw[hx];exact hM⟩⟩
 rw[yWs e]at hX
 refine⟨true,fun b=>b=decide (c.time=1∧bD m.p B c.inst (decide (c.side=2)) c.price c.qty=true),Cv.cnd.mk (fun e=>⟨⟨m.s,m.p,B,c.inst,decide (c.side=2),c.price,c.qty⟩,rfl,gK hs,rfl,rfl,rfl,hok,fun _ _=>⟨_,rfl,?_,k0q⟩⟩) (fun e=>⟨false,rfl,(yXf fun x=> ?_).symm,k0q⟩),?_⟩
 ·have e:c.time=1:=by simpa using e
  dsimp only
  cases hb:bD m.p B c.inst (decide (c.side=2)) c.price c.qty with
  |true=>exact(yXi ⟨e,rfl⟩).symm
  |false=>exact(yXf fun x=>by cases x.2).symm
 ·rw[x.1]at e;cases e
 rintro _ rfl
 refine zK (fun e=> ?_) (fun e=> ?_)
 ·have hx:X=⟨B,m.used,nG c 23⟩:=by rw[hX,yWt e]
  exact⟨⟨c,23⟩,rfl,rfl,rfl,rfl,rfl,rfl,rfl,rfl,rfl,rfl,trivial,fun _ _=>⟨m,rfl,rfl,rfl,rfl,rfl,rfl,rfl,rfl,rfl,rfl,rfl,rfl,rfl,by rw[hx];rfl,by rw[hx];exact hM⟩⟩
 rw[yWs e]at hX
 exact⟨⟨m,m.p,B,m.used,c,X⟩,rfl,rfl,rfl,rfl,rfl,rfl,rfl,rfl,rfl,rfl,rfl,rfl,rfl,rfl,rfl,rfl,rfl,rfl,rfl,rfl,rfl,rfl,⟨⟨hM,hB⟩,⟨hib,hq,hs⟩,hpz,hX⟩,fun o ho=>⟨o,rfl,rfl,rfl,rfl,rfl,rfl,rfl,rfl,rfl,rfl,rfl,rfl,rfl,rfl,ho⟩⟩
theorem yFy:orderC.ok Tryz.prog 113:=okw mixed (gokc sD (gokc zZh (gokc zZr (gokc z6f (gokc zXz (gokc zWd gok0)))))) 0 (fun _=>yMx) (fun _=>[]) [] Tryz.func113 yMd
theorem z3q {p:Prd} {B:List (List zJ)} (h:BWf p B) {id inst:Int} {o:zJ} (hf:yF B id=(inst,o,true)):(0≤inst∧inst<B.length)∧zJx o:=by
 rw[yF]at hf
 split at hf
 ·cases hf
 ·rename_i k hk
  obtain⟨L,hL,hh⟩:=uY hk
  rw[zT hL]at hf
  cases hf
  have hlt:=(yWv.1 hL).1
  obtain⟨o,ho,e⟩:=yYj.1 (hasId_iff.1 hh)
  have hg:=p8 (h.od k L hL).2.1 ho
  rw[e]at hg
  rw[hg]
  exact⟨by omega,(h.od k L hL).1 o ho⟩
theorem zLi (p:Prd) (c:Cmd):∀(l:List j8) (left:Int),(∀t∈l,SOk t∧1≤t.qty)→(rF p c l left).length≤1503*l.length
 |[],_,_=>yYa _
 |t::l,left,h=>by
  have a:=zLi p c l (left-t.qty) fun u hu=>h u (yWz _ hu)
  have b:=zQs p c t (left-t.qty)
  have d:=(h t yWy).1.2.2
  rw[rF,yWx,yXa];omega
theorem z1a {p:Prd} {B:List (List zJ)} (h:BWf p B) (U:List Int) {c:Cmd} (hi:0≤c.inst∧c.inst<B.length) (hq:1≤c.qty∧c.qty≤1000000):(aW p B U c).R.length≤1503000002:=by
 obtain⟨s1,s2⟩:=zRu (inst:=c.inst) (sd:=decide (c.side=2)) (price:=c.price) _ c.qty B (yYa _) h hi
 have k3:=(mR (inst:=c.inst) (sd:=decide (c.side=2)) (price:=c.price) _ c.qty B (yYa _) h).2.2 (by omega)
 have:=zTn s1
 have:=zLi p c _ c.qty s1
 rw[zFf]
 dsimp only
 rw[yWx,yXa]
 split
 ·rw[yXa,yZm];omega
 ·rw[yZm];omega
theorem yDf (i:z7a) (h:replaceC.cnd i):zVt i:=by
 obtain⟨m,p,B,U,c,inst,o,X⟩:=i
 have h':m.Rep p B U∧BOk p B∧yF B c.id=(inst,o,true)∧(1≤c.qty∧c.qty≤1000000)∧X=bT p B U c inst o:=h
 clear h
 obtain⟨hM,hB,hf,hq,hX⟩:=h'
 obtain⟨ep,hR,eu⟩:=hM
 subst ep eu
 have hM:m.Rep m.p B m.used:=⟨rfl,hR,rfl⟩
 have hwf:=hR.wf hB
 obtain⟨hin,hoo⟩:=z3q hwf hf
 have hos:=hoo.s
 have hoq:=hoo.q
 have hbl:=hB.bl
 have hcl:=xP m.p
 unfold zVt sG qB h8 wC nE cD pY xU
 dsimp only
 refine⟨⟨m.p,inst,c.price⟩,rfl,rfl,rfl,rfl,rfl,rfl,rfl,rfl,rfl,rfl,rfl,rfl,rfl,hB.ps,fun _ _=>Cv.cnd.mk (fun e=> ?_) (fun e=> ?_)⟩
 ·have e:m.p.price inst c.price≠0:=by simpa using e
  have hx:X=⟨B,m.used,nG c (m.p.price inst c.price)⟩:=by rw[hX,bT,yWt e]
  exact⟨⟨c,m.p.price inst c.price⟩,rfl,rfl,rfl,rfl,rfl,rfl,rfl,rfl,rfl,rfl,trivial,fun _ _=>⟨m,rfl,rfl,rfl,rfl,rfl,rfl,rfl,rfl,rfl,rfl,rfl,rfl,rfl,by rw[hx];rfl,by rw[hx];exact hM⟩⟩
 have hpz:m.p.price inst c.price=0:=by simpa using e
 rw[bT,yWs (by rw[hpz];decide)]at hX
 have hw:IntKind.i64.wrap (o.qty-c.qty)=o.qty-c.qty:=w64 (by omega)
 rw[hw]
 refine(fun hT=>Cv.cnd.mk (fun e1=>zK (fun e2=> ?_) (fun e2=>hT fun x=>e2 x.2)) (fun e1=>hT fun x=>by rw[x.1]at e1;simp at e1)) (fun(hn:¬(c.price=o.price∧c.qty≤o.qty))=> ?_)
 ·have e1:c.price=o.price:=by simpa using e1
  rw[yWt ⟨e1,e2⟩]at hX
  exact⟨⟨m,m.p,B,m.used,c.id,o.qty-c.qty,inst,o,X⟩,rfl,rfl,rfl,rfl,rfl,rfl,rfl,rfl,rfl,rfl,rfl,rfl,rfl,rfl,rfl,rfl,rfl,rfl,rfl,rfl,rfl,⟨⟨hM,hB⟩,⟨by dsimp only;omega,by dsimp only;omega⟩,hX⟩,fun o' ho=>⟨o',rfl,rfl,rfl,rfl,rfl,rfl,rfl,rfl,rfl,rfl,rfl,rfl,rfl,rfl,ho⟩⟩
 rw[yWs hn]at hX
 have hBt:=hB.take c.id o.qty
 refine⟨m.s,rfl,hR.small hB,fun _ _=>⟨⟨m.s,m.p,B,c.id,o.qty⟩,rfl,rfl,rfl,⟨hR,by dsimp only;omega⟩,fun o' ho'=>⟨⟨o',m.p,(qV B c.id o.qty).1,inst,decide (o.side=2),c.price,c.qty⟩,rfl,gK hos,rfl,rfl,rfl,⟨ho',hBt,by dsimp only;rw[rW];exact hin,hq.1,hq.2⟩,fun _ _=>Cv.cnd.mk (fun e=> ?_) (fun e=> ?_)⟩⟩⟩
 ·have hx:X=⟨B,m.used,nG c 23⟩:=by rw[hX,yWt e]
  exact⟨⟨c,23⟩,rfl,rfl,rfl,rfl,rfl,rfl,rfl,rfl,rfl,rfl,trivial,fun _ _=>⟨m,rfl,rfl,rfl,rfl,rfl,rfl,rfl,rfl,rfl,rfl,rfl,rfl,rfl,by rw[hx];rfl,by rw[hx];exact hM⟩⟩
 rw[yWs (by rw[e];decide)]at hX
 refine⟨⟨m,m.p,B,m.used,c.id,0,inst,o,aR B m.used c.id inst o⟩,rfl,rfl,rfl,rfl,rfl,rfl,rfl,rfl,rfl,rfl,rfl,rfl,rfl,rfl,rfl,rfl,rfl,rfl,rfl,rfl,⟨⟨hM,hB⟩,rfl⟩,fun o1 ho1=>⟨⟨o1,m.p,(qV B c.id o.qty).1,m.used,⟨1,c.id,inst,o.side,c.price,c.qty,0,1,[]⟩,aW m.p (qV B c.id o.qty).1 m.used ⟨1,c.id,inst,o.side,c.price,c.qty,0,1,[]⟩⟩,rfl,rfl,rfl,rfl,rfl,rfl,rfl,rfl,rfl,rfl,rfl,rfl,rfl,rfl,rfl,rfl,rfl,rfl,rfl,rfl,rfl,rfl,⟨⟨ho1,hBt⟩,⟨by dsimp only;rw[rW];exact hin,hq,hos⟩,hpz,rfl⟩,fun o2 ho2=>⟨?_,o2,rfl,rfl,rfl,rfl,rfl,rfl,rfl,rfl,rfl,rfl,rfl,rfl,rfl,?_,?_⟩⟩⟩
 ·have:=z1a (hwf.take c.id o.qty) m.used (c:=⟨1,c.id,inst,o.side,c.price,c.qty,0,1,[]⟩) (by dsimp only;rw[rW];exact hin) hq
  dsimp only
  rw[yWu,yWu]
  have e1:(aR B m.used c.id inst o).R.length=1:=rfl
  omega
 ·rw[hX,← yXe];rfl
 ·rw[hX];exact ho2
theorem zYy:replaceC.ok Tryz.prog 115:=okw mixed (gokc sD (gokc zZh (gokc zEf (gokc zEa (gokc zXz (gokc zPd (gokc zPm (gokc zWd gok0)))))))) 0 (fun _=>[]) (fun _=>[]) [] Tryz.func115 yDf
theorem vdo (i:EnI) (h:doC.cnd i):Vdo i:=by
 obtain⟨m,p,B,U,c,X⟩:=i
 have h':(m.Rep p B U∧BOk p B)∧c.label.length≤140737488355328∧i64r c.qty∧X=doF p B U c:=h
 clear h
 obtain⟨⟨hM,hB⟩,hlb,hqr,hX⟩:=h'
 obtain⟨ep,hR,eu⟩:=hM
 subst ep eu
 have hM:m.Rep m.p B m.used:=⟨rfl,hR,rfl⟩
 have hwf:=hR.wf hB
 have hbl:=hB.bl
 have hcl:=xP m.p
 unfold Vdo nJ yFu cD z0x zTy zRc
 dsimp only
 refine⟨c,rfl,rfl,rfl,rfl,rfl,rfl,rfl,rfl,rfl,hlb,fun _ _=>Cv.cnd.mk (fun e=> ?_) (fun e=> ?_)⟩
 ·have e:c.right≠0:=by simpa using e
  have hx:X=⟨B,m.used,nG c c.right⟩:=by rw[hX,doF,yWt e]
  exact⟨⟨c,c.right⟩,rfl,rfl,rfl,rfl,rfl,rfl,rfl,rfl,rfl,rfl,trivial,fun _ _=>⟨m,rfl,rfl,rfl,rfl,rfl,rfl,rfl,rfl,rfl,rfl,rfl,rfl,rfl,by rw[hx];rfl,by rw[hx];exact hM⟩⟩
 have hr:c.right=0:=by simpa using e
 rw[doF,yWs (by rw[hr];decide)]at hX
 refine Cv.cnd.mk (fun e=> ?_) (fun e=> ?_)
 ·have e:c.kind=1:=by simpa using e
  rw[yWt e]at hX
  exact⟨⟨m,m.p,B,m.used,c,X⟩,rfl,rfl,rfl,rfl,rfl,rfl,rfl,rfl,rfl,rfl,rfl,rfl,rfl,rfl,rfl,rfl,rfl,rfl,rfl,rfl,rfl,rfl,⟨⟨hM,hB⟩,hr,e,hX⟩,fun o ho=>⟨o,rfl,rfl,rfl,rfl,rfl,rfl,rfl,rfl,rfl,rfl,rfl,rfl,rfl,rfl,ho⟩⟩
 have hk:¬c.kind=1:=by simpa using e
 rw[yWs hk]at hX
 refine(fun hT=>⟨hT,rfl,trivial,hT⟩) ?_
 refine⟨⟨m.s,m.p,B,c.id,0⟩,rfl,rfl,⟨hR,by dsimp only;omega⟩,fun _ _=>Cv.cnd.mk (fun e=> ?_) (fun e=> ?_)⟩
 ·have e:(yF B c.id).2.2=false:=by simpa using e
  have hx:X=⟨B,m.used,nG c 26⟩:=by rw[hX,yWt e]
  exact⟨⟨c,26⟩,rfl,rfl,rfl,rfl,rfl,rfl,rfl,rfl,rfl,rfl,trivial,fun _ _=>⟨m,rfl,rfl,rfl,rfl,rfl,rfl,rfl,rfl,rfl,rfl,rfl,rfl,rfl,by rw[hx];rfl,by rw[hx];exact hM⟩⟩
 have e:(yF B c.id).2.2=true:=by simpa using e
 rw[yWs (by rw[e];decide)]at hX
 dsimp only
 have hf:yF B c.id=((yF B c.id).1,(yF B c.id).2.1,true):=by rw[← e]
 generalize (yF B c.id).1=inst at*
 generalize (yF B c.id).2.1=o at*
 obtain⟨hin,hoo⟩:=z3q hwf hf
 have hoq:=hoo.q
 refine Cv.cnd.mk (fun e4=> ?_) (fun e4=>Cv.cnd.mk (fun e2=> ?_) (fun e2=>zK (fun e3=> ?_) (fun e3=> ?_)))
 ·have e4:c.kind=4:=by simpa using e4
  rw[yWt e4]at hX
  exact⟨⟨m,m.p,B,m.used,c,inst,o,X⟩,rfl,rfl,rfl,rfl,rfl,rfl,rfl,rfl,rfl,rfl,rfl,rfl,rfl,rfl,rfl,rfl,rfl,rfl,rfl,rfl,rfl,rfl,rfl,rfl,rfl,rfl,rfl,rfl,⟨hM,hB,hf,zPk hr hk (by rw[e4];decide),hX⟩,fun o' ho=>⟨o',rfl,rfl,rfl,rfl,rfl,rfl,rfl,rfl,rfl,rfl,rfl,rfl,rfl,rfl,ho⟩⟩
 all_goals
  have e4:¬c.kind=4:=by simpa using e4
  rw[yWs e4]at hX
 ·have e2:c.kind=2:=by simpa using e2
  rw[yWt (.inl e2)]at hX
  exact⟨⟨m,m.p,B,m.used,c.id,0,inst,o,X⟩,rfl,rfl,rfl,rfl,rfl,rfl,rfl,rfl,rfl,rfl,rfl,rfl,rfl,rfl,rfl,rfl,rfl,rfl,rfl,rfl,⟨⟨hM,hB⟩,hX⟩,fun o' ho=>⟨o',rfl,rfl,rfl,rfl,rfl,rfl,rfl,rfl,rfl,rfl,rfl,rfl,rfl,rfl,ho⟩⟩
 ·rw[yWt (.inr (by omega))]at hX
  exact⟨⟨m,m.p,B,m.used,c.id,0,inst,o,X⟩,rfl,rfl,rfl,rfl,rfl,rfl,rfl,rfl,rfl,rfl,rfl,rfl,rfl,rfl,rfl,rfl,rfl,rfl,rfl,rfl,⟨⟨hM,hB⟩,hX⟩,fun o' ho=>⟨o',rfl,rfl,rfl,rfl,rfl,rfl,rfl,rfl,rfl,rfl,rfl,rfl,rfl,rfl,ho⟩⟩
 ·have e2:¬c.kind=2:=by simpa using e2
  have hq:=zPk hr hk e2
  rw[yWs (by omega)]at hX
  exact⟨⟨m,m.p,B,m.used,c.id,c.qty,inst,o,X⟩,rfl,rfl,rfl,rfl,rfl,rfl,rfl,rfl,rfl,rfl,rfl,rfl,rfl,rfl,rfl,rfl,rfl,rfl,rfl,rfl,rfl,⟨⟨hM,hB⟩,⟨by dsimp only;omega,by dsimp only;omega⟩,hX⟩,fun o' ho=>⟨o',rfl,rfl,rfl,rfl,rfl,rfl,rfl,rfl,rfl,rfl,rfl,rfl,rfl,rfl,ho⟩⟩
theorem yKu:doC.ok Tryz.prog 50:=okw mixed (gokc yEz (gokc zZh (gokc yFp (gokc yFy (gokc zYy (gokc zPd (gokc zPm gok0))))))) 0 (fun _=>[]) (fun _=>[]) [0] Tryz.func50 vdo
open Go Cv Go.Proofs
open Go Cv Go.Proofs
open Go Cv Go.Proofs
theorem z9o (t:TmI):1≤(qK t).qty∧(qK t).qty≤12:=by
 have:=xH (n:=t.c.qty) (lo:=0) (hi:=11) (by omega)
 have e:(qK t).qty=1+zI t.c.qty 0 11:=by rw[qK];split<;>rfl
 omega
theorem zZs (t:TmI):(qK t).label=[]:=by
 rw[qK];split<;>rfl
open Go Cv Go.Proofs
open Go Cv Go.Proofs
open Go Cv Go.Proofs
theorem yUw {l:List Cmd} {k:Nat} {c:Cmd} (h:l[k]? =some c):zE (l.map cmdE) k 0 9=some [D.v (.int .i64 c.kind),.v (.int .i64 c.id),.v (.int .i64 c.inst),.v (.int .i64 c.side),.v (.int .i64 c.price),.v (.int .i64 c.qty),.v (.int .i64 c.least),.v (.int .i64 c.time),.v (.string (sb c.label))]:=elA h (by simp[cmdE]) rfl
def mk0 (p:Prd):Mkt:=⟨p,aV p,[]⟩
theorem z5f (p:Prd):(mk0 p).Rep p (List.replicate p.count []) []:=⟨rfl,z0h _,rfl⟩
open Go Cv Go.Proofs
open Go Cv Go.Proofs
open Go Cv Go.Proofs
open Go Cv Go.Proofs
structure RB where
 l:List UInt8
 b:Bool
open Go Cv Go.Proofs
end Sx
