/- Texts of ours, one behind the other: a walk that the kernel reckons, and contracts of functions. No condition. -/
import Derived.Test.YthkofaanekmpmaaGreatU8
namespace Sx
set_option linter.unusedVariables false
set_option maxRecDepth 100000
open Go Cv Go.Proofs
def yVr (i:RjI):Prop:=
 ∃(o:Unit),[x7 (Rep.mk 2 i.c.id 0 0 0 0 0 i.why)]=[[D.v (.int .i64 2),D.v (.int .i64 i.c.id),D.v (.int .i64 0),D.v (.int .i64 0),D.v (.int .i64 0),D.v (.int .i64 0),D.v (.int .i64 0),D.v (.int .i64 i.why)]]∧True
def vZ (a:MsI):Prop:=a.r.kind=a.r.kind∧a.r.id=a.r.id∧a.r.inst=a.r.inst∧a.r.side=a.r.side∧a.r.price=a.r.price∧a.r.qty=a.r.qty∧a.r.left=a.r.left∧a.r.why=a.r.why∧True
def gS (a:MsI):=(Rep.mk a.r.kind a.r.id (a.m.p.legs a.r.inst).snd.fst (3-a.r.side) a.far a.r.qty a.r.left a.r.why)
def gT (a:MsI):=(Rep.mk a.r.kind a.r.id (a.m.p.legs a.r.inst).fst a.r.side a.near a.r.qty a.r.left a.r.why)
def sK (a:MsI) (b:dC):Prop:=(vZ a)∧(vZ a)∧(vZ a)∧(vZ a)∧(vZ a)∧a.r.side=a.r.side∧∃(c:Unit),sb a.m.p.code=sb a.m.p.code∧a.m.p.tick=a.m.p.tick∧a.m.p.low=a.m.p.low∧a.m.p.high=a.m.p.high∧a.m.p.wide=a.m.p.wide∧a.m.p.rule=a.m.p.rule∧a.m.p.top=a.m.p.top∧a.m.p.least=a.m.p.least∧a.m.p.part=a.m.p.part∧zD a.m.s=y3 a.m 1∧yB a.m.used=yB a.m.used∧AObj.fro 1 (iE a.m.p.months)=y3 a.m 3∧AObj.fro 1 (iE a.m.p.settle)=y3 a.m 4∧[x7 (gT a),x7 (gS a)]=[[dI a.r.kind,dI a.r.id,dI ((b.p.legs b.n).fst),dI a.r.side,dI a.near,dI a.r.qty,dI a.r.left,dI a.r.why],[dI a.r.kind,dI a.r.id,dI (wT b),dI (IntKind.i64.wrap (3-a.r.side)),dI a.far,dI a.r.qty,dI a.r.left,dI a.r.why]]∧True
def zTa (i:MsI):Prop:=
 ∃(a:dC),sb a.p.code=sb i.m.p.code∧iE a.p.months=iE i.m.p.months∧a.p.tick=i.m.p.tick∧a.p.low=i.m.p.low∧a.p.high=i.m.p.high∧a.p.wide=i.m.p.wide∧a.p.rule=i.m.p.rule∧a.p.top=i.m.p.top∧a.p.least=i.m.p.least∧a.p.part=i.m.p.part∧iE a.p.settle=iE i.m.p.settle∧a.n=i.r.inst∧(kU a)∧∀(b:Unit),True→(sK i a)∧sK i a
def yUz (i:MiN):Prop:=
 ∃(i_1:dC),sb i_1.p.code=sb i.m.p.code∧iE i_1.p.months=iE i.m.p.months∧i_1.p.tick=i.m.p.tick∧i_1.p.low=i.m.p.low∧i_1.p.high=i.m.p.high∧i_1.p.wide=i.m.p.wide∧i_1.p.rule=i.m.p.rule∧i_1.p.top=i.m.p.top∧i_1.p.least=i.m.p.least∧i_1.p.part=i.m.p.part∧iE i_1.p.settle=iE i.m.p.settle∧i_1.n=i.inst∧(i_1.p.code.length≤1099511627776∧i_1.p.months.length≤1099511627776∧i_1.p.settle.length≤1099511627776)∧∀(o:Unit),True→∃(o:Unit),(i.m.p.legs i.inst).snd.snd=(i_1.p.legs i_1.n).snd.snd∧sb i.m.p.code=sb i.m.p.code∧i.m.p.tick=i.m.p.tick∧i.m.p.low=i.m.p.low∧i.m.p.high=i.m.p.high∧i.m.p.wide=i.m.p.wide∧i.m.p.rule=i.m.p.rule∧i.m.p.top=i.m.p.top∧i.m.p.least=i.m.p.least∧i.m.p.part=i.m.p.part∧zD i.m.s=y3 i.m 1∧yB i.m.used=yB i.m.used∧AObj.fro 1 (iE i.m.p.months)=y3 i.m 3∧AObj.fro 1 (iE i.m.p.settle)=y3 i.m 4∧True
def zSc (a:OfI):Prop:=a.x.price=a.x.price∧a.x.qty=a.x.qty∧a.x.implied=a.x.implied∧AObj.fro 6 (List.map yT a.x.fills)=AObj.fro 6 (List.map yT a.x.fills)∧True
def Vof (i:OfI):Prop:=
 ∃(a:Nat),(↑a:Int)=0∧∃(b:Nat→Prop),∃(c:Nat→Nat),b a∧∀(d:Nat),b d→cnd (decide ((↑d:Int)<(↑(List.map yT i.x.fills).length:Int))) ((0≤(↑d:Int)∧(↑d:Int)<(↑(List.map yT i.x.fills).length:Int))∧∃(e:Int),∃(f:Int),∃(g:Int),∃(h:Int),∃(j:Int),∃(k:Int),zE (List.map yT i.x.fills) (↑d:Int).toNat 0 6=some [dI e,dI f,dI g,dI h,dI j,dI k]∧cnd (f==i.k) (∃(l:Unit),ofF i.x i.k=h∧zSc i) (∃(l:Nat),(↑l:Int)=IntKind.i64.wrap ((↑d:Int)+1)∧b l∧c l<c d∧Sx.AObj.cells [zA i.x.price,zA i.x.qty,yF i.x.implied,V.own 1] (321:TypeId)=Sx.AObj.cells [zA i.x.price,zA i.x.qty,yF i.x.implied,V.own 1] (321:TypeId)∧AObj.fro 6 (List.map yT i.x.fills)=AObj.fro 6 (List.map yT i.x.fills))) (∃(e:Unit),ofF i.x i.k=i.x.price∧zSc i)
def sN (a:MpI):Prop:=sb a.m.p.code=sb a.m.p.code∧a.m.p.tick=a.m.p.tick∧a.m.p.low=a.m.p.low∧a.m.p.high=a.m.p.high∧a.m.p.wide=a.m.p.wide∧a.m.p.rule=a.m.p.rule∧a.m.p.top=a.m.p.top∧a.m.p.least=a.m.p.least∧a.m.p.part=a.m.p.part∧zD a.m.s=y3 a.m 1∧yB a.m.used=yB a.m.used∧AObj.fro 1 (iE a.m.p.months)=y3 a.m 3∧AObj.fro 1 (iE a.m.p.settle)=y3 a.m 4∧True
def qG (a:MpI):=(wK a.m.p a.inst a.x)
def zVc (i:MpI):Prop:=
 cnd (!i.x.implied) (∃(a:LpI),sb a.p.code=sb i.m.p.code∧iE a.p.months=iE i.m.p.months∧a.p.tick=i.m.p.tick∧a.p.low=i.m.p.low∧a.p.high=i.m.p.high∧a.p.wide=i.m.p.wide∧a.p.rule=i.m.p.rule∧a.p.top=i.m.p.top∧a.p.least=i.m.p.least∧a.p.part=i.m.p.part∧iE a.p.settle=iE i.m.p.settle∧a.inst=i.inst∧a.price=i.x.price∧(a.p.check=0∧(a.p.code.length≤1099511627776∧a.p.months.length≤1099511627776∧a.p.settle.length≤1099511627776)∧(-9223372036854775808)≤a.price∧a.price≤9223372036854775807)∧∀(b:Unit),True→∃(c:Unit),(qG i).fst=(yY a).fst∧(qG i).snd=(yY a).snd.fst∧sN i) (∃(a:dC),sb a.p.code=sb i.m.p.code∧iE a.p.months=iE i.m.p.months∧a.p.tick=i.m.p.tick∧a.p.low=i.m.p.low∧a.p.high=i.m.p.high∧a.p.wide=i.m.p.wide∧a.p.rule=i.m.p.rule∧a.p.top=i.m.p.top∧a.p.least=i.m.p.least∧a.p.part=i.m.p.part∧iE a.p.settle=iE i.m.p.settle∧a.n=i.inst∧(kU a)∧∀(b:Unit),True→∃(c:OfI),c.k=(a.p.legs a.n).fst∧c.x.price=i.x.price∧c.x.qty=i.x.qty∧c.x.implied=i.x.implied∧AObj.fro 6 (List.map yT c.x.fills)=AObj.fro 6 (List.map yT i.x.fills)∧c.x.fills.length≤1000000∧∀(d:Unit),True→∃(e:OfI),e.k=(a.p.legs a.n).snd.fst∧e.x.price=c.x.price∧e.x.qty=c.x.qty∧e.x.implied=c.x.implied∧AObj.fro 6 (List.map yT e.x.fills)=AObj.fro 6 (List.map yT c.x.fills)∧e.x.fills.length≤1000000∧∀(f:Unit),True→∃(g:Unit),(qG i).fst=ofF c.x c.k∧(qG i).snd=ofF e.x e.k∧sN i)
def zAn (a:MpI):Prop:=(a.m.p.check=0∧a.m.p.code.length≤1099511627776∧a.m.p.months.length≤1099511627776∧a.m.p.settle.length≤1099511627776)∧((-9223372036854775808)≤a.x.price∧a.x.price≤9223372036854775807)∧a.x.fills.length≤1000000
def lO (a:MsI):Prop:=(a.m.p.check=0∧a.m.p.code.length≤1099511627776∧a.m.p.months.length≤1099511627776∧a.m.p.settle.length≤1099511627776)∧(a.r.side=1∨a.r.side=2)
def zAg (a:MiN):Prop:=a.m.p.check=0∧a.m.p.code.length≤1099511627776∧a.m.p.months.length≤1099511627776∧a.m.p.settle.length≤1099511627776
def cZ (a:StI'):=(D.v (Value.string (sb a.c.label)))
def z8y (i:StI'):Prop:=
 ∃(a:Nat),(↑a:Int)=0∧List.map x7 (i.out a)=[]∧∃(b:Nat→Prop),∃(c:Nat→Nat),b a∧∀(d:Nat),b d→cnd (decide ((↑d:Int)<(↑(List.map yT i.x.fills).length:Int))) ((0≤(↑d:Int)∧(↑d:Int)<(↑(List.map yT i.x.fills).length:Int))∧∃(e:Int),∃(f:Int),∃(g:Int),∃(h:Int),∃(j:Int),∃(k:Int),zE (List.map yT i.x.fills) (↑d:Int).toNat 0 6=some [dI e,dI f,dI g,dI h,dI j,dI k]∧((List.map x7 (i.out d)).length+1)*(64:Nat)≤(140737488355328:Nat)∧∃(l:MiN),l.inst=f∧sb l.m.p.code=sb i.m.p.code∧l.m.p.tick=i.m.p.tick∧l.m.p.low=i.m.p.low∧l.m.p.high=i.m.p.high∧l.m.p.wide=i.m.p.wide∧l.m.p.rule=i.m.p.rule∧l.m.p.top=i.m.p.top∧l.m.p.least=i.m.p.least∧l.m.p.part=i.m.p.part∧zD l.m.s=y3 i.m 1∧yB l.m.used=yB i.m.used∧AObj.fro 1 (iE l.m.p.months)=y3 i.m 3∧AObj.fro 1 (iE l.m.p.settle)=y3 i.m 4∧(zAg l)∧∀(m:Unit),True→cnd (l.m.p.legs l.inst).snd.snd (∃(n:MpI),n.inst=f∧n.x.price=i.x.price∧n.x.qty=i.x.qty∧n.x.implied=i.x.implied∧List.map yT n.x.fills=List.map yT i.x.fills∧sb n.m.p.code=sb l.m.p.code∧n.m.p.tick=l.m.p.tick∧n.m.p.low=l.m.p.low∧n.m.p.high=l.m.p.high∧n.m.p.wide=l.m.p.wide∧n.m.p.rule=l.m.p.rule∧n.m.p.top=l.m.p.top∧n.m.p.least=l.m.p.least∧n.m.p.part=l.m.p.part∧zD n.m.s=zD l.m.s∧yB n.m.used=yB l.m.used∧AObj.fro 1 (iE n.m.p.months)=AObj.fro 1 (iE l.m.p.months)∧AObj.fro 1 (iE n.m.p.settle)=AObj.fro 1 (iE l.m.p.settle)∧(zAn n)∧∀(p:Unit),True→∃(q:MsI),q.r.kind=3∧q.r.id=e∧q.r.inst=f∧q.r.side=g∧q.r.price=h∧q.r.qty=j∧q.r.left=k∧q.r.why=0∧q.near=(qG n).fst∧q.far=(qG n).snd∧sb q.m.p.code=sb n.m.p.code∧q.m.p.tick=n.m.p.tick∧q.m.p.low=n.m.p.low∧q.m.p.high=n.m.p.high∧q.m.p.wide=n.m.p.wide∧q.m.p.rule=n.m.p.rule∧q.m.p.top=n.m.p.top∧q.m.p.least=n.m.p.least∧q.m.p.part=n.m.p.part∧zD q.m.s=zD n.m.s∧yB q.m.used=yB n.m.used∧AObj.fro 1 (iE q.m.p.months)=AObj.fro 1 (iE n.m.p.months)∧AObj.fro 1 (iE q.m.p.settle)=AObj.fro 1 (iE n.m.p.settle)∧(lO q)∧∀(r:Unit),True→True∧((List.map x7 (i.out d)++[[dI 3,dI e,dI f,dI g,dI h,dI j,dI k,dI 0]]).length+2)*(64:Nat)≤(140737488355328:Nat)∧∃(s:Nat),(↑s:Int)=IntKind.i64.wrap ((↑d:Int)+1)∧List.map x7 (i.out s)=List.map x7 (i.out d)++[[dI 3,dI e,dI f,dI g,dI h,dI j,dI k,dI 0]]++[x7 (gT q),x7 (gS q)]∧b s∧c s<c d∧Sx.AObj.cells [V.d (dI i.x.price),V.d (dI i.x.qty),V.d (D.v (.bool i.x.implied)),V.own ((5:Nat)+(1:Nat)+1)] 321=Sx.AObj.cells [V.d (dI i.x.price),V.d (dI i.x.qty),V.d (D.v (.bool i.x.implied)),V.own ((5:Nat)+(1:Nat)+1)] 321∧AObj.fro 6 (List.map yT i.x.fills)=AObj.fro 6 (List.map yT i.x.fills)∧Sx.AObj.cells [V.d (dI i.c.kind),V.d (dI i.c.id),V.d (dI i.c.inst),V.d (dI i.c.side),V.d (dI i.c.price),V.d (dI i.c.qty),V.d (dI i.c.least),V.d (dI i.c.time),V.d (cZ i)] 80=Sx.AObj.cells [V.d (dI i.c.kind),V.d (dI i.c.id),V.d (dI i.c.inst),V.d (dI i.c.side),V.d (dI i.c.price),V.d (dI i.c.qty),V.d (dI i.c.least),V.d (dI i.c.time),V.d (cZ i)] 80∧Sx.AObj.cells [V.nm 0 0] 100=Sx.AObj.cells [V.nm 0 0] 100∧Sx.AObj.cells (gX (bJ 5 ((5:Nat)+(1:Nat)+(1:Nat)+(1:Nat)+(1:Nat)+(1:Nat)+(1:Nat)+(2:Nat)+(1:Nat)+(1:Nat)+(1:Nat)+(1:Nat)+((5:Nat)-(5:Nat))+((5:Nat)-(5:Nat))) ((6:Nat)-(5:Nat)) [((2:Nat),(2:Nat)),((1:Nat),(1:Nat)),((4:Nat),(4:Nat)),((3:Nat),(3:Nat)),((0:Nat),(0:Nat))]) [sV q.m.p.code,V.own 3,zA q.m.p.tick,zA q.m.p.low,zA q.m.p.high,zA q.m.p.wide,zA q.m.p.rule,zA q.m.p.top,zA q.m.p.least,zA q.m.p.part,V.own 4,V.nm 1 0,V.mp 2]) (179:TypeId)=y3 i.m 0∧zD q.m.s=y3 i.m 1∧Sx.AObj.map (yB q.m.used)=y3 i.m 2∧AObj.fro 1 (iE q.m.p.months)=y3 i.m 3∧AObj.fro 1 (iE q.m.p.settle)=y3 i.m 4) (∃(n:Nat),(↑n:Int)=IntKind.i64.wrap ((↑d:Int)+1)∧List.map x7 (i.out n)=List.map x7 (i.out d)++[[dI 3,dI e,dI f,dI g,dI h,dI j,dI k,dI 0]]∧b n∧c n<c d∧Sx.AObj.cells [V.d (dI i.x.price),V.d (dI i.x.qty),V.d (D.v (.bool i.x.implied)),V.own ((5:Nat)+(1:Nat)+1)] 321=Sx.AObj.cells [V.d (dI i.x.price),V.d (dI i.x.qty),V.d (D.v (.bool i.x.implied)),V.own ((5:Nat)+(1:Nat)+1)] 321∧AObj.fro 6 (List.map yT i.x.fills)=AObj.fro 6 (List.map yT i.x.fills)∧Sx.AObj.cells [V.d (dI i.c.kind),V.d (dI i.c.id),V.d (dI i.c.inst),V.d (dI i.c.side),V.d (dI i.c.price),V.d (dI i.c.qty),V.d (dI i.c.least),V.d (dI i.c.time),V.d (cZ i)] 80=Sx.AObj.cells [V.d (dI i.c.kind),V.d (dI i.c.id),V.d (dI i.c.inst),V.d (dI i.c.side),V.d (dI i.c.price),V.d (dI i.c.qty),V.d (dI i.c.least),V.d (dI i.c.time),V.d (cZ i)] 80∧Sx.AObj.cells [V.nm 0 0] 100=Sx.AObj.cells [V.nm 0 0] 100∧Sx.AObj.cells (gX (bJ 5 ((5:Nat)+(1:Nat)+(1:Nat)+(1:Nat)+(1:Nat)+(1:Nat)+(1:Nat)+(2:Nat)+(1:Nat)+(1:Nat)+(1:Nat)+(1:Nat)) ((5:Nat)-(5:Nat)) [((2:Nat),(2:Nat)),((1:Nat),(1:Nat)),((4:Nat),(4:Nat)),((3:Nat),(3:Nat)),((0:Nat),(0:Nat))]) [sV l.m.p.code,V.own 3,zA l.m.p.tick,zA l.m.p.low,zA l.m.p.high,zA l.m.p.wide,zA l.m.p.rule,zA l.m.p.top,zA l.m.p.least,zA l.m.p.part,V.own 4,V.nm 1 0,V.mp 2]) (179:TypeId)=y3 i.m 0∧zD l.m.s=y3 i.m 1∧Sx.AObj.map (yB l.m.used)=y3 i.m 2∧AObj.fro 1 (iE l.m.p.months)=y3 i.m 3∧AObj.fro 1 (iE l.m.p.settle)=y3 i.m 4)) (((List.map x7 (i.out d)).length+1)*(64:Nat)≤(140737488355328:Nat)∧∃(e:MiN),e.inst=i.c.inst∧sb e.m.p.code=sb i.m.p.code∧e.m.p.tick=i.m.p.tick∧e.m.p.low=i.m.p.low∧e.m.p.high=i.m.p.high∧e.m.p.wide=i.m.p.wide∧e.m.p.rule=i.m.p.rule∧e.m.p.top=i.m.p.top∧e.m.p.least=i.m.p.least∧e.m.p.part=i.m.p.part∧zD e.m.s=y3 i.m 1∧yB e.m.used=yB i.m.used∧AObj.fro 1 (iE e.m.p.months)=y3 i.m 3∧AObj.fro 1 (iE e.m.p.settle)=y3 i.m 4∧(zAg e)∧∀(f:Unit),True→cnd (e.m.p.legs e.inst).snd.snd (∃(g:MpI),g.inst=i.c.inst∧g.x.price=i.x.price∧g.x.qty=i.x.qty∧g.x.implied=i.x.implied∧List.map yT g.x.fills=List.map yT i.x.fills∧sb g.m.p.code=sb e.m.p.code∧g.m.p.tick=e.m.p.tick∧g.m.p.low=e.m.p.low∧g.m.p.high=e.m.p.high∧g.m.p.wide=e.m.p.wide∧g.m.p.rule=e.m.p.rule∧g.m.p.top=e.m.p.top∧g.m.p.least=e.m.p.least∧g.m.p.part=e.m.p.part∧zD g.m.s=zD e.m.s∧yB g.m.used=yB e.m.used∧AObj.fro 1 (iE g.m.p.months)=AObj.fro 1 (iE e.m.p.months)∧AObj.fro 1 (iE g.m.p.settle)=AObj.fro 1 (iE e.m.p.settle)∧(zAn g)∧∀(h:Unit),True→∃(j:MsI),j.r.kind=3∧j.r.id=i.c.id∧j.r.inst=i.c.inst∧j.r.side=i.c.side∧j.r.price=i.x.price∧j.r.qty=i.x.qty∧j.r.left=i.left∧j.r.why=0∧j.near=(qG g).fst∧j.far=(qG g).snd∧sb j.m.p.code=sb g.m.p.code∧j.m.p.tick=g.m.p.tick∧j.m.p.low=g.m.p.low∧j.m.p.high=g.m.p.high∧j.m.p.wide=g.m.p.wide∧j.m.p.rule=g.m.p.rule∧j.m.p.top=g.m.p.top∧j.m.p.least=g.m.p.least∧j.m.p.part=g.m.p.part∧zD j.m.s=zD g.m.s∧yB j.m.used=yB g.m.used∧AObj.fro 1 (iE j.m.p.months)=AObj.fro 1 (iE g.m.p.months)∧AObj.fro 1 (iE j.m.p.settle)=AObj.fro 1 (iE g.m.p.settle)∧(lO j)∧∀(k:Unit),True→True∧((List.map x7 (i.out d)++[[dI 3,dI i.c.id,dI i.c.inst,dI i.c.side,dI i.x.price,dI i.x.qty,dI i.left,dI 0]]).length+2)*(64:Nat)≤(140737488355328:Nat)∧∃(l:Unit),sb i.m.p.code=sb j.m.p.code∧i.m.p.tick=j.m.p.tick∧i.m.p.low=j.m.p.low∧i.m.p.high=j.m.p.high∧i.m.p.wide=j.m.p.wide∧i.m.p.rule=j.m.p.rule∧i.m.p.top=j.m.p.top∧i.m.p.least=j.m.p.least∧i.m.p.part=j.m.p.part∧zD i.m.s=zD j.m.s∧yB i.m.used=yB j.m.used∧AObj.fro 1 (iE i.m.p.months)=AObj.fro 1 (iE j.m.p.months)∧AObj.fro 1 (iE i.m.p.settle)=AObj.fro 1 (iE j.m.p.settle)∧List.map x7 (mO i.m.p i.c i.x i.left)=List.map x7 (i.out d)++[[dI 3,dI i.c.id,dI i.c.inst,dI i.c.side,dI i.x.price,dI i.x.qty,dI i.left,dI 0]]++[x7 (gT j),x7 (gS j)]∧True) (∃(g:Unit),sb i.m.p.code=sb e.m.p.code∧i.m.p.tick=e.m.p.tick∧i.m.p.low=e.m.p.low∧i.m.p.high=e.m.p.high∧i.m.p.wide=e.m.p.wide∧i.m.p.rule=e.m.p.rule∧i.m.p.top=e.m.p.top∧i.m.p.least=e.m.p.least∧i.m.p.part=e.m.p.part∧zD i.m.s=zD e.m.s∧yB i.m.used=yB e.m.used∧AObj.fro 1 (iE i.m.p.months)=AObj.fro 1 (iE e.m.p.months)∧AObj.fro 1 (iE i.m.p.settle)=AObj.fro 1 (iE e.m.p.settle)∧List.map x7 (mO i.m.p i.c i.x i.left)=List.map x7 (i.out d)++[[dI 3,dI i.c.id,dI i.c.inst,dI i.c.side,dI i.x.price,dI i.x.qty,dI i.left,dI 0]]∧True))
set_option linter.unusedSimpArgs false
open Go Cv Go.Proofs
theorem zZr:rejC.ok Tryz.prog 112:=okw (V:=yVr) mixed gok0 0 (fun _=>[]) (fun _=>[]) [] Tryz.func112 fun(i:RjI) _=>⟨(),rfl,trivial⟩
theorem yBv (i:MsI) (h:mspreadC.cnd i):zTa i:=by
 obtain⟨⟨hc,hp⟩,hs⟩:i.m.fine∧(i.r.side=1∨i.r.side=2):=h
 have hw:IntKind.i64.wrap (3-i.r.side)=3-i.r.side:=w64 (by omega)
 unfold zTa sK gT gS vZ wT kU dI
 rw[hw]
 refine⟨⟨i.m.p,i.r.inst⟩,rfl,rfl,rfl,rfl,rfl,rfl,rfl,rfl,rfl,rfl,rfl,rfl,hp,fun _ _=> ?_⟩
 exact kp
theorem zXy:mspreadC.ok Tryz.prog 239:=okw mixed (gokc tY gok0) 0 (fun _=>[]) (fun _=>[]) [] Tryz.func239 yBv
theorem yOs:misC.ok Tryz.prog 237:=okw (V:=yUz) mixed (gokc tY gok0) 0 (fun _=>[]) (fun _=>[]) [] Tryz.func237 fun(i:MiN) h=>by
 obtain⟨hc,hp⟩:i.m.fine:=h
 exact⟨⟨i.m.p,i.inst⟩,rfl,rfl,rfl,rfl,rfl,rfl,rfl,rfl,rfl,rfl,rfl,rfl,hp,fun _ _=>kp⟩
theorem yQg {l:List dK} {k:Nat} {f:dK} (h:l[k]? =some f):zE (l.map yT) k 0 6=some [D.v (.int .i64 f.id),D.v (.int .i64 f.inst),D.v (.int .i64 f.side),D.v (.int .i64 f.price),D.v (.int .i64 f.qty),D.v (.int .i64 f.left)]:=elA h (by simp[yT]) rfl
theorem vof (i:OfI) (h:ofC.cnd i):Vof i:=by
 have hl:i.x.fills.length≤1000000:=h
 have e4:(i.x.fills.map yT).length=i.x.fills.length:=yWk ..
 unfold Vof zSc dI
 refine⟨0,rfl,fun j=>j≤i.x.fills.length∧(i.x.fills.take j).find? (fun f=>decide (f.inst=i.k))=none,fun j=>i.x.fills.length-j,⟨yYh _,rfl⟩,?_⟩
 rintro j ⟨j1,j2⟩
 refine zI (fun c=> ?_) (fun c=> ?_)
 ·obtain⟨f,hf⟩:=yD (l:=i.x.fills) (i:=j) (by omega)
  refine⟨⟨by omega,by omega⟩,_,_,_,_,_,_,yQg hf,Cv.cnd.mk (fun g=>⟨(),?_,k0q⟩) (fun g=>⟨j+1,wjn (by omega),⟨by omega,?_⟩,by dsimp only;omega,k0q⟩)⟩
  ·have g:f.inst=i.k:=by simpa using g
   have e:i.x.fills.find? (fun f=>decide (f.inst=i.k))=some f:=by
    rw[← yYw j i.x.fills,List.find?_append,j2,yYo (by omega),(yWn.1 hf).2,List.find?_cons_of_pos (by simpa using g)]
    rfl
   rw[ofF,e]
  ·have g:¬f.inst=i.k:=by simpa using g
   rw[yXt,hf,List.find?_append,j2]
   simp[g]
 ·have:j=i.x.fills.length:=by omega
  rw[this,yWu (yXl _)]at j2
  exact⟨(),by rw[ofF,j2],k0q⟩
theorem yQi:ofC.ok Tryz.prog 265:=okw mixed gok0 0 (fun _=>[]) (fun _=>ofA) [] Tryz.func265 vof
theorem z9c (i:MpI) (h:mpricesC.cnd i):zVc i:=by
 obtain⟨⟨hc,hp⟩,hpr,hl⟩:i.m.fine∧yU i.x.price∧i.x.fills.length≤1000000:=h
 unfold zVc sN qG yY kU
 refine Cv.cnd.mk (fun e=> ?_) (fun e=> ?_)
 ·have e:i.x.implied=false:=by simpa using e
  have h0:wK i.m.p i.inst i.x=((gN i.m.p i.inst i.x.price).1,(gN i.m.p i.inst i.x.price).2.1):=by rw[wK,yWl e]
  rw[h0]
  exact⟨⟨i.m.p,i.inst,i.x.price⟩,rfl,rfl,rfl,rfl,rfl,rfl,rfl,rfl,rfl,rfl,rfl,rfl,rfl,⟨hc,hp,hpr⟩,fun _ _=>kp⟩
 ·have e:¬i.x.implied=false:=by simpa using e
  have h0:wK i.m.p i.inst i.x=(ofF i.x (i.m.p.legs i.inst).1,ofF i.x (i.m.p.legs i.inst).2.1):=by rw[wK,yWj e]
  rw[h0]
  exact⟨⟨i.m.p,i.inst⟩,rfl,rfl,rfl,rfl,rfl,rfl,rfl,rfl,rfl,rfl,rfl,rfl,hp,fun _ _=>⟨⟨i.x,(i.m.p.legs i.inst).1⟩,rfl,rfl,rfl,rfl,rfl,hl,fun _ _=>⟨⟨i.x,(i.m.p.legs i.inst).2.1⟩,rfl,rfl,rfl,rfl,rfl,hl,fun _ _=>kp⟩⟩⟩
theorem zXm:mpricesC.ok Tryz.prog 238:=okw mixed (gokc tY (gokc zZn (gokc yQi gok0))) 0 (fun _=>[]) (fun _=>[]) [] Tryz.func238 z9c
theorem zKu (p:Prd) (x:wB) (r:Rep):(pV p x r).length≤3:=by
 rw[pV,yWr]
 split
 ·rw[zGz];simp
 ·simp
theorem z2c {p:Prd} {x:wB} {r:Rep} (h:(p.legs r.inst).2.2=false):pV p x r=[r]:=by
 rw[pV,yWj (by rw[h];decide)]
theorem zWi {p:Prd} {x:wB} {r:Rep} (h:(p.legs r.inst).2.2=true):pV p x r=r::zGz p r (wK p r.inst x).1 (wK p r.inst x).2:=by
 rw[pV,yWl h]
theorem StI'.out_len (i:StI'):∀j,(i.out j).length≤3*j
 |0=>yXl _
 |j+1=>by
  have ih:=StI'.out_len i j
  rw[StI'.out]at ih ⊢
  rw[yXt,yYi,yWi]
  cases e:i.x.fills[j]? with
  |none=>simp only[Option.toList_none,y1t,yXp];omega
  |some f=>
   have:=zKu i.m.p i.x (zBx f)
   simp only[y0c,yXv,y1t,yXi]
   omega
theorem StI'.out_succ (i:StI') {j:Nat} {f:dK} (h:i.x.fills[j]? =some f):i.out (j+1)=i.out j++pV i.m.p i.x (zBx f):=by
 rw[StI'.out,StI'.out,yXt,yYi,h]
 simp
theorem yOg (i:StI') (h:mstepC.cnd i):z8y i:=by
 obtain⟨hf,hpr,hl,hcs,hfs⟩:i.m.fine∧yU i.x.price∧i.x.fills.length≤1000000∧(i.c.side=1∨i.c.side=2)∧∀f∈i.x.fills,f.side=1∨f.side=2:=h
 have e4:(i.x.fills.map yT).length=i.x.fills.length:=yWk ..
 unfold z8y cZ zAg lO zAn gT gS qG dI
 refine⟨0,rfl,rfl,fun j=>j≤i.x.fills.length,fun j=>i.x.fills.length-j,yYh _,?_⟩
 intro j hj
 have ho:=i.out_len j
 have e5:((i.out j).map x7).length=(i.out j).length:=yWk ..
 refine zI (fun c=> ?_) (fun c=> ?_)
 ·obtain⟨f,hfj⟩:=yD (l:=i.x.fills) (i:=j) (by omega)
  have hos:=i.out_succ hfj
  have hfj2:=hfs f (yWt hfj)
  refine⟨⟨by omega,by omega⟩,_,_,_,_,_,_,yQg hfj,by omega,⟨i.m,f.inst⟩,rfl,rfl,rfl,rfl,rfl,rfl,rfl,rfl,rfl,rfl,rfl,rfl,rfl,rfl,hf,fun _ _=>Cv.cnd.mk (fun e=> ?_) (fun e=> ?_)⟩
  ·have e:(i.m.p.legs (zBx f).inst).2.2=true:=e
   rw[zWi e]at hos
   refine⟨⟨i.m,f.inst,i.x⟩,rfl,rfl,rfl,rfl,rfl,rfl,rfl,rfl,rfl,rfl,rfl,rfl,rfl,rfl,rfl,rfl,rfl,rfl,⟨hf,hpr,hl⟩,fun _ _=>⟨⟨i.m,zBx f,(wK i.m.p f.inst i.x).1,(wK i.m.p f.inst i.x).2⟩,rfl,rfl,rfl,rfl,rfl,rfl,rfl,rfl,rfl,rfl,rfl,rfl,rfl,rfl,rfl,rfl,rfl,rfl,rfl,rfl,rfl,rfl,rfl,⟨hf,hfj2⟩,fun _ _=>⟨trivial,by rw[yWi,e5];simp only[yWr,yXp];omega,j+1,wjn (by omega),?_,by omega,by dsimp only;omega,k0q⟩⟩⟩
   rw[hos,yWv,yWo]
   rfl
  ·have e:(i.m.p.legs (zBx f).inst).2.2=false:=e
   rw[z2c e]at hos
   refine⟨j+1,wjn (by omega),?_,by omega,by dsimp only;omega,k0q⟩
   rw[hos,yWv];rfl
 ·have hj:j=i.x.fills.length:=by omega
  have ho2:i.x.fills.flatMap (fun f=>pV i.m.p i.x (zBx f))=i.out j:=by rw[StI'.out,hj,yWu (yXl _)]
  have hR:mO i.m.p i.c i.x i.left=i.out j++pV i.m.p i.x ⟨3,i.c.id,i.c.inst,i.c.side,i.x.price,i.x.qty,i.left,0⟩:=by rw[mO,ho2]
  refine⟨by omega,⟨i.m,i.c.inst⟩,rfl,rfl,rfl,rfl,rfl,rfl,rfl,rfl,rfl,rfl,rfl,rfl,rfl,rfl,hf,fun _ _=>Cv.cnd.mk (fun e=> ?_) (fun e=> ?_)⟩
  ·have e:(i.m.p.legs (⟨3,i.c.id,i.c.inst,i.c.side,i.x.price,i.x.qty,i.left,0⟩:Rep).inst).2.2=true:=e
   rw[zWi e]at hR
   refine⟨⟨i.m,i.c.inst,i.x⟩,rfl,rfl,rfl,rfl,rfl,rfl,rfl,rfl,rfl,rfl,rfl,rfl,rfl,rfl,rfl,rfl,rfl,rfl,⟨hf,hpr,hl⟩,fun _ _=>⟨⟨i.m,⟨3,i.c.id,i.c.inst,i.c.side,i.x.price,i.x.qty,i.left,0⟩,(wK i.m.p i.c.inst i.x).1,(wK i.m.p i.c.inst i.x).2⟩,rfl,rfl,rfl,rfl,rfl,rfl,rfl,rfl,rfl,rfl,rfl,rfl,rfl,rfl,rfl,rfl,rfl,rfl,rfl,rfl,rfl,rfl,rfl,⟨hf,hcs⟩,fun _ _=>⟨trivial,by rw[yWi,e5];simp only[yWr,yXp];omega,?_⟩⟩⟩
   rw[hR,yWv,yWo]
   exact kp
  ·have e:(i.m.p.legs (⟨3,i.c.id,i.c.inst,i.c.side,i.x.price,i.x.qty,i.left,0⟩:Rep).inst).2.2=false:=e
   rw[z2c e]at hR
   rw[hR,yWv]
   exact kp
theorem z8i:mstepC.ok Tryz.prog 208:=okw mixed (gokc yOs (gokc zXm (gokc zXy gok0))) 1 (fun _=>[]) (fun i=>yOy i) [] Tryz.func208 yOg
open Go Cv Go.Proofs
structure EnI where
 m:Mkt
 p:Prd
 B:List (List zH)
 U:List Int
 c:Cmd
 X:MkX
@[reducible] def EnI.std (i:EnI):Prop:=i.m.Rep i.p i.B i.U∧BOk i.p i.B
@[reducible] def EnI.good (i:EnI):Prop:=(0≤i.c.inst∧i.c.inst<i.B.length)∧(1≤i.c.qty∧i.c.qty≤1000000)∧(i.c.side=1∨i.c.side=2)
@[reducible] def zTl (X:MkX) (p:Prd):Alt:={o:=Mkt,res:=fun _=> .own 5,post:=fun o=>zCn o++[zZb X.R],rel:=fun o=>o.Rep p X.B X.U}
def enterC:Con where
 ι:=EnI
 pat:=fun i=>[.nm 0 0,zMt i.c]
 pre:=fun i=>zCn i.m
 cnd:=fun i=>i.std∧i.good∧i.p.price i.c.inst i.c.price=0∧i.X=aJ i.p i.B i.U i.c
 alts:=fun i=>[zTl i.X i.p]
structure EnJ where
 left:Int
 k:Nat
 out:List Rep
def yPq (i:EnI):List SAnn:=[{ι:=EnJ,slots:=fun j=>[(5,.own 0),(8,zA j.left),(51,zA j.k)],rows:=fun j=>[zZb j.out]}]
def orderC:Con where
 ι:=EnI
 pat:=fun i=>[.nm 0 0,zMt i.c]
 pre:=fun i=>zCn i.m
 cnd:=fun i=>i.std∧i.c.right=0∧i.c.kind=1∧i.X=rE i.p i.B i.U i.c
 alts:=fun i=>[zTl i.X i.p]
def yOd:List (Nat×SAnn):=[(22,ij 6),(44,bj 47),(52,bj 69)]
structure CaI where
 m:Mkt
 p:Prd
 B:List (List zH)
 U:List Int
 id:Int
 q:Int
 inst:Int
 o:zH
 X:MkX
@[reducible] def CaI.std (i:CaI):Prop:=i.m.Rep i.p i.B i.U∧BOk i.p i.B
def cancelC:Con where
 ι:=CaI
 pat:=fun i=>[.nm 0 0,zA i.id,zA i.inst,z5l i.o]
 pre:=fun i=>zCn i.m
 cnd:=fun i=>i.std∧i.X=b9 i.B i.U i.id i.inst i.o
 alts:=fun i=>[zTl i.X i.p]
def reduceC:Con where
 ι:=CaI
 pat:=fun i=>[.nm 0 0,zA i.id,zA i.q,zA i.inst,z5l i.o]
 pre:=fun i=>zCn i.m
 cnd:=fun i=>i.std∧yU (i.o.qty-i.q)∧i.X=zCg i.B i.U i.id i.q i.inst i.o
 alts:=fun i=>[zTl i.X i.p]
structure z6f where
 m:Mkt
 p:Prd
 B:List (List zH)
 U:List Int
 c:Cmd
 inst:Int
 o:zH
 X:MkX
def replaceC:Con where
 ι:=z6f
 pat:=fun i=>[.nm 0 0,zMt i.c,zA i.inst,z5l i.o]
 pre:=fun i=>zCn i.m
 cnd:=fun i=>i.m.Rep i.p i.B i.U∧BOk i.p i.B∧yH i.B i.c.id=(i.inst,i.o,true)∧(1≤i.c.qty∧i.c.qty≤1000000)∧i.X=c8 i.p i.B i.U i.c i.inst i.o
 alts:=fun i=>[zTl i.X i.p]
def doC:Con where
 ι:=EnI
 pat:=fun i=>[.nm 0 0,zMt i.c]
 pre:=fun i=>[lA i.m]
 cnd:=fun i=>i.std∧i.c.label.length≤140737488355328∧yU i.c.qty∧i.X=doF i.p i.B i.U i.c
 alts:=fun i=>[{o:=Mkt,res:=fun _=> .own 1,post:=fun o=>[lA o,zZb i.X.R],rel:=fun o=>o.Rep i.p i.X.B i.X.U}]
open Go Cv Go.Proofs
def lW (a:Mkt) (b:EnI) (c:EnJ):Prop:=yB a.used=gP (Value.int IntKind.i64 b.c.id) [D.v (.bool true)] (yB b.m.used)∧AObj.fro 1 (iE a.p.months)=y3 b.m 3∧AObj.fro 1 (iE a.p.settle)=y3 b.m 4∧List.map x7 b.X.R=List.map x7 c.out∧a.Rep b.p b.X.B b.X.U
def vL (a:EnI):=(D.v (Value.string (sb a.c.label)))
def z8v (i:EnI):Prop:=
 (∀(a:Value×List D),a∈yB i.m.used→like (Value.int IntKind.i64 i.c.id) a.fst=true)∧∃(a:RunI),a.inst=i.c.inst∧zC a.sd=i.c.side∧a.price=i.c.price∧a.q=i.c.qty∧zD a.s=y3 i.m 1∧(qI a)∧∀(b:MSt),b.Rep a.p a.r.B→∃(c:EnJ),c.left=i.c.qty∧(↑c.k:Int)=0∧List.map x7 c.out=[[dI 1,dI i.c.id,dI i.c.inst,dI i.c.side,dI i.c.price,dI i.c.qty,dI i.c.qty,dI 0]]∧∃(d:EnJ→Prop),∃(e:EnJ→Nat),d c∧∀(f:EnJ),d f→cnd (decide ((↑f.k:Int)<(↑(List.map j8 a.r.steps).length:Int))) ((0≤(↑f.k:Int)∧(↑f.k:Int)<(↑(List.map j8 a.r.steps).length:Int))∧∃(g:Int),∃(h:Int),∃(j:Bool),∃(k:List (List D)),zE (List.map j8 a.r.steps) (↑f.k:Int).toNat 0 4=some [dI g,dI h,D.v (.bool j),D.ro 6 k]∧∃(l:StI'),l.c.kind=i.c.kind∧l.c.id=i.c.id∧l.c.inst=i.c.inst∧l.c.side=i.c.side∧l.c.price=i.c.price∧l.c.qty=i.c.qty∧l.c.least=i.c.least∧l.c.time=i.c.time∧sb l.c.label=sb i.c.label∧l.x.price=g∧l.x.qty=h∧l.x.implied=j∧List.map yT l.x.fills=k∧l.left=IntKind.i64.wrap (f.left-h)∧sb l.m.p.code=sb i.m.p.code∧l.m.p.tick=i.m.p.tick∧l.m.p.low=i.m.p.low∧l.m.p.high=i.m.p.high∧l.m.p.wide=i.m.p.wide∧l.m.p.rule=i.m.p.rule∧l.m.p.top=i.m.p.top∧l.m.p.least=i.m.p.least∧l.m.p.part=i.m.p.part∧zD l.m.s=zD b∧yB l.m.used=gP (Value.int IntKind.i64 i.c.id) [D.v (.bool true)] (yB i.m.used)∧AObj.fro 1 (iE l.m.p.months)=y3 i.m 3∧AObj.fro 1 (iE l.m.p.settle)=y3 i.m 4∧((l.m.p.check=0∧l.m.p.code.length≤1099511627776∧l.m.p.months.length≤1099511627776∧l.m.p.settle.length≤1099511627776)∧((-9223372036854775808)≤l.x.price∧l.x.price≤9223372036854775807)∧l.x.fills.length≤1000000∧(l.c.side=1∨l.c.side=2)∧∀(m:dK),m∈l.x.fills→m.side=1∨m.side=2)∧∀(m:Unit),True→((List.map x7 f.out).length+(List.map x7 (mO l.m.p l.c l.x l.left)).length)*(64:Nat)≤(140737488355328:Nat)∧∃(n:EnJ),n.left=IntKind.i64.wrap (f.left-h)∧(↑n.k:Int)=IntKind.i64.wrap ((↑f.k:Int)+1)∧List.map x7 n.out=List.map x7 f.out++List.map x7 (mO l.m.p l.c l.x l.left)∧d n∧e n<e f∧zD l.m.s=zD b∧AObj.own 321 4 (List.map j8 a.r.steps)=AObj.own 321 4 (List.map j8 a.r.steps)∧Sx.AObj.cells [V.d (dI i.c.kind),V.d (dI i.c.id),V.d (dI i.c.inst),V.d (dI i.c.side),V.d (dI i.c.price),V.d (dI i.c.qty),V.d (dI i.c.least),V.d (dI i.c.time),V.d (vL i)] 80=Sx.AObj.cells [V.d (dI i.c.kind),V.d (dI i.c.id),V.d (dI i.c.inst),V.d (dI i.c.side),V.d (dI i.c.price),V.d (dI i.c.qty),V.d (dI i.c.least),V.d (dI i.c.time),V.d (vL i)] 80∧Sx.AObj.cells (gX (bJ 5 ((5:Nat)+(1:Nat)+1+((2:Nat)-(1:Nat))+(1:Nat)+(1:Nat)+1) ((6:Nat)-(5:Nat)) [((2:Nat),(2:Nat)),((1:Nat),(1:Nat)),((4:Nat),(4:Nat)),((3:Nat),(3:Nat)),((0:Nat),(0:Nat))]) [sV l.m.p.code,V.own 3,zA l.m.p.tick,zA l.m.p.low,zA l.m.p.high,zA l.m.p.wide,zA l.m.p.rule,zA l.m.p.top,zA l.m.p.least,zA l.m.p.part,V.own 4,V.nm 1 0,V.mp 2]) (179:TypeId)=y3 i.m 0∧Sx.AObj.map (yB l.m.used)=Sx.AObj.map (gP (Value.int IntKind.i64 i.c.id) [D.v (.bool true)] (yB i.m.used))∧AObj.fro 1 (iE l.m.p.months)=y3 i.m 3∧AObj.fro 1 (iE l.m.p.settle)=y3 i.m 4) (cnd (a.r.left==0) (∃(g:Mkt),sb g.p.code=sb i.m.p.code∧g.p.tick=i.m.p.tick∧g.p.low=i.m.p.low∧g.p.high=i.m.p.high∧g.p.wide=i.m.p.wide∧g.p.rule=i.m.p.rule∧g.p.top=i.m.p.top∧g.p.least=i.m.p.least∧g.p.part=i.m.p.part∧zD g.s=zD b∧lW g i f) (cnd (i.c.time==1) (∃(g:SaI),g.inst=i.c.inst∧g.id=i.c.id∧zC g.sd=i.c.side∧g.price=i.c.price∧g.qty=a.r.left∧zD g.s=zD b∧((g.s.p.code.length≤1099511627776∧g.s.p.months.length≤1099511627776∧g.s.p.settle.length≤1099511627776)∧g.s.books.length≤1000000∧∀(h:Book),h∈g.s.books→(h.a.slots.length≤1000000∧(h.a.free≠0→∃(j:Slot),j∈h.a.slots∧j.used=false)∧∀(j:dL),j∈h.a.queues→j.last=(-1)∨0≤j.last∧j.last<(↑h.a.slots.length:Int))∧h.a.queues.length≤100000∧h.buys.length≤100000∧h.sells.length≤100000∧h.spare.length≤100000)∧∀(h:Unit),True→∃(j:Mkt),sb j.p.code=sb i.m.p.code∧j.p.tick=i.m.p.tick∧j.p.low=i.m.p.low∧j.p.high=i.m.p.high∧j.p.wide=i.m.p.wide∧j.p.rule=i.m.p.rule∧j.p.top=i.m.p.top∧j.p.least=i.m.p.least∧j.p.part=i.m.p.part∧zD j.s=zD (MSt.addF g).fst∧lW j i f) (((List.map x7 f.out).length+1)*(64:Nat)≤(140737488355328:Nat)∧∃(g:Mkt),sb g.p.code=sb i.m.p.code∧g.p.tick=i.m.p.tick∧g.p.low=i.m.p.low∧g.p.high=i.m.p.high∧g.p.wide=i.m.p.wide∧g.p.rule=i.m.p.rule∧g.p.top=i.m.p.top∧g.p.least=i.m.p.least∧g.p.part=i.m.p.part∧zD g.s=zD b∧yB g.used=gP (Value.int IntKind.i64 i.c.id) [D.v (.bool true)] (yB i.m.used)∧AObj.fro 1 (iE g.p.months)=y3 i.m 3∧AObj.fro 1 (iE g.p.settle)=y3 i.m 4∧List.map x7 i.X.R=List.map x7 f.out++[[dI 4,dI i.c.id,dI i.c.inst,dI i.c.side,dI i.c.price,dI a.r.left,dI 0,dI 0]]∧g.Rep i.p i.X.B i.X.U)))
def zEk (a:EnI):Prop:=Sx.AObj.cells [V.d (dI a.c.kind),V.d (dI a.c.id),V.d (dI a.c.inst),V.d (dI a.c.side),V.d (dI a.c.price),V.d (dI a.c.qty),V.d (dI a.c.least),V.d (dI a.c.time),V.d (vL a)] 80=Sx.AObj.cells [V.d (dI a.c.kind),V.d (dI a.c.id),V.d (dI a.c.inst),V.d (dI a.c.side),V.d (dI a.c.price),V.d (dI a.c.qty),V.d (dI a.c.least),V.d (dI a.c.time),V.d (vL a)] 80∧y3 a.m 0=y3 a.m 0∧y3 a.m 2=y3 a.m 2∧y3 a.m 3=y3 a.m 3∧y3 a.m 4=y3 a.m 4
def zDo (a:Bool→Prop) (b:SoI) (c:EnI):Prop:=∃(d:Bool),d=false∧a d∧zD b.s=zD b.s∧zEk c
def zEz (a:Int→Prop) (b:Int) (c:EnI):Prop:=a b∧Sx.AObj.cells [V.d (dI c.c.kind),V.d (dI c.c.id),V.d (dI c.c.inst),V.d (dI c.c.side),V.d (dI c.c.price),V.d (dI c.c.qty),V.d (dI c.c.least),V.d (dI c.c.time),V.d (vL c)] 80=Sx.AObj.cells [V.d (dI c.c.kind),V.d (dI c.c.id),V.d (dI c.c.inst),V.d (dI c.c.side),V.d (dI c.c.price),V.d (dI c.c.qty),V.d (dI c.c.least),V.d (dI c.c.time),V.d (vL c)] 80∧y3 c.m 0=y3 c.m 0∧y3 c.m 1=y3 c.m 1∧y3 c.m 2=y3 c.m 2∧y3 c.m 3=y3 c.m 3∧y3 c.m 4=y3 c.m 4
def zEn (a:Bool→Prop) (b:Bool) (c:RunI) (d:SoI) (e:EnI):Prop:=a b∧zD c.s=zD d.s∧zEk e
def lV (a:Mkt) (b:EnI) (c:RjI):Prop:=yB a.used=yB b.m.used∧AObj.fro 1 (iE a.p.months)=y3 b.m 3∧AObj.fro 1 (iE a.p.settle)=y3 b.m 4∧List.map x7 b.X.R=[x7 (Rep.mk 2 c.c.id 0 0 0 0 0 c.why)]∧a.Rep b.p b.X.B b.X.U
def zEa (a:EnI) (b:RjI):Prop:=True∧∀(c:Unit),True→∃(d:Mkt),sb d.p.code=sb a.m.p.code∧d.p.tick=a.m.p.tick∧d.p.low=a.m.p.low∧d.p.high=a.m.p.high∧d.p.wide=a.m.p.wide∧d.p.rule=a.m.p.rule∧d.p.top=a.m.p.top∧d.p.least=a.m.p.least∧d.p.part=a.m.p.part∧zD d.s=y3 a.m 1∧lV d a b
def eQ (a:EnI) (b:SoI) (c:RjI):Prop:=True∧∀(d:Unit),True→∃(e:Mkt),sb e.p.code=sb a.m.p.code∧e.p.tick=a.m.p.tick∧e.p.low=a.m.p.low∧e.p.high=a.m.p.high∧e.p.wide=a.m.p.wide∧e.p.rule=a.m.p.rule∧e.p.top=a.m.p.top∧e.p.least=a.m.p.least∧e.p.part=a.m.p.part∧zD e.s=zD b.s∧lV e a c
def tH (a:EnI) (b:EnI):Prop:=∀(c:Mkt),c.Rep a.p a.X.B a.X.U→∃(d:Mkt),sb d.p.code=sb c.p.code∧d.p.tick=c.p.tick∧d.p.low=c.p.low∧d.p.high=c.p.high∧d.p.wide=c.p.wide∧d.p.rule=c.p.rule∧d.p.top=c.p.top∧d.p.least=c.p.least∧d.p.part=c.p.part∧zD d.s=zD c.s∧yB d.used=yB c.used∧AObj.fro 1 (iE d.p.months)=AObj.fro 1 (iE c.p.months)∧AObj.fro 1 (iE d.p.settle)=AObj.fro 1 (iE c.p.settle)∧List.map x7 b.X.R=List.map x7 a.X.R∧d.Rep b.p b.X.B b.X.U
def nU (a:EnI):Prop:=(a.m.Rep a.p a.B a.U∧BOk a.p a.B)∧((0≤a.c.inst∧a.c.inst<(↑a.B.length:Int))∧(1≤a.c.qty∧a.c.qty≤1000000)∧(a.c.side=1∨a.c.side=2))∧a.p.price a.c.inst a.c.price=0∧a.X=aJ a.p a.B a.U a.c
def yBt (i:EnI):Prop:=
 ∃(a:pY),sb a.p.code=sb i.m.p.code∧iE a.p.months=iE i.m.p.months∧a.p.tick=i.m.p.tick∧a.p.low=i.m.p.low∧a.p.high=i.m.p.high∧a.p.wide=i.m.p.wide∧a.p.rule=i.m.p.rule∧a.p.top=i.m.p.top∧a.p.least=i.m.p.least∧a.p.part=i.m.p.part∧iE a.p.settle=iE i.m.p.settle∧a.a=i.c.inst∧a.b=i.c.price∧(xZ a)∧∀(b:Unit),True→cnd (a.p.price a.a a.b !=0) (∃(c:RjI),c.c.kind=i.c.kind∧c.c.id=i.c.id∧c.c.inst=i.c.inst∧c.c.side=i.c.side∧c.c.price=i.c.price∧c.c.qty=i.c.qty∧c.c.least=i.c.least∧c.c.time=i.c.time∧sb c.c.label=sb i.c.label∧c.why=a.p.price a.a a.b∧zEa i c) (∃(c:Int),∃(d:Int→Prop),cnd (i.c.time==3) (∃(e:Int),e=i.c.qty∧zEz d e i) (∃(e:Int),e=i.c.least∧zEz d e i)∧∀(e:Int),d e→(∀(f:Value×List D),f∈yB i.m.used→like (Value.int IntKind.i64 i.c.id) f.fst=true)∧∃(f:Bool),∃(g:Bool),(vT (Value.int IntKind.i64 i.c.id) (yB i.m.used)=some [D.v (.bool g)]∧f=true∨vT (Value.int IntKind.i64 i.c.id) (yB i.m.used)=none∧[D.v (.bool g)]=[D.v (.bool false)]∧f=false)∧cnd g (∃(h:RjI),h.c.kind=i.c.kind∧h.c.id=i.c.id∧h.c.inst=i.c.inst∧h.c.side=i.c.side∧h.c.price=i.c.price∧h.c.qty=i.c.qty∧h.c.least=i.c.least∧h.c.time=i.c.time∧sb h.c.label=sb i.c.label∧h.why=25∧zEa i h) (∃(h:SoI),zD h.s=y3 i.m 1∧(h.s.Rep h.p h.B∧h.B.length≤1000)∧∀(j:Unit),True→cnd (decide ((↑(z6a h.B):Int)≥250)) (∃(k:RjI),k.c.kind=i.c.kind∧k.c.id=i.c.id∧k.c.inst=i.c.inst∧k.c.side=i.c.side∧k.c.price=i.c.price∧k.c.qty=i.c.qty∧k.c.least=i.c.least∧k.c.time=i.c.time∧sb k.c.label=sb i.c.label∧k.why=13∧eQ i h k) (∃(k:Bool),∃(l:Bool→Prop),cnd (decide (e>0)) (∃(m:RunI),m.inst=i.c.inst∧zC m.sd=i.c.side∧m.price=i.c.price∧m.q=i.c.qty∧zD m.s=zD h.s∧(qI m)∧∀(n:Unit),True→∃(p:Bool),p=decide (m.q-m.r.left<e)∧zEn l p m h i) (zDo l h i)∧∀(m:Bool),l m→cnd m (∃(n:RjI),n.c.kind=i.c.kind∧n.c.id=i.c.id∧n.c.inst=i.c.inst∧n.c.side=i.c.side∧n.c.price=i.c.price∧n.c.qty=i.c.qty∧n.c.least=i.c.least∧n.c.time=i.c.time∧sb n.c.label=sb i.c.label∧n.why=28∧eQ i h n) (∃(n:Bool),∃(p:Bool→Prop),cnd (i.c.time==1) (∃(q:RunI),q.inst=i.c.inst∧zC q.sd=i.c.side∧q.price=i.c.price∧q.q=i.c.qty∧zD q.s=zD h.s∧(qI q)∧∀(r:Unit),True→∃(s:Bool),s=cR q.p q.B q.inst q.sd q.price q.q∧zEn p s q h i) (zDo p h i)∧∀(q:Bool),p q→cnd q (∃(r:RjI),r.c.kind=i.c.kind∧r.c.id=i.c.id∧r.c.inst=i.c.inst∧r.c.side=i.c.side∧r.c.price=i.c.price∧r.c.qty=i.c.qty∧r.c.least=i.c.least∧r.c.time=i.c.time∧sb r.c.label=sb i.c.label∧r.why=23∧eQ i h r) (∃(r:EnI),r.c.kind=i.c.kind∧r.c.id=i.c.id∧r.c.inst=i.c.inst∧r.c.side=i.c.side∧r.c.price=i.c.price∧r.c.qty=i.c.qty∧r.c.least=i.c.least∧r.c.time=i.c.time∧sb r.c.label=sb i.c.label∧sb r.m.p.code=sb i.m.p.code∧r.m.p.tick=i.m.p.tick∧r.m.p.low=i.m.p.low∧r.m.p.high=i.m.p.high∧r.m.p.wide=i.m.p.wide∧r.m.p.rule=i.m.p.rule∧r.m.p.top=i.m.p.top∧r.m.p.least=i.m.p.least∧r.m.p.part=i.m.p.part∧zD r.m.s=zD h.s∧yB r.m.used=yB i.m.used∧AObj.fro 1 (iE r.m.p.months)=y3 i.m 3∧AObj.fro 1 (iE r.m.p.settle)=y3 i.m 4∧(nU r)∧tH r i)))))
def yGa (i:CaI):Prop:=
 ∃(i_1:StI),i_1.id=i.id∧i_1.q=i.o.qty∧zD i_1.s=y3 i.m 1∧(i_1.s.Rep i_1.p i_1.B∧i_1.B.length≤1000)∧∀(o:MSt),o.Rep i_1.p (kE i_1.B i_1.id i_1.q).fst→∃(o_1:Mkt),sb o_1.p.code=sb i.m.p.code∧o_1.p.tick=i.m.p.tick∧o_1.p.low=i.m.p.low∧o_1.p.high=i.m.p.high∧o_1.p.wide=i.m.p.wide∧o_1.p.rule=i.m.p.rule∧o_1.p.top=i.m.p.top∧o_1.p.least=i.m.p.least∧o_1.p.part=i.m.p.part∧zD o_1.s=zD o∧yB o_1.used=yB i.m.used∧AObj.fro 1 (iE o_1.p.months)=y3 i.m 3∧AObj.fro 1 (iE o_1.p.settle)=y3 i.m 4∧List.map x7 i.X.R=[[D.v (.int .i64 4),D.v (.int .i64 i.id),D.v (.int .i64 i.inst),D.v (.int .i64 i.o.side),D.v (.int .i64 i.o.price),D.v (.int .i64 i.o.qty),D.v (.int .i64 0),D.v (.int .i64 0)]]∧o_1.Rep i.p i.X.B i.X.U
def z2a (i:CaI):Prop:=
 ∃(a:StI),a.id=i.id∧a.q=i.q∧zD a.s=y3 i.m 1∧(a.s.Rep a.p a.B∧a.B.length≤1000)∧∀(b:MSt),b.Rep a.p (kE a.B a.id a.q).fst→∃(c:Mkt),sb c.p.code=sb i.m.p.code∧c.p.tick=i.m.p.tick∧c.p.low=i.m.p.low∧c.p.high=i.m.p.high∧c.p.wide=i.m.p.wide∧c.p.rule=i.m.p.rule∧c.p.top=i.m.p.top∧c.p.least=i.m.p.least∧c.p.part=i.m.p.part∧zD c.s=zD b∧yB c.used=yB i.m.used∧AObj.fro 1 (iE c.p.months)=y3 i.m 3∧AObj.fro 1 (iE c.p.settle)=y3 i.m 4∧List.map x7 i.X.R=[[dI 5,dI i.id,dI i.inst,dI i.o.side,dI i.o.price,dI i.q,dI (IntKind.i64.wrap (i.o.qty-i.q)),dI 0]]∧c.Rep i.p i.X.B i.X.U
def mY (a:Mkt) (b:z6f) (c:RjI):Prop:=yB a.used=yB b.m.used∧AObj.fro 1 (iE a.p.months)=y3 b.m 3∧AObj.fro 1 (iE a.p.settle)=y3 b.m 4∧List.map x7 b.X.R=[x7 (Rep.mk 2 c.c.id 0 0 0 0 0 c.why)]∧a.Rep b.p b.X.B b.X.U
def zAk (a:z6f):Prop:=∃(b:MSt),zD b=y3 a.m 1∧(gD b)∧∀(c:Unit),True→∃(d:StI),d.id=a.c.id∧d.q=a.o.qty∧zD d.s=zD b∧(d.s.Rep d.p d.B∧d.B.length≤1000)∧∀(e:MSt),e.Rep d.p (kE d.B d.id d.q).fst→∃(f:RunI),f.inst=a.inst∧zC f.sd=a.o.side∧f.price=a.c.price∧f.q=a.c.qty∧zD f.s=zD e∧(qI f)∧∀(g:Unit),True→cnd (cR f.p f.B f.inst f.sd f.price f.q) (∃(h:RjI),h.c.kind=a.c.kind∧h.c.id=a.c.id∧h.c.inst=a.c.inst∧h.c.side=a.c.side∧h.c.price=a.c.price∧h.c.qty=a.c.qty∧h.c.least=a.c.least∧h.c.time=a.c.time∧sb h.c.label=sb a.c.label∧h.why=23∧True∧∀(j:Unit),True→∃(k:Mkt),sb k.p.code=sb a.m.p.code∧k.p.tick=a.m.p.tick∧k.p.low=a.m.p.low∧k.p.high=a.m.p.high∧k.p.wide=a.m.p.wide∧k.p.rule=a.m.p.rule∧k.p.top=a.m.p.top∧k.p.least=a.m.p.least∧k.p.part=a.m.p.part∧zD k.s=zD b∧mY k a h) (∃(h:CaI),h.id=a.c.id∧h.inst=a.inst∧h.o.id=a.o.id∧h.o.side=a.o.side∧h.o.price=a.o.price∧h.o.qty=a.o.qty∧h.o.top=a.o.top∧sb h.m.p.code=sb a.m.p.code∧h.m.p.tick=a.m.p.tick∧h.m.p.low=a.m.p.low∧h.m.p.high=a.m.p.high∧h.m.p.wide=a.m.p.wide∧h.m.p.rule=a.m.p.rule∧h.m.p.top=a.m.p.top∧h.m.p.least=a.m.p.least∧h.m.p.part=a.m.p.part∧zD h.m.s=zD b∧yB h.m.used=yB a.m.used∧AObj.fro 1 (iE h.m.p.months)=y3 a.m 3∧AObj.fro 1 (iE h.m.p.settle)=y3 a.m 4∧((h.m.Rep h.p h.B h.U∧BOk h.p h.B)∧h.X=b9 h.B h.U h.id h.inst h.o)∧∀(j:Mkt),j.Rep h.p h.X.B h.X.U→∃(k:EnI),k.c.kind=1∧k.c.id=a.c.id∧k.c.inst=a.inst∧k.c.side=a.o.side∧k.c.price=a.c.price∧k.c.qty=a.c.qty∧k.c.least=0∧k.c.time=1∧sb k.c.label=ByteArray.mk #[]∧sb k.m.p.code=sb j.p.code∧k.m.p.tick=j.p.tick∧k.m.p.low=j.p.low∧k.m.p.high=j.p.high∧k.m.p.wide=j.p.wide∧k.m.p.rule=j.p.rule∧k.m.p.top=j.p.top∧k.m.p.least=j.p.least∧k.m.p.part=j.p.part∧zD k.m.s=zD j.s∧yB k.m.used=yB j.used∧AObj.fro 1 (iE k.m.p.months)=AObj.fro 1 (iE j.p.months)∧AObj.fro 1 (iE k.m.p.settle)=AObj.fro 1 (iE j.p.settle)∧(nU k)∧∀(l:Mkt),l.Rep k.p k.X.B k.X.U→((List.map x7 h.X.R).length+(List.map x7 k.X.R).length)*(64:Nat)≤(140737488355328:Nat)∧∃(m:Mkt),sb m.p.code=sb l.p.code∧m.p.tick=l.p.tick∧m.p.low=l.p.low∧m.p.high=l.p.high∧m.p.wide=l.p.wide∧m.p.rule=l.p.rule∧m.p.top=l.p.top∧m.p.least=l.p.least∧m.p.part=l.p.part∧zD m.s=zD l.s∧yB m.used=yB l.used∧AObj.fro 1 (iE m.p.months)=AObj.fro 1 (iE l.p.months)∧AObj.fro 1 (iE m.p.settle)=AObj.fro 1 (iE l.p.settle)∧List.map x7 a.X.R=List.map x7 h.X.R++List.map x7 k.X.R∧m.Rep a.p a.X.B a.X.U)
def dZ (a:CaI):Prop:=(a.m.Rep a.p a.B a.U∧BOk a.p a.B)∧((-9223372036854775808)≤a.o.qty-a.q∧a.o.qty-a.q≤9223372036854775807)∧a.X=zCg a.B a.U a.id a.q a.inst a.o
def zUb (i:z6f):Prop:=
 ∃(a:pY),sb a.p.code=sb i.m.p.code∧iE a.p.months=iE i.m.p.months∧a.p.tick=i.m.p.tick∧a.p.low=i.m.p.low∧a.p.high=i.m.p.high∧a.p.wide=i.m.p.wide∧a.p.rule=i.m.p.rule∧a.p.top=i.m.p.top∧a.p.least=i.m.p.least∧a.p.part=i.m.p.part∧iE a.p.settle=iE i.m.p.settle∧a.a=i.inst∧a.b=i.c.price∧(xZ a)∧∀(b:Unit),True→cnd (a.p.price a.a a.b !=0) (∃(c:RjI),c.c.kind=i.c.kind∧c.c.id=i.c.id∧c.c.inst=i.c.inst∧c.c.side=i.c.side∧c.c.price=i.c.price∧c.c.qty=i.c.qty∧c.c.least=i.c.least∧c.c.time=i.c.time∧sb c.c.label=sb i.c.label∧c.why=a.p.price a.a a.b∧True∧∀(d:Unit),True→∃(e:Mkt),sb e.p.code=sb i.m.p.code∧e.p.tick=i.m.p.tick∧e.p.low=i.m.p.low∧e.p.high=i.m.p.high∧e.p.wide=i.m.p.wide∧e.p.rule=i.m.p.rule∧e.p.top=i.m.p.top∧e.p.least=i.m.p.least∧e.p.part=i.m.p.part∧zD e.s=y3 i.m 1∧mY e i c) (cnd (i.c.price==i.o.price) (cnd (decide (i.c.qty≤i.o.qty)) (∃(c:CaI),c.id=i.c.id∧c.q=IntKind.i64.wrap (i.o.qty-i.c.qty)∧c.inst=i.inst∧c.o.id=i.o.id∧c.o.side=i.o.side∧c.o.price=i.o.price∧c.o.qty=i.o.qty∧c.o.top=i.o.top∧sb c.m.p.code=sb i.m.p.code∧c.m.p.tick=i.m.p.tick∧c.m.p.low=i.m.p.low∧c.m.p.high=i.m.p.high∧c.m.p.wide=i.m.p.wide∧c.m.p.rule=i.m.p.rule∧c.m.p.top=i.m.p.top∧c.m.p.least=i.m.p.least∧c.m.p.part=i.m.p.part∧zD c.m.s=y3 i.m 1∧yB c.m.used=yB i.m.used∧AObj.fro 1 (iE c.m.p.months)=y3 i.m 3∧AObj.fro 1 (iE c.m.p.settle)=y3 i.m 4∧(dZ c)∧∀(d:Mkt),d.Rep c.p c.X.B c.X.U→∃(e:Mkt),sb e.p.code=sb d.p.code∧e.p.tick=d.p.tick∧e.p.low=d.p.low∧e.p.high=d.p.high∧e.p.wide=d.p.wide∧e.p.rule=d.p.rule∧e.p.top=d.p.top∧e.p.least=d.p.least∧e.p.part=d.p.part∧zD e.s=zD d.s∧yB e.used=yB d.used∧AObj.fro 1 (iE e.p.months)=AObj.fro 1 (iE d.p.months)∧AObj.fro 1 (iE e.p.settle)=AObj.fro 1 (iE d.p.settle)∧List.map x7 i.X.R=List.map x7 c.X.R∧e.Rep i.p i.X.B i.X.U) (zAk i)) (zAk i))
def zRj (a:Mkt) (b:EnI) (c:RjI):Prop:=yB a.used=yB b.m.used∧AObj.fro 1 (iE a.p.months)=AObj.fro 1 (iE b.m.p.months)∧AObj.fro 1 (iE a.p.settle)=AObj.fro 1 (iE b.m.p.settle)∧List.map x7 b.X.R=[x7 (Rep.mk 2 c.c.id 0 0 0 0 0 c.why)]∧a.Rep b.p b.X.B b.X.U
def zXk (a:CaI) (b:EnI):Prop:=∀(c:Mkt),c.Rep a.p a.X.B a.X.U→∃(d:Mkt),sb d.p.code=sb c.p.code∧d.p.tick=c.p.tick∧d.p.low=c.p.low∧d.p.high=c.p.high∧d.p.wide=c.p.wide∧d.p.rule=c.p.rule∧d.p.top=c.p.top∧d.p.least=c.p.least∧d.p.part=c.p.part∧zD d.s=zD c.s∧yB d.used=yB c.used∧AObj.fro 1 (iE d.p.months)=AObj.fro 1 (iE c.p.months)∧AObj.fro 1 (iE d.p.settle)=AObj.fro 1 (iE c.p.settle)∧List.map x7 b.X.R=List.map x7 a.X.R∧d.Rep b.p b.X.B b.X.U
def zYb (a:EnI) (b:StI):Prop:=∃(c:CaI),c.id=a.c.id∧c.inst=(yH b.B b.id).fst∧c.o.id=(yH b.B b.id).snd.fst.id∧c.o.side=(yH b.B b.id).snd.fst.side∧c.o.price=(yH b.B b.id).snd.fst.price∧c.o.qty=(yH b.B b.id).snd.fst.qty∧c.o.top=(yH b.B b.id).snd.fst.top∧sb c.m.p.code=sb a.m.p.code∧c.m.p.tick=a.m.p.tick∧c.m.p.low=a.m.p.low∧c.m.p.high=a.m.p.high∧c.m.p.wide=a.m.p.wide∧c.m.p.rule=a.m.p.rule∧c.m.p.top=a.m.p.top∧c.m.p.least=a.m.p.least∧c.m.p.part=a.m.p.part∧zD c.m.s=zD b.s∧yB c.m.used=yB a.m.used∧AObj.fro 1 (iE c.m.p.months)=AObj.fro 1 (iE a.m.p.months)∧AObj.fro 1 (iE c.m.p.settle)=AObj.fro 1 (iE a.m.p.settle)∧((c.m.Rep c.p c.B c.U∧BOk c.p c.B)∧c.X=b9 c.B c.U c.id c.inst c.o)∧zXk c a
def yAs (a:EnI):Prop:=∃(b:StI),b.id=a.c.id∧zD b.s=zD a.m.s∧(b.s.Rep b.p b.B∧b.B.length≤1000)∧∀(c:Unit),True→cnd (!(yH b.B b.id).snd.snd) (∃(d:RjI),d.c.kind=a.c.kind∧d.c.id=a.c.id∧d.c.inst=a.c.inst∧d.c.side=a.c.side∧d.c.price=a.c.price∧d.c.qty=a.c.qty∧d.c.least=a.c.least∧d.c.time=a.c.time∧sb d.c.label=sb a.c.label∧d.why=26∧True∧∀(e:Unit),True→∃(f:Mkt),sb f.p.code=sb a.m.p.code∧f.p.tick=a.m.p.tick∧f.p.low=a.m.p.low∧f.p.high=a.m.p.high∧f.p.wide=a.m.p.wide∧f.p.rule=a.m.p.rule∧f.p.top=a.m.p.top∧f.p.least=a.m.p.least∧f.p.part=a.m.p.part∧zD f.s=zD b.s∧zRj f a d) (cnd (a.c.kind==4) (∃(d:z6f),d.c.kind=a.c.kind∧d.c.id=a.c.id∧d.c.inst=a.c.inst∧d.c.side=a.c.side∧d.c.price=a.c.price∧d.c.qty=a.c.qty∧d.c.least=a.c.least∧d.c.time=a.c.time∧sb d.c.label=sb a.c.label∧d.inst=(yH b.B b.id).fst∧d.o.id=(yH b.B b.id).snd.fst.id∧d.o.side=(yH b.B b.id).snd.fst.side∧d.o.price=(yH b.B b.id).snd.fst.price∧d.o.qty=(yH b.B b.id).snd.fst.qty∧d.o.top=(yH b.B b.id).snd.fst.top∧sb d.m.p.code=sb a.m.p.code∧d.m.p.tick=a.m.p.tick∧d.m.p.low=a.m.p.low∧d.m.p.high=a.m.p.high∧d.m.p.wide=a.m.p.wide∧d.m.p.rule=a.m.p.rule∧d.m.p.top=a.m.p.top∧d.m.p.least=a.m.p.least∧d.m.p.part=a.m.p.part∧zD d.m.s=zD b.s∧yB d.m.used=yB a.m.used∧AObj.fro 1 (iE d.m.p.months)=AObj.fro 1 (iE a.m.p.months)∧AObj.fro 1 (iE d.m.p.settle)=AObj.fro 1 (iE a.m.p.settle)∧(d.m.Rep d.p d.B d.U∧BOk d.p d.B∧yH d.B d.c.id=(d.inst,d.o,true)∧(1≤d.c.qty∧d.c.qty≤1000000)∧d.X=c8 d.p d.B d.U d.c d.inst d.o)∧∀(e:Mkt),e.Rep d.p d.X.B d.X.U→∃(f:Mkt),sb f.p.code=sb e.p.code∧f.p.tick=e.p.tick∧f.p.low=e.p.low∧f.p.high=e.p.high∧f.p.wide=e.p.wide∧f.p.rule=e.p.rule∧f.p.top=e.p.top∧f.p.least=e.p.least∧f.p.part=e.p.part∧zD f.s=zD e.s∧yB f.used=yB e.used∧AObj.fro 1 (iE f.p.months)=AObj.fro 1 (iE e.p.months)∧AObj.fro 1 (iE f.p.settle)=AObj.fro 1 (iE e.p.settle)∧List.map x7 a.X.R=List.map x7 d.X.R∧f.Rep a.p a.X.B a.X.U) (cnd (a.c.kind==2) (zYb a b) (cnd (decide (a.c.qty≥(yH b.B b.id).snd.fst.qty)) (zYb a b) (∃(d:CaI),d.id=a.c.id∧d.q=a.c.qty∧d.inst=(yH b.B b.id).fst∧d.o.id=(yH b.B b.id).snd.fst.id∧d.o.side=(yH b.B b.id).snd.fst.side∧d.o.price=(yH b.B b.id).snd.fst.price∧d.o.qty=(yH b.B b.id).snd.fst.qty∧d.o.top=(yH b.B b.id).snd.fst.top∧sb d.m.p.code=sb a.m.p.code∧d.m.p.tick=a.m.p.tick∧d.m.p.low=a.m.p.low∧d.m.p.high=a.m.p.high∧d.m.p.wide=a.m.p.wide∧d.m.p.rule=a.m.p.rule∧d.m.p.top=a.m.p.top∧d.m.p.least=a.m.p.least∧d.m.p.part=a.m.p.part∧zD d.m.s=zD b.s∧yB d.m.used=yB a.m.used∧AObj.fro 1 (iE d.m.p.months)=AObj.fro 1 (iE a.m.p.months)∧AObj.fro 1 (iE d.m.p.settle)=AObj.fro 1 (iE a.m.p.settle)∧(dZ d)∧zXk d a))))
def Vdo (i:EnI):Prop:=
 ∃(a:Cmd),a.kind=i.c.kind∧a.id=i.c.id∧a.inst=i.c.inst∧a.side=i.c.side∧a.price=i.c.price∧a.qty=i.c.qty∧a.least=i.c.least∧a.time=i.c.time∧sb a.label=sb i.c.label∧a.label.length≤140737488355328∧∀(b:Unit),True→cnd (a.right !=0) (∃(c:RjI),c.c.kind=i.c.kind∧c.c.id=i.c.id∧c.c.inst=i.c.inst∧c.c.side=i.c.side∧c.c.price=i.c.price∧c.c.qty=i.c.qty∧c.c.least=i.c.least∧c.c.time=i.c.time∧sb c.c.label=sb i.c.label∧c.why=a.right∧True∧∀(d:Unit),True→∃(e:Mkt),sb e.p.code=sb i.m.p.code∧e.p.tick=i.m.p.tick∧e.p.low=i.m.p.low∧e.p.high=i.m.p.high∧e.p.wide=i.m.p.wide∧e.p.rule=i.m.p.rule∧e.p.top=i.m.p.top∧e.p.least=i.m.p.least∧e.p.part=i.m.p.part∧zD e.s=zD i.m.s∧zRj e i c) (cnd (i.c.kind==1) (∃(c:EnI),c.c.kind=i.c.kind∧c.c.id=i.c.id∧c.c.inst=i.c.inst∧c.c.side=i.c.side∧c.c.price=i.c.price∧c.c.qty=i.c.qty∧c.c.least=i.c.least∧c.c.time=i.c.time∧sb c.c.label=sb i.c.label∧sb c.m.p.code=sb i.m.p.code∧c.m.p.tick=i.m.p.tick∧c.m.p.low=i.m.p.low∧c.m.p.high=i.m.p.high∧c.m.p.wide=i.m.p.wide∧c.m.p.rule=i.m.p.rule∧c.m.p.top=i.m.p.top∧c.m.p.least=i.m.p.least∧c.m.p.part=i.m.p.part∧zD c.m.s=zD i.m.s∧yB c.m.used=yB i.m.used∧AObj.fro 1 (iE c.m.p.months)=AObj.fro 1 (iE i.m.p.months)∧AObj.fro 1 (iE c.m.p.settle)=AObj.fro 1 (iE i.m.p.settle)∧((c.m.Rep c.p c.B c.U∧BOk c.p c.B)∧c.c.right=0∧c.c.kind=1∧c.X=rE c.p c.B c.U c.c)∧tH c i) ((yAs i)∧i.c.id=i.c.id∧True∧yAs i))
open Go Cv Go.Proofs
theorem zFe (p:Prd) (B:List (List zH)) (U:List Int) (c:Cmd):aJ p B U c=⟨if(j9 p B c.inst (decide (c.side=2)) c.price c.qty).left≠0∧c.time=1 then(z0h p (j9 p B c.inst (decide (c.side=2)) c.price c.qty).B c.inst c.id c.side c.price (j9 p B c.inst (decide (c.side=2)) c.price c.qty).left).1 else(j9 p B c.inst (decide (c.side=2)) c.price c.qty).B,zMk U c.id,
 (⟨1,c.id,c.inst,c.side,c.price,c.qty,c.qty,0⟩::pD p c (j9 p B c.inst (decide (c.side=2)) c.price c.qty).steps c.qty)++if(j9 p B c.inst (decide (c.side=2)) c.price c.qty).left≠0∧c.time≠1 then[⟨4,c.id,c.inst,c.side,c.price,(j9 p B c.inst (decide (c.side=2)) c.price c.qty).left,0,0⟩]else[]⟩:=by
 rw[aJ]
theorem zOk {p:Prd} {B:List (List zH)} (h:BWf p B) (U:List Int) (c:Cmd):BOk p (aJ p B U c).B:=by
 have:=(mQ (inst:=c.inst) (sd:=decide (c.side=2)) (price:=c.price) _ c.qty B (yXl _) h).1.ok
 rw[zFe]
 dsimp only
 split
 ·exact this.add _ _ _ _ _
 ·exact this
theorem z4z {p:Prd} {B:List (List zH)} (h:BWf p B) (U:List Int) (c:Cmd):BOk p (rE p B U c).B:=by
 rw[rE]
 split
 ·exact h.ok
 split
 ·exact h.ok
 split
 ·exact h.ok
 split
 ·exact h.ok
 split
 ·exact h.ok
 exact zOk h U c
theorem yOf {p:Prd} {B:List (List zH)} (h:BWf p B) (U:List Int) (c:Cmd):BOk p (doF p B U c).B:=by
 rw[doF]
 split
 ·exact h.ok
 split
 ·exact z4z h U c
 split
 ·exact h.ok
 split
 ·rw[c8]
  split
  ·exact h.ok
  split
  ·exact h.ok.take _ _
  split
  ·exact h.ok
  exact zOk (h.take _ _) U _
 split
 ·exact h.ok.take _ _
 ·exact h.ok.take _ _
open Go Cv Go.Proofs
def Two (L:List zH):Prop:=L=sM L 1++sM L 2
open Go Cv Go.Proofs
open Go Cv Go.Proofs
open Go Cv Go.Proofs
theorem sU {inst s:Int} {f:dK}:∀{os:List zH} {sh:List Int},f∈xS inst s os sh→f.side=s∧f.inst=inst∧∃o∈os,f.price=o.price
 |[],sh,h=>by cases h
 |o::os,[],h=>by cases h
 |o::os,k::sh,h=>by
  rw[xS]at h
  split at h
  ·rcases yXe.1 h with rfl|h
   ·exact⟨rfl,rfl,o,yWp,rfl⟩
   ·obtain⟨a,b,o',c,d⟩:=sU h
    exact⟨a,b,o',yWq _ c,d⟩
  ·obtain⟨a,b,o',c,d⟩:=sU h
   exact⟨a,b,o',yWq _ c,d⟩
def FOk (f:dK):Prop:=(f.side=1∨f.side=2)∧-2000000≤f.price∧f.price≤2000000
theorem zDi {p:Prd} {B:List (List zH)} (h:BOk p B) (inst:Int) {s:Int} (hs:s=1∨s=2) (q:Int):∀f∈qK p B inst s q,FOk f:=by
 intro f hf
 obtain⟨a,_,o,ho,e⟩:=sU hf
 refine⟨by rw[a];exact hs,?_⟩
 rw[e]
 have ho:=(yYn.1 ho).1
 by_cases hk:inst.toNat<B.length
 ·obtain⟨L,hL⟩:=yD hk
  rw[zR hL]at ho
  exact h.prices hL o ho
 ·rw[yWs,yXm (by omega)]at ho;cases ho
def SOk (t:wB):Prop:=(-2000000≤t.price∧t.price≤2000000)∧(∀f∈t.fills,FOk f)∧t.fills.length≤500
theorem yHy {p:Prd} {B:List (List zH)} (h:BWf p B) {inst:Int} (hi:0≤inst∧inst<B.length) {s:Int} (hs:s=1∨s=2) (hn:(yR p B inst s).2.2=true): -2000000≤(yR p B inst s).1.price∧(yR p B inst s).1.price≤2000000:=by
 rw[yR]at hn ⊢
 obtain⟨L,hL⟩:=yD (l:=B) (i:=inst.toNat) (by omega)
 rw[zR hL]at hn ⊢
 split
 ·exact zQb (h.ok.prices hL)
 ·rename_i c
  rw[yWj c]at hn
  have hm:=zEd hn
  have:=(yYn.1 hm).2
  exact rR h.ok.pc (yYx this)
theorem yGl {p:Prd} {B:List (List zH)} (h:BWf p B) {inst:Int} (hi:0≤inst∧inst<B.length) {sd:Bool} {price q:Int} {t:wB} {B':List (List zH)} (e:bI p B inst sd price q=some (t,B')):SOk t:=by
 have hs:zC (!sd)=1∨zC (!sd)=2:=zCr _
 have hb:=yHy h hi hs
 have hin:=z3m h.ok h.od hi hs
 rw[bI]at e
 dsimp only at e
 split at e
 ·rename_i c
  have c1:(yR p B inst (zC (!sd))).2.2=true:=by
   cases hx:(yR p B inst (zC (!sd))).2.2 with
   |false=>rw[hx]at c;cases c
   |true=>rfl
  have hb:=hb c1
  obtain⟨_,hin,_⟩:=hin c1
  split at e
  ·rename_i c2
   obtain⟨_,ok⟩:=hin c2
   cases e
   refine⟨hb,fun f hf=> ?_,?_⟩
   ·rcases yXo.1 hf with hf|hf
    ·exact zDi h.ok _ ok.sa _ f hf
    ·exact zDi h.ok.takes _ ok.sb _ f hf
   ·dsimp only
    rw[yWi]
    have:=mL (p:=p) h.od (yR p B inst (zC (!sd))).1.a.inst (yR p B inst (zC (!sd))).1.a.side (min q (yR p B inst (zC (!sd))).1.qty)
    have:=mL (p:=p) (h.takes (fs:=qK p B (yR p B inst (zC (!sd))).1.a.inst (yR p B inst (zC (!sd))).1.a.side (min q (yR p B inst (zC (!sd))).1.qty))).od (yR p B inst (zC (!sd))).1.b.inst (yR p B inst (zC (!sd))).1.b.side (min q (yR p B inst (zC (!sd))).1.qty)
    omega
  ·cases e
   refine⟨hb,fun f hf=>zDi h.ok _ hs _ f hf,?_⟩
   have:=mL (p:=p) h.od inst (zC (!sd)) (min q (yR p B inst (zC (!sd))).1.qty)
   dsimp only
   omega
 ·cases e
open Go Cv Go.Proofs
open Go Cv Go.Proofs
def lP (a:StI):Prop:=yW a.s.wh=yW a.s.wh∧AObj.fro 1 (iE a.s.p.months)=AObj.fro 1 (iE a.s.p.months)∧AObj.fro 1 (iE a.s.p.settle)=AObj.fro 1 (iE a.s.p.settle)∧True
def yAk (i:StI):Prop:=
 (bP i)∧∃(a:Bool),∃(b:Int),(pH i b a)∧cnd (!a) (∃(c:Unit),(yH i.B i.id).fst=0∧(yH i.B i.id).snd.fst.id=0∧(yH i.B i.id).snd.fst.side=0∧(yH i.B i.id).snd.fst.price=0∧(yH i.B i.id).snd.fst.qty=0∧(yH i.B i.id).snd.fst.top=false∧(yH i.B i.id).snd.snd=false∧sb i.s.p.code=sb i.s.p.code∧i.s.p.tick=i.s.p.tick∧i.s.p.low=i.s.p.low∧i.s.p.high=i.s.p.high∧i.s.p.wide=i.s.p.wide∧i.s.p.rule=i.s.p.rule∧i.s.p.top=i.s.p.top∧i.s.p.least=i.s.p.least∧i.s.p.part=i.s.p.part∧AObj.objs 241 Book 6 zQ i.s.books none=AObj.objs 241 Book 6 zQ i.s.books none∧lP i) ((0≤b∧b<(↑i.s.books.length:Int))∧b.toNat<i.s.books.length∧∃(c:Book),i.s.books[b.toNat]?=some c∧∃(d:FlI),d.id=i.id∧z5 d.b=z5 c∧d.b.Rep d.L∧∀(e:Unit),True→∃(f:Book),z5 d.b=z5 f∧b.toNat=b.toNat∧b.toNat<i.s.books.length∧∃(g:Unit),(yH i.B i.id).fst=b∧(yH i.B i.id).snd.fst.id=(fV d.L d.id).id∧(yH i.B i.id).snd.fst.side=(fV d.L d.id).side∧(yH i.B i.id).snd.fst.price=(fV d.L d.id).price∧(yH i.B i.id).snd.fst.qty=(fV d.L d.id).qty∧(yH i.B i.id).snd.fst.top=(fV d.L d.id).top∧(yH i.B i.id).snd.snd=true∧sb i.s.p.code=sb i.s.p.code∧i.s.p.tick=i.s.p.tick∧i.s.p.low=i.s.p.low∧i.s.p.high=i.s.p.high∧i.s.p.wide=i.s.p.wide∧i.s.p.rule=i.s.p.rule∧i.s.p.top=i.s.p.top∧i.s.p.least=i.s.p.least∧i.s.p.part=i.s.p.part∧AObj.objs 241 Book 6 zQ i.s.books none=AObj.objs 241 Book 6 zQ (i.s.books.set b.toNat f) none∧lP i)
open Go Cv Go.Proofs
theorem yOp (i:StI) (h:sfindC.cnd i):yAk i:=by
 obtain⟨hR,hB⟩:i.s.Rep i.p i.B∧i.B.length≤1000:=h
 have hat:=hR.at_ i.id
 unfold yAk bP pH lP dI
 rw[yH]
 cases hi:bS i.B i.id with
 |none=>
  rw[hi]at hat
  exact⟨fW _ _,false,0,.inr ⟨by rw[mM,hat];rfl,rfl,rfl⟩,Cv.cnd.mk (fun _=>⟨(),k0q⟩) (fun e=>absurd e (by decide))⟩
 |some k=>
  rw[hi]at hat
  obtain⟨L,hL,hh⟩:=uW hi
  have hk:=(yWn.1 hL).1
  obtain⟨b,hb⟩:=yD (l:=i.s.books) (i:=k) (by rw[hR.bl];exact hk)
  have hbR:=hR.bk k b L hb hL
  have hbl:=hR.bl
  refine⟨fW _ _,true,k,.inl ⟨by rw[mM,hat];rfl,rfl⟩,Cv.cnd.mk (fun e=>absurd e (by decide)) (fun _=> ?_)⟩
  dsimp only
  rw[yXa,zR hL]
  have hs:=vU hb
  refine⟨⟨by omega,by omega⟩,by omega,b,hb,⟨b,L,i.id,0⟩,rfl,rfl,hbR,fun _ _=>⟨b,rfl,rfl,by omega,(),?_⟩⟩
  rw[hs]
  (repeat'(first|exact trivial|exact rfl|apply And.intro))
theorem yAj:sfindC.ok Tryz.prog 114:=okw mixed (gokc zVl gok0) 0 (fun _=>[]) (fun _=>[]) [0] Tryz.func114 yOp
open Go Cv Go.Proofs
theorem zNj (id:Int) (U:List Int):∀p∈yB U,like (Value.int IntKind.i64 id) p.1=true:=by
 intro p hp
 obtain⟨k,_,rfl⟩:=yYa.1 hp
 rfl
theorem zNd (id:Int):∀U:List Int,gP (Value.int IntKind.i64 id) [D.v (.bool true)] (yB U)=yB (zMk U id)
 |[]=>rfl
 |k::U=>by
  have ih:=zNd id U
  have e:rD (Value.int IntKind.i64 id) (Value.int IntKind.i64 k)=decide (id=k):=by simp[rD,keq]
  show(bif rD (Value.int IntKind.i64 id) (Value.int IntKind.i64 k)then(Value.int IntKind.i64 k,[D.v (.bool true)])::yB U else(Value.int IntKind.i64 k,[D.v (.bool true)])::gP (Value.int IntKind.i64 id) [D.v (.bool true)] (yB U))=_
  rw[e,ih]
  by_cases c:id=k
  ·rw[yXc c,cond_true,zMk,yWl (by rw[c];exact yWp)];rfl
  ·rw[yWx c,cond_false,zMk,zMk]
   have hm:id∈k::U↔id∈U:=by simp[c]
   by_cases d:id∈U
   ·rw[yWl d,yWl (hm.2 d)];rfl
   ·rw[yWj d,yWj (fun x=>d (hm.1 x))];rfl
theorem zOs (id:Int):∀U:List Int,vT (Value.int IntKind.i64 id) (yB U)=if id∈U then some [D.v (.bool true)]else none
 |[]=>rfl
 |k::U=>by
  have ih:=zOs id U
  have e:rD (Value.int IntKind.i64 id) (Value.int IntKind.i64 k)=decide (id=k):=by simp[rD,keq]
  show(bif rD (Value.int IntKind.i64 id) (Value.int IntKind.i64 k)then some [D.v (.bool true)]else vT (Value.int IntKind.i64 id) (yB U))=_
  rw[e,ih]
  by_cases c:id=k
  ·rw[yXc c,cond_true,yWl (by rw[c];exact yWp)]
  ·rw[yWx c,cond_false]
   have hm:id∈k::U↔id∈U:=by simp[c]
   by_cases d:id∈U
   ·rw[yWl d,yWl (hm.2 d)]
   ·rw[yWj d,yWj (fun x=>d (hm.1 x))]
theorem yAw (id:Int) (U:List Int):vT (Value.int IntKind.i64 id) (yB U)=some [D.v (.bool (decide (id∈U)))]∧decide (id∈U)=true∨vT (Value.int IntKind.i64 id) (yB U)=none∧[D.v (.bool (decide (id∈U)))]=[D.v (.bool false)]∧decide (id∈U)=false:=by
 rw[zOs]
 by_cases c:id∈U
 ·rw[yWl c,yXc c];exact .inl ⟨rfl,rfl⟩
 ·rw[yWj c,yWx c];exact .inr ⟨rfl,rfl,rfl⟩
theorem zQt {p:Prd} {inst:Int} {sd:Bool} {price:Int}:∀(m:Nat) (q:Int) (B:List (List zH)),q.toNat≤m→BWf p B→0≤inst∧inst<B.length→
 (∀t∈(j9 p B inst sd price q).steps,SOk t∧1≤t.qty)∧((j9 p B inst sd price q).steps.map (·.qty)).sum=q-(j9 p B inst sd price q).left
 |m,q,B,hm,h,hi=>by
  by_cases hq:q≤0
  ·rw[sS (.inl hq)];exact⟨fun t ht=>(by cases ht),by simp⟩
  cases hs:bI p B inst sd price q with
  |none=>rw[sS (.inr hs)];exact⟨fun t ht=>(by cases ht),by simp⟩
  |some x=>
   obtain⟨t,C⟩:=x
   obtain⟨k1,k2⟩:=zNo h hs
   have hq2:=zMi (by omega) hs
   cases m with
   |zero=>omega
   |succ m=>
   obtain⟨i1,i2⟩:=zQt (p:=p) (inst:=inst) (sd:=sd) (price:=price) m (q-t.qty) C (by omega) k1 (by rw[k2];exact hi)
   rw[zJe (by omega) hs]
   refine⟨fun u hu=> ?_,?_⟩
   ·rcases yXe.1 hu with rfl|hu
    ·exact⟨yGl h hi hs,hq2.1⟩
    ·exact i1 u hu
   ·dsimp only
    rw[yWz,yXx,i2];omega
theorem yJb {α:Type} {f:α→List Rep} (hf:∀x,(f x).length≤3):∀l:List α,(l.flatMap f).length≤3*l.length
 |[]=>yXl _
 |x::l=>by
  have:=yJb hf l
  have:=hf x
  rw[yXv,yWi,yWr];omega
theorem zNf (p:Prd) (c:Cmd) (x:wB) (left:Int):(mO p c x left).length≤3*x.fills.length+3:=by
 rw[mO,yWi]
 have:=yJb (fun f=>zKu p x (zBx f)) x.fills
 have:=zKu p x ⟨3,c.id,c.inst,c.side,x.price,x.qty,left,0⟩
 omega
theorem zSi {l:List wB} (h:∀t∈l,SOk t∧1≤t.qty):(l.length:Int)≤(l.map (·.qty)).sum:=by
 induction l with
 |nil=>exact y1f _
 |cons t l ih=>
  have:=ih fun u hu=>h u (yWq _ hu)
  have:=(h t yWp).2
  rw[yWz,yXx,yWr];omega
theorem yPz (i:EnI) (h:enterC.cnd i):z8v i:=by
 obtain⟨m,p,B,U,c,X⟩:=i
 have h':(m.Rep p B U∧BOk p B)∧((0≤c.inst∧c.inst<B.length)∧(1≤c.qty∧c.qty≤1000000)∧(c.side=1∨c.side=2))∧p.price c.inst c.price=0∧X=aJ p B U c:=h
 clear h
 obtain⟨⟨⟨ep,hR,eu⟩,hB⟩,⟨⟨h0,h1⟩,hq,hs⟩,hpz,hX⟩:=h'
 subst ep eu hX
 have hwf:=hR.wf hB
 obtain⟨k1,k2,k3⟩:=mQ (inst:=c.inst) (sd:=decide (c.side=2)) (price:=c.price) _ c.qty B (yXl _) hwf
 have k3:=k3 (by omega)
 obtain⟨s1,s2⟩:=zQt (inst:=c.inst) (sd:=decide (c.side=2)) (price:=c.price) _ c.qty B (yXl _) hwf ⟨h0,h1⟩
 have hX:=zFe m.p B m.used c
 have hbd:=rR hB.pc hpz
 unfold z8v qI vL lW dI
 dsimp only
 rw[zNd,hX]
 refine⟨zNj _ _,⟨m.s,m.p,B,c.inst,decide (c.side=2),c.price,c.qty⟩,rfl,gH hs,rfl,rfl,rfl,⟨hR,hB,⟨h0,h1⟩,hq.1,hq.2⟩,fun o ho=> ?_⟩
 have er:RunI.r ⟨m.s,m.p,B,c.inst,decide (c.side=2),c.price,c.qty⟩=j9 m.p B c.inst (decide (c.side=2)) c.price c.qty:=rfl
 rw[er]at ho ⊢
 clear hX er
 generalize j9 m.p B c.inst (decide (c.side=2)) c.price c.qty=R at*
 obtain⟨ts,lf,RB⟩:=R
 dsimp only at*
 have hlen:=zSi s1
 have e4:(ts.map j8).length=ts.length:=yWk ..
 refine⟨⟨c.qty,0,[⟨1,c.id,c.inst,c.side,c.price,c.qty,c.qty,0⟩]⟩,rfl,rfl,rfl,fun j=>j.k≤ts.length∧j.left=lf+((ts.drop j.k).map (·.qty)).sum∧(⟨1,c.id,c.inst,c.side,c.price,c.qty,c.qty,0⟩::pD m.p c ts c.qty)=j.out++pD m.p c (ts.drop j.k) j.left∧j.out.length≤1+1503*j.k,fun j=>ts.length-j.k,⟨yYh _,by dsimp only;rw[yZu,s2];omega,rfl,yXl _⟩,?_⟩
 rintro⟨left,k,out⟩ ⟨j1,j2,j3,j4⟩
 dsimp only at j1 j2 j3 j4 ⊢
 have e5:(out.map x7).length=out.length:=yWk ..
 refine zI (fun c1=> ?_) (fun c1=> ?_)
 ·obtain⟨t,ht⟩:=yD (l:=ts) (i:=k) (by omega)
  have hd:ts.drop k=t::ts.drop (k+1):=by rw[yYo (by omega),(yWn.1 ht).2]
  obtain⟨⟨t1,t2,t3⟩,t4⟩:=s1 t (yWt ht)
  have hsd:=zSi (l:=ts.drop (k+1)) fun u hu=>s1 u (y0e hu)
  have hsk:((ts.drop k).map (·.qty)).sum≤(ts.map (·.qty)).sum:=by
   have:=zSi (l:=ts.take k) fun u hu=>s1 u (y1h hu)
   have e:(ts.map (·.qty)).sum=((ts.take k).map (·.qty)).sum+((ts.drop k).map (·.qty)).sum:=by
    rw[← List.sum_append,← yWv,yYw]
   omega
  rw[hd,yWz,yXx]at j2 hsk
  rw[hd,pD]at j3
  have hrl:=zNf m.p c t (left-t.qty)
  have e6:((mO m.p c t (left-t.qty)).map x7).length=(mO m.p c t (left-t.qty)).length:=yWk ..
  have hw:IntKind.i64.wrap (left-t.qty)=left-t.qty:=w64 (by omega)
  refine⟨⟨by omega,by omega⟩,t.price,t.qty,t.implied,t.fills.map yT,elA ht (by simp[j8]) rfl,?_⟩
  rw[hw]
  refine⟨⟨⟨m.p,o,zMk m.used c.id⟩,c,t,left-t.qty⟩,rfl,rfl,rfl,rfl,rfl,rfl,rfl,rfl,rfl,rfl,rfl,rfl,rfl,rfl,rfl,rfl,rfl,rfl,rfl,rfl,rfl,rfl,rfl,rfl,rfl,rfl,rfl,⟨⟨hB.pc,hB.ps⟩,⟨by dsimp only;omega,by dsimp only;omega⟩,by dsimp only;omega,hs,fun f hf=>(t2 f hf).1⟩,fun _ _=>⟨by dsimp only;rw[e5,e6];omega,⟨left-t.qty,k+1,out++mO m.p c t (left-t.qty)⟩,rfl,wjn (by omega),by dsimp only;rw[yWv],⟨by dsimp only;omega,by dsimp only;omega,by dsimp only;rw[j3,yWo],by dsimp only;rw[yWi];omega⟩,by dsimp only;omega,k0q⟩⟩
 have hk:k=ts.length:=by omega
 subst hk
 rw[List.drop_of_length_le (yXl _)]at j2 j3
 rw[pD,yXi]at j3
 rw[← j3]
 rw[← j3]at e5 j4
 have hRB:=k1.ok
 refine Cv.cnd.mk (fun e=> ?_) (fun e=>Cv.cnd.mk (fun e2=> ?_) (fun e2=> ?_))
 ·have e:lf=0:=by simpa using e
  rw[yWj (by omega),yWj (by omega),yXi]
  exact⟨⟨m.p,o,zMk m.used c.id⟩,rfl,rfl,rfl,rfl,rfl,rfl,rfl,rfl,rfl,rfl,rfl,rfl,rfl,rfl,rfl,ho,rfl⟩
 ·have e:¬lf=0:=by simpa using e
  have e2:c.time=1:=by simpa using e2
  rw[yWj (show ¬(lf≠0∧c.time≠1)by omega),yWl (show lf≠0∧c.time=1 from⟨e,e2⟩),yXi]
  have ha:=(ho.add c.inst c.id (decide (c.side=2)) c.price lf).1
  rw[gH hs]at ha
  exact⟨⟨o,c.inst,c.id,decide (c.side=2),c.price,lf⟩,rfl,rfl,gH hs,rfl,rfl,rfl,ho.fit hRB,fun _ _=>⟨⟨m.p,(MSt.addF ⟨o,c.inst,c.id,decide (c.side=2),c.price,lf⟩).1,zMk m.used c.id⟩,rfl,rfl,rfl,rfl,rfl,rfl,rfl,rfl,rfl,rfl,rfl,rfl,rfl,rfl,rfl,ha,rfl⟩⟩
 ·have e:¬lf=0:=by simpa using e
  have e2:¬c.time=1:=by simpa using e2
  rw[yWl (show lf≠0∧c.time≠1 from⟨e,e2⟩),yWj (show ¬(lf≠0∧c.time=1)by omega)]
  exact⟨by rw[e5];omega,⟨m.p,o,zMk m.used c.id⟩,rfl,rfl,rfl,rfl,rfl,rfl,rfl,rfl,rfl,rfl,rfl,rfl,rfl,by rw[yWv];rfl,rfl,ho,rfl⟩
theorem zXa:enterC.ok Tryz.prog 169:=okw mixed (gokc zZc (gokc z8i (gokc yEu gok0))) 0 (fun _=>[]) (fun i=>yPq i) [] Tryz.func169 yPz
theorem zNk:cancelC.ok Tryz.prog 116:=okw (V:=yGa) mixed (gokc zDf gok0) 0 (fun _=>[]) (fun _=>[]) [] Tryz.func116 fun(i:CaI) h=>by
 obtain⟨m,p,B,U,id,q,inst,o,X⟩:=i
 have h':(m.Rep p B U∧BOk p B)∧X=b9 B U id inst o:=h
 clear h
 obtain⟨⟨⟨ep,hR,eu⟩,hB⟩,hX⟩:=h'
 subst ep eu hX
 have:=x5 m.p
 have:=hB.bl
 exact⟨⟨m.s,m.p,B,id,o.qty⟩,rfl,rfl,rfl,⟨hR,by dsimp only;omega⟩,fun o' ho=>⟨⟨m.p,o',m.used⟩,rfl,rfl,rfl,rfl,rfl,rfl,rfl,rfl,rfl,rfl,rfl,rfl,rfl,rfl,rfl,ho,rfl⟩⟩
theorem zPg:reduceC.ok Tryz.prog 117:=okw (V:=z2a) mixed (gokc zDf gok0) 0 (fun _=>[]) (fun _=>[]) [] Tryz.func117 fun(i:CaI) h=>by
 obtain⟨m,p,B,U,id,q,inst,o,X⟩:=i
 have h':(m.Rep p B U∧BOk p B)∧yU (o.qty-q)∧X=zCg B U id q inst o:=h
 clear h
 obtain⟨⟨⟨ep,hR,eu⟩,hB⟩,hw,hX⟩:=h'
 subst ep eu hX
 have:=x5 m.p
 have:=hB.bl
 have hw:=w64 hw
 unfold z2a dI
 dsimp only
 rw[hw]
 exact⟨⟨m.s,m.p,B,id,q⟩,rfl,rfl,rfl,⟨hR,by dsimp only;omega⟩,fun o' ho=>⟨⟨m.p,o',m.used⟩,rfl,rfl,rfl,rfl,rfl,rfl,rfl,rfl,rfl,rfl,rfl,rfl,rfl,rfl,rfl,ho,rfl⟩⟩
theorem zPk {c:Cmd} (h:c.right=0):(if c.kind=1 then c.orderE else if c.kind≠2∧wZ c.qty=false then 24 else if c.kind=4∧fU c.price=false then 23 else 0)=0:=by
 rw[Cmd.right]at h
 by_cases c1:c.kind<1∨4<c.kind
 ·rw[yWl c1]at h;cases h
 rw[yWj c1]at h
 by_cases c2:c.id<1∨1099511627776<c.id
 ·rw[yWl c2]at h;cases h
 rw[yWj c2]at h
 exact h
theorem z5m {c:Cmd} (h:c.right=0) (hk:c.kind=1):(c.side=1∨c.side=2)∧(1≤c.qty∧c.qty≤1000000)∧(0≤c.least∧c.least≤c.qty):=by
 have h:=zPk h
 rw[yWl hk,Cmd.orderE]at h
 by_cases c1:c.side≠1∧c.side≠2
 ·rw[yWl c1]at h;cases h
 rw[yWj c1]at h
 by_cases c2:c.time<1∨3<c.time
 ·rw[yWl c2]at h;cases h
 rw[yWj c2]at h
 cases c3:wZ c.qty with
 |false=>rw[yWl c3]at h;cases h
 |true=>
  rw[yWj (by rw[c3];decide)]at h
  by_cases c4:c.least<0∨c.qty<c.least
  ·rw[yWl c4]at h;cases h
  simp only[wZ,yWw,yYe]at c3
  exact⟨by omega,c3,by omega⟩
theorem zPo {c:Cmd} (h:c.right=0) (hk:¬c.kind=1) (hk2:¬c.kind=2):1≤c.qty∧c.qty≤1000000:=by
 have h:=zPk h
 rw[yWj hk]at h
 cases c3:wZ c.qty with
 |false=>rw[yWl ⟨hk2,c3⟩]at h;cases h
 |true=>
  simp only[wZ,yWw,yYe]at c3
  exact c3
theorem yMe (i:EnI) (h:orderC.cnd i):yBt i:=by
 obtain⟨m,p,B,U,c,X⟩:=i
 have h':(m.Rep p B U∧BOk p B)∧c.right=0∧c.kind=1∧X=rE p B U c:=h
 clear h
 obtain⟨⟨hM,hB⟩,hr,hkd,hX⟩:=h'
 obtain⟨ep,hR,eu⟩:=hM
 subst ep eu
 have hM:m.Rep m.p B m.used:=⟨rfl,hR,rfl⟩
 obtain⟨hs,hq,hl⟩:=z5m hr hkd
 have hbl:=hB.bl
 have hcl:=x5 m.p
 unfold yBt qI tH eQ zEa lV zEn zEz zDo zEk vL nU xZ dI
 dsimp only
 refine⟨⟨m.p,c.inst,c.price⟩,rfl,rfl,rfl,rfl,rfl,rfl,rfl,rfl,rfl,rfl,rfl,rfl,rfl,hB.ps,fun _ _=>Cv.cnd.mk (fun e=> ?_) (fun e=> ?_)⟩
 ·have e:m.p.price c.inst c.price≠0:=by simpa using e
  have hx:X=⟨B,m.used,pB c (m.p.price c.inst c.price)⟩:=by rw[hX,rE,yWl e]
  exact⟨⟨c,m.p.price c.inst c.price⟩,rfl,rfl,rfl,rfl,rfl,rfl,rfl,rfl,rfl,rfl,trivial,fun _ _=>⟨m,rfl,rfl,rfl,rfl,rfl,rfl,rfl,rfl,rfl,rfl,rfl,rfl,rfl,by rw[hx];rfl,by rw[hx];exact hM⟩⟩
 have hpz:m.p.price c.inst c.price=0:=by simpa using e
 have hin:=zTd hpz
 have hib:0≤c.inst∧c.inst<B.length:=by omega
 rw[rE,yWj (by rw[hpz];decide)]at hX
 refine⟨0,fun l=>l=c.lst,Cv.cnd.mk (fun e=>⟨c.qty,rfl,by rw[Cmd.lst,yWl (by simpa using e)],k0q⟩) (fun e=>⟨c.least,rfl,by rw[Cmd.lst,yWj (by simpa using e)],k0q⟩),?_⟩
 rintro _ rfl
 refine⟨zNj _ _,_,_,yAw _ _,zI (fun e=> ?_) (fun e=> ?_)⟩
 ·have hx:X=⟨B,m.used,pB c 25⟩:=by rw[hX,yWl e]
  exact⟨⟨c,25⟩,rfl,rfl,rfl,rfl,rfl,rfl,rfl,rfl,rfl,rfl,trivial,fun _ _=>⟨m,rfl,rfl,rfl,rfl,rfl,rfl,rfl,rfl,rfl,rfl,rfl,rfl,rfl,by rw[hx];rfl,by rw[hx];exact hM⟩⟩
 rw[yWj e]at hX
 refine⟨⟨m.s,m.p,B,0,false⟩,rfl,⟨hR,by dsimp only;omega⟩,fun _ _=>zI (fun e=> ?_) (fun e=> ?_)⟩
 ·have hx:X=⟨B,m.used,pB c 13⟩:=by rw[hX,yWl (by dsimp only at e;omega)]
  exact⟨⟨c,13⟩,rfl,rfl,rfl,rfl,rfl,rfl,rfl,rfl,rfl,rfl,trivial,fun _ _=>⟨m,rfl,rfl,rfl,rfl,rfl,rfl,rfl,rfl,rfl,rfl,rfl,rfl,rfl,by rw[hx];rfl,by rw[hx];exact hM⟩⟩
 rw[yWj (by dsimp only at e;omega)]at hX
 have hok:RunI.ok ⟨m.s,m.p,B,c.inst,decide (c.side=2),c.price,c.qty⟩:=⟨hR,hB,hib,hq.1,hq.2⟩
 refine⟨true,fun b=>b=decide (0<c.lst∧c.qty-(j9 m.p B c.inst (decide (c.side=2)) c.price c.qty).left<c.lst),zI (fun e=>⟨⟨m.s,m.p,B,c.inst,decide (c.side=2),c.price,c.qty⟩,rfl,gH hs,rfl,rfl,rfl,hok,fun _ _=>⟨_,rfl,decide_eq_decide.2 ⟨fun x=>⟨e,x⟩,fun x=>x.2⟩,k0q⟩⟩) (fun e=>⟨false,rfl,(yWx fun x=>e x.1).symm,k0q⟩),?_⟩
 rintro _ rfl
 refine zI (fun e=> ?_) (fun e=> ?_)
 ·have hx:X=⟨B,m.used,pB c 28⟩:=by rw[hX,yWl e]
  exact⟨⟨c,28⟩,rfl,rfl,rfl,rfl,rfl,rfl,rfl,rfl,rfl,rfl,trivial,fun _ _=>⟨m,rfl,rfl,rfl,rfl,rfl,rfl,rfl,rfl,rfl,rfl,rfl,rfl,rfl,by rw[hx];rfl,by rw[hx];exact hM⟩⟩
 rw[yWj e]at hX
 refine⟨true,fun b=>b=decide (c.time=1∧cR m.p B c.inst (decide (c.side=2)) c.price c.qty=true),Cv.cnd.mk (fun e=>⟨⟨m.s,m.p,B,c.inst,decide (c.side=2),c.price,c.qty⟩,rfl,gH hs,rfl,rfl,rfl,hok,fun _ _=>⟨_,rfl,?_,k0q⟩⟩) (fun e=>⟨false,rfl,(yWx fun x=> ?_).symm,k0q⟩),?_⟩
 ·have e:c.time=1:=by simpa using e
  dsimp only
  cases hb:cR m.p B c.inst (decide (c.side=2)) c.price c.qty with
  |true=>exact(yXc ⟨e,rfl⟩).symm
  |false=>exact(yWx fun x=>by cases x.2).symm
 ·rw[x.1]at e;cases e
 rintro _ rfl
 refine zI (fun e=> ?_) (fun e=> ?_)
 ·have hx:X=⟨B,m.used,pB c 23⟩:=by rw[hX,yWl e]
  exact⟨⟨c,23⟩,rfl,rfl,rfl,rfl,rfl,rfl,rfl,rfl,rfl,rfl,trivial,fun _ _=>⟨m,rfl,rfl,rfl,rfl,rfl,rfl,rfl,rfl,rfl,rfl,rfl,rfl,rfl,by rw[hx];rfl,by rw[hx];exact hM⟩⟩
 rw[yWj e]at hX
 exact⟨⟨m,m.p,B,m.used,c,X⟩,rfl,rfl,rfl,rfl,rfl,rfl,rfl,rfl,rfl,rfl,rfl,rfl,rfl,rfl,rfl,rfl,rfl,rfl,rfl,rfl,rfl,rfl,⟨⟨hM,hB⟩,⟨hib,hq,hs⟩,hpz,hX⟩,fun o ho=>⟨o,rfl,rfl,rfl,rfl,rfl,rfl,rfl,rfl,rfl,rfl,rfl,rfl,rfl,rfl,ho⟩⟩
theorem yAv:orderC.ok Tryz.prog 113:=okw mixed (gokc rV (gokc zZr (gokc zZk (gokc z6k (gokc zUw (gokc zXa gok0)))))) 0 (fun _=>yOd) (fun _=>[]) [] Tryz.func113 yMe
theorem z3h {p:Prd} {B:List (List zH)} (h:BWf p B) {id inst:Int} {o:zH} (hf:yH B id=(inst,o,true)):(0≤inst∧inst<B.length)∧zId o:=by
 rw[yH]at hf
 split at hf
 ·cases hf
 ·rename_i k hk
  obtain⟨L,hL,hh⟩:=uW hk
  rw[zR hL]at hf
  cases hf
  have hlt:=(yWn.1 hL).1
  obtain⟨o,ho,e⟩:=yYa.1 (hasId_iff.1 hh)
  have hg:=mW (h.od k L hL).2.1 ho
  rw[e]at hg
  rw[hg]
  exact⟨by omega,(h.od k L hL).1 o ho⟩
theorem zKc (p:Prd) (c:Cmd):∀(l:List wB) (left:Int),(∀t∈l,SOk t∧1≤t.qty)→(pD p c l left).length≤1503*l.length
 |[],_,_=>yXl _
 |t::l,left,h=>by
  have a:=zKc p c l (left-t.qty) fun u hu=>h u (yWq _ hu)
  have b:=zNf p c t (left-t.qty)
  have d:=(h t yWp).1.2.2
  rw[pD,yWi,yWr];omega
theorem zYl {p:Prd} {B:List (List zH)} (h:BWf p B) (U:List Int) {c:Cmd} (hi:0≤c.inst∧c.inst<B.length) (hq:1≤c.qty∧c.qty≤1000000):(aJ p B U c).R.length≤1503000002:=by
 obtain⟨s1,s2⟩:=zQt (inst:=c.inst) (sd:=decide (c.side=2)) (price:=c.price) _ c.qty B (yXl _) h hi
 have k3:=(mQ (inst:=c.inst) (sd:=decide (c.side=2)) (price:=c.price) _ c.qty B (yXl _) h).2.2 (by omega)
 have:=zSi s1
 have:=zKc p c _ c.qty s1
 rw[zFe]
 dsimp only
 rw[yWi,yWr]
 split
 ·rw[yWr,yXp];omega
 ·rw[yXp];omega
theorem yAm (i:z6f) (h:replaceC.cnd i):zUb i:=by
 obtain⟨m,p,B,U,c,inst,o,X⟩:=i
 have h':m.Rep p B U∧BOk p B∧yH B c.id=(inst,o,true)∧(1≤c.qty∧c.qty≤1000000)∧X=c8 p B U c inst o:=h
 clear h
 obtain⟨hM,hB,hf,hq,hX⟩:=h'
 obtain⟨ep,hR,eu⟩:=hM
 subst ep eu
 have hM:m.Rep m.p B m.used:=⟨rfl,hR,rfl⟩
 have hwf:=hR.wf hB
 obtain⟨hin,hoo⟩:=z3h hwf hf
 have hos:=hoo.s
 have hoq:=hoo.q
 have hbl:=hB.bl
 have hcl:=x5 m.p
 unfold zUb zAk qI gD cM nU dZ mY xZ
 dsimp only
 refine⟨⟨m.p,inst,c.price⟩,rfl,rfl,rfl,rfl,rfl,rfl,rfl,rfl,rfl,rfl,rfl,rfl,rfl,hB.ps,fun _ _=>Cv.cnd.mk (fun e=> ?_) (fun e=> ?_)⟩
 ·have e:m.p.price inst c.price≠0:=by simpa using e
  have hx:X=⟨B,m.used,pB c (m.p.price inst c.price)⟩:=by rw[hX,c8,yWl e]
  exact⟨⟨c,m.p.price inst c.price⟩,rfl,rfl,rfl,rfl,rfl,rfl,rfl,rfl,rfl,rfl,trivial,fun _ _=>⟨m,rfl,rfl,rfl,rfl,rfl,rfl,rfl,rfl,rfl,rfl,rfl,rfl,rfl,by rw[hx];rfl,by rw[hx];exact hM⟩⟩
 have hpz:m.p.price inst c.price=0:=by simpa using e
 rw[c8,yWj (by rw[hpz];decide)]at hX
 have hw:IntKind.i64.wrap (o.qty-c.qty)=o.qty-c.qty:=w64 (by omega)
 rw[hw]
 refine(fun hT=>Cv.cnd.mk (fun e1=>zI (fun e2=> ?_) (fun e2=>hT fun x=>e2 x.2)) (fun e1=>hT fun x=>by rw[x.1]at e1;simp at e1)) (fun(hn:¬(c.price=o.price∧c.qty≤o.qty))=> ?_)
 ·have e1:c.price=o.price:=by simpa using e1
  rw[yWl ⟨e1,e2⟩]at hX
  exact⟨⟨m,m.p,B,m.used,c.id,o.qty-c.qty,inst,o,X⟩,rfl,rfl,rfl,rfl,rfl,rfl,rfl,rfl,rfl,rfl,rfl,rfl,rfl,rfl,rfl,rfl,rfl,rfl,rfl,rfl,rfl,⟨⟨hM,hB⟩,⟨by dsimp only;omega,by dsimp only;omega⟩,hX⟩,fun o' ho=>⟨o',rfl,rfl,rfl,rfl,rfl,rfl,rfl,rfl,rfl,rfl,rfl,rfl,rfl,rfl,ho⟩⟩
 rw[yWj hn]at hX
 have hBt:=hB.take c.id o.qty
 refine⟨m.s,rfl,hR.small hB,fun _ _=>⟨⟨m.s,m.p,B,c.id,o.qty⟩,rfl,rfl,rfl,⟨hR,by dsimp only;omega⟩,fun o' ho'=>⟨⟨o',m.p,(kE B c.id o.qty).1,inst,decide (o.side=2),c.price,c.qty⟩,rfl,gH hos,rfl,rfl,rfl,⟨ho',hBt,by dsimp only;rw[rF];exact hin,hq.1,hq.2⟩,fun _ _=>Cv.cnd.mk (fun e=> ?_) (fun e=> ?_)⟩⟩⟩
 ·have hx:X=⟨B,m.used,pB c 23⟩:=by rw[hX,yWl e]
  exact⟨⟨c,23⟩,rfl,rfl,rfl,rfl,rfl,rfl,rfl,rfl,rfl,rfl,trivial,fun _ _=>⟨m,rfl,rfl,rfl,rfl,rfl,rfl,rfl,rfl,rfl,rfl,rfl,rfl,rfl,by rw[hx];rfl,by rw[hx];exact hM⟩⟩
 rw[yWj (by rw[e];decide)]at hX
 refine⟨⟨m,m.p,B,m.used,c.id,0,inst,o,b9 B m.used c.id inst o⟩,rfl,rfl,rfl,rfl,rfl,rfl,rfl,rfl,rfl,rfl,rfl,rfl,rfl,rfl,rfl,rfl,rfl,rfl,rfl,rfl,⟨⟨hM,hB⟩,rfl⟩,fun o1 ho1=>⟨⟨o1,m.p,(kE B c.id o.qty).1,m.used,⟨1,c.id,inst,o.side,c.price,c.qty,0,1,[]⟩,aJ m.p (kE B c.id o.qty).1 m.used ⟨1,c.id,inst,o.side,c.price,c.qty,0,1,[]⟩⟩,rfl,rfl,rfl,rfl,rfl,rfl,rfl,rfl,rfl,rfl,rfl,rfl,rfl,rfl,rfl,rfl,rfl,rfl,rfl,rfl,rfl,rfl,⟨⟨ho1,hBt⟩,⟨by dsimp only;rw[rF];exact hin,hq,hos⟩,hpz,rfl⟩,fun o2 ho2=>⟨?_,o2,rfl,rfl,rfl,rfl,rfl,rfl,rfl,rfl,rfl,rfl,rfl,rfl,rfl,?_,?_⟩⟩⟩
 ·have:=zYl (hwf.take c.id o.qty) m.used (c:=⟨1,c.id,inst,o.side,c.price,c.qty,0,1,[]⟩) (by dsimp only;rw[rF];exact hin) hq
  dsimp only
  rw[yWk,yWk]
  have e1:(b9 B m.used c.id inst o).R.length=1:=rfl
  omega
 ·rw[hX,← yWv];rfl
 ·rw[hX];exact ho2
theorem zYw:replaceC.ok Tryz.prog 115:=okw mixed (gokc rV (gokc zZr (gokc zCz (gokc zDf (gokc zUw (gokc zNk (gokc zPg (gokc zXa gok0)))))))) 0 (fun _=>[]) (fun _=>[]) [] Tryz.func115 yAm
theorem vdo (i:EnI) (h:doC.cnd i):Vdo i:=by
 obtain⟨m,p,B,U,c,X⟩:=i
 have h':(m.Rep p B U∧BOk p B)∧c.label.length≤140737488355328∧yU c.qty∧X=doF p B U c:=h
 clear h
 obtain⟨⟨hM,hB⟩,hlb,hqr,hX⟩:=h'
 obtain⟨ep,hR,eu⟩:=hM
 subst ep eu
 have hM:m.Rep m.p B m.used:=⟨rfl,hR,rfl⟩
 have hwf:=hR.wf hB
 have hbl:=hB.bl
 have hcl:=x5 m.p
 unfold Vdo tH yAs dZ zYb zXk zRj
 dsimp only
 refine⟨c,rfl,rfl,rfl,rfl,rfl,rfl,rfl,rfl,rfl,hlb,fun _ _=>Cv.cnd.mk (fun e=> ?_) (fun e=> ?_)⟩
 ·have e:c.right≠0:=by simpa using e
  have hx:X=⟨B,m.used,pB c c.right⟩:=by rw[hX,doF,yWl e]
  exact⟨⟨c,c.right⟩,rfl,rfl,rfl,rfl,rfl,rfl,rfl,rfl,rfl,rfl,trivial,fun _ _=>⟨m,rfl,rfl,rfl,rfl,rfl,rfl,rfl,rfl,rfl,rfl,rfl,rfl,rfl,by rw[hx];rfl,by rw[hx];exact hM⟩⟩
 have hr:c.right=0:=by simpa using e
 rw[doF,yWj (by rw[hr];decide)]at hX
 refine Cv.cnd.mk (fun e=> ?_) (fun e=> ?_)
 ·have e:c.kind=1:=by simpa using e
  rw[yWl e]at hX
  exact⟨⟨m,m.p,B,m.used,c,X⟩,rfl,rfl,rfl,rfl,rfl,rfl,rfl,rfl,rfl,rfl,rfl,rfl,rfl,rfl,rfl,rfl,rfl,rfl,rfl,rfl,rfl,rfl,⟨⟨hM,hB⟩,hr,e,hX⟩,fun o ho=>⟨o,rfl,rfl,rfl,rfl,rfl,rfl,rfl,rfl,rfl,rfl,rfl,rfl,rfl,rfl,ho⟩⟩
 have hk:¬c.kind=1:=by simpa using e
 rw[yWj hk]at hX
 refine(fun hT=>⟨hT,rfl,trivial,hT⟩) ?_
 refine⟨⟨m.s,m.p,B,c.id,0⟩,rfl,rfl,⟨hR,by dsimp only;omega⟩,fun _ _=>Cv.cnd.mk (fun e=> ?_) (fun e=> ?_)⟩
 ·have e:(yH B c.id).2.2=false:=by simpa using e
  have hx:X=⟨B,m.used,pB c 26⟩:=by rw[hX,yWl e]
  exact⟨⟨c,26⟩,rfl,rfl,rfl,rfl,rfl,rfl,rfl,rfl,rfl,rfl,trivial,fun _ _=>⟨m,rfl,rfl,rfl,rfl,rfl,rfl,rfl,rfl,rfl,rfl,rfl,rfl,rfl,by rw[hx];rfl,by rw[hx];exact hM⟩⟩
 have e:(yH B c.id).2.2=true:=by simpa using e
 rw[yWj (by rw[e];decide)]at hX
 dsimp only
 have hf:yH B c.id=((yH B c.id).1,(yH B c.id).2.1,true):=by rw[← e]
 generalize (yH B c.id).1=inst at*
 generalize (yH B c.id).2.1=o at*
 obtain⟨hin,hoo⟩:=z3h hwf hf
 have hoq:=hoo.q
 refine Cv.cnd.mk (fun e4=> ?_) (fun e4=>Cv.cnd.mk (fun e2=> ?_) (fun e2=>zI (fun e3=> ?_) (fun e3=> ?_)))
 ·have e4:c.kind=4:=by simpa using e4
  rw[yWl e4]at hX
  exact⟨⟨m,m.p,B,m.used,c,inst,o,X⟩,rfl,rfl,rfl,rfl,rfl,rfl,rfl,rfl,rfl,rfl,rfl,rfl,rfl,rfl,rfl,rfl,rfl,rfl,rfl,rfl,rfl,rfl,rfl,rfl,rfl,rfl,rfl,rfl,⟨hM,hB,hf,zPo hr hk (by rw[e4];decide),hX⟩,fun o' ho=>⟨o',rfl,rfl,rfl,rfl,rfl,rfl,rfl,rfl,rfl,rfl,rfl,rfl,rfl,rfl,ho⟩⟩
 all_goals
  have e4:¬c.kind=4:=by simpa using e4
  rw[yWj e4]at hX
 ·have e2:c.kind=2:=by simpa using e2
  rw[yWl (.inl e2)]at hX
  exact⟨⟨m,m.p,B,m.used,c.id,0,inst,o,X⟩,rfl,rfl,rfl,rfl,rfl,rfl,rfl,rfl,rfl,rfl,rfl,rfl,rfl,rfl,rfl,rfl,rfl,rfl,rfl,rfl,⟨⟨hM,hB⟩,hX⟩,fun o' ho=>⟨o',rfl,rfl,rfl,rfl,rfl,rfl,rfl,rfl,rfl,rfl,rfl,rfl,rfl,rfl,ho⟩⟩
 ·rw[yWl (.inr (by omega))]at hX
  exact⟨⟨m,m.p,B,m.used,c.id,0,inst,o,X⟩,rfl,rfl,rfl,rfl,rfl,rfl,rfl,rfl,rfl,rfl,rfl,rfl,rfl,rfl,rfl,rfl,rfl,rfl,rfl,rfl,⟨⟨hM,hB⟩,hX⟩,fun o' ho=>⟨o',rfl,rfl,rfl,rfl,rfl,rfl,rfl,rfl,rfl,rfl,rfl,rfl,rfl,rfl,ho⟩⟩
 ·have e2:¬c.kind=2:=by simpa using e2
  have hq:=zPo hr hk e2
  rw[yWj (by omega)]at hX
  exact⟨⟨m,m.p,B,m.used,c.id,c.qty,inst,o,X⟩,rfl,rfl,rfl,rfl,rfl,rfl,rfl,rfl,rfl,rfl,rfl,rfl,rfl,rfl,rfl,rfl,rfl,rfl,rfl,rfl,rfl,⟨⟨hM,hB⟩,⟨by dsimp only;omega,by dsimp only;omega⟩,hX⟩,fun o' ho=>⟨o',rfl,rfl,rfl,rfl,rfl,rfl,rfl,rfl,rfl,rfl,rfl,rfl,rfl,rfl,ho⟩⟩
theorem ySb:doC.ok Tryz.prog 50:=okw mixed (gokc z8a (gokc zZr (gokc yAj (gokc yAv (gokc zYw (gokc zNk (gokc zPg gok0))))))) 0 (fun _=>[]) (fun _=>[]) [0] Tryz.func50 vdo
open Go Cv Go.Proofs
open Go Cv Go.Proofs
open Go Cv Go.Proofs
theorem yBp (t:TmI):1≤(qT t).qty∧(qT t).qty≤12:=by
 have:=xI (n:=t.c.qty) (lo:=0) (hi:=11) (by omega)
 have e:(qT t).qty=1+zG t.c.qty 0 11:=by rw[qT];split<;>rfl
 omega
theorem zZz (t:TmI):(qT t).label=[]:=by
 rw[qT];split<;>rfl
open Go Cv Go.Proofs
open Go Cv Go.Proofs
open Go Cv Go.Proofs
theorem yVx {l:List Cmd} {k:Nat} {c:Cmd} (h:l[k]? =some c):zE (l.map cmdE) k 0 9=some [D.v (.int .i64 c.kind),.v (.int .i64 c.id),.v (.int .i64 c.inst),.v (.int .i64 c.side),.v (.int .i64 c.price),.v (.int .i64 c.qty),.v (.int .i64 c.least),.v (.int .i64 c.time),.v (.string (sb c.label))]:=elA h (by simp[cmdE]) rfl
def mk0 (p:Prd):Mkt:=⟨p,sI p,[]⟩
theorem yHi (p:Prd):(mk0 p).Rep p (List.replicate p.count []) []:=⟨rfl,zZa _,rfl⟩
open Go Cv Go.Proofs
def WrU (l:List UInt8):Nat→AObj
 |0=> .cells [.own 1] 205
 |1=> .own 5 1 (bE l)
 |_=> .gone
def Wr (l:List UInt8):AObj:= .adt (List UInt8) 2 WrU l
structure zVa where
 l:List UInt8
 n:Int
 k:Nat
def putC:Con where
 ι:=zVa
 pat:=fun i=>[.nm 0 0,.d (.v (.int .u64 i.n)),.d (.v (.int .i64 i.k))]
 pre:=fun i=>[Wr i.l]
 cnd:=fun i=>0≤i.n∧i.n<18446744073709551616∧i.l.length+i.k≤1099511627776
 alts:=fun i=>[{o:=Unit,res:=fun _=> .tup [],post:=fun _=>[Wr (i.l++le i.n i.k)],rel:=fun _=>True}]
def yUu (i:zVa):List SAnn:=[{
 ι:=Nat,
 slots:=fun j=>[(0,.nm 0 0),(1,.d (.v (.int .u64 (i.n / 256 ^ j)))),(7,.d (.v (.int .i64 j)))],
 rows:=fun j=>[WrU (i.l++le i.n j) 0,WrU (i.l++le i.n j) 1]}]
open Go Cv Go.Proofs
def yRv (i:zVa):Prop:=
 ∃(a:Nat),i.n / (256:Int) ^ a=i.n∧(↑a:Int)=0∧bE (i.l++le i.n a)=bE i.l∧∃(b:Nat→Prop),∃(c:Nat→Nat),b a∧∀(d:Nat),b d→cnd (decide ((↑d:Int)<(↑i.k:Int))) (((bE (i.l++le i.n d)).length+1)*(1:Nat)≤(140737488355328:Nat)∧(0:Int)≤(8:Int)∧∃(e:Nat),i.n / (256:Int) ^ e=dN IntKind.u64 (i.n / (256:Int) ^ d) 8∧(↑e:Int)=IntKind.i64.wrap ((↑d:Int)+1)∧bE (i.l++le i.n e)=bE (i.l++le i.n d)++[[D.v (.int .u8 (IntKind.u8.wrap (i.n / (256:Int) ^ d)))]]∧b e∧c e<c d∧True) (∃(e:Unit),bE (i.l++le i.n i.k)=bE (i.l++le i.n d)∧True)
open Go Cv Go.Proofs
theorem yWa (i:zVa) (h:putC.cnd i):yRv i:=by
 unfold yRv
 obtain⟨h1,h2,h3⟩:=h
 refine⟨0,by simp,rfl,by simp[le],fun j=>j≤i.k,fun j=>i.k-j,by omega,fun j hj=>zI (fun hlt=> ?_) (fun hlt=> ?_)⟩
 ·refine⟨?_,by omega,j+1,?_,?_,?_,by omega,by dsimp only;omega,trivial⟩
  ·rw[vK,yWi,jX];omega
  ·have:=zCl .u64 (i.n / 256 ^ j) 8 (by decide)
   rw[show((8:Nat):Int)=8 by rfl]at this
   rw[this,Int.ediv_ediv_of_nonneg (Int.pow_nonneg (by omega)),Int.pow_succ];rfl
  ·rw[w64 (by omega)];rfl
  ·rw[yGg,zSm];simp[bE]
 ·obtain rfl:j=i.k:=by omega
  exact⟨(),rfl,trivial⟩
theorem zYo:putC.ok Tryz.prog 126:=okw mixed gok0 0 (fun _=>[]) (fun i=>yUu i) [0] Tryz.func126 yWa
open Go Cv Go.Proofs
@[reducible] def tU8:Nat:=5
structure WN where
 l:List UInt8
 n:Int
@[reducible] def WN.ok (i:WN):Prop:=i.l.length+8≤1099511627776
def byteC:Con:=con1 WN (fun i=>[.nm 0 0,zA i.n]) (fun i=>[Wr i.l]) WN.ok (fun _=>zBo) (fun i=>[Wr (i.l++[lob i.n])])
def longC:Con:=con1 WN (fun i=>[.nm 0 0,zA i.n]) (fun i=>[Wr i.l]) WN.ok (fun _=>zBo) (fun i=>[Wr (i.l++le i.n 8)])
def sumC:Con:=con1 WN (fun i=>[.nm 0 0,yFc i.n]) (fun i=>[Wr i.l]) (fun i=>i.l.length+8≤1099511627776∧0≤i.n∧i.n<4294967296) (fun _=>zBo) (fun i=>[Wr (i.l++le i.n 4)])
@[reducible] def yPy (t sz by_:Nat):Con:=con1 (List (List D)) (fun _=>[.own 0]) (fun l=>[.own t sz l]) (fun l=>l.length*by_≤140737488355328) (fun _=> .own 1) (fun l=>[.own t sz l,.own t sz l])
@[reducible] def yLt (sz by_:Nat):Con:=con1 (List (List D)) (fun l=>[roV sz l]) (fun _=>[]) (fun l=>l.length*by_≤140737488355328) (fun l=>roV sz l) (fun _=>[])
def cloneBO:Con:=yPy tU8 1 1
def cloneBR:Con:=yLt 1 1
def newWC:Con:=con1 Unit (fun _=>[]) (fun _=>[]) (fun _=>True) (fun _=> .nm 0 0) (fun _=>[Wr []])
def doneC:Con:=con1 (List UInt8) (fun _=>[.nm 0 0]) (fun l=>[Wr l]) (fun l=>l.length≤1099511627776) (fun _=> .own 1) (fun l=>[Wr l,.own tU8 1 (bE l)])
def zIl (c:Int):Int:=if 0<sW .u32 c 1 then aI .u32 (dN .u32 c 1) 3988292384 else dN .u32 c 1
def k0:Nat→Int→Int
 |0,c=>c
 |k+1,c=>zIl (k0 k c)
def zCo (l:List UInt8):Int:=l.foldl (fun c b=>k0 8 (aI .u32 c b.toNat)) 4294967295
def kC (l:List UInt8):Int:=aI .u32 4294967295 (zCo l)
def crcC:Con:=con1 (List UInt8) (fun l=>[roV 1 (bE l)]) (fun _=>[]) (fun l=>l.length≤1099511627776) (fun l=>yFc (kC l)) (fun _=>[])
def yUg (l:List UInt8):List SAnn:=[
 {ι:=Nat,slots:=fun i=>[(3,yFc (zCo (l.take i))),(9,zA i)],rows:=fun _=>[]},
 {ι:=Int×Nat,slots:=fun i=>[(3,yFc (k0 i.2 i.1)),(17,zA i.2)],rows:=fun _=>[]}]
def RdU (x:List UInt8×Bool):Nat→AObj
 |0=> .cells [roV 1 (bE x.1),yF x.2] 210
 |_=> .gone
def Rd (l:List UInt8) (b:Bool):AObj:= .adt (List UInt8×Bool) 1 RdU (l,b)
def newRC:Con:=con1 (List UInt8) (fun l=>[roV 1 (bE l)]) (fun _=>[]) (fun l=>l.length≤1099511627776) (fun _=> .nm 0 0) (fun l=>[Rd l false])
structure RN where
 l:List UInt8
 b:Bool
 n:Nat
def RN.bad (i:RN):Bool:=i.b||decide (i.l.length<i.n)
def RN.got (i:RN):List UInt8:=if i.bad then[]else i.l.take i.n
def RN.left (i:RN):List UInt8:=if i.bad then i.l else i.l.drop i.n
@[reducible] def RN.ok (i:RN):Prop:=i.n≤255∧i.l.length≤1099511627776
def takeC:Con:=con1 RN (fun i=>[.nm 0 0,zA i.n]) (fun i=>[Rd i.l i.b]) RN.ok (fun i=>roV 1 (bE i.got)) (fun i=>[Rd i.left i.bad])
def kF:List UInt8→Int
 |[]=>0
 |b::l=>b.toNat+256*kF l
def getC:Con:=con1 RN (fun i=>[.nm 0 0,zA i.n]) (fun i=>[Rd i.l i.b]) (fun i=>i.n≤8∧i.l.length≤1099511627776) (fun i=>sJ (kF i.got)) (fun i=>[Rd i.left i.bad])
def yUf (i:RN):List SAnn:=[{ι:=Nat,slots:=fun j=>[(5,sJ (kF (i.got.take j))),(12,zA j)],rows:=fun _=>[]}]
structure RB where
 l:List UInt8
 b:Bool
def RB.n (i:RB) (k:Nat):RN:=⟨i.l,i.b,k⟩
def rbyteC:Con:=con1 RB (fun i=>[.nm 0 0]) (fun i=>[Rd i.l i.b]) (fun i=>i.l.length≤1099511627776) (fun i=>zA (kF (i.n 1).got)) (fun i=>[Rd (i.n 1).left (i.n 1).bad])
def rlongC:Con:=con1 RB (fun i=>[.nm 0 0]) (fun i=>[Rd i.l i.b]) (fun i=>i.l.length≤1099511627776) (fun i=>zA (IntKind.i64.wrap (kF (i.n 8).got))) (fun i=>[Rd (i.n 8).left (i.n 8).bad])
def rendC:Con:=con1 RB (fun i=>[.nm 0 0]) (fun i=>[Rd i.l i.b]) (fun i=>i.l.length≤1099511627776) (fun i=>zA (if i.b then 10 else if 0<i.l.length then 15 else 0)) (fun i=>[Rd i.l i.b])
open Go Cv Go.Proofs
def cP (a:zVa):Prop:=0≤a.n∧a.n<18446744073709551616∧a.l.length+a.k≤1099511627776
def yKf (i:WN):Prop:=
 ∃(a:zVa),a.n=IntKind.u64.wrap i.n∧(↑a.k:Int)=1∧AObj.adt (List UInt8) 2 WrU a.l=Wr i.l∧(cP a)∧∀(b:Unit),True→∃(c:Unit),AObj.adt (List UInt8) 2 WrU (i.l++[lob i.n])=AObj.adt (List UInt8) 2 WrU (a.l++le a.n a.k)∧True
def yJq (i:WN):Prop:=
 ∃(a:zVa),a.n=IntKind.u64.wrap i.n∧(↑a.k:Int)=8∧AObj.adt (List UInt8) 2 WrU a.l=Wr i.l∧(cP a)∧∀(b:Unit),True→∃(c:Unit),AObj.adt (List UInt8) 2 WrU (i.l++le i.n 8)=AObj.adt (List UInt8) 2 WrU (a.l++le a.n a.k)∧True
def yRf (i:WN):Prop:=
 ∃(a:zVa),a.n=IntKind.u64.wrap i.n∧(↑a.k:Int)=4∧AObj.adt (List UInt8) 2 WrU a.l=Wr i.l∧(cP a)∧∀(b:Unit),True→∃(c:Unit),AObj.adt (List UInt8) 2 WrU (i.l++le i.n 4)=AObj.adt (List UInt8) 2 WrU (a.l++le a.n a.k)∧True
def zSy (i:List (List D)):Prop:=
 ∀(b:Bool),(b=true→i=[])→cnd b (∃(o:Unit),i=i∧i=[]∧True) ((0+i.length)*(1:Nat)≤(140737488355328:Nat)∧∃(o:Unit),i=i∧i=[]++i∧True)
theorem z6t (i:List (List D)):zSy i=walk Tryz.prog ([]) 0 ([]) ([]) [] Tryz.f99 (Tryz.f99.body.getD .skip) (cloneBO.pat i) (cloneBO.pre i) (cloneBO.alts i):=by kernel_rfl
theorem z6v (hG:GOk Tryz.prog ([])) (h:∀(i:List (List D)),cloneBO.cnd i→zSy i):cloneBO.ok Tryz.prog 99:=c9 mixed ([]) hG 0 (fun(i:List (List D))=>[]) (fun(i:List (List D))=>[]) [] Tryz.func99 (by kernel_rfl) (by kernel_rfl) (by kernel_rfl) (fun _=>by kernel_rfl) (fun(i:List (List D)) hc=>Eq.mp (z6t i) (h i hc))
def zUi (i:List (List D)):Prop:=
 ∀(b:Bool),(b=true→i=[])→cnd b (∃(o:Unit),i=[]∧True) ((0+i.length)*(1:Nat)≤(140737488355328:Nat)∧∃(o:Unit),i=[]++i∧True)
theorem z5v (i:List (List D)):zUi i=walk Tryz.prog ([]) 0 ([]) ([]) [] Tryz.f99 (Tryz.f99.body.getD .skip) (cloneBR.pat i) (cloneBR.pre i) (cloneBR.alts i):=by kernel_rfl
theorem z6y (hG:GOk Tryz.prog ([])) (h:∀(i:List (List D)),cloneBR.cnd i→zUi i):cloneBR.ok Tryz.prog 99:=c9 mixed ([]) hG 0 (fun(i:List (List D))=>[]) (fun(i:List (List D))=>[]) [] Tryz.func99 (by kernel_rfl) (by kernel_rfl) (by kernel_rfl) (fun _=>by kernel_rfl) (fun(i:List (List D)) hc=>Eq.mp (z5v i) (h i hc))
def ySd (i:Unit):Prop:=
 ∃(o:Unit),bE []=[]∧True
def yRq (i:List UInt8):Prop:=
 ∃(i_1:List (List D)),i_1=bE i∧i_1.length*(1:Nat)≤(140737488355328:Nat)∧∀(o:Unit),True→∃(o:Unit),bE i=i_1∧bE i=i_1∧True
def yUc (i:List UInt8):Prop:=
 ∃(a:Nat),zCo (List.take a i)=4294967295∧(↑a:Int)=0∧∃(b:Nat→Prop),∃(c:Nat→Nat),b a∧∀(d:Nat),b d→cnd (decide ((↑d:Int)<(↑(bE i).length:Int))) ((0≤(↑d:Int)∧(↑d:Int)<(↑(bE i).length:Int))∧∃(e:Int),zE (bE i) (↑d:Int).toNat 0 1=some [D.v (.int .u8 e)]∧∃(f:Int×Nat),k0 f.snd f.fst=aI IntKind.u32 (zCo (List.take d i)) (IntKind.u32.wrap e)∧(↑f.snd:Int)=0∧∃(g:Int×Nat→Prop),∃(h:Int×Nat→Nat),g f∧∀(j:Int×Nat),g j→cnd (decide ((↑j.snd:Int)<8)) ((0:Int)≤(1:Int)∧cnd (decide (sW IntKind.u32 (k0 j.snd j.fst) (1:Int)>(0:Int))) (∃(k:Int×Nat),k0 k.snd k.fst=aI IntKind.u32 (dN IntKind.u32 (k0 j.snd j.fst) 1) 3988292384∧(↑k.snd:Int)=IntKind.i64.wrap ((↑j.snd:Int)+1)∧g k∧h k<h j∧True) (∃(k:Int×Nat),k0 k.snd k.fst=dN IntKind.u32 (k0 j.snd j.fst) 1∧(↑k.snd:Int)=IntKind.i64.wrap ((↑j.snd:Int)+1)∧g k∧h k<h j∧True)) (∃(k:Nat),zCo (List.take k i)=k0 j.snd j.fst∧kI k d b c)) (∃(e:Unit),kC i=IntKind.u32.wrap (↑(BitVec.ofInt IntKind.u32.bits (if IntKind.u32.signed=true then(-1:Int)else IntKind.u32.max) ^^^ BitVec.ofInt IntKind.u32.bits (zCo (List.take d i))).toNat:Int)∧True)
def ySk (i:List UInt8):Prop:=
 ∃(i_1:List (List D)),i_1=bE i∧i_1.length*(1:Nat)≤(140737488355328:Nat)∧∀(o:Unit),True→∃(o:Unit),bE i=i_1∧false=false∧True
def yTs (i:RN):Prop:=
 cnd i.b (∃(o:Unit),bE i.got=[]∧bE i.left=bE i.l∧i.bad=true∧True) (cnd (decide ((↑i.n:Int)>(↑(bE i.l).length:Int))) (∃(o:Unit),bE i.got=[]∧bE i.left=bE i.l∧i.bad=decide ((↑i.n:Int)>(↑(bE i.l).length:Int))∧True) ((0≤(↑i.n:Int)∧(↑i.n:Int)≤(↑(bE i.l).length:Int))∧(0≤(↑i.n:Int)∧(↑i.n:Int)≤(↑(bE i.l).length:Int))∧∃(o:Unit),bE i.got=List.take (↑i.n:Int).toNat (bE i.l)∧bE i.left=List.drop (↑i.n:Int).toNat (bE i.l)∧i.bad=decide ((↑i.n:Int)>(↑(bE i.l).length:Int))∧True))
def yRg (i:RN):Prop:=
 ∃(a:RN),(↑a.n:Int)=(↑i.n:Int)∧AObj.adt (List UInt8×Bool) 1 RdU (a.l,a.b)=Rd i.l i.b∧(a.n≤255∧a.l.length≤1099511627776)∧∀(b:Unit),True→∃(c:Nat),kF (List.take c i.got)=0∧(↑c:Int)=0∧∃(d:Nat→Prop),∃(e:Nat→Nat),d c∧∀(f:Nat),d f→cnd (decide ((↑f:Int)<(↑(bE a.got).length:Int))) ((0≤(↑f:Int)∧(↑f:Int)<(↑(bE a.got).length:Int))∧∃(g:Int),zE (bE a.got) (↑f:Int).toNat 0 1=some [D.v (.int .u8 g)]∧0≤IntKind.i64.wrap (8*(↑f:Int))∧∃(h:Nat),kF (List.take h i.got)=iOr IntKind.u64 (kF (List.take f i.got)) (zSs IntKind.u64 (IntKind.u64.wrap g) (IntKind.i64.wrap (8*(↑f:Int))))∧(↑h:Int)=IntKind.i64.wrap ((↑f:Int)+1)∧d h∧e h<e f∧AObj.adt (List UInt8×Bool) 1 RdU (a.left,a.bad)=AObj.adt (List UInt8×Bool) 1 RdU (a.left,a.bad)) (∃(g:Unit),kF i.got=kF (List.take f i.got)∧AObj.adt (List UInt8×Bool) 1 RdU (i.left,i.bad)=AObj.adt (List UInt8×Bool) 1 RdU (a.left,a.bad)∧True)
def yMt (i:RB):Prop:=
 ∃(i_1:RN),(↑i_1.n:Int)=1∧AObj.adt (List UInt8×Bool) 1 RdU (i_1.l,i_1.b)=Rd i.l i.b∧(i_1.n≤8∧i_1.l.length≤1099511627776)∧∀(o:Unit),True→∃(o:Unit),kF (i.n 1).got=IntKind.i64.wrap (kF i_1.got)∧AObj.adt (List UInt8×Bool) 1 RdU ((i.n 1).left,(i.n 1).bad)=AObj.adt (List UInt8×Bool) 1 RdU (i_1.left,i_1.bad)∧True
def yMg (i:RB):Prop:=
 ∃(i_1:RN),(↑i_1.n:Int)=8∧AObj.adt (List UInt8×Bool) 1 RdU (i_1.l,i_1.b)=Rd i.l i.b∧(i_1.n≤8∧i_1.l.length≤1099511627776)∧∀(o:Unit),True→∃(o:Unit),IntKind.i64.wrap (kF (i.n 8).got)=IntKind.i64.wrap (kF i_1.got)∧AObj.adt (List UInt8×Bool) 1 RdU ((i.n 8).left,(i.n 8).bad)=AObj.adt (List UInt8×Bool) 1 RdU (i_1.left,i_1.bad)∧True
def yTy (i:RB):Prop:=
 cnd i.b (∃(o:Unit),(if i.b=true then(10:Int)else if 0<i.l.length then(15:Int)else(0:Int))=10∧bE i.l=bE i.l∧i.b=i.b∧True) (cnd (decide ((↑(bE i.l).length:Int)>0)) (∃(o:Unit),(if i.b=true then(10:Int)else if 0<i.l.length then(15:Int)else(0:Int))=15∧bE i.l=bE i.l∧i.b=i.b∧True) (∃(o:Unit),(if i.b=true then(10:Int)else if 0<i.l.length then(15:Int)else(0:Int))=0∧bE i.l=bE i.l∧i.b=i.b∧True))
end Sx
