/- Texts of ours, one behind the other: a walk that the kernel reckons, and contracts of functions. No condition. -/
import Derived.Test.YtogkpgfggfbhaaaGreatX8
namespace Sx
set_option linter.unusedVariables false
set_option maxRecDepth 100000
open Go Cv Go.Proofs
def yUe (i:RjI):Prop:=
 ∃(o:Unit),[qB (Rep.mk 2 i.c.id 0 0 0 0 0 i.why)]=[[D.v (.int .i64 2),D.v (.int .i64 i.c.id),D.v (.int .i64 0),D.v (.int .i64 0),D.v (.int .i64 0),D.v (.int .i64 0),D.v (.int .i64 0),D.v (.int .i64 i.why)]]∧True
def uD (a:MsI):Prop:=a.r.kind=a.r.kind∧a.r.id=a.r.id∧a.r.inst=a.r.inst∧a.r.side=a.r.side∧a.r.price=a.r.price∧a.r.qty=a.r.qty∧a.r.left=a.r.left∧a.r.why=a.r.why∧True
def g9 (a:MsI):=(Rep.mk a.r.kind a.r.id (a.m.p.legs a.r.inst).snd.fst (3-a.r.side) a.far a.r.qty a.r.left a.r.why)
def gN (a:MsI):=(Rep.mk a.r.kind a.r.id (a.m.p.legs a.r.inst).fst a.r.side a.near a.r.qty a.r.left a.r.why)
def rU (a:MsI) (b:dK):Prop:=(uD a)∧(uD a)∧(uD a)∧(uD a)∧(uD a)∧a.r.side=a.r.side∧∃(c:Unit),sb a.m.p.code=sb a.m.p.code∧a.m.p.tick=a.m.p.tick∧a.m.p.low=a.m.p.low∧a.m.p.high=a.m.p.high∧a.m.p.wide=a.m.p.wide∧a.m.p.rule=a.m.p.rule∧a.m.p.top=a.m.p.top∧a.m.p.least=a.m.p.least∧a.m.p.part=a.m.p.part∧zD a.m.s=yZ a.m 1∧yA a.m.used=yA a.m.used∧AObj.fro 1 (iE a.m.p.months)=yZ a.m 3∧AObj.fro 1 (iE a.m.p.settle)=yZ a.m 4∧[qB (gN a),qB (g9 a)]=[[dI a.r.kind,dI a.r.id,dI ((b.p.legs b.n).fst),dI a.r.side,dI a.near,dI a.r.qty,dI a.r.left,dI a.r.why],[dI a.r.kind,dI a.r.id,dI (wU b),dI (IntKind.i64.wrap (3-a.r.side)),dI a.far,dI a.r.qty,dI a.r.left,dI a.r.why]]∧True
def zUt (i:MsI):Prop:=
 ∃(a:dK),sb a.p.code=sb i.m.p.code∧iE a.p.months=iE i.m.p.months∧a.p.tick=i.m.p.tick∧a.p.low=i.m.p.low∧a.p.high=i.m.p.high∧a.p.wide=i.m.p.wide∧a.p.rule=i.m.p.rule∧a.p.top=i.m.p.top∧a.p.least=i.m.p.least∧a.p.part=i.m.p.part∧iE a.p.settle=iE i.m.p.settle∧a.n=i.r.inst∧(k0 a)∧∀(b:Unit),True→(rU i a)∧rU i a
def yTc (i:MiN):Prop:=
 ∃(i_1:dK),sb i_1.p.code=sb i.m.p.code∧iE i_1.p.months=iE i.m.p.months∧i_1.p.tick=i.m.p.tick∧i_1.p.low=i.m.p.low∧i_1.p.high=i.m.p.high∧i_1.p.wide=i.m.p.wide∧i_1.p.rule=i.m.p.rule∧i_1.p.top=i.m.p.top∧i_1.p.least=i.m.p.least∧i_1.p.part=i.m.p.part∧iE i_1.p.settle=iE i.m.p.settle∧i_1.n=i.inst∧(i_1.p.code.length≤1099511627776∧i_1.p.months.length≤1099511627776∧i_1.p.settle.length≤1099511627776)∧∀(o:Unit),True→∃(o:Unit),(i.m.p.legs i.inst).snd.snd=(i_1.p.legs i_1.n).snd.snd∧sb i.m.p.code=sb i.m.p.code∧i.m.p.tick=i.m.p.tick∧i.m.p.low=i.m.p.low∧i.m.p.high=i.m.p.high∧i.m.p.wide=i.m.p.wide∧i.m.p.rule=i.m.p.rule∧i.m.p.top=i.m.p.top∧i.m.p.least=i.m.p.least∧i.m.p.part=i.m.p.part∧zD i.m.s=yZ i.m 1∧yA i.m.used=yA i.m.used∧AObj.fro 1 (iE i.m.p.months)=yZ i.m 3∧AObj.fro 1 (iE i.m.p.settle)=yZ i.m 4∧True
def zPo (a:OfI):Prop:=a.x.price=a.x.price∧a.x.qty=a.x.qty∧a.x.implied=a.x.implied∧AObj.fro 6 (List.map yR a.x.fills)=AObj.fro 6 (List.map yR a.x.fills)∧True
def Vof (i:OfI):Prop:=
 ∃(a:Nat),(↑a:Int)=0∧∃(b:Nat→Prop),∃(c:Nat→Nat),b a∧∀(d:Nat),b d→cnd (decide ((↑d:Int)<(↑(List.map yR i.x.fills).length:Int))) ((0≤(↑d:Int)∧(↑d:Int)<(↑(List.map yR i.x.fills).length:Int))∧∃(e:Int),∃(f:Int),∃(g:Int),∃(h:Int),∃(j:Int),∃(k:Int),zE (List.map yR i.x.fills) (↑d:Int).toNat 0 6=some [dI e,dI f,dI g,dI h,dI j,dI k]∧cnd (f==i.k) (∃(l:Unit),ofF i.x i.k=h∧zPo i) (∃(l:Nat),(↑l:Int)=IntKind.i64.wrap ((↑d:Int)+1)∧b l∧c l<c d∧Sx.AObj.cells [zA i.x.price,zA i.x.qty,yF i.x.implied,V.own 1] (260:TypeId)=Sx.AObj.cells [zA i.x.price,zA i.x.qty,yF i.x.implied,V.own 1] (260:TypeId)∧AObj.fro 6 (List.map yR i.x.fills)=AObj.fro 6 (List.map yR i.x.fills))) (∃(e:Unit),ofF i.x i.k=i.x.price∧zPo i)
def nW (a:MpI):Prop:=sb a.m.p.code=sb a.m.p.code∧a.m.p.tick=a.m.p.tick∧a.m.p.low=a.m.p.low∧a.m.p.high=a.m.p.high∧a.m.p.wide=a.m.p.wide∧a.m.p.rule=a.m.p.rule∧a.m.p.top=a.m.p.top∧a.m.p.least=a.m.p.least∧a.m.p.part=a.m.p.part∧zD a.m.s=yZ a.m 1∧yA a.m.used=yA a.m.used∧AObj.fro 1 (iE a.m.p.months)=yZ a.m 3∧AObj.fro 1 (iE a.m.p.settle)=yZ a.m 4∧True
def qH (a:MpI):=(wJ a.m.p a.inst a.x)
def zSi (i:MpI):Prop:=
 cnd (!i.x.implied) (∃(a:LpI),sb a.p.code=sb i.m.p.code∧iE a.p.months=iE i.m.p.months∧a.p.tick=i.m.p.tick∧a.p.low=i.m.p.low∧a.p.high=i.m.p.high∧a.p.wide=i.m.p.wide∧a.p.rule=i.m.p.rule∧a.p.top=i.m.p.top∧a.p.least=i.m.p.least∧a.p.part=i.m.p.part∧iE a.p.settle=iE i.m.p.settle∧a.inst=i.inst∧a.price=i.x.price∧(a.p.check=0∧(a.p.code.length≤1099511627776∧a.p.months.length≤1099511627776∧a.p.settle.length≤1099511627776)∧(-9223372036854775808)≤a.price∧a.price≤9223372036854775807)∧∀(b:Unit),True→∃(c:Unit),(qH i).fst=(yW a).fst∧(qH i).snd=(yW a).snd.fst∧nW i) (∃(a:dK),sb a.p.code=sb i.m.p.code∧iE a.p.months=iE i.m.p.months∧a.p.tick=i.m.p.tick∧a.p.low=i.m.p.low∧a.p.high=i.m.p.high∧a.p.wide=i.m.p.wide∧a.p.rule=i.m.p.rule∧a.p.top=i.m.p.top∧a.p.least=i.m.p.least∧a.p.part=i.m.p.part∧iE a.p.settle=iE i.m.p.settle∧a.n=i.inst∧(k0 a)∧∀(b:Unit),True→∃(c:OfI),c.k=(a.p.legs a.n).fst∧c.x.price=i.x.price∧c.x.qty=i.x.qty∧c.x.implied=i.x.implied∧AObj.fro 6 (List.map yR c.x.fills)=AObj.fro 6 (List.map yR i.x.fills)∧c.x.fills.length≤1000000∧∀(d:Unit),True→∃(e:OfI),e.k=(a.p.legs a.n).snd.fst∧e.x.price=c.x.price∧e.x.qty=c.x.qty∧e.x.implied=c.x.implied∧AObj.fro 6 (List.map yR e.x.fills)=AObj.fro 6 (List.map yR c.x.fills)∧e.x.fills.length≤1000000∧∀(f:Unit),True→∃(g:Unit),(qH i).fst=ofF c.x c.k∧(qH i).snd=ofF e.x e.k∧nW i)
def lQ (a:MpI):Prop:=(a.m.p.check=0∧a.m.p.code.length≤1099511627776∧a.m.p.months.length≤1099511627776∧a.m.p.settle.length≤1099511627776)∧((-9223372036854775808)≤a.x.price∧a.x.price≤9223372036854775807)∧a.x.fills.length≤1000000
def lT (a:MsI):Prop:=(a.m.p.check=0∧a.m.p.code.length≤1099511627776∧a.m.p.months.length≤1099511627776∧a.m.p.settle.length≤1099511627776)∧(a.r.side=1∨a.r.side=2)
def l8 (a:MiN):Prop:=a.m.p.check=0∧a.m.p.code.length≤1099511627776∧a.m.p.months.length≤1099511627776∧a.m.p.settle.length≤1099511627776
def bK (a:StI'):=(D.v (Value.string (sb a.c.label)))
def yBc (i:StI'):Prop:=
 ∃(a:Nat),(↑a:Int)=0∧List.map qB (i.out a)=[]∧∃(b:Nat→Prop),∃(c:Nat→Nat),b a∧∀(d:Nat),b d→cnd (decide ((↑d:Int)<(↑(List.map yR i.x.fills).length:Int))) ((0≤(↑d:Int)∧(↑d:Int)<(↑(List.map yR i.x.fills).length:Int))∧∃(e:Int),∃(f:Int),∃(g:Int),∃(h:Int),∃(j:Int),∃(k:Int),zE (List.map yR i.x.fills) (↑d:Int).toNat 0 6=some [dI e,dI f,dI g,dI h,dI j,dI k]∧((List.map qB (i.out d)).length+1)*(64:Nat)≤(140737488355328:Nat)∧∃(l:MiN),l.inst=f∧sb l.m.p.code=sb i.m.p.code∧l.m.p.tick=i.m.p.tick∧l.m.p.low=i.m.p.low∧l.m.p.high=i.m.p.high∧l.m.p.wide=i.m.p.wide∧l.m.p.rule=i.m.p.rule∧l.m.p.top=i.m.p.top∧l.m.p.least=i.m.p.least∧l.m.p.part=i.m.p.part∧zD l.m.s=yZ i.m 1∧yA l.m.used=yA i.m.used∧AObj.fro 1 (iE l.m.p.months)=yZ i.m 3∧AObj.fro 1 (iE l.m.p.settle)=yZ i.m 4∧(l8 l)∧∀(m:Unit),True→cnd (l.m.p.legs l.inst).snd.snd (∃(n:MpI),n.inst=f∧n.x.price=i.x.price∧n.x.qty=i.x.qty∧n.x.implied=i.x.implied∧List.map yR n.x.fills=List.map yR i.x.fills∧sb n.m.p.code=sb l.m.p.code∧n.m.p.tick=l.m.p.tick∧n.m.p.low=l.m.p.low∧n.m.p.high=l.m.p.high∧n.m.p.wide=l.m.p.wide∧n.m.p.rule=l.m.p.rule∧n.m.p.top=l.m.p.top∧n.m.p.least=l.m.p.least∧n.m.p.part=l.m.p.part∧zD n.m.s=zD l.m.s∧yA n.m.used=yA l.m.used∧AObj.fro 1 (iE n.m.p.months)=AObj.fro 1 (iE l.m.p.months)∧AObj.fro 1 (iE n.m.p.settle)=AObj.fro 1 (iE l.m.p.settle)∧(lQ n)∧∀(p:Unit),True→∃(q:MsI),q.r.kind=3∧q.r.id=e∧q.r.inst=f∧q.r.side=g∧q.r.price=h∧q.r.qty=j∧q.r.left=k∧q.r.why=0∧q.near=(qH n).fst∧q.far=(qH n).snd∧sb q.m.p.code=sb n.m.p.code∧q.m.p.tick=n.m.p.tick∧q.m.p.low=n.m.p.low∧q.m.p.high=n.m.p.high∧q.m.p.wide=n.m.p.wide∧q.m.p.rule=n.m.p.rule∧q.m.p.top=n.m.p.top∧q.m.p.least=n.m.p.least∧q.m.p.part=n.m.p.part∧zD q.m.s=zD n.m.s∧yA q.m.used=yA n.m.used∧AObj.fro 1 (iE q.m.p.months)=AObj.fro 1 (iE n.m.p.months)∧AObj.fro 1 (iE q.m.p.settle)=AObj.fro 1 (iE n.m.p.settle)∧(lT q)∧∀(r:Unit),True→True∧((List.map qB (i.out d)++[[dI 3,dI e,dI f,dI g,dI h,dI j,dI k,dI 0]]).length+2)*(64:Nat)≤(140737488355328:Nat)∧∃(s:Nat),(↑s:Int)=IntKind.i64.wrap ((↑d:Int)+1)∧List.map qB (i.out s)=List.map qB (i.out d)++[[dI 3,dI e,dI f,dI g,dI h,dI j,dI k,dI 0]]++[qB (gN q),qB (g9 q)]∧b s∧c s<c d∧Sx.AObj.cells [V.d (dI i.x.price),V.d (dI i.x.qty),V.d (D.v (.bool i.x.implied)),V.own ((5:Nat)+(1:Nat)+1)] 260=Sx.AObj.cells [V.d (dI i.x.price),V.d (dI i.x.qty),V.d (D.v (.bool i.x.implied)),V.own ((5:Nat)+(1:Nat)+1)] 260∧AObj.fro 6 (List.map yR i.x.fills)=AObj.fro 6 (List.map yR i.x.fills)∧Sx.AObj.cells [V.d (dI i.c.kind),V.d (dI i.c.id),V.d (dI i.c.inst),V.d (dI i.c.side),V.d (dI i.c.price),V.d (dI i.c.qty),V.d (dI i.c.least),V.d (dI i.c.time),V.d (bK i)] 36=Sx.AObj.cells [V.d (dI i.c.kind),V.d (dI i.c.id),V.d (dI i.c.inst),V.d (dI i.c.side),V.d (dI i.c.price),V.d (dI i.c.qty),V.d (dI i.c.least),V.d (dI i.c.time),V.d (bK i)] 36∧Sx.AObj.cells [V.nm 0 0] 53=Sx.AObj.cells [V.nm 0 0] 53∧Sx.AObj.cells (gY (bQ 5 ((5:Nat)+(1:Nat)+(1:Nat)+(1:Nat)+(1:Nat)+(1:Nat)+(1:Nat)+(2:Nat)+(1:Nat)+(1:Nat)+(1:Nat)+(1:Nat)+((5:Nat)-(5:Nat))+((5:Nat)-(5:Nat))) ((6:Nat)-(5:Nat)) [((2:Nat),(2:Nat)),((1:Nat),(1:Nat)),((4:Nat),(4:Nat)),((3:Nat),(3:Nat)),((0:Nat),(0:Nat))]) [sV q.m.p.code,V.own 3,zA q.m.p.tick,zA q.m.p.low,zA q.m.p.high,zA q.m.p.wide,zA q.m.p.rule,zA q.m.p.top,zA q.m.p.least,zA q.m.p.part,V.own 4,V.nm 1 0,V.mp 2]) (121:TypeId)=yZ i.m 0∧zD q.m.s=yZ i.m 1∧Sx.AObj.map (yA q.m.used)=yZ i.m 2∧AObj.fro 1 (iE q.m.p.months)=yZ i.m 3∧AObj.fro 1 (iE q.m.p.settle)=yZ i.m 4) (∃(n:Nat),(↑n:Int)=IntKind.i64.wrap ((↑d:Int)+1)∧List.map qB (i.out n)=List.map qB (i.out d)++[[dI 3,dI e,dI f,dI g,dI h,dI j,dI k,dI 0]]∧b n∧c n<c d∧Sx.AObj.cells [V.d (dI i.x.price),V.d (dI i.x.qty),V.d (D.v (.bool i.x.implied)),V.own ((5:Nat)+(1:Nat)+1)] 260=Sx.AObj.cells [V.d (dI i.x.price),V.d (dI i.x.qty),V.d (D.v (.bool i.x.implied)),V.own ((5:Nat)+(1:Nat)+1)] 260∧AObj.fro 6 (List.map yR i.x.fills)=AObj.fro 6 (List.map yR i.x.fills)∧Sx.AObj.cells [V.d (dI i.c.kind),V.d (dI i.c.id),V.d (dI i.c.inst),V.d (dI i.c.side),V.d (dI i.c.price),V.d (dI i.c.qty),V.d (dI i.c.least),V.d (dI i.c.time),V.d (bK i)] 36=Sx.AObj.cells [V.d (dI i.c.kind),V.d (dI i.c.id),V.d (dI i.c.inst),V.d (dI i.c.side),V.d (dI i.c.price),V.d (dI i.c.qty),V.d (dI i.c.least),V.d (dI i.c.time),V.d (bK i)] 36∧Sx.AObj.cells [V.nm 0 0] 53=Sx.AObj.cells [V.nm 0 0] 53∧Sx.AObj.cells (gY (bQ 5 ((5:Nat)+(1:Nat)+(1:Nat)+(1:Nat)+(1:Nat)+(1:Nat)+(1:Nat)+(2:Nat)+(1:Nat)+(1:Nat)+(1:Nat)+(1:Nat)) ((5:Nat)-(5:Nat)) [((2:Nat),(2:Nat)),((1:Nat),(1:Nat)),((4:Nat),(4:Nat)),((3:Nat),(3:Nat)),((0:Nat),(0:Nat))]) [sV l.m.p.code,V.own 3,zA l.m.p.tick,zA l.m.p.low,zA l.m.p.high,zA l.m.p.wide,zA l.m.p.rule,zA l.m.p.top,zA l.m.p.least,zA l.m.p.part,V.own 4,V.nm 1 0,V.mp 2]) (121:TypeId)=yZ i.m 0∧zD l.m.s=yZ i.m 1∧Sx.AObj.map (yA l.m.used)=yZ i.m 2∧AObj.fro 1 (iE l.m.p.months)=yZ i.m 3∧AObj.fro 1 (iE l.m.p.settle)=yZ i.m 4)) (((List.map qB (i.out d)).length+1)*(64:Nat)≤(140737488355328:Nat)∧∃(e:MiN),e.inst=i.c.inst∧sb e.m.p.code=sb i.m.p.code∧e.m.p.tick=i.m.p.tick∧e.m.p.low=i.m.p.low∧e.m.p.high=i.m.p.high∧e.m.p.wide=i.m.p.wide∧e.m.p.rule=i.m.p.rule∧e.m.p.top=i.m.p.top∧e.m.p.least=i.m.p.least∧e.m.p.part=i.m.p.part∧zD e.m.s=yZ i.m 1∧yA e.m.used=yA i.m.used∧AObj.fro 1 (iE e.m.p.months)=yZ i.m 3∧AObj.fro 1 (iE e.m.p.settle)=yZ i.m 4∧(l8 e)∧∀(f:Unit),True→cnd (e.m.p.legs e.inst).snd.snd (∃(g:MpI),g.inst=i.c.inst∧g.x.price=i.x.price∧g.x.qty=i.x.qty∧g.x.implied=i.x.implied∧List.map yR g.x.fills=List.map yR i.x.fills∧sb g.m.p.code=sb e.m.p.code∧g.m.p.tick=e.m.p.tick∧g.m.p.low=e.m.p.low∧g.m.p.high=e.m.p.high∧g.m.p.wide=e.m.p.wide∧g.m.p.rule=e.m.p.rule∧g.m.p.top=e.m.p.top∧g.m.p.least=e.m.p.least∧g.m.p.part=e.m.p.part∧zD g.m.s=zD e.m.s∧yA g.m.used=yA e.m.used∧AObj.fro 1 (iE g.m.p.months)=AObj.fro 1 (iE e.m.p.months)∧AObj.fro 1 (iE g.m.p.settle)=AObj.fro 1 (iE e.m.p.settle)∧(lQ g)∧∀(h:Unit),True→∃(j:MsI),j.r.kind=3∧j.r.id=i.c.id∧j.r.inst=i.c.inst∧j.r.side=i.c.side∧j.r.price=i.x.price∧j.r.qty=i.x.qty∧j.r.left=i.left∧j.r.why=0∧j.near=(qH g).fst∧j.far=(qH g).snd∧sb j.m.p.code=sb g.m.p.code∧j.m.p.tick=g.m.p.tick∧j.m.p.low=g.m.p.low∧j.m.p.high=g.m.p.high∧j.m.p.wide=g.m.p.wide∧j.m.p.rule=g.m.p.rule∧j.m.p.top=g.m.p.top∧j.m.p.least=g.m.p.least∧j.m.p.part=g.m.p.part∧zD j.m.s=zD g.m.s∧yA j.m.used=yA g.m.used∧AObj.fro 1 (iE j.m.p.months)=AObj.fro 1 (iE g.m.p.months)∧AObj.fro 1 (iE j.m.p.settle)=AObj.fro 1 (iE g.m.p.settle)∧(lT j)∧∀(k:Unit),True→True∧((List.map qB (i.out d)++[[dI 3,dI i.c.id,dI i.c.inst,dI i.c.side,dI i.x.price,dI i.x.qty,dI i.left,dI 0]]).length+2)*(64:Nat)≤(140737488355328:Nat)∧∃(l:Unit),sb i.m.p.code=sb j.m.p.code∧i.m.p.tick=j.m.p.tick∧i.m.p.low=j.m.p.low∧i.m.p.high=j.m.p.high∧i.m.p.wide=j.m.p.wide∧i.m.p.rule=j.m.p.rule∧i.m.p.top=j.m.p.top∧i.m.p.least=j.m.p.least∧i.m.p.part=j.m.p.part∧zD i.m.s=zD j.m.s∧yA i.m.used=yA j.m.used∧AObj.fro 1 (iE i.m.p.months)=AObj.fro 1 (iE j.m.p.months)∧AObj.fro 1 (iE i.m.p.settle)=AObj.fro 1 (iE j.m.p.settle)∧List.map qB (aP i.m.p i.c i.x i.left)=List.map qB (i.out d)++[[dI 3,dI i.c.id,dI i.c.inst,dI i.c.side,dI i.x.price,dI i.x.qty,dI i.left,dI 0]]++[qB (gN j),qB (g9 j)]∧True) (∃(g:Unit),sb i.m.p.code=sb e.m.p.code∧i.m.p.tick=e.m.p.tick∧i.m.p.low=e.m.p.low∧i.m.p.high=e.m.p.high∧i.m.p.wide=e.m.p.wide∧i.m.p.rule=e.m.p.rule∧i.m.p.top=e.m.p.top∧i.m.p.least=e.m.p.least∧i.m.p.part=e.m.p.part∧zD i.m.s=zD e.m.s∧yA i.m.used=yA e.m.used∧AObj.fro 1 (iE i.m.p.months)=AObj.fro 1 (iE e.m.p.months)∧AObj.fro 1 (iE i.m.p.settle)=AObj.fro 1 (iE e.m.p.settle)∧List.map qB (aP i.m.p i.c i.x i.left)=List.map qB (i.out d)++[[dI 3,dI i.c.id,dI i.c.inst,dI i.c.side,dI i.x.price,dI i.x.qty,dI i.left,dI 0]]∧True))
set_option linter.unusedSimpArgs false
open Go Cv Go.Proofs
theorem zYq:rejC.ok Tryz.prog 58:=okw (V:=yUe) mixed gok0 0 (fun _=>[]) (fun _=>[]) [] Tryz.func58 fun(i:RjI) _=>⟨(),rfl,trivial⟩
theorem yBq (i:MsI) (h:mspreadC.cnd i):zUt i:=by
 obtain⟨⟨hc,hp⟩,hs⟩:i.m.fine∧(i.r.side=1∨i.r.side=2):=h
 have hw:IntKind.i64.wrap (3-i.r.side)=3-i.r.side:=w64 (by omega)
 unfold zUt rU gN g9 uD wU k0 dI
 rw[hw]
 refine⟨⟨i.m.p,i.r.inst⟩,rfl,rfl,rfl,rfl,rfl,rfl,rfl,rfl,rfl,rfl,rfl,rfl,hp,fun _ _=> ?_⟩
 exact kp
theorem zXq:mspreadC.ok Tryz.prog 193:=okw mixed (gokc sZ gok0) 0 (fun _=>[]) (fun _=>[]) [] Tryz.func193 yBq
theorem yKs:misC.ok Tryz.prog 191:=okw (V:=yTc) mixed (gokc sZ gok0) 0 (fun _=>[]) (fun _=>[]) [] Tryz.func191 fun(i:MiN) h=>by
 obtain⟨hc,hp⟩:i.m.fine:=h
 exact⟨⟨i.m.p,i.inst⟩,rfl,rfl,rfl,rfl,rfl,rfl,rfl,rfl,rfl,rfl,rfl,rfl,hp,fun _ _=>kp⟩
theorem ySw {l:List dR} {k:Nat} {f:dR} (h:l[k]? =some f):zE (l.map yR) k 0 6=some [D.v (.int .i64 f.id),D.v (.int .i64 f.inst),D.v (.int .i64 f.side),D.v (.int .i64 f.price),D.v (.int .i64 f.qty),D.v (.int .i64 f.left)]:=elA h (by simp[yR]) rfl
theorem vof (i:OfI) (h:ofC.cnd i):Vof i:=by
 have hl:i.x.fills.length≤1000000:=h
 have e4:(i.x.fills.map yR).length=i.x.fills.length:=yVk ..
 unfold Vof zPo dI
 refine⟨0,rfl,fun j=>j≤i.x.fills.length∧(i.x.fills.take j).find? (fun f=>decide (f.inst=i.k))=none,fun j=>i.x.fills.length-j,⟨yXf _,rfl⟩,?_⟩
 rintro j ⟨j1,j2⟩
 refine zJ (fun c=> ?_) (fun c=> ?_)
 ·obtain⟨f,hf⟩:=yD (l:=i.x.fills) (i:=j) (by omega)
  refine⟨⟨by omega,by omega⟩,_,_,_,_,_,_,ySw hf,Cv.cnd.mk (fun g=>⟨(),?_,by(repeat'(first|exact trivial|exact rfl|apply And.intro))⟩) (fun g=>⟨j+1,wjn (by omega),⟨by omega,?_⟩,by dsimp only;omega,by(repeat'(first|exact trivial|exact rfl|apply And.intro))⟩)⟩
  ·have g:f.inst=i.k:=by simpa using g
   have e:i.x.fills.find? (fun f=>decide (f.inst=i.k))=some f:=by
    rw[← yXw j i.x.fills,List.find?_append,j2,yXs (by omega),(yVn.1 hf).2,List.find?_cons_of_pos (by simpa using g)]
    rfl
   rw[ofF,e]
  ·have g:¬f.inst=i.k:=by simpa using g
   rw[yWs,hf,List.find?_append,j2]
   simp[g]
 ·have:j=i.x.fills.length:=by omega
  rw[this,yVx (yWj _)]at j2
  exact⟨(),by rw[ofF,j2],by(repeat'(first|exact trivial|exact rfl|apply And.intro))⟩
theorem yRo:ofC.ok Tryz.prog 223:=okw mixed gok0 0 (fun _=>[]) (fun _=>ofA) [] Tryz.func223 vof
theorem z7i (i:MpI) (h:mpricesC.cnd i):zSi i:=by
 obtain⟨⟨hc,hp⟩,hpr,hl⟩:i.m.fine∧yO i.x.price∧i.x.fills.length≤1000000:=h
 unfold zSi qH nW yW k0
 refine Cv.cnd.mk (fun e=> ?_) (fun e=> ?_)
 ·have e:i.x.implied=false:=by simpa using e
  have h0:wJ i.m.p i.inst i.x=((gR i.m.p i.inst i.x.price).1,(gR i.m.p i.inst i.x.price).2.1):=by rw[wJ,yVl e]
  rw[h0]
  exact⟨⟨i.m.p,i.inst,i.x.price⟩,rfl,rfl,rfl,rfl,rfl,rfl,rfl,rfl,rfl,rfl,rfl,rfl,rfl,⟨hc,hp,hpr⟩,fun _ _=>kp⟩
 ·have e:¬i.x.implied=false:=by simpa using e
  have h0:wJ i.m.p i.inst i.x=(ofF i.x (i.m.p.legs i.inst).1,ofF i.x (i.m.p.legs i.inst).2.1):=by rw[wJ,yVj e]
  rw[h0]
  exact⟨⟨i.m.p,i.inst⟩,rfl,rfl,rfl,rfl,rfl,rfl,rfl,rfl,rfl,rfl,rfl,rfl,hp,fun _ _=>⟨⟨i.x,(i.m.p.legs i.inst).1⟩,rfl,rfl,rfl,rfl,rfl,hl,fun _ _=>⟨⟨i.x,(i.m.p.legs i.inst).2.1⟩,rfl,rfl,rfl,rfl,rfl,hl,fun _ _=>kp⟩⟩⟩
theorem zYn:mpricesC.ok Tryz.prog 192:=okw mixed (gokc sZ (gokc zXk (gokc yRo gok0))) 0 (fun _=>[]) (fun _=>[]) [] Tryz.func192 z7i
theorem zIs (p:Prd) (x:wA) (r:Rep):(pU p x r).length≤3:=by
 rw[pU,yVt]
 split
 ·rw[zGt];simp
 ·simp
theorem z3y {p:Prd} {x:wA} {r:Rep} (h:(p.legs r.inst).2.2=false):pU p x r=[r]:=by
 rw[pU,yVj (by rw[h];decide)]
theorem zVe {p:Prd} {x:wA} {r:Rep} (h:(p.legs r.inst).2.2=true):pU p x r=r::zGt p r (wJ p r.inst x).1 (wJ p r.inst x).2:=by
 rw[pU,yVl h]
theorem StI'.out_len (i:StI'):∀j,(i.out j).length≤3*j
 |0=>yWj _
 |j+1=>by
  have ih:=StI'.out_len i j
  rw[StI'.out]at ih ⊢
  rw[yWs,yXg,yVm]
  cases e:i.x.fills[j]? with
  |none=>simp only[Option.toList_none,y0l,yXk];omega
  |some f=>
   have:=zIs i.m.p i.x (zBz f)
   simp only[yYw,yWu,y0l,yWg]
   omega
theorem StI'.out_succ (i:StI') {j:Nat} {f:dR} (h:i.x.fills[j]? =some f):i.out (j+1)=i.out j++pU i.m.p i.x (zBz f):=by
 rw[StI'.out,StI'.out,yWs,yXg,h]
 simp
theorem yOd (i:StI') (h:mstepC.cnd i):yBc i:=by
 obtain⟨hf,hpr,hl,hcs,hfs⟩:i.m.fine∧yO i.x.price∧i.x.fills.length≤1000000∧(i.c.side=1∨i.c.side=2)∧∀f∈i.x.fills,f.side=1∨f.side=2:=h
 have e4:(i.x.fills.map yR).length=i.x.fills.length:=yVk ..
 unfold yBc bK l8 lT lQ gN g9 qH dI
 refine⟨0,rfl,rfl,fun j=>j≤i.x.fills.length,fun j=>i.x.fills.length-j,yXf _,?_⟩
 intro j hj
 have ho:=i.out_len j
 have e5:((i.out j).map qB).length=(i.out j).length:=yVk ..
 refine zJ (fun c=> ?_) (fun c=> ?_)
 ·obtain⟨f,hfj⟩:=yD (l:=i.x.fills) (i:=j) (by omega)
  have hos:=i.out_succ hfj
  have hfj2:=hfs f (yVv hfj)
  refine⟨⟨by omega,by omega⟩,_,_,_,_,_,_,ySw hfj,by omega,⟨i.m,f.inst⟩,rfl,rfl,rfl,rfl,rfl,rfl,rfl,rfl,rfl,rfl,rfl,rfl,rfl,rfl,hf,fun _ _=>Cv.cnd.mk (fun e=> ?_) (fun e=> ?_)⟩
  ·have e:(i.m.p.legs (zBz f).inst).2.2=true:=e
   rw[zVe e]at hos
   refine⟨⟨i.m,f.inst,i.x⟩,rfl,rfl,rfl,rfl,rfl,rfl,rfl,rfl,rfl,rfl,rfl,rfl,rfl,rfl,rfl,rfl,rfl,rfl,⟨hf,hpr,hl⟩,fun _ _=>⟨⟨i.m,zBz f,(wJ i.m.p f.inst i.x).1,(wJ i.m.p f.inst i.x).2⟩,rfl,rfl,rfl,rfl,rfl,rfl,rfl,rfl,rfl,rfl,rfl,rfl,rfl,rfl,rfl,rfl,rfl,rfl,rfl,rfl,rfl,rfl,rfl,⟨hf,hfj2⟩,fun _ _=>⟨trivial,by rw[yVm,e5];simp only[yVt,yXk];omega,j+1,wjn (by omega),?_,by omega,by dsimp only;omega,by(repeat'(first|exact trivial|exact rfl|apply And.intro))⟩⟩⟩
   rw[hos,yVu,yVq]
   rfl
  ·have e:(i.m.p.legs (zBz f).inst).2.2=false:=e
   rw[z3y e]at hos
   refine⟨j+1,wjn (by omega),?_,by omega,by dsimp only;omega,by(repeat'(first|exact trivial|exact rfl|apply And.intro))⟩
   rw[hos,yVu];rfl
 ·have hj:j=i.x.fills.length:=by omega
  have ho2:i.x.fills.flatMap (fun f=>pU i.m.p i.x (zBz f))=i.out j:=by rw[StI'.out,hj,yVx (yWj _)]
  have hR:aP i.m.p i.c i.x i.left=i.out j++pU i.m.p i.x ⟨3,i.c.id,i.c.inst,i.c.side,i.x.price,i.x.qty,i.left,0⟩:=by rw[aP,ho2]
  refine⟨by omega,⟨i.m,i.c.inst⟩,rfl,rfl,rfl,rfl,rfl,rfl,rfl,rfl,rfl,rfl,rfl,rfl,rfl,rfl,hf,fun _ _=>Cv.cnd.mk (fun e=> ?_) (fun e=> ?_)⟩
  ·have e:(i.m.p.legs (⟨3,i.c.id,i.c.inst,i.c.side,i.x.price,i.x.qty,i.left,0⟩:Rep).inst).2.2=true:=e
   rw[zVe e]at hR
   refine⟨⟨i.m,i.c.inst,i.x⟩,rfl,rfl,rfl,rfl,rfl,rfl,rfl,rfl,rfl,rfl,rfl,rfl,rfl,rfl,rfl,rfl,rfl,rfl,⟨hf,hpr,hl⟩,fun _ _=>⟨⟨i.m,⟨3,i.c.id,i.c.inst,i.c.side,i.x.price,i.x.qty,i.left,0⟩,(wJ i.m.p i.c.inst i.x).1,(wJ i.m.p i.c.inst i.x).2⟩,rfl,rfl,rfl,rfl,rfl,rfl,rfl,rfl,rfl,rfl,rfl,rfl,rfl,rfl,rfl,rfl,rfl,rfl,rfl,rfl,rfl,rfl,rfl,⟨hf,hcs⟩,fun _ _=>⟨trivial,by rw[yVm,e5];simp only[yVt,yXk];omega,?_⟩⟩⟩
   rw[hR,yVu,yVq]
   exact kp
  ·have e:(i.m.p.legs (⟨3,i.c.id,i.c.inst,i.c.side,i.x.price,i.x.qty,i.left,0⟩:Rep).inst).2.2=false:=e
   rw[z3y e]at hR
   rw[hR,yVu]
   exact kp
theorem z8c:mstepC.ok Tryz.prog 155:=okw mixed (gokc yKs (gokc zYn (gokc zXq gok0))) 1 (fun _=>[]) (fun i=>yLa i) [] Tryz.func155 yOd
open Go Cv Go.Proofs
structure EnI where
 m:Mkt
 p:Prd
 B:List (List zI)
 U:List Int
 c:Cmd
 X:MkX
@[reducible] def EnI.std (i:EnI):Prop:=i.m.Rep i.p i.B i.U∧BOk i.p i.B
@[reducible] def EnI.good (i:EnI):Prop:=(0≤i.c.inst∧i.c.inst<i.B.length)∧(1≤i.c.qty∧i.c.qty≤1000000)∧(i.c.side=1∨i.c.side=2)
@[reducible] def zSc (X:MkX) (p:Prd):Alt:={o:=Mkt,res:=fun _=> .own 5,post:=fun o=>zAs o++[zWi X.R],rel:=fun o=>o.Rep p X.B X.U}
def enterC:Con where
 ι:=EnI
 pat:=fun i=>[.nm 0 0,zLy i.c]
 pre:=fun i=>zAs i.m
 cnd:=fun i=>i.std∧i.good∧i.p.price i.c.inst i.c.price=0∧i.X=aL i.p i.B i.U i.c
 alts:=fun i=>[zSc i.X i.p]
structure EnJ where
 left:Int
 k:Nat
 out:List Rep
def yOa (i:EnI):List SAnn:=[{ι:=EnJ,slots:=fun j=>[(5,.own 0),(8,zA j.left),(51,zA j.k)],rows:=fun j=>[zWi j.out]}]
def orderC:Con where
 ι:=EnI
 pat:=fun i=>[.nm 0 0,zLy i.c]
 pre:=fun i=>zAs i.m
 cnd:=fun i=>i.std∧i.c.right=0∧i.c.kind=1∧i.X=sE i.p i.B i.U i.c
 alts:=fun i=>[zSc i.X i.p]
def yMh:List (Nat×SAnn):=[(22,ij 6),(44,bj 47),(52,bj 69)]
structure CaI where
 m:Mkt
 p:Prd
 B:List (List zI)
 U:List Int
 id:Int
 q:Int
 inst:Int
 o:zI
 X:MkX
@[reducible] def CaI.std (i:CaI):Prop:=i.m.Rep i.p i.B i.U∧BOk i.p i.B
def cancelC:Con where
 ι:=CaI
 pat:=fun i=>[.nm 0 0,zA i.id,zA i.inst,z6y i.o]
 pre:=fun i=>zAs i.m
 cnd:=fun i=>i.std∧i.X=aF i.B i.U i.id i.inst i.o
 alts:=fun i=>[zSc i.X i.p]
def reduceC:Con where
 ι:=CaI
 pat:=fun i=>[.nm 0 0,zA i.id,zA i.q,zA i.inst,z6y i.o]
 pre:=fun i=>zAs i.m
 cnd:=fun i=>i.std∧yO (i.o.qty-i.q)∧i.X=zBw i.B i.U i.id i.q i.inst i.o
 alts:=fun i=>[zSc i.X i.p]
structure z5s where
 m:Mkt
 p:Prd
 B:List (List zI)
 U:List Int
 c:Cmd
 inst:Int
 o:zI
 X:MkX
def replaceC:Con where
 ι:=z5s
 pat:=fun i=>[.nm 0 0,zLy i.c,zA i.inst,z6y i.o]
 pre:=fun i=>zAs i.m
 cnd:=fun i=>i.m.Rep i.p i.B i.U∧BOk i.p i.B∧yG i.B i.c.id=(i.inst,i.o,true)∧(1≤i.c.qty∧i.c.qty≤1000000)∧i.X=bV i.p i.B i.U i.c i.inst i.o
 alts:=fun i=>[zSc i.X i.p]
def doC:Con where
 ι:=EnI
 pat:=fun i=>[.nm 0 0,zLy i.c]
 pre:=fun i=>[pX i.m]
 cnd:=fun i=>i.std∧i.c.label.length≤140737488355328∧yO i.c.qty∧i.X=doF i.p i.B i.U i.c
 alts:=fun i=>[{o:=Mkt,res:=fun _=> .own 1,post:=fun o=>[pX o,zWi i.X.R],rel:=fun o=>o.Rep i.p i.X.B i.X.U}]
structure MfI where
 m:Mkt
 p:Prd
 B:List (List zI)
 U:List Int
 id:Int
def mcountC:Con:=con1 MfI (fun i=>[.nm 0 0]) (fun i=>[pX i.m]) (fun i=>i.m.Rep i.p i.B i.U∧BOk i.p i.B) (fun i=>zA (zRh i.B)) (fun i=>[pX i.m])
open Go Cv Go.Proofs
def lI (a:Mkt) (b:EnI) (c:EnJ):Prop:=yA a.used=gM (Value.int IntKind.i64 b.c.id) [D.v (.bool true)] (yA b.m.used)∧AObj.fro 1 (iE a.p.months)=yZ b.m 3∧AObj.fro 1 (iE a.p.settle)=yZ b.m 4∧List.map qB b.X.R=List.map qB c.out∧a.Rep b.p b.X.B b.X.U
def vJ (a:EnI):=(D.v (Value.string (sb a.c.label)))
def yAr (i:EnI):Prop:=
 (∀(a:Value×List D),a∈yA i.m.used→like (Value.int IntKind.i64 i.c.id) a.fst=true)∧∃(a:RunI),a.inst=i.c.inst∧zC a.sd=i.c.side∧a.price=i.c.price∧a.q=i.c.qty∧zD a.s=yZ i.m 1∧(qN a)∧∀(b:MSt),b.Rep a.p a.r.B→∃(c:EnJ),c.left=i.c.qty∧(↑c.k:Int)=0∧List.map qB c.out=[[dI 1,dI i.c.id,dI i.c.inst,dI i.c.side,dI i.c.price,dI i.c.qty,dI i.c.qty,dI 0]]∧∃(d:EnJ→Prop),∃(e:EnJ→Nat),d c∧∀(f:EnJ),d f→cnd (decide ((↑f.k:Int)<(↑(List.map jW a.r.steps).length:Int))) ((0≤(↑f.k:Int)∧(↑f.k:Int)<(↑(List.map jW a.r.steps).length:Int))∧∃(g:Int),∃(h:Int),∃(j:Bool),∃(k:List (List D)),zE (List.map jW a.r.steps) (↑f.k:Int).toNat 0 4=some [dI g,dI h,D.v (.bool j),D.ro 6 k]∧∃(l:StI'),l.c.kind=i.c.kind∧l.c.id=i.c.id∧l.c.inst=i.c.inst∧l.c.side=i.c.side∧l.c.price=i.c.price∧l.c.qty=i.c.qty∧l.c.least=i.c.least∧l.c.time=i.c.time∧sb l.c.label=sb i.c.label∧l.x.price=g∧l.x.qty=h∧l.x.implied=j∧List.map yR l.x.fills=k∧l.left=IntKind.i64.wrap (f.left-h)∧sb l.m.p.code=sb i.m.p.code∧l.m.p.tick=i.m.p.tick∧l.m.p.low=i.m.p.low∧l.m.p.high=i.m.p.high∧l.m.p.wide=i.m.p.wide∧l.m.p.rule=i.m.p.rule∧l.m.p.top=i.m.p.top∧l.m.p.least=i.m.p.least∧l.m.p.part=i.m.p.part∧zD l.m.s=zD b∧yA l.m.used=gM (Value.int IntKind.i64 i.c.id) [D.v (.bool true)] (yA i.m.used)∧AObj.fro 1 (iE l.m.p.months)=yZ i.m 3∧AObj.fro 1 (iE l.m.p.settle)=yZ i.m 4∧((l.m.p.check=0∧l.m.p.code.length≤1099511627776∧l.m.p.months.length≤1099511627776∧l.m.p.settle.length≤1099511627776)∧((-9223372036854775808)≤l.x.price∧l.x.price≤9223372036854775807)∧l.x.fills.length≤1000000∧(l.c.side=1∨l.c.side=2)∧∀(m:dR),m∈l.x.fills→m.side=1∨m.side=2)∧∀(m:Unit),True→((List.map qB f.out).length+(List.map qB (aP l.m.p l.c l.x l.left)).length)*(64:Nat)≤(140737488355328:Nat)∧∃(n:EnJ),n.left=IntKind.i64.wrap (f.left-h)∧(↑n.k:Int)=IntKind.i64.wrap ((↑f.k:Int)+1)∧List.map qB n.out=List.map qB f.out++List.map qB (aP l.m.p l.c l.x l.left)∧d n∧e n<e f∧zD l.m.s=zD b∧AObj.own 260 4 (List.map jW a.r.steps)=AObj.own 260 4 (List.map jW a.r.steps)∧Sx.AObj.cells [V.d (dI i.c.kind),V.d (dI i.c.id),V.d (dI i.c.inst),V.d (dI i.c.side),V.d (dI i.c.price),V.d (dI i.c.qty),V.d (dI i.c.least),V.d (dI i.c.time),V.d (vJ i)] 36=Sx.AObj.cells [V.d (dI i.c.kind),V.d (dI i.c.id),V.d (dI i.c.inst),V.d (dI i.c.side),V.d (dI i.c.price),V.d (dI i.c.qty),V.d (dI i.c.least),V.d (dI i.c.time),V.d (vJ i)] 36∧Sx.AObj.cells (gY (bQ 5 ((5:Nat)+(1:Nat)+1+((2:Nat)-(1:Nat))+(1:Nat)+(1:Nat)+1) ((6:Nat)-(5:Nat)) [((2:Nat),(2:Nat)),((1:Nat),(1:Nat)),((4:Nat),(4:Nat)),((3:Nat),(3:Nat)),((0:Nat),(0:Nat))]) [sV l.m.p.code,V.own 3,zA l.m.p.tick,zA l.m.p.low,zA l.m.p.high,zA l.m.p.wide,zA l.m.p.rule,zA l.m.p.top,zA l.m.p.least,zA l.m.p.part,V.own 4,V.nm 1 0,V.mp 2]) (121:TypeId)=yZ i.m 0∧Sx.AObj.map (yA l.m.used)=Sx.AObj.map (gM (Value.int IntKind.i64 i.c.id) [D.v (.bool true)] (yA i.m.used))∧AObj.fro 1 (iE l.m.p.months)=yZ i.m 3∧AObj.fro 1 (iE l.m.p.settle)=yZ i.m 4) (cnd (a.r.left==0) (∃(g:Mkt),sb g.p.code=sb i.m.p.code∧g.p.tick=i.m.p.tick∧g.p.low=i.m.p.low∧g.p.high=i.m.p.high∧g.p.wide=i.m.p.wide∧g.p.rule=i.m.p.rule∧g.p.top=i.m.p.top∧g.p.least=i.m.p.least∧g.p.part=i.m.p.part∧zD g.s=zD b∧lI g i f) (cnd (i.c.time==1) (∃(g:SaI),g.inst=i.c.inst∧g.id=i.c.id∧zC g.sd=i.c.side∧g.price=i.c.price∧g.qty=a.r.left∧zD g.s=zD b∧((g.s.p.code.length≤1099511627776∧g.s.p.months.length≤1099511627776∧g.s.p.settle.length≤1099511627776)∧g.s.books.length≤1000000∧∀(h:Book),h∈g.s.books→(h.a.slots.length≤1000000∧(h.a.free≠0→∃(j:Slot),j∈h.a.slots∧j.used=false)∧∀(j:dJ),j∈h.a.queues→j.last=(-1)∨0≤j.last∧j.last<(↑h.a.slots.length:Int))∧h.a.queues.length≤100000∧h.buys.length≤100000∧h.sells.length≤100000∧h.spare.length≤100000)∧∀(h:Unit),True→∃(j:Mkt),sb j.p.code=sb i.m.p.code∧j.p.tick=i.m.p.tick∧j.p.low=i.m.p.low∧j.p.high=i.m.p.high∧j.p.wide=i.m.p.wide∧j.p.rule=i.m.p.rule∧j.p.top=i.m.p.top∧j.p.least=i.m.p.least∧j.p.part=i.m.p.part∧zD j.s=zD (MSt.addF g).fst∧lI j i f) (((List.map qB f.out).length+1)*(64:Nat)≤(140737488355328:Nat)∧∃(g:Mkt),sb g.p.code=sb i.m.p.code∧g.p.tick=i.m.p.tick∧g.p.low=i.m.p.low∧g.p.high=i.m.p.high∧g.p.wide=i.m.p.wide∧g.p.rule=i.m.p.rule∧g.p.top=i.m.p.top∧g.p.least=i.m.p.least∧g.p.part=i.m.p.part∧zD g.s=zD b∧yA g.used=gM (Value.int IntKind.i64 i.c.id) [D.v (.bool true)] (yA i.m.used)∧AObj.fro 1 (iE g.p.months)=yZ i.m 3∧AObj.fro 1 (iE g.p.settle)=yZ i.m 4∧List.map qB i.X.R=List.map qB f.out++[[dI 4,dI i.c.id,dI i.c.inst,dI i.c.side,dI i.c.price,dI a.r.left,dI 0,dI 0]]∧g.Rep i.p i.X.B i.X.U)))
def zEn (a:EnI):Prop:=Sx.AObj.cells [V.d (dI a.c.kind),V.d (dI a.c.id),V.d (dI a.c.inst),V.d (dI a.c.side),V.d (dI a.c.price),V.d (dI a.c.qty),V.d (dI a.c.least),V.d (dI a.c.time),V.d (vJ a)] 36=Sx.AObj.cells [V.d (dI a.c.kind),V.d (dI a.c.id),V.d (dI a.c.inst),V.d (dI a.c.side),V.d (dI a.c.price),V.d (dI a.c.qty),V.d (dI a.c.least),V.d (dI a.c.time),V.d (vJ a)] 36∧yZ a.m 0=yZ a.m 0∧yZ a.m 2=yZ a.m 2∧yZ a.m 3=yZ a.m 3∧yZ a.m 4=yZ a.m 4
def zFa (a:Bool→Prop) (b:SoI) (c:EnI):Prop:=∃(d:Bool),d=false∧a d∧zD b.s=zD b.s∧zEn c
def zDl (a:Int→Prop) (b:Int) (c:EnI):Prop:=a b∧Sx.AObj.cells [V.d (dI c.c.kind),V.d (dI c.c.id),V.d (dI c.c.inst),V.d (dI c.c.side),V.d (dI c.c.price),V.d (dI c.c.qty),V.d (dI c.c.least),V.d (dI c.c.time),V.d (vJ c)] 36=Sx.AObj.cells [V.d (dI c.c.kind),V.d (dI c.c.id),V.d (dI c.c.inst),V.d (dI c.c.side),V.d (dI c.c.price),V.d (dI c.c.qty),V.d (dI c.c.least),V.d (dI c.c.time),V.d (vJ c)] 36∧yZ c.m 0=yZ c.m 0∧yZ c.m 1=yZ c.m 1∧yZ c.m 2=yZ c.m 2∧yZ c.m 3=yZ c.m 3∧yZ c.m 4=yZ c.m 4
def zDo (a:Bool→Prop) (b:Bool) (c:RunI) (d:SoI) (e:EnI):Prop:=a b∧zD c.s=zD d.s∧zEn e
def zAk (a:Mkt) (b:EnI) (c:RjI):Prop:=yA a.used=yA b.m.used∧AObj.fro 1 (iE a.p.months)=yZ b.m 3∧AObj.fro 1 (iE a.p.settle)=yZ b.m 4∧List.map qB b.X.R=[qB (Rep.mk 2 c.c.id 0 0 0 0 0 c.why)]∧a.Rep b.p b.X.B b.X.U
def lU (a:EnI) (b:RjI):Prop:=True∧∀(c:Unit),True→∃(d:Mkt),sb d.p.code=sb a.m.p.code∧d.p.tick=a.m.p.tick∧d.p.low=a.m.p.low∧d.p.high=a.m.p.high∧d.p.wide=a.m.p.wide∧d.p.rule=a.m.p.rule∧d.p.top=a.m.p.top∧d.p.least=a.m.p.least∧d.p.part=a.m.p.part∧zD d.s=yZ a.m 1∧zAk d a b
def nZ (a:EnI) (b:SoI) (c:RjI):Prop:=True∧∀(d:Unit),True→∃(e:Mkt),sb e.p.code=sb a.m.p.code∧e.p.tick=a.m.p.tick∧e.p.low=a.m.p.low∧e.p.high=a.m.p.high∧e.p.wide=a.m.p.wide∧e.p.rule=a.m.p.rule∧e.p.top=a.m.p.top∧e.p.least=a.m.p.least∧e.p.part=a.m.p.part∧zD e.s=zD b.s∧zAk e a c
def m7 (a:EnI) (b:EnI):Prop:=∀(c:Mkt),c.Rep a.p a.X.B a.X.U→∃(d:Mkt),sb d.p.code=sb c.p.code∧d.p.tick=c.p.tick∧d.p.low=c.p.low∧d.p.high=c.p.high∧d.p.wide=c.p.wide∧d.p.rule=c.p.rule∧d.p.top=c.p.top∧d.p.least=c.p.least∧d.p.part=c.p.part∧zD d.s=zD c.s∧yA d.used=yA c.used∧AObj.fro 1 (iE d.p.months)=AObj.fro 1 (iE c.p.months)∧AObj.fro 1 (iE d.p.settle)=AObj.fro 1 (iE c.p.settle)∧List.map qB b.X.R=List.map qB a.X.R∧d.Rep b.p b.X.B b.X.U
def pP (a:EnI):Prop:=(a.m.Rep a.p a.B a.U∧BOk a.p a.B)∧((0≤a.c.inst∧a.c.inst<(↑a.B.length:Int))∧(1≤a.c.qty∧a.c.qty≤1000000)∧(a.c.side=1∨a.c.side=2))∧a.p.price a.c.inst a.c.price=0∧a.X=aL a.p a.B a.U a.c
def yDd (i:EnI):Prop:=
 ∃(a:pY),sb a.p.code=sb i.m.p.code∧iE a.p.months=iE i.m.p.months∧a.p.tick=i.m.p.tick∧a.p.low=i.m.p.low∧a.p.high=i.m.p.high∧a.p.wide=i.m.p.wide∧a.p.rule=i.m.p.rule∧a.p.top=i.m.p.top∧a.p.least=i.m.p.least∧a.p.part=i.m.p.part∧iE a.p.settle=iE i.m.p.settle∧a.a=i.c.inst∧a.b=i.c.price∧(x6 a)∧∀(b:Unit),True→cnd (a.p.price a.a a.b !=0) (∃(c:RjI),c.c.kind=i.c.kind∧c.c.id=i.c.id∧c.c.inst=i.c.inst∧c.c.side=i.c.side∧c.c.price=i.c.price∧c.c.qty=i.c.qty∧c.c.least=i.c.least∧c.c.time=i.c.time∧sb c.c.label=sb i.c.label∧c.why=a.p.price a.a a.b∧lU i c) (∃(c:Int),∃(d:Int→Prop),cnd (i.c.time==3) (∃(e:Int),e=i.c.qty∧zDl d e i) (∃(e:Int),e=i.c.least∧zDl d e i)∧∀(e:Int),d e→(∀(f:Value×List D),f∈yA i.m.used→like (Value.int IntKind.i64 i.c.id) f.fst=true)∧∃(f:Bool),∃(g:Bool),(vY (Value.int IntKind.i64 i.c.id) (yA i.m.used)=some [D.v (.bool g)]∧f=true∨vY (Value.int IntKind.i64 i.c.id) (yA i.m.used)=none∧[D.v (.bool g)]=[D.v (.bool false)]∧f=false)∧cnd g (∃(h:RjI),h.c.kind=i.c.kind∧h.c.id=i.c.id∧h.c.inst=i.c.inst∧h.c.side=i.c.side∧h.c.price=i.c.price∧h.c.qty=i.c.qty∧h.c.least=i.c.least∧h.c.time=i.c.time∧sb h.c.label=sb i.c.label∧h.why=25∧lU i h) (∃(h:SoI),zD h.s=yZ i.m 1∧(h.s.Rep h.p h.B∧h.B.length≤1000)∧∀(j:Unit),True→cnd (decide ((↑(zRh h.B):Int)≥250)) (∃(k:RjI),k.c.kind=i.c.kind∧k.c.id=i.c.id∧k.c.inst=i.c.inst∧k.c.side=i.c.side∧k.c.price=i.c.price∧k.c.qty=i.c.qty∧k.c.least=i.c.least∧k.c.time=i.c.time∧sb k.c.label=sb i.c.label∧k.why=13∧nZ i h k) (∃(k:Bool),∃(l:Bool→Prop),cnd (decide (e>0)) (∃(m:RunI),m.inst=i.c.inst∧zC m.sd=i.c.side∧m.price=i.c.price∧m.q=i.c.qty∧zD m.s=zD h.s∧(qN m)∧∀(n:Unit),True→∃(p:Bool),p=decide (m.q-m.r.left<e)∧zDo l p m h i) (zFa l h i)∧∀(m:Bool),l m→cnd m (∃(n:RjI),n.c.kind=i.c.kind∧n.c.id=i.c.id∧n.c.inst=i.c.inst∧n.c.side=i.c.side∧n.c.price=i.c.price∧n.c.qty=i.c.qty∧n.c.least=i.c.least∧n.c.time=i.c.time∧sb n.c.label=sb i.c.label∧n.why=28∧nZ i h n) (∃(n:Bool),∃(p:Bool→Prop),cnd (i.c.time==1) (∃(q:RunI),q.inst=i.c.inst∧zC q.sd=i.c.side∧q.price=i.c.price∧q.q=i.c.qty∧zD q.s=zD h.s∧(qN q)∧∀(r:Unit),True→∃(s:Bool),s=bJ q.p q.B q.inst q.sd q.price q.q∧zDo p s q h i) (zFa p h i)∧∀(q:Bool),p q→cnd q (∃(r:RjI),r.c.kind=i.c.kind∧r.c.id=i.c.id∧r.c.inst=i.c.inst∧r.c.side=i.c.side∧r.c.price=i.c.price∧r.c.qty=i.c.qty∧r.c.least=i.c.least∧r.c.time=i.c.time∧sb r.c.label=sb i.c.label∧r.why=23∧nZ i h r) (∃(r:EnI),r.c.kind=i.c.kind∧r.c.id=i.c.id∧r.c.inst=i.c.inst∧r.c.side=i.c.side∧r.c.price=i.c.price∧r.c.qty=i.c.qty∧r.c.least=i.c.least∧r.c.time=i.c.time∧sb r.c.label=sb i.c.label∧sb r.m.p.code=sb i.m.p.code∧r.m.p.tick=i.m.p.tick∧r.m.p.low=i.m.p.low∧r.m.p.high=i.m.p.high∧r.m.p.wide=i.m.p.wide∧r.m.p.rule=i.m.p.rule∧r.m.p.top=i.m.p.top∧r.m.p.least=i.m.p.least∧r.m.p.part=i.m.p.part∧zD r.m.s=zD h.s∧yA r.m.used=yA i.m.used∧AObj.fro 1 (iE r.m.p.months)=yZ i.m 3∧AObj.fro 1 (iE r.m.p.settle)=yZ i.m 4∧(pP r)∧m7 r i)))))
def yFh (i:CaI):Prop:=
 ∃(i_1:StI),i_1.id=i.id∧i_1.q=i.o.qty∧zD i_1.s=yZ i.m 1∧(i_1.s.Rep i_1.p i_1.B∧i_1.B.length≤1000)∧∀(o:MSt),o.Rep i_1.p (kK i_1.B i_1.id i_1.q).fst→∃(o_1:Mkt),sb o_1.p.code=sb i.m.p.code∧o_1.p.tick=i.m.p.tick∧o_1.p.low=i.m.p.low∧o_1.p.high=i.m.p.high∧o_1.p.wide=i.m.p.wide∧o_1.p.rule=i.m.p.rule∧o_1.p.top=i.m.p.top∧o_1.p.least=i.m.p.least∧o_1.p.part=i.m.p.part∧zD o_1.s=zD o∧yA o_1.used=yA i.m.used∧AObj.fro 1 (iE o_1.p.months)=yZ i.m 3∧AObj.fro 1 (iE o_1.p.settle)=yZ i.m 4∧List.map qB i.X.R=[[D.v (.int .i64 4),D.v (.int .i64 i.id),D.v (.int .i64 i.inst),D.v (.int .i64 i.o.side),D.v (.int .i64 i.o.price),D.v (.int .i64 i.o.qty),D.v (.int .i64 0),D.v (.int .i64 0)]]∧o_1.Rep i.p i.X.B i.X.U
def z1z (i:CaI):Prop:=
 ∃(a:StI),a.id=i.id∧a.q=i.q∧zD a.s=yZ i.m 1∧(a.s.Rep a.p a.B∧a.B.length≤1000)∧∀(b:MSt),b.Rep a.p (kK a.B a.id a.q).fst→∃(c:Mkt),sb c.p.code=sb i.m.p.code∧c.p.tick=i.m.p.tick∧c.p.low=i.m.p.low∧c.p.high=i.m.p.high∧c.p.wide=i.m.p.wide∧c.p.rule=i.m.p.rule∧c.p.top=i.m.p.top∧c.p.least=i.m.p.least∧c.p.part=i.m.p.part∧zD c.s=zD b∧yA c.used=yA i.m.used∧AObj.fro 1 (iE c.p.months)=yZ i.m 3∧AObj.fro 1 (iE c.p.settle)=yZ i.m 4∧List.map qB i.X.R=[[dI 5,dI i.id,dI i.inst,dI i.o.side,dI i.o.price,dI i.q,dI (IntKind.i64.wrap (i.o.qty-i.q)),dI 0]]∧c.Rep i.p i.X.B i.X.U
def pR (a:Mkt) (b:z5s) (c:RjI):Prop:=yA a.used=yA b.m.used∧AObj.fro 1 (iE a.p.months)=yZ b.m 3∧AObj.fro 1 (iE a.p.settle)=yZ b.m 4∧List.map qB b.X.R=[qB (Rep.mk 2 c.c.id 0 0 0 0 0 c.why)]∧a.Rep b.p b.X.B b.X.U
def l5 (a:z5s):Prop:=∃(b:MSt),zD b=yZ a.m 1∧(hP b)∧∀(c:Unit),True→∃(d:StI),d.id=a.c.id∧d.q=a.o.qty∧zD d.s=zD b∧(d.s.Rep d.p d.B∧d.B.length≤1000)∧∀(e:MSt),e.Rep d.p (kK d.B d.id d.q).fst→∃(f:RunI),f.inst=a.inst∧zC f.sd=a.o.side∧f.price=a.c.price∧f.q=a.c.qty∧zD f.s=zD e∧(qN f)∧∀(g:Unit),True→cnd (bJ f.p f.B f.inst f.sd f.price f.q) (∃(h:RjI),h.c.kind=a.c.kind∧h.c.id=a.c.id∧h.c.inst=a.c.inst∧h.c.side=a.c.side∧h.c.price=a.c.price∧h.c.qty=a.c.qty∧h.c.least=a.c.least∧h.c.time=a.c.time∧sb h.c.label=sb a.c.label∧h.why=23∧True∧∀(j:Unit),True→∃(k:Mkt),sb k.p.code=sb a.m.p.code∧k.p.tick=a.m.p.tick∧k.p.low=a.m.p.low∧k.p.high=a.m.p.high∧k.p.wide=a.m.p.wide∧k.p.rule=a.m.p.rule∧k.p.top=a.m.p.top∧k.p.least=a.m.p.least∧k.p.part=a.m.p.part∧zD k.s=zD b∧pR k a h) (∃(h:CaI),h.id=a.c.id∧h.inst=a.inst∧h.o.id=a.o.id∧h.o.side=a.o.side∧h.o.price=a.o.price∧h.o.qty=a.o.qty∧h.o.top=a.o.top∧sb h.m.p.code=sb a.m.p.code∧h.m.p.tick=a.m.p.tick∧h.m.p.low=a.m.p.low∧h.m.p.high=a.m.p.high∧h.m.p.wide=a.m.p.wide∧h.m.p.rule=a.m.p.rule∧h.m.p.top=a.m.p.top∧h.m.p.least=a.m.p.least∧h.m.p.part=a.m.p.part∧zD h.m.s=zD b∧yA h.m.used=yA a.m.used∧AObj.fro 1 (iE h.m.p.months)=yZ a.m 3∧AObj.fro 1 (iE h.m.p.settle)=yZ a.m 4∧((h.m.Rep h.p h.B h.U∧BOk h.p h.B)∧h.X=aF h.B h.U h.id h.inst h.o)∧∀(j:Mkt),j.Rep h.p h.X.B h.X.U→∃(k:EnI),k.c.kind=1∧k.c.id=a.c.id∧k.c.inst=a.inst∧k.c.side=a.o.side∧k.c.price=a.c.price∧k.c.qty=a.c.qty∧k.c.least=0∧k.c.time=1∧sb k.c.label=ByteArray.mk #[]∧sb k.m.p.code=sb j.p.code∧k.m.p.tick=j.p.tick∧k.m.p.low=j.p.low∧k.m.p.high=j.p.high∧k.m.p.wide=j.p.wide∧k.m.p.rule=j.p.rule∧k.m.p.top=j.p.top∧k.m.p.least=j.p.least∧k.m.p.part=j.p.part∧zD k.m.s=zD j.s∧yA k.m.used=yA j.used∧AObj.fro 1 (iE k.m.p.months)=AObj.fro 1 (iE j.p.months)∧AObj.fro 1 (iE k.m.p.settle)=AObj.fro 1 (iE j.p.settle)∧(pP k)∧∀(l:Mkt),l.Rep k.p k.X.B k.X.U→((List.map qB h.X.R).length+(List.map qB k.X.R).length)*(64:Nat)≤(140737488355328:Nat)∧∃(m:Mkt),sb m.p.code=sb l.p.code∧m.p.tick=l.p.tick∧m.p.low=l.p.low∧m.p.high=l.p.high∧m.p.wide=l.p.wide∧m.p.rule=l.p.rule∧m.p.top=l.p.top∧m.p.least=l.p.least∧m.p.part=l.p.part∧zD m.s=zD l.s∧yA m.used=yA l.used∧AObj.fro 1 (iE m.p.months)=AObj.fro 1 (iE l.p.months)∧AObj.fro 1 (iE m.p.settle)=AObj.fro 1 (iE l.p.settle)∧List.map qB a.X.R=List.map qB h.X.R++List.map qB k.X.R∧m.Rep a.p a.X.B a.X.U)
def dY (a:CaI):Prop:=(a.m.Rep a.p a.B a.U∧BOk a.p a.B)∧((-9223372036854775808)≤a.o.qty-a.q∧a.o.qty-a.q≤9223372036854775807)∧a.X=zBw a.B a.U a.id a.q a.inst a.o
def zUr (i:z5s):Prop:=
 ∃(a:pY),sb a.p.code=sb i.m.p.code∧iE a.p.months=iE i.m.p.months∧a.p.tick=i.m.p.tick∧a.p.low=i.m.p.low∧a.p.high=i.m.p.high∧a.p.wide=i.m.p.wide∧a.p.rule=i.m.p.rule∧a.p.top=i.m.p.top∧a.p.least=i.m.p.least∧a.p.part=i.m.p.part∧iE a.p.settle=iE i.m.p.settle∧a.a=i.inst∧a.b=i.c.price∧(x6 a)∧∀(b:Unit),True→cnd (a.p.price a.a a.b !=0) (∃(c:RjI),c.c.kind=i.c.kind∧c.c.id=i.c.id∧c.c.inst=i.c.inst∧c.c.side=i.c.side∧c.c.price=i.c.price∧c.c.qty=i.c.qty∧c.c.least=i.c.least∧c.c.time=i.c.time∧sb c.c.label=sb i.c.label∧c.why=a.p.price a.a a.b∧True∧∀(d:Unit),True→∃(e:Mkt),sb e.p.code=sb i.m.p.code∧e.p.tick=i.m.p.tick∧e.p.low=i.m.p.low∧e.p.high=i.m.p.high∧e.p.wide=i.m.p.wide∧e.p.rule=i.m.p.rule∧e.p.top=i.m.p.top∧e.p.least=i.m.p.least∧e.p.part=i.m.p.part∧zD e.s=yZ i.m 1∧pR e i c) (cnd (i.c.price==i.o.price) (cnd (decide (i.c.qty≤i.o.qty)) (∃(c:CaI),c.id=i.c.id∧c.q=IntKind.i64.wrap (i.o.qty-i.c.qty)∧c.inst=i.inst∧c.o.id=i.o.id∧c.o.side=i.o.side∧c.o.price=i.o.price∧c.o.qty=i.o.qty∧c.o.top=i.o.top∧sb c.m.p.code=sb i.m.p.code∧c.m.p.tick=i.m.p.tick∧c.m.p.low=i.m.p.low∧c.m.p.high=i.m.p.high∧c.m.p.wide=i.m.p.wide∧c.m.p.rule=i.m.p.rule∧c.m.p.top=i.m.p.top∧c.m.p.least=i.m.p.least∧c.m.p.part=i.m.p.part∧zD c.m.s=yZ i.m 1∧yA c.m.used=yA i.m.used∧AObj.fro 1 (iE c.m.p.months)=yZ i.m 3∧AObj.fro 1 (iE c.m.p.settle)=yZ i.m 4∧(dY c)∧∀(d:Mkt),d.Rep c.p c.X.B c.X.U→∃(e:Mkt),sb e.p.code=sb d.p.code∧e.p.tick=d.p.tick∧e.p.low=d.p.low∧e.p.high=d.p.high∧e.p.wide=d.p.wide∧e.p.rule=d.p.rule∧e.p.top=d.p.top∧e.p.least=d.p.least∧e.p.part=d.p.part∧zD e.s=zD d.s∧yA e.used=yA d.used∧AObj.fro 1 (iE e.p.months)=AObj.fro 1 (iE d.p.months)∧AObj.fro 1 (iE e.p.settle)=AObj.fro 1 (iE d.p.settle)∧List.map qB i.X.R=List.map qB c.X.R∧e.Rep i.p i.X.B i.X.U) (l5 i)) (l5 i))
def zPg (a:CaI) (b:EnI):Prop:=∀(c:Mkt),c.Rep a.p a.X.B a.X.U→∃(d:Mkt),sb d.p.code=sb c.p.code∧d.p.tick=c.p.tick∧d.p.low=c.p.low∧d.p.high=c.p.high∧d.p.wide=c.p.wide∧d.p.rule=c.p.rule∧d.p.top=c.p.top∧d.p.least=c.p.least∧d.p.part=c.p.part∧zD d.s=zD c.s∧yA d.used=yA c.used∧AObj.fro 1 (iE d.p.months)=AObj.fro 1 (iE c.p.months)∧AObj.fro 1 (iE d.p.settle)=AObj.fro 1 (iE c.p.settle)∧List.map qB b.X.R=List.map qB a.X.R∧d.Rep b.p b.X.B b.X.U
def zPp (a:Mkt) (b:EnI) (c:RjI):Prop:=yA a.used=yA b.m.used∧AObj.fro 1 (iE a.p.months)=AObj.fro 1 (iE b.m.p.months)∧AObj.fro 1 (iE a.p.settle)=AObj.fro 1 (iE b.m.p.settle)∧List.map qB b.X.R=[qB (Rep.mk 2 c.c.id 0 0 0 0 0 c.why)]∧a.Rep b.p b.X.B b.X.U
def zZf (a:EnI) (b:StI):Prop:=∃(c:CaI),c.id=a.c.id∧c.inst=(yG b.B b.id).fst∧c.o.id=(yG b.B b.id).snd.fst.id∧c.o.side=(yG b.B b.id).snd.fst.side∧c.o.price=(yG b.B b.id).snd.fst.price∧c.o.qty=(yG b.B b.id).snd.fst.qty∧c.o.top=(yG b.B b.id).snd.fst.top∧sb c.m.p.code=sb a.m.p.code∧c.m.p.tick=a.m.p.tick∧c.m.p.low=a.m.p.low∧c.m.p.high=a.m.p.high∧c.m.p.wide=a.m.p.wide∧c.m.p.rule=a.m.p.rule∧c.m.p.top=a.m.p.top∧c.m.p.least=a.m.p.least∧c.m.p.part=a.m.p.part∧zD c.m.s=zD b.s∧yA c.m.used=yA a.m.used∧AObj.fro 1 (iE c.m.p.months)=AObj.fro 1 (iE a.m.p.months)∧AObj.fro 1 (iE c.m.p.settle)=AObj.fro 1 (iE a.m.p.settle)∧((c.m.Rep c.p c.B c.U∧BOk c.p c.B)∧c.X=aF c.B c.U c.id c.inst c.o)∧zPg c a
def yDm (a:EnI):Prop:=∃(b:StI),b.id=a.c.id∧zD b.s=zD a.m.s∧(b.s.Rep b.p b.B∧b.B.length≤1000)∧∀(c:Unit),True→cnd (!(yG b.B b.id).snd.snd) (∃(d:RjI),d.c.kind=a.c.kind∧d.c.id=a.c.id∧d.c.inst=a.c.inst∧d.c.side=a.c.side∧d.c.price=a.c.price∧d.c.qty=a.c.qty∧d.c.least=a.c.least∧d.c.time=a.c.time∧sb d.c.label=sb a.c.label∧d.why=26∧True∧∀(e:Unit),True→∃(f:Mkt),sb f.p.code=sb a.m.p.code∧f.p.tick=a.m.p.tick∧f.p.low=a.m.p.low∧f.p.high=a.m.p.high∧f.p.wide=a.m.p.wide∧f.p.rule=a.m.p.rule∧f.p.top=a.m.p.top∧f.p.least=a.m.p.least∧f.p.part=a.m.p.part∧zD f.s=zD b.s∧zPp f a d) (cnd (a.c.kind==4) (∃(d:z5s),d.c.kind=a.c.kind∧d.c.id=a.c.id∧d.c.inst=a.c.inst∧d.c.side=a.c.side∧d.c.price=a.c.price∧d.c.qty=a.c.qty∧d.c.least=a.c.least∧d.c.time=a.c.time∧sb d.c.label=sb a.c.label∧d.inst=(yG b.B b.id).fst∧d.o.id=(yG b.B b.id).snd.fst.id∧d.o.side=(yG b.B b.id).snd.fst.side∧d.o.price=(yG b.B b.id).snd.fst.price∧d.o.qty=(yG b.B b.id).snd.fst.qty∧d.o.top=(yG b.B b.id).snd.fst.top∧sb d.m.p.code=sb a.m.p.code∧d.m.p.tick=a.m.p.tick∧d.m.p.low=a.m.p.low∧d.m.p.high=a.m.p.high∧d.m.p.wide=a.m.p.wide∧d.m.p.rule=a.m.p.rule∧d.m.p.top=a.m.p.top∧d.m.p.least=a.m.p.least∧d.m.p.part=a.m.p.part∧zD d.m.s=zD b.s∧yA d.m.used=yA a.m.used∧AObj.fro 1 (iE d.m.p.months)=AObj.fro 1 (iE a.m.p.months)∧AObj.fro 1 (iE d.m.p.settle)=AObj.fro 1 (iE a.m.p.settle)∧(d.m.Rep d.p d.B d.U∧BOk d.p d.B∧yG d.B d.c.id=(d.inst,d.o,true)∧(1≤d.c.qty∧d.c.qty≤1000000)∧d.X=bV d.p d.B d.U d.c d.inst d.o)∧∀(e:Mkt),e.Rep d.p d.X.B d.X.U→∃(f:Mkt),sb f.p.code=sb e.p.code∧f.p.tick=e.p.tick∧f.p.low=e.p.low∧f.p.high=e.p.high∧f.p.wide=e.p.wide∧f.p.rule=e.p.rule∧f.p.top=e.p.top∧f.p.least=e.p.least∧f.p.part=e.p.part∧zD f.s=zD e.s∧yA f.used=yA e.used∧AObj.fro 1 (iE f.p.months)=AObj.fro 1 (iE e.p.months)∧AObj.fro 1 (iE f.p.settle)=AObj.fro 1 (iE e.p.settle)∧List.map qB a.X.R=List.map qB d.X.R∧f.Rep a.p a.X.B a.X.U) (cnd (a.c.kind==2) (zZf a b) (cnd (decide (a.c.qty≥(yG b.B b.id).snd.fst.qty)) (zZf a b) (∃(d:CaI),d.id=a.c.id∧d.q=a.c.qty∧d.inst=(yG b.B b.id).fst∧d.o.id=(yG b.B b.id).snd.fst.id∧d.o.side=(yG b.B b.id).snd.fst.side∧d.o.price=(yG b.B b.id).snd.fst.price∧d.o.qty=(yG b.B b.id).snd.fst.qty∧d.o.top=(yG b.B b.id).snd.fst.top∧sb d.m.p.code=sb a.m.p.code∧d.m.p.tick=a.m.p.tick∧d.m.p.low=a.m.p.low∧d.m.p.high=a.m.p.high∧d.m.p.wide=a.m.p.wide∧d.m.p.rule=a.m.p.rule∧d.m.p.top=a.m.p.top∧d.m.p.least=a.m.p.least∧d.m.p.part=a.m.p.part∧zD d.m.s=zD b.s∧yA d.m.used=yA a.m.used∧AObj.fro 1 (iE d.m.p.months)=AObj.fro 1 (iE a.m.p.months)∧AObj.fro 1 (iE d.m.p.settle)=AObj.fro 1 (iE a.m.p.settle)∧(dY d)∧zPg d a))))
def Vdo (i:EnI):Prop:=
 ∃(a:Cmd),a.kind=i.c.kind∧a.id=i.c.id∧a.inst=i.c.inst∧a.side=i.c.side∧a.price=i.c.price∧a.qty=i.c.qty∧a.least=i.c.least∧a.time=i.c.time∧sb a.label=sb i.c.label∧a.label.length≤140737488355328∧∀(b:Unit),True→cnd (a.right !=0) (∃(c:RjI),c.c.kind=i.c.kind∧c.c.id=i.c.id∧c.c.inst=i.c.inst∧c.c.side=i.c.side∧c.c.price=i.c.price∧c.c.qty=i.c.qty∧c.c.least=i.c.least∧c.c.time=i.c.time∧sb c.c.label=sb i.c.label∧c.why=a.right∧True∧∀(d:Unit),True→∃(e:Mkt),sb e.p.code=sb i.m.p.code∧e.p.tick=i.m.p.tick∧e.p.low=i.m.p.low∧e.p.high=i.m.p.high∧e.p.wide=i.m.p.wide∧e.p.rule=i.m.p.rule∧e.p.top=i.m.p.top∧e.p.least=i.m.p.least∧e.p.part=i.m.p.part∧zD e.s=zD i.m.s∧zPp e i c) (cnd (i.c.kind==1) (∃(c:EnI),c.c.kind=i.c.kind∧c.c.id=i.c.id∧c.c.inst=i.c.inst∧c.c.side=i.c.side∧c.c.price=i.c.price∧c.c.qty=i.c.qty∧c.c.least=i.c.least∧c.c.time=i.c.time∧sb c.c.label=sb i.c.label∧sb c.m.p.code=sb i.m.p.code∧c.m.p.tick=i.m.p.tick∧c.m.p.low=i.m.p.low∧c.m.p.high=i.m.p.high∧c.m.p.wide=i.m.p.wide∧c.m.p.rule=i.m.p.rule∧c.m.p.top=i.m.p.top∧c.m.p.least=i.m.p.least∧c.m.p.part=i.m.p.part∧zD c.m.s=zD i.m.s∧yA c.m.used=yA i.m.used∧AObj.fro 1 (iE c.m.p.months)=AObj.fro 1 (iE i.m.p.months)∧AObj.fro 1 (iE c.m.p.settle)=AObj.fro 1 (iE i.m.p.settle)∧((c.m.Rep c.p c.B c.U∧BOk c.p c.B)∧c.c.right=0∧c.c.kind=1∧c.X=sE c.p c.B c.U c.c)∧m7 c i) ((yDm i)∧i.c.id=i.c.id∧True∧yDm i))
def yEl (i:MfI):Prop:=
 ∃(i_1:SoI),zD i_1.s=zD i.m.s∧(i_1.s.Rep i_1.p i_1.B∧i_1.B.length≤1000)∧∀(o:Unit),True→∃(o:Unit),(↑(zRh i.B):Int)=(↑(zRh i_1.B):Int)∧sb i.m.p.code=sb i.m.p.code∧i.m.p.tick=i.m.p.tick∧i.m.p.low=i.m.p.low∧i.m.p.high=i.m.p.high∧i.m.p.wide=i.m.p.wide∧i.m.p.rule=i.m.p.rule∧i.m.p.top=i.m.p.top∧i.m.p.least=i.m.p.least∧i.m.p.part=i.m.p.part∧zD i.m.s=zD i_1.s∧yA i.m.used=yA i.m.used∧AObj.fro 1 (iE i.m.p.months)=AObj.fro 1 (iE i.m.p.months)∧AObj.fro 1 (iE i.m.p.settle)=AObj.fro 1 (iE i.m.p.settle)∧True
open Go Cv Go.Proofs
theorem zFj (p:Prd) (B:List (List zI)) (U:List Int) (c:Cmd):aL p B U c=⟨if(j6 p B c.inst (decide (c.side=2)) c.price c.qty).left≠0∧c.time=1 then(zYs p (j6 p B c.inst (decide (c.side=2)) c.price c.qty).B c.inst c.id c.side c.price (j6 p B c.inst (decide (c.side=2)) c.price c.qty).left).1 else(j6 p B c.inst (decide (c.side=2)) c.price c.qty).B,zMe U c.id,
 (⟨1,c.id,c.inst,c.side,c.price,c.qty,c.qty,0⟩::nI p c (j6 p B c.inst (decide (c.side=2)) c.price c.qty).steps c.qty)++if(j6 p B c.inst (decide (c.side=2)) c.price c.qty).left≠0∧c.time≠1 then[⟨4,c.id,c.inst,c.side,c.price,(j6 p B c.inst (decide (c.side=2)) c.price c.qty).left,0,0⟩]else[]⟩:=by
 rw[aL]
theorem zNu {p:Prd} {B:List (List zI)} (h:BWf p B) (U:List Int) (c:Cmd):BOk p (aL p B U c).B:=by
 have:=(aS (inst:=c.inst) (sd:=decide (c.side=2)) (price:=c.price) _ c.qty B (yWj _) h).1.ok
 rw[zFj]
 dsimp only
 split
 ·exact this.add _ _ _ _ _
 ·exact this
theorem z4p {p:Prd} {B:List (List zI)} (h:BWf p B) (U:List Int) (c:Cmd):BOk p (sE p B U c).B:=by
 rw[sE]
 split
 ·exact h.ok
 split
 ·exact h.ok
 split
 ·exact h.ok
 split
 ·exact h.ok
 split
 ·exact h.ok
 exact zNu h U c
theorem yOi {p:Prd} {B:List (List zI)} (h:BWf p B) (U:List Int) (c:Cmd):BOk p (doF p B U c).B:=by
 rw[doF]
 split
 ·exact h.ok
 split
 ·exact z4p h U c
 split
 ·exact h.ok
 split
 ·rw[bV]
  split
  ·exact h.ok
  split
  ·exact h.ok.take _ _
  split
  ·exact h.ok
  exact zNu (h.take _ _) U _
 split
 ·exact h.ok.take _ _
 ·exact h.ok.take _ _
open Go Cv Go.Proofs
def Two (L:List zI):Prop:=L=rF L 1++rF L 2
open Go Cv Go.Proofs
open Go Cv Go.Proofs
open Go Cv Go.Proofs
theorem rL {inst s:Int} {f:dR}:∀{os:List zI} {sh:List Int},f∈xW inst s os sh→f.side=s∧f.inst=inst∧∃o∈os,f.price=o.price
 |[],sh,h=>by cases h
 |o::os,[],h=>by cases h
 |o::os,k::sh,h=>by
  rw[xW]at h
  split at h
  ·rcases yWf.1 h with rfl|h
   ·exact⟨rfl,rfl,o,yVp,rfl⟩
   ·obtain⟨a,b,o',c,d⟩:=rL h
    exact⟨a,b,o',yVr _ c,d⟩
  ·obtain⟨a,b,o',c,d⟩:=rL h
   exact⟨a,b,o',yVr _ c,d⟩
def FOk (f:dR):Prop:=(f.side=1∨f.side=2)∧-2000000≤f.price∧f.price≤2000000
theorem zDy {p:Prd} {B:List (List zI)} (h:BOk p B) (inst:Int) {s:Int} (hs:s=1∨s=2) (q:Int):∀f∈qS p B inst s q,FOk f:=by
 intro f hf
 obtain⟨a,_,o,ho,e⟩:=rL hf
 refine⟨by rw[a];exact hs,?_⟩
 rw[e]
 have ho:=(yXl.1 ho).1
 by_cases hk:inst.toNat<B.length
 ·obtain⟨L,hL⟩:=yD hk
  rw[zT hL]at ho
  exact h.prices hL o ho
 ·rw[yVs,yWk (by omega)]at ho;cases ho
def SOk (t:wA):Prop:=(-2000000≤t.price∧t.price≤2000000)∧(∀f∈t.fills,FOk f)∧t.fills.length≤500
theorem yHq {p:Prd} {B:List (List zI)} (h:BWf p B) {inst:Int} (hi:0≤inst∧inst<B.length) {s:Int} (hs:s=1∨s=2) (hn:(yQ p B inst s).2.2=true): -2000000≤(yQ p B inst s).1.price∧(yQ p B inst s).1.price≤2000000:=by
 rw[yQ]at hn ⊢
 obtain⟨L,hL⟩:=yD (l:=B) (i:=inst.toNat) (by omega)
 rw[zT hL]at hn ⊢
 split
 ·exact zRm (h.ok.prices hL)
 ·rename_i c
  rw[yVj c]at hn
  have hm:=zDd hn
  have:=(yXl.1 hm).2
  exact sI h.ok.pc (yXu this)
theorem yFz {p:Prd} {B:List (List zI)} (h:BWf p B) {inst:Int} (hi:0≤inst∧inst<B.length) {sd:Bool} {price q:Int} {t:wA} {B':List (List zI)} (e:bC p B inst sd price q=some (t,B')):SOk t:=by
 have hs:zC (!sd)=1∨zC (!sd)=2:=zBy _
 have hb:=yHq h hi hs
 have hin:=z2w h.ok h.od hi hs
 rw[bC]at e
 dsimp only at e
 split at e
 ·rename_i c
  have c1:(yQ p B inst (zC (!sd))).2.2=true:=by
   cases hx:(yQ p B inst (zC (!sd))).2.2 with
   |false=>rw[hx]at c;cases c
   |true=>rfl
  have hb:=hb c1
  obtain⟨_,hin,_⟩:=hin c1
  split at e
  ·rename_i c2
   obtain⟨_,ok⟩:=hin c2
   cases e
   refine⟨hb,fun f hf=> ?_,?_⟩
   ·rcases yWn.1 hf with hf|hf
    ·exact zDy h.ok _ ok.sa _ f hf
    ·exact zDy h.ok.takes _ ok.sb _ f hf
   ·dsimp only
    rw[yVm]
    have:=mL (p:=p) h.od (yQ p B inst (zC (!sd))).1.a.inst (yQ p B inst (zC (!sd))).1.a.side (min q (yQ p B inst (zC (!sd))).1.qty)
    have:=mL (p:=p) (h.takes (fs:=qS p B (yQ p B inst (zC (!sd))).1.a.inst (yQ p B inst (zC (!sd))).1.a.side (min q (yQ p B inst (zC (!sd))).1.qty))).od (yQ p B inst (zC (!sd))).1.b.inst (yQ p B inst (zC (!sd))).1.b.side (min q (yQ p B inst (zC (!sd))).1.qty)
    omega
  ·cases e
   refine⟨hb,fun f hf=>zDy h.ok _ hs _ f hf,?_⟩
   have:=mL (p:=p) h.od inst (zC (!sd)) (min q (yQ p B inst (zC (!sd))).1.qty)
   dsimp only
   omega
 ·cases e
open Go Cv Go.Proofs
open Go Cv Go.Proofs
def zAn (a:StI):Prop:=yU a.s.wh=yU a.s.wh∧AObj.fro 1 (iE a.s.p.months)=AObj.fro 1 (iE a.s.p.months)∧AObj.fro 1 (iE a.s.p.settle)=AObj.fro 1 (iE a.s.p.settle)∧True
def yCl (i:StI):Prop:=
 (cZ i)∧∃(a:Bool),∃(b:Int),(nK i b a)∧cnd (!a) (∃(c:Unit),(yG i.B i.id).fst=0∧(yG i.B i.id).snd.fst.id=0∧(yG i.B i.id).snd.fst.side=0∧(yG i.B i.id).snd.fst.price=0∧(yG i.B i.id).snd.fst.qty=0∧(yG i.B i.id).snd.fst.top=false∧(yG i.B i.id).snd.snd=false∧sb i.s.p.code=sb i.s.p.code∧i.s.p.tick=i.s.p.tick∧i.s.p.low=i.s.p.low∧i.s.p.high=i.s.p.high∧i.s.p.wide=i.s.p.wide∧i.s.p.rule=i.s.p.rule∧i.s.p.top=i.s.p.top∧i.s.p.least=i.s.p.least∧i.s.p.part=i.s.p.part∧AObj.objs 184 Book 6 zQ i.s.books none=AObj.objs 184 Book 6 zQ i.s.books none∧zAn i) ((0≤b∧b<(↑i.s.books.length:Int))∧b.toNat<i.s.books.length∧∃(c:Book),i.s.books[b.toNat]?=some c∧∃(d:FlI),d.id=i.id∧zZ d.b=zZ c∧d.b.Rep d.L∧∀(e:Unit),True→∃(f:Book),zZ d.b=zZ f∧b.toNat=b.toNat∧b.toNat<i.s.books.length∧∃(g:Unit),(yG i.B i.id).fst=b∧(yG i.B i.id).snd.fst.id=(fV d.L d.id).id∧(yG i.B i.id).snd.fst.side=(fV d.L d.id).side∧(yG i.B i.id).snd.fst.price=(fV d.L d.id).price∧(yG i.B i.id).snd.fst.qty=(fV d.L d.id).qty∧(yG i.B i.id).snd.fst.top=(fV d.L d.id).top∧(yG i.B i.id).snd.snd=true∧sb i.s.p.code=sb i.s.p.code∧i.s.p.tick=i.s.p.tick∧i.s.p.low=i.s.p.low∧i.s.p.high=i.s.p.high∧i.s.p.wide=i.s.p.wide∧i.s.p.rule=i.s.p.rule∧i.s.p.top=i.s.p.top∧i.s.p.least=i.s.p.least∧i.s.p.part=i.s.p.part∧AObj.objs 184 Book 6 zQ i.s.books none=AObj.objs 184 Book 6 zQ (i.s.books.set b.toNat f) none∧zAn i)
open Go Cv Go.Proofs
theorem yOr (i:StI) (h:sfindC.cnd i):yCl i:=by
 obtain⟨hR,hB⟩:i.s.Rep i.p i.B∧i.B.length≤1000:=h
 have hat:=hR.at_ i.id
 unfold yCl cZ nK zAn dI
 rw[yG]
 cases hi:bH i.B i.id with
 |none=>
  rw[hi]at hat
  exact⟨fG _ _,false,0,.inr ⟨by rw[mH,hat];rfl,rfl,rfl⟩,Cv.cnd.mk (fun _=>⟨(),by(repeat'(first|exact trivial|exact rfl|apply And.intro))⟩) (fun e=>absurd e (by decide))⟩
 |some k=>
  rw[hi]at hat
  obtain⟨L,hL,hh⟩:=u6 hi
  have hk:=(yVn.1 hL).1
  obtain⟨b,hb⟩:=yD (l:=i.s.books) (i:=k) (by rw[hR.bl];exact hk)
  have hbR:=hR.bk k b L hb hL
  have hbl:=hR.bl
  refine⟨fG _ _,true,k,.inl ⟨by rw[mH,hat];rfl,rfl⟩,Cv.cnd.mk (fun e=>absurd e (by decide)) (fun _=> ?_)⟩
  dsimp only
  rw[yWb,zT hL]
  have hs:=uB hb
  refine⟨⟨by omega,by omega⟩,by omega,b,hb,⟨b,L,i.id,0⟩,rfl,rfl,hbR,fun _ _=>⟨b,rfl,rfl,by omega,(),?_⟩⟩
  rw[hs]
  (repeat'(first|exact trivial|exact rfl|apply And.intro))
theorem z9h:sfindC.ok Tryz.prog 55:=okw mixed (gokc zVf gok0) 0 (fun _=>[]) (fun _=>[]) [0] Tryz.func55 yOr
open Go Cv Go.Proofs
theorem zOx (id:Int) (U:List Int):∀p∈yA U,like (Value.int IntKind.i64 id) p.1=true:=by
 intro p hp
 obtain⟨k,_,rfl⟩:=yWy.1 hp
 rfl
theorem zNa (id:Int):∀U:List Int,gM (Value.int IntKind.i64 id) [D.v (.bool true)] (yA U)=yA (zMe U id)
 |[]=>rfl
 |k::U=>by
  have ih:=zNa id U
  have e:p7 (Value.int IntKind.i64 id) (Value.int IntKind.i64 k)=decide (id=k):=by simp[p7,keq]
  show(bif p7 (Value.int IntKind.i64 id) (Value.int IntKind.i64 k)then(Value.int IntKind.i64 k,[D.v (.bool true)])::yA U else(Value.int IntKind.i64 k,[D.v (.bool true)])::gM (Value.int IntKind.i64 id) [D.v (.bool true)] (yA U))=_
  rw[e,ih]
  by_cases c:id=k
  ·rw[yWd c,cond_true,zMe,yVl (by rw[c];exact yVp)];rfl
  ·rw[yVw c,cond_false,zMe,zMe]
   have hm:id∈k::U↔id∈U:=by simp[c]
   by_cases d:id∈U
   ·rw[yVl d,yVl (hm.2 d)];rfl
   ·rw[yVj d,yVj (fun x=>d (hm.1 x))];rfl
theorem zOn (id:Int):∀U:List Int,vY (Value.int IntKind.i64 id) (yA U)=if id∈U then some [D.v (.bool true)]else none
 |[]=>rfl
 |k::U=>by
  have ih:=zOn id U
  have e:p7 (Value.int IntKind.i64 id) (Value.int IntKind.i64 k)=decide (id=k):=by simp[p7,keq]
  show(bif p7 (Value.int IntKind.i64 id) (Value.int IntKind.i64 k)then some [D.v (.bool true)]else vY (Value.int IntKind.i64 id) (yA U))=_
  rw[e,ih]
  by_cases c:id=k
  ·rw[yWd c,cond_true,yVl (by rw[c];exact yVp)]
  ·rw[yVw c,cond_false]
   have hm:id∈k::U↔id∈U:=by simp[c]
   by_cases d:id∈U
   ·rw[yVl d,yVl (hm.2 d)]
   ·rw[yVj d,yVj (fun x=>d (hm.1 x))]
theorem z8u (id:Int) (U:List Int):vY (Value.int IntKind.i64 id) (yA U)=some [D.v (.bool (decide (id∈U)))]∧decide (id∈U)=true∨vY (Value.int IntKind.i64 id) (yA U)=none∧[D.v (.bool (decide (id∈U)))]=[D.v (.bool false)]∧decide (id∈U)=false:=by
 rw[zOn]
 by_cases c:id∈U
 ·rw[yVl c,yWd c];exact .inl ⟨rfl,rfl⟩
 ·rw[yVj c,yVw c];exact .inr ⟨rfl,rfl,rfl⟩
theorem zPv {p:Prd} {inst:Int} {sd:Bool} {price:Int}:∀(m:Nat) (q:Int) (B:List (List zI)),q.toNat≤m→BWf p B→0≤inst∧inst<B.length→
 (∀t∈(j6 p B inst sd price q).steps,SOk t∧1≤t.qty)∧((j6 p B inst sd price q).steps.map (·.qty)).sum=q-(j6 p B inst sd price q).left
 |m,q,B,hm,h,hi=>by
  by_cases hq:q≤0
  ·rw[rT (.inl hq)];exact⟨fun t ht=>(by cases ht),by simp⟩
  cases hs:bC p B inst sd price q with
  |none=>rw[rT (.inr hs)];exact⟨fun t ht=>(by cases ht),by simp⟩
  |some x=>
   obtain⟨t,C⟩:=x
   obtain⟨k1,k2⟩:=zNj h hs
   have hq2:=zLk (by omega) hs
   cases m with
   |zero=>omega
   |succ m=>
   obtain⟨i1,i2⟩:=zPv (p:=p) (inst:=inst) (sd:=sd) (price:=price) m (q-t.qty) C (by omega) k1 (by rw[k2];exact hi)
   rw[zKc (by omega) hs]
   refine⟨fun u hu=> ?_,?_⟩
   ·rcases yWf.1 hu with rfl|hu
    ·exact⟨yFz h hi hs,hq2.1⟩
    ·exact i1 u hu
   ·dsimp only
    rw[yVz,yWw,i2];omega
theorem yIj {α:Type} {f:α→List Rep} (hf:∀x,(f x).length≤3):∀l:List α,(l.flatMap f).length≤3*l.length
 |[]=>yWj _
 |x::l=>by
  have:=yIj hf l
  have:=hf x
  rw[yWu,yVm,yVt];omega
theorem zOg (p:Prd) (c:Cmd) (x:wA) (left:Int):(aP p c x left).length≤3*x.fills.length+3:=by
 rw[aP,yVm]
 have:=yIj (fun f=>zIs p x (zBz f)) x.fills
 have:=zIs p x ⟨3,c.id,c.inst,c.side,x.price,x.qty,left,0⟩
 omega
theorem zRe {l:List wA} (h:∀t∈l,SOk t∧1≤t.qty):(l.length:Int)≤(l.map (·.qty)).sum:=by
 induction l with
 |nil=>exact yZw _
 |cons t l ih=>
  have:=ih fun u hu=>h u (yVr _ hu)
  have:=(h t yVp).2
  rw[yVz,yWw,yVt];omega
theorem yKx (i:EnI) (h:enterC.cnd i):yAr i:=by
 obtain⟨m,p,B,U,c,X⟩:=i
 have h':(m.Rep p B U∧BOk p B)∧((0≤c.inst∧c.inst<B.length)∧(1≤c.qty∧c.qty≤1000000)∧(c.side=1∨c.side=2))∧p.price c.inst c.price=0∧X=aL p B U c:=h
 clear h
 obtain⟨⟨⟨ep,hR,eu⟩,hB⟩,⟨⟨h0,h1⟩,hq,hs⟩,hpz,hX⟩:=h'
 subst ep eu hX
 have hwf:=hR.wf hB
 obtain⟨k1,k2,k3⟩:=aS (inst:=c.inst) (sd:=decide (c.side=2)) (price:=c.price) _ c.qty B (yWj _) hwf
 have k3:=k3 (by omega)
 obtain⟨s1,s2⟩:=zPv (inst:=c.inst) (sd:=decide (c.side=2)) (price:=c.price) _ c.qty B (yWj _) hwf ⟨h0,h1⟩
 have hX:=zFj m.p B m.used c
 have hbd:=sI hB.pc hpz
 unfold yAr qN vJ lI dI
 dsimp only
 rw[zNa,hX]
 refine⟨zOx _ _,⟨m.s,m.p,B,c.inst,decide (c.side=2),c.price,c.qty⟩,rfl,gL hs,rfl,rfl,rfl,⟨hR,hB,⟨h0,h1⟩,hq.1,hq.2⟩,fun o ho=> ?_⟩
 have er:RunI.r ⟨m.s,m.p,B,c.inst,decide (c.side=2),c.price,c.qty⟩=j6 m.p B c.inst (decide (c.side=2)) c.price c.qty:=rfl
 rw[er]at ho ⊢
 clear hX er
 generalize j6 m.p B c.inst (decide (c.side=2)) c.price c.qty=R at*
 obtain⟨ts,lf,RB⟩:=R
 dsimp only at*
 have hlen:=zRe s1
 have e4:(ts.map jW).length=ts.length:=yVk ..
 refine⟨⟨c.qty,0,[⟨1,c.id,c.inst,c.side,c.price,c.qty,c.qty,0⟩]⟩,rfl,rfl,rfl,fun j=>j.k≤ts.length∧j.left=lf+((ts.drop j.k).map (·.qty)).sum∧(⟨1,c.id,c.inst,c.side,c.price,c.qty,c.qty,0⟩::nI m.p c ts c.qty)=j.out++nI m.p c (ts.drop j.k) j.left∧j.out.length≤1+1503*j.k,fun j=>ts.length-j.k,⟨yXf _,by dsimp only;rw[yYs,s2];omega,rfl,yWj _⟩,?_⟩
 rintro⟨left,k,out⟩ ⟨j1,j2,j3,j4⟩
 dsimp only at j1 j2 j3 j4 ⊢
 have e5:(out.map qB).length=out.length:=yVk ..
 refine zJ (fun c1=> ?_) (fun c1=> ?_)
 ·obtain⟨t,ht⟩:=yD (l:=ts) (i:=k) (by omega)
  have hd:ts.drop k=t::ts.drop (k+1):=by rw[yXs (by omega),(yVn.1 ht).2]
  obtain⟨⟨t1,t2,t3⟩,t4⟩:=s1 t (yVv ht)
  have hsd:=zRe (l:=ts.drop (k+1)) fun u hu=>s1 u (yYy hu)
  have hsk:((ts.drop k).map (·.qty)).sum≤(ts.map (·.qty)).sum:=by
   have:=zRe (l:=ts.take k) fun u hu=>s1 u (yZy hu)
   have e:(ts.map (·.qty)).sum=((ts.take k).map (·.qty)).sum+((ts.drop k).map (·.qty)).sum:=by
    rw[← List.sum_append,← yVu,yXw]
   omega
  rw[hd,yVz,yWw]at j2 hsk
  rw[hd,nI]at j3
  have hrl:=zOg m.p c t (left-t.qty)
  have e6:((aP m.p c t (left-t.qty)).map qB).length=(aP m.p c t (left-t.qty)).length:=yVk ..
  have hw:IntKind.i64.wrap (left-t.qty)=left-t.qty:=w64 (by omega)
  refine⟨⟨by omega,by omega⟩,t.price,t.qty,t.implied,t.fills.map yR,elA ht (by simp[jW]) rfl,?_⟩
  rw[hw]
  refine⟨⟨⟨m.p,o,zMe m.used c.id⟩,c,t,left-t.qty⟩,rfl,rfl,rfl,rfl,rfl,rfl,rfl,rfl,rfl,rfl,rfl,rfl,rfl,rfl,rfl,rfl,rfl,rfl,rfl,rfl,rfl,rfl,rfl,rfl,rfl,rfl,rfl,⟨⟨hB.pc,hB.ps⟩,⟨by dsimp only;omega,by dsimp only;omega⟩,by dsimp only;omega,hs,fun f hf=>(t2 f hf).1⟩,fun _ _=>⟨by dsimp only;rw[e5,e6];omega,⟨left-t.qty,k+1,out++aP m.p c t (left-t.qty)⟩,rfl,wjn (by omega),by dsimp only;rw[yVu],⟨by dsimp only;omega,by dsimp only;omega,by dsimp only;rw[j3,yVq],by dsimp only;rw[yVm];omega⟩,by dsimp only;omega,by(repeat'(first|exact trivial|exact rfl|apply And.intro))⟩⟩
 have hk:k=ts.length:=by omega
 subst hk
 rw[List.drop_of_length_le (yWj _)]at j2 j3
 rw[nI,yWg]at j3
 rw[← j3]
 rw[← j3]at e5 j4
 have hRB:=k1.ok
 refine Cv.cnd.mk (fun e=> ?_) (fun e=>Cv.cnd.mk (fun e2=> ?_) (fun e2=> ?_))
 ·have e:lf=0:=by simpa using e
  rw[yVj (by omega),yVj (by omega),yWg]
  exact⟨⟨m.p,o,zMe m.used c.id⟩,rfl,rfl,rfl,rfl,rfl,rfl,rfl,rfl,rfl,rfl,rfl,rfl,rfl,rfl,rfl,ho,rfl⟩
 ·have e:¬lf=0:=by simpa using e
  have e2:c.time=1:=by simpa using e2
  rw[yVj (show ¬(lf≠0∧c.time≠1)by omega),yVl (show lf≠0∧c.time=1 from⟨e,e2⟩),yWg]
  have ha:=(ho.add c.inst c.id (decide (c.side=2)) c.price lf).1
  rw[gL hs]at ha
  exact⟨⟨o,c.inst,c.id,decide (c.side=2),c.price,lf⟩,rfl,rfl,gL hs,rfl,rfl,rfl,ho.fit hRB,fun _ _=>⟨⟨m.p,(MSt.addF ⟨o,c.inst,c.id,decide (c.side=2),c.price,lf⟩).1,zMe m.used c.id⟩,rfl,rfl,rfl,rfl,rfl,rfl,rfl,rfl,rfl,rfl,rfl,rfl,rfl,rfl,rfl,ha,rfl⟩⟩
 ·have e:¬lf=0:=by simpa using e
  have e2:¬c.time=1:=by simpa using e2
  rw[yVl (show lf≠0∧c.time≠1 from⟨e,e2⟩),yVj (show ¬(lf≠0∧c.time=1)by omega)]
  exact⟨by rw[e5];omega,⟨m.p,o,zMe m.used c.id⟩,rfl,rfl,rfl,rfl,rfl,rfl,rfl,rfl,rfl,rfl,rfl,rfl,rfl,by rw[yVu];rfl,rfl,ho,rfl⟩
theorem zUb:enterC.ok Tryz.prog 112:=okw mixed (gokc zYu (gokc z8c (gokc yGh gok0))) 0 (fun _=>[]) (fun i=>yOa i) [] Tryz.func112 yKx
theorem yPf:mcountC.ok Tryz.prog 25:=okw (V:=yEl) mixed (gokc zKn gok0) 0 (fun _=>[]) (fun _=>[]) [0] Tryz.func25 fun(i:MfI) h=>by
 obtain⟨m,p,B,U,id⟩:=i
 have h':m.Rep p B U∧BOk p B:=h
 clear h
 obtain⟨⟨ep,hR,eu⟩,hB⟩:=h'
 subst ep eu
 have:=xZ m.p
 have:=hB.bl
 exact⟨⟨m.s,m.p,B,0,false⟩,rfl,⟨hR,by dsimp only;omega⟩,fun _ _=>⟨(),by(repeat'(first|exact trivial|exact rfl|apply And.intro))⟩⟩
theorem zMg:cancelC.ok Tryz.prog 61:=okw (V:=yFh) mixed (gokc zBv gok0) 0 (fun _=>[]) (fun _=>[]) [] Tryz.func61 fun(i:CaI) h=>by
 obtain⟨m,p,B,U,id,q,inst,o,X⟩:=i
 have h':(m.Rep p B U∧BOk p B)∧X=aF B U id inst o:=h
 clear h
 obtain⟨⟨⟨ep,hR,eu⟩,hB⟩,hX⟩:=h'
 subst ep eu hX
 have:=xZ m.p
 have:=hB.bl
 exact⟨⟨m.s,m.p,B,id,o.qty⟩,rfl,rfl,rfl,⟨hR,by dsimp only;omega⟩,fun o' ho=>⟨⟨m.p,o',m.used⟩,rfl,rfl,rfl,rfl,rfl,rfl,rfl,rfl,rfl,rfl,rfl,rfl,rfl,rfl,rfl,ho,rfl⟩⟩
theorem zMw:reduceC.ok Tryz.prog 62:=okw (V:=z1z) mixed (gokc zBv gok0) 0 (fun _=>[]) (fun _=>[]) [] Tryz.func62 fun(i:CaI) h=>by
 obtain⟨m,p,B,U,id,q,inst,o,X⟩:=i
 have h':(m.Rep p B U∧BOk p B)∧yO (o.qty-q)∧X=zBw B U id q inst o:=h
 clear h
 obtain⟨⟨⟨ep,hR,eu⟩,hB⟩,hw,hX⟩:=h'
 subst ep eu hX
 have:=xZ m.p
 have:=hB.bl
 have hw:=w64 hw
 unfold z1z dI
 dsimp only
 rw[hw]
 exact⟨⟨m.s,m.p,B,id,q⟩,rfl,rfl,rfl,⟨hR,by dsimp only;omega⟩,fun o' ho=>⟨⟨m.p,o',m.used⟩,rfl,rfl,rfl,rfl,rfl,rfl,rfl,rfl,rfl,rfl,rfl,rfl,rfl,rfl,rfl,ho,rfl⟩⟩
theorem zOp {c:Cmd} (h:c.right=0):(if c.kind=1 then c.orderE else if c.kind≠2∧wW c.qty=false then 24 else if c.kind=4∧fQ c.price=false then 23 else 0)=0:=by
 rw[Cmd.right]at h
 by_cases c1:c.kind<1∨4<c.kind
 ·rw[yVl c1]at h;cases h
 rw[yVj c1]at h
 by_cases c2:c.id<1∨1099511627776<c.id
 ·rw[yVl c2]at h;cases h
 rw[yVj c2]at h
 exact h
theorem z4j {c:Cmd} (h:c.right=0) (hk:c.kind=1):(c.side=1∨c.side=2)∧(1≤c.qty∧c.qty≤1000000)∧(0≤c.least∧c.least≤c.qty):=by
 have h:=zOp h
 rw[yVl hk,Cmd.orderE]at h
 by_cases c1:c.side≠1∧c.side≠2
 ·rw[yVl c1]at h;cases h
 rw[yVj c1]at h
 by_cases c2:c.time<1∨3<c.time
 ·rw[yVl c2]at h;cases h
 rw[yVj c2]at h
 cases c3:wW c.qty with
 |false=>rw[yVl c3]at h;cases h
 |true=>
  rw[yVj (by rw[c3];decide)]at h
  by_cases c4:c.least<0∨c.qty<c.least
  ·rw[yVl c4]at h;cases h
  simp only[wW,yVy,yXd]at c3
  exact⟨by omega,c3,by omega⟩
theorem zOd {c:Cmd} (h:c.right=0) (hk:¬c.kind=1) (hk2:¬c.kind=2):1≤c.qty∧c.qty≤1000000:=by
 have h:=zOp h
 rw[yVj hk]at h
 cases c3:wW c.qty with
 |false=>rw[yVl ⟨hk2,c3⟩]at h;cases h
 |true=>
  simp only[wW,yVy,yXd]at c3
  exact c3
theorem yLf (i:EnI) (h:orderC.cnd i):yDd i:=by
 obtain⟨m,p,B,U,c,X⟩:=i
 have h':(m.Rep p B U∧BOk p B)∧c.right=0∧c.kind=1∧X=sE p B U c:=h
 clear h
 obtain⟨⟨hM,hB⟩,hr,hkd,hX⟩:=h'
 obtain⟨ep,hR,eu⟩:=hM
 subst ep eu
 have hM:m.Rep m.p B m.used:=⟨rfl,hR,rfl⟩
 obtain⟨hs,hq,hl⟩:=z4j hr hkd
 have hbl:=hB.bl
 have hcl:=xZ m.p
 unfold yDd qN zDo zDl zFa zEn vJ pP m7 nZ lU zAk x6 dI
 dsimp only
 refine⟨⟨m.p,c.inst,c.price⟩,rfl,rfl,rfl,rfl,rfl,rfl,rfl,rfl,rfl,rfl,rfl,rfl,rfl,hB.ps,fun _ _=>Cv.cnd.mk (fun e=> ?_) (fun e=> ?_)⟩
 ·have e:m.p.price c.inst c.price≠0:=by simpa using e
  have hx:X=⟨B,m.used,nX c (m.p.price c.inst c.price)⟩:=by rw[hX,sE,yVl e]
  exact⟨⟨c,m.p.price c.inst c.price⟩,rfl,rfl,rfl,rfl,rfl,rfl,rfl,rfl,rfl,rfl,trivial,fun _ _=>⟨m,rfl,rfl,rfl,rfl,rfl,rfl,rfl,rfl,rfl,rfl,rfl,rfl,rfl,by rw[hx];rfl,by rw[hx];exact hM⟩⟩
 have hpz:m.p.price c.inst c.price=0:=by simpa using e
 have hin:=zVp hpz
 have hib:0≤c.inst∧c.inst<B.length:=by omega
 rw[sE,yVj (by rw[hpz];decide)]at hX
 refine⟨0,fun l=>l=c.lst,Cv.cnd.mk (fun e=>⟨c.qty,rfl,by rw[Cmd.lst,yVl (by simpa using e)],by(repeat'(first|exact trivial|exact rfl|apply And.intro))⟩) (fun e=>⟨c.least,rfl,by rw[Cmd.lst,yVj (by simpa using e)],by(repeat'(first|exact trivial|exact rfl|apply And.intro))⟩),?_⟩
 rintro _ rfl
 refine⟨zOx _ _,_,_,z8u _ _,zJ (fun e=> ?_) (fun e=> ?_)⟩
 ·have hx:X=⟨B,m.used,nX c 25⟩:=by rw[hX,yVl e]
  exact⟨⟨c,25⟩,rfl,rfl,rfl,rfl,rfl,rfl,rfl,rfl,rfl,rfl,trivial,fun _ _=>⟨m,rfl,rfl,rfl,rfl,rfl,rfl,rfl,rfl,rfl,rfl,rfl,rfl,rfl,by rw[hx];rfl,by rw[hx];exact hM⟩⟩
 rw[yVj e]at hX
 refine⟨⟨m.s,m.p,B,0,false⟩,rfl,⟨hR,by dsimp only;omega⟩,fun _ _=>zJ (fun e=> ?_) (fun e=> ?_)⟩
 ·have hx:X=⟨B,m.used,nX c 13⟩:=by rw[hX,yVl (by dsimp only at e;omega)]
  exact⟨⟨c,13⟩,rfl,rfl,rfl,rfl,rfl,rfl,rfl,rfl,rfl,rfl,trivial,fun _ _=>⟨m,rfl,rfl,rfl,rfl,rfl,rfl,rfl,rfl,rfl,rfl,rfl,rfl,rfl,by rw[hx];rfl,by rw[hx];exact hM⟩⟩
 rw[yVj (by dsimp only at e;omega)]at hX
 have hok:RunI.ok ⟨m.s,m.p,B,c.inst,decide (c.side=2),c.price,c.qty⟩:=⟨hR,hB,hib,hq.1,hq.2⟩
 refine⟨true,fun b=>b=decide (0<c.lst∧c.qty-(j6 m.p B c.inst (decide (c.side=2)) c.price c.qty).left<c.lst),zJ (fun e=>⟨⟨m.s,m.p,B,c.inst,decide (c.side=2),c.price,c.qty⟩,rfl,gL hs,rfl,rfl,rfl,hok,fun _ _=>⟨_,rfl,decide_eq_decide.2 ⟨fun x=>⟨e,x⟩,fun x=>x.2⟩,by(repeat'(first|exact trivial|exact rfl|apply And.intro))⟩⟩) (fun e=>⟨false,rfl,(yVw fun x=>e x.1).symm,by(repeat'(first|exact trivial|exact rfl|apply And.intro))⟩),?_⟩
 rintro _ rfl
 refine zJ (fun e=> ?_) (fun e=> ?_)
 ·have hx:X=⟨B,m.used,nX c 28⟩:=by rw[hX,yVl e]
  exact⟨⟨c,28⟩,rfl,rfl,rfl,rfl,rfl,rfl,rfl,rfl,rfl,rfl,trivial,fun _ _=>⟨m,rfl,rfl,rfl,rfl,rfl,rfl,rfl,rfl,rfl,rfl,rfl,rfl,rfl,by rw[hx];rfl,by rw[hx];exact hM⟩⟩
 rw[yVj e]at hX
 refine⟨true,fun b=>b=decide (c.time=1∧bJ m.p B c.inst (decide (c.side=2)) c.price c.qty=true),Cv.cnd.mk (fun e=>⟨⟨m.s,m.p,B,c.inst,decide (c.side=2),c.price,c.qty⟩,rfl,gL hs,rfl,rfl,rfl,hok,fun _ _=>⟨_,rfl,?_,by(repeat'(first|exact trivial|exact rfl|apply And.intro))⟩⟩) (fun e=>⟨false,rfl,(yVw fun x=> ?_).symm,by(repeat'(first|exact trivial|exact rfl|apply And.intro))⟩),?_⟩
 ·have e:c.time=1:=by simpa using e
  dsimp only
  cases hb:bJ m.p B c.inst (decide (c.side=2)) c.price c.qty with
  |true=>exact(yWd ⟨e,rfl⟩).symm
  |false=>exact(yVw fun x=>by cases x.2).symm
 ·rw[x.1]at e;cases e
 rintro _ rfl
 refine zJ (fun e=> ?_) (fun e=> ?_)
 ·have hx:X=⟨B,m.used,nX c 23⟩:=by rw[hX,yVl e]
  exact⟨⟨c,23⟩,rfl,rfl,rfl,rfl,rfl,rfl,rfl,rfl,rfl,rfl,trivial,fun _ _=>⟨m,rfl,rfl,rfl,rfl,rfl,rfl,rfl,rfl,rfl,rfl,rfl,rfl,rfl,by rw[hx];rfl,by rw[hx];exact hM⟩⟩
 rw[yVj e]at hX
 exact⟨⟨m,m.p,B,m.used,c,X⟩,rfl,rfl,rfl,rfl,rfl,rfl,rfl,rfl,rfl,rfl,rfl,rfl,rfl,rfl,rfl,rfl,rfl,rfl,rfl,rfl,rfl,rfl,⟨⟨hM,hB⟩,⟨hib,hq,hs⟩,hpz,hX⟩,fun o ho=>⟨o,rfl,rfl,rfl,rfl,rfl,rfl,rfl,rfl,rfl,rfl,rfl,rfl,rfl,rfl,ho⟩⟩
theorem yDf:orderC.ok Tryz.prog 59:=okw mixed (gokc rV (gokc zYq (gokc zKn (gokc z6c (gokc zSn (gokc zUb gok0)))))) 0 (fun _=>yMh) (fun _=>[]) [] Tryz.func59 yLf
theorem z0x {p:Prd} {B:List (List zI)} (h:BWf p B) {id inst:Int} {o:zI} (hf:yG B id=(inst,o,true)):(0≤inst∧inst<B.length)∧zJk o:=by
 rw[yG]at hf
 split at hf
 ·cases hf
 ·rename_i k hk
  obtain⟨L,hL,hh⟩:=u6 hk
  rw[zT hL]at hf
  cases hf
  have hlt:=(yVn.1 hL).1
  obtain⟨o,ho,e⟩:=yWy.1 (hasId_iff.1 hh)
  have hg:=pG (h.od k L hL).2.1 ho
  rw[e]at hg
  rw[hg]
  exact⟨by omega,(h.od k L hL).1 o ho⟩
theorem zHx (p:Prd) (c:Cmd):∀(l:List wA) (left:Int),(∀t∈l,SOk t∧1≤t.qty)→(nI p c l left).length≤1503*l.length
 |[],_,_=>yWj _
 |t::l,left,h=>by
  have a:=zHx p c l (left-t.qty) fun u hu=>h u (yVr _ hu)
  have b:=zOg p c t (left-t.qty)
  have d:=(h t yVp).1.2.2
  rw[nI,yVm,yVt];omega
theorem zYw {p:Prd} {B:List (List zI)} (h:BWf p B) (U:List Int) {c:Cmd} (hi:0≤c.inst∧c.inst<B.length) (hq:1≤c.qty∧c.qty≤1000000):(aL p B U c).R.length≤1503000002:=by
 obtain⟨s1,s2⟩:=zPv (inst:=c.inst) (sd:=decide (c.side=2)) (price:=c.price) _ c.qty B (yWj _) h hi
 have k3:=(aS (inst:=c.inst) (sd:=decide (c.side=2)) (price:=c.price) _ c.qty B (yWj _) h).2.2 (by omega)
 have:=zRe s1
 have:=zHx p c _ c.qty s1
 rw[zFj]
 dsimp only
 rw[yVm,yVt]
 split
 ·rw[yVt,yXk];omega
 ·rw[yXk];omega
theorem yDh (i:z5s) (h:replaceC.cnd i):zUr i:=by
 obtain⟨m,p,B,U,c,inst,o,X⟩:=i
 have h':m.Rep p B U∧BOk p B∧yG B c.id=(inst,o,true)∧(1≤c.qty∧c.qty≤1000000)∧X=bV p B U c inst o:=h
 clear h
 obtain⟨hM,hB,hf,hq,hX⟩:=h'
 obtain⟨ep,hR,eu⟩:=hM
 subst ep eu
 have hM:m.Rep m.p B m.used:=⟨rfl,hR,rfl⟩
 have hwf:=hR.wf hB
 obtain⟨hin,hoo⟩:=z0x hwf hf
 have hos:=hoo.s
 have hoq:=hoo.q
 have hbl:=hB.bl
 have hcl:=xZ m.p
 unfold zUr l5 qN hP cR pP dY pR x6
 dsimp only
 refine⟨⟨m.p,inst,c.price⟩,rfl,rfl,rfl,rfl,rfl,rfl,rfl,rfl,rfl,rfl,rfl,rfl,rfl,hB.ps,fun _ _=>Cv.cnd.mk (fun e=> ?_) (fun e=> ?_)⟩
 ·have e:m.p.price inst c.price≠0:=by simpa using e
  have hx:X=⟨B,m.used,nX c (m.p.price inst c.price)⟩:=by rw[hX,bV,yVl e]
  exact⟨⟨c,m.p.price inst c.price⟩,rfl,rfl,rfl,rfl,rfl,rfl,rfl,rfl,rfl,rfl,trivial,fun _ _=>⟨m,rfl,rfl,rfl,rfl,rfl,rfl,rfl,rfl,rfl,rfl,rfl,rfl,rfl,by rw[hx];rfl,by rw[hx];exact hM⟩⟩
 have hpz:m.p.price inst c.price=0:=by simpa using e
 rw[bV,yVj (by rw[hpz];decide)]at hX
 have hw:IntKind.i64.wrap (o.qty-c.qty)=o.qty-c.qty:=w64 (by omega)
 rw[hw]
 refine(fun hT=>Cv.cnd.mk (fun e1=>zJ (fun e2=> ?_) (fun e2=>hT fun x=>e2 x.2)) (fun e1=>hT fun x=>by rw[x.1]at e1;simp at e1)) (fun(hn:¬(c.price=o.price∧c.qty≤o.qty))=> ?_)
 ·have e1:c.price=o.price:=by simpa using e1
  rw[yVl ⟨e1,e2⟩]at hX
  exact⟨⟨m,m.p,B,m.used,c.id,o.qty-c.qty,inst,o,X⟩,rfl,rfl,rfl,rfl,rfl,rfl,rfl,rfl,rfl,rfl,rfl,rfl,rfl,rfl,rfl,rfl,rfl,rfl,rfl,rfl,rfl,⟨⟨hM,hB⟩,⟨by dsimp only;omega,by dsimp only;omega⟩,hX⟩,fun o' ho=>⟨o',rfl,rfl,rfl,rfl,rfl,rfl,rfl,rfl,rfl,rfl,rfl,rfl,rfl,rfl,ho⟩⟩
 rw[yVj hn]at hX
 have hBt:=hB.take c.id o.qty
 refine⟨m.s,rfl,hR.small hB,fun _ _=>⟨⟨m.s,m.p,B,c.id,o.qty⟩,rfl,rfl,rfl,⟨hR,by dsimp only;omega⟩,fun o' ho'=>⟨⟨o',m.p,(kK B c.id o.qty).1,inst,decide (o.side=2),c.price,c.qty⟩,rfl,gL hos,rfl,rfl,rfl,⟨ho',hBt,by dsimp only;rw[rA];exact hin,hq.1,hq.2⟩,fun _ _=>Cv.cnd.mk (fun e=> ?_) (fun e=> ?_)⟩⟩⟩
 ·have hx:X=⟨B,m.used,nX c 23⟩:=by rw[hX,yVl e]
  exact⟨⟨c,23⟩,rfl,rfl,rfl,rfl,rfl,rfl,rfl,rfl,rfl,rfl,trivial,fun _ _=>⟨m,rfl,rfl,rfl,rfl,rfl,rfl,rfl,rfl,rfl,rfl,rfl,rfl,rfl,by rw[hx];rfl,by rw[hx];exact hM⟩⟩
 rw[yVj (by rw[e];decide)]at hX
 refine⟨⟨m,m.p,B,m.used,c.id,0,inst,o,aF B m.used c.id inst o⟩,rfl,rfl,rfl,rfl,rfl,rfl,rfl,rfl,rfl,rfl,rfl,rfl,rfl,rfl,rfl,rfl,rfl,rfl,rfl,rfl,⟨⟨hM,hB⟩,rfl⟩,fun o1 ho1=>⟨⟨o1,m.p,(kK B c.id o.qty).1,m.used,⟨1,c.id,inst,o.side,c.price,c.qty,0,1,[]⟩,aL m.p (kK B c.id o.qty).1 m.used ⟨1,c.id,inst,o.side,c.price,c.qty,0,1,[]⟩⟩,rfl,rfl,rfl,rfl,rfl,rfl,rfl,rfl,rfl,rfl,rfl,rfl,rfl,rfl,rfl,rfl,rfl,rfl,rfl,rfl,rfl,rfl,⟨⟨ho1,hBt⟩,⟨by dsimp only;rw[rA];exact hin,hq,hos⟩,hpz,rfl⟩,fun o2 ho2=>⟨?_,o2,rfl,rfl,rfl,rfl,rfl,rfl,rfl,rfl,rfl,rfl,rfl,rfl,rfl,?_,?_⟩⟩⟩
 ·have:=zYw (hwf.take c.id o.qty) m.used (c:=⟨1,c.id,inst,o.side,c.price,c.qty,0,1,[]⟩) (by dsimp only;rw[rA];exact hin) hq
  dsimp only
  rw[yVk,yVk]
  have e1:(aF B m.used c.id inst o).R.length=1:=rfl
  omega
 ·rw[hX,← yVu];rfl
 ·rw[hX];exact ho2
theorem zZd:replaceC.ok Tryz.prog 60:=okw mixed (gokc rV (gokc zYq (gokc zCr (gokc zBv (gokc zSn (gokc zMg (gokc zMw (gokc zUb gok0)))))))) 0 (fun _=>[]) (fun _=>[]) [] Tryz.func60 yDh
theorem vdo (i:EnI) (h:doC.cnd i):Vdo i:=by
 obtain⟨m,p,B,U,c,X⟩:=i
 have h':(m.Rep p B U∧BOk p B)∧c.label.length≤140737488355328∧yO c.qty∧X=doF p B U c:=h
 clear h
 obtain⟨⟨hM,hB⟩,hlb,hqr,hX⟩:=h'
 obtain⟨ep,hR,eu⟩:=hM
 subst ep eu
 have hM:m.Rep m.p B m.used:=⟨rfl,hR,rfl⟩
 have hwf:=hR.wf hB
 have hbl:=hB.bl
 have hcl:=xZ m.p
 unfold Vdo m7 yDm dY zZf zPp zPg
 dsimp only
 refine⟨c,rfl,rfl,rfl,rfl,rfl,rfl,rfl,rfl,rfl,hlb,fun _ _=>Cv.cnd.mk (fun e=> ?_) (fun e=> ?_)⟩
 ·have e:c.right≠0:=by simpa using e
  have hx:X=⟨B,m.used,nX c c.right⟩:=by rw[hX,doF,yVl e]
  exact⟨⟨c,c.right⟩,rfl,rfl,rfl,rfl,rfl,rfl,rfl,rfl,rfl,rfl,trivial,fun _ _=>⟨m,rfl,rfl,rfl,rfl,rfl,rfl,rfl,rfl,rfl,rfl,rfl,rfl,rfl,by rw[hx];rfl,by rw[hx];exact hM⟩⟩
 have hr:c.right=0:=by simpa using e
 rw[doF,yVj (by rw[hr];decide)]at hX
 refine Cv.cnd.mk (fun e=> ?_) (fun e=> ?_)
 ·have e:c.kind=1:=by simpa using e
  rw[yVl e]at hX
  exact⟨⟨m,m.p,B,m.used,c,X⟩,rfl,rfl,rfl,rfl,rfl,rfl,rfl,rfl,rfl,rfl,rfl,rfl,rfl,rfl,rfl,rfl,rfl,rfl,rfl,rfl,rfl,rfl,⟨⟨hM,hB⟩,hr,e,hX⟩,fun o ho=>⟨o,rfl,rfl,rfl,rfl,rfl,rfl,rfl,rfl,rfl,rfl,rfl,rfl,rfl,rfl,ho⟩⟩
 have hk:¬c.kind=1:=by simpa using e
 rw[yVj hk]at hX
 refine(fun hT=>⟨hT,rfl,trivial,hT⟩) ?_
 refine⟨⟨m.s,m.p,B,c.id,0⟩,rfl,rfl,⟨hR,by dsimp only;omega⟩,fun _ _=>Cv.cnd.mk (fun e=> ?_) (fun e=> ?_)⟩
 ·have e:(yG B c.id).2.2=false:=by simpa using e
  have hx:X=⟨B,m.used,nX c 26⟩:=by rw[hX,yVl e]
  exact⟨⟨c,26⟩,rfl,rfl,rfl,rfl,rfl,rfl,rfl,rfl,rfl,rfl,trivial,fun _ _=>⟨m,rfl,rfl,rfl,rfl,rfl,rfl,rfl,rfl,rfl,rfl,rfl,rfl,rfl,by rw[hx];rfl,by rw[hx];exact hM⟩⟩
 have e:(yG B c.id).2.2=true:=by simpa using e
 rw[yVj (by rw[e];decide)]at hX
 dsimp only
 have hf:yG B c.id=((yG B c.id).1,(yG B c.id).2.1,true):=by rw[← e]
 generalize (yG B c.id).1=inst at*
 generalize (yG B c.id).2.1=o at*
 obtain⟨hin,hoo⟩:=z0x hwf hf
 have hoq:=hoo.q
 refine Cv.cnd.mk (fun e4=> ?_) (fun e4=>Cv.cnd.mk (fun e2=> ?_) (fun e2=>zJ (fun e3=> ?_) (fun e3=> ?_)))
 ·have e4:c.kind=4:=by simpa using e4
  rw[yVl e4]at hX
  exact⟨⟨m,m.p,B,m.used,c,inst,o,X⟩,rfl,rfl,rfl,rfl,rfl,rfl,rfl,rfl,rfl,rfl,rfl,rfl,rfl,rfl,rfl,rfl,rfl,rfl,rfl,rfl,rfl,rfl,rfl,rfl,rfl,rfl,rfl,rfl,⟨hM,hB,hf,zOd hr hk (by rw[e4];decide),hX⟩,fun o' ho=>⟨o',rfl,rfl,rfl,rfl,rfl,rfl,rfl,rfl,rfl,rfl,rfl,rfl,rfl,rfl,ho⟩⟩
 all_goals
  have e4:¬c.kind=4:=by simpa using e4
  rw[yVj e4]at hX
 ·have e2:c.kind=2:=by simpa using e2
  rw[yVl (.inl e2)]at hX
  exact⟨⟨m,m.p,B,m.used,c.id,0,inst,o,X⟩,rfl,rfl,rfl,rfl,rfl,rfl,rfl,rfl,rfl,rfl,rfl,rfl,rfl,rfl,rfl,rfl,rfl,rfl,rfl,rfl,⟨⟨hM,hB⟩,hX⟩,fun o' ho=>⟨o',rfl,rfl,rfl,rfl,rfl,rfl,rfl,rfl,rfl,rfl,rfl,rfl,rfl,rfl,ho⟩⟩
 ·rw[yVl (.inr (by omega))]at hX
  exact⟨⟨m,m.p,B,m.used,c.id,0,inst,o,X⟩,rfl,rfl,rfl,rfl,rfl,rfl,rfl,rfl,rfl,rfl,rfl,rfl,rfl,rfl,rfl,rfl,rfl,rfl,rfl,rfl,⟨⟨hM,hB⟩,hX⟩,fun o' ho=>⟨o',rfl,rfl,rfl,rfl,rfl,rfl,rfl,rfl,rfl,rfl,rfl,rfl,rfl,rfl,ho⟩⟩
 ·have e2:¬c.kind=2:=by simpa using e2
  have hq:=zOd hr hk e2
  rw[yVj (by omega)]at hX
  exact⟨⟨m,m.p,B,m.used,c.id,c.qty,inst,o,X⟩,rfl,rfl,rfl,rfl,rfl,rfl,rfl,rfl,rfl,rfl,rfl,rfl,rfl,rfl,rfl,rfl,rfl,rfl,rfl,rfl,rfl,⟨⟨hM,hB⟩,⟨by dsimp only;omega,by dsimp only;omega⟩,hX⟩,fun o' ho=>⟨o',rfl,rfl,rfl,rfl,rfl,rfl,rfl,rfl,rfl,rfl,rfl,rfl,rfl,rfl,ho⟩⟩
theorem ySm:doC.ok Tryz.prog 26:=okw mixed (gokc yBo (gokc zYq (gokc z9h (gokc yDf (gokc zZd (gokc zMg (gokc zMw gok0))))))) 0 (fun _=>[]) (fun _=>[]) [0] Tryz.func26 vdo
open Go Cv Go.Proofs
open Go Cv Go.Proofs
open Go Cv Go.Proofs
theorem yBl (t:TmI):1≤(qW t).qty∧(qW t).qty≤12:=by
 have:=xI (n:=t.c.qty) (lo:=0) (hi:=11) (by omega)
 have e:(qW t).qty=1+zH t.c.qty 0 11:=by rw[qW];split<;>rfl
 omega
theorem zXp (t:TmI):(qW t).label=[]:=by
 rw[qW];split<;>rfl
open Go Cv Go.Proofs
open Go Cv Go.Proofs
open Go Cv Go.Proofs
theorem yTi {l:List Cmd} {k:Nat} {c:Cmd} (h:l[k]? =some c):zE (l.map cmdE) k 0 9=some [D.v (.int .i64 c.kind),.v (.int .i64 c.id),.v (.int .i64 c.inst),.v (.int .i64 c.side),.v (.int .i64 c.price),.v (.int .i64 c.qty),.v (.int .i64 c.least),.v (.int .i64 c.time),.v (.string (sb c.label))]:=elA h (by simp[cmdE]) rfl
def mk0 (p:Prd):Mkt:=⟨p,sC p,[]⟩
theorem yHt (p:Prd):(mk0 p).Rep p (List.replicate p.count []) []:=⟨rfl,z0c _,rfl⟩
open Go Cv Go.Proofs
def WrU (l:List UInt8):Nat→AObj
 |0=> .cells [.own 1] 204
 |1=> .own 5 1 (bE l)
 |_=> .gone
def Wr (l:List UInt8):AObj:= .adt (List UInt8) 2 WrU l
structure zUx where
 l:List UInt8
 n:Int
 k:Nat
def putC:Con where
 ι:=zUx
 pat:=fun i=>[.nm 0 0,.d (.v (.int .u64 i.n)),.d (.v (.int .i64 i.k))]
 pre:=fun i=>[Wr i.l]
 cnd:=fun i=>0≤i.n∧i.n<18446744073709551616∧i.l.length+i.k≤1099511627776
 alts:=fun i=>[{o:=Unit,res:=fun _=> .tup [],post:=fun _=>[Wr (i.l++le i.n i.k)],rel:=fun _=>True}]
def yVe (i:zUx):List SAnn:=[{
 ι:=Nat,
 slots:=fun j=>[(0,.nm 0 0),(1,.d (.v (.int .u64 (i.n / 256 ^ j)))),(7,.d (.v (.int .i64 j)))],
 rows:=fun j=>[WrU (i.l++le i.n j) 0,WrU (i.l++le i.n j) 1]}]
open Go Cv Go.Proofs
def yRd (i:zUx):Prop:=
 ∃(a:Nat),i.n / (256:Int) ^ a=i.n∧(↑a:Int)=0∧bE (i.l++le i.n a)=bE i.l∧∃(b:Nat→Prop),∃(c:Nat→Nat),b a∧∀(d:Nat),b d→cnd (decide ((↑d:Int)<(↑i.k:Int))) (((bE (i.l++le i.n d)).length+1)*(1:Nat)≤(140737488355328:Nat)∧(0:Int)≤(8:Int)∧∃(e:Nat),i.n / (256:Int) ^ e=bU IntKind.u64 (i.n / (256:Int) ^ d) 8∧(↑e:Int)=IntKind.i64.wrap ((↑d:Int)+1)∧bE (i.l++le i.n e)=bE (i.l++le i.n d)++[[D.v (.int .u8 (IntKind.u8.wrap (i.n / (256:Int) ^ d)))]]∧b e∧c e<c d∧True) (∃(e:Unit),bE (i.l++le i.n i.k)=bE (i.l++le i.n d)∧True)
open Go Cv Go.Proofs
theorem yUm (i:zUx) (h:putC.cnd i):yRd i:=by
 unfold yRd
 obtain⟨h1,h2,h3⟩:=h
 refine⟨0,by simp,rfl,by simp[le],fun j=>j≤i.k,fun j=>i.k-j,by omega,fun j hj=>zJ (fun hlt=> ?_) (fun hlt=> ?_)⟩
 ·refine⟨?_,by omega,j+1,?_,?_,?_,by omega,by dsimp only;omega,trivial⟩
  ·rw[vM,yVm,gW];omega
  ·have:=zBq .u64 (i.n / 256 ^ j) 8 (by decide)
   rw[show((8:Nat):Int)=8 by rfl]at this
   rw[this,Int.ediv_ediv_of_nonneg (Int.pow_nonneg (by omega)),Int.pow_succ];rfl
  ·rw[w64 (by omega)];rfl
  ·rw[yHh,z0m];simp[bE]
 ·obtain rfl:j=i.k:=by omega
  exact⟨(),rfl,trivial⟩
theorem zYg:putC.ok Tryz.prog 126:=okw mixed gok0 0 (fun _=>[]) (fun i=>yVe i) [0] Tryz.func126 yUm
open Go Cv Go.Proofs
@[reducible] def tU8:Nat:=5
structure WN where
 l:List UInt8
 n:Int
@[reducible] def WN.ok (i:WN):Prop:=i.l.length+8≤1099511627776
def byteC:Con:=con1 WN (fun i=>[.nm 0 0,zA i.n]) (fun i=>[Wr i.l]) WN.ok (fun _=>zCk) (fun i=>[Wr (i.l++[lob i.n])])
def longC:Con:=con1 WN (fun i=>[.nm 0 0,zA i.n]) (fun i=>[Wr i.l]) WN.ok (fun _=>zCk) (fun i=>[Wr (i.l++le i.n 8)])
def sumC:Con:=con1 WN (fun i=>[.nm 0 0,yFn i.n]) (fun i=>[Wr i.l]) (fun i=>i.l.length+8≤1099511627776∧0≤i.n∧i.n<4294967296) (fun _=>zCk) (fun i=>[Wr (i.l++le i.n 4)])
@[reducible] def yOn (t sz by_:Nat):Con:=con1 (List (List D)) (fun _=>[.own 0]) (fun l=>[.own t sz l]) (fun l=>l.length*by_≤140737488355328) (fun _=> .own 1) (fun l=>[.own t sz l,.own t sz l])
@[reducible] def yLx (sz by_:Nat):Con:=con1 (List (List D)) (fun l=>[roV sz l]) (fun _=>[]) (fun l=>l.length*by_≤140737488355328) (fun l=>roV sz l) (fun _=>[])
def cloneBO:Con:=yOn tU8 1 1
def cloneBR:Con:=yLx 1 1
def newWC:Con:=con1 Unit (fun _=>[]) (fun _=>[]) (fun _=>True) (fun _=> .nm 0 0) (fun _=>[Wr []])
def doneC:Con:=con1 (List UInt8) (fun _=>[.nm 0 0]) (fun l=>[Wr l]) (fun l=>l.length≤1099511627776) (fun _=> .own 1) (fun l=>[Wr l,.own tU8 1 (bE l)])
def zYi (c:Int):Int:=if 0<lM .u32 c 1 then zAh .u32 (bU .u32 c 1) 3988292384 else bU .u32 c 1
def wZ:Nat→Int→Int
 |0,c=>c
 |k+1,c=>zYi (wZ k c)
def zDt (l:List UInt8):Int:=l.foldl (fun c b=>wZ 8 (zAh .u32 c b.toNat)) 4294967295
def aR (l:List UInt8):Int:=zAh .u32 4294967295 (zDt l)
def crcC:Con:=con1 (List UInt8) (fun l=>[roV 1 (bE l)]) (fun _=>[]) (fun l=>l.length≤1099511627776) (fun l=>yFn (aR l)) (fun _=>[])
def yTq (l:List UInt8):List SAnn:=[
 {ι:=Nat,slots:=fun i=>[(3,yFn (zDt (l.take i))),(9,zA i)],rows:=fun _=>[]},
 {ι:=Int×Nat,slots:=fun i=>[(3,yFn (wZ i.2 i.1)),(17,zA i.2)],rows:=fun _=>[]}]
def RdU (x:List UInt8×Bool):Nat→AObj
 |0=> .cells [roV 1 (bE x.1),yF x.2] 208
 |_=> .gone
def Rd (l:List UInt8) (b:Bool):AObj:= .adt (List UInt8×Bool) 1 RdU (l,b)
def newRC:Con:=con1 (List UInt8) (fun l=>[roV 1 (bE l)]) (fun _=>[]) (fun l=>l.length≤1099511627776) (fun _=> .nm 0 0) (fun l=>[Rd l false])
structure RN where
 l:List UInt8
 b:Bool
 n:Nat
def RN.bad (i:RN):Bool:=i.b||decide (i.l.length<i.n)
def RN.got (i:RN):List UInt8:=if i.bad then[]else i.l.take i.n
def RN.left (i:RN):List UInt8:=if i.bad then i.l else i.l.drop i.n
@[reducible] def RN.ok (i:RN):Prop:=i.n≤255∧i.l.length≤1099511627776
def takeC:Con:=con1 RN (fun i=>[.nm 0 0,zA i.n]) (fun i=>[Rd i.l i.b]) RN.ok (fun i=>roV 1 (bE i.got)) (fun i=>[Rd i.left i.bad])
def kQ:List UInt8→Int
 |[]=>0
 |b::l=>b.toNat+256*kQ l
def getC:Con:=con1 RN (fun i=>[.nm 0 0,zA i.n]) (fun i=>[Rd i.l i.b]) (fun i=>i.n≤8∧i.l.length≤1099511627776) (fun i=>rC (kQ i.got)) (fun i=>[Rd i.left i.bad])
def yVc (i:RN):List SAnn:=[{ι:=Nat,slots:=fun j=>[(5,rC (kQ (i.got.take j))),(12,zA j)],rows:=fun _=>[]}]
structure RB where
 l:List UInt8
 b:Bool
def RB.n (i:RB) (k:Nat):RN:=⟨i.l,i.b,k⟩
def rbyteC:Con:=con1 RB (fun i=>[.nm 0 0]) (fun i=>[Rd i.l i.b]) (fun i=>i.l.length≤1099511627776) (fun i=>zA (kQ (i.n 1).got)) (fun i=>[Rd (i.n 1).left (i.n 1).bad])
def rlongC:Con:=con1 RB (fun i=>[.nm 0 0]) (fun i=>[Rd i.l i.b]) (fun i=>i.l.length≤1099511627776) (fun i=>zA (IntKind.i64.wrap (kQ (i.n 8).got))) (fun i=>[Rd (i.n 8).left (i.n 8).bad])
def rendC:Con:=con1 RB (fun i=>[.nm 0 0]) (fun i=>[Rd i.l i.b]) (fun i=>i.l.length≤1099511627776) (fun i=>zA (if i.b then 10 else if 0<i.l.length then 15 else 0)) (fun i=>[Rd i.l i.b])
open Go Cv Go.Proofs
def cD (a:zUx):Prop:=0≤a.n∧a.n<18446744073709551616∧a.l.length+a.k≤1099511627776
def yIl (i:WN):Prop:=
 ∃(a:zUx),a.n=IntKind.u64.wrap i.n∧(↑a.k:Int)=1∧AObj.adt (List UInt8) 2 WrU a.l=Wr i.l∧(cD a)∧∀(b:Unit),True→∃(c:Unit),AObj.adt (List UInt8) 2 WrU (i.l++[lob i.n])=AObj.adt (List UInt8) 2 WrU (a.l++le a.n a.k)∧True
def yJu (i:WN):Prop:=
 ∃(a:zUx),a.n=IntKind.u64.wrap i.n∧(↑a.k:Int)=8∧AObj.adt (List UInt8) 2 WrU a.l=Wr i.l∧(cD a)∧∀(b:Unit),True→∃(c:Unit),AObj.adt (List UInt8) 2 WrU (i.l++le i.n 8)=AObj.adt (List UInt8) 2 WrU (a.l++le a.n a.k)∧True
def yRu (i:WN):Prop:=
 ∃(a:zUx),a.n=IntKind.u64.wrap i.n∧(↑a.k:Int)=4∧AObj.adt (List UInt8) 2 WrU a.l=Wr i.l∧(cD a)∧∀(b:Unit),True→∃(c:Unit),AObj.adt (List UInt8) 2 WrU (i.l++le i.n 4)=AObj.adt (List UInt8) 2 WrU (a.l++le a.n a.k)∧True
def zSv (i:List (List D)):Prop:=
 ∀(b:Bool),(b=true→i=[])→cnd b (∃(o:Unit),i=i∧i=[]∧True) ((0+i.length)*(1:Nat)≤(140737488355328:Nat)∧∃(o:Unit),i=i∧i=[]++i∧True)
theorem z4f (i:List (List D)):zSv i=walk Tryz.prog ([]) 0 ([]) ([]) [] Tryz.f127 (Tryz.f127.body.getD .skip) (cloneBO.pat i) (cloneBO.pre i) (cloneBO.alts i):=by kernel_rfl
theorem z4y (hG:GOk Tryz.prog ([])) (h:∀(i:List (List D)),cloneBO.cnd i→zSv i):cloneBO.ok Tryz.prog 127:=bD mixed ([]) hG 0 (fun(i:List (List D))=>[]) (fun(i:List (List D))=>[]) [] Tryz.func127 (by kernel_rfl) (by kernel_rfl) (by kernel_rfl) (fun _=>by kernel_rfl) (fun(i:List (List D)) hc=>Eq.mp (z4f i) (h i hc))
def zWf (i:List (List D)):Prop:=
 ∀(b:Bool),(b=true→i=[])→cnd b (∃(o:Unit),i=[]∧True) ((0+i.length)*(1:Nat)≤(140737488355328:Nat)∧∃(o:Unit),i=[]++i∧True)
theorem z5i (i:List (List D)):zWf i=walk Tryz.prog ([]) 0 ([]) ([]) [] Tryz.f127 (Tryz.f127.body.getD .skip) (cloneBR.pat i) (cloneBR.pre i) (cloneBR.alts i):=by kernel_rfl
theorem z4e (hG:GOk Tryz.prog ([])) (h:∀(i:List (List D)),cloneBR.cnd i→zWf i):cloneBR.ok Tryz.prog 127:=bD mixed ([]) hG 0 (fun(i:List (List D))=>[]) (fun(i:List (List D))=>[]) [] Tryz.func127 (by kernel_rfl) (by kernel_rfl) (by kernel_rfl) (fun _=>by kernel_rfl) (fun(i:List (List D)) hc=>Eq.mp (z5i i) (h i hc))
def yQc (i:Unit):Prop:=
 ∃(o:Unit),bE []=[]∧True
def ySr (i:List UInt8):Prop:=
 ∃(i_1:List (List D)),i_1=bE i∧i_1.length*(1:Nat)≤(140737488355328:Nat)∧∀(o:Unit),True→∃(o:Unit),bE i=i_1∧bE i=i_1∧True
def yQb (i:List UInt8):Prop:=
 ∃(a:Nat),zDt (List.take a i)=4294967295∧(↑a:Int)=0∧∃(b:Nat→Prop),∃(c:Nat→Nat),b a∧∀(d:Nat),b d→cnd (decide ((↑d:Int)<(↑(bE i).length:Int))) ((0≤(↑d:Int)∧(↑d:Int)<(↑(bE i).length:Int))∧∃(e:Int),zE (bE i) (↑d:Int).toNat 0 1=some [D.v (.int .u8 e)]∧∃(f:Int×Nat),wZ f.snd f.fst=zAh IntKind.u32 (zDt (List.take d i)) (IntKind.u32.wrap e)∧(↑f.snd:Int)=0∧∃(g:Int×Nat→Prop),∃(h:Int×Nat→Nat),g f∧∀(j:Int×Nat),g j→cnd (decide ((↑j.snd:Int)<8)) ((0:Int)≤(1:Int)∧cnd (decide (lM IntKind.u32 (wZ j.snd j.fst) (1:Int)>(0:Int))) (∃(k:Int×Nat),wZ k.snd k.fst=zAh IntKind.u32 (bU IntKind.u32 (wZ j.snd j.fst) 1) 3988292384∧(↑k.snd:Int)=IntKind.i64.wrap ((↑j.snd:Int)+1)∧g k∧h k<h j∧True) (∃(k:Int×Nat),wZ k.snd k.fst=bU IntKind.u32 (wZ j.snd j.fst) 1∧(↑k.snd:Int)=IntKind.i64.wrap ((↑j.snd:Int)+1)∧g k∧h k<h j∧True)) (∃(k:Nat),zDt (List.take k i)=wZ j.snd j.fst∧kI k d b c)) (∃(e:Unit),aR i=IntKind.u32.wrap (↑(BitVec.ofInt IntKind.u32.bits (if IntKind.u32.signed=true then(-1:Int)else IntKind.u32.max) ^^^ BitVec.ofInt IntKind.u32.bits (zDt (List.take d i))).toNat:Int)∧True)
def ySi (i:List UInt8):Prop:=
 ∃(i_1:List (List D)),i_1=bE i∧i_1.length*(1:Nat)≤(140737488355328:Nat)∧∀(o:Unit),True→∃(o:Unit),bE i=i_1∧false=false∧True
def ySv (i:RN):Prop:=
 cnd i.b (∃(o:Unit),bE i.got=[]∧bE i.left=bE i.l∧i.bad=true∧True) (cnd (decide ((↑i.n:Int)>(↑(bE i.l).length:Int))) (∃(o:Unit),bE i.got=[]∧bE i.left=bE i.l∧i.bad=decide ((↑i.n:Int)>(↑(bE i.l).length:Int))∧True) ((0≤(↑i.n:Int)∧(↑i.n:Int)≤(↑(bE i.l).length:Int))∧(0≤(↑i.n:Int)∧(↑i.n:Int)≤(↑(bE i.l).length:Int))∧∃(o:Unit),bE i.got=List.take (↑i.n:Int).toNat (bE i.l)∧bE i.left=List.drop (↑i.n:Int).toNat (bE i.l)∧i.bad=decide ((↑i.n:Int)>(↑(bE i.l).length:Int))∧True))
def yRj (i:RN):Prop:=
 ∃(a:RN),(↑a.n:Int)=(↑i.n:Int)∧AObj.adt (List UInt8×Bool) 1 RdU (a.l,a.b)=Rd i.l i.b∧(a.n≤255∧a.l.length≤1099511627776)∧∀(b:Unit),True→∃(c:Nat),kQ (List.take c i.got)=0∧(↑c:Int)=0∧∃(d:Nat→Prop),∃(e:Nat→Nat),d c∧∀(f:Nat),d f→cnd (decide ((↑f:Int)<(↑(bE a.got).length:Int))) ((0≤(↑f:Int)∧(↑f:Int)<(↑(bE a.got).length:Int))∧∃(g:Int),zE (bE a.got) (↑f:Int).toNat 0 1=some [D.v (.int .u8 g)]∧0≤IntKind.i64.wrap (8*(↑f:Int))∧∃(h:Nat),kQ (List.take h i.got)=iOr IntKind.u64 (kQ (List.take f i.got)) (zSw IntKind.u64 (IntKind.u64.wrap g) (IntKind.i64.wrap (8*(↑f:Int))))∧(↑h:Int)=IntKind.i64.wrap ((↑f:Int)+1)∧d h∧e h<e f∧AObj.adt (List UInt8×Bool) 1 RdU (a.left,a.bad)=AObj.adt (List UInt8×Bool) 1 RdU (a.left,a.bad)) (∃(g:Unit),kQ i.got=kQ (List.take f i.got)∧AObj.adt (List UInt8×Bool) 1 RdU (i.left,i.bad)=AObj.adt (List UInt8×Bool) 1 RdU (a.left,a.bad)∧True)
def yKo (i:RB):Prop:=
 ∃(i_1:RN),(↑i_1.n:Int)=1∧AObj.adt (List UInt8×Bool) 1 RdU (i_1.l,i_1.b)=Rd i.l i.b∧(i_1.n≤8∧i_1.l.length≤1099511627776)∧∀(o:Unit),True→∃(o:Unit),kQ (i.n 1).got=IntKind.i64.wrap (kQ i_1.got)∧AObj.adt (List UInt8×Bool) 1 RdU ((i.n 1).left,(i.n 1).bad)=AObj.adt (List UInt8×Bool) 1 RdU (i_1.left,i_1.bad)∧True
def yLr (i:RB):Prop:=
 ∃(i_1:RN),(↑i_1.n:Int)=8∧AObj.adt (List UInt8×Bool) 1 RdU (i_1.l,i_1.b)=Rd i.l i.b∧(i_1.n≤8∧i_1.l.length≤1099511627776)∧∀(o:Unit),True→∃(o:Unit),IntKind.i64.wrap (kQ (i.n 8).got)=IntKind.i64.wrap (kQ i_1.got)∧AObj.adt (List UInt8×Bool) 1 RdU ((i.n 8).left,(i.n 8).bad)=AObj.adt (List UInt8×Bool) 1 RdU (i_1.left,i_1.bad)∧True
def ySq (i:RB):Prop:=
 cnd i.b (∃(o:Unit),(if i.b=true then(10:Int)else if 0<i.l.length then(15:Int)else(0:Int))=10∧bE i.l=bE i.l∧i.b=i.b∧True) (cnd (decide ((↑(bE i.l).length:Int)>0)) (∃(o:Unit),(if i.b=true then(10:Int)else if 0<i.l.length then(15:Int)else(0:Int))=15∧bE i.l=bE i.l∧i.b=i.b∧True) (∃(o:Unit),(if i.b=true then(10:Int)else if 0<i.l.length then(15:Int)else(0:Int))=0∧bE i.l=bE i.l∧i.b=i.b∧True))
end Sx
