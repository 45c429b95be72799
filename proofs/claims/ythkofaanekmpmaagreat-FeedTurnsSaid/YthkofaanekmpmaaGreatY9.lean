/- Texts of ours, one behind the other: a walk that the kernel reckons, and contracts of functions. No condition. -/
import Derived.Test.YthkofaanekmpmaaGreatY8
open Sx.AObj renaming fro→aa,cells→ab,adt→ac,map→ae,objs→af,own→ag
open Go.IntKind renaming i64→aj,u64→ak
open List renaming map→am,take→ao
open Go.Value renaming int→ap,string→aq
open Bool renaming true→ar,false→au
open Option renaming some→av,none→aw
namespace Sx
set_option linter.unusedVariables false
set_option maxRecDepth 100000
open Go Cv Go.Proofs
def yXy (i:RjI):Prop:=
 ∃(o:Unit),[x6 (Rep.mk 2 i.c.id 0 0 0 0 0 i.why)]=[[D.v (.int .i64 2),D.v (.int .i64 i.c.id),D.v (.int .i64 0),D.v (.int .i64 0),D.v (.int .i64 0),D.v (.int .i64 0),D.v (.int .i64 0),D.v (.int .i64 i.why)]]∧True
def uI (a:MsI):Prop:=a.r.kind=a.r.kind∧a.r.id=a.r.id∧a.r.inst=a.r.inst∧a.r.side=a.r.side∧a.r.price=a.r.price∧a.r.qty=a.r.qty∧a.r.left=a.r.left∧a.r.why=a.r.why∧True
def fC (a:MsI):=(Rep.mk a.r.kind a.r.id (a.m.p.legs a.r.inst).snd.fst (3-a.r.side) a.far a.r.qty a.r.left a.r.why)
def fL (a:MsI):=(Rep.mk a.r.kind a.r.id (a.m.p.legs a.r.inst).fst a.r.side a.near a.r.qty a.r.left a.r.why)
def tJ (a:MsI) (b:cI):Prop:=(uI a)∧(uI a)∧(uI a)∧(uI a)∧(uI a)∧a.r.side=a.r.side∧∃(c:Unit),sb a.m.p.code=sb a.m.p.code∧a.m.p.tick=a.m.p.tick∧a.m.p.low=a.m.p.low∧a.m.p.high=a.m.p.high∧a.m.p.wide=a.m.p.wide∧a.m.p.rule=a.m.p.rule∧a.m.p.top=a.m.p.top∧a.m.p.least=a.m.p.least∧a.m.p.part=a.m.p.part∧zF a.m.s=y3 a.m 1∧yC a.m.used=yC a.m.used∧aa 1 (iE a.m.p.months)=y3 a.m 3∧aa 1 (iE a.m.p.settle)=y3 a.m 4∧[x6 (fL a),x6 (fC a)]=[[dI a.r.kind,dI a.r.id,dI ((b.p.legs b.n).fst),dI a.r.side,dI a.near,dI a.r.qty,dI a.r.left,dI a.r.why],[dI a.r.kind,dI a.r.id,dI (vA b),dI (aj.wrap (3-a.r.side)),dI a.far,dI a.r.qty,dI a.r.left,dI a.r.why]]∧True
def zXw (i:MsI):Prop:=
 ∃(a:cI),sb a.p.code=sb i.m.p.code∧iE a.p.months=iE i.m.p.months∧a.p.tick=i.m.p.tick∧a.p.low=i.m.p.low∧a.p.high=i.m.p.high∧a.p.wide=i.m.p.wide∧a.p.rule=i.m.p.rule∧a.p.top=i.m.p.top∧a.p.least=i.m.p.least∧a.p.part=i.m.p.part∧iE a.p.settle=iE i.m.p.settle∧a.n=i.r.inst∧(kY a)∧∀(b:Unit),True→(tJ i a)∧tJ i a
def yXx (i:MiN):Prop:=
 ∃(i_1:cI),sb i_1.p.code=sb i.m.p.code∧iE i_1.p.months=iE i.m.p.months∧i_1.p.tick=i.m.p.tick∧i_1.p.low=i.m.p.low∧i_1.p.high=i.m.p.high∧i_1.p.wide=i.m.p.wide∧i_1.p.rule=i.m.p.rule∧i_1.p.top=i.m.p.top∧i_1.p.least=i.m.p.least∧i_1.p.part=i.m.p.part∧iE i_1.p.settle=iE i.m.p.settle∧i_1.n=i.inst∧(i_1.p.code.length≤1099511627776∧i_1.p.months.length≤1099511627776∧i_1.p.settle.length≤1099511627776)∧∀(o:Unit),True→∃(o:Unit),(i.m.p.legs i.inst).snd.snd=(i_1.p.legs i_1.n).snd.snd∧sb i.m.p.code=sb i.m.p.code∧i.m.p.tick=i.m.p.tick∧i.m.p.low=i.m.p.low∧i.m.p.high=i.m.p.high∧i.m.p.wide=i.m.p.wide∧i.m.p.rule=i.m.p.rule∧i.m.p.top=i.m.p.top∧i.m.p.least=i.m.p.least∧i.m.p.part=i.m.p.part∧zF i.m.s=y3 i.m 1∧yC i.m.used=yC i.m.used∧aa 1 (iE i.m.p.months)=y3 i.m 3∧aa 1 (iE i.m.p.settle)=y3 i.m 4∧True
def zSz (a:OfI):Prop:=a.x.price=a.x.price∧a.x.qty=a.x.qty∧a.x.implied=a.x.implied∧aa 6 (am yT a.x.fills)=aa 6 (am yT a.x.fills)∧True
def Vof (i:OfI):Prop:=
 ∃(a:Nat),(↑a:Int)=0∧∃(b:Nat→Prop),∃(c:Nat→Nat),b a∧∀(d:Nat),b d→cnd (decide ((↑d:Int)<(↑(am yT i.x.fills).length:Int))) ((0≤(↑d:Int)∧(↑d:Int)<(↑(am yT i.x.fills).length:Int))∧∃(e:Int),∃(f:Int),∃(g:Int),∃(h:Int),∃(j:Int),∃(k:Int),zE (am yT i.x.fills) (↑d:Int).toNat 0 6=av [dI e,dI f,dI g,dI h,dI j,dI k]∧cnd (f==i.k) (∃(l:Unit),ofF i.x i.k=h∧zSz i) (∃(l:Nat),(↑l:Int)=aj.wrap ((↑d:Int)+1)∧b l∧c l<c d∧ab [zA i.x.price,zA i.x.qty,yF i.x.implied,V.own 1] (321:TypeId)=ab [zA i.x.price,zA i.x.qty,yF i.x.implied,V.own 1] (321:TypeId)∧aa 6 (am yT i.x.fills)=aa 6 (am yT i.x.fills))) (∃(e:Unit),ofF i.x i.k=i.x.price∧zSz i)
def rE (a:MpI):Prop:=sb a.m.p.code=sb a.m.p.code∧a.m.p.tick=a.m.p.tick∧a.m.p.low=a.m.p.low∧a.m.p.high=a.m.p.high∧a.m.p.wide=a.m.p.wide∧a.m.p.rule=a.m.p.rule∧a.m.p.top=a.m.p.top∧a.m.p.least=a.m.p.least∧a.m.p.part=a.m.p.part∧zF a.m.s=y3 a.m 1∧yC a.m.used=yC a.m.used∧aa 1 (iE a.m.p.months)=y3 a.m 3∧aa 1 (iE a.m.p.settle)=y3 a.m 4∧True
def qG (a:MpI):=(wQ a.m.p a.inst a.x)
def zXo (i:MpI):Prop:=
 cnd (!i.x.implied) (∃(a:LpI),sb a.p.code=sb i.m.p.code∧iE a.p.months=iE i.m.p.months∧a.p.tick=i.m.p.tick∧a.p.low=i.m.p.low∧a.p.high=i.m.p.high∧a.p.wide=i.m.p.wide∧a.p.rule=i.m.p.rule∧a.p.top=i.m.p.top∧a.p.least=i.m.p.least∧a.p.part=i.m.p.part∧iE a.p.settle=iE i.m.p.settle∧a.inst=i.inst∧a.price=i.x.price∧(a.p.check=0∧(a.p.code.length≤1099511627776∧a.p.months.length≤1099511627776∧a.p.settle.length≤1099511627776)∧(-9223372036854775808)≤a.price∧a.price≤9223372036854775807)∧∀(b:Unit),True→∃(c:Unit),(qG i).fst=(yX a).fst∧(qG i).snd=(yX a).snd.fst∧rE i) (∃(a:cI),sb a.p.code=sb i.m.p.code∧iE a.p.months=iE i.m.p.months∧a.p.tick=i.m.p.tick∧a.p.low=i.m.p.low∧a.p.high=i.m.p.high∧a.p.wide=i.m.p.wide∧a.p.rule=i.m.p.rule∧a.p.top=i.m.p.top∧a.p.least=i.m.p.least∧a.p.part=i.m.p.part∧iE a.p.settle=iE i.m.p.settle∧a.n=i.inst∧(kY a)∧∀(b:Unit),True→∃(c:OfI),c.k=(a.p.legs a.n).fst∧c.x.price=i.x.price∧c.x.qty=i.x.qty∧c.x.implied=i.x.implied∧aa 6 (am yT c.x.fills)=aa 6 (am yT i.x.fills)∧c.x.fills.length≤1000000∧∀(d:Unit),True→∃(e:OfI),e.k=(a.p.legs a.n).snd.fst∧e.x.price=c.x.price∧e.x.qty=c.x.qty∧e.x.implied=c.x.implied∧aa 6 (am yT e.x.fills)=aa 6 (am yT c.x.fills)∧e.x.fills.length≤1000000∧∀(f:Unit),True→∃(g:Unit),(qG i).fst=ofF c.x c.k∧(qG i).snd=ofF e.x e.k∧rE i)
def zAj (a:MpI):Prop:=(a.m.p.check=0∧a.m.p.code.length≤1099511627776∧a.m.p.months.length≤1099511627776∧a.m.p.settle.length≤1099511627776)∧((-9223372036854775808)≤a.x.price∧a.x.price≤9223372036854775807)∧a.x.fills.length≤1000000
def zBv (a:MsI):Prop:=(a.m.p.check=0∧a.m.p.code.length≤1099511627776∧a.m.p.months.length≤1099511627776∧a.m.p.settle.length≤1099511627776)∧(a.r.side=1∨a.r.side=2)
def zBo (a:MiN):Prop:=a.m.p.check=0∧a.m.p.code.length≤1099511627776∧a.m.p.months.length≤1099511627776∧a.m.p.settle.length≤1099511627776
def aD (a:StI'):=(D.v (aq (sb a.c.label)))
def yCl (i:StI'):Prop:=
 ∃(a:Nat),(↑a:Int)=0∧am x6 (i.out a)=[]∧∃(b:Nat→Prop),∃(c:Nat→Nat),b a∧∀(d:Nat),b d→cnd (decide ((↑d:Int)<(↑(am yT i.x.fills).length:Int))) ((0≤(↑d:Int)∧(↑d:Int)<(↑(am yT i.x.fills).length:Int))∧∃(e:Int),∃(f:Int),∃(g:Int),∃(h:Int),∃(j:Int),∃(k:Int),zE (am yT i.x.fills) (↑d:Int).toNat 0 6=av [dI e,dI f,dI g,dI h,dI j,dI k]∧((am x6 (i.out d)).length+1)*(64:Nat)≤(140737488355328:Nat)∧∃(l:MiN),l.inst=f∧sb l.m.p.code=sb i.m.p.code∧l.m.p.tick=i.m.p.tick∧l.m.p.low=i.m.p.low∧l.m.p.high=i.m.p.high∧l.m.p.wide=i.m.p.wide∧l.m.p.rule=i.m.p.rule∧l.m.p.top=i.m.p.top∧l.m.p.least=i.m.p.least∧l.m.p.part=i.m.p.part∧zF l.m.s=y3 i.m 1∧yC l.m.used=yC i.m.used∧aa 1 (iE l.m.p.months)=y3 i.m 3∧aa 1 (iE l.m.p.settle)=y3 i.m 4∧(zBo l)∧∀(m:Unit),True→cnd (l.m.p.legs l.inst).snd.snd (∃(n:MpI),n.inst=f∧n.x.price=i.x.price∧n.x.qty=i.x.qty∧n.x.implied=i.x.implied∧am yT n.x.fills=am yT i.x.fills∧sb n.m.p.code=sb l.m.p.code∧n.m.p.tick=l.m.p.tick∧n.m.p.low=l.m.p.low∧n.m.p.high=l.m.p.high∧n.m.p.wide=l.m.p.wide∧n.m.p.rule=l.m.p.rule∧n.m.p.top=l.m.p.top∧n.m.p.least=l.m.p.least∧n.m.p.part=l.m.p.part∧zF n.m.s=zF l.m.s∧yC n.m.used=yC l.m.used∧aa 1 (iE n.m.p.months)=aa 1 (iE l.m.p.months)∧aa 1 (iE n.m.p.settle)=aa 1 (iE l.m.p.settle)∧(zAj n)∧∀(p:Unit),True→∃(q:MsI),q.r.kind=3∧q.r.id=e∧q.r.inst=f∧q.r.side=g∧q.r.price=h∧q.r.qty=j∧q.r.left=k∧q.r.why=0∧q.near=(qG n).fst∧q.far=(qG n).snd∧sb q.m.p.code=sb n.m.p.code∧q.m.p.tick=n.m.p.tick∧q.m.p.low=n.m.p.low∧q.m.p.high=n.m.p.high∧q.m.p.wide=n.m.p.wide∧q.m.p.rule=n.m.p.rule∧q.m.p.top=n.m.p.top∧q.m.p.least=n.m.p.least∧q.m.p.part=n.m.p.part∧zF q.m.s=zF n.m.s∧yC q.m.used=yC n.m.used∧aa 1 (iE q.m.p.months)=aa 1 (iE n.m.p.months)∧aa 1 (iE q.m.p.settle)=aa 1 (iE n.m.p.settle)∧(zBv q)∧∀(r:Unit),True→True∧((am x6 (i.out d)++[[dI 3,dI e,dI f,dI g,dI h,dI j,dI k,dI 0]]).length+2)*(64:Nat)≤(140737488355328:Nat)∧∃(s:Nat),(↑s:Int)=aj.wrap ((↑d:Int)+1)∧am x6 (i.out s)=am x6 (i.out d)++[[dI 3,dI e,dI f,dI g,dI h,dI j,dI k,dI 0]]++[x6 (fL q),x6 (fC q)]∧b s∧c s<c d∧ab [V.d (dI i.x.price),V.d (dI i.x.qty),V.d (D.v (.bool i.x.implied)),V.own ((5:Nat)+(1:Nat)+1)] 321=ab [V.d (dI i.x.price),V.d (dI i.x.qty),V.d (D.v (.bool i.x.implied)),V.own ((5:Nat)+(1:Nat)+1)] 321∧aa 6 (am yT i.x.fills)=aa 6 (am yT i.x.fills)∧ab [V.d (dI i.c.kind),V.d (dI i.c.id),V.d (dI i.c.inst),V.d (dI i.c.side),V.d (dI i.c.price),V.d (dI i.c.qty),V.d (dI i.c.least),V.d (dI i.c.time),V.d (aD i)] 80=ab [V.d (dI i.c.kind),V.d (dI i.c.id),V.d (dI i.c.inst),V.d (dI i.c.side),V.d (dI i.c.price),V.d (dI i.c.qty),V.d (dI i.c.least),V.d (dI i.c.time),V.d (aD i)] 80∧ab [V.nm 0 0] 100=ab [V.nm 0 0] 100∧ab (vI (cO 5 ((5:Nat)+(1:Nat)+(1:Nat)+(1:Nat)+(1:Nat)+(1:Nat)+(1:Nat)+(2:Nat)+(1:Nat)+(1:Nat)+(1:Nat)+(1:Nat)+((5:Nat)-(5:Nat))+((5:Nat)-(5:Nat))) ((6:Nat)-(5:Nat)) [((2:Nat),(2:Nat)),((1:Nat),(1:Nat)),((4:Nat),(4:Nat)),((3:Nat),(3:Nat)),((0:Nat),(0:Nat))]) [sV q.m.p.code,V.own 3,zA q.m.p.tick,zA q.m.p.low,zA q.m.p.high,zA q.m.p.wide,zA q.m.p.rule,zA q.m.p.top,zA q.m.p.least,zA q.m.p.part,V.own 4,V.nm 1 0,V.mp 2]) (179:TypeId)=y3 i.m 0∧zF q.m.s=y3 i.m 1∧ae (yC q.m.used)=y3 i.m 2∧aa 1 (iE q.m.p.months)=y3 i.m 3∧aa 1 (iE q.m.p.settle)=y3 i.m 4) (∃(n:Nat),(↑n:Int)=aj.wrap ((↑d:Int)+1)∧am x6 (i.out n)=am x6 (i.out d)++[[dI 3,dI e,dI f,dI g,dI h,dI j,dI k,dI 0]]∧b n∧c n<c d∧ab [V.d (dI i.x.price),V.d (dI i.x.qty),V.d (D.v (.bool i.x.implied)),V.own ((5:Nat)+(1:Nat)+1)] 321=ab [V.d (dI i.x.price),V.d (dI i.x.qty),V.d (D.v (.bool i.x.implied)),V.own ((5:Nat)+(1:Nat)+1)] 321∧aa 6 (am yT i.x.fills)=aa 6 (am yT i.x.fills)∧ab [V.d (dI i.c.kind),V.d (dI i.c.id),V.d (dI i.c.inst),V.d (dI i.c.side),V.d (dI i.c.price),V.d (dI i.c.qty),V.d (dI i.c.least),V.d (dI i.c.time),V.d (aD i)] 80=ab [V.d (dI i.c.kind),V.d (dI i.c.id),V.d (dI i.c.inst),V.d (dI i.c.side),V.d (dI i.c.price),V.d (dI i.c.qty),V.d (dI i.c.least),V.d (dI i.c.time),V.d (aD i)] 80∧ab [V.nm 0 0] 100=ab [V.nm 0 0] 100∧ab (vI (cO 5 ((5:Nat)+(1:Nat)+(1:Nat)+(1:Nat)+(1:Nat)+(1:Nat)+(1:Nat)+(2:Nat)+(1:Nat)+(1:Nat)+(1:Nat)+(1:Nat)) ((5:Nat)-(5:Nat)) [((2:Nat),(2:Nat)),((1:Nat),(1:Nat)),((4:Nat),(4:Nat)),((3:Nat),(3:Nat)),((0:Nat),(0:Nat))]) [sV l.m.p.code,V.own 3,zA l.m.p.tick,zA l.m.p.low,zA l.m.p.high,zA l.m.p.wide,zA l.m.p.rule,zA l.m.p.top,zA l.m.p.least,zA l.m.p.part,V.own 4,V.nm 1 0,V.mp 2]) (179:TypeId)=y3 i.m 0∧zF l.m.s=y3 i.m 1∧ae (yC l.m.used)=y3 i.m 2∧aa 1 (iE l.m.p.months)=y3 i.m 3∧aa 1 (iE l.m.p.settle)=y3 i.m 4)) (((am x6 (i.out d)).length+1)*(64:Nat)≤(140737488355328:Nat)∧∃(e:MiN),e.inst=i.c.inst∧sb e.m.p.code=sb i.m.p.code∧e.m.p.tick=i.m.p.tick∧e.m.p.low=i.m.p.low∧e.m.p.high=i.m.p.high∧e.m.p.wide=i.m.p.wide∧e.m.p.rule=i.m.p.rule∧e.m.p.top=i.m.p.top∧e.m.p.least=i.m.p.least∧e.m.p.part=i.m.p.part∧zF e.m.s=y3 i.m 1∧yC e.m.used=yC i.m.used∧aa 1 (iE e.m.p.months)=y3 i.m 3∧aa 1 (iE e.m.p.settle)=y3 i.m 4∧(zBo e)∧∀(f:Unit),True→cnd (e.m.p.legs e.inst).snd.snd (∃(g:MpI),g.inst=i.c.inst∧g.x.price=i.x.price∧g.x.qty=i.x.qty∧g.x.implied=i.x.implied∧am yT g.x.fills=am yT i.x.fills∧sb g.m.p.code=sb e.m.p.code∧g.m.p.tick=e.m.p.tick∧g.m.p.low=e.m.p.low∧g.m.p.high=e.m.p.high∧g.m.p.wide=e.m.p.wide∧g.m.p.rule=e.m.p.rule∧g.m.p.top=e.m.p.top∧g.m.p.least=e.m.p.least∧g.m.p.part=e.m.p.part∧zF g.m.s=zF e.m.s∧yC g.m.used=yC e.m.used∧aa 1 (iE g.m.p.months)=aa 1 (iE e.m.p.months)∧aa 1 (iE g.m.p.settle)=aa 1 (iE e.m.p.settle)∧(zAj g)∧∀(h:Unit),True→∃(j:MsI),j.r.kind=3∧j.r.id=i.c.id∧j.r.inst=i.c.inst∧j.r.side=i.c.side∧j.r.price=i.x.price∧j.r.qty=i.x.qty∧j.r.left=i.left∧j.r.why=0∧j.near=(qG g).fst∧j.far=(qG g).snd∧sb j.m.p.code=sb g.m.p.code∧j.m.p.tick=g.m.p.tick∧j.m.p.low=g.m.p.low∧j.m.p.high=g.m.p.high∧j.m.p.wide=g.m.p.wide∧j.m.p.rule=g.m.p.rule∧j.m.p.top=g.m.p.top∧j.m.p.least=g.m.p.least∧j.m.p.part=g.m.p.part∧zF j.m.s=zF g.m.s∧yC j.m.used=yC g.m.used∧aa 1 (iE j.m.p.months)=aa 1 (iE g.m.p.months)∧aa 1 (iE j.m.p.settle)=aa 1 (iE g.m.p.settle)∧(zBv j)∧∀(k:Unit),True→True∧((am x6 (i.out d)++[[dI 3,dI i.c.id,dI i.c.inst,dI i.c.side,dI i.x.price,dI i.x.qty,dI i.left,dI 0]]).length+2)*(64:Nat)≤(140737488355328:Nat)∧∃(l:Unit),sb i.m.p.code=sb j.m.p.code∧i.m.p.tick=j.m.p.tick∧i.m.p.low=j.m.p.low∧i.m.p.high=j.m.p.high∧i.m.p.wide=j.m.p.wide∧i.m.p.rule=j.m.p.rule∧i.m.p.top=j.m.p.top∧i.m.p.least=j.m.p.least∧i.m.p.part=j.m.p.part∧zF i.m.s=zF j.m.s∧yC i.m.used=yC j.m.used∧aa 1 (iE i.m.p.months)=aa 1 (iE j.m.p.months)∧aa 1 (iE i.m.p.settle)=aa 1 (iE j.m.p.settle)∧am x6 (nN i.m.p i.c i.x i.left)=am x6 (i.out d)++[[dI 3,dI i.c.id,dI i.c.inst,dI i.c.side,dI i.x.price,dI i.x.qty,dI i.left,dI 0]]++[x6 (fL j),x6 (fC j)]∧True) (∃(g:Unit),sb i.m.p.code=sb e.m.p.code∧i.m.p.tick=e.m.p.tick∧i.m.p.low=e.m.p.low∧i.m.p.high=e.m.p.high∧i.m.p.wide=e.m.p.wide∧i.m.p.rule=e.m.p.rule∧i.m.p.top=e.m.p.top∧i.m.p.least=e.m.p.least∧i.m.p.part=e.m.p.part∧zF i.m.s=zF e.m.s∧yC i.m.used=yC e.m.used∧aa 1 (iE i.m.p.months)=aa 1 (iE e.m.p.months)∧aa 1 (iE i.m.p.settle)=aa 1 (iE e.m.p.settle)∧am x6 (nN i.m.p i.c i.x i.left)=am x6 (i.out d)++[[dI 3,dI i.c.id,dI i.c.inst,dI i.c.side,dI i.x.price,dI i.x.qty,dI i.left,dI 0]]∧True))
set_option linter.unusedSimpArgs false
open Go Cv Go.Proofs
theorem zZv:rejC.ok Tryz.prog 112:=okw (V:=yXy) mixed gok0 0 (fun _=>[]) (fun _=>[]) [] Tryz.func112 fun(i:RjI) _=>⟨(),rfl,trivial⟩
theorem yBq (i:MsI) (h:mspreadC.cnd i):zXw i:=by
 obtain⟨⟨hc,hp⟩,hs⟩:i.m.fine∧(i.r.side=1∨i.r.side=2):=h
 have hw:aj.wrap (3-i.r.side)=3-i.r.side:=w64 (by omega)
 unfold zXw tJ fL fC uI vA kY dI
 rw[hw]
 refine⟨⟨i.m.p,i.r.inst⟩,rfl,rfl,rfl,rfl,rfl,rfl,rfl,rfl,rfl,rfl,rfl,rfl,hp,fun _ _=> ?_⟩
 exact kp
theorem z1j:mspreadC.ok Tryz.prog 239:=okw mixed (gokc lU gok0) 0 (fun _=>[]) (fun _=>[]) [] Tryz.func239 yBq
theorem yQl:misC.ok Tryz.prog 237:=okw (V:=yXx) mixed (gokc lU gok0) 0 (fun _=>[]) (fun _=>[]) [] Tryz.func237 fun(i:MiN) h=>by
 obtain⟨hc,hp⟩:i.m.fine:=h
 exact⟨⟨i.m.p,i.inst⟩,rfl,rfl,rfl,rfl,rfl,rfl,rfl,rfl,rfl,rfl,rfl,rfl,hp,fun _ _=>kp⟩
theorem yUu {l:List cF} {k:Nat} {f:cF} (h:l[k]? =av f):zE (l.map yT) k 0 6=av [D.v (.int .i64 f.id),D.v (.int .i64 f.inst),D.v (.int .i64 f.side),D.v (.int .i64 f.price),D.v (.int .i64 f.qty),D.v (.int .i64 f.left)]:=elA h (by simp[yT]) rfl
theorem vof (i:OfI) (h:ofC.cnd i):Vof i:=by
 have hl:i.x.fills.length≤1000000:=h
 have e4:(i.x.fills.map yT).length=i.x.fills.length:=y0a ..
 unfold Vof zSz dI
 refine⟨0,rfl,fun j=>j≤i.x.fills.length∧(i.x.fills.take j).find? (fun f=>decide (f.inst=i.k))=aw,fun j=>i.x.fills.length-j,⟨y1n _,rfl⟩,?_⟩
 rintro j ⟨j1,j2⟩
 refine zJ (fun c=> ?_) (fun c=> ?_)
 ·obtain⟨f,hf⟩:=z8 (l:=i.x.fills) (i:=j) (by omega)
  refine⟨⟨by omega,by omega⟩,_,_,_,_,_,_,yUu hf,Cv.cnd.mk (fun g=>⟨(),?_,k0q⟩) (fun g=>⟨j+1,wjn (by omega),⟨by omega,?_⟩,by dsimp only;omega,k0q⟩)⟩
  ·have g:f.inst=i.k:=by simpa using g
   have e:i.x.fills.find? (fun f=>decide (f.inst=i.k))=av f:=by
    rw[← y2g j i.x.fills,List.find?_append,j2,y2x (by omega),(yZz.1 hf).2,List.find?_cons_of_pos (by simpa using g)]
    rfl
   rw[ofF,e]
  ·have g:¬f.inst=i.k:=by simpa using g
   rw[y1i,hf,List.find?_append,j2]
   simp[g]
 ·have:j=i.x.fills.length:=by omega
  rw[this,y0p (y1f _)]at j2
  exact⟨(),by rw[ofF,j2],k0q⟩
theorem yUw:ofC.ok Tryz.prog 265:=okw mixed gok0 0 (fun _=>[]) (fun _=>ofA) [] Tryz.func265 vof
theorem yFx (i:MpI) (h:mpricesC.cnd i):zXo i:=by
 obtain⟨⟨hc,hp⟩,hpr,hl⟩:i.m.fine∧yO i.x.price∧i.x.fills.length≤1000000:=h
 unfold zXo qG rE yX kY
 refine Cv.cnd.mk (fun e=> ?_) (fun e=> ?_)
 ·have e:i.x.implied=au:=by simpa using e
  have h0:wQ i.m.p i.inst i.x=((fE i.m.p i.inst i.x.price).1,(fE i.m.p i.inst i.x.price).2.1):=by rw[wQ,yZy e]
  rw[h0]
  exact⟨⟨i.m.p,i.inst,i.x.price⟩,rfl,rfl,rfl,rfl,rfl,rfl,rfl,rfl,rfl,rfl,rfl,rfl,rfl,⟨hc,hp,hpr⟩,fun _ _=>kp⟩
 ·have e:¬i.x.implied=au:=by simpa using e
  have h0:wQ i.m.p i.inst i.x=(ofF i.x (i.m.p.legs i.inst).1,ofF i.x (i.m.p.legs i.inst).2.1):=by rw[wQ,yZx e]
  rw[h0]
  exact⟨⟨i.m.p,i.inst⟩,rfl,rfl,rfl,rfl,rfl,rfl,rfl,rfl,rfl,rfl,rfl,rfl,hp,fun _ _=>⟨⟨i.x,(i.m.p.legs i.inst).1⟩,rfl,rfl,rfl,rfl,rfl,hl,fun _ _=>⟨⟨i.x,(i.m.p.legs i.inst).2.1⟩,rfl,rfl,rfl,rfl,rfl,hl,fun _ _=>kp⟩⟩⟩
theorem z1r:mpricesC.ok Tryz.prog 238:=okw mixed (gokc lU (gokc zZa (gokc yUw gok0))) 0 (fun _=>[]) (fun _=>[]) [] Tryz.func238 yFx
theorem zLw (p:Prd) (x:wF) (r:Rep):(rW p x r).length≤3:=by
 rw[rW,y0f]
 split
 ·rw[zJd];simp
 ·simp
theorem z5h {p:Prd} {x:wF} {r:Rep} (h:(p.legs r.inst).2.2=au):rW p x r=[r]:=by
 rw[rW,yZx (by rw[h];decide)]
theorem zWy {p:Prd} {x:wF} {r:Rep} (h:(p.legs r.inst).2.2=ar):rW p x r=r::zJd p r (wQ p r.inst x).1 (wQ p r.inst x).2:=by
 rw[rW,yZy h]
theorem StI'.out_len (i:StI'):∀j,(i.out j).length≤3*j
 |0=>y1f _
 |j+1=>by
  have ih:=StI'.out_len i j
  rw[StI'.out]at ih ⊢
  rw[y1i,y1u,y0e]
  cases e:i.x.fills[j]? with
  |none=>simp only[Option.toList_none,y5h,y2t];omega
  |some f=>
   have:=zLw i.m.p i.x (zDb f)
   simp only[y3f,y1s,y5h,y0v]
   omega
theorem StI'.out_succ (i:StI') {j:Nat} {f:cF} (h:i.x.fills[j]? =av f):i.out (j+1)=i.out j++rW i.m.p i.x (zDb f):=by
 rw[StI'.out,StI'.out,y1i,y1u,h]
 simp
theorem ySi (i:StI') (h:mstepC.cnd i):yCl i:=by
 obtain⟨hf,hpr,hl,hcs,hfs⟩:i.m.fine∧yO i.x.price∧i.x.fills.length≤1000000∧(i.c.side=1∨i.c.side=2)∧∀f∈i.x.fills,f.side=1∨f.side=2:=h
 have e4:(i.x.fills.map yT).length=i.x.fills.length:=y0a ..
 unfold yCl aD zBo zBv zAj fL fC qG dI
 refine⟨0,rfl,rfl,fun j=>j≤i.x.fills.length,fun j=>i.x.fills.length-j,y1n _,?_⟩
 intro j hj
 have ho:=i.out_len j
 have e5:((i.out j).map x6).length=(i.out j).length:=y0a ..
 refine zJ (fun c=> ?_) (fun c=> ?_)
 ·obtain⟨f,hfj⟩:=z8 (l:=i.x.fills) (i:=j) (by omega)
  have hos:=i.out_succ hfj
  have hfj2:=hfs f (y0g hfj)
  refine⟨⟨by omega,by omega⟩,_,_,_,_,_,_,yUu hfj,by omega,⟨i.m,f.inst⟩,rfl,rfl,rfl,rfl,rfl,rfl,rfl,rfl,rfl,rfl,rfl,rfl,rfl,rfl,hf,fun _ _=>Cv.cnd.mk (fun e=> ?_) (fun e=> ?_)⟩
  ·have e:(i.m.p.legs (zDb f).inst).2.2=ar:=e
   rw[zWy e]at hos
   refine⟨⟨i.m,f.inst,i.x⟩,rfl,rfl,rfl,rfl,rfl,rfl,rfl,rfl,rfl,rfl,rfl,rfl,rfl,rfl,rfl,rfl,rfl,rfl,⟨hf,hpr,hl⟩,fun _ _=>⟨⟨i.m,zDb f,(wQ i.m.p f.inst i.x).1,(wQ i.m.p f.inst i.x).2⟩,rfl,rfl,rfl,rfl,rfl,rfl,rfl,rfl,rfl,rfl,rfl,rfl,rfl,rfl,rfl,rfl,rfl,rfl,rfl,rfl,rfl,rfl,rfl,⟨hf,hfj2⟩,fun _ _=>⟨trivial,by rw[y0e,e5];simp only[y0f,y2t];omega,j+1,wjn (by omega),?_,by omega,by dsimp only;omega,k0q⟩⟩⟩
   rw[hos,y0j,y0i]
   rfl
  ·have e:(i.m.p.legs (zDb f).inst).2.2=au:=e
   rw[z5h e]at hos
   refine⟨j+1,wjn (by omega),?_,by omega,by dsimp only;omega,k0q⟩
   rw[hos,y0j];rfl
 ·have hj:j=i.x.fills.length:=by omega
  have ho2:i.x.fills.flatMap (fun f=>rW i.m.p i.x (zDb f))=i.out j:=by rw[StI'.out,hj,y0p (y1f _)]
  have hR:nN i.m.p i.c i.x i.left=i.out j++rW i.m.p i.x ⟨3,i.c.id,i.c.inst,i.c.side,i.x.price,i.x.qty,i.left,0⟩:=by rw[nN,ho2]
  refine⟨by omega,⟨i.m,i.c.inst⟩,rfl,rfl,rfl,rfl,rfl,rfl,rfl,rfl,rfl,rfl,rfl,rfl,rfl,rfl,hf,fun _ _=>Cv.cnd.mk (fun e=> ?_) (fun e=> ?_)⟩
  ·have e:(i.m.p.legs (⟨3,i.c.id,i.c.inst,i.c.side,i.x.price,i.x.qty,i.left,0⟩:Rep).inst).2.2=ar:=e
   rw[zWy e]at hR
   refine⟨⟨i.m,i.c.inst,i.x⟩,rfl,rfl,rfl,rfl,rfl,rfl,rfl,rfl,rfl,rfl,rfl,rfl,rfl,rfl,rfl,rfl,rfl,rfl,⟨hf,hpr,hl⟩,fun _ _=>⟨⟨i.m,⟨3,i.c.id,i.c.inst,i.c.side,i.x.price,i.x.qty,i.left,0⟩,(wQ i.m.p i.c.inst i.x).1,(wQ i.m.p i.c.inst i.x).2⟩,rfl,rfl,rfl,rfl,rfl,rfl,rfl,rfl,rfl,rfl,rfl,rfl,rfl,rfl,rfl,rfl,rfl,rfl,rfl,rfl,rfl,rfl,rfl,⟨hf,hcs⟩,fun _ _=>⟨trivial,by rw[y0e,e5];simp only[y0f,y2t];omega,?_⟩⟩⟩
   rw[hR,y0j,y0i]
   exact kp
  ·have e:(i.m.p.legs (⟨3,i.c.id,i.c.inst,i.c.side,i.x.price,i.x.qty,i.left,0⟩:Rep).inst).2.2=au:=e
   rw[z5h e]at hR
   rw[hR,y0j]
   exact kp
theorem yAq:mstepC.ok Tryz.prog 208:=okw mixed (gokc yQl (gokc z1r (gokc z1j gok0))) 1 (fun _=>[]) (fun i=>yTl i) [] Tryz.func208 ySi
open Go Cv Go.Proofs
structure EnI where
 m:Mkt
 p:Prd
 B:List (List zK)
 U:List Int
 c:Cmd
 X:MkX
@[reducible] def EnI.std (i:EnI):Prop:=i.m.Rep i.p i.B i.U∧BOk i.p i.B
@[reducible] def EnI.good (i:EnI):Prop:=(0≤i.c.inst∧i.c.inst<i.B.length)∧(1≤i.c.qty∧i.c.qty≤1000000)∧(i.c.side=1∨i.c.side=2)
@[reducible] def zWb (X:MkX) (p:Prd):Alt:={o:=Mkt,res:=fun _=> .own 5,post:=fun o=>zCd o++[z0j X.R],rel:=fun o=>o.Rep p X.B X.U}
def enterC:Con where
 ι:=EnI
 pat:=fun i=>[.nm 0 0,zOo i.c]
 pre:=fun i=>zCd i.m
 cnd:=fun i=>i.std∧i.good∧i.p.price i.c.inst i.c.price=0∧i.X=mB i.p i.B i.U i.c
 alts:=fun i=>[zWb i.X i.p]
structure EnJ where
 left:Int
 k:Nat
 out:List Rep
def yOw (i:EnI):List SAnn:=[{ι:=EnJ,slots:=fun j=>[(5,.own 0),(8,zA j.left),(51,zA j.k)],rows:=fun j=>[z0j j.out]}]
def orderC:Con where
 ι:=EnI
 pat:=fun i=>[.nm 0 0,zOo i.c]
 pre:=fun i=>zCd i.m
 cnd:=fun i=>i.std∧i.c.right=0∧i.c.kind=1∧i.X=tF i.p i.B i.U i.c
 alts:=fun i=>[zWb i.X i.p]
def ySp:List (Nat×SAnn):=[(22,ij 6),(44,bj 47),(52,bj 69)]
structure CaI where
 m:Mkt
 p:Prd
 B:List (List zK)
 U:List Int
 id:Int
 q:Int
 inst:Int
 o:zK
 X:MkX
@[reducible] def CaI.std (i:CaI):Prop:=i.m.Rep i.p i.B i.U∧BOk i.p i.B
def cancelC:Con where
 ι:=CaI
 pat:=fun i=>[.nm 0 0,zA i.id,zA i.inst,z9g i.o]
 pre:=fun i=>zCd i.m
 cnd:=fun i=>i.std∧i.X=aS i.B i.U i.id i.inst i.o
 alts:=fun i=>[zWb i.X i.p]
def reduceC:Con where
 ι:=CaI
 pat:=fun i=>[.nm 0 0,zA i.id,zA i.q,zA i.inst,z9g i.o]
 pre:=fun i=>zCd i.m
 cnd:=fun i=>i.std∧yO (i.o.qty-i.q)∧i.X=zDp i.B i.U i.id i.q i.inst i.o
 alts:=fun i=>[zWb i.X i.p]
structure z7l where
 m:Mkt
 p:Prd
 B:List (List zK)
 U:List Int
 c:Cmd
 inst:Int
 o:zK
 X:MkX
def replaceC:Con where
 ι:=z7l
 pat:=fun i=>[.nm 0 0,zOo i.c,zA i.inst,z9g i.o]
 pre:=fun i=>zCd i.m
 cnd:=fun i=>i.m.Rep i.p i.B i.U∧BOk i.p i.B∧yG i.B i.c.id=(i.inst,i.o,ar)∧(1≤i.c.qty∧i.c.qty≤1000000)∧i.X=aI i.p i.B i.U i.c i.inst i.o
 alts:=fun i=>[zWb i.X i.p]
def doC:Con where
 ι:=EnI
 pat:=fun i=>[.nm 0 0,zOo i.c]
 pre:=fun i=>[fS i.m]
 cnd:=fun i=>i.std∧i.c.label.length≤140737488355328∧yO i.c.qty∧i.X=doF i.p i.B i.U i.c
 alts:=fun i=>[{o:=Mkt,res:=fun _=> .own 1,post:=fun o=>[fS o,z0j i.X.R],rel:=fun o=>o.Rep i.p i.X.B i.X.U}]
open Go Cv Go.Proofs
def zCb (a:Mkt) (b:EnI) (c:EnJ):Prop:=yC a.used=fM (ap aj b.c.id) [D.v (.bool ar)] (yC b.m.used)∧aa 1 (iE a.p.months)=y3 b.m 3∧aa 1 (iE a.p.settle)=y3 b.m 4∧am x6 b.X.R=am x6 c.out∧a.Rep b.p b.X.B b.X.U
def vN (a:EnI):=(D.v (aq (sb a.c.label)))
def yGw (i:EnI):Prop:=
 (∀(a:Value×List D),a∈yC i.m.used→like (ap aj i.c.id) a.fst=ar)∧∃(a:RunI),a.inst=i.c.inst∧zD a.sd=i.c.side∧a.price=i.c.price∧a.q=i.c.qty∧zF a.s=y3 i.m 1∧(qI a)∧∀(b:MSt),b.Rep a.p a.r.B→∃(c:EnJ),c.left=i.c.qty∧(↑c.k:Int)=0∧am x6 c.out=[[dI 1,dI i.c.id,dI i.c.inst,dI i.c.side,dI i.c.price,dI i.c.qty,dI i.c.qty,dI 0]]∧∃(d:EnJ→Prop),∃(e:EnJ→Nat),d c∧∀(f:EnJ),d f→cnd (decide ((↑f.k:Int)<(↑(am jZ a.r.steps).length:Int))) ((0≤(↑f.k:Int)∧(↑f.k:Int)<(↑(am jZ a.r.steps).length:Int))∧∃(g:Int),∃(h:Int),∃(j:Bool),∃(k:List (List D)),zE (am jZ a.r.steps) (↑f.k:Int).toNat 0 4=av [dI g,dI h,D.v (.bool j),D.ro 6 k]∧∃(l:StI'),l.c.kind=i.c.kind∧l.c.id=i.c.id∧l.c.inst=i.c.inst∧l.c.side=i.c.side∧l.c.price=i.c.price∧l.c.qty=i.c.qty∧l.c.least=i.c.least∧l.c.time=i.c.time∧sb l.c.label=sb i.c.label∧l.x.price=g∧l.x.qty=h∧l.x.implied=j∧am yT l.x.fills=k∧l.left=aj.wrap (f.left-h)∧sb l.m.p.code=sb i.m.p.code∧l.m.p.tick=i.m.p.tick∧l.m.p.low=i.m.p.low∧l.m.p.high=i.m.p.high∧l.m.p.wide=i.m.p.wide∧l.m.p.rule=i.m.p.rule∧l.m.p.top=i.m.p.top∧l.m.p.least=i.m.p.least∧l.m.p.part=i.m.p.part∧zF l.m.s=zF b∧yC l.m.used=fM (ap aj i.c.id) [D.v (.bool ar)] (yC i.m.used)∧aa 1 (iE l.m.p.months)=y3 i.m 3∧aa 1 (iE l.m.p.settle)=y3 i.m 4∧((l.m.p.check=0∧l.m.p.code.length≤1099511627776∧l.m.p.months.length≤1099511627776∧l.m.p.settle.length≤1099511627776)∧((-9223372036854775808)≤l.x.price∧l.x.price≤9223372036854775807)∧l.x.fills.length≤1000000∧(l.c.side=1∨l.c.side=2)∧∀(m:cF),m∈l.x.fills→m.side=1∨m.side=2)∧∀(m:Unit),True→((am x6 f.out).length+(am x6 (nN l.m.p l.c l.x l.left)).length)*(64:Nat)≤(140737488355328:Nat)∧∃(n:EnJ),n.left=aj.wrap (f.left-h)∧(↑n.k:Int)=aj.wrap ((↑f.k:Int)+1)∧am x6 n.out=am x6 f.out++am x6 (nN l.m.p l.c l.x l.left)∧d n∧e n<e f∧zF l.m.s=zF b∧ag 321 4 (am jZ a.r.steps)=ag 321 4 (am jZ a.r.steps)∧ab [V.d (dI i.c.kind),V.d (dI i.c.id),V.d (dI i.c.inst),V.d (dI i.c.side),V.d (dI i.c.price),V.d (dI i.c.qty),V.d (dI i.c.least),V.d (dI i.c.time),V.d (vN i)] 80=ab [V.d (dI i.c.kind),V.d (dI i.c.id),V.d (dI i.c.inst),V.d (dI i.c.side),V.d (dI i.c.price),V.d (dI i.c.qty),V.d (dI i.c.least),V.d (dI i.c.time),V.d (vN i)] 80∧ab (vI (cO 5 ((5:Nat)+(1:Nat)+1+((2:Nat)-(1:Nat))+(1:Nat)+(1:Nat)+1) ((6:Nat)-(5:Nat)) [((2:Nat),(2:Nat)),((1:Nat),(1:Nat)),((4:Nat),(4:Nat)),((3:Nat),(3:Nat)),((0:Nat),(0:Nat))]) [sV l.m.p.code,V.own 3,zA l.m.p.tick,zA l.m.p.low,zA l.m.p.high,zA l.m.p.wide,zA l.m.p.rule,zA l.m.p.top,zA l.m.p.least,zA l.m.p.part,V.own 4,V.nm 1 0,V.mp 2]) (179:TypeId)=y3 i.m 0∧ae (yC l.m.used)=ae (fM (ap aj i.c.id) [D.v (.bool ar)] (yC i.m.used))∧aa 1 (iE l.m.p.months)=y3 i.m 3∧aa 1 (iE l.m.p.settle)=y3 i.m 4) (cnd (a.r.left==0) (∃(g:Mkt),sb g.p.code=sb i.m.p.code∧g.p.tick=i.m.p.tick∧g.p.low=i.m.p.low∧g.p.high=i.m.p.high∧g.p.wide=i.m.p.wide∧g.p.rule=i.m.p.rule∧g.p.top=i.m.p.top∧g.p.least=i.m.p.least∧g.p.part=i.m.p.part∧zF g.s=zF b∧zCb g i f) (cnd (i.c.time==1) (∃(g:SaI),g.inst=i.c.inst∧g.id=i.c.id∧zD g.sd=i.c.side∧g.price=i.c.price∧g.qty=a.r.left∧zF g.s=zF b∧((g.s.p.code.length≤1099511627776∧g.s.p.months.length≤1099511627776∧g.s.p.settle.length≤1099511627776)∧g.s.books.length≤1000000∧∀(h:Book),h∈g.s.books→(h.a.slots.length≤1000000∧(h.a.free≠0→∃(j:Slot),j∈h.a.slots∧j.used=au)∧∀(j:cH),j∈h.a.queues→j.last=(-1)∨0≤j.last∧j.last<(↑h.a.slots.length:Int))∧h.a.queues.length≤100000∧h.buys.length≤100000∧h.sells.length≤100000∧h.spare.length≤100000)∧∀(h:Unit),True→∃(j:Mkt),sb j.p.code=sb i.m.p.code∧j.p.tick=i.m.p.tick∧j.p.low=i.m.p.low∧j.p.high=i.m.p.high∧j.p.wide=i.m.p.wide∧j.p.rule=i.m.p.rule∧j.p.top=i.m.p.top∧j.p.least=i.m.p.least∧j.p.part=i.m.p.part∧zF j.s=zF (MSt.addF g).fst∧zCb j i f) (((am x6 f.out).length+1)*(64:Nat)≤(140737488355328:Nat)∧∃(g:Mkt),sb g.p.code=sb i.m.p.code∧g.p.tick=i.m.p.tick∧g.p.low=i.m.p.low∧g.p.high=i.m.p.high∧g.p.wide=i.m.p.wide∧g.p.rule=i.m.p.rule∧g.p.top=i.m.p.top∧g.p.least=i.m.p.least∧g.p.part=i.m.p.part∧zF g.s=zF b∧yC g.used=fM (ap aj i.c.id) [D.v (.bool ar)] (yC i.m.used)∧aa 1 (iE g.p.months)=y3 i.m 3∧aa 1 (iE g.p.settle)=y3 i.m 4∧am x6 i.X.R=am x6 f.out++[[dI 4,dI i.c.id,dI i.c.inst,dI i.c.side,dI i.c.price,dI a.r.left,dI 0,dI 0]]∧g.Rep i.p i.X.B i.X.U)))
def zGi (a:EnI):Prop:=ab [V.d (dI a.c.kind),V.d (dI a.c.id),V.d (dI a.c.inst),V.d (dI a.c.side),V.d (dI a.c.price),V.d (dI a.c.qty),V.d (dI a.c.least),V.d (dI a.c.time),V.d (vN a)] 80=ab [V.d (dI a.c.kind),V.d (dI a.c.id),V.d (dI a.c.inst),V.d (dI a.c.side),V.d (dI a.c.price),V.d (dI a.c.qty),V.d (dI a.c.least),V.d (dI a.c.time),V.d (vN a)] 80∧y3 a.m 0=y3 a.m 0∧y3 a.m 2=y3 a.m 2∧y3 a.m 3=y3 a.m 3∧y3 a.m 4=y3 a.m 4
def zFy (a:Bool→Prop) (b:SoI) (c:EnI):Prop:=∃(d:Bool),d=au∧a d∧zF b.s=zF b.s∧zGi c
def zGn (a:Int→Prop) (b:Int) (c:EnI):Prop:=a b∧ab [V.d (dI c.c.kind),V.d (dI c.c.id),V.d (dI c.c.inst),V.d (dI c.c.side),V.d (dI c.c.price),V.d (dI c.c.qty),V.d (dI c.c.least),V.d (dI c.c.time),V.d (vN c)] 80=ab [V.d (dI c.c.kind),V.d (dI c.c.id),V.d (dI c.c.inst),V.d (dI c.c.side),V.d (dI c.c.price),V.d (dI c.c.qty),V.d (dI c.c.least),V.d (dI c.c.time),V.d (vN c)] 80∧y3 c.m 0=y3 c.m 0∧y3 c.m 1=y3 c.m 1∧y3 c.m 2=y3 c.m 2∧y3 c.m 3=y3 c.m 3∧y3 c.m 4=y3 c.m 4
def zFi (a:Bool→Prop) (b:Bool) (c:RunI) (d:SoI) (e:EnI):Prop:=a b∧zF c.s=zF d.s∧zGi e
def zBc (a:Mkt) (b:EnI) (c:RjI):Prop:=yC a.used=yC b.m.used∧aa 1 (iE a.p.months)=y3 b.m 3∧aa 1 (iE a.p.settle)=y3 b.m 4∧am x6 b.X.R=[x6 (Rep.mk 2 c.c.id 0 0 0 0 0 c.why)]∧a.Rep b.p b.X.B b.X.U
def zFs (a:EnI) (b:RjI):Prop:=True∧∀(c:Unit),True→∃(d:Mkt),sb d.p.code=sb a.m.p.code∧d.p.tick=a.m.p.tick∧d.p.low=a.m.p.low∧d.p.high=a.m.p.high∧d.p.wide=a.m.p.wide∧d.p.rule=a.m.p.rule∧d.p.top=a.m.p.top∧d.p.least=a.m.p.least∧d.p.part=a.m.p.part∧zF d.s=y3 a.m 1∧zBc d a b
def lM (a:EnI) (b:SoI) (c:RjI):Prop:=True∧∀(d:Unit),True→∃(e:Mkt),sb e.p.code=sb a.m.p.code∧e.p.tick=a.m.p.tick∧e.p.low=a.m.p.low∧e.p.high=a.m.p.high∧e.p.wide=a.m.p.wide∧e.p.rule=a.m.p.rule∧e.p.top=a.m.p.top∧e.p.least=a.m.p.least∧e.p.part=a.m.p.part∧zF e.s=zF b.s∧zBc e a c
def eK (a:EnI) (b:EnI):Prop:=∀(c:Mkt),c.Rep a.p a.X.B a.X.U→∃(d:Mkt),sb d.p.code=sb c.p.code∧d.p.tick=c.p.tick∧d.p.low=c.p.low∧d.p.high=c.p.high∧d.p.wide=c.p.wide∧d.p.rule=c.p.rule∧d.p.top=c.p.top∧d.p.least=c.p.least∧d.p.part=c.p.part∧zF d.s=zF c.s∧yC d.used=yC c.used∧aa 1 (iE d.p.months)=aa 1 (iE c.p.months)∧aa 1 (iE d.p.settle)=aa 1 (iE c.p.settle)∧am x6 b.X.R=am x6 a.X.R∧d.Rep b.p b.X.B b.X.U
def rO (a:EnI):Prop:=(a.m.Rep a.p a.B a.U∧BOk a.p a.B)∧((0≤a.c.inst∧a.c.inst<(↑a.B.length:Int))∧(1≤a.c.qty∧a.c.qty≤1000000)∧(a.c.side=1∨a.c.side=2))∧a.p.price a.c.inst a.c.price=0∧a.X=mB a.p a.B a.U a.c
def yCr (i:EnI):Prop:=
 ∃(a:r9),sb a.p.code=sb i.m.p.code∧iE a.p.months=iE i.m.p.months∧a.p.tick=i.m.p.tick∧a.p.low=i.m.p.low∧a.p.high=i.m.p.high∧a.p.wide=i.m.p.wide∧a.p.rule=i.m.p.rule∧a.p.top=i.m.p.top∧a.p.least=i.m.p.least∧a.p.part=i.m.p.part∧iE a.p.settle=iE i.m.p.settle∧a.a=i.c.inst∧a.b=i.c.price∧(xZ a)∧∀(b:Unit),True→cnd (a.p.price a.a a.b !=0) (∃(c:RjI),c.c.kind=i.c.kind∧c.c.id=i.c.id∧c.c.inst=i.c.inst∧c.c.side=i.c.side∧c.c.price=i.c.price∧c.c.qty=i.c.qty∧c.c.least=i.c.least∧c.c.time=i.c.time∧sb c.c.label=sb i.c.label∧c.why=a.p.price a.a a.b∧zFs i c) (∃(c:Int),∃(d:Int→Prop),cnd (i.c.time==3) (∃(e:Int),e=i.c.qty∧zGn d e i) (∃(e:Int),e=i.c.least∧zGn d e i)∧∀(e:Int),d e→(∀(f:Value×List D),f∈yC i.m.used→like (ap aj i.c.id) f.fst=ar)∧∃(f:Bool),∃(g:Bool),(uM (ap aj i.c.id) (yC i.m.used)=av [D.v (.bool g)]∧f=ar∨uM (ap aj i.c.id) (yC i.m.used)=aw∧[D.v (.bool g)]=[D.v (.bool au)]∧f=au)∧cnd g (∃(h:RjI),h.c.kind=i.c.kind∧h.c.id=i.c.id∧h.c.inst=i.c.inst∧h.c.side=i.c.side∧h.c.price=i.c.price∧h.c.qty=i.c.qty∧h.c.least=i.c.least∧h.c.time=i.c.time∧sb h.c.label=sb i.c.label∧h.why=25∧zFs i h) (∃(h:SoI),zF h.s=y3 i.m 1∧(h.s.Rep h.p h.B∧h.B.length≤1000)∧∀(j:Unit),True→cnd (decide ((↑(z7y h.B):Int)≥250)) (∃(k:RjI),k.c.kind=i.c.kind∧k.c.id=i.c.id∧k.c.inst=i.c.inst∧k.c.side=i.c.side∧k.c.price=i.c.price∧k.c.qty=i.c.qty∧k.c.least=i.c.least∧k.c.time=i.c.time∧sb k.c.label=sb i.c.label∧k.why=13∧lM i h k) (∃(k:Bool),∃(l:Bool→Prop),cnd (decide (e>0)) (∃(m:RunI),m.inst=i.c.inst∧zD m.sd=i.c.side∧m.price=i.c.price∧m.q=i.c.qty∧zF m.s=zF h.s∧(qI m)∧∀(n:Unit),True→∃(p:Bool),p=decide (m.q-m.r.left<e)∧zFi l p m h i) (zFy l h i)∧∀(m:Bool),l m→cnd m (∃(n:RjI),n.c.kind=i.c.kind∧n.c.id=i.c.id∧n.c.inst=i.c.inst∧n.c.side=i.c.side∧n.c.price=i.c.price∧n.c.qty=i.c.qty∧n.c.least=i.c.least∧n.c.time=i.c.time∧sb n.c.label=sb i.c.label∧n.why=28∧lM i h n) (∃(n:Bool),∃(p:Bool→Prop),cnd (i.c.time==1) (∃(q:RunI),q.inst=i.c.inst∧zD q.sd=i.c.side∧q.price=i.c.price∧q.q=i.c.qty∧zF q.s=zF h.s∧(qI q)∧∀(r:Unit),True→∃(s:Bool),s=bQ q.p q.B q.inst q.sd q.price q.q∧zFi p s q h i) (zFy p h i)∧∀(q:Bool),p q→cnd q (∃(r:RjI),r.c.kind=i.c.kind∧r.c.id=i.c.id∧r.c.inst=i.c.inst∧r.c.side=i.c.side∧r.c.price=i.c.price∧r.c.qty=i.c.qty∧r.c.least=i.c.least∧r.c.time=i.c.time∧sb r.c.label=sb i.c.label∧r.why=23∧lM i h r) (∃(r:EnI),r.c.kind=i.c.kind∧r.c.id=i.c.id∧r.c.inst=i.c.inst∧r.c.side=i.c.side∧r.c.price=i.c.price∧r.c.qty=i.c.qty∧r.c.least=i.c.least∧r.c.time=i.c.time∧sb r.c.label=sb i.c.label∧sb r.m.p.code=sb i.m.p.code∧r.m.p.tick=i.m.p.tick∧r.m.p.low=i.m.p.low∧r.m.p.high=i.m.p.high∧r.m.p.wide=i.m.p.wide∧r.m.p.rule=i.m.p.rule∧r.m.p.top=i.m.p.top∧r.m.p.least=i.m.p.least∧r.m.p.part=i.m.p.part∧zF r.m.s=zF h.s∧yC r.m.used=yC i.m.used∧aa 1 (iE r.m.p.months)=y3 i.m 3∧aa 1 (iE r.m.p.settle)=y3 i.m 4∧(rO r)∧eK r i)))))
def yLy (i:CaI):Prop:=
 ∃(i_1:StI),i_1.id=i.id∧i_1.q=i.o.qty∧zF i_1.s=y3 i.m 1∧(i_1.s.Rep i_1.p i_1.B∧i_1.B.length≤1000)∧∀(o:MSt),o.Rep i_1.p (kH i_1.B i_1.id i_1.q).fst→∃(o_1:Mkt),sb o_1.p.code=sb i.m.p.code∧o_1.p.tick=i.m.p.tick∧o_1.p.low=i.m.p.low∧o_1.p.high=i.m.p.high∧o_1.p.wide=i.m.p.wide∧o_1.p.rule=i.m.p.rule∧o_1.p.top=i.m.p.top∧o_1.p.least=i.m.p.least∧o_1.p.part=i.m.p.part∧zF o_1.s=zF o∧yC o_1.used=yC i.m.used∧aa 1 (iE o_1.p.months)=y3 i.m 3∧aa 1 (iE o_1.p.settle)=y3 i.m 4∧am x6 i.X.R=[[D.v (.int .i64 4),D.v (.int .i64 i.id),D.v (.int .i64 i.inst),D.v (.int .i64 i.o.side),D.v (.int .i64 i.o.price),D.v (.int .i64 i.o.qty),D.v (.int .i64 0),D.v (.int .i64 0)]]∧o_1.Rep i.p i.X.B i.X.U
def z6i (i:CaI):Prop:=
 ∃(a:StI),a.id=i.id∧a.q=i.q∧zF a.s=y3 i.m 1∧(a.s.Rep a.p a.B∧a.B.length≤1000)∧∀(b:MSt),b.Rep a.p (kH a.B a.id a.q).fst→∃(c:Mkt),sb c.p.code=sb i.m.p.code∧c.p.tick=i.m.p.tick∧c.p.low=i.m.p.low∧c.p.high=i.m.p.high∧c.p.wide=i.m.p.wide∧c.p.rule=i.m.p.rule∧c.p.top=i.m.p.top∧c.p.least=i.m.p.least∧c.p.part=i.m.p.part∧zF c.s=zF b∧yC c.used=yC i.m.used∧aa 1 (iE c.p.months)=y3 i.m 3∧aa 1 (iE c.p.settle)=y3 i.m 4∧am x6 i.X.R=[[dI 5,dI i.id,dI i.inst,dI i.o.side,dI i.o.price,dI i.q,dI (aj.wrap (i.o.qty-i.q)),dI 0]]∧c.Rep i.p i.X.B i.X.U
def p9 (a:Mkt) (b:z7l) (c:RjI):Prop:=yC a.used=yC b.m.used∧aa 1 (iE a.p.months)=y3 b.m 3∧aa 1 (iE a.p.settle)=y3 b.m 4∧am x6 b.X.R=[x6 (Rep.mk 2 c.c.id 0 0 0 0 0 c.why)]∧a.Rep b.p b.X.B b.X.U
def tL (a:z7l):Prop:=∃(b:MSt),zF b=y3 a.m 1∧(g9 b)∧∀(c:Unit),True→∃(d:StI),d.id=a.c.id∧d.q=a.o.qty∧zF d.s=zF b∧(d.s.Rep d.p d.B∧d.B.length≤1000)∧∀(e:MSt),e.Rep d.p (kH d.B d.id d.q).fst→∃(f:RunI),f.inst=a.inst∧zD f.sd=a.o.side∧f.price=a.c.price∧f.q=a.c.qty∧zF f.s=zF e∧(qI f)∧∀(g:Unit),True→cnd (bQ f.p f.B f.inst f.sd f.price f.q) (∃(h:RjI),h.c.kind=a.c.kind∧h.c.id=a.c.id∧h.c.inst=a.c.inst∧h.c.side=a.c.side∧h.c.price=a.c.price∧h.c.qty=a.c.qty∧h.c.least=a.c.least∧h.c.time=a.c.time∧sb h.c.label=sb a.c.label∧h.why=23∧True∧∀(j:Unit),True→∃(k:Mkt),sb k.p.code=sb a.m.p.code∧k.p.tick=a.m.p.tick∧k.p.low=a.m.p.low∧k.p.high=a.m.p.high∧k.p.wide=a.m.p.wide∧k.p.rule=a.m.p.rule∧k.p.top=a.m.p.top∧k.p.least=a.m.p.least∧k.p.part=a.m.p.part∧zF k.s=zF b∧p9 k a h) (∃(h:CaI),h.id=a.c.id∧h.inst=a.inst∧h.o.id=a.o.id∧h.o.side=a.o.side∧h.o.price=a.o.price∧h.o.qty=a.o.qty∧h.o.top=a.o.top∧sb h.m.p.code=sb a.m.p.code∧h.m.p.tick=a.m.p.tick∧h.m.p.low=a.m.p.low∧h.m.p.high=a.m.p.high∧h.m.p.wide=a.m.p.wide∧h.m.p.rule=a.m.p.rule∧h.m.p.top=a.m.p.top∧h.m.p.least=a.m.p.least∧h.m.p.part=a.m.p.part∧zF h.m.s=zF b∧yC h.m.used=yC a.m.used∧aa 1 (iE h.m.p.months)=y3 a.m 3∧aa 1 (iE h.m.p.settle)=y3 a.m 4∧((h.m.Rep h.p h.B h.U∧BOk h.p h.B)∧h.X=aS h.B h.U h.id h.inst h.o)∧∀(j:Mkt),j.Rep h.p h.X.B h.X.U→∃(k:EnI),k.c.kind=1∧k.c.id=a.c.id∧k.c.inst=a.inst∧k.c.side=a.o.side∧k.c.price=a.c.price∧k.c.qty=a.c.qty∧k.c.least=0∧k.c.time=1∧sb k.c.label=ByteArray.mk #[]∧sb k.m.p.code=sb j.p.code∧k.m.p.tick=j.p.tick∧k.m.p.low=j.p.low∧k.m.p.high=j.p.high∧k.m.p.wide=j.p.wide∧k.m.p.rule=j.p.rule∧k.m.p.top=j.p.top∧k.m.p.least=j.p.least∧k.m.p.part=j.p.part∧zF k.m.s=zF j.s∧yC k.m.used=yC j.used∧aa 1 (iE k.m.p.months)=aa 1 (iE j.p.months)∧aa 1 (iE k.m.p.settle)=aa 1 (iE j.p.settle)∧(rO k)∧∀(l:Mkt),l.Rep k.p k.X.B k.X.U→((am x6 h.X.R).length+(am x6 k.X.R).length)*(64:Nat)≤(140737488355328:Nat)∧∃(m:Mkt),sb m.p.code=sb l.p.code∧m.p.tick=l.p.tick∧m.p.low=l.p.low∧m.p.high=l.p.high∧m.p.wide=l.p.wide∧m.p.rule=l.p.rule∧m.p.top=l.p.top∧m.p.least=l.p.least∧m.p.part=l.p.part∧zF m.s=zF l.s∧yC m.used=yC l.used∧aa 1 (iE m.p.months)=aa 1 (iE l.p.months)∧aa 1 (iE m.p.settle)=aa 1 (iE l.p.settle)∧am x6 a.X.R=am x6 h.X.R++am x6 k.X.R∧m.Rep a.p a.X.B a.X.U)
def cX (a:CaI):Prop:=(a.m.Rep a.p a.B a.U∧BOk a.p a.B)∧((-9223372036854775808)≤a.o.qty-a.q∧a.o.qty-a.q≤9223372036854775807)∧a.X=zDp a.B a.U a.id a.q a.inst a.o
def zVc (i:z7l):Prop:=
 ∃(a:r9),sb a.p.code=sb i.m.p.code∧iE a.p.months=iE i.m.p.months∧a.p.tick=i.m.p.tick∧a.p.low=i.m.p.low∧a.p.high=i.m.p.high∧a.p.wide=i.m.p.wide∧a.p.rule=i.m.p.rule∧a.p.top=i.m.p.top∧a.p.least=i.m.p.least∧a.p.part=i.m.p.part∧iE a.p.settle=iE i.m.p.settle∧a.a=i.inst∧a.b=i.c.price∧(xZ a)∧∀(b:Unit),True→cnd (a.p.price a.a a.b !=0) (∃(c:RjI),c.c.kind=i.c.kind∧c.c.id=i.c.id∧c.c.inst=i.c.inst∧c.c.side=i.c.side∧c.c.price=i.c.price∧c.c.qty=i.c.qty∧c.c.least=i.c.least∧c.c.time=i.c.time∧sb c.c.label=sb i.c.label∧c.why=a.p.price a.a a.b∧True∧∀(d:Unit),True→∃(e:Mkt),sb e.p.code=sb i.m.p.code∧e.p.tick=i.m.p.tick∧e.p.low=i.m.p.low∧e.p.high=i.m.p.high∧e.p.wide=i.m.p.wide∧e.p.rule=i.m.p.rule∧e.p.top=i.m.p.top∧e.p.least=i.m.p.least∧e.p.part=i.m.p.part∧zF e.s=y3 i.m 1∧p9 e i c) (cnd (i.c.price==i.o.price) (cnd (decide (i.c.qty≤i.o.qty)) (∃(c:CaI),c.id=i.c.id∧c.q=aj.wrap (i.o.qty-i.c.qty)∧c.inst=i.inst∧c.o.id=i.o.id∧c.o.side=i.o.side∧c.o.price=i.o.price∧c.o.qty=i.o.qty∧c.o.top=i.o.top∧sb c.m.p.code=sb i.m.p.code∧c.m.p.tick=i.m.p.tick∧c.m.p.low=i.m.p.low∧c.m.p.high=i.m.p.high∧c.m.p.wide=i.m.p.wide∧c.m.p.rule=i.m.p.rule∧c.m.p.top=i.m.p.top∧c.m.p.least=i.m.p.least∧c.m.p.part=i.m.p.part∧zF c.m.s=y3 i.m 1∧yC c.m.used=yC i.m.used∧aa 1 (iE c.m.p.months)=y3 i.m 3∧aa 1 (iE c.m.p.settle)=y3 i.m 4∧(cX c)∧∀(d:Mkt),d.Rep c.p c.X.B c.X.U→∃(e:Mkt),sb e.p.code=sb d.p.code∧e.p.tick=d.p.tick∧e.p.low=d.p.low∧e.p.high=d.p.high∧e.p.wide=d.p.wide∧e.p.rule=d.p.rule∧e.p.top=d.p.top∧e.p.least=d.p.least∧e.p.part=d.p.part∧zF e.s=zF d.s∧yC e.used=yC d.used∧aa 1 (iE e.p.months)=aa 1 (iE d.p.months)∧aa 1 (iE e.p.settle)=aa 1 (iE d.p.settle)∧am x6 i.X.R=am x6 c.X.R∧e.Rep i.p i.X.B i.X.U) (tL i)) (tL i))
def zRw (a:CaI) (b:EnI):Prop:=∀(c:Mkt),c.Rep a.p a.X.B a.X.U→∃(d:Mkt),sb d.p.code=sb c.p.code∧d.p.tick=c.p.tick∧d.p.low=c.p.low∧d.p.high=c.p.high∧d.p.wide=c.p.wide∧d.p.rule=c.p.rule∧d.p.top=c.p.top∧d.p.least=c.p.least∧d.p.part=c.p.part∧zF d.s=zF c.s∧yC d.used=yC c.used∧aa 1 (iE d.p.months)=aa 1 (iE c.p.months)∧aa 1 (iE d.p.settle)=aa 1 (iE c.p.settle)∧am x6 b.X.R=am x6 a.X.R∧d.Rep b.p b.X.B b.X.U
def zSm (a:Mkt) (b:EnI) (c:RjI):Prop:=yC a.used=yC b.m.used∧aa 1 (iE a.p.months)=aa 1 (iE b.m.p.months)∧aa 1 (iE a.p.settle)=aa 1 (iE b.m.p.settle)∧am x6 b.X.R=[x6 (Rep.mk 2 c.c.id 0 0 0 0 0 c.why)]∧a.Rep b.p b.X.B b.X.U
def z0s (a:EnI) (b:StI):Prop:=∃(c:CaI),c.id=a.c.id∧c.inst=(yG b.B b.id).fst∧c.o.id=(yG b.B b.id).snd.fst.id∧c.o.side=(yG b.B b.id).snd.fst.side∧c.o.price=(yG b.B b.id).snd.fst.price∧c.o.qty=(yG b.B b.id).snd.fst.qty∧c.o.top=(yG b.B b.id).snd.fst.top∧sb c.m.p.code=sb a.m.p.code∧c.m.p.tick=a.m.p.tick∧c.m.p.low=a.m.p.low∧c.m.p.high=a.m.p.high∧c.m.p.wide=a.m.p.wide∧c.m.p.rule=a.m.p.rule∧c.m.p.top=a.m.p.top∧c.m.p.least=a.m.p.least∧c.m.p.part=a.m.p.part∧zF c.m.s=zF b.s∧yC c.m.used=yC a.m.used∧aa 1 (iE c.m.p.months)=aa 1 (iE a.m.p.months)∧aa 1 (iE c.m.p.settle)=aa 1 (iE a.m.p.settle)∧((c.m.Rep c.p c.B c.U∧BOk c.p c.B)∧c.X=aS c.B c.U c.id c.inst c.o)∧zRw c a
def yAm (a:EnI):Prop:=∃(b:StI),b.id=a.c.id∧zF b.s=zF a.m.s∧(b.s.Rep b.p b.B∧b.B.length≤1000)∧∀(c:Unit),True→cnd (!(yG b.B b.id).snd.snd) (∃(d:RjI),d.c.kind=a.c.kind∧d.c.id=a.c.id∧d.c.inst=a.c.inst∧d.c.side=a.c.side∧d.c.price=a.c.price∧d.c.qty=a.c.qty∧d.c.least=a.c.least∧d.c.time=a.c.time∧sb d.c.label=sb a.c.label∧d.why=26∧True∧∀(e:Unit),True→∃(f:Mkt),sb f.p.code=sb a.m.p.code∧f.p.tick=a.m.p.tick∧f.p.low=a.m.p.low∧f.p.high=a.m.p.high∧f.p.wide=a.m.p.wide∧f.p.rule=a.m.p.rule∧f.p.top=a.m.p.top∧f.p.least=a.m.p.least∧f.p.part=a.m.p.part∧zF f.s=zF b.s∧zSm f a d) (cnd (a.c.kind==4) (∃(d:z7l),d.c.kind=a.c.kind∧d.c.id=a.c.id∧d.c.inst=a.c.inst∧d.c.side=a.c.side∧d.c.price=a.c.price∧d.c.qty=a.c.qty∧d.c.least=a.c.least∧d.c.time=a.c.time∧sb d.c.label=sb a.c.label∧d.inst=(yG b.B b.id).fst∧d.o.id=(yG b.B b.id).snd.fst.id∧d.o.side=(yG b.B b.id).snd.fst.side∧d.o.price=(yG b.B b.id).snd.fst.price∧d.o.qty=(yG b.B b.id).snd.fst.qty∧d.o.top=(yG b.B b.id).snd.fst.top∧sb d.m.p.code=sb a.m.p.code∧d.m.p.tick=a.m.p.tick∧d.m.p.low=a.m.p.low∧d.m.p.high=a.m.p.high∧d.m.p.wide=a.m.p.wide∧d.m.p.rule=a.m.p.rule∧d.m.p.top=a.m.p.top∧d.m.p.least=a.m.p.least∧d.m.p.part=a.m.p.part∧zF d.m.s=zF b.s∧yC d.m.used=yC a.m.used∧aa 1 (iE d.m.p.months)=aa 1 (iE a.m.p.months)∧aa 1 (iE d.m.p.settle)=aa 1 (iE a.m.p.settle)∧(d.m.Rep d.p d.B d.U∧BOk d.p d.B∧yG d.B d.c.id=(d.inst,d.o,ar)∧(1≤d.c.qty∧d.c.qty≤1000000)∧d.X=aI d.p d.B d.U d.c d.inst d.o)∧∀(e:Mkt),e.Rep d.p d.X.B d.X.U→∃(f:Mkt),sb f.p.code=sb e.p.code∧f.p.tick=e.p.tick∧f.p.low=e.p.low∧f.p.high=e.p.high∧f.p.wide=e.p.wide∧f.p.rule=e.p.rule∧f.p.top=e.p.top∧f.p.least=e.p.least∧f.p.part=e.p.part∧zF f.s=zF e.s∧yC f.used=yC e.used∧aa 1 (iE f.p.months)=aa 1 (iE e.p.months)∧aa 1 (iE f.p.settle)=aa 1 (iE e.p.settle)∧am x6 a.X.R=am x6 d.X.R∧f.Rep a.p a.X.B a.X.U) (cnd (a.c.kind==2) (z0s a b) (cnd (decide (a.c.qty≥(yG b.B b.id).snd.fst.qty)) (z0s a b) (∃(d:CaI),d.id=a.c.id∧d.q=a.c.qty∧d.inst=(yG b.B b.id).fst∧d.o.id=(yG b.B b.id).snd.fst.id∧d.o.side=(yG b.B b.id).snd.fst.side∧d.o.price=(yG b.B b.id).snd.fst.price∧d.o.qty=(yG b.B b.id).snd.fst.qty∧d.o.top=(yG b.B b.id).snd.fst.top∧sb d.m.p.code=sb a.m.p.code∧d.m.p.tick=a.m.p.tick∧d.m.p.low=a.m.p.low∧d.m.p.high=a.m.p.high∧d.m.p.wide=a.m.p.wide∧d.m.p.rule=a.m.p.rule∧d.m.p.top=a.m.p.top∧d.m.p.least=a.m.p.least∧d.m.p.part=a.m.p.part∧zF d.m.s=zF b.s∧yC d.m.used=yC a.m.used∧aa 1 (iE d.m.p.months)=aa 1 (iE a.m.p.months)∧aa 1 (iE d.m.p.settle)=aa 1 (iE a.m.p.settle)∧(cX d)∧zRw d a))))
def Vdo (i:EnI):Prop:=
 ∃(a:Cmd),a.kind=i.c.kind∧a.id=i.c.id∧a.inst=i.c.inst∧a.side=i.c.side∧a.price=i.c.price∧a.qty=i.c.qty∧a.least=i.c.least∧a.time=i.c.time∧sb a.label=sb i.c.label∧a.label.length≤140737488355328∧∀(b:Unit),True→cnd (a.right !=0) (∃(c:RjI),c.c.kind=i.c.kind∧c.c.id=i.c.id∧c.c.inst=i.c.inst∧c.c.side=i.c.side∧c.c.price=i.c.price∧c.c.qty=i.c.qty∧c.c.least=i.c.least∧c.c.time=i.c.time∧sb c.c.label=sb i.c.label∧c.why=a.right∧True∧∀(d:Unit),True→∃(e:Mkt),sb e.p.code=sb i.m.p.code∧e.p.tick=i.m.p.tick∧e.p.low=i.m.p.low∧e.p.high=i.m.p.high∧e.p.wide=i.m.p.wide∧e.p.rule=i.m.p.rule∧e.p.top=i.m.p.top∧e.p.least=i.m.p.least∧e.p.part=i.m.p.part∧zF e.s=zF i.m.s∧zSm e i c) (cnd (i.c.kind==1) (∃(c:EnI),c.c.kind=i.c.kind∧c.c.id=i.c.id∧c.c.inst=i.c.inst∧c.c.side=i.c.side∧c.c.price=i.c.price∧c.c.qty=i.c.qty∧c.c.least=i.c.least∧c.c.time=i.c.time∧sb c.c.label=sb i.c.label∧sb c.m.p.code=sb i.m.p.code∧c.m.p.tick=i.m.p.tick∧c.m.p.low=i.m.p.low∧c.m.p.high=i.m.p.high∧c.m.p.wide=i.m.p.wide∧c.m.p.rule=i.m.p.rule∧c.m.p.top=i.m.p.top∧c.m.p.least=i.m.p.least∧c.m.p.part=i.m.p.part∧zF c.m.s=zF i.m.s∧yC c.m.used=yC i.m.used∧aa 1 (iE c.m.p.months)=aa 1 (iE i.m.p.months)∧aa 1 (iE c.m.p.settle)=aa 1 (iE i.m.p.settle)∧((c.m.Rep c.p c.B c.U∧BOk c.p c.B)∧c.c.right=0∧c.c.kind=1∧c.X=tF c.p c.B c.U c.c)∧eK c i) ((yAm i)∧i.c.id=i.c.id∧True∧yAm i))
open Go Cv Go.Proofs
theorem zGz (p:Prd) (B:List (List zK)) (U:List Int) (c:Cmd):mB p B U c=⟨if(wD p B c.inst (decide (c.side=2)) c.price c.qty).left≠0∧c.time=1 then(z0d p (wD p B c.inst (decide (c.side=2)) c.price c.qty).B c.inst c.id c.side c.price (wD p B c.inst (decide (c.side=2)) c.price c.qty).left).1 else(wD p B c.inst (decide (c.side=2)) c.price c.qty).B,zOj U c.id,
 (⟨1,c.id,c.inst,c.side,c.price,c.qty,c.qty,0⟩::nU p c (wD p B c.inst (decide (c.side=2)) c.price c.qty).steps c.qty)++if(wD p B c.inst (decide (c.side=2)) c.price c.qty).left≠0∧c.time≠1 then[⟨4,c.id,c.inst,c.side,c.price,(wD p B c.inst (decide (c.side=2)) c.price c.qty).left,0,0⟩]else[]⟩:=by
 rw[mB]
theorem zQu {p:Prd} {B:List (List zK)} (h:BWf p B) (U:List Int) (c:Cmd):BOk p (mB p B U c).B:=by
 have:=(mI (inst:=c.inst) (sd:=decide (c.side=2)) (price:=c.price) _ c.qty B (y1f _) h).1.ok
 rw[zGz]
 dsimp only
 split
 ·exact this.add _ _ _ _ _
 ·exact this
theorem z6m {p:Prd} {B:List (List zK)} (h:BWf p B) (U:List Int) (c:Cmd):BOk p (tF p B U c).B:=by
 rw[tF]
 split
 ·exact h.ok
 split
 ·exact h.ok
 split
 ·exact h.ok
 split
 ·exact h.ok
 split
 ·exact h.ok
 exact zQu h U c
theorem yBj {p:Prd} {B:List (List zK)} (h:BWf p B) (U:List Int) (c:Cmd):BOk p (doF p B U c).B:=by
 rw[doF]
 split
 ·exact h.ok
 split
 ·exact z6m h U c
 split
 ·exact h.ok
 split
 ·rw[aI]
  split
  ·exact h.ok
  split
  ·exact h.ok.take _ _
  split
  ·exact h.ok
  exact zQu (h.take _ _) U _
 split
 ·exact h.ok.take _ _
 ·exact h.ok.take _ _
open Go Cv Go.Proofs
def Two (L:List zK):Prop:=L=tV L 1++tV L 2
open Go Cv Go.Proofs
open Go Cv Go.Proofs
open Go Cv Go.Proofs
theorem sD {inst s:Int} {f:cF}:∀{os:List zK} {sh:List Int},f∈xR inst s os sh→f.side=s∧f.inst=inst∧∃o∈os,f.price=o.price
 |[],sh,h=>by cases h
 |o::os,[],h=>by cases h
 |o::os,k::sh,h=>by
  rw[xR]at h
  split at h
  ·rcases y0m.1 h with rfl|h
   ·exact⟨rfl,rfl,o,y0d,rfl⟩
   ·obtain⟨a,b,o',c,d⟩:=sD h
    exact⟨a,b,o',y0c _ c,d⟩
  ·obtain⟨a,b,o',c,d⟩:=sD h
   exact⟨a,b,o',y0c _ c,d⟩
def FOk (f:cF):Prop:=(f.side=1∨f.side=2)∧-2000000≤f.price∧f.price≤2000000
theorem zGh {p:Prd} {B:List (List zK)} (h:BOk p B) (inst:Int) {s:Int} (hs:s=1∨s=2) (q:Int):∀f∈qN p B inst s q,FOk f:=by
 intro f hf
 obtain⟨a,_,o,ho,e⟩:=sD hf
 refine⟨by rw[a];exact hs,?_⟩
 rw[e]
 have ho:=(y2c.1 ho).1
 by_cases hk:inst.toNat<B.length
 ·obtain⟨L,hL⟩:=z8 hk
  rw[zT hL]at ho
  exact h.prices hL o ho
 ·rw[y0h,y1e (by omega)]at ho;cases ho
def SOk (t:wF):Prop:=(-2000000≤t.price∧t.price≤2000000)∧(∀f∈t.fills,FOk f)∧t.fills.length≤500
theorem yIz {p:Prd} {B:List (List zK)} (h:BWf p B) {inst:Int} (hi:0≤inst∧inst<B.length) {s:Int} (hs:s=1∨s=2) (hn:(yR p B inst s).2.2=ar): -2000000≤(yR p B inst s).1.price∧(yR p B inst s).1.price≤2000000:=by
 rw[yR]at hn ⊢
 obtain⟨L,hL⟩:=z8 (l:=B) (i:=inst.toNat) (by omega)
 rw[zT hL]at hn ⊢
 split
 ·exact zTn (h.ok.prices hL)
 ·rename_i c
  rw[yZx c]at hn
  have hm:=zGy hn
  have:=(y2c.1 hm).2
  exact sN h.ok.pc (y2j this)
theorem yKa {p:Prd} {B:List (List zK)} (h:BWf p B) {inst:Int} (hi:0≤inst∧inst<B.length) {sd:Bool} {price q:Int} {t:wF} {B':List (List zK)} (e:aB p B inst sd price q=av (t,B')):SOk t:=by
 have hs:zD (!sd)=1∨zD (!sd)=2:=zDl _
 have hb:=yIz h hi hs
 have hin:=z3t h.ok h.od hi hs
 rw[aB]at e
 dsimp only at e
 split at e
 ·rename_i c
  have c1:(yR p B inst (zD (!sd))).2.2=ar:=by
   cases hx:(yR p B inst (zD (!sd))).2.2 with
   |false=>rw[hx]at c;cases c
   |true=>rfl
  have hb:=hb c1
  obtain⟨_,hin,_⟩:=hin c1
  split at e
  ·rename_i c2
   obtain⟨_,ok⟩:=hin c2
   cases e
   refine⟨hb,fun f hf=> ?_,?_⟩
   ·rcases y0u.1 hf with hf|hf
    ·exact zGh h.ok _ ok.sa _ f hf
    ·exact zGh h.ok.takes _ ok.sb _ f hf
   ·dsimp only
    rw[y0e]
    have:=nG (p:=p) h.od (yR p B inst (zD (!sd))).1.a.inst (yR p B inst (zD (!sd))).1.a.side (min q (yR p B inst (zD (!sd))).1.qty)
    have:=nG (p:=p) (h.takes (fs:=qN p B (yR p B inst (zD (!sd))).1.a.inst (yR p B inst (zD (!sd))).1.a.side (min q (yR p B inst (zD (!sd))).1.qty))).od (yR p B inst (zD (!sd))).1.b.inst (yR p B inst (zD (!sd))).1.b.side (min q (yR p B inst (zD (!sd))).1.qty)
    omega
  ·cases e
   refine⟨hb,fun f hf=>zGh h.ok _ hs _ f hf,?_⟩
   have:=nG (p:=p) h.od inst (zD (!sd)) (min q (yR p B inst (zD (!sd))).1.qty)
   dsimp only
   omega
 ·cases e
open Go Cv Go.Proofs
open Go Cv Go.Proofs
def zAa (a:StI):Prop:=yW a.s.wh=yW a.s.wh∧aa 1 (iE a.s.p.months)=aa 1 (iE a.s.p.months)∧aa 1 (iE a.s.p.settle)=aa 1 (iE a.s.p.settle)∧True
def yCe (i:StI):Prop:=
 (bV i)∧∃(a:Bool),∃(b:Int),(pH i b a)∧cnd (!a) (∃(c:Unit),(yG i.B i.id).fst=0∧(yG i.B i.id).snd.fst.id=0∧(yG i.B i.id).snd.fst.side=0∧(yG i.B i.id).snd.fst.price=0∧(yG i.B i.id).snd.fst.qty=0∧(yG i.B i.id).snd.fst.top=au∧(yG i.B i.id).snd.snd=au∧sb i.s.p.code=sb i.s.p.code∧i.s.p.tick=i.s.p.tick∧i.s.p.low=i.s.p.low∧i.s.p.high=i.s.p.high∧i.s.p.wide=i.s.p.wide∧i.s.p.rule=i.s.p.rule∧i.s.p.top=i.s.p.top∧i.s.p.least=i.s.p.least∧i.s.p.part=i.s.p.part∧af 241 Book 6 zS i.s.books aw=af 241 Book 6 zS i.s.books aw∧zAa i) ((0≤b∧b<(↑i.s.books.length:Int))∧b.toNat<i.s.books.length∧∃(c:Book),i.s.books[b.toNat]?=av c∧∃(d:FlI),d.id=i.id∧z6 d.b=z6 c∧d.b.Rep d.L∧∀(e:Unit),True→∃(f:Book),z6 d.b=z6 f∧b.toNat=b.toNat∧b.toNat<i.s.books.length∧∃(g:Unit),(yG i.B i.id).fst=b∧(yG i.B i.id).snd.fst.id=(dC d.L d.id).id∧(yG i.B i.id).snd.fst.side=(dC d.L d.id).side∧(yG i.B i.id).snd.fst.price=(dC d.L d.id).price∧(yG i.B i.id).snd.fst.qty=(dC d.L d.id).qty∧(yG i.B i.id).snd.fst.top=(dC d.L d.id).top∧(yG i.B i.id).snd.snd=ar∧sb i.s.p.code=sb i.s.p.code∧i.s.p.tick=i.s.p.tick∧i.s.p.low=i.s.p.low∧i.s.p.high=i.s.p.high∧i.s.p.wide=i.s.p.wide∧i.s.p.rule=i.s.p.rule∧i.s.p.top=i.s.p.top∧i.s.p.least=i.s.p.least∧i.s.p.part=i.s.p.part∧af 241 Book 6 zS i.s.books aw=af 241 Book 6 zS (i.s.books.set b.toNat f) aw∧zAa i)
open Go Cv Go.Proofs
theorem yPe (i:StI) (h:sfindC.cnd i):yCe i:=by
 obtain⟨hR,hB⟩:i.s.Rep i.p i.B∧i.B.length≤1000:=h
 have hat:=hR.at_ i.id
 unfold yCe bV pH zAa dI
 rw[yG]
 cases hi:aF i.B i.id with
 |none=>
  rw[hi]at hat
  exact⟨dF _ _,au,0,.inr ⟨by rw[mJ,hat];rfl,rfl,rfl⟩,Cv.cnd.mk (fun _=>⟨(),k0q⟩) (fun e=>absurd e (by decide))⟩
 |some k=>
  rw[hi]at hat
  obtain⟨L,hL,hh⟩:=gJ hi
  have hk:=(yZz.1 hL).1
  obtain⟨b,hb⟩:=z8 (l:=i.s.books) (i:=k) (by rw[hR.bl];exact hk)
  have hbR:=hR.bk k b L hb hL
  have hbl:=hR.bl
  refine⟨dF _ _,ar,k,.inl ⟨by rw[mJ,hat];rfl,rfl⟩,Cv.cnd.mk (fun e=>absurd e (by decide)) (fun _=> ?_)⟩
  dsimp only
  rw[y0s,zT hL]
  have hs:=uA hb
  refine⟨⟨by omega,by omega⟩,by omega,b,hb,⟨b,L,i.id,0⟩,rfl,rfl,hbR,fun _ _=>⟨b,rfl,rfl,by omega,(),?_⟩⟩
  rw[hs]
  (repeat'(first|exact trivial|exact rfl|apply And.intro))
theorem yAw:sfindC.ok Tryz.prog 114:=okw mixed (gokc zVo gok0) 0 (fun _=>[]) (fun _=>[]) [0] Tryz.func114 yPe
open Go Cv Go.Proofs
theorem zQp (id:Int) (U:List Int):∀p∈yC U,like (ap aj id) p.1=ar:=by
 intro p hp
 obtain⟨k,_,rfl⟩:=y1a.1 hp
 rfl
theorem zPh (id:Int):∀U:List Int,fM (ap aj id) [D.v (.bool ar)] (yC U)=yC (zOj U id)
 |[]=>rfl
 |k::U=>by
  have ih:=zPh id U
  have e:sC (ap aj id) (ap aj k)=decide (id=k):=by simp[sC,keq]
  show(bif sC (ap aj id) (ap aj k)then(ap aj k,[D.v (.bool ar)])::yC U else(ap aj k,[D.v (.bool ar)])::fM (ap aj id) [D.v (.bool ar)] (yC U))=_
  rw[e,ih]
  by_cases c:id=k
  ·rw[y0n c,cond_true,zOj,yZy (by rw[c];exact y0d)];rfl
  ·rw[y0k c,cond_false,zOj,zOj]
   have hm:id∈k::U↔id∈U:=by simp[c]
   by_cases d:id∈U
   ·rw[yZy d,yZy (hm.2 d)];rfl
   ·rw[yZx d,yZx (fun x=>d (hm.1 x))];rfl
theorem zQv (id:Int):∀U:List Int,uM (ap aj id) (yC U)=if id∈U then av [D.v (.bool ar)]else aw
 |[]=>rfl
 |k::U=>by
  have ih:=zQv id U
  have e:sC (ap aj id) (ap aj k)=decide (id=k):=by simp[sC,keq]
  show(bif sC (ap aj id) (ap aj k)then av [D.v (.bool ar)]else uM (ap aj id) (yC U))=_
  rw[e,ih]
  by_cases c:id=k
  ·rw[y0n c,cond_true,yZy (by rw[c];exact y0d)]
  ·rw[y0k c,cond_false]
   have hm:id∈k::U↔id∈U:=by simp[c]
   by_cases d:id∈U
   ·rw[yZy d,yZy (hm.2 d)]
   ·rw[yZx d,yZx (fun x=>d (hm.1 x))]
theorem yGh (id:Int) (U:List Int):uM (ap aj id) (yC U)=av [D.v (.bool (decide (id∈U)))]∧decide (id∈U)=ar∨uM (ap aj id) (yC U)=aw∧[D.v (.bool (decide (id∈U)))]=[D.v (.bool au)]∧decide (id∈U)=au:=by
 rw[zQv]
 by_cases c:id∈U
 ·rw[yZy c,y0n c];exact .inl ⟨rfl,rfl⟩
 ·rw[yZx c,y0k c];exact .inr ⟨rfl,rfl,rfl⟩
theorem zRx {p:Prd} {inst:Int} {sd:Bool} {price:Int}:∀(m:Nat) (q:Int) (B:List (List zK)),q.toNat≤m→BWf p B→0≤inst∧inst<B.length→
 (∀t∈(wD p B inst sd price q).steps,SOk t∧1≤t.qty)∧((wD p B inst sd price q).steps.map (·.qty)).sum=q-(wD p B inst sd price q).left
 |m,q,B,hm,h,hi=>by
  by_cases hq:q≤0
  ·rw[tP (.inl hq)];exact⟨fun t ht=>(by cases ht),by simp⟩
  cases hs:aB p B inst sd price q with
  |none=>rw[tP (.inr hs)];exact⟨fun t ht=>(by cases ht),by simp⟩
  |some x=>
   obtain⟨t,C⟩:=x
   obtain⟨k1,k2⟩:=zOy h hs
   have hq2:=zKb (by omega) hs
   cases m with
   |zero=>omega
   |succ m=>
   obtain⟨i1,i2⟩:=zRx (p:=p) (inst:=inst) (sd:=sd) (price:=price) m (q-t.qty) C (by omega) k1 (by rw[k2];exact hi)
   rw[zNy (by omega) hs]
   refine⟨fun u hu=> ?_,?_⟩
   ·rcases y0m.1 hu with rfl|hu
    ·exact⟨yKa h hi hs,hq2.1⟩
    ·exact i1 u hu
   ·dsimp only
    rw[y0l,y1l,i2];omega
theorem yOe {α:Type} {f:α→List Rep} (hf:∀x,(f x).length≤3):∀l:List α,(l.flatMap f).length≤3*l.length
 |[]=>y1f _
 |x::l=>by
  have:=yOe hf l
  have:=hf x
  rw[y1s,y0e,y0f];omega
theorem zRg (p:Prd) (c:Cmd) (x:wF) (left:Int):(nN p c x left).length≤3*x.fills.length+3:=by
 rw[nN,y0e]
 have:=yOe (fun f=>zLw p x (zDb f)) x.fills
 have:=zLw p x ⟨3,c.id,c.inst,c.side,x.price,x.qty,left,0⟩
 omega
theorem zTe {l:List wF} (h:∀t∈l,SOk t∧1≤t.qty):(l.length:Int)≤(l.map (·.qty)).sum:=by
 induction l with
 |nil=>exact y3p _
 |cons t l ih=>
  have:=ih fun u hu=>h u (y0c _ hu)
  have:=(h t y0d).2
  rw[y0l,y1l,y0f];omega
theorem yOv (i:EnI) (h:enterC.cnd i):yGw i:=by
 obtain⟨m,p,B,U,c,X⟩:=i
 have h':(m.Rep p B U∧BOk p B)∧((0≤c.inst∧c.inst<B.length)∧(1≤c.qty∧c.qty≤1000000)∧(c.side=1∨c.side=2))∧p.price c.inst c.price=0∧X=mB p B U c:=h
 clear h
 obtain⟨⟨⟨ep,hR,eu⟩,hB⟩,⟨⟨h0,h1⟩,hq,hs⟩,hpz,hX⟩:=h'
 subst ep eu hX
 have hwf:=hR.wf hB
 obtain⟨k1,k2,k3⟩:=mI (inst:=c.inst) (sd:=decide (c.side=2)) (price:=c.price) _ c.qty B (y1f _) hwf
 have k3:=k3 (by omega)
 obtain⟨s1,s2⟩:=zRx (inst:=c.inst) (sd:=decide (c.side=2)) (price:=c.price) _ c.qty B (y1f _) hwf ⟨h0,h1⟩
 have hX:=zGz m.p B m.used c
 have hbd:=sN hB.pc hpz
 unfold yGw qI vN zCb dI
 dsimp only
 rw[zPh,hX]
 refine⟨zQp _ _,⟨m.s,m.p,B,c.inst,decide (c.side=2),c.price,c.qty⟩,rfl,gP hs,rfl,rfl,rfl,⟨hR,hB,⟨h0,h1⟩,hq.1,hq.2⟩,fun o ho=> ?_⟩
 have er:RunI.r ⟨m.s,m.p,B,c.inst,decide (c.side=2),c.price,c.qty⟩=wD m.p B c.inst (decide (c.side=2)) c.price c.qty:=rfl
 rw[er]at ho ⊢
 clear hX er
 generalize wD m.p B c.inst (decide (c.side=2)) c.price c.qty=R at*
 obtain⟨ts,lf,RB⟩:=R
 dsimp only at*
 have hlen:=zTe s1
 have e4:(ts.map jZ).length=ts.length:=y0a ..
 refine⟨⟨c.qty,0,[⟨1,c.id,c.inst,c.side,c.price,c.qty,c.qty,0⟩]⟩,rfl,rfl,rfl,fun j=>j.k≤ts.length∧j.left=lf+((ts.drop j.k).map (·.qty)).sum∧(⟨1,c.id,c.inst,c.side,c.price,c.qty,c.qty,0⟩::nU m.p c ts c.qty)=j.out++nU m.p c (ts.drop j.k) j.left∧j.out.length≤1+1503*j.k,fun j=>ts.length-j.k,⟨y1n _,by dsimp only;rw[y3w,s2];omega,rfl,y1f _⟩,?_⟩
 rintro⟨left,k,out⟩ ⟨j1,j2,j3,j4⟩
 dsimp only at j1 j2 j3 j4 ⊢
 have e5:(out.map x6).length=out.length:=y0a ..
 refine zJ (fun c1=> ?_) (fun c1=> ?_)
 ·obtain⟨t,ht⟩:=z8 (l:=ts) (i:=k) (by omega)
  have hd:ts.drop k=t::ts.drop (k+1):=by rw[y2x (by omega),(yZz.1 ht).2]
  obtain⟨⟨t1,t2,t3⟩,t4⟩:=s1 t (y0g ht)
  have hsd:=zTe (l:=ts.drop (k+1)) fun u hu=>s1 u (y4a hu)
  have hsk:((ts.drop k).map (·.qty)).sum≤(ts.map (·.qty)).sum:=by
   have:=zTe (l:=ts.take k) fun u hu=>s1 u (y5q hu)
   have e:(ts.map (·.qty)).sum=((ts.take k).map (·.qty)).sum+((ts.drop k).map (·.qty)).sum:=by
    rw[← y6g,← y0j,y2g]
   omega
  rw[hd,y0l,y1l]at j2 hsk
  rw[hd,nU]at j3
  have hrl:=zRg m.p c t (left-t.qty)
  have e6:((nN m.p c t (left-t.qty)).map x6).length=(nN m.p c t (left-t.qty)).length:=y0a ..
  have hw:aj.wrap (left-t.qty)=left-t.qty:=w64 (by omega)
  refine⟨⟨by omega,by omega⟩,t.price,t.qty,t.implied,t.fills.map yT,elA ht (by simp[jZ]) rfl,?_⟩
  rw[hw]
  refine⟨⟨⟨m.p,o,zOj m.used c.id⟩,c,t,left-t.qty⟩,rfl,rfl,rfl,rfl,rfl,rfl,rfl,rfl,rfl,rfl,rfl,rfl,rfl,rfl,rfl,rfl,rfl,rfl,rfl,rfl,rfl,rfl,rfl,rfl,rfl,rfl,rfl,⟨⟨hB.pc,hB.ps⟩,⟨by dsimp only;omega,by dsimp only;omega⟩,by dsimp only;omega,hs,fun f hf=>(t2 f hf).1⟩,fun _ _=>⟨by dsimp only;rw[e5,e6];omega,⟨left-t.qty,k+1,out++nN m.p c t (left-t.qty)⟩,rfl,wjn (by omega),by dsimp only;rw[y0j],⟨by dsimp only;omega,by dsimp only;omega,by dsimp only;rw[j3,y0i],by dsimp only;rw[y0e];omega⟩,by dsimp only;omega,k0q⟩⟩
 have hk:k=ts.length:=by omega
 subst hk
 rw[List.drop_of_length_le (y1f _)]at j2 j3
 rw[nU,y0v]at j3
 rw[← j3]
 rw[← j3]at e5 j4
 have hRB:=k1.ok
 refine Cv.cnd.mk (fun e=> ?_) (fun e=>Cv.cnd.mk (fun e2=> ?_) (fun e2=> ?_))
 ·have e:lf=0:=by simpa using e
  rw[yZx (by omega),yZx (by omega),y0v]
  exact⟨⟨m.p,o,zOj m.used c.id⟩,rfl,rfl,rfl,rfl,rfl,rfl,rfl,rfl,rfl,rfl,rfl,rfl,rfl,rfl,rfl,ho,rfl⟩
 ·have e:¬lf=0:=by simpa using e
  have e2:c.time=1:=by simpa using e2
  rw[yZx (show ¬(lf≠0∧c.time≠1)by omega),yZy (show lf≠0∧c.time=1 from⟨e,e2⟩),y0v]
  have ha:=(ho.add c.inst c.id (decide (c.side=2)) c.price lf).1
  rw[gP hs]at ha
  exact⟨⟨o,c.inst,c.id,decide (c.side=2),c.price,lf⟩,rfl,rfl,gP hs,rfl,rfl,rfl,ho.fit hRB,fun _ _=>⟨⟨m.p,(MSt.addF ⟨o,c.inst,c.id,decide (c.side=2),c.price,lf⟩).1,zOj m.used c.id⟩,rfl,rfl,rfl,rfl,rfl,rfl,rfl,rfl,rfl,rfl,rfl,rfl,rfl,rfl,rfl,ha,rfl⟩⟩
 ·have e:¬lf=0:=by simpa using e
  have e2:¬c.time=1:=by simpa using e2
  rw[yZy (show lf≠0∧c.time≠1 from⟨e,e2⟩),yZx (show ¬(lf≠0∧c.time=1)by omega)]
  exact⟨by rw[e5];omega,⟨m.p,o,zOj m.used c.id⟩,rfl,rfl,rfl,rfl,rfl,rfl,rfl,rfl,rfl,rfl,rfl,rfl,rfl,by rw[y0j];rfl,rfl,ho,rfl⟩
theorem zWs:enterC.ok Tryz.prog 169:=okw mixed (gokc z1g (gokc yAq (gokc yKe gok0))) 0 (fun _=>[]) (fun i=>yOw i) [] Tryz.func169 yOv
theorem zRi:cancelC.ok Tryz.prog 116:=okw (V:=yLy) mixed (gokc zCh gok0) 0 (fun _=>[]) (fun _=>[]) [] Tryz.func116 fun(i:CaI) h=>by
 obtain⟨m,p,B,U,id,q,inst,o,X⟩:=i
 have h':(m.Rep p B U∧BOk p B)∧X=aS B U id inst o:=h
 clear h
 obtain⟨⟨⟨ep,hR,eu⟩,hB⟩,hX⟩:=h'
 subst ep eu hX
 have:=xQ m.p
 have:=hB.bl
 exact⟨⟨m.s,m.p,B,id,o.qty⟩,rfl,rfl,rfl,⟨hR,by dsimp only;omega⟩,fun o' ho=>⟨⟨m.p,o',m.used⟩,rfl,rfl,rfl,rfl,rfl,rfl,rfl,rfl,rfl,rfl,rfl,rfl,rfl,rfl,rfl,ho,rfl⟩⟩
theorem zOw:reduceC.ok Tryz.prog 117:=okw (V:=z6i) mixed (gokc zCh gok0) 0 (fun _=>[]) (fun _=>[]) [] Tryz.func117 fun(i:CaI) h=>by
 obtain⟨m,p,B,U,id,q,inst,o,X⟩:=i
 have h':(m.Rep p B U∧BOk p B)∧yO (o.qty-q)∧X=zDp B U id q inst o:=h
 clear h
 obtain⟨⟨⟨ep,hR,eu⟩,hB⟩,hw,hX⟩:=h'
 subst ep eu hX
 have:=xQ m.p
 have:=hB.bl
 have hw:=w64 hw
 unfold z6i dI
 dsimp only
 rw[hw]
 exact⟨⟨m.s,m.p,B,id,q⟩,rfl,rfl,rfl,⟨hR,by dsimp only;omega⟩,fun o' ho=>⟨⟨m.p,o',m.used⟩,rfl,rfl,rfl,rfl,rfl,rfl,rfl,rfl,rfl,rfl,rfl,rfl,rfl,rfl,rfl,ho,rfl⟩⟩
theorem zPa {c:Cmd} (h:c.right=0):(if c.kind=1 then c.orderE else if c.kind≠2∧vC c.qty=au then 24 else if c.kind=4∧dN c.price=au then 23 else 0)=0:=by
 rw[Cmd.right]at h
 by_cases c1:c.kind<1∨4<c.kind
 ·rw[yZy c1]at h;cases h
 rw[yZx c1]at h
 by_cases c2:c.id<1∨1099511627776<c.id
 ·rw[yZy c2]at h;cases h
 rw[yZx c2]at h
 exact h
theorem z7c {c:Cmd} (h:c.right=0) (hk:c.kind=1):(c.side=1∨c.side=2)∧(1≤c.qty∧c.qty≤1000000)∧(0≤c.least∧c.least≤c.qty):=by
 have h:=zPa h
 rw[yZy hk,Cmd.orderE]at h
 by_cases c1:c.side≠1∧c.side≠2
 ·rw[yZy c1]at h;cases h
 rw[yZx c1]at h
 by_cases c2:c.time<1∨3<c.time
 ·rw[yZy c2]at h;cases h
 rw[yZx c2]at h
 cases c3:vC c.qty with
 |false=>rw[yZy c3]at h;cases h
 |true=>
  rw[yZx (by rw[c3];decide)]at h
  by_cases c4:c.least<0∨c.qty<c.least
  ·rw[yZy c4]at h;cases h
  simp only[vC,y0o,y1z]at c3
  exact⟨by omega,c3,by omega⟩
theorem zPm {c:Cmd} (h:c.right=0) (hk:¬c.kind=1) (hk2:¬c.kind=2):1≤c.qty∧c.qty≤1000000:=by
 have h:=zPa h
 rw[yZx hk]at h
 cases c3:vC c.qty with
 |false=>rw[yZy ⟨hk2,c3⟩]at h;cases h
 |true=>
  simp only[vC,y0o,y1z]at c3
  exact c3
theorem yTj (i:EnI) (h:orderC.cnd i):yCr i:=by
 obtain⟨m,p,B,U,c,X⟩:=i
 have h':(m.Rep p B U∧BOk p B)∧c.right=0∧c.kind=1∧X=tF p B U c:=h
 clear h
 obtain⟨⟨hM,hB⟩,hr,hkd,hX⟩:=h'
 obtain⟨ep,hR,eu⟩:=hM
 subst ep eu
 have hM:m.Rep m.p B m.used:=⟨rfl,hR,rfl⟩
 obtain⟨hs,hq,hl⟩:=z7c hr hkd
 have hbl:=hB.bl
 have hcl:=xQ m.p
 unfold yCr qI eK lM zFs zBc zFi zGn zFy zGi vN rO xZ dI
 dsimp only
 refine⟨⟨m.p,c.inst,c.price⟩,rfl,rfl,rfl,rfl,rfl,rfl,rfl,rfl,rfl,rfl,rfl,rfl,rfl,hB.ps,fun _ _=>Cv.cnd.mk (fun e=> ?_) (fun e=> ?_)⟩
 ·have e:m.p.price c.inst c.price≠0:=by simpa using e
  have hx:X=⟨B,m.used,pP c (m.p.price c.inst c.price)⟩:=by rw[hX,tF,yZy e]
  exact⟨⟨c,m.p.price c.inst c.price⟩,rfl,rfl,rfl,rfl,rfl,rfl,rfl,rfl,rfl,rfl,trivial,fun _ _=>⟨m,rfl,rfl,rfl,rfl,rfl,rfl,rfl,rfl,rfl,rfl,rfl,rfl,rfl,by rw[hx];rfl,by rw[hx];exact hM⟩⟩
 have hpz:m.p.price c.inst c.price=0:=by simpa using e
 have hin:=zVa hpz
 have hib:0≤c.inst∧c.inst<B.length:=by omega
 rw[tF,yZx (by rw[hpz];decide)]at hX
 refine⟨0,fun l=>l=c.lst,Cv.cnd.mk (fun e=>⟨c.qty,rfl,by rw[Cmd.lst,yZy (by simpa using e)],k0q⟩) (fun e=>⟨c.least,rfl,by rw[Cmd.lst,yZx (by simpa using e)],k0q⟩),?_⟩
 rintro _ rfl
 refine⟨zQp _ _,_,_,yGh _ _,zJ (fun e=> ?_) (fun e=> ?_)⟩
 ·have hx:X=⟨B,m.used,pP c 25⟩:=by rw[hX,yZy e]
  exact⟨⟨c,25⟩,rfl,rfl,rfl,rfl,rfl,rfl,rfl,rfl,rfl,rfl,trivial,fun _ _=>⟨m,rfl,rfl,rfl,rfl,rfl,rfl,rfl,rfl,rfl,rfl,rfl,rfl,rfl,by rw[hx];rfl,by rw[hx];exact hM⟩⟩
 rw[yZx e]at hX
 refine⟨⟨m.s,m.p,B,0,au⟩,rfl,⟨hR,by dsimp only;omega⟩,fun _ _=>zJ (fun e=> ?_) (fun e=> ?_)⟩
 ·have hx:X=⟨B,m.used,pP c 13⟩:=by rw[hX,yZy (by dsimp only at e;omega)]
  exact⟨⟨c,13⟩,rfl,rfl,rfl,rfl,rfl,rfl,rfl,rfl,rfl,rfl,trivial,fun _ _=>⟨m,rfl,rfl,rfl,rfl,rfl,rfl,rfl,rfl,rfl,rfl,rfl,rfl,rfl,by rw[hx];rfl,by rw[hx];exact hM⟩⟩
 rw[yZx (by dsimp only at e;omega)]at hX
 have hok:RunI.ok ⟨m.s,m.p,B,c.inst,decide (c.side=2),c.price,c.qty⟩:=⟨hR,hB,hib,hq.1,hq.2⟩
 refine⟨ar,fun b=>b=decide (0<c.lst∧c.qty-(wD m.p B c.inst (decide (c.side=2)) c.price c.qty).left<c.lst),zJ (fun e=>⟨⟨m.s,m.p,B,c.inst,decide (c.side=2),c.price,c.qty⟩,rfl,gP hs,rfl,rfl,rfl,hok,fun _ _=>⟨_,rfl,decide_eq_decide.2 ⟨fun x=>⟨e,x⟩,fun x=>x.2⟩,k0q⟩⟩) (fun e=>⟨au,rfl,(y0k fun x=>e x.1).symm,k0q⟩),?_⟩
 rintro _ rfl
 refine zJ (fun e=> ?_) (fun e=> ?_)
 ·have hx:X=⟨B,m.used,pP c 28⟩:=by rw[hX,yZy e]
  exact⟨⟨c,28⟩,rfl,rfl,rfl,rfl,rfl,rfl,rfl,rfl,rfl,rfl,trivial,fun _ _=>⟨m,rfl,rfl,rfl,rfl,rfl,rfl,rfl,rfl,rfl,rfl,rfl,rfl,rfl,by rw[hx];rfl,by rw[hx];exact hM⟩⟩
 rw[yZx e]at hX
 refine⟨ar,fun b=>b=decide (c.time=1∧bQ m.p B c.inst (decide (c.side=2)) c.price c.qty=ar),Cv.cnd.mk (fun e=>⟨⟨m.s,m.p,B,c.inst,decide (c.side=2),c.price,c.qty⟩,rfl,gP hs,rfl,rfl,rfl,hok,fun _ _=>⟨_,rfl,?_,k0q⟩⟩) (fun e=>⟨au,rfl,(y0k fun x=> ?_).symm,k0q⟩),?_⟩
 ·have e:c.time=1:=by simpa using e
  dsimp only
  cases hb:bQ m.p B c.inst (decide (c.side=2)) c.price c.qty with
  |true=>exact(y0n ⟨e,rfl⟩).symm
  |false=>exact(y0k fun x=>by cases x.2).symm
 ·rw[x.1]at e;cases e
 rintro _ rfl
 refine zJ (fun e=> ?_) (fun e=> ?_)
 ·have hx:X=⟨B,m.used,pP c 23⟩:=by rw[hX,yZy e]
  exact⟨⟨c,23⟩,rfl,rfl,rfl,rfl,rfl,rfl,rfl,rfl,rfl,rfl,trivial,fun _ _=>⟨m,rfl,rfl,rfl,rfl,rfl,rfl,rfl,rfl,rfl,rfl,rfl,rfl,rfl,by rw[hx];rfl,by rw[hx];exact hM⟩⟩
 rw[yZx e]at hX
 exact⟨⟨m,m.p,B,m.used,c,X⟩,rfl,rfl,rfl,rfl,rfl,rfl,rfl,rfl,rfl,rfl,rfl,rfl,rfl,rfl,rfl,rfl,rfl,rfl,rfl,rfl,rfl,rfl,⟨⟨hM,hB⟩,⟨hib,hq,hs⟩,hpz,hX⟩,fun o ho=>⟨o,rfl,rfl,rfl,rfl,rfl,rfl,rfl,rfl,rfl,rfl,rfl,rfl,rfl,rfl,ho⟩⟩
theorem yCj:orderC.ok Tryz.prog 113:=okw mixed (gokc tG (gokc zZv (gokc z0e (gokc z8v (gokc zVp (gokc zWs gok0)))))) 0 (fun _=>ySp) (fun _=>[]) [] Tryz.func113 yTj
theorem z5z {p:Prd} {B:List (List zK)} (h:BWf p B) {id inst:Int} {o:zK} (hf:yG B id=(inst,o,ar)):(0≤inst∧inst<B.length)∧zKs o:=by
 rw[yG]at hf
 split at hf
 ·cases hf
 ·rename_i k hk
  obtain⟨L,hL,hh⟩:=gJ hk
  rw[zT hL]at hf
  cases hf
  have hlt:=(yZz.1 hL).1
  obtain⟨o,ho,e⟩:=y1a.1 (hasId_iff.1 hh)
  have hg:=nS (h.od k L hL).2.1 ho
  rw[e]at hg
  rw[hg]
  exact⟨by omega,(h.od k L hL).1 o ho⟩
theorem zKd (p:Prd) (c:Cmd):∀(l:List wF) (left:Int),(∀t∈l,SOk t∧1≤t.qty)→(nU p c l left).length≤1503*l.length
 |[],_,_=>y1f _
 |t::l,left,h=>by
  have a:=zKd p c l (left-t.qty) fun u hu=>h u (y0c _ hu)
  have b:=zRg p c t (left-t.qty)
  have d:=(h t y0d).1.2.2
  rw[nU,y0e,y0f];omega
theorem z1w {p:Prd} {B:List (List zK)} (h:BWf p B) (U:List Int) {c:Cmd} (hi:0≤c.inst∧c.inst<B.length) (hq:1≤c.qty∧c.qty≤1000000):(mB p B U c).R.length≤1503000002:=by
 obtain⟨s1,s2⟩:=zRx (inst:=c.inst) (sd:=decide (c.side=2)) (price:=c.price) _ c.qty B (y1f _) h hi
 have k3:=(mI (inst:=c.inst) (sd:=decide (c.side=2)) (price:=c.price) _ c.qty B (y1f _) h).2.2 (by omega)
 have:=zTe s1
 have:=zKd p c _ c.qty s1
 rw[zGz]
 dsimp only
 rw[y0e,y0f]
 split
 ·rw[y0f,y2t];omega
 ·rw[y2t];omega
theorem yGf (i:z7l) (h:replaceC.cnd i):zVc i:=by
 obtain⟨m,p,B,U,c,inst,o,X⟩:=i
 have h':m.Rep p B U∧BOk p B∧yG B c.id=(inst,o,ar)∧(1≤c.qty∧c.qty≤1000000)∧X=aI p B U c inst o:=h
 clear h
 obtain⟨hM,hB,hf,hq,hX⟩:=h'
 obtain⟨ep,hR,eu⟩:=hM
 subst ep eu
 have hM:m.Rep m.p B m.used:=⟨rfl,hR,rfl⟩
 have hwf:=hR.wf hB
 obtain⟨hin,hoo⟩:=z5z hwf hf
 have hos:=hoo.s
 have hoq:=hoo.q
 have hbl:=hB.bl
 have hcl:=xQ m.p
 unfold zVc cX tL qI g9 wO p9 rO xZ
 dsimp only
 refine⟨⟨m.p,inst,c.price⟩,rfl,rfl,rfl,rfl,rfl,rfl,rfl,rfl,rfl,rfl,rfl,rfl,rfl,hB.ps,fun _ _=>Cv.cnd.mk (fun e=> ?_) (fun e=> ?_)⟩
 ·have e:m.p.price inst c.price≠0:=by simpa using e
  have hx:X=⟨B,m.used,pP c (m.p.price inst c.price)⟩:=by rw[hX,aI,yZy e]
  exact⟨⟨c,m.p.price inst c.price⟩,rfl,rfl,rfl,rfl,rfl,rfl,rfl,rfl,rfl,rfl,trivial,fun _ _=>⟨m,rfl,rfl,rfl,rfl,rfl,rfl,rfl,rfl,rfl,rfl,rfl,rfl,rfl,by rw[hx];rfl,by rw[hx];exact hM⟩⟩
 have hpz:m.p.price inst c.price=0:=by simpa using e
 rw[aI,yZx (by rw[hpz];decide)]at hX
 have hw:aj.wrap (o.qty-c.qty)=o.qty-c.qty:=w64 (by omega)
 rw[hw]
 refine(fun hT=>Cv.cnd.mk (fun e1=>zJ (fun e2=> ?_) (fun e2=>hT fun x=>e2 x.2)) (fun e1=>hT fun x=>by rw[x.1]at e1;simp at e1)) (fun(hn:¬(c.price=o.price∧c.qty≤o.qty))=> ?_)
 ·have e1:c.price=o.price:=by simpa using e1
  rw[yZy ⟨e1,e2⟩]at hX
  exact⟨⟨m,m.p,B,m.used,c.id,o.qty-c.qty,inst,o,X⟩,rfl,rfl,rfl,rfl,rfl,rfl,rfl,rfl,rfl,rfl,rfl,rfl,rfl,rfl,rfl,rfl,rfl,rfl,rfl,rfl,rfl,⟨⟨hM,hB⟩,⟨by dsimp only;omega,by dsimp only;omega⟩,hX⟩,fun o' ho=>⟨o',rfl,rfl,rfl,rfl,rfl,rfl,rfl,rfl,rfl,rfl,rfl,rfl,rfl,rfl,ho⟩⟩
 rw[yZx hn]at hX
 have hBt:=hB.take c.id o.qty
 refine⟨m.s,rfl,hR.small hB,fun _ _=>⟨⟨m.s,m.p,B,c.id,o.qty⟩,rfl,rfl,rfl,⟨hR,by dsimp only;omega⟩,fun o' ho'=>⟨⟨o',m.p,(kH B c.id o.qty).1,inst,decide (o.side=2),c.price,c.qty⟩,rfl,gP hos,rfl,rfl,rfl,⟨ho',hBt,by dsimp only;rw[tN];exact hin,hq.1,hq.2⟩,fun _ _=>Cv.cnd.mk (fun e=> ?_) (fun e=> ?_)⟩⟩⟩
 ·have hx:X=⟨B,m.used,pP c 23⟩:=by rw[hX,yZy e]
  exact⟨⟨c,23⟩,rfl,rfl,rfl,rfl,rfl,rfl,rfl,rfl,rfl,rfl,trivial,fun _ _=>⟨m,rfl,rfl,rfl,rfl,rfl,rfl,rfl,rfl,rfl,rfl,rfl,rfl,rfl,by rw[hx];rfl,by rw[hx];exact hM⟩⟩
 rw[yZx (by rw[e];decide)]at hX
 refine⟨⟨m,m.p,B,m.used,c.id,0,inst,o,aS B m.used c.id inst o⟩,rfl,rfl,rfl,rfl,rfl,rfl,rfl,rfl,rfl,rfl,rfl,rfl,rfl,rfl,rfl,rfl,rfl,rfl,rfl,rfl,⟨⟨hM,hB⟩,rfl⟩,fun o1 ho1=>⟨⟨o1,m.p,(kH B c.id o.qty).1,m.used,⟨1,c.id,inst,o.side,c.price,c.qty,0,1,[]⟩,mB m.p (kH B c.id o.qty).1 m.used ⟨1,c.id,inst,o.side,c.price,c.qty,0,1,[]⟩⟩,rfl,rfl,rfl,rfl,rfl,rfl,rfl,rfl,rfl,rfl,rfl,rfl,rfl,rfl,rfl,rfl,rfl,rfl,rfl,rfl,rfl,rfl,⟨⟨ho1,hBt⟩,⟨by dsimp only;rw[tN];exact hin,hq,hos⟩,hpz,rfl⟩,fun o2 ho2=>⟨?_,o2,rfl,rfl,rfl,rfl,rfl,rfl,rfl,rfl,rfl,rfl,rfl,rfl,rfl,?_,?_⟩⟩⟩
 ·have:=z1w (hwf.take c.id o.qty) m.used (c:=⟨1,c.id,inst,o.side,c.price,c.qty,0,1,[]⟩) (by dsimp only;rw[tN];exact hin) hq
  dsimp only
  rw[y0a,y0a]
  have e1:(aS B m.used c.id inst o).R.length=1:=rfl
  omega
 ·rw[hX,← y0j];rfl
 ·rw[hX];exact ho2
theorem z0m:replaceC.ok Tryz.prog 115:=okw mixed (gokc tG (gokc zZv (gokc zDe (gokc zCh (gokc zVp (gokc zRi (gokc zOw (gokc zWs gok0)))))))) 0 (fun _=>[]) (fun _=>[]) [] Tryz.func115 yGf
theorem vdo (i:EnI) (h:doC.cnd i):Vdo i:=by
 obtain⟨m,p,B,U,c,X⟩:=i
 have h':(m.Rep p B U∧BOk p B)∧c.label.length≤140737488355328∧yO c.qty∧X=doF p B U c:=h
 clear h
 obtain⟨⟨hM,hB⟩,hlb,hqr,hX⟩:=h'
 obtain⟨ep,hR,eu⟩:=hM
 subst ep eu
 have hM:m.Rep m.p B m.used:=⟨rfl,hR,rfl⟩
 have hwf:=hR.wf hB
 have hbl:=hB.bl
 have hcl:=xQ m.p
 unfold Vdo eK yAm cX z0s zRw zSm
 dsimp only
 refine⟨c,rfl,rfl,rfl,rfl,rfl,rfl,rfl,rfl,rfl,hlb,fun _ _=>Cv.cnd.mk (fun e=> ?_) (fun e=> ?_)⟩
 ·have e:c.right≠0:=by simpa using e
  have hx:X=⟨B,m.used,pP c c.right⟩:=by rw[hX,doF,yZy e]
  exact⟨⟨c,c.right⟩,rfl,rfl,rfl,rfl,rfl,rfl,rfl,rfl,rfl,rfl,trivial,fun _ _=>⟨m,rfl,rfl,rfl,rfl,rfl,rfl,rfl,rfl,rfl,rfl,rfl,rfl,rfl,by rw[hx];rfl,by rw[hx];exact hM⟩⟩
 have hr:c.right=0:=by simpa using e
 rw[doF,yZx (by rw[hr];decide)]at hX
 refine Cv.cnd.mk (fun e=> ?_) (fun e=> ?_)
 ·have e:c.kind=1:=by simpa using e
  rw[yZy e]at hX
  exact⟨⟨m,m.p,B,m.used,c,X⟩,rfl,rfl,rfl,rfl,rfl,rfl,rfl,rfl,rfl,rfl,rfl,rfl,rfl,rfl,rfl,rfl,rfl,rfl,rfl,rfl,rfl,rfl,⟨⟨hM,hB⟩,hr,e,hX⟩,fun o ho=>⟨o,rfl,rfl,rfl,rfl,rfl,rfl,rfl,rfl,rfl,rfl,rfl,rfl,rfl,rfl,ho⟩⟩
 have hk:¬c.kind=1:=by simpa using e
 rw[yZx hk]at hX
 refine(fun hT=>⟨hT,rfl,trivial,hT⟩) ?_
 refine⟨⟨m.s,m.p,B,c.id,0⟩,rfl,rfl,⟨hR,by dsimp only;omega⟩,fun _ _=>Cv.cnd.mk (fun e=> ?_) (fun e=> ?_)⟩
 ·have e:(yG B c.id).2.2=au:=by simpa using e
  have hx:X=⟨B,m.used,pP c 26⟩:=by rw[hX,yZy e]
  exact⟨⟨c,26⟩,rfl,rfl,rfl,rfl,rfl,rfl,rfl,rfl,rfl,rfl,trivial,fun _ _=>⟨m,rfl,rfl,rfl,rfl,rfl,rfl,rfl,rfl,rfl,rfl,rfl,rfl,rfl,by rw[hx];rfl,by rw[hx];exact hM⟩⟩
 have e:(yG B c.id).2.2=ar:=by simpa using e
 rw[yZx (by rw[e];decide)]at hX
 dsimp only
 have hf:yG B c.id=((yG B c.id).1,(yG B c.id).2.1,ar):=by rw[← e]
 generalize (yG B c.id).1=inst at*
 generalize (yG B c.id).2.1=o at*
 obtain⟨hin,hoo⟩:=z5z hwf hf
 have hoq:=hoo.q
 refine Cv.cnd.mk (fun e4=> ?_) (fun e4=>Cv.cnd.mk (fun e2=> ?_) (fun e2=>zJ (fun e3=> ?_) (fun e3=> ?_)))
 ·have e4:c.kind=4:=by simpa using e4
  rw[yZy e4]at hX
  exact⟨⟨m,m.p,B,m.used,c,inst,o,X⟩,rfl,rfl,rfl,rfl,rfl,rfl,rfl,rfl,rfl,rfl,rfl,rfl,rfl,rfl,rfl,rfl,rfl,rfl,rfl,rfl,rfl,rfl,rfl,rfl,rfl,rfl,rfl,rfl,⟨hM,hB,hf,zPm hr hk (by rw[e4];decide),hX⟩,fun o' ho=>⟨o',rfl,rfl,rfl,rfl,rfl,rfl,rfl,rfl,rfl,rfl,rfl,rfl,rfl,rfl,ho⟩⟩
 all_goals
  have e4:¬c.kind=4:=by simpa using e4
  rw[yZx e4]at hX
 ·have e2:c.kind=2:=by simpa using e2
  rw[yZy (.inl e2)]at hX
  exact⟨⟨m,m.p,B,m.used,c.id,0,inst,o,X⟩,rfl,rfl,rfl,rfl,rfl,rfl,rfl,rfl,rfl,rfl,rfl,rfl,rfl,rfl,rfl,rfl,rfl,rfl,rfl,rfl,⟨⟨hM,hB⟩,hX⟩,fun o' ho=>⟨o',rfl,rfl,rfl,rfl,rfl,rfl,rfl,rfl,rfl,rfl,rfl,rfl,rfl,rfl,ho⟩⟩
 ·rw[yZy (.inr (by omega))]at hX
  exact⟨⟨m,m.p,B,m.used,c.id,0,inst,o,X⟩,rfl,rfl,rfl,rfl,rfl,rfl,rfl,rfl,rfl,rfl,rfl,rfl,rfl,rfl,rfl,rfl,rfl,rfl,rfl,rfl,⟨⟨hM,hB⟩,hX⟩,fun o' ho=>⟨o',rfl,rfl,rfl,rfl,rfl,rfl,rfl,rfl,rfl,rfl,rfl,rfl,rfl,rfl,ho⟩⟩
 ·have e2:¬c.kind=2:=by simpa using e2
  have hq:=zPm hr hk e2
  rw[yZx (by omega)]at hX
  exact⟨⟨m,m.p,B,m.used,c.id,c.qty,inst,o,X⟩,rfl,rfl,rfl,rfl,rfl,rfl,rfl,rfl,rfl,rfl,rfl,rfl,rfl,rfl,rfl,rfl,rfl,rfl,rfl,rfl,rfl,⟨⟨hM,hB⟩,⟨by dsimp only;omega,by dsimp only;omega⟩,hX⟩,fun o' ho=>⟨o',rfl,rfl,rfl,rfl,rfl,rfl,rfl,rfl,rfl,rfl,rfl,rfl,rfl,rfl,ho⟩⟩
theorem yMl:doC.ok Tryz.prog 50:=okw mixed (gokc yHf (gokc zZv (gokc yAw (gokc yCj (gokc z0m (gokc zRi (gokc zOw gok0))))))) 0 (fun _=>[]) (fun _=>[]) [0] Tryz.func50 vdo
open Go Cv Go.Proofs
open Go Cv Go.Proofs
open Go Cv Go.Proofs
theorem z9m (t:TmI):1≤(qP t).qty∧(qP t).qty≤12:=by
 have:=xH (n:=t.c.qty) (lo:=0) (hi:=11) (by omega)
 have e:(qP t).qty=1+zI t.c.qty 0 11:=by rw[qP];split<;>rfl
 omega
theorem zZc (t:TmI):(qP t).label=[]:=by
 rw[qP];split<;>rfl
open Go Cv Go.Proofs
open Go Cv Go.Proofs
open Go Cv Go.Proofs
theorem yYi {l:List Cmd} {k:Nat} {c:Cmd} (h:l[k]? =av c):zE (l.map cmdE) k 0 9=av [D.v (.int .i64 c.kind),.v (.int .i64 c.id),.v (.int .i64 c.inst),.v (.int .i64 c.side),.v (.int .i64 c.price),.v (.int .i64 c.qty),.v (.int .i64 c.least),.v (.int .i64 c.time),.v (.string (sb c.label))]:=elA h (by simp[cmdE]) rfl
def mk0 (p:Prd):Mkt:=⟨p,mF p,[]⟩
theorem z4u (p:Prd):(mk0 p).Rep p (List.replicate p.count []) []:=⟨rfl,z0k _,rfl⟩
open Go Cv Go.Proofs
def WrU (l:List UInt8):Nat→AObj
 |0=> .cells [.own 1] 205
 |1=> .own 5 1 (bE l)
 |_=> .gone
def Wr (l:List UInt8):AObj:= .adt (List UInt8) 2 WrU l
structure z8f where
 l:List UInt8
 n:Int
 k:Nat
def putC:Con where
 ι:=z8f
 pat:=fun i=>[.nm 0 0,.d (.v (.int .u64 i.n)),.d (.v (.int .i64 i.k))]
 pre:=fun i=>[Wr i.l]
 cnd:=fun i=>0≤i.n∧i.n<18446744073709551616∧i.l.length+i.k≤1099511627776
 alts:=fun i=>[{o:=Unit,res:=fun _=> .tup [],post:=fun _=>[Wr (i.l++le i.n i.k)],rel:=fun _=>True}]
def yXt (i:z8f):List SAnn:=[{
 ι:=Nat,
 slots:=fun j=>[(0,.nm 0 0),(1,.d (.v (.int .u64 (i.n / 256 ^ j)))),(7,.d (.v (.int .i64 j)))],
 rows:=fun j=>[WrU (i.l++le i.n j) 0,WrU (i.l++le i.n j) 1]}]
open Go Cv Go.Proofs
def yVh (i:z8f):Prop:=
 ∃(a:Nat),i.n / (256:Int) ^ a=i.n∧(↑a:Int)=0∧bE (i.l++le i.n a)=bE i.l∧∃(b:Nat→Prop),∃(c:Nat→Nat),b a∧∀(d:Nat),b d→cnd (decide ((↑d:Int)<(↑i.k:Int))) (((bE (i.l++le i.n d)).length+1)*(1:Nat)≤(140737488355328:Nat)∧(0:Int)≤(8:Int)∧∃(e:Nat),i.n / (256:Int) ^ e=pR ak (i.n / (256:Int) ^ d) 8∧(↑e:Int)=aj.wrap ((↑d:Int)+1)∧bE (i.l++le i.n e)=bE (i.l++le i.n d)++[[D.v (.int .u8 (IntKind.u8.wrap (i.n / (256:Int) ^ d)))]]∧b e∧c e<c d∧True) (∃(e:Unit),bE (i.l++le i.n i.k)=bE (i.l++le i.n d)∧True)
open Go Cv Go.Proofs
theorem yXu (i:z8f) (h:putC.cnd i):yVh i:=by
 unfold yVh
 obtain⟨h1,h2,h3⟩:=h
 refine⟨0,by simp,rfl,by simp[le],fun j=>j≤i.k,fun j=>i.k-j,by omega,fun j hj=>zJ (fun hlt=> ?_) (fun hlt=> ?_)⟩
 ·refine⟨?_,by omega,j+1,?_,?_,?_,by omega,by dsimp only;omega,trivial⟩
  ·rw[b7,y0e,mE];omega
  ·have:=zCm .u64 (i.n / 256 ^ j) 8 (by decide)
   rw[show((8:Nat):Int)=8 by rfl]at this
   rw[this,Int.ediv_ediv_of_nonneg (Int.pow_nonneg (by omega)),Int.pow_succ];rfl
  ·rw[w64 (by omega)];rfl
  ·rw[yLc,z4g];simp[bE]
 ·obtain rfl:j=i.k:=by omega
  exact⟨(),rfl,trivial⟩
theorem yFv:putC.ok Tryz.prog 126:=okw mixed gok0 0 (fun _=>[]) (fun i=>yXt i) [0] Tryz.func126 yXu
open Go Cv Go.Proofs
@[reducible] def tU8:Nat:=5
structure WN where
 l:List UInt8
 n:Int
@[reducible] def WN.ok (i:WN):Prop:=i.l.length+8≤1099511627776
def byteC:Con:=con1 WN (fun i=>[.nm 0 0,zA i.n]) (fun i=>[Wr i.l]) WN.ok (fun _=>zDh) (fun i=>[Wr (i.l++[lob i.n])])
def longC:Con:=con1 WN (fun i=>[.nm 0 0,zA i.n]) (fun i=>[Wr i.l]) WN.ok (fun _=>zDh) (fun i=>[Wr (i.l++le i.n 8)])
@[reducible] def yRd (t sz by_:Nat):Con:=con1 (List (List D)) (fun _=>[.own 0]) (fun l=>[.own t sz l]) (fun l=>l.length*by_≤140737488355328) (fun _=> .own 1) (fun l=>[.own t sz l,.own t sz l])
@[reducible] def ySs (sz by_:Nat):Con:=con1 (List (List D)) (fun l=>[roV sz l]) (fun _=>[]) (fun l=>l.length*by_≤140737488355328) (fun l=>roV sz l) (fun _=>[])
def cloneBO:Con:=yRd tU8 1 1
def cloneBR:Con:=ySs 1 1
def newWC:Con:=con1 Unit (fun _=>[]) (fun _=>[]) (fun _=>True) (fun _=> .nm 0 0) (fun _=>[Wr []])
def doneC:Con:=con1 (List UInt8) (fun _=>[.nm 0 0]) (fun l=>[Wr l]) (fun l=>l.length≤1099511627776) (fun _=> .own 1) (fun l=>[Wr l,.own tU8 1 (bE l)])
def RdU (x:List UInt8×Bool):Nat→AObj
 |0=> .cells [roV 1 (bE x.1),yF x.2] 210
 |_=> .gone
def Rd (l:List UInt8) (b:Bool):AObj:= .adt (List UInt8×Bool) 1 RdU (l,b)
def newRC:Con:=con1 (List UInt8) (fun l=>[roV 1 (bE l)]) (fun _=>[]) (fun l=>l.length≤1099511627776) (fun _=> .nm 0 0) (fun l=>[Rd l au])
structure RN where
 l:List UInt8
 b:Bool
 n:Nat
def RN.bad (i:RN):Bool:=i.b||decide (i.l.length<i.n)
def RN.got (i:RN):List UInt8:=if i.bad then[]else i.l.take i.n
def RN.left (i:RN):List UInt8:=if i.bad then i.l else i.l.drop i.n
@[reducible] def RN.ok (i:RN):Prop:=i.n≤255∧i.l.length≤1099511627776
def takeC:Con:=con1 RN (fun i=>[.nm 0 0,zA i.n]) (fun i=>[Rd i.l i.b]) RN.ok (fun i=>roV 1 (bE i.got)) (fun i=>[Rd i.left i.bad])
def kO:List UInt8→Int
 |[]=>0
 |b::l=>b.toNat+256*kO l
def getC:Con:=con1 RN (fun i=>[.nm 0 0,zA i.n]) (fun i=>[Rd i.l i.b]) (fun i=>i.n≤8∧i.l.length≤1099511627776) (fun i=>sH (kO i.got)) (fun i=>[Rd i.left i.bad])
def yZq (i:RN):List SAnn:=[{ι:=Nat,slots:=fun j=>[(5,sH (kO (i.got.take j))),(12,zA j)],rows:=fun _=>[]}]
structure RB where
 l:List UInt8
 b:Bool
def RB.n (i:RB) (k:Nat):RN:=⟨i.l,i.b,k⟩
def rbyteC:Con:=con1 RB (fun i=>[.nm 0 0]) (fun i=>[Rd i.l i.b]) (fun i=>i.l.length≤1099511627776) (fun i=>zA (kO (i.n 1).got)) (fun i=>[Rd (i.n 1).left (i.n 1).bad])
def rlongC:Con:=con1 RB (fun i=>[.nm 0 0]) (fun i=>[Rd i.l i.b]) (fun i=>i.l.length≤1099511627776) (fun i=>zA (aj.wrap (kO (i.n 8).got))) (fun i=>[Rd (i.n 8).left (i.n 8).bad])
def rendC:Con:=con1 RB (fun i=>[.nm 0 0]) (fun i=>[Rd i.l i.b]) (fun i=>i.l.length≤1099511627776) (fun i=>zA (if i.b then 10 else if 0<i.l.length then 15 else 0)) (fun i=>[Rd i.l i.b])
open Go Cv Go.Proofs
def yNk (i:WN):Prop:=
 ∃(a:z8f),a.n=ak.wrap i.n∧(↑a.k:Int)=1∧ac (List UInt8) 2 WrU a.l=Wr i.l∧(0≤a.n∧a.n<18446744073709551616∧a.l.length+a.k≤1099511627776)∧∀(b:Unit),True→∃(c:Unit),ac (List UInt8) 2 WrU (i.l++[lob i.n])=ac (List UInt8) 2 WrU (a.l++le a.n a.k)∧True
def yMn (i:WN):Prop:=
 ∃(a:z8f),a.n=ak.wrap i.n∧(↑a.k:Int)=8∧ac (List UInt8) 2 WrU a.l=Wr i.l∧(0≤a.n∧a.n<18446744073709551616∧a.l.length+a.k≤1099511627776)∧∀(b:Unit),True→∃(c:Unit),ac (List UInt8) 2 WrU (i.l++le i.n 8)=ac (List UInt8) 2 WrU (a.l++le a.n a.k)∧True
def zWd (i:List (List D)):Prop:=
 ∀(b:Bool),(b=ar→i=[])→cnd b (∃(o:Unit),i=i∧i=[]∧True) ((0+i.length)*(1:Nat)≤(140737488355328:Nat)∧∃(o:Unit),i=i∧i=[]++i∧True)
theorem z7v (i:List (List D)):zWd i=walk Tryz.prog ([]) 0 ([]) ([]) [] Tryz.f99 (Tryz.f99.body.getD .skip) (cloneBO.pat i) (cloneBO.pre i) (cloneBO.alts i):=by kernel_rfl
theorem z8u (hG:GOk Tryz.prog ([])) (h:∀(i:List (List D)),cloneBO.cnd i→zWd i):cloneBO.ok Tryz.prog 99:=gK mixed ([]) hG 0 (fun(i:List (List D))=>[]) (fun(i:List (List D))=>[]) [] Tryz.func99 (by kernel_rfl) (by kernel_rfl) (by kernel_rfl) (fun _=>by kernel_rfl) (fun(i:List (List D)) hc=>Eq.mp (z7v i) (h i hc))
def zXg (i:List (List D)):Prop:=
 ∀(b:Bool),(b=ar→i=[])→cnd b (∃(o:Unit),i=[]∧True) ((0+i.length)*(1:Nat)≤(140737488355328:Nat)∧∃(o:Unit),i=[]++i∧True)
theorem z8s (i:List (List D)):zXg i=walk Tryz.prog ([]) 0 ([]) ([]) [] Tryz.f99 (Tryz.f99.body.getD .skip) (cloneBR.pat i) (cloneBR.pre i) (cloneBR.alts i):=by kernel_rfl
theorem z6y (hG:GOk Tryz.prog ([])) (h:∀(i:List (List D)),cloneBR.cnd i→zXg i):cloneBR.ok Tryz.prog 99:=gK mixed ([]) hG 0 (fun(i:List (List D))=>[]) (fun(i:List (List D))=>[]) [] Tryz.func99 (by kernel_rfl) (by kernel_rfl) (by kernel_rfl) (fun _=>by kernel_rfl) (fun(i:List (List D)) hc=>Eq.mp (z8s i) (h i hc))
def yVi (i:Unit):Prop:=
 ∃(o:Unit),bE []=[]∧True
def yVe (i:List UInt8):Prop:=
 ∃(i_1:List (List D)),i_1=bE i∧i_1.length*(1:Nat)≤(140737488355328:Nat)∧∀(o:Unit),True→∃(o:Unit),bE i=i_1∧bE i=i_1∧True
def yVz (i:List UInt8):Prop:=
 ∃(i_1:List (List D)),i_1=bE i∧i_1.length*(1:Nat)≤(140737488355328:Nat)∧∀(o:Unit),True→∃(o:Unit),bE i=i_1∧au=au∧True
def yUj (i:RN):Prop:=
 cnd i.b (∃(o:Unit),bE i.got=[]∧bE i.left=bE i.l∧i.bad=ar∧True) (cnd (decide ((↑i.n:Int)>(↑(bE i.l).length:Int))) (∃(o:Unit),bE i.got=[]∧bE i.left=bE i.l∧i.bad=decide ((↑i.n:Int)>(↑(bE i.l).length:Int))∧True) ((0≤(↑i.n:Int)∧(↑i.n:Int)≤(↑(bE i.l).length:Int))∧(0≤(↑i.n:Int)∧(↑i.n:Int)≤(↑(bE i.l).length:Int))∧∃(o:Unit),bE i.got=ao (↑i.n:Int).toNat (bE i.l)∧bE i.left=List.drop (↑i.n:Int).toNat (bE i.l)∧i.bad=decide ((↑i.n:Int)>(↑(bE i.l).length:Int))∧True))
def yTz (i:RN):Prop:=
 ∃(a:RN),(↑a.n:Int)=(↑i.n:Int)∧ac (List UInt8×Bool) 1 RdU (a.l,a.b)=Rd i.l i.b∧(a.n≤255∧a.l.length≤1099511627776)∧∀(b:Unit),True→∃(c:Nat),kO (ao c i.got)=0∧(↑c:Int)=0∧∃(d:Nat→Prop),∃(e:Nat→Nat),d c∧∀(f:Nat),d f→cnd (decide ((↑f:Int)<(↑(bE a.got).length:Int))) ((0≤(↑f:Int)∧(↑f:Int)<(↑(bE a.got).length:Int))∧∃(g:Int),zE (bE a.got) (↑f:Int).toNat 0 1=av [D.v (.int .u8 g)]∧0≤aj.wrap (8*(↑f:Int))∧∃(h:Nat),kO (ao h i.got)=iOr ak (kO (ao f i.got)) (zYd ak (ak.wrap g) (aj.wrap (8*(↑f:Int))))∧(↑h:Int)=aj.wrap ((↑f:Int)+1)∧d h∧e h<e f∧ac (List UInt8×Bool) 1 RdU (a.left,a.bad)=ac (List UInt8×Bool) 1 RdU (a.left,a.bad)) (∃(g:Unit),kO i.got=kO (ao f i.got)∧ac (List UInt8×Bool) 1 RdU (i.left,i.bad)=ac (List UInt8×Bool) 1 RdU (a.left,a.bad)∧True)
def ySx (i:RB):Prop:=
 ∃(i_1:RN),(↑i_1.n:Int)=1∧ac (List UInt8×Bool) 1 RdU (i_1.l,i_1.b)=Rd i.l i.b∧(i_1.n≤8∧i_1.l.length≤1099511627776)∧∀(o:Unit),True→∃(o:Unit),kO (i.n 1).got=aj.wrap (kO i_1.got)∧ac (List UInt8×Bool) 1 RdU ((i.n 1).left,(i.n 1).bad)=ac (List UInt8×Bool) 1 RdU (i_1.left,i_1.bad)∧True
def yTe (i:RB):Prop:=
 ∃(i_1:RN),(↑i_1.n:Int)=8∧ac (List UInt8×Bool) 1 RdU (i_1.l,i_1.b)=Rd i.l i.b∧(i_1.n≤8∧i_1.l.length≤1099511627776)∧∀(o:Unit),True→∃(o:Unit),aj.wrap (kO (i.n 8).got)=aj.wrap (kO i_1.got)∧ac (List UInt8×Bool) 1 RdU ((i.n 8).left,(i.n 8).bad)=ac (List UInt8×Bool) 1 RdU (i_1.left,i_1.bad)∧True
def yWq (i:RB):Prop:=
 cnd i.b (∃(o:Unit),(if i.b=ar then(10:Int)else if 0<i.l.length then(15:Int)else(0:Int))=10∧bE i.l=bE i.l∧i.b=i.b∧True) (cnd (decide ((↑(bE i.l).length:Int)>0)) (∃(o:Unit),(if i.b=ar then(10:Int)else if 0<i.l.length then(15:Int)else(0:Int))=15∧bE i.l=bE i.l∧i.b=i.b∧True) (∃(o:Unit),(if i.b=ar then(10:Int)else if 0<i.l.length then(15:Int)else(0:Int))=0∧bE i.l=bE i.l∧i.b=i.b∧True))
end Sx
